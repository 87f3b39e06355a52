/- A part of the proof that FnRolled returns true; no condition. -/
import Derived.Test.YtmkdnjbgmflnfaaGreatDoorQe
import Derived.Test.YtmkdnjbgmflnfaaGreatDoorPa
import Derived.Test.YtmkdnjbgmflnfaaGreatDoorPx
set_option linter.all false
set_option maxRecDepth 100000
open List renaming length→U
open Int renaming ofNat→J,toNat→Jn
open Go.Ev
attribute [local irreducible] GC RJ KC KM cAt cOn runC stp brC bodyC cvC rsC rdC regC loopC endC skpC extC retC evJ RS.at RS.put RS.okS RS.okR RS.all RS.fst endV endVM grpA grpB grpR grpD grpO RunOps RunD bodyF resF argsFrom
noncomputable section
namespace Go.Ev
open Go.Proofs
variable {Bn:Nat} [BOk Bn]
theorem q1bb (c:Nat) (hc:chr c) (X2 X3:Nat→AV) (Y2 Y3:Nat→Blk) (t:Nat) (bx:AV) (b0:Blk):
 sumC 1 false Tryz.f28 (qS Bn 1 c (HQ (jX ⟨19,true,true⟩ 1 c) (idX 2 X2) (idX 3 X3) (jY ⟨19,true,true⟩ 1 c) Y2 Y3 t bx b0))=some (.i .i64 (N 0),CX (jX ⟨20,false,false⟩ 1 c) (idX 2 X2) (idX 3 X3) (jY ⟨20,false,false⟩ 1 c) Y2 Y3 t bx b0):=by
 rcases chr_cases hc with rfl|rfl|rfl|rfl|rfl|rfl|rfl|rfl|rfl<;>kernel_rfl
variable {Bn:Nat} [BOk Bn]
theorem q2aa (c:Nat) (hc:chr c) (X1 X3:Nat→AV) (Y1 Y3:Nat→Blk) (t:Nat) (bx:AV) (b0:Blk):
 sumC 2 false Tryz.f28 (qS Bn 2 c (HQ (idX 1 X1) (jX ⟨19,false,false⟩ 2 c) (idX 3 X3) Y1 (jY ⟨19,false,false⟩ 2 c) Y3 t bx b0))=some (.i .i64 (N 0),CX (idX 1 X1) (jX ⟨20,false,false⟩ 2 c) (idX 3 X3) Y1 (jY ⟨20,false,false⟩ 2 c) Y3 t bx b0):=by
 rcases chr_cases hc with rfl|rfl|rfl|rfl|rfl|rfl|rfl|rfl|rfl<;>kernel_rfl
variable {Bn:Nat} [BOk Bn]
theorem q2ba (c:Nat) (hc:chr c) (X1 X3:Nat→AV) (Y1 Y3:Nat→Blk) (t:Nat) (bx:AV) (b0:Blk):
 sumC 2 false Tryz.f28 (qS Bn 2 c (HQ (idX 1 X1) (jX ⟨19,true,false⟩ 2 c) (idX 3 X3) Y1 (jY ⟨19,true,false⟩ 2 c) Y3 t bx b0))=some (.i .i64 (N 0),CX (idX 1 X1) (jX ⟨20,false,false⟩ 2 c) (idX 3 X3) Y1 (jY ⟨20,false,false⟩ 2 c) Y3 t bx b0):=by
 rcases chr_cases hc with rfl|rfl|rfl|rfl|rfl|rfl|rfl|rfl|rfl<;>kernel_rfl
variable {Bn:Nat} [BOk Bn]
theorem q2bb (c:Nat) (hc:chr c) (X1 X3:Nat→AV) (Y1 Y3:Nat→Blk) (t:Nat) (bx:AV) (b0:Blk):
 sumC 2 false Tryz.f28 (qS Bn 2 c (HQ (idX 1 X1) (jX ⟨19,true,true⟩ 2 c) (idX 3 X3) Y1 (jY ⟨19,true,true⟩ 2 c) Y3 t bx b0))=some (.i .i64 (N 0),CX (idX 1 X1) (jX ⟨20,false,false⟩ 2 c) (idX 3 X3) Y1 (jY ⟨20,false,false⟩ 2 c) Y3 t bx b0):=by
 rcases chr_cases hc with rfl|rfl|rfl|rfl|rfl|rfl|rfl|rfl|rfl<;>kernel_rfl
variable {Bn:Nat} [BOk Bn]
theorem q3aa (c:Nat) (hc:chr c) (X1 X2:Nat→AV) (Y1 Y2:Nat→Blk) (t:Nat) (bx:AV) (b0:Blk):
 sumC 3 false Tryz.f28 (qS Bn 3 c (HQ (idX 1 X1) (idX 2 X2) (jX ⟨19,false,false⟩ 3 c) Y1 Y2 (jY ⟨19,false,false⟩ 3 c) t bx b0))=some (.i .i64 (N 0),CX (idX 1 X1) (idX 2 X2) (jX ⟨20,false,false⟩ 3 c) Y1 Y2 (jY ⟨20,false,false⟩ 3 c) t bx b0):=by
 rcases chr_cases hc with rfl|rfl|rfl|rfl|rfl|rfl|rfl|rfl|rfl<;>kernel_rfl
variable {Bn:Nat} [BOk Bn]
theorem q3ba (c:Nat) (hc:chr c) (X1 X2:Nat→AV) (Y1 Y2:Nat→Blk) (t:Nat) (bx:AV) (b0:Blk):
 sumC 3 false Tryz.f28 (qS Bn 3 c (HQ (idX 1 X1) (idX 2 X2) (jX ⟨19,true,false⟩ 3 c) Y1 Y2 (jY ⟨19,true,false⟩ 3 c) t bx b0))=some (.i .i64 (N 0),CX (idX 1 X1) (idX 2 X2) (jX ⟨20,false,false⟩ 3 c) Y1 Y2 (jY ⟨20,false,false⟩ 3 c) t bx b0):=by
 rcases chr_cases hc with rfl|rfl|rfl|rfl|rfl|rfl|rfl|rfl|rfl<;>kernel_rfl
variable {Bn:Nat} [BOk Bn]
theorem q3bb (c:Nat) (hc:chr c) (X1 X2:Nat→AV) (Y1 Y2:Nat→Blk) (t:Nat) (bx:AV) (b0:Blk):
 sumC 3 false Tryz.f28 (qS Bn 3 c (HQ (idX 1 X1) (idX 2 X2) (jX ⟨19,true,true⟩ 3 c) Y1 Y2 (jY ⟨19,true,true⟩ 3 c) t bx b0))=some (.i .i64 (N 0),CX (idX 1 X1) (idX 2 X2) (jX ⟨20,false,false⟩ 3 c) Y1 Y2 (jY ⟨20,false,false⟩ 3 c) t bx b0):=by
 rcases chr_cases hc with rfl|rfl|rfl|rfl|rfl|rfl|rfl|rfl|rfl<;>kernel_rfl
section
variable {Bn:Nat} [BOk Bn]{c1 c2 c3:Nat}
theorem last1 (hc:chr c1):Q19 Bn c1 c2 c3 1:=fun a ha hp=>by
 have hp:a.j1.p=19:=hp
 have hb:=ha.bs
 have b1:b17 a.j1≤1:=by unfold b17;split<;>omega
 have b2:b17 a.j2≤1:=by unfold b17;split<;>omega
 have b3:b17 a.j3≤1:=by unfold b17;split<;>omega
 refine step_at (b:=false) (k:=1) om (EVq_ok hc) (Hd_HX c1 c2 c3 a) (readyW1 a om om) ?_
 rw[Hd_HQ,Cn_CX]
 have e:(nxW 1 a).bs=a.bs:=by
  show cd (Nat.beq a.j1.p 16) _ _=_
  rw[hp];rfl
 rw[e]
 rcases lay19 ha.ok.j1 hp with h|h|h
 ·have hs:=q1aa (Bn:=Bn) c1 hc (jX a.j2 2 c2) (jX a.j3 3 c3) (jY a.j2 2 c2) (jY a.j3 3 c3) a.t (bsA a.bs) (sBk (t:=zBatch) 121 false a.bs)
  simp only[jX_id] at hs
  have e2:(nxW 1 a).j1=⟨20,false,false⟩:=by show nx a.j1=_;rw[h];exact nx_19aa
  rw[e2,h]
  exact hs
 ·have hs:=q1ba (Bn:=Bn) c1 hc (jX a.j2 2 c2) (jX a.j3 3 c3) (jY a.j2 2 c2) (jY a.j3 3 c3) a.t (bsA a.bs) (sBk (t:=zBatch) 121 false a.bs)
  simp only[jX_id] at hs
  have e2:(nxW 1 a).j1=⟨20,false,false⟩:=by show nx a.j1=_;rw[h];exact nx_19ba
  rw[e2,h]
  exact hs
 ·have hs:=q1bb (Bn:=Bn) c1 hc (jX a.j2 2 c2) (jX a.j3 3 c3) (jY a.j2 2 c2) (jY a.j3 3 c3) a.t (bsA a.bs) (sBk (t:=zBatch) 121 false a.bs)
  simp only[jX_id] at hs
  have e2:(nxW 1 a).j1=⟨20,false,false⟩:=by show nx a.j1=_;rw[h];exact nx_19bb
  rw[e2,h]
  exact hs
theorem last2 (hc:chr c2):Q19 Bn c1 c2 c3 2:=fun a ha hp=>by
 have hp:a.j2.p=19:=hp
 have hb:=ha.bs
 have b1:b17 a.j1≤1:=by unfold b17;split<;>omega
 have b2:b17 a.j2≤1:=by unfold b17;split<;>omega
 have b3:b17 a.j3≤1:=by unfold b17;split<;>omega
 refine step_at (b:=false) (k:=2) om (EVq_ok hc) (Hd_HX c1 c2 c3 a) (readyW2 a om om) ?_
 rw[Hd_HQ,Cn_CX]
 have e:(nxW 2 a).bs=a.bs:=by
  show cd (Nat.beq a.j2.p 16) _ _=_
  rw[hp];rfl
 rw[e]
 rcases lay19 ha.ok.j2 hp with h|h|h
 ·have hs:=q2aa (Bn:=Bn) c2 hc (jX a.j1 1 c1) (jX a.j3 3 c3) (jY a.j1 1 c1) (jY a.j3 3 c3) a.t (bsA a.bs) (sBk (t:=zBatch) 121 false a.bs)
  simp only[jX_id] at hs
  have e2:(nxW 2 a).j2=⟨20,false,false⟩:=by show nx a.j2=_;rw[h];exact nx_19aa
  rw[e2,h]
  exact hs
 ·have hs:=q2ba (Bn:=Bn) c2 hc (jX a.j1 1 c1) (jX a.j3 3 c3) (jY a.j1 1 c1) (jY a.j3 3 c3) a.t (bsA a.bs) (sBk (t:=zBatch) 121 false a.bs)
  simp only[jX_id] at hs
  have e2:(nxW 2 a).j2=⟨20,false,false⟩:=by show nx a.j2=_;rw[h];exact nx_19ba
  rw[e2,h]
  exact hs
 ·have hs:=q2bb (Bn:=Bn) c2 hc (jX a.j1 1 c1) (jX a.j3 3 c3) (jY a.j1 1 c1) (jY a.j3 3 c3) a.t (bsA a.bs) (sBk (t:=zBatch) 121 false a.bs)
  simp only[jX_id] at hs
  have e2:(nxW 2 a).j2=⟨20,false,false⟩:=by show nx a.j2=_;rw[h];exact nx_19bb
  rw[e2,h]
  exact hs
theorem last3 (hc:chr c3):Q19 Bn c1 c2 c3 3:=fun a ha hp=>by
 have hp:a.j3.p=19:=hp
 have hb:=ha.bs
 have b1:b17 a.j1≤1:=by unfold b17;split<;>omega
 have b2:b17 a.j2≤1:=by unfold b17;split<;>omega
 have b3:b17 a.j3≤1:=by unfold b17;split<;>omega
 refine step_at (b:=false) (k:=3) om (EVq_ok hc) (Hd_HX c1 c2 c3 a) (readyW3 a om om) ?_
 rw[Hd_HQ,Cn_CX]
 have e:(nxW 3 a).bs=a.bs:=by
  show cd (Nat.beq a.j3.p 16) _ _=_
  rw[hp];rfl
 rw[e]
 rcases lay19 ha.ok.j3 hp with h|h|h
 ·have hs:=q3aa (Bn:=Bn) c3 hc (jX a.j1 1 c1) (jX a.j2 2 c2) (jY a.j1 1 c1) (jY a.j2 2 c2) a.t (bsA a.bs) (sBk (t:=zBatch) 121 false a.bs)
  simp only[jX_id] at hs
  have e2:(nxW 3 a).j3=⟨20,false,false⟩:=by show nx a.j3=_;rw[h];exact nx_19aa
  rw[e2,h]
  exact hs
 ·have hs:=q3ba (Bn:=Bn) c3 hc (jX a.j1 1 c1) (jX a.j2 2 c2) (jY a.j1 1 c1) (jY a.j2 2 c2) a.t (bsA a.bs) (sBk (t:=zBatch) 121 false a.bs)
  simp only[jX_id] at hs
  have e2:(nxW 3 a).j3=⟨20,false,false⟩:=by show nx a.j3=_;rw[h];exact nx_19ba
  rw[e2,h]
  exact hs
 ·have hs:=q3bb (Bn:=Bn) c3 hc (jX a.j1 1 c1) (jX a.j2 2 c2) (jY a.j1 1 c1) (jY a.j2 2 c2) a.t (bsA a.bs) (sBk (t:=zBatch) 121 false a.bs)
  simp only[jX_id] at hs
  have e2:(nxW 3 a).j3=⟨20,false,false⟩:=by show nx a.j3=_;rw[h];exact nx_19bb
  rw[e2,h]
  exact hs
end
section
variable {Bn:Nat} [BOk Bn]
def EV2 (Bn:Nat):CallF:=evF (tblR Bn [K52,K47,K48,K53] EX) 60
theorem EV2_ok (hK:OK Bn K294):CallOK PP (GG Bn) (EV2 Bn):=evF_sound hmix (tblR_ok (okC (rows_con (rows_run (okC O103 (okC (O104 hK) (okC O106 ok0))) r52)) (okC O47 (okC O48 (okC O53 ok0)))) EX_ok) 60
def HW (r1 r2 r3:jrT) (t:Nat) (bs:List (den zBatch)):H:=hpH 1 [some (.cs 39 (tc zWorld (wJ r1 r2 r3 t bs)) false)]
noncomputable def b25:Code:=Option.getD Tryz.f25.body .skip
abbrev pWo:List Par:=[⟨true,zWorld⟩]
def call54 (Bn:Nat) (r1 r2 r3:jrT) (t:Nat) (bs:List (den zBatch)):CallF:=callOr 54 (callAt 54 (HW r1 r2 r3 t bs) [.isl zBatch bs] (.b true) (HW r1 r2 r3 t bs)) (EV2 Bn)
def call55 (Bn:Nat) (r1 r2 r3:jrT) (t:Nat) (bs:List (den zBatch)):CallF:=callOr 55 (callAt 55 (HW r1 r2 r3 t bs) [.ag (tc zWorld (wJ r1 r2 r3 t bs)),.isl y228 hei_] (.b true) (HW r1 r2 r3 t bs)) (EV2 Bn)
theorem job25 (hK:OK Bn K294) (r1 r2 r3:jrT) (t:Nat) (bs:List (den zBatch)) (h1:JobV Bn 1 r1) (h2:JobV Bn 2 r2) (h3:JobV Bn 3 r3) (ht:t≤999999)
 (hb:KOk PP (GG Bn) 54 pBs pBo (bs,()) (true,())):KOk PP (GG Bn) 25 pWo pBo (wJ r1 r2 r3 t bs,()) (true,()):=by
 have a54:At Bn 54 (HW r1 r2 r3 t bs) [.isl zBatch bs] (.b true) (HW r1 r2 r3 t bs):=At.ofK hb kr rfl kr
 have a55:At Bn 55 (HW r1 r2 r3 t bs) [.ag (tc zWorld (wJ r1 r2 r3 t bs)),.isl y228 hei_] (.b true) (HW r1 r2 r3 t bs):=At.ofK (job55 r1 r2 r3 t bs h1 h2 h3) kr rfl kr
 refine fn_intro (G:=GG Bn) (b:=b25) (res:=resF Tryz.f25) hmix Tryz.func25 kr rfl kr kr kr (BOk.lo (B:=Bn)) fun _=>?_
 refine sR kr ?_
 refine sRun (call:=EV2 Bn) (EV2_ok hK) kr ?_
 refine Sat.seq ?_
 refine Sat.seq ?_
 refine Sat.reg (call:=call54 Bn r1 r2 r3 t bs) hmix (callOr_ok (callAt_ok a54) (EV2_ok hK)) ?_
 refine zv 6 17 (.b (cd (iLe (N 0) (N t)) (iLe (N t) (N 999999)) false)) (.b true) (by rw[iLe_eq,iLe_eq];congr 1;simp[cd];omega) ?_
 refine RunOps.callH (f:=54) (args:=[.isl zBatch bs]) (v:=.b true) (h2:=HW r1 r2 r3 t bs) 23 kr kr kr kr (callOr_at kr) ?_
 refine zf ?_
 refine sCond (b:=false) kr rfl ?_
 refine Sat.skip ?_
 refine Sat.seq (Sat.seq ?_)
 refine Sat.reg (call:=call55 Bn r1 r2 r3 t bs) hmix (callOr_ok (callAt_ok a55) (EV2_ok hK)) ?_
 refine RunOps.callH (f:=55) (args:=[.ag (tc zWorld (wJ r1 r2 r3 t bs)),.isl y228 hei_]) (v:=.b true) (h2:=HW r1 r2 r3 t bs) 2 kr kr kr kr (callOr_at kr) ?_
 refine zf ?_
 refine sCond (b:=false) kr rfl ?_
 refine Sat.skip ?_
 refine Sat.ev (call:=EV2 Bn) hmix (EV2_ok hK) (isRet_eq kr) ?_
 exact ze (res:=resF Tryz.f25) (rs:=pBo) (y:=(true,())) (y':=(true,())) rfl kr
theorem world25 (hK:OK Bn K294) (p1 p2 p3 c1 c2 c3 t:Nat) (bs:List (den zBatch)) (h1:p1≤20) (h2:p2≤20) (h3:p3≤20) (ht:t≤999999) (hb:K54.F (bs,())=some (true,())):
 KOk PP (GG Bn) 25 pWo pBo (wT p1 p2 p3 c1 c2 c3 t bs,()) (true,()):=by
 rw[wT_wJ]
 exact job25 hK _ _ _ t bs (jobV hK om p1 c1 h1) (jobV hK om p2 c2 h2) (jobV hK om p3 c3 h3) ht ((O54 (Bn:=Bn)).2 _ _ hb)
end
def layC (p:Nat):JS:=⟨p,isCn (stkOf (vJ p 1 49)),isCn (refOf (vJ p 1 49))⟩
theorem layC_in {p:Nat} (hp:p≤20):layC p∈lays:=by
 have key:∀q:JS,(layC p).f1=q.f1→(layC p).f2=q.f2→p=q.p→q∈lays→layC p∈lays:=fun q h1 h2 h3 h4=>by
  have:layC p=q:=by
   cases q with
   |mk a b c=>simp only at h1 h2 h3;subst h3;unfold layC at h1 h2⊢;simp only at h1 h2;rw[h1,h2]
  rw[this];exact h4
 match p,hp,key with
 |0,_,key|1,_,key|2,_,key|3,_,key|10,_,key|11,_,key|12,_,key|13,_,key|18,_,key|19,_,key|20,_,key=>exact key ⟨_,false,false⟩ kr kr rfl (by simp[lays])
 |4,_,key|6,_,key|14,_,key|16,_,key=>exact key ⟨_,false,true⟩ kr kr rfl (by simp[lays])
 |5,_,key|9,_,key|15,_,key|17,_,key=>exact key ⟨_,true,false⟩ kr kr rfl (by simp[lays])
 |7,_,key|8,_,key=>exact key ⟨_,true,true⟩ kr kr rfl (by simp[lays])
 |n+21,h,_=>exact absurd h om
theorem jobL_lay {p:Nat} (hp:p≤20) (k c:Nat):jobL p false false k c=jobL p (layC p).f1 (layC p).f2 k c:=by
 match p,hp with
 |0,_|1,_|2,_|3,_|4,_|5,_|6,_|7,_|8,_|9,_|10,_|11,_|12,_|13,_|14,_|15,_|16,_|17,_|18,_|19,_|20,_=>
  show _=_
  kernel_rfl
 |n+21,h=>exact absurd h om
theorem jX_lay {p:Nat} (hp:p≤20) (k c:Nat):jX ⟨p,false,false⟩ k c=jX (layC p) k c:=by
 funext i
 show nthD .em (jobL p false false k c) i=nthD .em (jobL p (layC p).f1 (layC p).f2 k c) i
 rw[jobL_lay hp]
theorem jB_lay {p:Nat} (hp:p≤20) (k c:Nat):jB ⟨p,false,false⟩ k c=jB (layC p) k c:=by
 match p,hp with
 |0,_|1,_|2,_|3,_|4,_|5,_|6,_|7,_|8,_|9,_|10,_|11,_|12,_|13,_|14,_|15,_|16,_|17,_|18,_|19,_|20,_=>
  show _=_
  kernel_rfl
 |n+21,h=>exact absurd h om
def aL (P:Nat→Nat) (t:Nat) (bs:List (den zBatch)):WS:=⟨layC (P 1),layC (P 2),layC (P 3),t,bs⟩
theorem Cn_lay {P:Nat→Nat} (hP:∀k,P k≤20) (c1 c2 c3 t:Nat) (bs:List (den zBatch)):Cn c1 c2 c3 (aW P t bs)=Cn c1 c2 c3 (aL P t bs):=by
 unfold Cn C12 jsL
 show cat pre_ (_::some (.cs 87 (cat (cells52 (jX ⟨P 1,false,false⟩ 1 c1)) (cat (cells52 (jX ⟨P 2,false,false⟩ 2 c2)) (cells52 (jX ⟨P 3,false,false⟩ 3 c3)))) false)::_::cat (jB ⟨P 1,false,false⟩ 1 c1) (cat (jB ⟨P 2,false,false⟩ 2 c2) (jB ⟨P 3,false,false⟩ 3 c3)))=_
 rw[jX_lay (hP 1),jX_lay (hP 2),jX_lay (hP 3),jB_lay (hP 1),jB_lay (hP 2),jB_lay (hP 3)]
 rfl
def Cc (c1 c2 c3:Nat) (k:Nat):Nat:=cd (Nat.beq k 1) c1 (cd (Nat.beq k 2) c2 c3)
def Pa (a:WS) (k:Nat):Nat:=(gJ k a).p
section
variable {Bn:Nat} [BOk Bn]{c1 c2 c3:Nat}
theorem Pa_le {a:WS} (ha:okWS a) (k:Nat):Pa a k≤20:=by
 unfold Pa gJ
 cases Nat.beq k 1 with
 |true=>exact lays_le _ ha.j1
 |false=>cases Nat.beq k 2 with
  |true=>exact lays_le _ ha.j2
  |false=>exact lays_le _ ha.j3
theorem Cc_chr (h1:chr c1) (h2:chr c2) (h3:chr c3) (k:Nat):chr (Cc c1 c2 c3 k):=by
 unfold Cc
 cases Nat.beq k 1 with
 |true=>exact h1
 |false=>cases Nat.beq k 2 with
  |true=>exact h2
  |false=>exact h3
def HB (b0:Blk):H:=hpH 2 [some b0,some (.cs 39 zW_ false)]
theorem copyAt (h1:chr c1) (h2:chr c2) (h3:chr c3) (b0:Blk){P:Nat→Nat} (hP:∀k,P k≤20) (t:Nat){bs:List (den zBatch)} (hb:bs∈bsl):
 At Bn 26 (HB b0) [.ag (tc zWorld (wT (P 1) (P 2) (P 3) c1 c2 c3 t bs))] (.p (path 40) 0) (H52 c1 c2 c3 (aL P t bs)):=by
 have key:=at26b (Bn:=Bn) (P:=P) (C:=Cc c1 c2 c3) hP (fun k _ _=>Cc_chr h1 h2 h3 k) t hb
 have e:Cn (Cc c1 c2 c3 1) (Cc c1 c2 c3 2) (Cc c1 c2 c3 3) (aW P t bs)=Cn c1 c2 c3 (aL P t bs):=Cn_lay hP c1 c2 c3 t bs
 rw[e] at key
 exact At.kill (p:=path 0) (b:=b0) kr key
theorem worldAt (b0:Blk){p1 p2 p3 t:Nat} (h1:p1≤20) (h2:p2≤20) (h3:p3≤20) (ht:t≤999999){bs:List (den zBatch)} (hb:bs∈bsl):
 At Bn 25 (HB b0) [.ag (tc zWorld (wT p1 p2 p3 c1 c2 c3 t bs))] (.b true) (HB b0):=
 At.ofK (world25 O294 p1 p2 p3 c1 c2 c3 t bs h1 h2 h3 ht (bsl_K54 hb)) kr rfl kr
theorem invL {P:Nat→Nat} (hP:∀k,P k≤20) (t:Nat) (bs:List (den zBatch)) (hb:bs.length=(if 17≤P 1 then 1 else 0)+(if 17≤P 2 then 1 else 0)+(if 17≤P 3 then 1 else 0)):InvW (aL P t bs):=
 ⟨⟨layC_in (hP 1),layC_in (hP 2),layC_in (hP 3)⟩,hb⟩
def LtP (n:Nat):List (List Bool×AV):=[(path 4,.p (path 1) 0),(path 7,.p (path 0) 0),(path 8,.i .i64 (N n))]
def LuP (n:Nat):List (List Bool×AV):=[(path 4,.p (path 1) 0),(path 5,.i .i64 (N n)),(path 6,.i .i64 (N 0))]
abbrev pPj:List Par:=[⟨true,zWorld⟩,⟨false,.sl (.int .i64)⟩]
abbrev oPj:List Par:=[⟨true,zWorld⟩,⟨false,.int .i64⟩,⟨false,.int .i64⟩]
def P0 (_:Nat):Nat:=0
theorem kok10 (hc1:chr c1) (hc2:chr c2) (hc3:chr c3) (ord:List Int) (hord:∀x∈ord,x=N 0∨x=N 1∨x=N 2∨x=N 3) (hlen:ord.length≤200):
 KOk PP (GG Bn) 10 pPj oPj (wT 0 0 0 c1 c2 c3 0 [],ord,()) (wA c1 c2 c3 (play ord (aL P0 0 []) ord.length).1,N (play ord (aL P0 0 []) ord.length).2,N 0,()):=by
 have hP0:∀k,P0 k≤20:=fun k=>Nz _
 have hb0:([]:List (den zBatch))∈bsl:=by simp[bsl,bss_]
 have inv0:InvW (aL P0 0 []):=invL hP0 0 [] rfl
 have invB0:InvB (aL P0 0 []):=⟨[],rfl,by simp,by simp⟩
 refine fn_intro (G:=GG Bn) (b:=b10) (res:=resF Tryz.f10) hmix Tryz.func10 kr rfl kr kr kr (BOk.lo (B:=Bn)) fun _=>?_
 refine Sat.ofN (n:=0) (Nr 0) ?_
 refine SatE.seq (SatE.of (sV kr ?_))
 refine SatE.seq (SatE.seq ?_)
 refine SatE.of (Sat.reg (call:=callOr 25 (callAt 25 (HB (.cs 39 (tc zWorld (wT 0 0 0 c1 c2 c3 0 [])) false)) [.ag (tc zWorld (wT 0 0 0 c1 c2 c3 0 []))] (.b true) (HB (.cs 39 (tc zWorld (wT 0 0 0 c1 c2 c3 0 [])) false))) (EV Bn 60)) hmix (callOr_ok (callAt_ok (worldAt _ (Nz _) (Nz _) (Nz _) (Nz _) hb0)) (EV_ok 60)) ?_)
 refine RunOps.callH (f:=25) (args:=[.ag (tc zWorld (wT 0 0 0 c1 c2 c3 0 []))]) (v:=.b true) (h2:=HB (.cs 39 (tc zWorld (wT 0 0 0 c1 c2 c3 0 [])) false)) 1 kr kr kr kr (callOr_at kr) ?_
 refine zf ?_
 refine eCond (b:= !iLe (N ord.length) (N 200)) kr (by rw[iLe_eq];simp;omega) ?_
 refine SatE.of (Sat.skip ?_)
 refine SatE.seq ?_
 refine SatE.of (atRegG 1 (copyAt (Bn:=Bn) hc1 hc2 hc3 (.cs 39 (tc zWorld (wT 0 0 0 c1 c2 c3 0 [])) false) hP0 0 hb0) kr kr kr ?_)
 refine SatE.seq ?_
 refine eRun (call:=EV Bn 60) (EV_ok 60) kr ?_
 refine SatE.toC hB1 (Lp ord 0 0) (Cd c1 c2 c3 (aL P0 0 [])) (endP (endW_eq (h:=H52 c1 c2 c3 (aL P0 0 [])) kr (end_self52 _)) ⟨kr,kr,kr,kr,kr,kr,trivial⟩) ?_
 refine SatE_eq (nt':=48) (c':=.block 0 loop10) (fr':=mkFr (Lp ord 0 0)) (h':=Hd c1 c2 c3 (aL P0 0 [])) kr kr rfl kr ?_
 refine SatE.block (loopP OLc (last1 hc1) (last2 hc2) (last3 hc3) hc1 hc2 hc3 ord hord hlen (aL P0 0 []) inv0 rfl _ fun a n fr hpl hinv ht hn hh=>?_)
 have hbs:a.bs∈bsl:=by have:=(InvB.ofPlay (ord:=ord) invB0 ord.length).bs;rw[hpl] at this;exact this
 rw[hpl]
 show SatE 0 PP (GG Bn) 48 (sndC in10) fr (Hd c1 c2 c3 a) _
 obtain⟨g1,g2,g3,_⟩:=hh
 refine SatE.toC hB1 (LtP n) _ (typedA (c1:=c1) (c2:=c2) (c3:=c3) hinv.ok hbs kr ⟨g1.trans kr,g2.trans kr,g3.trans kr,trivial⟩ ⟨?_,?_,trivial,trivial⟩) ?_
 ·show unpath (path 1)<2
  rw[unpath_path];omega
 ·show unpath (path 0)<2
  rw[unpath_path];omega
 refine SatE_eq (nt':=48) (c':=sndC in10) (fr':=mkFr (LtP n)) (h':=HB (.cs 39 (tc zWorld (wA c1 c2 c3 a)) false)) rfl rfl rfl rfl ?_
 refine SatE.seq ?_
 refine SatE.of (atRegG 3 (copyAt (Bn:=Bn) hc1 hc2 hc3 (.cs 39 (tc zWorld (wA c1 c2 c3 a)) false) (Pa_le hinv.ok) a.t hbs) kr kr kr ?_)
 refine SatE.toC hB1 (LuP n) _ (typedB (a:=aL (Pa a) a.t a.bs) (c1:=c1) (c2:=c2) (c3:=c3) ⟨layC_in (Pa_le hinv.ok 1),layC_in (Pa_le hinv.ok 2),layC_in (Pa_le hinv.ok 3)⟩ hbs kr ⟨kr,kr,kr,trivial⟩ ⟨?_,trivial,trivial,trivial⟩) ?_
 ·show unpath (path 1)<2
  rw[unpath_path];omega
 refine SatE.of (Sat.ret ?_)
 exact ze (res:=resF Tryz.f10) (rs:=oPj) (y:=(wA c1 c2 c3 a,N n,N 0,())) (y':=(wA c1 c2 c3 a,N n,N 0,())) rfl kr
end
def cpW (a:WS):WS:=aL (Pa a) a.t a.bs
theorem cpW_inv {a:WS} (h:InvW a):InvW (cpW a):=⟨⟨layC_in (Pa_le h.ok 1),layC_in (Pa_le h.ok 2),layC_in (Pa_le h.ok 3)⟩,h.bs⟩
theorem cpW_B {a:WS} (h:InvB a):InvB (cpW a):=h
theorem rnds_io {a0:WS} (h0:InvW a0):∀r,InvW (rnds a0 r)∧(rnds a0 r).t=a0.t+r∧pr r≤(rnds a0 r).j1.p∧pr r≤(rnds a0 r).j2.p∧pr r≤(rnds a0 r).j3.p
 |0=>⟨h0,rfl,by simp[pr],by simp[pr],by simp[pr]⟩
 |r+1=>by
  obtain⟨h1,h2,h3,h4,h5⟩:=rnds_io h0 r
  refine⟨h1.st1.st2.st3.tk,?_,?_,?_,?_⟩
  ·show(stW 3 (stW 2 (stW 1 (rnds a0 r)))).t+1=_
   rw[stW_t,stW_t,stW_t,h2];omega
  ·show pr (r+1)≤(stW 3 (stW 2 (stW 1 (rnds a0 r)))).j1.p
   rw[stW_o31,stW_o21]
   exact pr_le h3 (stW_p1 h1)
  ·show pr (r+1)≤(stW 3 (stW 2 (stW 1 (rnds a0 r)))).j2.p
   rw[stW_o32]
   have:=pr_le (by rw[←stW_o12] at h4;exact h4) (stW_p2 h1.st1)
   exact this
  ·show pr (r+1)≤(stW 3 (stW 2 (stW 1 (rnds a0 r)))).j3.p
   have:=pr_le (by rw[←stW_o13,←stW_o23] at h5;exact h5) (stW_p3 h1.st1.st2)
   exact this
theorem rnds_end {a0:WS} (h0:InvW a0):(rnds a0 200).j1.p=20∧(rnds a0 200).j2.p=20∧(rnds a0 200).j3.p=20:=by
 obtain⟨h1,_,h3,h4,h5⟩:=rnds_io h0 200
 have e:pr 200=20:=by decide
 rw[e] at h3 h4 h5
 have:=lays_le _ h1.ok.j1
 have:=lays_le _ h1.ok.j2
 have:=lays_le _ h1.ok.j3
 omega
def LtR:List (List Bool×AV):=[(path 4,.p (path 1) 0),(path 6,.p (path 0) 0)]
def LuR:List (List Bool×AV):=[(path 4,.p (path 1) 0),(path 5,.i .i64 (N 0))]
abbrev pRa:List Par:=[⟨true,zWorld⟩,⟨false,.int .i64⟩]
abbrev oRa:List Par:=[⟨true,zWorld⟩,⟨false,.int .i64⟩]
section
variable {Bn:Nat} [BOk Bn]{c1 c2 c3:Nat}
theorem kok12 (hc1:chr c1) (hc2:chr c2) (hc3:chr c3) (a:WS) (hi:InvW a) (hB:InvB a) (ht:a.t≤200):
 KOk PP (GG Bn) 12 pRa oRa (wA c1 c2 c3 a,N 200,()) (wA c1 c2 c3 (rnds (cpW a) 200),N 0,()):=by
 have hP:=Pa_le hi.ok
 have hb:=hB.bs
 have i0:InvW (cpW a):=cpW_inv hi
 refine fn_intro (G:=GG Bn) (b:=b12) (res:=resF Tryz.f12) hmix Tryz.func12 kr rfl kr kr kr (BOk.lo (B:=Bn)) fun _=>?_
 refine Sat.ofN (n:=0) (Nr 0) ?_
 refine SatE.seq (SatE.of (sV kr ?_))
 refine SatE.seq (SatE.seq ?_)
 refine SatE.of (Sat.reg (call:=callOr 25 (callAt 25 (HB (.cs 39 (tc zWorld (wA c1 c2 c3 a)) false)) [.ag (tc zWorld (wA c1 c2 c3 a))] (.b true) (HB (.cs 39 (tc zWorld (wA c1 c2 c3 a)) false))) (EV Bn 60)) hmix (callOr_ok (callAt_ok (worldAt (p1:=Pa a 1) (p2:=Pa a 2) (p3:=Pa a 3) _ (hP 1) (hP 2) (hP 3) om hb)) (EV_ok 60)) ?_)
 refine RunOps.callH (f:=25) (args:=[.ag (tc zWorld (wA c1 c2 c3 a))]) (v:=.b true) (h2:=HB (.cs 39 (tc zWorld (wA c1 c2 c3 a)) false)) 1 kr kr kr kr (callOr_at kr) ?_
 refine zf ?_
 refine eCond (b:=false) kr rfl ?_
 refine SatE.of (Sat.skip ?_)
 refine SatE.seq ?_
 refine SatE.of (atRegG 1 (copyAt (Bn:=Bn) hc1 hc2 hc3 (.cs 39 (tc zWorld (wA c1 c2 c3 a)) false) hP a.t hb) kr kr kr ?_)
 refine SatE.seq ?_
 refine eRun (call:=EV Bn 60) (EV_ok 60) kr ?_
 refine SatE.toC hB1 (Lo 0) (Cn c1 c2 c3 (cpW a)) (endO (endW_eq (h:=H52 c1 c2 c3 (cpW a)) kr (end_self52 _)) ⟨kr,kr,kr,kr,trivial⟩) ?_
 refine SatE_eq (nt':=46) (c':=.block 0 loop12) (fr':=mkFr (Lo 0)) (h':=H52 c1 c2 c3 (cpW a)) kr kr rfl kr ?_
 refine SatE.block (outerLoop OLc (last1 hc1) (last2 hc2) (last3 hc3) hc1 hc2 hc3 (cpW a) i0 ht _ fun a' fr ha' hinv hp1 hp2 hp3 ht' hh=>?_)
 have hbs:a'.bs∈bsl:=by rw[ha'];exact(InvB.ofRnds (cpW_B hB) 200).bs
 rw[←ha']
 show SatE 0 PP (GG Bn) 46 (sndC in12) fr (H52 c1 c2 c3 a') _
 obtain⟨g1,g2,_⟩:=hh
 refine SatE.toC hB1 LtR _ (typedA (c1:=c1) (c2:=c2) (c3:=c3) hinv.ok hbs kr ⟨g1.trans kr,g2.trans kr,trivial⟩ ⟨?_,?_,trivial⟩) ?_
 ·show unpath (path 1)<2
  rw[unpath_path];omega
 ·show unpath (path 0)<2
  rw[unpath_path];omega
 refine SatE_eq (nt':=46) (c':=sndC in12) (fr':=mkFr LtR) (h':=HB (.cs 39 (tc zWorld (wA c1 c2 c3 a')) false)) rfl rfl rfl rfl ?_
 refine SatE.seq ?_
 refine SatE.of (atRegG 3 (copyAt (Bn:=Bn) hc1 hc2 hc3 (.cs 39 (tc zWorld (wA c1 c2 c3 a')) false) (Pa_le hinv.ok) a'.t hbs) kr kr kr ?_)
 refine SatE.toC hB1 LuR _ (typedB (a:=cpW a') (c1:=c1) (c2:=c2) (c3:=c3) (cpW_inv hinv).ok hbs kr ⟨kr,kr,trivial⟩ ⟨?_,trivial,trivial⟩) ?_
 ·show unpath (path 1)<2
  rw[unpath_path];omega
 refine SatE.of (Sat.ret ?_)
 exact ze (res:=resF Tryz.f12) (rs:=oRa) (y:=(wA c1 c2 c3 a',N 0,())) (y':=(wA c1 c2 c3 a',N 0,())) rfl kr
end
section
variable {Bn:Nat} [BOk Bn]
abbrev pNw:List Par:=[⟨true,zProgram⟩,⟨false,.sl zTrigger⟩,⟨true,.sl zNode⟩]
abbrev oNw:List Par:=[⟨true,zWorld⟩,⟨false,.int .i64⟩]
def K46:Con:=tabC 46 [⟨true,y42⟩] [⟨false,.bool⟩] [((prg_,()),(true,()))]
theorem O46:OK Bn K46:=OLc _ (List.mem_singleton.2 rfl)
theorem r21:runAll Bn [K46,K47,K48,K58] EX 60 21 pNw oNw [((prg_,[],tr_,()),(wX 0 [] [],N 0,()))]=true:=kr
theorem O21:KOk PP (GG Bn) 21 pNw oNw (prg_,[],tr_,()) (wX 0 [] [],N 0,()):=
 rows_run (okC O46 (okC O47 (okC O48 (okC (rows_con (rows_run ok0 r58)) ok0)))) r21 _ (List.mem_singleton.2 rfl)
def t113:List (denL pVJ×denL pBo):=[49,50,51,52,53,54,55,56,57].flatMap fun c=>[((prg_,hei_,vJ 0 1 c,()),(true,())),((prg_,hei_,vJ 0 2 c,()),(true,()))]
def K113:Con:=tabC 113 pVJ pBo t113
theorem O113:OK Bn K113:=rows_con fun q hq=>by
 obtain⟨c,hc,hq⟩:=List.mem_flatMap.1 hq
 simp only[List.mem_cons,List.not_mem_nil,or_false] at hq
 rcases hq with rfl|rfl
 ·exact vjob1 O294 0 c om
 ·exact vjob2 O294 0 c om
def Lwk:List Con:=[K52,K47,K48,K53,K54,K113]
theorem OLwk:Okl Bn Lwk:=okC (rows_con (rows_run (okC O103 (okC (O104 O294) (okC O106 ok0))) r52)) (okC O47 (okC O48 (okC O53 (okC O54 (okC O113 ok0)))))
theorem w25_0:runAll Bn Lwk EX 60 25 pWo pBo [((wX 0 [] [],()),(true,()))]=true:=kr
theorem w25_1 (c:Nat) (h:chr c):runAll Bn Lwk EX 60 25 pWo pBo [((wX 0 [vJ 0 1 c] [],()),(true,()))]=true:=by
 rcases chr_cases h with rfl|rfl|rfl|rfl|rfl|rfl|rfl|rfl|rfl<;>kernel_rfl
theorem w25_2 (c d:Nat) (h:chr c) (h':chr d):runAll Bn Lwk EX 60 25 pWo pBo [((wX 0 [vJ 0 1 c,vJ 0 2 d] [],()),(true,()))]=true:=by
 rcases chr_cases h with rfl|rfl|rfl|rfl|rfl|rfl|rfl|rfl|rfl<;>rcases chr_cases h' with rfl|rfl|rfl|rfl|rfl|rfl|rfl|rfl|rfl<;>kernel_rfl
theorem wok_at {w:den zWorld} (h:runAll Bn Lwk EX 60 25 pWo pBo [((w,()),(true,()))]=true) (hh:H):At Bn 25 hh [.ag (tc zWorld w)] (.b true) hh:=
 At.ofK (rows_run OLwk h _ (List.mem_singleton.2 rfl)) kr rfl kr
end
noncomputable def b24:Code:=Option.getD Tryz.f24.body .skip
abbrev pAj:List Par:=[⟨true,zWorld⟩,⟨false,.str⟩,⟨false,.str⟩,⟨false,.sl .str⟩,⟨false,.sl .str⟩]
abbrev oAj:List Par:=[⟨true,zWorld⟩,⟨false,.int .i64⟩,⟨false,.int .i64⟩]
def xAj (w:den zWorld) (c:Nat):denL pAj:=(w,[74,79,66],[82,79,76,76],[[49],[c]],[],())
def r24:Code:=sndC (sndC (sndC b24))
section
variable {Bn:Nat} [BOk Bn]
theorem add_head {w:den zWorld}{c:Nat}{y:denL oAj}{hc:List (Option Blk)} (hw:At Bn 25 (HB (.cs 39 (tc zWorld w) false)) [.ag (tc zWorld w)] (.b true) (HB (.cs 39 (tc zWorld w) false)))
 (hcp:At Bn 26 HW2 [.ag (tc zWorld w)] (.p (path 40) 0) (hpH 52 hc))
 (hr:∀fr,Holds fr [(path 10,.p (path 1) 0),(path 13,.p (path 40) 0),(path 1,.s 3 [74,79,66]),(path 2,.s 4 [82,79,76,76]),(path 3,.isl .str [[49],[c]]),(path 4,.isl .str [])]→
  S Bn 44 r24 fr (hpH 52 hc) (fun ex fr' h'=>(ex=.normal∨ex=.ret)∧∃us,resOf (resF Tryz.f24) fr' h'=some us∧decL h' oAj us=some y)):
 KOk PP (GG Bn) 24 pAj oAj (xAj w c) y:=by
 refine fn_intro (G:=GG Bn) (b:=b24) (res:=resF Tryz.f24) hmix Tryz.func24 kr rfl kr kr kr (BOk.lo (B:=Bn)) fun _=>?_
 refine sR kr ?_
 refine Sat.seq (Sat.seq ?_)
 refine Sat.reg (call:=callOr 25 (callAt 25 (HB (.cs 39 (tc zWorld w) false)) [.ag (tc zWorld w)] (.b true) (HB (.cs 39 (tc zWorld w) false))) (EV Bn 60)) hmix (callOr_ok (callAt_ok hw) (EV_ok 60)) ?_
 refine RunOps.callH (f:=25) (args:=[.ag (tc zWorld w)]) (v:=.b true) (h2:=HB (.cs 39 (tc zWorld w) false)) 1 kr kr kr kr (callOr_at kr) ?_
 refine zf ?_
 refine sCond (b:=false) kr rfl ?_
 refine Sat.skip ?_
 refine Sat.seq ?_
 have hk:At Bn 26 (HB (.cs 39 (tc zWorld w) false)) [.ag (tc zWorld w)] (.p (path 40) 0) (hpH 52 hc):=At.kill (p:=path 0) (b:=.cs 39 (tc zWorld w) false) kr hcp
 refine atRegG 1 hk kr kr kr ?_
 refine S_eq (n':=44) (c':=r24) (h':=hpH 52 hc) kr kr kr (hr _ ⟨kr,kr,kr,kr,kr,kr,trivial⟩)
def Laj (c:Nat):List (List Bool×AV):=[(path 10,.p (path 1) 0),(path 13,.p (path 40) 0),(path 1,.s 3 [74,79,66]),(path 2,.s 4 [82,79,76,76]),(path 3,.isl .str [[49],[c]]),(path 4,.isl .str [])]
def EVa (Bn:Nat):CallF:=evF (tblR Bn [K46,K294] EX) 60
theorem EVa_ok:CallOK PP (GG Bn) (EVa Bn):=evF_sound hmix (tblR_ok (okC O46 (okC O294 ok0)) EX_ok) 60
def zAj (Bn c:Nat) (hc:List (Option Blk)):CR:=cZ Bn (EVa Bn) 44 r24 (mkFr (Laj c)) (hpH 52 hc)
noncomputable def sumAj (z:CR):Bool×Option (denL oAj):=(isRet z,endV (resF Tryz.f24) oAj (frZ z) (hZ z))
theorem aj0 (c1 c2 c3:Nat) (h:chr c1):sumAj (zAj Bn c1 (cW P0 (Cc c1 c2 c3) 0 0))=(true,some (wM P0 (Cc c1 c2 c3) 0 1 [],N 1,N 0,())):=by
 rcases chr_cases h with rfl|rfl|rfl|rfl|rfl|rfl|rfl|rfl|rfl<;>kernel_rfl
theorem aj1 (c1 c2 c3:Nat) (h:chr c2):sumAj (zAj Bn c2 (cW P0 (Cc c1 c2 c3) 0 1))=(true,some (wM P0 (Cc c1 c2 c3) 0 2 [],N 2,N 0,())):=by
 rcases chr_cases h with rfl|rfl|rfl|rfl|rfl|rfl|rfl|rfl|rfl<;>kernel_rfl
theorem aj2 (c1 c2 c3:Nat) (h:chr c3):sumAj (zAj Bn c3 (cW P0 (Cc c1 c2 c3) 0 2))=(true,some (wM P0 (Cc c1 c2 c3) 0 3 [],N 3,N 0,())):=by
 rcases chr_cases h with rfl|rfl|rfl|rfl|rfl|rfl|rfl|rfl|rfl<;>kernel_rfl
theorem add_tail {c:Nat}{hc:List (Option Blk)}{y:denL oAj} (h:sumAj (zAj Bn c hc)=(true,some y)) (fr:T AV) (hf:Holds fr (Laj c)):
 S Bn 44 r24 fr (hpH 52 hc) (fun ex fr' h'=>(ex=.normal∨ex=.ret)∧∃us,resOf (resF Tryz.f24) fr' h'=some us∧decL h' oAj us=some y):=by
 injection h with h1 h2
 refine Sat.keepL (Laj c) hf (Sat.ev (call:=EVa Bn) hmix EVa_ok (isRet_eq h1) ?_)
 exact ze (res:=resF Tryz.f24) (rs:=oAj) (y:=y) (y':=y) rfl h2
variable {c1 c2 c3:Nat}
theorem kaj0 (h1:chr c1):KOk PP (GG Bn) 24 pAj oAj (xAj (wM P0 (Cc c1 c2 c3) 0 0 []) c1) (wM P0 (Cc c1 c2 c3) 0 1 [],N 1,N 0,()):=
 add_head (wok_at w25_0 _) (at26e om (fun _=>Nz _) (fun k _ _=>by omega) 0) (add_tail (aj0 c1 c2 c3 h1))
theorem kaj1 (h1:chr c1) (h2:chr c2):KOk PP (GG Bn) 24 pAj oAj (xAj (wM P0 (Cc c1 c2 c3) 0 1 []) c2) (wM P0 (Cc c1 c2 c3) 0 2 [],N 2,N 0,()):=
 add_head (wok_at (w25_1 c1 h1) _) (at26e om (fun _=>Nz _) (fun k k1 k2=>by
  have e:k=1:=om
  subst e
  exact h1) 0) (add_tail (aj1 c1 c2 c3 h2))
theorem kaj2 (h1:chr c1) (h2:chr c2) (h3:chr c3):KOk PP (GG Bn) 24 pAj oAj (xAj (wM P0 (Cc c1 c2 c3) 0 2 []) c3) (wM P0 (Cc c1 c2 c3) 0 3 [],N 3,N 0,()):=
 add_head (wok_at (w25_2 c1 c2 h1 h2) _) (at26e om (fun _=>Nz _) (fun k k1 k2=>Cc_chr h1 h2 h3 k) 0) (add_tail (aj2 c1 c2 c3 h3))
end
section
variable {Bn:Nat} [BOk Bn]
theorem At.freeze {f:Nat}{ps rs:List Par}{x:denL ps}{y:denL rs}{h:H}{args:List AV}{v:AV}{p:Id}{b:Blk} (hb:h.get p=some b) (hbd:b≠.dead)
 (hk:KOk PP (GG Bn) f ps rs x y) (hd:decL (H0.put p b) ps args=some x) (hv:encR rs y=v) (hw:wfR rs=true):At Bn f h args v (h.put p .dead):=fun e vs he hs hg hrel=>by
 subst he
 have hks:=kill_st hs hb
 have hkx:=kill_ext (e:=e) p
 have hown0:∀(F:Fix) b,¬Own ⟨fun _=>(0,1),H0,e.w,F⟩ b:=fun F b ⟨id,⟨_,hb,_⟩,_⟩=>by rw[H0_get] at hb;cases hb
 have hlive:∀id c,(H0.put p b).get id=some c→id=p∧c=b:=fun id c hc=>by
  rw[H.get_put] at hc
  by_cases h:id=p
  ·rw[if_pos h] at hc;exact⟨h,(Oi hc).symm⟩
  ·rw[if_neg h,H0_get] at hc;cases hc
 have hown':∀c,Own ⟨e.ρ,e.h.put p .dead,e.w,e.F⟩ c→Own e c∧c≠(e.ρ p).1:=fun c ⟨j,⟨d,hd,hnd⟩,hj⟩=>by
  have hd:(e.h.put p .dead).get j=some d:=hd
  rw[H.get_put] at hd
  by_cases h:j=p
  ·rw[if_pos h] at hd;exact absurd (Oi hd).symm hnd
  ·rw[if_neg h] at hd
   refine⟨⟨j,⟨d,hd,hnd⟩,hj⟩,fun hc=>h ?_⟩
   exact hs.inj j p ⟨d,hd,hnd⟩ ⟨b,hb,hbd⟩ ((show(e.ρ j).1=c from hj).trans hc)
 let e':Env:=⟨e.ρ,e.h.put p .dead,e.w,e.F⟩
 refine Does.mono (call_core (e:=e') hks (hg.ext hkx) hk (fun b=>e.F.f b∨Own e' b) (fun b hb=>Or.elim hb (fun h=>(hs.fr b h).1) (fun⟨id,hl,he⟩=>he▸hks.lt hl)) (fun b hb h=>Or.elim h hb.2.1 hb.2.2) ?_ ?_) ?_
 ·refine decL_rel (e2:=⟨fun _=>(0,1),H0,e.w,⟨fun b=>e.F.f b∨Own e' b,0,e.F.B⟩⟩) hs rfl ⟨fun b (hb:Imm e b)=>⟨hb.1,fun h=>Or.elim h hb.2.1 (fun h=>hb.2.2 (hown' b h).1),hown0 _ b⟩,Nr _⟩ (fun id c hc=>?_) (fun id ⟨c,hc,hnd⟩=>?_) (Nt (BOk.lo (B:=Bn)) (by rw[hg.1];exact Nr _)) _ _ _ _ hd hrel
  ·obtain⟨h1,h2⟩:=hlive id c hc
   rw[h1,h2];exact hb
  ·obtain⟨h1,h2⟩:=hlive id c hc
   rw[h1]
   have hlv:live e.h p:=⟨b,hb,hbd⟩
   exact⟨hs.lt hlv,fun h=>Or.elim h (fun h=>(hs.fr _ h).2 ⟨p,hlv,rfl⟩) (fun h=>(hown' _ h).2 rfl),hown0 _ _⟩
 ·intro e1 cv hs1 hx1 hr1
  refine encR_mono (e:=e1) (e2:=⟨e'.ρ,e'.h,e1.w,e'.F⟩) rfl ⟨fun b (hb:Imm e1 b)=>⟨hb.1,fun h=>?_,fun h=>?_⟩,by show e1.F.B≤e.F.B;rw[hx1.fr];exact Nr _⟩ hw hr1
  ·exact hb.2.1 (by rw[hx1.fr];exact Or.inl h)
  ·exact hb.2.1 (by rw[hx1.fr];exact Or.inr h)
 ·rintro cv w' ⟨e2,h1,h2,h3,h4,h5⟩
  rw[hv] at h5
  exact⟨e2,h1,h2,h3,hkx.trans h4,h5⟩
abbrev pPn:List Par:=[⟨true,.sl zNode⟩,⟨false,.str⟩,⟨false,.sl .str⟩,⟨false,.str⟩]
abbrev oPn:List Par:=[⟨true,.sl zNode⟩,⟨false,.int .i64⟩]
theorem r20:runAll Bn [] EX 60 20 pPn oPn [(([],[67],[[49]],[49,48],()),(tr_,N 0,()))]=true:=kr
theorem O20:KOk PP (GG Bn) 20 pPn oPn ([],[67],[[49]],[49,48],()) (tr_,N 0,()):=rows_run ok0 r20 _ (List.mem_singleton.2 rfl)
def K168:Con:=tabC 168 pRt pInt [((src_,()),(J 0,()))]
def K169:Con:=tabC 169 pRt pPr [((src_,()),(prg_,()))]
theorem r96:runAll Bn [] EX 60 96 [] pRt [((),(src_,()))]=true:=kr
def K96:Con:=tabC 96 [] pRt [((),(src_,()))]
theorem r22:runAll Bn [K96,K168,K169] EX 60 22 [] pPg [((),(prg_,()))]=true:=kr
theorem R22:RowsOk Bn 22 [] pPg [((),(prg_,()))]:=rows_run (okC (rows_con (rows_run ok0 r96)) (okC (rows_con (rows_run (okC oLine ok0) r118)) (okC (rows_con (rows_run (okC oLine ok0) r119)) ok0))) r22
def T15:List (denL pInt×denL [⟨false,.str⟩]):=[((N 1000000,()),([49],())),((N 2000000,()),([50],())),((N 3000000,()),([51],())),((N 4000000,()),([52],())),((N 5000000,()),([53],())),((N 6000000,()),([54],())),((N 7000000,()),([55],())),((N 8000000,()),([56],())),((N 9000000,()),([57],()))]
theorem r15:runAll Bn [] EX 60 15 pInt [⟨false,.str⟩] T15=true:=kr
def K15:Con:=tabC 15 pInt [⟨false,.str⟩] T15
theorem O15:OK Bn K15:=rows_con (rows_run ok0 r15)
end
noncomputable def b9:Code:=Option.getD Tryz.f9.body .skip
def rest9:Code:=sndC (sndC (sndC (sndC (sndC b9))))
def lp9:Code:=lpD (bkD (sndC (fsD rest9)))
def K21:Con:=tabC 21 pNw oNw [((prg_,[],tr_,()),(wX 0 [] [],N 0,()))]
def K22:Con:=tabC 22 [] pPg [((),(prg_,()))]
abbrev CB:Type:=den (.sl (.int .u8))
def L9 (code:CB) (k:Nat) (s:Int):List (List Bool×AV):=
 [(path 0,.isl (.int .u8) code),(path 1,.s 4 [82,79,76,76]),(path 4,.p (path 0) 0),(path 9,.p (path 3) 0),(path 11,.i .i64 s),(path 12,.b true),(path 13,.i .i64 (N k))]
def B9 (w:Blk):List (Option Blk):=[some (.cs 39 zW_ false),some .dead,some .dead,some w]
section
variable {P:Program}{G:Gs}{nt:Nat}{fr:T AV}{h:H}{Q:Ex→T AV→H→Prop}
theorem Sat.kill {c:Code}{p:Id}{b:Blk} (hb:h.get p=some b) (hc:Sat P G nt c fr (h.put p .dead) Q):Sat P G nt c fr h Q:=
 Sat.ofN (n:=h.next) (Nr _) (SatE.kill hb (SatE.of hc))
theorem Sat.heapL {c:Code} (bs:List (Option Blk)) (hn:h.next=bs.length) (hb:heapL h bs.length=bs) (hc:Sat P G nt c fr (hpH bs.length bs) Q):Sat P G nt c fr h Q:=
 Sat.ofN (n:=h.next) (Nr _) (SatE.heap bs hn hb (SatE.of hc))
end
section
variable {Bn:Nat} [BOk Bn]
def H9:H:=hpH 3 [some (.cs 39 zW_ false),some (.cs 9 [.s 1 [49]] false)]
theorem at20:At Bn 20 H9 [.ag [.v (.slice none 0 0)],.s 1 [67],.sl (path 1) 0 1 1 1 true,.s 2 [49,48]] (.tu [.ag [.isl zNode tr_],.i .i64 (N 0)]) (H9.put (path 1) .dead):=
 At.freeze (b:=.cs 9 [.s 1 [49]] false) kr (by intro h;cases h) O20 kr kr kr
theorem head9 (code:CB) (C:Nat→Nat) (Q:Ex→T AV→H→Prop) (h:S Bn 73 (sndC (fsD rest9)) (mkFr (L9 code 0 (N 10))) (hpH 4 (B9 (.cs 39 (tc zWorld (wM P0 C 0 0 [])) false))) (thenQ (fun fr h=>S Bn 73 (sndC rest9) fr h Q) Q)):
 S Bn 73 b9 (argsFrom [.isl (.int .u8) code,.s 4 [82,79,76,76]] 0 .e) H0 Q:=by
 refine sR kr ?_
 refine Sat.seq ?_
 refine atRegG 2 at20 kr kr kr ?_
 refine Sat.seq (Sat.dregV hmix (callOf_ok (G:=GG Bn) (L:=[K21,K22]) (BOk.lo (B:=Bn)) (okC (rows_con (fun q hq=>by rw[List.mem_singleton.1 hq];exact O21)) (okC (rows_con R22) ok0))) kr kr kr ?_)
 refine sR kr ?_
 refine sR kr ?_
 refine Sat.seq ?_
 refine sR kr ?_
 refine Sat.kill (p:=path 2) (b:=.cs 31 [.isl zNode tr_] false) kr ?_
 refine Sat.keepL (L9 code 0 (N 10)) ⟨kr,kr,kr,kr,kr,kr,kr,trivial⟩ ?_
 refine Sat.heapL (B9 (.cs 39 (tc zWorld (wM P0 C 0 0 [])) false)) kr kr ?_
 exact S_eq (n':=73) (c':=sndC (fsD rest9)) (h':=hpH 4 (B9 (.cs 39 (tc zWorld (wM P0 C 0 0 [])) false))) kr kr kr h
end
end Go.Ev
end
