/- A part of the proof that FnRolled returns true; no condition. -/
import Derived.Test.YtmkdnjbgmflnfaaGreatDoorPv
import Derived.Test.YtmkdnjbgmflnfaaGreatDoorPa
import Derived.Test.YtmkdnjbgmflnfaaGreatDoorPo
import Derived.RangeFuncBox
import Derived.Shelf.Abstract
import Derived.WalkKit
import Derived.OwnWalkIn
import Derived.TacticsInMore
import Derived.LoopNIn
import Derived.LoopIn
import Derived.Test.YtmkdnjbgmflnfaaGreatDoorPn
import Derived.Test.YtmkdnjbgmflnfaaGreatDoorPj
set_option linter.all false
set_option maxRecDepth 100000
open List renaming length→U
open Int renaming ofNat→J,toNat→Jn
open Go.Ev
attribute [local irreducible] GC RJ KC KM cAt cOn runC stp brC bodyC cvC rsC rdC regC loopC endC skpC extC retC evJ RS.at RS.put RS.okS RS.okR RS.all RS.fst endV endVM grpA grpB grpR grpD grpO RunOps RunD bodyF resF argsFrom
noncomputable section
namespace Go.Ev
open Go.Proofs
section
variable {Bn:Nat} [BOk Bn]{c1 c2 c3:Nat}
theorem eRun {n0 nt:Nat}{call:CallF}{x y:Code}{fr:T AV}{h:H}{Q:Ex→T AV→H→Prop} (hk:CallOK PP (GG Bn) call) (hok:isNor (cZ Bn call nt x fr h)=true)
 (hy:SatE n0 PP (GG Bn) nt y (frZ (cZ Bn call nt x fr h)) (hZ (cZ Bn call nt x fr h)) Q):SatE n0 PP (GG Bn) nt (.seq x y) fr h Q:=
 SatE.seq (SatE.of (Sat.ev hmix hk (isNor_eq hok) hy))
theorem eCond {n0 nt:Nat}{c:Operand}{x y:Code}{fr:T AV}{h:H}{Q:Ex→T AV→H→Prop}{b:Bool} (hb:evO (GG Bn) c fr=.b b) (hf:b=false) (hy:SatE n0 PP (GG Bn) nt y fr h Q):SatE n0 PP (GG Bn) nt (.cond c x y) fr h Q:=
 SatE.cond b hb (fun h=>by rw[hf] at h;cases h) (fun _=>hy)
theorem eCondT {n0 nt:Nat}{c:Operand}{x y:Code}{fr:T AV}{h:H}{Q:Ex→T AV→H→Prop}{b:Bool} (hb:evO (GG Bn) c fr=.b b) (hf:b=true) (hy:SatE n0 PP (GG Bn) nt x fr h Q):SatE n0 PP (GG Bn) nt (.cond c x y) fr h Q:=
 SatE.cond b hb (fun _=>hy) (fun h=>by rw[hf] at h;cases h)
theorem hB1:1073741824≤(GG Bn).B:=BOk.lo (B:=Bn)
theorem endW_eq {C:List (Option Blk)}{h h':H} (e:h'=h) (he:EndW C h):EndW C h':=e▸he
theorem innerLoop (hL:Okl Bn Lc) (hQ1:Q19 Bn c1 c2 c3 1) (hQ2:Q19 Bn c1 c2 c3 2) (hQ3:Q19 Bn c1 c2 c3 3) (hc1:chr c1) (hc2:chr c2) (hc3:chr c3)
 (a0:WS) (r:Nat) (h0:Ii ⟨a0,r,0⟩) (Q:Ex→T AV→H→Prop)
 (hex:∀(a:WS) fr,a=inW a0 3→Ii ⟨a,r,3⟩→Holds fr (Li r 3)→Q (.exit 2) fr (H52 c1 c2 c3 a)):
 SatE 0 PP (GG Bn) 46 loop12i (mkFr (Li r 0)) (H52 c1 c2 c3 a0) Q:=by
 have key:=SatE.loop (n:=0) (nt:=46) (Q:=Q) (P:=PP) (G:=GG Bn) hB1 (b:=rnd12i) (fun s:RR=>Li r s.j) (fun s=>Cn c1 c2 c3 s.a) (fun s=>3 - s.j) (fun s=>Ii s∧s.r=r∧s.a=inW a0 s.j)
  (fun s hs=>SatE_eq (n0:=0) (nt':=46) (c':=rnd12i) (fr':=mkFr (Li r s.j)) (h':=H52 c1 c2 c3 s.a) rfl rfl rfl kr
   (SatE.of (by
    obtain⟨a,r',j⟩:=s
    obtain⟨⟨i1,i2,i3,i4,i5,i6,i7⟩,rfl,hin⟩:=hs
    simp only at i1 i2 i3 i4 i5 i6 i7 hin⊢
    match j,i4,i5,i6,i7,hin with
    |0,_,i5,i6,i7,hin=>
     refine inner1 hL hQ1 hc1 a i1 r' _ fun fr h2 he hh=>⟨⟨stW 1 a,r',1⟩,⟨⟨i1.st1,by simp only;rw[stW_t];exact i2,i3,by simp only;omega,?_,?_,?_⟩,rfl,by simp only;rw[hin];rfl⟩,by simp only;omega,endI he hh⟩
     ·exact pr_le i5 (stW_p1 i1)
     ·show pr r'≤_;rw[stW_o12];exact i6
     ·show pr r'≤_;rw[stW_o13];exact i7
    |1,_,i5,i6,i7,hin=>
     refine inner2 hL hQ2 hc2 a i1 r' _ fun fr h2 he hh=>⟨⟨stW 2 a,r',2⟩,⟨⟨i1.st2,by simp only;rw[stW_t];exact i2,i3,by simp only;omega,?_,?_,?_⟩,rfl,by simp only;rw[hin];rfl⟩,by simp only;omega,endI he hh⟩
     ·show pr (r'+1)≤_;rw[stW_o21];exact i5
     ·exact pr_le i6 (stW_p2 i1)
     ·show pr r'≤_;rw[stW_o23];exact i7
    |2,_,i5,i6,i7,hin=>
     refine inner3 hL hQ3 hc3 a i1 r' _ fun fr h2 he hh=>⟨⟨stW 3 a,r',3⟩,⟨⟨i1.st3,by simp only;rw[stW_t];exact i2,i3,by simp only;omega,?_,?_,?_⟩,rfl,by simp only;rw[hin];rfl⟩,by simp only;omega,endI he hh⟩
     ·show pr (r'+1)≤_;rw[stW_o31];exact i5
     ·show pr (r'+1)≤_;rw[stW_o32];exact i6
     ·exact pr_le i7 (stW_p3 i1)
    |3,_,i5,i6,i7,hin=>
     refine sR kr ?_
     refine Sat.seq ?_
     refine sCond (b:=false) kr rfl ?_
     refine Sat.exit ?_
     refine qEq (h:=H52 c1 c2 c3 a) kr (hex a _ hin ⟨i1,i2,i3,by simp only;omega,i5,i6,i7⟩ ?_)
     exact zh (zh (zh (zh (zh (zh (zh trivial))))))
    |j+4,h,_,_,_,_=>exact absurd h om))) ⟨a0,r,0⟩ ⟨h0,rfl,rfl⟩ (by simp only;omega)
 exact SatE_eq (c':=.loop rnd12i) (h':=hpH (Cn c1 c2 c3 a0).length (Cn c1 c2 c3 a0)) (fr':=mkFr (Li r 0)) rfl kr rfl kr key
theorem outerRound (hL:Okl Bn Lc) (hQ1:Q19 Bn c1 c2 c3 1) (hQ2:Q19 Bn c1 c2 c3 2) (hQ3:Q19 Bn c1 c2 c3 3) (hc1:chr c1) (hc2:chr c2) (hc3:chr c3)
 (a0:WS) (s:RR) (hs:Io s) (hsa:s.a=rnds a0 s.r) (Q:Ex→T AV→H→Prop) (hex:s.r=200→∀fr,Holds fr (Lo s.r)→Q (.exit 0) fr (H52 c1 c2 c3 s.a)):
 SatE 0 PP (GG Bn) 46 rnd12 (mkFr (Lo s.r)) (H52 c1 c2 c3 s.a) (thenQ (fun fr' h'=>∃s':RR,(Io s'∧s'.a=rnds a0 s'.r)∧200 - s'.r<200 - s.r∧EndC 0 (Lo s'.r) (Cn c1 c2 c3 s'.a) fr' h') Q):=by
 obtain⟨a,r,j⟩:=s
 obtain⟨i1,i2,i3,i5,i6,i7⟩:=hs
 simp only at i1 i2 i3 i5 i6 i7 hex hsa⊢
 refine eRun (call:=EV Bn 60) (EV_ok 60) kr ?_
 refine SatE.seq ?_
 by_cases hr:r<200
 ·refine eCondT (b:= !iLe (N 200) (N r)) kr (by rw[iLe_eq];simp;omega) ?_
  refine SatE.of (Sat.skip ?_)
  refine SatE.seq (SatE.block (SatE.seq ?_))
  refine eRun (call:=EV Bn 60) (EV_ok 60) kr ?_
  refine SatE.toC hB1 (Li r 0) (Cn c1 c2 c3 a) (endI ?_ ?_) ?_
  ·exact endW_eq (h:=H52 c1 c2 c3 a) kr (end_self52 a)
  ·exact zh (zh (zh (zh (zh (zh (zh trivial))))))
  ·refine SatE_eq (nt':=46) (c':=.block 2 loop12i) (fr':=mkFr (Li r 0)) (h':=H52 c1 c2 c3 a) kr kr rfl kr ?_
   refine SatE.block (innerLoop hL hQ1 hQ2 hQ3 hc1 hc2 hc3 a r ⟨i1,i2,hr,by simp only;omega,i5,i6,i7⟩ _ fun a' fr ha' hi hh=>?_)
   obtain⟨k1,k2,k3,k4,k5,k6,k7⟩:=hi
   show SatE 0 PP (GG Bn) 46 tick12 fr (H52 c1 c2 c3 a') _
   refine SatE.toC hB1 (Lo r) (Cd c1 c2 c3 a') (endOd (end_self52 a') ?_) ?_
   ·exact⟨hh.1,hh.2.1,hh.2.2.1,hh.2.2.2.1,trivial⟩
   ·simp only at k2
    obtain⟨h2,h3,h4⟩:=tickW (Bn:=Bn) (c1:=c1) (c2:=c2) (c3:=c3) a' om
    refine SatE_eq (nt':=46) (c':=tick12) (fr':=mkFr (Lo r)) (h':=Hd c1 c2 c3 a') rfl rfl rfl kr ?_
    refine SatE.of ?_
    refine atRegG 1 h3 kr kr kr ?_
    refine SatE.of (sV kr ?_)
    refine⟨⟨tkW a',r+1,0⟩,⟨⟨k1.tk,?_,by simp only;omega,k5,k6,k7⟩,by rw[ha',hsa];rfl⟩,by simp only;omega,?_⟩
    ·show a'.t+1≤200+(r+1);omega
    ·refine endO (endW_eq (h:=h2) kr h4) ?_
     exact zh (zh (zh (zn om trivial)))
 ·refine eCond (b:= !iLe (N 200) (N r)) kr (by rw[iLe_eq];simp;omega) ?_
  refine SatE.of (Sat.exit ?_)
  refine qEq (h:=H52 c1 c2 c3 a) kr (hex om _ ?_)
  exact zh (zh (zh (zh trivial)))
theorem outerLoop (hL:Okl Bn Lc) (hQ1:Q19 Bn c1 c2 c3 1) (hQ2:Q19 Bn c1 c2 c3 2) (hQ3:Q19 Bn c1 c2 c3 3) (hc1:chr c1) (hc2:chr c2) (hc3:chr c3)
 (a0:WS) (h0:InvW a0) (ht0:a0.t≤200) (Q:Ex→T AV→H→Prop)
 (hex:∀(a:WS) fr,a=rnds a0 200→InvW a→a.j1.p=20→a.j2.p=20→a.j3.p=20→a.t≤400→Holds fr (Lo 200)→Q (.exit 0) fr (H52 c1 c2 c3 a)):
 SatE 0 PP (GG Bn) 46 loop12 (mkFr (Lo 0)) (H52 c1 c2 c3 a0) Q:=by
 have key:=SatE.loop (n:=0) (nt:=46) (Q:=Q) (P:=PP) (G:=GG Bn) hB1 (b:=rnd12) (fun s:RR=>Lo s.r) (fun s=>Cn c1 c2 c3 s.a) (fun s=>200 - s.r) (fun s=>Io s∧s.a=rnds a0 s.r)
  (fun s hs=>SatE_eq (n0:=0) (nt':=46) (c':=rnd12) (fr':=mkFr (Lo s.r)) (h':=H52 c1 c2 c3 s.a) rfl rfl rfl kr
   (outerRound hL hQ1 hQ2 hQ3 hc1 hc2 hc3 a0 s hs.1 hs.2 Q fun hr fr hh=>by
    obtain⟨⟨i1,i2,i3,i5,i6,i7⟩,hsa⟩:=hs
    have l1:=lays_le _ i1.ok.j1
    have l2:=lays_le _ i1.ok.j2
    have l3:=lays_le _ i1.ok.j3
    rw[hr] at i2 i5 i6 i7 hh
    have e:pr 200=20:=by decide
    rw[e] at i5 i6 i7
    exact hex s.a fr (by rw[←hr];exact hsa) i1 om om om om hh)) ⟨a0,0,0⟩
  ⟨⟨h0,by simp only;omega,by simp only;omega,by show pr 0≤_;simp[pr],by show pr 0≤_;simp[pr],by show pr 0≤_;simp[pr]⟩,rfl⟩ (by simp only;omega)
 exact SatE_eq (c':=.loop rnd12) (h':=hpH (Cn c1 c2 c3 a0).length (Cn c1 c2 c3 a0)) (fr':=mkFr (Lo 0)) rfl kr rfl kr key
end
end Go.Ev
end
noncomputable section
namespace Go.Proofs
open Go.RowKit Go.Shelf
attribute [local go_sem] Oper.semAt_some
def upto {α:Type} (f:Nat→α) (k:Nat):List α:=(List.range k).map f
theorem upto_succ {α:Type} (f:Nat→α) (k:Nat):upto f (k+1)=upto f k++[f k]:=by simp[upto,List.range_succ]
theorem upto_length {α:Type} (f:Nat→α) (k:Nat):(upto f k).length=k:=by simp[upto]
set_option maxRecDepth 100000 in
set_option maxHeartbeats 2000000 in
theorem vals_in {α:Type} (enc:α→ByteArray) (z:Nat→α) (F:Fence) (n:Nat) (h7:F.fn 535) (hro:F.round=none) (hn:1≤n) (l Bs Bo b off len cap:Nat) (hreach:len≤1000000) (Kc:World→Prop)
 (hKc:∀W,Kc W→∀j,j<len→W.cell? ⟨b,off+j,none⟩=some (.string (enc (z j)))) (Jw Jx:List α→World→Prop)
 (hY:∀pre x W,Jw pre W→pre.length<len→YieldAt F (n - 1) Tryz.prog l #[.string (enc x)] W fun e W'=>
  (e=.returned (.bool true)∧Jw (pre++[x]) W'∧(Kc W→Kc W'))∨(e=.returned (.bool false)∧Jx (pre++[x]) W'))
 (W:World) (hBs:W.cell? ⟨Bs,Bo,none⟩=some (.slice (some ⟨b,off,none⟩) len cap)) (hc:Kc W) (h0:Jw [] W):
 CallsIn F n Tryz.prog 535 #[.func (.yield l) #[] #[],.pointer (some ⟨Bs,Bo,none⟩)] W fun e W'=>(∃v,e=.returned v)∧
  ((∃ys,ys=upto z len∧Jw ys W')∨(∃pre,True∧Jx pre W')):=by
 refine callsIn_of_wp Tryz.func535 rfl h7 ?_ hro
 simp only[Tryz.ntmps535,List.size_toArray,Lcz,Ln,Nat.reduceAdd,Nat.reduceSub,Array.replicate_succ,Array.replicate_zero,List.push_toArray,List.append_toArray,List.nil_append,List.cons_append]
 gi_wp2
 gi_loopw [7] (fun i wr=>∃k:Nat,k≤len∧i=.int .i64 k∧Jw (upto z k) wr∧Kc wr)
  (fun i _=>len - (intOf i).toNat)
 case atStart=>exact⟨0,Nz _,rfl,h0,hc⟩
 case round=>
  obtain⟨k,hk,rfl,hJs,hnx⟩:=hrel
  by_cases hlt:k<len
  ·obtain⟨fn,tmps,assign,body,hy,hR⟩:=hY _ (z k) wr hJs (by rw[upto_length];exact hlt)
   have hcx':=hKc _ hnx k hlt
   gi_wp2
   refine hR.mono ?_
   rintro e W3 (⟨rfl,hJ3,hk3⟩|⟨rfl,hJx3⟩)
   ·gi_wp2
    go_roundw
    case rel=>exact⟨k+1,om,by simp,by rw[upto_succ];exact hJ3,hk3 hnx⟩
    case measure=>simp[intOf];omega
   ·gi_wp2
    refine bodyPost_ret (results_none rfl _ _ _) rfl ?_
    exact⟨⟨_,rfl⟩,.inr ⟨_,trivial,hJx3⟩⟩
  ·obtain rfl:k=len:=om
   gi_wp2
   go_end0
   exact⟨⟨_,rfl⟩,.inl ⟨_,rfl,hJs⟩⟩
set_option maxRecDepth 100000 in
set_option maxHeartbeats 2000000 in
theorem back_in {α:Type} (ix:α→Int) (nm:α→ByteArray) (cl:α→Int) (z:Nat→α) (F:Fence) (n:Nat) (h7:F.fn 661) (hro:F.round=none) (hn:1≤n) (l Bs Bo len:Nat) (hreach:len≤1000000) (Kc:World→Prop)
 (hix:∀j,j<len→ix (z j)=(len:Int) - 1 - j)
 (hKc:∀W,Kc W→∃b off cap,W.cell? ⟨Bs,Bo,none⟩=some (.slice (some ⟨b,off,none⟩) len cap)∧∀j,j<len→W.cell? ⟨b,off+(len - 1 - j)*2,none⟩=some (.string (nm (z j)))∧W.cell? ⟨b,off+(len - 1 - j)*2+1,none⟩=some (.int .i64 (cl (z j))))
 (Jw Jx:List α→World→Prop)
 (hY:∀pre x W,Jw pre W→pre.length<len→YieldAt F (n - 1) Tryz.prog l #[.int .i64 (ix x),.agg #[.string (nm x),.int .i64 (cl x)]] W fun e W'=>
  (e=.returned (.bool true)∧Jw (pre++[x]) W'∧(Kc W→Kc W'))∨(e=.returned (.bool false)∧Jx (pre++[x]) W'))
 (W:World) (hc:Kc W) (h0:Jw [] W):
 CallsIn F n Tryz.prog 661 #[.func (.yield l) #[] #[],.pointer (some ⟨Bs,Bo,none⟩)] W fun e W'=>(∃v,e=.returned v)∧
  ((∃ys,ys=upto z len∧Jw ys W')∨(∃pre,True∧Jx pre W')):=by
 refine callsIn_of_wp Tryz.func661 rfl h7 ?_ hro
 simp only[Tryz.ntmps661,List.size_toArray,Lcz,Ln,Nat.reduceAdd,Nat.reduceSub,Array.replicate_succ,Array.replicate_zero,List.push_toArray,List.append_toArray,List.nil_append,List.cons_append]
 obtain⟨b0,off0,cap0,hB0,hC0⟩:=hKc W hc
 gi_wp2
 gi_loopw [3] (fun i wr=>∃k:Nat,k≤len∧i=.int .i64 ((len:Int) - 1 - k)∧Jw (upto z k) wr∧Kc wr)
  (fun i _=>((intOf i)+1).toNat)
 case atStart=>exact⟨0,Nz _,by simp,h0,hc⟩
 case round=>
  obtain⟨k,hk,rfl,hJs,hnx⟩:=hrel
  by_cases hlt:k<len
  ·obtain⟨fn,tmps,assign,body,hy,hR⟩:=hY _ (z k) wr hJs (by rw[upto_length];exact hlt)
   rw[hix k hlt] at hy
   obtain⟨b,off,cap,hB,hC⟩:=hKc _ hnx
   obtain⟨hC1,hC2⟩:=hC k hlt
   gi_wp2
   refine hR.mono ?_
   rintro e W3 (⟨rfl,hJ3,hk3⟩|⟨rfl,hJx3⟩)
   ·gi_wp2
    go_roundw
    case rel=>exact⟨k+1,om,by simp;omega,by rw[upto_succ];exact hJ3,hk3 hnx⟩
    case measure=>simp[intOf];omega
   ·gi_wp2
    refine bodyPost_ret (results_none rfl _ _ _) rfl ?_
    exact⟨⟨_,rfl⟩,.inr ⟨_,trivial,hJx3⟩⟩
  ·obtain rfl:k=len:=om
   gi_wp2
   go_end0
   exact⟨⟨_,rfl⟩,.inl ⟨_,rfl,hJs⟩⟩
end Go.Proofs
namespace Go.Ev
open Go.Proofs Go.RowKit
attribute [local go_sem] Oper.semAt_some
theorem assign_in {P:Program}{l n rid d x:Nat}{t:TypeId}{pos:String}{K:Exit→Act→World→Prop}{A:Array Value}{W:World}
 (hk:K .normal {tmps:=A.setIfInBounds d (A[x]?.getD undef),defers:=[]} W):(Code.region rid #[{dst:=some d,op:=.assign (.tmp x),type:=t,pos:=pos,after:=#[],guard:=none}] false).wpIn (Fence.wide.inRound l) n P K {tmps:=A,defers:=[]} W:=by
 gi_wp2
 exact hk
theorem box_in {l n d x:Nat}{K:Exit→Act→World→Prop}{A:Array Value}{W:World} (hd:d<A.size) {s:ByteArray}{z:Int} (hv:(A.setIfInBounds d (Value.pointer (some {block:=W.heap.size,off:=0})))[x]?.getD undef=.agg #[.string s,.int .i64 z])
 (hk:K .normal {tmps:=A.setIfInBounds d (.pointer (some ⟨W.heap.size,0,none⟩)),defers:=[]} (W.alloc (.cells #[.string s,.int .i64 z] 332))):
 (Code.region 5 #[{dst:=some d,op:=Op.alloc 332,type:=0,pos:= "l09_scopes.go:363",after:=#[],guard:=none},
  {dst:=none,op:=Op.store 332 (Operand.tmp d) (Operand.tmp x),type:=0,pos:= "l09_scopes.go:363",after:=#[{on:=0,ground:=Ground.data},{on:=0,ground:=Ground.phase}],guard:=none}] false).wpIn (Fence.wide.inRound l) n Tryz.prog K {tmps:=A,defers:=[]} W:=by
 gi_wp2
 exact hk
theorem FrRel.set {e:Env}{fr:T AV}{t:Array Value} (h:FrRel e fr t) {k:Nat}{v:AV}{cv:Value} (hk:k<t.size) (hv:Rel e v cv):FrRel e (T.set (path k) v fr) (t.setIfInBounds k cv):=by
 intro j
 rw[getV_set,Ag]
 by_cases hj:path j=path k
 ·obtain rfl:=path_inj hj
  rw[if_pos rfl,Array.getElem?_setIfInBounds_self_of_lt hk]
  exact hv
 ·rw[if_neg hj,Array.getElem?_setIfInBounds_ne (fun e=>hj (by rw[e]))]
  have:=h j
  rw[Ag] at this
  exact this
theorem kok_of_at {Bn:Nat} [BOk Bn]{f:Nat}{ps rs:List Par}{x:denL ps}{y:denL rs}{us:List AV}{hz:H} (ha:At Bn f H0 (encL ps x) (tupA us) hz) (hdec:decL hz rs us=some y):KOk PP (GG Bn) f ps rs x y:=by
 intro e vs hfr hs hg hrel
 obtain⟨he,hρ,hlo⟩:=hfr
 refine Does.mono (ha e vs he hs hg hrel) ?_
 rintro cv w' ⟨e',hw',hh',hs',hx',h4⟩
 subst hh'
 let e2:Env:=⟨fun _=>(0,1),⟨e'.h.next,.e⟩,e'.w,e'.F⟩
 have hno:∀id,e2.h.get id=none:=fun id=>by show T.get id .e=none;rw[T.get_e]
 have hkn:∀id,¬known e2 id:=fun id h=>by simp[known,e2] at h
 have hown:∀b,¬Own e2 b:=fun b ⟨id,⟨_,hb,_⟩,_⟩=>by rw[hno] at hb;cases hb
 have hkn0:∀id,¬known e id:=fun id h=>by unfold known at h;rw[hρ] at h;cases h
 have hno0:∀id,e.h.get id=none:=fun id=>by rw[he];exact H0_get id
 have hx2:Ext e e2:={
  next:=hx'.next
  kn:=fun id h=>absurd h (hkn0 id)
  ren:=fun id h=>absurd h (hkn0 id)
  fr:=hx'.fr
  heap:=hx'.heap
  keep:=hx'.keep
  size:=hx'.size
  own:=fun b _ h=>absurd h (hown b)
  pres:=fun id b h=>by rw[hno0] at h;cases h
  newk:=fun id h=>absurd h (hkn id)
  qt:=hx'.qt}
 have hs2:St e2:={
  kn:=fun id h=>absurd h (hkn id)
  dk:=fun id b hb=>by rw[hno] at hb;cases hb
  lo:=hs'.lo
  blk:=fun id b hb=>by rw[hno] at hb;cases hb
  inj:=fun id _ ⟨b,hb,_⟩=>by rw[hno] at hb;cases hb
  fr:=fun b hb=>⟨(hs'.fr b hb).1,hown b⟩}
 refine⟨e2,hw',hs2,hx2,?_⟩
 refine tupA_conv (decL_length hdec) (fun vs hr=>?_) h4
 exact decL_rel (e2:=e2) hs' rfl ⟨fun b (hb:Imm e' b)=>⟨hb.1,hb.2.1,hown b⟩,Nr _⟩ (fun id b hb=>hb) (fun id hl=>⟨hs'.lt hl,fun h=>(hs'.fr _ h).2 ⟨id,hl,rfl⟩,hown _⟩) (by show 1073741824≤e'.F.B;rw[hx'.fr,hg.1];exact BOk.lo (B:=Bn)) rs us y vs hdec hr
end Go.Ev
end
noncomputable section
namespace Go.Ev
open Go.Proofs
def seeL (b:Nat) (hs:List Bh) (mk:List Pd) (ks:List Nat) (js:List Nat):List (Option (List AV)):=
 List.rec [] (fun j _ ih=>Option.rec none (fun hb=>blkC ((heapAt hb ks mk).get (path b))) (nth hs j)::ih) js
theorem gotL_ldn {b:Nat}{y:Ty}{X:List (den y)}{i f n:Nat}{l:List AV} (hi:i<X.length) (hn:0<n){r:Rd} (hv:viewLd r.o r.fr=some (some n,.p (path b) (Nat.add (Nat.add 0 (Nat.mul i (wd y))) f)))
 (hcu:cut (tc y (gt y X i)) f n=some l) (hr:r.v=.ag l){hs:List Bh}{mk:List Pd}:∀js:List Nat,seeL b hs mk r.ks js=List.map (fun _=>some (flatT y X)) js→gotL hs mk r js=wantL r js
 |[],_=>rfl
 |j::js,h=>by
  injection h with h1 h2
  have ih:=gotL_ldn hi hn hv hcu hr (hs:=hs) (mk:=mk) js h2
  show(Option.rec none (fun b=>R.rec none (fun a _=>some a) (evOp noCall r.o r.fr (heapAt b r.ks mk) 0)) (nth hs j))::gotL hs mk r js=some r.v::wantL r js
  rw[ih];congr 1
  cases hn':nth hs j with
  |none=>rw[hn'] at h1;cases h1
  |some hb=>
   rw[hn'] at h1
   have h1:blkC ((heapAt hb r.ks mk).get (path b))=some (flatT y X):=h1
   show(R.rec none (fun a _=>some a) (evOp noCall r.o r.fr (heapAt hb r.ks mk) 0):Option AV)=some r.v
   rw[ev_ldn hi hn hv h1 hcu,hr]
def isRd (rs:List Rd):Bool:=List.rec false (fun _ _ _=>true) rs
def hdR (rs:List Rd):isRd rs=true→Rd:=List.rec (motive:=fun rs=>isRd rs=true→Rd) (fun h=>Bool.noConfusion h) (fun r _ _ _=>r) rs
def tlR (rs:List Rd):List Rd:=List.rec [] (fun _ t _=>t) rs
theorem gotA_ldn {hs:List Bh}{mk:List Pd}{rs:List Rd}{b:Nat}{y:Ty}{X:List (den y)}{i f n:Nat}{l:List AV} (h:isRd rs=true) (hi:i<X.length) (hn:0<n)
 (hv:viewLd (hdR rs h).o (hdR rs h).fr=some (some n,.p (path b) (Nat.add (Nat.add 0 (Nat.mul i (wd y))) f))) (hcu:cut (tc y (gt y X i)) f n=some l) (hr:(hdR rs h).v=.ag l)
 (hs':seeL b hs mk (hdR rs h).ks (hdR rs h).js=List.map (fun _=>some (flatT y X)) (hdR rs h).js) (htl:gotA hs mk (tlR rs)=wantA (tlR rs)):gotA hs mk rs=wantA rs:=by
 cases rs with
 |nil=>cases h
 |cons r rs=>
  show gotL hs mk r r.js::gotA hs mk rs=wantL r r.js::wantA rs
  have e:gotL hs mk r r.js=wantL r r.js:=gotL_ldn (r:=r) hi hn hv hcu hr r.js hs'
  rw[e]
  exact congrArg _ htl
set_option maxHeartbeats 2000000
abbrev y163:Ty:=(.pair (.int .i64) (.pair (.int .i64) (.pair (.int .i64) .str)))
abbrev y181:Ty:=(.pair .str (.pair .str (.pair (.int .i64) (.sl .str))))
abbrev y26:Ty:=(.pair (.sl y163) (.sl y181))
abbrev y228:Ty:=(.pair .bool (.pair (.int .i64) (.pair (.int .i64) (.pair (.int .i64) (.int .i64)))))
variable {Bn:Nat} [BOk Bn]
def c187 (a0:den y228) (a1:den y228) (a2:Int):denL [⟨true,y228⟩]:=((a0.1,(wr .i64 (a0.2.1+(wr .i64 (a2*a1.2.1)))),(wr .i64 (a0.2.2.1+(wr .i64 (a2*a1.2.2.1)))),(wr .i64 (a0.2.2.2.1+(wr .i64 (a2*a1.2.2.2.1)))),(wr .i64 (a0.2.2.2.2+(wr .i64 (a2*a1.2.2.2.2))))),())
def k187:Con:=⟨187,[⟨true,y228⟩,⟨true,y228⟩,⟨false,(.int .i64)⟩],[⟨true,y228⟩],fun x=>some (c187 x.1 x.2.1 x.2.2.1)⟩
theorem t187 (a0:den y228) (a1:den y228) (a2:Int):KC Bn k187 (a0,a1,a2,()) (c187 a0 a1 a2):=by
 refine xI (uL [] ok0) Tryz.func187 fun hbd hB=>?_
 exact xe 6
theorem o187:OK Bn k187:=xO fun x=>t187 _ _ _
def c300 (a0:den y163):denL [⟨true,y228⟩]:=(cd (iEq a0.1 (J 3)) ((false,(J 1),(J 0),(J 0),(J 0)),()) (cd (iEq a0.1 (J 4)) ((false,(J 1),(J 0),(J 0),(J 0)),()) (cd (iEq a0.1 (J 6)) ((false,(J 1),(J 0),(J 0),(J 0)),()) (cd (iEq a0.1 (J 10)) ((false,(J 1),(J 0),(J 0),(J 0)),()) (cd (iEq a0.1 (J 25)) ((false,(J 1),(J 0),(J 0),(J 0)),()) (cd (iEq a0.1 (J 26)) ((false,(J 1),(J 0),(J 0),(J 0)),()) (cd (iEq a0.1 (J 31)) ((false,(J 1),(J 0),(J 0),(J 0)),()) (cd (iEq a0.1 (J 34)) ((false,(J 1),(J 0),(J 0),(J 0)),()) (cd (iEq a0.1 (J 37)) ((false,(J 1),(J 0),(J 0),(J 0)),()) (cd (iEq a0.1 (J 39)) ((false,(J 1),(J 0),(J 0),(J 0)),()) (cd (iEq a0.1 (J 41)) ((false,(J 1),(J 0),(J 0),(J 0)),()) (cd (iEq a0.1 (J 42)) ((false,(J 1),(J 0),(J 0),(J 0)),()) (cd (iEq a0.1 (J 5)) ((false,(J 2),(J 0),(J 0),(J 0)),()) (cd (iEq a0.1 (J 7)) ((false,a0.2.1,(J 0),(J 0),(J 0)),()) (cd (iEq a0.1 (J 11)) ((false,a0.2.1,(J 0),(J 0),(J 0)),()) (cd (iEq a0.1 (J 12)) ((false,a0.2.1,(J 0),(J 0),(J 0)),()) (cd (iEq a0.1 (J 13)) ((false,a0.2.1,(J 0),(J 0),(J 0)),()) (cd (iEq a0.1 (J 14)) ((false,(wr .i64 ((J 1)+a0.2.1)),(J 0),(J 0),(J 0)),()) (cd (iEq a0.1 (J 15)) ((false,(J 0),(J 1),(J 0),(J 0)),()) (cd (iEq a0.1 (J 17)) ((false,(J 0),(J 1),(J 0),(J 0)),()) (cd (iEq a0.1 (J 19)) ((false,(J 0),(J 1),(J 0),(J 0)),()) (cd (iEq a0.1 (J 22)) ((false,(J 0),(J 1),(J 0),(J 0)),()) (cd (iEq a0.1 (J 16)) ((false,(J 1),(J 1),(J 0),(J 0)),()) (cd (iEq a0.1 (J 18)) ((false,a0.2.1,(J 1),(J 0),(J 0)),()) (cd (iEq a0.1 (J 20)) ((false,(J 1),(wr .i64 ((J 1)+a0.2.1)),(J 0),(J 0)),()) (cd (iEq a0.1 (J 21)) ((false,(J 0),a0.2.1,(J 0),(J 0)),()) (cd (iEq a0.1 (J 29)) ((false,a0.2.2.1,(J 1),(J 0),(J 0)),()) (cd (iEq a0.1 (J 36)) ((false,(J 0),(J 0),a0.2.1,(J 0)),()) (cd (iEq a0.1 (J 46)) ((false,a0.2.1,(J 0),(J 0),(J 1)),()) (cd (iEq a0.1 (J 47)) ((false,(J 0),(J 0),(J 0),(J 1)),()) (cd (iEq a0.1 (J 48)) ((false,(J 0),(J 0),(J 0),(J 1)),()) (cd (iEq a0.1 (J 49)) ((false,(J 0),(J 0),(J 0),(J 1)),()) (cd (iEq a0.1 (J 50)) ((false,(J 0),(J 0),(J 0),(J 1)),()) (cd (iEq a0.1 (J 51)) ((false,(J 0),(J 0),(J 0),(J 1)),()) (cd (iEq a0.1 (J 52)) ((false,(J 0),(J 0),(J 0),(J 1)),()) ((false,(J 0),(J 0),(J 0),(J 0)),()))))))))))))))))))))))))))))))))))))
def k300:Con:=⟨300,[⟨true,y163⟩],[⟨true,y228⟩],fun x=>some (c300 x.1)⟩
theorem t300 (a0:den y163):KC Bn k300 (a0,()) (c300 a0):=by
 refine xI (uL [] ok0) Tryz.func300 fun hbd hB=>?_
 refine xc 12 (fun h1=>?_) fun h1=>?_
 exact xe 7
 refine xc 3 (fun h2=>?_) fun h2=>?_
 exact xe 7
 refine xc 3 (fun h3=>?_) fun h3=>?_
 exact xe 7
 refine xc 3 (fun h4=>?_) fun h4=>?_
 exact xe 7
 refine xc 3 (fun h5=>?_) fun h5=>?_
 exact xe 7
 refine xc 3 (fun h6=>?_) fun h6=>?_
 exact xe 7
 refine xc 3 (fun h7=>?_) fun h7=>?_
 exact xe 7
 refine xc 3 (fun h8=>?_) fun h8=>?_
 exact xe 7
 refine xc 3 (fun h9=>?_) fun h9=>?_
 exact xe 7
 refine xc 3 (fun h10=>?_) fun h10=>?_
 exact xe 7
 refine xc 3 (fun h11=>?_) fun h11=>?_
 exact xe 7
 refine xc 2 (fun h12=>?_) fun h12=>?_
 exact xe 5
 refine xc 3 (fun h13=>?_) fun h13=>?_
 exact xe 5
 refine xc 4 (fun h14=>?_) fun h14=>?_
 exact xe 7
 refine xc 3 (fun h15=>?_) fun h15=>?_
 exact xe 7
 refine xc 3 (fun h16=>?_) fun h16=>?_
 exact xe 7
 refine xc 2 (fun h17=>?_) fun h17=>?_
 exact xe 5
 refine xc 3 (fun h18=>?_) fun h18=>?_
 exact xe 5
 refine xc 4 (fun h19=>?_) fun h19=>?_
 exact xe 7
 refine xc 3 (fun h20=>?_) fun h20=>?_
 exact xe 7
 refine xc 3 (fun h21=>?_) fun h21=>?_
 exact xe 7
 refine xc 2 (fun h22=>?_) fun h22=>?_
 exact xe 5
 refine xc 3 (fun h23=>?_) fun h23=>?_
 exact xe 5
 refine xc 3 (fun h24=>?_) fun h24=>?_
 exact xe 5
 refine xc 3 (fun h25=>?_) fun h25=>?_
 exact xe 5
 refine xc 3 (fun h26=>?_) fun h26=>?_
 exact xe 5
 refine xc 3 (fun h27=>?_) fun h27=>?_
 exact xe 5
 refine xc 3 (fun h28=>?_) fun h28=>?_
 exact xe 5
 refine xc 3 (fun h29=>?_) fun h29=>?_
 exact xe 5
 refine xc 4 (fun h30=>?_) fun h30=>?_
 exact xe 7
 refine xc 3 (fun h31=>?_) fun h31=>?_
 exact xe 7
 refine xc 3 (fun h32=>?_) fun h32=>?_
 exact xe 7
 refine xc 3 (fun h33=>?_) fun h33=>?_
 exact xe 7
 refine xc 3 (fun h34=>?_) fun h34=>?_
 exact xe 7
 refine xc 2 (fun h35=>?_) fun h35=>?_
 exact xe 5
 exact xe 5
theorem o300:OK Bn k300:=xO fun x=>t300 _
def c301 (a0:den y163):denL [⟨true,y228⟩]:=(cd (iEq a0.1 (J 2)) ((false,(J 1),(J 0),(J 0),(J 0)),()) (cd (iEq a0.1 (J 4)) ((false,(J 1),(J 0),(J 0),(J 0)),()) (cd (iEq a0.1 (J 5)) ((false,(J 1),(J 0),(J 0),(J 0)),()) (cd (iEq a0.1 (J 6)) ((false,(J 1),(J 0),(J 0),(J 0)),()) (cd (iEq a0.1 (J 7)) ((false,(J 1),(J 0),(J 0),(J 0)),()) (cd (iEq a0.1 (J 8)) ((false,(J 1),(J 0),(J 0),(J 0)),()) (cd (iEq a0.1 (J 15)) ((false,(J 1),(J 0),(J 0),(J 0)),()) (cd (iEq a0.1 (J 16)) ((false,(J 1),(J 0),(J 0),(J 0)),()) (cd (iEq a0.1 (J 17)) ((false,(J 1),(J 0),(J 0),(J 0)),()) (cd (iEq a0.1 (J 18)) ((false,(J 1),(J 0),(J 0),(J 0)),()) (cd (iEq a0.1 (J 19)) ((false,(J 1),(J 0),(J 0),(J 0)),()) (cd (iEq a0.1 (J 28)) ((false,(J 1),(J 0),(J 0),(J 0)),()) (cd (iEq a0.1 (J 11)) ((false,(J 0),(J 1),(J 0),(J 0)),()) (cd (iEq a0.1 (J 12)) ((false,(J 0),(J 1),(J 0),(J 0)),()) (cd (iEq a0.1 (J 13)) ((false,(J 0),(J 1),(J 0),(J 0)),()) (cd (iEq a0.1 (J 14)) ((false,(J 0),(J 1),(J 0),(J 0)),()) (cd (iEq a0.1 (J 20)) ((c300 a0).1,()) (cd (iEq a0.1 (J 34)) ((false,(J 0),(J 0),(J 1),(J 0)),()) (cd (iEq a0.1 (J 35)) ((false,(J 0),(J 0),(J 1),(J 0)),()) (cd (iEq a0.1 (J 36)) ((false,a0.2.2.1,(J 0),(J 0),(J 0)),()) (cd (iEq a0.1 (J 45)) ((false,(J 0),(J 0),(J 0),(J 1)),()) (cd (iEq a0.1 (J 46)) ((false,(J 0),(J 0),(J 0),(J 1)),()) (cd (iEq a0.1 (J 47)) ((false,(J 0),(J 0),(J 0),(J 1)),()) (cd (iEq a0.1 (J 48)) ((false,(J 0),(J 0),(J 0),(J 1)),()) (cd (iEq a0.1 (J 49)) ((false,(J 0),(J 0),(J 0),(J 1)),()) (cd (iEq a0.1 (J 51)) ((false,(J 0),(J 0),(J 0),(J 1)),()) (cd (iEq a0.1 (J 52)) ((false,(J 0),(J 0),(J 0),(J 1)),()) ((false,(J 0),(J 0),(J 0),(J 0)),()))))))))))))))))))))))))))))
def k301:Con:=⟨301,[⟨true,y163⟩],[⟨true,y228⟩],fun x=>some (c301 x.1)⟩
theorem t301 (a0:den y163):KC Bn k301 (a0,()) (c301 a0):=by
 refine xI (uL [k300] (okC o300 ok0)) Tryz.func301 fun hbd hB=>?_
 refine xc 12 (fun h1=>?_) fun h1=>?_
 exact xe 7
 refine xc 3 (fun h2=>?_) fun h2=>?_
 exact xe 7
 refine xc 3 (fun h3=>?_) fun h3=>?_
 exact xe 7
 refine xc 3 (fun h4=>?_) fun h4=>?_
 exact xe 7
 refine xc 3 (fun h5=>?_) fun h5=>?_
 exact xe 7
 refine xc 3 (fun h6=>?_) fun h6=>?_
 exact xe 7
 refine xc 3 (fun h7=>?_) fun h7=>?_
 exact xe 7
 refine xc 3 (fun h8=>?_) fun h8=>?_
 exact xe 7
 refine xc 3 (fun h9=>?_) fun h9=>?_
 exact xe 7
 refine xc 3 (fun h10=>?_) fun h10=>?_
 exact xe 7
 refine xc 3 (fun h11=>?_) fun h11=>?_
 exact xe 7
 refine xc 2 (fun h12=>?_) fun h12=>?_
 exact xe 5
 refine xc 4 (fun h13=>?_) fun h13=>?_
 exact xe 7
 refine xc 3 (fun h14=>?_) fun h14=>?_
 exact xe 7
 refine xc 3 (fun h15=>?_) fun h15=>?_
 exact xe 7
 refine xc 2 (fun h16=>?_) fun h16=>?_
 exact xe 5
 refine xc 3 (fun h17=>?_) fun h17=>?_
 exact xe 5
 refine xc 4 (fun h18=>?_) fun h18=>?_
 exact xe 7
 refine xc 2 (fun h19=>?_) fun h19=>?_
 exact xe 5
 refine xc 3 (fun h20=>?_) fun h20=>?_
 exact xe 5
 refine xc 4 (fun h21=>?_) fun h21=>?_
 exact xe 7
 refine xc 3 (fun h22=>?_) fun h22=>?_
 exact xe 7
 refine xc 3 (fun h23=>?_) fun h23=>?_
 exact xe 7
 refine xc 3 (fun h24=>?_) fun h24=>?_
 exact xe 7
 refine xc 3 (fun h25=>?_) fun h25=>?_
 exact xe 7
 refine xc 3 (fun h26=>?_) fun h26=>?_
 exact xe 7
 refine xc 2 (fun h27=>?_) fun h27=>?_
 exact xe 5
 exact xe 5
theorem o301:OK Bn k301:=xO fun x=>t301 _
def c185 (a0:den y163):denL [⟨true,y228⟩,⟨true,y228⟩]:=((true,(c300 a0).1.2.1,(c300 a0).1.2.2.1,(c300 a0).1.2.2.2.1,(c300 a0).1.2.2.2.2),(true,(c187 ((c301 a0).1) (true,(c300 a0).1.2.1,(c300 a0).1.2.2.1,(c300 a0).1.2.2.2.1,(c300 a0).1.2.2.2.2) (Int.negSucc 0)).1.2.1,(c187 ((c301 a0).1) (true,(c300 a0).1.2.1,(c300 a0).1.2.2.1,(c300 a0).1.2.2.2.1,(c300 a0).1.2.2.2.2) (Int.negSucc 0)).1.2.2.1,(c187 ((c301 a0).1) (true,(c300 a0).1.2.1,(c300 a0).1.2.2.1,(c300 a0).1.2.2.2.1,(c300 a0).1.2.2.2.2) (Int.negSucc 0)).1.2.2.2.1,(c187 ((c301 a0).1) (true,(c300 a0).1.2.1,(c300 a0).1.2.2.1,(c300 a0).1.2.2.2.1,(c300 a0).1.2.2.2.2) (Int.negSucc 0)).1.2.2.2.2),())
def k185:Con:=⟨185,[⟨true,y163⟩],[⟨true,y228⟩,⟨true,y228⟩],fun x=>some (c185 x.1)⟩
theorem t185 (a0:den y163):KC Bn k185 (a0,()) (c185 a0):=by
 refine xI (uL [k187,k300,k301] (okC o187 (okC o300 (okC o301 ok0)))) Tryz.func185 fun hbd hB=>?_
 refine xv 10 ?_
 refine xv 5 ?_
 exact xe 1
theorem o185:OK Bn k185:=xO fun x=>t185 _
def c298 (a0:den y228) (a1:den y228):denL [⟨false,.bool⟩]:=((cd (cd (cd (iLe a1.2.1 a0.2.1) (iLe a1.2.2.1 a0.2.2.1) false) (iLe a1.2.2.2.1 a0.2.2.2.1) false) (iLe a1.2.2.2.2 a0.2.2.2.2) false),())
def k298:Con:=⟨298,[⟨true,y228⟩,⟨true,y228⟩],[⟨false,.bool⟩],fun x=>some (c298 x.1 x.2.1)⟩
theorem t298 (a0:den y228) (a1:den y228):KC Bn k298 (a0,a1,()) (c298 a0 a1):=by
 refine xI (uL [] ok0) Tryz.func298 fun hbd hB=>?_
 exact xe 6
theorem o298:OK Bn k298:=xO fun x=>t298 _ _
def c367_L1 (a0:den (.sl (.int .i64))) (a1:Int):(Nat×Nat)→Out (Nat×Nat) (denL [⟨false,(.int .i64)⟩]):=fun s1=>(cd (!iLe (J (U a0)) (J s1.2)) (cd (iEq a1 (gt (.int .i64) a0 s1.2)) (.ret ((J s1.2),())) (.go (s1.1,s1.2+1))) (.brk s1))
def c367 (a0:den (.sl (.int .i64))) (a1:Int):denL [⟨false,(.int .i64)⟩]:=(outE (dfR _) (fun s1=>((Int.negSucc 0),())) (fun r=>r) (scan (c367_L1 a0 a1) ((U a0) - 0+1) (0,0)))
def k367:Con:=⟨367,[⟨false,(.sl (.int .i64))⟩,⟨false,(.int .i64)⟩],[⟨false,(.int .i64)⟩],fun x=>some (c367 x.1 x.2.1)⟩
theorem t367 (a0:den (.sl (.int .i64))) (a1:Int):KC Bn k367 (a0,a1,()) (c367 a0 a1):=by
 refine xI (uL [] ok0) Tryz.func367 fun hbd hB=>?_
 have b1:U a0≤Bn:=hbd.1.1
 refine xlc 8 0 (fun(s1:Nat×Nat)=>[(path 0,(.isl (.int .i64) a0)),(path 1,(.i .i64 a1)),(path 4,(.i .i64 (J s1.1))),(path 7,(.i .i64 (J (U a0)))),(path 8,(.i .i64 (J s1.2)))]) (fun _=>[]) (fun s1=>s1.2) (U a0) om fun s1 (i1:s1.2≤(U a0))=>?_
 refine xc 4 (fun h2=>?_) fun h2=>?_
 refine xr 7 ?_
 have g3:=lt_of_nle h2
 have x4:s1.2<U a0:=fo1
 refine yi 3 (.int .i64) a0 s1.2 x4 ?_
 refine yf ?_
 refine xc 1 (fun h5=>?_) fun h5=>?_
 refine xt 5 ?_
 exact xe 0
 exact xg 3 (gI om) (hN 4 s1.2 om)
 refine xb 1 ?_
 exact xe 5
theorem o367:OK Bn k367:=xO fun x=>t367 _ _
def c242 (a0:den (.sl (.int .i64))) (a1:Int):denL [⟨false,.bool⟩]:=((iLe (J 0) (c367 a0 a1).1),())
def k242:Con:=⟨242,[⟨false,(.sl (.int .i64))⟩,⟨false,(.int .i64)⟩],[⟨false,.bool⟩],fun x=>some (c242 x.1 x.2.1)⟩
theorem t242 (a0:den (.sl (.int .i64))) (a1:Int):KC Bn k242 (a0,a1,()) (c242 a0 a1):=by
 refine xI (uL [k367] (okC o367 ok0)) Tryz.func242 fun hbd hB=>?_
 exact xe 6
theorem o242:OK Bn k242:=xO fun x=>t242 _ _
def c299 (a0:Int):denL [⟨false,.bool⟩]:=((c242 [(J 1),(J 43),(J 44),(J 40),(J 45),(J 47),(J 48),(J 49),(J 50),(J 51),(J 52)] a0).1,())
def k299:Con:=⟨299,[⟨false,(.int .i64)⟩],[⟨false,.bool⟩],fun x=>some (c299 x.1)⟩
theorem t299 (a0:Int):KC Bn k299 (a0,()) (c299 a0):=by
 refine xI (uL [k242] (okC o242 ok0)) Tryz.func299 fun hbd hB=>?_
 exact xe 6
theorem o299:OK Bn k299:=xO fun x=>t299 _
def c184 (a0:den y163) (a1:den y228):denL [⟨false,.bool⟩]:=(cd (cd (!(c298 a1 ((c185 a0).1)).1) true (!iLe a1.2.1 (J 40))) (false,()) (cd (c299 a0.1).1 ((cd (cd (iEq a1.2.1 (J 0)) (iEq a1.2.2.1 (J 0)) false) (iEq a1.2.2.2.1 (J 0)) false),()) (cd (iEq a0.1 (J 27)) ((cd (cd (iEq a1.2.1 (J 0)) (iEq a1.2.2.1 (J 1)) false) (iEq a1.2.2.2.1 (J 0)) false),()) (true,()))))
def k184:Con:=⟨184,[⟨true,y163⟩,⟨true,y228⟩],[⟨false,.bool⟩],fun x=>some (c184 x.1 x.2.1)⟩
theorem t184 (a0:den y163) (a1:den y228):KC Bn k184 (a0,a1,()) (c184 a0 a1):=by
 refine xI (uL [k185,k298,k299] (okC o185 (okC o298 (okC o299 ok0)))) Tryz.func184 fun hbd hB=>?_
 refine xc 11 (fun h1=>?_) fun h1=>?_
 exact xe 5
 refine xc 3 (fun h2=>?_) fun h2=>?_
 exact xe 5
 refine xc 3 (fun h3=>?_) fun h3=>?_
 exact xe 5
 exact xe 5
theorem o184:OK Bn k184:=xO fun x=>t184 _ _
def c140 (a0:Int):denL [⟨false,.bool⟩]:=((!(c242 [(J 9),(J 32),(J 38),(J 39),(J 40),(J 41),(J 51),(J 52),(J 53)] a0).1),())
def k140:Con:=⟨140,[⟨false,(.int .i64)⟩],[⟨false,.bool⟩],fun x=>some (c140 x.1)⟩
theorem t140 (a0:Int):KC Bn k140 (a0,()) (c140 a0):=by
 refine xI (uL [k242] (okC o242 ok0)) Tryz.func140 fun hbd hB=>?_
 exact xe 6
theorem o140:OK Bn k140:=xO fun x=>t140 _
def c182 (a0:Int):denL [⟨false,.bool⟩]:=((c242 [(J 9),(J 10),(J 43),(J 44),(J 45),(J 47),(J 48)] a0).1,())
def k182:Con:=⟨182,[⟨false,(.int .i64)⟩],[⟨false,.bool⟩],fun x=>some (c182 x.1)⟩
theorem t182 (a0:Int):KC Bn k182 (a0,()) (c182 a0):=by
 refine xI (uL [k242] (okC o242 ok0)) Tryz.func182 fun hbd hB=>?_
 exact xe 6
theorem o182:OK Bn k182:=xO fun x=>t182 _
def c186 (a0:den y163) (a1:Int):denL [⟨false,(.sl (.int .i64))⟩]:=(cd (c140 a0.1).1 (cd (c182 a0.1).1 ([(wr .i64 (a1+(J 1))),a0.2.1],()) ([(wr .i64 (a1+(J 1)))],())) (cd (c182 a0.1).1 ([a0.2.1],()) ([],())))
def k186:Con:=⟨186,[⟨true,y163⟩,⟨false,(.int .i64)⟩],[⟨false,(.sl (.int .i64))⟩],fun x=>some (c186 x.1 x.2.1)⟩
theorem t186 (a0:den y163) (a1:Int):KC Bn k186 (a0,a1,()) (c186 a0 a1):=by
 refine xI (uL [k140,k182] (okC o140 (okC o182 ok0))) Tryz.func186 fun hbd hB=>?_
 refine xc 10 (fun h1=>?_) fun h1=>?_
 refine xc 6 (fun h2=>?_) fun h2=>?_
 exact xe 5
 exact xe 4
 refine xc 5 (fun h2=>?_) fun h2=>?_
 exact xe 5
 exact xe 4
theorem o186:OK Bn k186:=xO fun x=>t186 _ _
theorem c186_l (a0:den y163) (a1:Int):U (c186 a0 a1).1≤2:=by
 unfold c186
 cases(c140 a0.1).1<;>cases(c182 a0.1).1<;>first|exact Nr _|exact Nz _|exact Nat.le_succ 1
def c32 (a0:Int) (a1:Int) (a2:Int):denL [⟨false,.bool⟩]:=((cd (iLe a1 a0) (iLe a0 a2) false),())
def k32:Con:=⟨32,[⟨false,(.int .i64)⟩,⟨false,(.int .i64)⟩,⟨false,(.int .i64)⟩],[⟨false,.bool⟩],fun x=>some (c32 x.1 x.2.1 x.2.2.1)⟩
theorem t32 (a0:Int) (a1:Int) (a2:Int):KC Bn k32 (a0,a1,a2,()) (c32 a0 a1 a2):=by
 refine xI (uL [] ok0) Tryz.func32 fun hbd hB=>?_
 exact xe 6
theorem o32:OK Bn k32:=xO fun x=>t32 _ _ _
theorem c32_t {a b c:Int} (h:(c32 a b c).1=true):b≤a∧a≤c:=by
 unfold c32 at h
 cases hb:iLe b a with
 |true=>rw[hb] at h;have h:iLe a c=true:=h;rw[iLe_eq] at hb h;simp at hb h;exact⟨hb,h⟩
 |false=>rw[hb] at h;cases h
theorem c32_n {a b c:Int} (h:(!(c32 a b c).1)=false):b≤a∧a≤c:=c32_t (by simpa using h)
def c106_L3 (a0:den y26) (s1:Nat×List (den y228)×List (den (.int .i64))) (s2:List (den y228)×List (den (.int .i64))):(Nat×List (den y228)×List (den (.int .i64)))→Out (Nat×List (den y228)×List (den (.int .i64))) (denL [⟨false,(.sl y228)⟩,⟨false,.bool⟩]):=fun s3=>(cd (!iLe (J (U (c186 (gt y163 a0.1 (Jn (gt (.int .i64) s2.2 ((U s2.2) - 1)))) (gt (.int .i64) s2.2 ((U s2.2) - 1))).1)) (J s3.1)) (cd (cd (iEq (gt y163 a0.1 (Jn (gt (.int .i64) s2.2 ((U s2.2) - 1)))).1 (J 45)) (iEq (gt (.int .i64) ((c186 (gt y163 a0.1 (Jn (gt (.int .i64) s2.2 ((U s2.2) - 1)))) (gt (.int .i64) s2.2 ((U s2.2) - 1))).1) s3.1) (gt y163 a0.1 (Jn (gt (.int .i64) s2.2 ((U s2.2) - 1)))).2.1) false) (cd (!(c32 (gt (.int .i64) ((c186 (gt y163 a0.1 (Jn (gt (.int .i64) s2.2 ((U s2.2) - 1)))) (gt (.int .i64) s2.2 ((U s2.2) - 1))).1) s3.1) (J 0) (wr .i64 ((J (U a0.1)) - (J 1)))).1) (.ret ([],false,())) (cd (gt y228 s3.2.1 (Jn (gt (.int .i64) ((c186 (gt y163 a0.1 (Jn (gt (.int .i64) s2.2 ((U s2.2) - 1)))) (gt (.int .i64) s2.2 ((U s2.2) - 1))).1) s3.1))).1 (cd (!(cd (cd (gt y228 s3.2.1 (Jn (gt (.int .i64) ((c186 (gt y163 a0.1 (Jn (gt (.int .i64) s2.2 ((U s2.2) - 1)))) (gt (.int .i64) s2.2 ((U s2.2) - 1))).1) s3.1))).1 (gt y228 s2.1 (Jn (gt (.int .i64) s2.2 ((U s2.2) - 1)))).1 (!(gt y228 s2.1 (Jn (gt (.int .i64) s2.2 ((U s2.2) - 1)))).1)) (cd (iEq (gt y228 s3.2.1 (Jn (gt (.int .i64) ((c186 (gt y163 a0.1 (Jn (gt (.int .i64) s2.2 ((U s2.2) - 1)))) (gt (.int .i64) s2.2 ((U s2.2) - 1))).1) s3.1))).2.1 (gt y228 s2.1 (Jn (gt (.int .i64) s2.2 ((U s2.2) - 1)))).2.1) (cd (iEq (gt y228 s3.2.1 (Jn (gt (.int .i64) ((c186 (gt y163 a0.1 (Jn (gt (.int .i64) s2.2 ((U s2.2) - 1)))) (gt (.int .i64) s2.2 ((U s2.2) - 1))).1) s3.1))).2.2.1 (gt y228 s2.1 (Jn (gt (.int .i64) s2.2 ((U s2.2) - 1)))).2.2.1) (cd (iEq (gt y228 s3.2.1 (Jn (gt (.int .i64) ((c186 (gt y163 a0.1 (Jn (gt (.int .i64) s2.2 ((U s2.2) - 1)))) (gt (.int .i64) s2.2 ((U s2.2) - 1))).1) s3.1))).2.2.2.1 (gt y228 s2.1 (Jn (gt (.int .i64) s2.2 ((U s2.2) - 1)))).2.2.2.1) (cd (iEq (gt y228 s3.2.1 (Jn (gt (.int .i64) ((c186 (gt y163 a0.1 (Jn (gt (.int .i64) s2.2 ((U s2.2) - 1)))) (gt (.int .i64) s2.2 ((U s2.2) - 1))).1) s3.1))).2.2.2.2 (gt y228 s2.1 (Jn (gt (.int .i64) s2.2 ((U s2.2) - 1)))).2.2.2.2) true false) false) false) false) false)) (.ret ([],false,())) (.go (s3.1+1,s3.2.1,s3.2.2))) (.go (s3.1+1,(List.set s3.2.1 (Jn (gt (.int .i64) ((c186 (gt y163 a0.1 (Jn (gt (.int .i64) s2.2 ((U s2.2) - 1)))) (gt (.int .i64) s2.2 ((U s2.2) - 1))).1) s3.1)) (gt y228 s2.1 (Jn (gt (.int .i64) s2.2 ((U s2.2) - 1))))),(s3.2.2++[(gt (.int .i64) ((c186 (gt y163 a0.1 (Jn (gt (.int .i64) s2.2 ((U s2.2) - 1)))) (gt (.int .i64) s2.2 ((U s2.2) - 1))).1) s3.1)]))))) (cd (!(c32 (gt (.int .i64) ((c186 (gt y163 a0.1 (Jn (gt (.int .i64) s2.2 ((U s2.2) - 1)))) (gt (.int .i64) s2.2 ((U s2.2) - 1))).1) s3.1) (J 0) (wr .i64 ((J (U a0.1)) - (J 1)))).1) (.ret ([],false,())) (cd (gt y228 s3.2.1 (Jn (gt (.int .i64) ((c186 (gt y163 a0.1 (Jn (gt (.int .i64) s2.2 ((U s2.2) - 1)))) (gt (.int .i64) s2.2 ((U s2.2) - 1))).1) s3.1))).1 (cd (!(cd (cd (gt y228 s3.2.1 (Jn (gt (.int .i64) ((c186 (gt y163 a0.1 (Jn (gt (.int .i64) s2.2 ((U s2.2) - 1)))) (gt (.int .i64) s2.2 ((U s2.2) - 1))).1) s3.1))).1 (c187 (gt y228 s2.1 (Jn (gt (.int .i64) s2.2 ((U s2.2) - 1)))) ((c185 (gt y163 a0.1 (Jn (gt (.int .i64) s2.2 ((U s2.2) - 1))))).2.1) (J 1)).1.1 (!(c187 (gt y228 s2.1 (Jn (gt (.int .i64) s2.2 ((U s2.2) - 1)))) ((c185 (gt y163 a0.1 (Jn (gt (.int .i64) s2.2 ((U s2.2) - 1))))).2.1) (J 1)).1.1)) (cd (iEq (gt y228 s3.2.1 (Jn (gt (.int .i64) ((c186 (gt y163 a0.1 (Jn (gt (.int .i64) s2.2 ((U s2.2) - 1)))) (gt (.int .i64) s2.2 ((U s2.2) - 1))).1) s3.1))).2.1 (c187 (gt y228 s2.1 (Jn (gt (.int .i64) s2.2 ((U s2.2) - 1)))) ((c185 (gt y163 a0.1 (Jn (gt (.int .i64) s2.2 ((U s2.2) - 1))))).2.1) (J 1)).1.2.1) (cd (iEq (gt y228 s3.2.1 (Jn (gt (.int .i64) ((c186 (gt y163 a0.1 (Jn (gt (.int .i64) s2.2 ((U s2.2) - 1)))) (gt (.int .i64) s2.2 ((U s2.2) - 1))).1) s3.1))).2.2.1 (c187 (gt y228 s2.1 (Jn (gt (.int .i64) s2.2 ((U s2.2) - 1)))) ((c185 (gt y163 a0.1 (Jn (gt (.int .i64) s2.2 ((U s2.2) - 1))))).2.1) (J 1)).1.2.2.1) (cd (iEq (gt y228 s3.2.1 (Jn (gt (.int .i64) ((c186 (gt y163 a0.1 (Jn (gt (.int .i64) s2.2 ((U s2.2) - 1)))) (gt (.int .i64) s2.2 ((U s2.2) - 1))).1) s3.1))).2.2.2.1 (c187 (gt y228 s2.1 (Jn (gt (.int .i64) s2.2 ((U s2.2) - 1)))) ((c185 (gt y163 a0.1 (Jn (gt (.int .i64) s2.2 ((U s2.2) - 1))))).2.1) (J 1)).1.2.2.2.1) (cd (iEq (gt y228 s3.2.1 (Jn (gt (.int .i64) ((c186 (gt y163 a0.1 (Jn (gt (.int .i64) s2.2 ((U s2.2) - 1)))) (gt (.int .i64) s2.2 ((U s2.2) - 1))).1) s3.1))).2.2.2.2 (c187 (gt y228 s2.1 (Jn (gt (.int .i64) s2.2 ((U s2.2) - 1)))) ((c185 (gt y163 a0.1 (Jn (gt (.int .i64) s2.2 ((U s2.2) - 1))))).2.1) (J 1)).1.2.2.2.2) true false) false) false) false) false)) (.ret ([],false,())) (.go (s3.1+1,s3.2.1,s3.2.2))) (.go (s3.1+1,(List.set s3.2.1 (Jn (gt (.int .i64) ((c186 (gt y163 a0.1 (Jn (gt (.int .i64) s2.2 ((U s2.2) - 1)))) (gt (.int .i64) s2.2 ((U s2.2) - 1))).1) s3.1)) ((c187 (gt y228 s2.1 (Jn (gt (.int .i64) s2.2 ((U s2.2) - 1)))) ((c185 (gt y163 a0.1 (Jn (gt (.int .i64) s2.2 ((U s2.2) - 1))))).2.1) (J 1)).1)),(s3.2.2++[(gt (.int .i64) ((c186 (gt y163 a0.1 (Jn (gt (.int .i64) s2.2 ((U s2.2) - 1)))) (gt (.int .i64) s2.2 ((U s2.2) - 1))).1) s3.1)])))))) (.brk s3))
def c106_L2 (a0:den y26) (s1:Nat×List (den y228)×List (den (.int .i64))):(List (den y228)×List (den (.int .i64)))→Out (List (den y228)×List (den (.int .i64))) (denL [⟨false,(.sl y228)⟩,⟨false,.bool⟩]):=fun s2=>(cd (!iLe (J (U s2.2)) (J 0)) (cd (!(c184 (gt y163 a0.1 (Jn (gt (.int .i64) s2.2 ((U s2.2) - 1)))) (gt y228 s2.1 (Jn (gt (.int .i64) s2.2 ((U s2.2) - 1))))).1) (.ret ([],false,())) (outE (.ret (dfR _)) (fun s3=>(.go (s3.2.1,s3.2.2))) (fun r=>.ret r) (scan (c106_L3 a0 s1 s2) ((fun(s3:Nat×List (den y228)×List (den (.int .i64)))=>U (c186 (gt y163 a0.1 (Jn (gt (.int .i64) s2.2 (U s2.2 - 1)))) (gt (.int .i64) s2.2 (U s2.2 - 1))).1 - s3.1) (0,s2.1,(List.take ((U s2.2) - 1) s2.2))+1) (0,s2.1,(List.take ((U s2.2) - 1) s2.2))))) (.brk s2))
def c106_L1 (a0:den y26):(Nat×List (den y228)×List (den (.int .i64)))→Out (Nat×List (den y228)×List (den (.int .i64))) (denL [⟨false,(.sl y228)⟩,⟨false,.bool⟩]):=fun s1=>(cd (!iLe (J (U a0.2)) (J s1.1)) (cd (!(c32 ((gt y181 a0.2 s1.1).2.2.1) (J 0) (wr .i64 ((J (U a0.1)) - (J 1)))).1) (.ret ([],false,())) (cd (gt y228 s1.2.1 (Jn ((gt y181 a0.2 s1.1).2.2.1))).1 (cd (!(cd (cd (gt y228 s1.2.1 (Jn ((gt y181 a0.2 s1.1).2.2.1))).1 true (!true)) (cd (iEq (gt y228 s1.2.1 (Jn ((gt y181 a0.2 s1.1).2.2.1))).2.1 (J 0)) (cd (iEq (gt y228 s1.2.1 (Jn ((gt y181 a0.2 s1.1).2.2.1))).2.2.1 (J 0)) (cd (iEq (gt y228 s1.2.1 (Jn ((gt y181 a0.2 s1.1).2.2.1))).2.2.2.1 (J 0)) (cd (iEq (gt y228 s1.2.1 (Jn ((gt y181 a0.2 s1.1).2.2.1))).2.2.2.2 (J 0)) true false) false) false) false) false)) (.ret ([],false,())) (.go (s1.1+1,s1.2.1,s1.2.2))) (.go (s1.1+1,(List.set s1.2.1 (Jn ((gt y181 a0.2 s1.1).2.2.1)) (true,(J 0),(J 0),(J 0),(J 0))),(s1.2.2++[(gt y181 a0.2 s1.1).2.2.1]))))) (.brk s1))
def c106 (a0:den y26):denL [⟨false,(.sl y228)⟩,⟨false,.bool⟩]:=(outE (dfR _) (fun s1=>(outE (dfR _) (fun s2=>(s2.1,true,())) (fun r=>r) (scan (c106_L2 a0 s1) ((fun(s2:List (den y228)×List (den (.int .i64)))=>2*unk (fun(h:den y228)=>h.1) s2.1+U s2.2) (s1.2.1,s1.2.2)+1) (s1.2.1,s1.2.2)))) (fun r=>r) (scan (c106_L1 a0) ((fun(s1:Nat×List (den y228)×List (den (.int .i64)))=>U a0.2 - s1.1) (0,(List.replicate (U a0.1) (false,(J 0),(J 0),(J 0),(J 0))),[])+1) (0,(List.replicate (U a0.1) (false,(J 0),(J 0),(J 0),(J 0))),[])))
open Classical in
def k106:Con:=⟨106,[⟨true,y26⟩],[⟨false,(.sl y228)⟩,⟨false,.bool⟩],fun x=>if 0<U x.1.1∧U x.1.1≤100000 then some (c106 x.1) else none⟩
theorem t106 (a0:den y26) (r0:0<U a0.1) (r1:U a0.1≤100000):KC Bn k106 (a0,()) (c106 a0):=by
 refine xI (uL [k184,k185,k186,k187,k32] (okC o184 (okC o185 (okC o186 (okC o187 (okC o32 ok0)))))) Tryz.func106 fun hbd hB=>?_
 refine xr 4 ?_
 have b1:U a0.1≤Bn:=hbd.1.1.1
 refine ymk 3 1 229 40 y228 (false,(J 0),(J 0),(J 0),(J 0)) (U a0.1) om om ?_
 refine yf ?_
 have b2:U a0.2≤Bn:=hbd.1.2.1
 refine xlC 9 5 (fun v (s1:Nat×List (den y228)×List (den (.int .i64)))=>[(path 1,(.p (path 0) 0)),(path 2,(.v (.slice none 0 0))),(path 3,(.b false)),(path 4,(.p (path 3) 0)),(path 5,(.p (path 4) 0)),(path 6,(.f (.func 183) [] [(.p (path 0) 0),(.p (path 3) 0),(.p (path 4) 0)])),(path 24,(.isl y181 a0.2)),(path 25,(.i .i64 (J (U a0.2)))),(path 26,(.i .i64 (J s1.1)))]) (fun v (s1:Nat×List (den y228)×List (den (.int .i64)))=>[some (.cs 27 [(.isl y163 a0.1),(.isl y181 a0.2)] false),some (.cs 229 (flatT y228 s1.2.1) false),none,some (.cs 107 [(.sl (path 1) 0 (wd y228) (U a0.1) (U a0.1) true)] false),some (.cs 44 [v] false)]) (fun s1=>(apv .em (path 5) (.int .i64) s1.2.2)) (fun s1=>(apb 2 (.int .i64) s1.2.2)) (fun s1=>((s1.1≤U a0.2∧U s1.2.1=U a0.1)∧unk (fun(h:den y228)=>h.1) s1.2.1+U s1.2.2≤U a0.1)∧AllW (U a0.1) (fun(h:den y228)=>h.1) s1.2.1 s1.2.2) (fun(s1:Nat×List (den y228)×List (den (.int .i64)))=>U a0.2 - s1.1) ⟨⟨⟨Nz _,List.length_replicate⟩,Nt (unk_le _ _) (Nat.le_of_eq List.length_replicate)⟩,allw_nil⟩ (by dsimp only;omega) (rendD ⟨bk1,bF,trivial,bk1,bk1,trivial⟩ kr kr kr) fun s1 i1=>?_
 obtain⟨⟨⟨hi1,hl1⟩,hu1⟩,hw1⟩:=i1
 refine xc 4 (fun h3=>?_) fun h3=>?_
 refine xr 4 ?_
 have g4:=lt_of_nle h3
 have b5:U a0.2≤Bn:=hbd.1.2.1
 have x6:s1.1<U a0.2:=fo1
 refine yi 0 y181 a0.2 s1.1 x6 ?_
 refine yf ?_
 refine xinv 2 4 Tryz.func183 ?_
 refine xc 7 (fun h7=>?_) fun h7=>?_
 refine xej 4 ?_
 refine zf ?_
 refine xtC 7 ?_
 exact xe 0
 refine xr 3 ?_
 try (have w9:@Eq Int (wr .i64 ((((U a0.1):Nat):Int) - ((1:Nat):Int))) ((((U a0.1):Nat):Int) - ((1:Nat):Int)):=wr_id om om)
 have g8:@LE.le Int _ ((0:Nat):Int) ((gt y181 a0.2 s1.1).2.2.1)∧@LE.le Int _ ((gt y181 a0.2 s1.1).2.2.1) (wr .i64 ((((U a0.1):Nat):Int) - ((1:Nat):Int))):=c32_n h7
 refine yv 2 16 (.i .i64 (gt y181 a0.2 s1.1).2.2.1) (.i .i64 (J (Jn ((gt y181 a0.2 s1.1).2.2.1)))) (toNat_av (show @LE.le Int _ 0 ((gt y181 a0.2 s1.1).2.2.1) by omega)) ?_
 refine yie 0 1 (wd y228) (U a0.1) (U a0.1) true (Jn ((gt y181 a0.2 s1.1).2.2.1)) fo1 ?_
 refine yl1 1 1 y228 s1.2.1 (Jn ((gt y181 a0.2 s1.1).2.2.1)) 0 (.b (gt y228 s1.2.1 (Jn ((gt y181 a0.2 s1.1).2.2.1))).1) (by have hl:U s1.2.1=_:=hl1;omega) ?_
 refine yf ?_
 refine xc 1 (fun h10=>?_) fun h10=>?_
 refine xd 1 ?_
 refine yv 2 21 (.i .i64 (gt y181 a0.2 s1.1).2.2.1) (.i .i64 (J (Jn ((gt y181 a0.2 s1.1).2.2.1)))) (toNat_av (show @LE.le Int _ 0 ((gt y181 a0.2 s1.1).2.2.1) by omega)) ?_
 refine yie 0 1 (wd y228) (U a0.1) (U a0.1) true (Jn ((gt y181 a0.2 s1.1).2.2.1)) fo1 ?_
 refine yln 0 1 y228 s1.2.1 (Jn ((gt y181 a0.2 s1.1).2.2.1)) 0 5 [(.b (gt y228 s1.2.1 (Jn ((gt y181 a0.2 s1.1).2.2.1))).1),(.i .i64 (gt y228 s1.2.1 (Jn ((gt y181 a0.2 s1.1).2.2.1))).2.1),(.i .i64 (gt y228 s1.2.1 (Jn ((gt y181 a0.2 s1.1).2.2.1))).2.2.1),(.i .i64 (gt y228 s1.2.1 (Jn ((gt y181 a0.2 s1.1).2.2.1))).2.2.2.1),(.i .i64 (gt y228 s1.2.1 (Jn ((gt y181 a0.2 s1.1).2.2.1))).2.2.2.2)] (by have hl:U s1.2.1=_:=hl1;omega) ?_
 refine yf ?_
 refine xej 2 ?_
 refine zf ?_
 refine xc 1 (fun h11=>?_) fun h11=>?_
 refine xtC 5 ?_
 exact xe 0
 have h12:=nF h11
 have g13:@Eq Int ((gt y228 s1.2.1 (Jn ((gt y181 a0.2 s1.1).2.2.1))).2.1) ((0:Nat):Int):=ieq_t (aT (aT h12).2).1
 have g14:@Eq Int ((gt y228 s1.2.1 (Jn ((gt y181 a0.2 s1.1).2.2.1))).2.2.1) ((0:Nat):Int):=ieq_t (aT (aT (aT h12).2).2).1
 have g15:@Eq Int ((gt y228 s1.2.1 (Jn ((gt y181 a0.2 s1.1).2.2.1))).2.2.2.1) ((0:Nat):Int):=ieq_t (aT (aT (aT (aT h12).2).2).2).1
 have g16:@Eq Int ((gt y228 s1.2.1 (Jn ((gt y181 a0.2 s1.1).2.2.1))).2.2.2.2) ((0:Nat):Int):=ieq_t (aT (aT (aT (aT (aT h12).2).2).2).2).1
 refine xsv 3 26 (.i .i64 (wr .i64 ((J s1.1)+(J 1)))) (.i .i64 (J s1.1+1)) (wr_inc om) ?_
 exact xgC 0 5 (apv .em (path 5) (.int .i64) s1.2.2) [] ⟨⟨⟨⟨by dsimp only;omega,hl1⟩,hu1⟩,hw1⟩,by dsimp only;omega⟩ (gA iv_em kr) ⟨bS bk1,bS bF,bS trivial,bS bk1,bC ⟨vC,trivial⟩,trivial⟩
 refine xr 2 ?_
 refine yv 3 27 (.i .i64 (gt y181 a0.2 s1.1).2.2.1) (.i .i64 (J (Jn ((gt y181 a0.2 s1.1).2.2.1)))) (toNat_av (show @LE.le Int _ 0 ((gt y181 a0.2 s1.1).2.2.1) by omega)) ?_
 refine yie 0 1 (wd y228) (U a0.1) (U a0.1) true (Jn ((gt y181 a0.2 s1.1).2.2.1)) fo1 ?_
 refine yst 0 1 229 y228 s1.2.1 (Jn ((gt y181 a0.2 s1.1).2.2.1)) (true,(J 0),(J 0),(J 0),(J 0)) (by have hl:U s1.2.1=_:=hl1;omega) ?_
 refine yf ?_
 refine xr 2 ?_
 refine zo 3 (zapp 0 9 2 8 .em iv_em 5 (.int .i64) s1.2.2 ((gt y181 a0.2 s1.1).2.2.1) fo4 (zf ?_))
 refine yf ?_
 refine xej 4 ?_
 refine zf ?_
 refine xsv 5 26 (.i .i64 (wr .i64 ((J s1.1)+(J 1)))) (.i .i64 (J s1.1+1)) (wr_inc om) ?_
 have hk:=unk_set (fun(h:den y228)=>h.1) (x:=(true,(J 0),(J 0),(J 0),(J 0))) (show(Jn ((gt y181 a0.2 s1.1).2.2.1))<U s1.2.1 by have hl:U s1.2.1=_:=hl1;omega) h10 rfl
 have hz:U (s1.2.2++[(gt y181 a0.2 s1.1).2.2.1])=U s1.2.2+1:=La ..
 exact xgC 0 9 (.sl (path 9) 0 (wd (.int .i64)) (U (s1.2.2++[(gt y181 a0.2 s1.1).2.2.1])) (U (s1.2.2++[(gt y181 a0.2 s1.1).2.2.1])) false) [] ⟨⟨⟨⟨by dsimp only;omega,List.length_set.trans hl1⟩,by dsimp only;omega⟩,allw_push hw1 hl1 om om rfl⟩,by dsimp only;omega⟩ (gAn kr) ⟨bS bk1,bS bF,bS trivial,bS bk1,bC ⟨vC,trivial⟩,trivial⟩
 refine xbC 1 ?_
 have g4:=le_of_nle h3
 refine Classical.byCases (p:=s1.2.2=[]) (fun n5=>?_) fun n5=>?_
 refine xhv 4 4 (.cs 44 [(apv .em (path 5) (.int .i64) s1.2.2)] false) (.cs 44 [.em] false) (congrArg (fun z=>Blk.cs 44 [apv .em (path 5) (.int .i64) z] false) n5) ?_
 refine xhv 0 5 (apb 2 (.int .i64) s1.2.2) .dead (congrArg (fun z=>apb 2 (.int .i64) z) n5) ?_
 refine xnl (s':=(s1.2.1,s1.2.2)) (by rw[n5];kernel_rfl) ?_
 refine xun 0 1 ?_
 refine xhv 10 3 (.cs 107 [(.sl (path 1) 0 (wd y228) (U a0.1) (U a0.1) true)] false) (.cs 107 [.sl (path 1) 0 (wd y228) (U s1.2.1) (U s1.2.1) true] false) (by rw[hl1]) ?_
 refine xgvC 0 3 107 1 229 (U s1.2.1) true y228 s1.2.1 (by have hl:=hl1;omega) ?_
 exact xe 2
 refine xhv 4 4 (.cs 44 [(apv .em (path 5) (.int .i64) s1.2.2)] false) (.cs 44 [(.sl (path 5) 0 (wd (.int .i64)) (U s1.2.2) (U s1.2.2) false)] false) (congrArg (fun z=>Blk.cs 44 [z] false) (apv_ne n5)) ?_
 refine xhv 0 5 (apb 2 (.int .i64) s1.2.2) (.cs 2 (flatT (.int .i64) s1.2.2) false) (apb_ne n5) ?_
 refine xlCi 0 6 (fun v (s2:List (den y228)×List (den (.int .i64)))=>[(path 1,(.p (path 0) 0)),(path 2,(.v (.slice none 0 0))),(path 3,(.b false)),(path 4,(.p (path 3) 0)),(path 5,(.p (path 4) 0)),(path 6,(.f (.func 183) [] [(.p (path 0) 0),(.p (path 3) 0),(.p (path 4) 0)]))]) (fun v (s2:List (den y228)×List (den (.int .i64)))=>[some (.cs 27 [(.isl y163 a0.1),(.isl y181 a0.2)] false),some (.cs 229 (flatT y228 s2.1) false),none,some (.cs 107 [(.sl (path 1) 0 (wd y228) (U a0.1) (U a0.1) true)] false),some (.cs 44 [v] false),some .dead]) (fun s2=>(.sl (path 6) 0 (wd (.int .i64)) (U s2.2) (U s2.2) false)) (fun s2=>(.cs 2 (flatT (.int .i64) s2.2) false)) (fun s2=>(U s2.1=U a0.1∧unk (fun(h:den y228)=>h.1) s2.1+U s2.2≤U a0.1)∧AllW (U a0.1) (fun(h:den y228)=>h.1) s2.1 s2.2) (fun(s2:List (den y228)×List (den (.int .i64)))=>2*unk (fun(h:den y228)=>h.1) s2.1+U s2.2) ⟨⟨hl1,hu1⟩,hw1⟩ (by have hq:=unk_le (fun(h:den y228)=>h.1) s1.2.1;dsimp only;omega) 5 (.sl (path 5) 0 (wd (.int .i64)) (U s1.2.2) (U s1.2.2) false) [] (gN kr) ⟨bS bk1,bS bF,bS trivial,bS bk1,bC ⟨vC,trivial⟩,bS trivial,trivial⟩ fun s2 i2=>?_
 obtain⟨⟨hl2,hu2⟩,hw2⟩:=i2
 refine xc 4 (fun h6=>?_) fun h6=>?_
 refine xr 3 ?_
 have g7:=lt_of_nle h6
 refine yv 4 43 (.i .i64 (wr .i64 ((J (U s2.2)) - (J 1)))) (.i .i64 (J ((U s2.2) - 1))) (wr_dec om om) ?_
 refine yie 0 6 (wd (.int .i64)) (U s2.2) (U s2.2) false ((U s2.2) - 1) fo1 ?_
 refine yl1 0 6 (.int .i64) s2.2 ((U s2.2) - 1) 0 (.i .i64 (gt (.int .i64) s2.2 ((U s2.2) - 1))) fo1 ?_
 have e8:=(hw2 ((U s2.2) - 1) fo1).1
 refine yf ?_
 refine xr 2 ?_
 refine yv 4 49 (.i .i64 (wr .i64 ((J (U s2.2)) - (J 1)))) (.i .i64 (J ((U s2.2) - 1))) (wr_dec om om) ?_
 refine ypo 0 6 (wd (.int .i64)) (U s2.2) (U s2.2) false ((U s2.2) - 1) om ?_
 refine yf ?_
 refine xpC 2 4 44 6 2 ((U s2.2) - 1) (U s2.2) false (.int .i64) s2.2 om ?_
 have b9:U (List.take ((U s2.2) - 1) s2.2)=((U s2.2) - 1):=by rw[Tk];omega
 refine xw 0 ?_
 refine zdw 3 53 (.i .i64 (gt (.int .i64) s2.2 ((U s2.2) - 1))) (.i .i64 (J (Jn (gt (.int .i64) s2.2 ((U s2.2) - 1))))) (toNat_av (show @LE.le Int _ 0 (gt (.int .i64) s2.2 ((U s2.2) - 1)) by omega)) ?_
 have x10:(Jn (gt (.int .i64) s2.2 ((U s2.2) - 1)))<U a0.1:=fo1
 refine zdi 0 y163 a0.1 (Jn (gt (.int .i64) s2.2 ((U s2.2) - 1))) x10 ?_
 refine zdw 3 57 (.i .i64 (gt (.int .i64) s2.2 ((U s2.2) - 1))) (.i .i64 (J (Jn (gt (.int .i64) s2.2 ((U s2.2) - 1))))) (toNat_av (show @LE.le Int _ 0 (gt (.int .i64) s2.2 ((U s2.2) - 1)) by omega)) ?_
 refine zde 0 1 (wd y228) (U a0.1) (U a0.1) true (Jn (gt (.int .i64) s2.2 ((U s2.2) - 1))) fo1 ?_
 refine zdl 0 1 y228 s2.1 (Jn (gt (.int .i64) s2.2 ((U s2.2) - 1))) 0 5 [(.b (gt y228 s2.1 (Jn (gt (.int .i64) s2.2 ((U s2.2) - 1)))).1),(.i .i64 (gt y228 s2.1 (Jn (gt (.int .i64) s2.2 ((U s2.2) - 1)))).2.1),(.i .i64 (gt y228 s2.1 (Jn (gt (.int .i64) s2.2 ((U s2.2) - 1)))).2.2.1),(.i .i64 (gt y228 s2.1 (Jn (gt (.int .i64) s2.2 ((U s2.2) - 1)))).2.2.2.1),(.i .i64 (gt y228 s2.1 (Jn (gt (.int .i64) s2.2 ((U s2.2) - 1)))).2.2.2.2)] (by have hl:U s2.1=_:=hl2;omega) ?_
 refine zfd (hc:=gotA_ldn (b:=1) (y:=y228) (X:=s2.1) (i:=(Jn (gt (.int .i64) s2.2 ((U s2.2) - 1)))) (f:=0) (n:=5) (l:=[(.b (gt y228 s2.1 (Jn (gt (.int .i64) s2.2 ((U s2.2) - 1)))).1),(.i .i64 (gt y228 s2.1 (Jn (gt (.int .i64) s2.2 ((U s2.2) - 1)))).2.1),(.i .i64 (gt y228 s2.1 (Jn (gt (.int .i64) s2.2 ((U s2.2) - 1)))).2.2.1),(.i .i64 (gt y228 s2.1 (Jn (gt (.int .i64) s2.2 ((U s2.2) - 1)))).2.2.2.1),(.i .i64 (gt y228 s2.1 (Jn (gt (.int .i64) s2.2 ((U s2.2) - 1)))).2.2.2.2)]) kr (by have hl:U s2.1=_:=hl2;omega) (by decide) kr kr kr kr kr) ?_
 refine xc 5 (fun h11=>?_) fun h11=>?_
 refine xtC 5 ?_
 exact xe 0
 have hN3:=c186_l (gt y163 a0.1 (Jn (gt (.int .i64) s2.2 (U s2.2 - 1)))) (gt (.int .i64) s2.2 (U s2.2 - 1))
 refine xlCi 8 11 (fun v (s3:Nat×List (den y228)×List (den (.int .i64)))=>[(path 1,(.p (path 0) 0)),(path 2,(.v (.slice none 0 0))),(path 3,(.b false)),(path 4,(.p (path 3) 0)),(path 5,(.p (path 4) 0)),(path 6,(.f (.func 183) [] [(.p (path 0) 0),(.p (path 3) 0),(.p (path 4) 0)])),(path 10,(.p (path 7) 0)),(path 11,(.p (path 8) 0)),(path 13,(.p (path 10) 0)),(path 71,(.isl (.int .i64) (c186 (gt y163 a0.1 (Jn (gt (.int .i64) s2.2 ((U s2.2) - 1)))) (gt (.int .i64) s2.2 ((U s2.2) - 1))).1)),(path 72,(.i .i64 (J (U (c186 (gt y163 a0.1 (Jn (gt (.int .i64) s2.2 ((U s2.2) - 1)))) (gt (.int .i64) s2.2 ((U s2.2) - 1))).1)))),(path 73,(.i .i64 (J s3.1)))]) (fun v (s3:Nat×List (den y228)×List (den (.int .i64)))=>[some (.cs 27 [(.isl y163 a0.1),(.isl y181 a0.2)] false),some (.cs 229 (flatT y228 s3.2.1) false),none,some (.cs 107 [(.sl (path 1) 0 (wd y228) (U a0.1) (U a0.1) true)] false),some (.cs 44 [v] false),some .dead,some .dead,some (.cs 164 [(.i .i64 (gt y163 a0.1 (Jn (gt (.int .i64) s2.2 ((U s2.2) - 1)))).1),(.i .i64 (gt y163 a0.1 (Jn (gt (.int .i64) s2.2 ((U s2.2) - 1)))).2.1),(.i .i64 (gt y163 a0.1 (Jn (gt (.int .i64) s2.2 ((U s2.2) - 1)))).2.2.1),(.s (U (α:=Nat) (gt y163 a0.1 (Jn (gt (.int .i64) s2.2 ((U s2.2) - 1)))).2.2.2) (gt y163 a0.1 (Jn (gt (.int .i64) s2.2 ((U s2.2) - 1)))).2.2.2)] false),some (.cs 229 [(.b (gt y228 s2.1 (Jn (gt (.int .i64) s2.2 ((U s2.2) - 1)))).1),(.i .i64 (gt y228 s2.1 (Jn (gt (.int .i64) s2.2 ((U s2.2) - 1)))).2.1),(.i .i64 (gt y228 s2.1 (Jn (gt (.int .i64) s2.2 ((U s2.2) - 1)))).2.2.1),(.i .i64 (gt y228 s2.1 (Jn (gt (.int .i64) s2.2 ((U s2.2) - 1)))).2.2.2.1),(.i .i64 (gt y228 s2.1 (Jn (gt (.int .i64) s2.2 ((U s2.2) - 1)))).2.2.2.2)] false),some (.cs 229 [(.b (c185 (gt y163 a0.1 (Jn (gt (.int .i64) s2.2 ((U s2.2) - 1))))).1.1),(.i .i64 (c185 (gt y163 a0.1 (Jn (gt (.int .i64) s2.2 ((U s2.2) - 1))))).1.2.1),(.i .i64 (c185 (gt y163 a0.1 (Jn (gt (.int .i64) s2.2 ((U s2.2) - 1))))).1.2.2.1),(.i .i64 (c185 (gt y163 a0.1 (Jn (gt (.int .i64) s2.2 ((U s2.2) - 1))))).1.2.2.2.1),(.i .i64 (c185 (gt y163 a0.1 (Jn (gt (.int .i64) s2.2 ((U s2.2) - 1))))).1.2.2.2.2)] false),some (.cs 229 [(.b (c185 (gt y163 a0.1 (Jn (gt (.int .i64) s2.2 ((U s2.2) - 1))))).2.1.1),(.i .i64 (c185 (gt y163 a0.1 (Jn (gt (.int .i64) s2.2 ((U s2.2) - 1))))).2.1.2.1),(.i .i64 (c185 (gt y163 a0.1 (Jn (gt (.int .i64) s2.2 ((U s2.2) - 1))))).2.1.2.2.1),(.i .i64 (c185 (gt y163 a0.1 (Jn (gt (.int .i64) s2.2 ((U s2.2) - 1))))).2.1.2.2.2.1),(.i .i64 (c185 (gt y163 a0.1 (Jn (gt (.int .i64) s2.2 ((U s2.2) - 1))))).2.1.2.2.2.2)] false)]) (fun s3=>(.sl (path 11) 0 (wd (.int .i64)) (U s3.2.2) (U s3.2.2) false)) (fun s3=>(.cs 2 (flatT (.int .i64) s3.2.2) false)) (fun s3=>((s3.1≤U (c186 (gt y163 a0.1 (Jn (gt (.int .i64) s2.2 (U s2.2 - 1)))) (gt (.int .i64) s2.2 (U s2.2 - 1))).1∧U s3.2.1=U a0.1)∧2*unk (fun(h:den y228)=>h.1) s3.2.1+U s3.2.2<2*unk (fun(h:den y228)=>h.1) s2.1+U s2.2)∧AllW (U a0.1) (fun(h:den y228)=>h.1) s3.2.1 s3.2.2∧unk (fun(h:den y228)=>h.1) s3.2.1+U s3.2.2≤U a0.1∧(gt y228 s3.2.1 (Jn (gt (.int .i64) s2.2 (U s2.2 - 1)))).1=true) (fun(s3:Nat×List (den y228)×List (den (.int .i64)))=>U (c186 (gt y163 a0.1 (Jn (gt (.int .i64) s2.2 (U s2.2 - 1)))) (gt (.int .i64) s2.2 (U s2.2 - 1))).1 - s3.1) ⟨⟨⟨Nz _,hl2⟩,by dsimp only;omega⟩,allw_take hw2,by dsimp only;omega,(hw2 _ om).2⟩ (by dsimp only;omega) 6 (.sl (path 6) 0 (wd (.int .i64)) (U (List.take ((U s2.2) - 1) s2.2)) (U (List.take ((U s2.2) - 1) s2.2)) false) [] (gN kr) ⟨bS bk1,bS bF,bS trivial,bS bk1,bC ⟨vC,trivial⟩,bS trivial,bS trivial,bS bk1,bS bk1,bS bk1,bS bk1,trivial⟩ fun s3 i3=>?_
 obtain⟨⟨⟨hi3,hl3⟩,hd3⟩,hw3,hu3,hk3⟩:=i3
 refine xc 4 (fun h12=>?_) fun h12=>?_
 refine xr 4 ?_
 have g13:=lt_of_nle h12
 refine yi 0 (.int .i64) ((c186 (gt y163 a0.1 (Jn (gt (.int .i64) s2.2 ((U s2.2) - 1)))) (gt (.int .i64) s2.2 ((U s2.2) - 1))).1) s3.1 fo1 ?_
 refine yf ?_
 refine xc 8 (fun h14=>?_) fun h14=>?_
 refine xinv 3 3 Tryz.func183 ?_
 refine xc 7 (fun h15=>?_) fun h15=>?_
 refine xej 4 ?_
 refine zf ?_
 refine xtC 7 ?_
 refine xtC 0 ?_
 exact xe 0
 refine xr 3 ?_
 have g16:@Eq Int ((gt y163 a0.1 (Jn (gt (.int .i64) s2.2 ((U s2.2) - 1)))).1) ((45:Nat):Int):=ieq_t (aT h14).1
 have g17:@Eq Int (gt (.int .i64) ((c186 (gt y163 a0.1 (Jn (gt (.int .i64) s2.2 ((U s2.2) - 1)))) (gt (.int .i64) s2.2 ((U s2.2) - 1))).1) s3.1) ((gt y163 a0.1 (Jn (gt (.int .i64) s2.2 ((U s2.2) - 1)))).2.1):=ieq_t (aT h14).2
 try (have w19:@Eq Int (wr .i64 ((((U a0.1):Nat):Int) - ((1:Nat):Int))) ((((U a0.1):Nat):Int) - ((1:Nat):Int)):=wr_id om om)
 have g18:@LE.le Int _ ((0:Nat):Int) (gt (.int .i64) ((c186 (gt y163 a0.1 (Jn (gt (.int .i64) s2.2 ((U s2.2) - 1)))) (gt (.int .i64) s2.2 ((U s2.2) - 1))).1) s3.1)∧@LE.le Int _ (gt (.int .i64) ((c186 (gt y163 a0.1 (Jn (gt (.int .i64) s2.2 ((U s2.2) - 1)))) (gt (.int .i64) s2.2 ((U s2.2) - 1))).1) s3.1) (wr .i64 ((((U a0.1):Nat):Int) - ((1:Nat):Int))):=c32_n h15
 refine yv 2 16 (.i .i64 (gt (.int .i64) ((c186 (gt y163 a0.1 (Jn (gt (.int .i64) s2.2 ((U s2.2) - 1)))) (gt (.int .i64) s2.2 ((U s2.2) - 1))).1) s3.1)) (.i .i64 (J (Jn (gt (.int .i64) ((c186 (gt y163 a0.1 (Jn (gt (.int .i64) s2.2 ((U s2.2) - 1)))) (gt (.int .i64) s2.2 ((U s2.2) - 1))).1) s3.1)))) (toNat_av (show @LE.le Int _ 0 (gt (.int .i64) ((c186 (gt y163 a0.1 (Jn (gt (.int .i64) s2.2 ((U s2.2) - 1)))) (gt (.int .i64) s2.2 ((U s2.2) - 1))).1) s3.1) by omega)) ?_
 refine yie 0 1 (wd y228) (U a0.1) (U a0.1) true (Jn (gt (.int .i64) ((c186 (gt y163 a0.1 (Jn (gt (.int .i64) s2.2 ((U s2.2) - 1)))) (gt (.int .i64) s2.2 ((U s2.2) - 1))).1) s3.1)) fo1 ?_
 refine yl1 1 1 y228 s3.2.1 (Jn (gt (.int .i64) ((c186 (gt y163 a0.1 (Jn (gt (.int .i64) s2.2 ((U s2.2) - 1)))) (gt (.int .i64) s2.2 ((U s2.2) - 1))).1) s3.1)) 0 (.b (gt y228 s3.2.1 (Jn (gt (.int .i64) ((c186 (gt y163 a0.1 (Jn (gt (.int .i64) s2.2 ((U s2.2) - 1)))) (gt (.int .i64) s2.2 ((U s2.2) - 1))).1) s3.1))).1) (by have hl:U s3.2.1=_:=hl3;omega) ?_
 refine yf ?_
 refine xc 1 (fun h20=>?_) fun h20=>?_
 refine xd 1 ?_
 refine yv 2 21 (.i .i64 (gt (.int .i64) ((c186 (gt y163 a0.1 (Jn (gt (.int .i64) s2.2 ((U s2.2) - 1)))) (gt (.int .i64) s2.2 ((U s2.2) - 1))).1) s3.1)) (.i .i64 (J (Jn (gt (.int .i64) ((c186 (gt y163 a0.1 (Jn (gt (.int .i64) s2.2 ((U s2.2) - 1)))) (gt (.int .i64) s2.2 ((U s2.2) - 1))).1) s3.1)))) (toNat_av (show @LE.le Int _ 0 (gt (.int .i64) ((c186 (gt y163 a0.1 (Jn (gt (.int .i64) s2.2 ((U s2.2) - 1)))) (gt (.int .i64) s2.2 ((U s2.2) - 1))).1) s3.1) by omega)) ?_
 refine yie 0 1 (wd y228) (U a0.1) (U a0.1) true (Jn (gt (.int .i64) ((c186 (gt y163 a0.1 (Jn (gt (.int .i64) s2.2 ((U s2.2) - 1)))) (gt (.int .i64) s2.2 ((U s2.2) - 1))).1) s3.1)) fo1 ?_
 refine yln 0 1 y228 s3.2.1 (Jn (gt (.int .i64) ((c186 (gt y163 a0.1 (Jn (gt (.int .i64) s2.2 ((U s2.2) - 1)))) (gt (.int .i64) s2.2 ((U s2.2) - 1))).1) s3.1)) 0 5 [(.b (gt y228 s3.2.1 (Jn (gt (.int .i64) ((c186 (gt y163 a0.1 (Jn (gt (.int .i64) s2.2 ((U s2.2) - 1)))) (gt (.int .i64) s2.2 ((U s2.2) - 1))).1) s3.1))).1),(.i .i64 (gt y228 s3.2.1 (Jn (gt (.int .i64) ((c186 (gt y163 a0.1 (Jn (gt (.int .i64) s2.2 ((U s2.2) - 1)))) (gt (.int .i64) s2.2 ((U s2.2) - 1))).1) s3.1))).2.1),(.i .i64 (gt y228 s3.2.1 (Jn (gt (.int .i64) ((c186 (gt y163 a0.1 (Jn (gt (.int .i64) s2.2 ((U s2.2) - 1)))) (gt (.int .i64) s2.2 ((U s2.2) - 1))).1) s3.1))).2.2.1),(.i .i64 (gt y228 s3.2.1 (Jn (gt (.int .i64) ((c186 (gt y163 a0.1 (Jn (gt (.int .i64) s2.2 ((U s2.2) - 1)))) (gt (.int .i64) s2.2 ((U s2.2) - 1))).1) s3.1))).2.2.2.1),(.i .i64 (gt y228 s3.2.1 (Jn (gt (.int .i64) ((c186 (gt y163 a0.1 (Jn (gt (.int .i64) s2.2 ((U s2.2) - 1)))) (gt (.int .i64) s2.2 ((U s2.2) - 1))).1) s3.1))).2.2.2.2)] (by have hl:U s3.2.1=_:=hl3;omega) ?_
 refine yf ?_
 refine xej 2 ?_
 refine zf ?_
 refine xc 1 (fun h21=>?_) fun h21=>?_
 refine xtC 5 ?_
 refine xtC 0 ?_
 exact xe 0
 have h22:=nF h21
 have g23:@Eq Int ((gt y228 s3.2.1 (Jn (gt (.int .i64) ((c186 (gt y163 a0.1 (Jn (gt (.int .i64) s2.2 ((U s2.2) - 1)))) (gt (.int .i64) s2.2 ((U s2.2) - 1))).1) s3.1))).2.1) ((gt y228 s2.1 (Jn (gt (.int .i64) s2.2 ((U s2.2) - 1)))).2.1):=ieq_t (aT (aT h22).2).1
 have g24:@Eq Int ((gt y228 s3.2.1 (Jn (gt (.int .i64) ((c186 (gt y163 a0.1 (Jn (gt (.int .i64) s2.2 ((U s2.2) - 1)))) (gt (.int .i64) s2.2 ((U s2.2) - 1))).1) s3.1))).2.2.1) ((gt y228 s2.1 (Jn (gt (.int .i64) s2.2 ((U s2.2) - 1)))).2.2.1):=ieq_t (aT (aT (aT h22).2).2).1
 have g25:@Eq Int ((gt y228 s3.2.1 (Jn (gt (.int .i64) ((c186 (gt y163 a0.1 (Jn (gt (.int .i64) s2.2 ((U s2.2) - 1)))) (gt (.int .i64) s2.2 ((U s2.2) - 1))).1) s3.1))).2.2.2.1) ((gt y228 s2.1 (Jn (gt (.int .i64) s2.2 ((U s2.2) - 1)))).2.2.2.1):=ieq_t (aT (aT (aT (aT h22).2).2).2).1
 have g26:@Eq Int ((gt y228 s3.2.1 (Jn (gt (.int .i64) ((c186 (gt y163 a0.1 (Jn (gt (.int .i64) s2.2 ((U s2.2) - 1)))) (gt (.int .i64) s2.2 ((U s2.2) - 1))).1) s3.1))).2.2.2.2) ((gt y228 s2.1 (Jn (gt (.int .i64) s2.2 ((U s2.2) - 1)))).2.2.2.2):=ieq_t (aT (aT (aT (aT (aT h22).2).2).2).2).1
 refine xsv 3 73 (.i .i64 (wr .i64 ((J s3.1)+(J 1)))) (.i .i64 (J s3.1+1)) (wr_inc om) ?_
 exact xgC 0 11 (.sl (path 11) 0 (wd (.int .i64)) (U s3.2.2) (U s3.2.2) false) [] ⟨⟨⟨⟨by dsimp only;omega,hl3⟩,hd3⟩,hw3,hu3,hk3⟩,by dsimp only;omega⟩ (gN kr) ⟨bS bk1,bS bF,bS trivial,bS bk1,bC ⟨vC,trivial⟩,bS trivial,bS trivial,bS bk1,bS bk1,bS bk1,bS bk1,trivial⟩
 refine xr 2 ?_
 refine yv 3 27 (.i .i64 (gt (.int .i64) ((c186 (gt y163 a0.1 (Jn (gt (.int .i64) s2.2 ((U s2.2) - 1)))) (gt (.int .i64) s2.2 ((U s2.2) - 1))).1) s3.1)) (.i .i64 (J (Jn (gt (.int .i64) ((c186 (gt y163 a0.1 (Jn (gt (.int .i64) s2.2 ((U s2.2) - 1)))) (gt (.int .i64) s2.2 ((U s2.2) - 1))).1) s3.1)))) (toNat_av (show @LE.le Int _ 0 (gt (.int .i64) ((c186 (gt y163 a0.1 (Jn (gt (.int .i64) s2.2 ((U s2.2) - 1)))) (gt (.int .i64) s2.2 ((U s2.2) - 1))).1) s3.1) by omega)) ?_
 refine yie 0 1 (wd y228) (U a0.1) (U a0.1) true (Jn (gt (.int .i64) ((c186 (gt y163 a0.1 (Jn (gt (.int .i64) s2.2 ((U s2.2) - 1)))) (gt (.int .i64) s2.2 ((U s2.2) - 1))).1) s3.1)) fo1 ?_
 refine yst 0 1 229 y228 s3.2.1 (Jn (gt (.int .i64) ((c186 (gt y163 a0.1 (Jn (gt (.int .i64) s2.2 ((U s2.2) - 1)))) (gt (.int .i64) s2.2 ((U s2.2) - 1))).1) s3.1)) (gt y228 s2.1 (Jn (gt (.int .i64) s2.2 ((U s2.2) - 1)))) (by have hl:U s3.2.1=_:=hl3;omega) ?_
 refine yf ?_
 refine xr 2 ?_
 refine zo 3 (zapn 0 15 2 8 11 (.int .i64) s3.2.2 (gt (.int .i64) ((c186 (gt y163 a0.1 (Jn (gt (.int .i64) s2.2 ((U s2.2) - 1)))) (gt (.int .i64) s2.2 ((U s2.2) - 1))).1) s3.1) fo4 (zf ?_))
 refine yf ?_
 refine xej 4 ?_
 refine zf ?_
 refine xsv 5 73 (.i .i64 (wr .i64 ((J s3.1)+(J 1)))) (.i .i64 (J s3.1+1)) (wr_inc om) ?_
 have hk:=unk_set (fun(h:den y228)=>h.1) (x:=(gt y228 s2.1 (Jn (gt (.int .i64) s2.2 ((U s2.2) - 1))))) (show(Jn (gt (.int .i64) ((c186 (gt y163 a0.1 (Jn (gt (.int .i64) s2.2 ((U s2.2) - 1)))) (gt (.int .i64) s2.2 ((U s2.2) - 1))).1) s3.1))<U s3.2.1 by have hl:U s3.2.1=_:=hl3;omega) h20 (hw2 (U s2.2 - 1) om).2
 have hz:U (s3.2.2++[(gt (.int .i64) ((c186 (gt y163 a0.1 (Jn (gt (.int .i64) s2.2 ((U s2.2) - 1)))) (gt (.int .i64) s2.2 ((U s2.2) - 1))).1) s3.1)])=U s3.2.2+1:=La ..
 exact xgC 0 15 (.sl (path 15) 0 (wd (.int .i64)) (U (s3.2.2++[(gt (.int .i64) ((c186 (gt y163 a0.1 (Jn (gt (.int .i64) s2.2 ((U s2.2) - 1)))) (gt (.int .i64) s2.2 ((U s2.2) - 1))).1) s3.1)])) (U (s3.2.2++[(gt (.int .i64) ((c186 (gt y163 a0.1 (Jn (gt (.int .i64) s2.2 ((U s2.2) - 1)))) (gt (.int .i64) s2.2 ((U s2.2) - 1))).1) s3.1)])) false) [] ⟨⟨⟨⟨by dsimp only;omega,List.length_set.trans hl3⟩,by dsimp only;omega⟩,allw_push hw3 hl3 om om (hw2 (U s2.2 - 1) om).2,by dsimp only;omega,gt_set (f:=(fun(h:den y228)=>h.1)) om hk3 (hw2 (U s2.2 - 1) om).2⟩,by dsimp only;omega⟩ (gN kr) ⟨bS bk1,bS bF,bS trivial,bS bk1,bC ⟨vC,trivial⟩,bS trivial,bS trivial,bS bk1,bS bk1,bS bk1,bS bk1,trivial⟩
 refine xinv 2 3 Tryz.func183 ?_
 refine xc 7 (fun h15=>?_) fun h15=>?_
 refine xej 4 ?_
 refine zf ?_
 refine xtC 7 ?_
 refine xtC 0 ?_
 exact xe 0
 refine xr 3 ?_
 try (have w17:@Eq Int (wr .i64 ((((U a0.1):Nat):Int) - ((1:Nat):Int))) ((((U a0.1):Nat):Int) - ((1:Nat):Int)):=wr_id om om)
 have g16:@LE.le Int _ ((0:Nat):Int) (gt (.int .i64) ((c186 (gt y163 a0.1 (Jn (gt (.int .i64) s2.2 ((U s2.2) - 1)))) (gt (.int .i64) s2.2 ((U s2.2) - 1))).1) s3.1)∧@LE.le Int _ (gt (.int .i64) ((c186 (gt y163 a0.1 (Jn (gt (.int .i64) s2.2 ((U s2.2) - 1)))) (gt (.int .i64) s2.2 ((U s2.2) - 1))).1) s3.1) (wr .i64 ((((U a0.1):Nat):Int) - ((1:Nat):Int))):=c32_n h15
 refine yv 2 16 (.i .i64 (gt (.int .i64) ((c186 (gt y163 a0.1 (Jn (gt (.int .i64) s2.2 ((U s2.2) - 1)))) (gt (.int .i64) s2.2 ((U s2.2) - 1))).1) s3.1)) (.i .i64 (J (Jn (gt (.int .i64) ((c186 (gt y163 a0.1 (Jn (gt (.int .i64) s2.2 ((U s2.2) - 1)))) (gt (.int .i64) s2.2 ((U s2.2) - 1))).1) s3.1)))) (toNat_av (show @LE.le Int _ 0 (gt (.int .i64) ((c186 (gt y163 a0.1 (Jn (gt (.int .i64) s2.2 ((U s2.2) - 1)))) (gt (.int .i64) s2.2 ((U s2.2) - 1))).1) s3.1) by omega)) ?_
 refine yie 0 1 (wd y228) (U a0.1) (U a0.1) true (Jn (gt (.int .i64) ((c186 (gt y163 a0.1 (Jn (gt (.int .i64) s2.2 ((U s2.2) - 1)))) (gt (.int .i64) s2.2 ((U s2.2) - 1))).1) s3.1)) fo1 ?_
 refine yl1 1 1 y228 s3.2.1 (Jn (gt (.int .i64) ((c186 (gt y163 a0.1 (Jn (gt (.int .i64) s2.2 ((U s2.2) - 1)))) (gt (.int .i64) s2.2 ((U s2.2) - 1))).1) s3.1)) 0 (.b (gt y228 s3.2.1 (Jn (gt (.int .i64) ((c186 (gt y163 a0.1 (Jn (gt (.int .i64) s2.2 ((U s2.2) - 1)))) (gt (.int .i64) s2.2 ((U s2.2) - 1))).1) s3.1))).1) (by have hl:U s3.2.1=_:=hl3;omega) ?_
 refine yf ?_
 refine xc 1 (fun h18=>?_) fun h18=>?_
 refine xd 1 ?_
 refine yv 2 21 (.i .i64 (gt (.int .i64) ((c186 (gt y163 a0.1 (Jn (gt (.int .i64) s2.2 ((U s2.2) - 1)))) (gt (.int .i64) s2.2 ((U s2.2) - 1))).1) s3.1)) (.i .i64 (J (Jn (gt (.int .i64) ((c186 (gt y163 a0.1 (Jn (gt (.int .i64) s2.2 ((U s2.2) - 1)))) (gt (.int .i64) s2.2 ((U s2.2) - 1))).1) s3.1)))) (toNat_av (show @LE.le Int _ 0 (gt (.int .i64) ((c186 (gt y163 a0.1 (Jn (gt (.int .i64) s2.2 ((U s2.2) - 1)))) (gt (.int .i64) s2.2 ((U s2.2) - 1))).1) s3.1) by omega)) ?_
 refine yie 0 1 (wd y228) (U a0.1) (U a0.1) true (Jn (gt (.int .i64) ((c186 (gt y163 a0.1 (Jn (gt (.int .i64) s2.2 ((U s2.2) - 1)))) (gt (.int .i64) s2.2 ((U s2.2) - 1))).1) s3.1)) fo1 ?_
 refine yln 0 1 y228 s3.2.1 (Jn (gt (.int .i64) ((c186 (gt y163 a0.1 (Jn (gt (.int .i64) s2.2 ((U s2.2) - 1)))) (gt (.int .i64) s2.2 ((U s2.2) - 1))).1) s3.1)) 0 5 [(.b (gt y228 s3.2.1 (Jn (gt (.int .i64) ((c186 (gt y163 a0.1 (Jn (gt (.int .i64) s2.2 ((U s2.2) - 1)))) (gt (.int .i64) s2.2 ((U s2.2) - 1))).1) s3.1))).1),(.i .i64 (gt y228 s3.2.1 (Jn (gt (.int .i64) ((c186 (gt y163 a0.1 (Jn (gt (.int .i64) s2.2 ((U s2.2) - 1)))) (gt (.int .i64) s2.2 ((U s2.2) - 1))).1) s3.1))).2.1),(.i .i64 (gt y228 s3.2.1 (Jn (gt (.int .i64) ((c186 (gt y163 a0.1 (Jn (gt (.int .i64) s2.2 ((U s2.2) - 1)))) (gt (.int .i64) s2.2 ((U s2.2) - 1))).1) s3.1))).2.2.1),(.i .i64 (gt y228 s3.2.1 (Jn (gt (.int .i64) ((c186 (gt y163 a0.1 (Jn (gt (.int .i64) s2.2 ((U s2.2) - 1)))) (gt (.int .i64) s2.2 ((U s2.2) - 1))).1) s3.1))).2.2.2.1),(.i .i64 (gt y228 s3.2.1 (Jn (gt (.int .i64) ((c186 (gt y163 a0.1 (Jn (gt (.int .i64) s2.2 ((U s2.2) - 1)))) (gt (.int .i64) s2.2 ((U s2.2) - 1))).1) s3.1))).2.2.2.2)] (by have hl:U s3.2.1=_:=hl3;omega) ?_
 refine yf ?_
 refine xej 2 ?_
 refine zf ?_
 refine xc 1 (fun h19=>?_) fun h19=>?_
 refine xtC 5 ?_
 refine xtC 0 ?_
 exact xe 0
 have h20:=nF h19
 have g21:@Eq Int ((gt y228 s3.2.1 (Jn (gt (.int .i64) ((c186 (gt y163 a0.1 (Jn (gt (.int .i64) s2.2 ((U s2.2) - 1)))) (gt (.int .i64) s2.2 ((U s2.2) - 1))).1) s3.1))).2.1) ((c187 (gt y228 s2.1 (Jn (gt (.int .i64) s2.2 ((U s2.2) - 1)))) ((c185 (gt y163 a0.1 (Jn (gt (.int .i64) s2.2 ((U s2.2) - 1))))).2.1) ((1:Nat):Int)).1.2.1):=ieq_t (aT (aT h20).2).1
 have g22:@Eq Int ((gt y228 s3.2.1 (Jn (gt (.int .i64) ((c186 (gt y163 a0.1 (Jn (gt (.int .i64) s2.2 ((U s2.2) - 1)))) (gt (.int .i64) s2.2 ((U s2.2) - 1))).1) s3.1))).2.2.1) ((c187 (gt y228 s2.1 (Jn (gt (.int .i64) s2.2 ((U s2.2) - 1)))) ((c185 (gt y163 a0.1 (Jn (gt (.int .i64) s2.2 ((U s2.2) - 1))))).2.1) ((1:Nat):Int)).1.2.2.1):=ieq_t (aT (aT (aT h20).2).2).1
 have g23:@Eq Int ((gt y228 s3.2.1 (Jn (gt (.int .i64) ((c186 (gt y163 a0.1 (Jn (gt (.int .i64) s2.2 ((U s2.2) - 1)))) (gt (.int .i64) s2.2 ((U s2.2) - 1))).1) s3.1))).2.2.2.1) ((c187 (gt y228 s2.1 (Jn (gt (.int .i64) s2.2 ((U s2.2) - 1)))) ((c185 (gt y163 a0.1 (Jn (gt (.int .i64) s2.2 ((U s2.2) - 1))))).2.1) ((1:Nat):Int)).1.2.2.2.1):=ieq_t (aT (aT (aT (aT h20).2).2).2).1
 have g24:@Eq Int ((gt y228 s3.2.1 (Jn (gt (.int .i64) ((c186 (gt y163 a0.1 (Jn (gt (.int .i64) s2.2 ((U s2.2) - 1)))) (gt (.int .i64) s2.2 ((U s2.2) - 1))).1) s3.1))).2.2.2.2) ((c187 (gt y228 s2.1 (Jn (gt (.int .i64) s2.2 ((U s2.2) - 1)))) ((c185 (gt y163 a0.1 (Jn (gt (.int .i64) s2.2 ((U s2.2) - 1))))).2.1) ((1:Nat):Int)).1.2.2.2.2):=ieq_t (aT (aT (aT (aT (aT h20).2).2).2).2).1
 refine xsv 3 73 (.i .i64 (wr .i64 ((J s3.1)+(J 1)))) (.i .i64 (J s3.1+1)) (wr_inc om) ?_
 exact xgC 0 11 (.sl (path 11) 0 (wd (.int .i64)) (U s3.2.2) (U s3.2.2) false) [] ⟨⟨⟨⟨by dsimp only;omega,hl3⟩,hd3⟩,hw3,hu3,hk3⟩,by dsimp only;omega⟩ (gN kr) ⟨bS bk1,bS bF,bS trivial,bS bk1,bC ⟨vC,trivial⟩,bS trivial,bS trivial,bS bk1,bS bk1,bS bk1,bS bk1,trivial⟩
 refine xr 2 ?_
 refine yv 3 27 (.i .i64 (gt (.int .i64) ((c186 (gt y163 a0.1 (Jn (gt (.int .i64) s2.2 ((U s2.2) - 1)))) (gt (.int .i64) s2.2 ((U s2.2) - 1))).1) s3.1)) (.i .i64 (J (Jn (gt (.int .i64) ((c186 (gt y163 a0.1 (Jn (gt (.int .i64) s2.2 ((U s2.2) - 1)))) (gt (.int .i64) s2.2 ((U s2.2) - 1))).1) s3.1)))) (toNat_av (show @LE.le Int _ 0 (gt (.int .i64) ((c186 (gt y163 a0.1 (Jn (gt (.int .i64) s2.2 ((U s2.2) - 1)))) (gt (.int .i64) s2.2 ((U s2.2) - 1))).1) s3.1) by omega)) ?_
 refine yie 0 1 (wd y228) (U a0.1) (U a0.1) true (Jn (gt (.int .i64) ((c186 (gt y163 a0.1 (Jn (gt (.int .i64) s2.2 ((U s2.2) - 1)))) (gt (.int .i64) s2.2 ((U s2.2) - 1))).1) s3.1)) fo1 ?_
 refine yst 0 1 229 y228 s3.2.1 (Jn (gt (.int .i64) ((c186 (gt y163 a0.1 (Jn (gt (.int .i64) s2.2 ((U s2.2) - 1)))) (gt (.int .i64) s2.2 ((U s2.2) - 1))).1) s3.1)) ((c187 (gt y228 s2.1 (Jn (gt (.int .i64) s2.2 ((U s2.2) - 1)))) ((c185 (gt y163 a0.1 (Jn (gt (.int .i64) s2.2 ((U s2.2) - 1))))).2.1) (J 1)).1) (by have hl:U s3.2.1=_:=hl3;omega) ?_
 refine yf ?_
 refine xr 2 ?_
 refine zo 3 (zapn 0 15 2 8 11 (.int .i64) s3.2.2 (gt (.int .i64) ((c186 (gt y163 a0.1 (Jn (gt (.int .i64) s2.2 ((U s2.2) - 1)))) (gt (.int .i64) s2.2 ((U s2.2) - 1))).1) s3.1) fo4 (zf ?_))
 refine yf ?_
 refine xej 4 ?_
 refine zf ?_
 refine xsv 5 73 (.i .i64 (wr .i64 ((J s3.1)+(J 1)))) (.i .i64 (J s3.1+1)) (wr_inc om) ?_
 have hk:=unk_set (fun(h:den y228)=>h.1) (x:=(c187 (gt y228 s2.1 (Jn (gt (.int .i64) s2.2 ((U s2.2) - 1)))) ((c185 (gt y163 a0.1 (Jn (gt (.int .i64) s2.2 ((U s2.2) - 1))))).2.1) (J 1)).1) (show(Jn (gt (.int .i64) ((c186 (gt y163 a0.1 (Jn (gt (.int .i64) s2.2 ((U s2.2) - 1)))) (gt (.int .i64) s2.2 ((U s2.2) - 1))).1) s3.1))<U s3.2.1 by have hl:U s3.2.1=_:=hl3;omega) h18 (hw2 (U s2.2 - 1) om).2
 have hz:U (s3.2.2++[(gt (.int .i64) ((c186 (gt y163 a0.1 (Jn (gt (.int .i64) s2.2 ((U s2.2) - 1)))) (gt (.int .i64) s2.2 ((U s2.2) - 1))).1) s3.1)])=U s3.2.2+1:=La ..
 exact xgC 0 15 (.sl (path 15) 0 (wd (.int .i64)) (U (s3.2.2++[(gt (.int .i64) ((c186 (gt y163 a0.1 (Jn (gt (.int .i64) s2.2 ((U s2.2) - 1)))) (gt (.int .i64) s2.2 ((U s2.2) - 1))).1) s3.1)])) (U (s3.2.2++[(gt (.int .i64) ((c186 (gt y163 a0.1 (Jn (gt (.int .i64) s2.2 ((U s2.2) - 1)))) (gt (.int .i64) s2.2 ((U s2.2) - 1))).1) s3.1)])) false) [] ⟨⟨⟨⟨by dsimp only;omega,List.length_set.trans hl3⟩,by dsimp only;omega⟩,allw_push hw3 hl3 om om (hw2 (U s2.2 - 1) om).2,by dsimp only;omega,gt_set (f:=(fun(h:den y228)=>h.1)) om hk3 (hw2 (U s2.2 - 1) om).2⟩,by dsimp only;omega⟩ (gN kr) ⟨bS bk1,bS bF,bS trivial,bS bk1,bC ⟨vC,trivial⟩,bS trivial,bS trivial,bS bk1,bS bk1,bS bk1,bS bk1,trivial⟩
 refine xbC 1 ?_
 have g13:=le_of_nle h12
 exact xgC 2 11 (.sl (path 11) 0 (wd (.int .i64)) (U s3.2.2) (U s3.2.2) false) [] ⟨⟨⟨hl3,hu3⟩,hw3⟩,hd3⟩ (gN kr) ⟨bS bk1,bS bF,bS trivial,bS bk1,bC ⟨vC,trivial⟩,bS trivial,trivial⟩
 refine xbC 1 ?_
 have g7:=le_of_nle h6
 refine xhv 3 3 (.cs 107 [(.sl (path 1) 0 (wd y228) (U a0.1) (U a0.1) true)] false) (.cs 107 [.sl (path 1) 0 (wd y228) (U s2.1) (U s2.1) true] false) (by rw[hl2]) ?_
 refine xgvC 0 3 107 1 229 (U s2.1) true y228 s2.1 (by have hl:=hl2;omega) ?_
 exact xe 2
theorem p106 {a0:den y26} (h:0<U a0.1∧U a0.1≤100000):k106.F (a0,())=some (c106 a0):=if_pos h
theorem o106:OK Bn k106:=xOp fun x (hp:0<U x.1.1∧U x.1.1≤100000)=>t106 _ hp.1 hp.2
end Go.Ev
end
