/- A part of the proof that FnRolled returns true; no condition. -/
import Derived.Test.YtmkdnjbgmflnfaaGreatDoorPx
import Derived.Test.YtmkdnjbgmflnfaaGreatDoorPo
import Derived.Test.YtmkdnjbgmflnfaaGreatDoorPw
import Derived.Test.YtmkdnjbgmflnfaaGreatDoorPa
import Derived.Test.YtmkdnjbgmflnfaaGreatDoorPv
set_option linter.all false
set_option maxRecDepth 100000
open List renaming length→U
open Int renaming ofNat→J,toNat→Jn
open Go.Ev
attribute [local irreducible] GC RJ KC KM cAt cOn runC stp brC bodyC cvC rsC rdC regC loopC endC skpC extC retC evJ RS.at RS.put RS.okS RS.okR RS.all RS.fst endV endVM grpA grpB grpR grpD grpO RunOps RunD bodyF resF argsFrom
noncomputable section
namespace Go.Ev
open Go.Proofs Go.RowKit
abbrev pLo:List Par:=[⟨true,zLocals⟩]
abbrev pLi:List Par:=[⟨true,zLocals⟩,⟨false,.int .i64⟩]
def K282 (c:Nat):Con:=tabC 282 pLo pBo [((lo_ c,()),(true,()))]
def loE:den zLocals:=(N 3,[],[],[])
section
variable {Bn:Nat} [BOk Bn]
theorem r282 (c:Nat):runAll Bn [] EX 60 282 pLo pBo [((lo_ c,()),(true,()))]=true:=kr
def EVl (Bn c:Nat):CallF:=evF (tblR Bn [K282 c] EX) 60
theorem EVl_ok (c:Nat):CallOK PP (GG Bn) (EVl Bn c):=evF_sound hmix (tblR_ok (okC (rows_con (rows_run ok0 (r282 c))) ok0) EX_ok) 60
noncomputable def b327:Code:=Option.getD Tryz.f327.body .skip
def t327:Code:=sndC (sndC (sndC b327))
def frE:List (List Bool×AV):=[(path 2,.p (path 1) 0),(path 4,.p (path 2) 0)]
def spL:List Spc:=[.dd,.lv,.blk (path 3) 78 [.sc,.ow (path 3),.ow (path 4),.fz (.sl zBind)],.blk (path 5) 332 [.sc,.sc,.sc,.sc],.blk (path 27) 334 [.sc,.fz zNode,.sc,.fz zNode]]
theorem post327 (c:Nat):S Bn 20 t327 (mkFr frE) (hpH 5 (C5 c)) (fun ex fr' h'=>(ex=.normal∨ex=.ret)∧∃us,resOf (resF Tryz.f327) fr' h'=some us∧decL h' pLi us=some (loE,N 0,())):=by
 refine Sat.seq (Sat.seq ?_)
 refine atRegG 1 (at452 c) kr kr kr ?_
 refine sR kr ?_
 refine sCond (b:=false) kr rfl ?_
 refine Sat.skip ?_
 refine Sat.ev (call:=EV Bn 60) hmix (EV_ok 60) (isRet_eq kr) ?_
 exact ze (res:=resF Tryz.f327) (rs:=pLi) (y:=(loE,N 0,())) (y':=(loE,N 0,())) rfl kr
theorem chr_cases {c:Nat} (h:chr c):c=49∨c=50∨c=51∨c=52∨c=53∨c=54∨c=55∨c=56∨c=57:=by
 have:=h.1
 have:=h.2
 omega
def zl1 (Bn c:Nat):CR:=cZ Bn (EVl Bn c) 20 (fstD b327) (argsFrom (encL pLo (lo_ c,())) 0 .e) H0
def zl2 (Bn c:Nat):CR:=cZ Bn (EVl Bn c) 20 (fstD (sndC b327)) (frZ (zl1 Bn c)) (hZ (zl1 Bn c))
def zl3 (Bn c:Nat):CR:=cZ Bn (EVl Bn c) 20 (fstD (sndC (sndC b327))) (frZ (zl2 Bn c)) (hZ (zl2 Bn c))
theorem kokOf (c:Nat) (h1:isNor (zl1 Bn c)=true) (h2:isNor (zl2 Bn c)=true) (h3:isNor (zl3 Bn c)=true) (h4:canon spL (hZ (zl3 Bn c))=some (C5 c)) (h5:getV (frZ (zl3 Bn c)) (path 2)=.p (path 1) 0) (h6:getV (frZ (zl3 Bn c)) (path 4)=.p (path 3) 0):
 KOk PP (GG Bn) 327 pLo pLi (lo_ c,()) (loE,N 0,()):=by
 refine fn_intro (G:=GG Bn) (b:=b327) (res:=resF Tryz.f327) hmix Tryz.func327 kr rfl kr kr kr (BOk.lo (B:=Bn)) fun _=>?_
 refine Sat.ofN (n:=0) (Nr 0) ?_
 refine eRun (call:=EVl Bn c) (EVl_ok c) h1 ?_
 refine eRun (call:=EVl Bn c) (EVl_ok c) h2 ?_
 refine eRun (call:=EVl Bn c) (EVl_ok c) h3 ?_
 refine SatE.toC hB1 frE (C5 c) (canon_plain (sp:=spL) h4 kr ⟨h5.trans kr,h6.trans kr,trivial⟩ ⟨?_,?_,trivial⟩) (SatE_eq (h':=hpH 5 (C5 c)) kr kr rfl rfl (SatE.of (post327 c)))
 ·show unpath (path 1)<5
  rw[unpath_path];omega
 ·show unpath (path 2)<5
  rw[unpath_path];omega
theorem kok327 (c:Nat) (hc:chr c):KOk PP (GG Bn) 327 pLo pLi (lo_ c,()) (loE,N 0,()):=by
 rcases chr_cases hc with rfl|rfl|rfl|rfl|rfl|rfl|rfl|rfl|rfl<;>exact kokOf _ kr kr kr kr kr kr
end
end Go.Ev
end
noncomputable section
namespace Go.Ev
open Go.Proofs
variable {Bn:Nat} [BOk Bn]
theorem cw0_0 (c:Nat) (hc:chr c) (bw:Blk) (t:Nat) (rest:List (den zJob)):gc0 Bn 0 c bw t rest=gk0 0 c bw t rest:=by
 rcases chr_cases hc with rfl|rfl|rfl|rfl|rfl|rfl|rfl|rfl|rfl<;>kernel_rfl
theorem cw0_1 (c:Nat) (hc:chr c) (bw:Blk) (t:Nat) (rest:List (den zJob)):gc0 Bn 1 c bw t rest=gk0 1 c bw t rest:=by
 rcases chr_cases hc with rfl|rfl|rfl|rfl|rfl|rfl|rfl|rfl|rfl<;>kernel_rfl
theorem cw0_2 (c:Nat) (hc:chr c) (bw:Blk) (t:Nat) (rest:List (den zJob)):gc0 Bn 2 c bw t rest=gk0 2 c bw t rest:=by
 rcases chr_cases hc with rfl|rfl|rfl|rfl|rfl|rfl|rfl|rfl|rfl<;>kernel_rfl
theorem cw0_3 (c:Nat) (hc:chr c) (bw:Blk) (t:Nat) (rest:List (den zJob)):gc0 Bn 3 c bw t rest=gk0 3 c bw t rest:=by
 rcases chr_cases hc with rfl|rfl|rfl|rfl|rfl|rfl|rfl|rfl|rfl<;>kernel_rfl
theorem cw0_4 (c:Nat) (hc:chr c) (bw:Blk) (t:Nat) (rest:List (den zJob)):gc0 Bn 4 c bw t rest=gk0 4 c bw t rest:=by
 rcases chr_cases hc with rfl|rfl|rfl|rfl|rfl|rfl|rfl|rfl|rfl<;>kernel_rfl
theorem cw0_5 (c:Nat) (hc:chr c) (bw:Blk) (t:Nat) (rest:List (den zJob)):gc0 Bn 5 c bw t rest=gk0 5 c bw t rest:=by
 rcases chr_cases hc with rfl|rfl|rfl|rfl|rfl|rfl|rfl|rfl|rfl<;>kernel_rfl
theorem cw0_6 (c:Nat) (hc:chr c) (bw:Blk) (t:Nat) (rest:List (den zJob)):gc0 Bn 6 c bw t rest=gk0 6 c bw t rest:=by
 rcases chr_cases hc with rfl|rfl|rfl|rfl|rfl|rfl|rfl|rfl|rfl<;>kernel_rfl
variable {Bn:Nat} [BOk Bn]
theorem cw0_7 (c:Nat) (hc:chr c) (bw:Blk) (t:Nat) (rest:List (den zJob)):gc0 Bn 7 c bw t rest=gk0 7 c bw t rest:=by
 rcases chr_cases hc with rfl|rfl|rfl|rfl|rfl|rfl|rfl|rfl|rfl<;>kernel_rfl
theorem cw0_8 (c:Nat) (hc:chr c) (bw:Blk) (t:Nat) (rest:List (den zJob)):gc0 Bn 8 c bw t rest=gk0 8 c bw t rest:=by
 rcases chr_cases hc with rfl|rfl|rfl|rfl|rfl|rfl|rfl|rfl|rfl<;>kernel_rfl
theorem cw0_9 (c:Nat) (hc:chr c) (bw:Blk) (t:Nat) (rest:List (den zJob)):gc0 Bn 9 c bw t rest=gk0 9 c bw t rest:=by
 rcases chr_cases hc with rfl|rfl|rfl|rfl|rfl|rfl|rfl|rfl|rfl<;>kernel_rfl
theorem cw0_10 (c:Nat) (hc:chr c) (bw:Blk) (t:Nat) (rest:List (den zJob)):gc0 Bn 10 c bw t rest=gk0 10 c bw t rest:=by
 rcases chr_cases hc with rfl|rfl|rfl|rfl|rfl|rfl|rfl|rfl|rfl<;>kernel_rfl
theorem cw0_11 (c:Nat) (hc:chr c) (bw:Blk) (t:Nat) (rest:List (den zJob)):gc0 Bn 11 c bw t rest=gk0 11 c bw t rest:=by
 rcases chr_cases hc with rfl|rfl|rfl|rfl|rfl|rfl|rfl|rfl|rfl<;>kernel_rfl
theorem cw0_12 (c:Nat) (hc:chr c) (bw:Blk) (t:Nat) (rest:List (den zJob)):gc0 Bn 12 c bw t rest=gk0 12 c bw t rest:=by
 rcases chr_cases hc with rfl|rfl|rfl|rfl|rfl|rfl|rfl|rfl|rfl<;>kernel_rfl
theorem cw0_13 (c:Nat) (hc:chr c) (bw:Blk) (t:Nat) (rest:List (den zJob)):gc0 Bn 13 c bw t rest=gk0 13 c bw t rest:=by
 rcases chr_cases hc with rfl|rfl|rfl|rfl|rfl|rfl|rfl|rfl|rfl<;>kernel_rfl
variable {Bn:Nat} [BOk Bn]
theorem cw0_14 (c:Nat) (hc:chr c) (bw:Blk) (t:Nat) (rest:List (den zJob)):gc0 Bn 14 c bw t rest=gk0 14 c bw t rest:=by
 rcases chr_cases hc with rfl|rfl|rfl|rfl|rfl|rfl|rfl|rfl|rfl<;>kernel_rfl
theorem cw0_15 (c:Nat) (hc:chr c) (bw:Blk) (t:Nat) (rest:List (den zJob)):gc0 Bn 15 c bw t rest=gk0 15 c bw t rest:=by
 rcases chr_cases hc with rfl|rfl|rfl|rfl|rfl|rfl|rfl|rfl|rfl<;>kernel_rfl
theorem cw0_16 (c:Nat) (hc:chr c) (bw:Blk) (t:Nat) (rest:List (den zJob)):gc0 Bn 16 c bw t rest=gk0 16 c bw t rest:=by
 rcases chr_cases hc with rfl|rfl|rfl|rfl|rfl|rfl|rfl|rfl|rfl<;>kernel_rfl
theorem cw0_17 (c:Nat) (hc:chr c) (bw:Blk) (t:Nat) (rest:List (den zJob)):gc0 Bn 17 c bw t rest=gk0 17 c bw t rest:=by
 rcases chr_cases hc with rfl|rfl|rfl|rfl|rfl|rfl|rfl|rfl|rfl<;>kernel_rfl
theorem cw0_18 (c:Nat) (hc:chr c) (bw:Blk) (t:Nat) (rest:List (den zJob)):gc0 Bn 18 c bw t rest=gk0 18 c bw t rest:=by
 rcases chr_cases hc with rfl|rfl|rfl|rfl|rfl|rfl|rfl|rfl|rfl<;>kernel_rfl
theorem cw0_19 (c:Nat) (hc:chr c) (bw:Blk) (t:Nat) (rest:List (den zJob)):gc0 Bn 19 c bw t rest=gk0 19 c bw t rest:=by
 rcases chr_cases hc with rfl|rfl|rfl|rfl|rfl|rfl|rfl|rfl|rfl<;>kernel_rfl
theorem cw0_20 (c:Nat) (bw:Blk) (t:Nat) (rest:List (den zJob)):gc0 Bn 20 c bw t rest=gk0 20 c bw t rest:=by
 kernel_rfl
variable {Bn:Nat} [BOk Bn]
theorem cw1_0 (c:Nat) (hc:chr c) (bw:Blk) (t:Nat) (X1:Nat→AV) (Y1:Nat→Blk) (u1:den zJob) (rest:List (den zJob)):gc1 Bn 0 c bw t X1 Y1 u1 rest=gk1 0 c bw t X1 Y1 u1 rest:=by
 rcases chr_cases hc with rfl|rfl|rfl|rfl|rfl|rfl|rfl|rfl|rfl<;>kernel_rfl
theorem cw1_1 (c:Nat) (hc:chr c) (bw:Blk) (t:Nat) (X1:Nat→AV) (Y1:Nat→Blk) (u1:den zJob) (rest:List (den zJob)):gc1 Bn 1 c bw t X1 Y1 u1 rest=gk1 1 c bw t X1 Y1 u1 rest:=by
 rcases chr_cases hc with rfl|rfl|rfl|rfl|rfl|rfl|rfl|rfl|rfl<;>kernel_rfl
theorem cw1_2 (c:Nat) (hc:chr c) (bw:Blk) (t:Nat) (X1:Nat→AV) (Y1:Nat→Blk) (u1:den zJob) (rest:List (den zJob)):gc1 Bn 2 c bw t X1 Y1 u1 rest=gk1 2 c bw t X1 Y1 u1 rest:=by
 rcases chr_cases hc with rfl|rfl|rfl|rfl|rfl|rfl|rfl|rfl|rfl<;>kernel_rfl
theorem cw1_3 (c:Nat) (hc:chr c) (bw:Blk) (t:Nat) (X1:Nat→AV) (Y1:Nat→Blk) (u1:den zJob) (rest:List (den zJob)):gc1 Bn 3 c bw t X1 Y1 u1 rest=gk1 3 c bw t X1 Y1 u1 rest:=by
 rcases chr_cases hc with rfl|rfl|rfl|rfl|rfl|rfl|rfl|rfl|rfl<;>kernel_rfl
theorem cw1_4 (c:Nat) (hc:chr c) (bw:Blk) (t:Nat) (X1:Nat→AV) (Y1:Nat→Blk) (u1:den zJob) (rest:List (den zJob)):gc1 Bn 4 c bw t X1 Y1 u1 rest=gk1 4 c bw t X1 Y1 u1 rest:=by
 rcases chr_cases hc with rfl|rfl|rfl|rfl|rfl|rfl|rfl|rfl|rfl<;>kernel_rfl
theorem cw1_5 (c:Nat) (hc:chr c) (bw:Blk) (t:Nat) (X1:Nat→AV) (Y1:Nat→Blk) (u1:den zJob) (rest:List (den zJob)):gc1 Bn 5 c bw t X1 Y1 u1 rest=gk1 5 c bw t X1 Y1 u1 rest:=by
 rcases chr_cases hc with rfl|rfl|rfl|rfl|rfl|rfl|rfl|rfl|rfl<;>kernel_rfl
theorem cw1_6 (c:Nat) (hc:chr c) (bw:Blk) (t:Nat) (X1:Nat→AV) (Y1:Nat→Blk) (u1:den zJob) (rest:List (den zJob)):gc1 Bn 6 c bw t X1 Y1 u1 rest=gk1 6 c bw t X1 Y1 u1 rest:=by
 rcases chr_cases hc with rfl|rfl|rfl|rfl|rfl|rfl|rfl|rfl|rfl<;>kernel_rfl
variable {Bn:Nat} [BOk Bn]
theorem cw1_7 (c:Nat) (hc:chr c) (bw:Blk) (t:Nat) (X1:Nat→AV) (Y1:Nat→Blk) (u1:den zJob) (rest:List (den zJob)):gc1 Bn 7 c bw t X1 Y1 u1 rest=gk1 7 c bw t X1 Y1 u1 rest:=by
 rcases chr_cases hc with rfl|rfl|rfl|rfl|rfl|rfl|rfl|rfl|rfl<;>kernel_rfl
theorem cw1_8 (c:Nat) (hc:chr c) (bw:Blk) (t:Nat) (X1:Nat→AV) (Y1:Nat→Blk) (u1:den zJob) (rest:List (den zJob)):gc1 Bn 8 c bw t X1 Y1 u1 rest=gk1 8 c bw t X1 Y1 u1 rest:=by
 rcases chr_cases hc with rfl|rfl|rfl|rfl|rfl|rfl|rfl|rfl|rfl<;>kernel_rfl
theorem cw1_9 (c:Nat) (hc:chr c) (bw:Blk) (t:Nat) (X1:Nat→AV) (Y1:Nat→Blk) (u1:den zJob) (rest:List (den zJob)):gc1 Bn 9 c bw t X1 Y1 u1 rest=gk1 9 c bw t X1 Y1 u1 rest:=by
 rcases chr_cases hc with rfl|rfl|rfl|rfl|rfl|rfl|rfl|rfl|rfl<;>kernel_rfl
theorem cw1_10 (c:Nat) (hc:chr c) (bw:Blk) (t:Nat) (X1:Nat→AV) (Y1:Nat→Blk) (u1:den zJob) (rest:List (den zJob)):gc1 Bn 10 c bw t X1 Y1 u1 rest=gk1 10 c bw t X1 Y1 u1 rest:=by
 rcases chr_cases hc with rfl|rfl|rfl|rfl|rfl|rfl|rfl|rfl|rfl<;>kernel_rfl
theorem cw1_11 (c:Nat) (hc:chr c) (bw:Blk) (t:Nat) (X1:Nat→AV) (Y1:Nat→Blk) (u1:den zJob) (rest:List (den zJob)):gc1 Bn 11 c bw t X1 Y1 u1 rest=gk1 11 c bw t X1 Y1 u1 rest:=by
 rcases chr_cases hc with rfl|rfl|rfl|rfl|rfl|rfl|rfl|rfl|rfl<;>kernel_rfl
theorem cw1_12 (c:Nat) (hc:chr c) (bw:Blk) (t:Nat) (X1:Nat→AV) (Y1:Nat→Blk) (u1:den zJob) (rest:List (den zJob)):gc1 Bn 12 c bw t X1 Y1 u1 rest=gk1 12 c bw t X1 Y1 u1 rest:=by
 rcases chr_cases hc with rfl|rfl|rfl|rfl|rfl|rfl|rfl|rfl|rfl<;>kernel_rfl
theorem cw1_13 (c:Nat) (hc:chr c) (bw:Blk) (t:Nat) (X1:Nat→AV) (Y1:Nat→Blk) (u1:den zJob) (rest:List (den zJob)):gc1 Bn 13 c bw t X1 Y1 u1 rest=gk1 13 c bw t X1 Y1 u1 rest:=by
 rcases chr_cases hc with rfl|rfl|rfl|rfl|rfl|rfl|rfl|rfl|rfl<;>kernel_rfl
variable {Bn:Nat} [BOk Bn]
theorem cw1_14 (c:Nat) (hc:chr c) (bw:Blk) (t:Nat) (X1:Nat→AV) (Y1:Nat→Blk) (u1:den zJob) (rest:List (den zJob)):gc1 Bn 14 c bw t X1 Y1 u1 rest=gk1 14 c bw t X1 Y1 u1 rest:=by
 rcases chr_cases hc with rfl|rfl|rfl|rfl|rfl|rfl|rfl|rfl|rfl<;>kernel_rfl
theorem cw1_15 (c:Nat) (hc:chr c) (bw:Blk) (t:Nat) (X1:Nat→AV) (Y1:Nat→Blk) (u1:den zJob) (rest:List (den zJob)):gc1 Bn 15 c bw t X1 Y1 u1 rest=gk1 15 c bw t X1 Y1 u1 rest:=by
 rcases chr_cases hc with rfl|rfl|rfl|rfl|rfl|rfl|rfl|rfl|rfl<;>kernel_rfl
theorem cw1_16 (c:Nat) (hc:chr c) (bw:Blk) (t:Nat) (X1:Nat→AV) (Y1:Nat→Blk) (u1:den zJob) (rest:List (den zJob)):gc1 Bn 16 c bw t X1 Y1 u1 rest=gk1 16 c bw t X1 Y1 u1 rest:=by
 rcases chr_cases hc with rfl|rfl|rfl|rfl|rfl|rfl|rfl|rfl|rfl<;>kernel_rfl
theorem cw1_17 (c:Nat) (hc:chr c) (bw:Blk) (t:Nat) (X1:Nat→AV) (Y1:Nat→Blk) (u1:den zJob) (rest:List (den zJob)):gc1 Bn 17 c bw t X1 Y1 u1 rest=gk1 17 c bw t X1 Y1 u1 rest:=by
 rcases chr_cases hc with rfl|rfl|rfl|rfl|rfl|rfl|rfl|rfl|rfl<;>kernel_rfl
theorem cw1_18 (c:Nat) (hc:chr c) (bw:Blk) (t:Nat) (X1:Nat→AV) (Y1:Nat→Blk) (u1:den zJob) (rest:List (den zJob)):gc1 Bn 18 c bw t X1 Y1 u1 rest=gk1 18 c bw t X1 Y1 u1 rest:=by
 rcases chr_cases hc with rfl|rfl|rfl|rfl|rfl|rfl|rfl|rfl|rfl<;>kernel_rfl
theorem cw1_19 (c:Nat) (hc:chr c) (bw:Blk) (t:Nat) (X1:Nat→AV) (Y1:Nat→Blk) (u1:den zJob) (rest:List (den zJob)):gc1 Bn 19 c bw t X1 Y1 u1 rest=gk1 19 c bw t X1 Y1 u1 rest:=by
 rcases chr_cases hc with rfl|rfl|rfl|rfl|rfl|rfl|rfl|rfl|rfl<;>kernel_rfl
theorem cw1_20 (c:Nat) (bw:Blk) (t:Nat) (X1:Nat→AV) (Y1:Nat→Blk) (u1:den zJob) (rest:List (den zJob)):gc1 Bn 20 c bw t X1 Y1 u1 rest=gk1 20 c bw t X1 Y1 u1 rest:=by
 kernel_rfl
variable {Bn:Nat} [BOk Bn]
theorem cw2_0 (c:Nat) (hc:chr c) (bw:Blk) (t:Nat) (X1 X2:Nat→AV) (Y1 Y2:Nat→Blk) (u1 u2:den zJob) (rest:List (den zJob)):gc2 Bn 0 c bw t X1 X2 Y1 Y2 u1 u2 rest=gk2 0 c bw t X1 X2 Y1 Y2 u1 u2 rest:=by
 rcases chr_cases hc with rfl|rfl|rfl|rfl|rfl|rfl|rfl|rfl|rfl<;>kernel_rfl
theorem cw2_1 (c:Nat) (hc:chr c) (bw:Blk) (t:Nat) (X1 X2:Nat→AV) (Y1 Y2:Nat→Blk) (u1 u2:den zJob) (rest:List (den zJob)):gc2 Bn 1 c bw t X1 X2 Y1 Y2 u1 u2 rest=gk2 1 c bw t X1 X2 Y1 Y2 u1 u2 rest:=by
 rcases chr_cases hc with rfl|rfl|rfl|rfl|rfl|rfl|rfl|rfl|rfl<;>kernel_rfl
theorem cw2_2 (c:Nat) (hc:chr c) (bw:Blk) (t:Nat) (X1 X2:Nat→AV) (Y1 Y2:Nat→Blk) (u1 u2:den zJob) (rest:List (den zJob)):gc2 Bn 2 c bw t X1 X2 Y1 Y2 u1 u2 rest=gk2 2 c bw t X1 X2 Y1 Y2 u1 u2 rest:=by
 rcases chr_cases hc with rfl|rfl|rfl|rfl|rfl|rfl|rfl|rfl|rfl<;>kernel_rfl
theorem cw2_3 (c:Nat) (hc:chr c) (bw:Blk) (t:Nat) (X1 X2:Nat→AV) (Y1 Y2:Nat→Blk) (u1 u2:den zJob) (rest:List (den zJob)):gc2 Bn 3 c bw t X1 X2 Y1 Y2 u1 u2 rest=gk2 3 c bw t X1 X2 Y1 Y2 u1 u2 rest:=by
 rcases chr_cases hc with rfl|rfl|rfl|rfl|rfl|rfl|rfl|rfl|rfl<;>kernel_rfl
theorem cw2_4 (c:Nat) (hc:chr c) (bw:Blk) (t:Nat) (X1 X2:Nat→AV) (Y1 Y2:Nat→Blk) (u1 u2:den zJob) (rest:List (den zJob)):gc2 Bn 4 c bw t X1 X2 Y1 Y2 u1 u2 rest=gk2 4 c bw t X1 X2 Y1 Y2 u1 u2 rest:=by
 rcases chr_cases hc with rfl|rfl|rfl|rfl|rfl|rfl|rfl|rfl|rfl<;>kernel_rfl
theorem cw2_5 (c:Nat) (hc:chr c) (bw:Blk) (t:Nat) (X1 X2:Nat→AV) (Y1 Y2:Nat→Blk) (u1 u2:den zJob) (rest:List (den zJob)):gc2 Bn 5 c bw t X1 X2 Y1 Y2 u1 u2 rest=gk2 5 c bw t X1 X2 Y1 Y2 u1 u2 rest:=by
 rcases chr_cases hc with rfl|rfl|rfl|rfl|rfl|rfl|rfl|rfl|rfl<;>kernel_rfl
theorem cw2_6 (c:Nat) (hc:chr c) (bw:Blk) (t:Nat) (X1 X2:Nat→AV) (Y1 Y2:Nat→Blk) (u1 u2:den zJob) (rest:List (den zJob)):gc2 Bn 6 c bw t X1 X2 Y1 Y2 u1 u2 rest=gk2 6 c bw t X1 X2 Y1 Y2 u1 u2 rest:=by
 rcases chr_cases hc with rfl|rfl|rfl|rfl|rfl|rfl|rfl|rfl|rfl<;>kernel_rfl
end Go.Ev
end
