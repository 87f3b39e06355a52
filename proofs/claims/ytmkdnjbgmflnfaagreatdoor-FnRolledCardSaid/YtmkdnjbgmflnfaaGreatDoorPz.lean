/- A part of the proof that FnRolled returns true; no condition. -/
import Derived.Test.YtmkdnjbgmflnfaaGreatDoorPv
import Derived.Test.YtmkdnjbgmflnfaaGreatDoorPy
import Derived.Test.YtmkdnjbgmflnfaaGreatDoorPa
import Derived.Test.YtmkdnjbgmflnfaaGreatDoorPw
import Derived.Test.YtmkdnjbgmflnfaaGreatDoorPo
import Derived.Test.YtmkdnjbgmflnfaaGreatDoorPx
set_option linter.all false
set_option maxRecDepth 100000
open List renaming length→U
open Int renaming ofNat→J,toNat→Jn
open Go.Ev
attribute [local irreducible] GC RJ KC KM cAt cOn runC stp brC bodyC cvC rsC rdC regC loopC endC skpC extC retC evJ RS.at RS.put RS.okS RS.okR RS.all RS.fst endV endVM grpA grpB grpR grpD grpO RunOps RunD bodyF resF argsFrom
noncomputable section
namespace Go.Ev
open Go.Proofs
variable {Bn:Nat} [BOk Bn]
theorem cw2_7 (c:Nat) (hc:chr c) (bw:Blk) (t:Nat) (X1 X2:Nat→AV) (Y1 Y2:Nat→Blk) (u1 u2:den zJob) (rest:List (den zJob)):gc2 Bn 7 c bw t X1 X2 Y1 Y2 u1 u2 rest=gk2 7 c bw t X1 X2 Y1 Y2 u1 u2 rest:=by
 rcases chr_cases hc with rfl|rfl|rfl|rfl|rfl|rfl|rfl|rfl|rfl<;>kernel_rfl
theorem cw2_8 (c:Nat) (hc:chr c) (bw:Blk) (t:Nat) (X1 X2:Nat→AV) (Y1 Y2:Nat→Blk) (u1 u2:den zJob) (rest:List (den zJob)):gc2 Bn 8 c bw t X1 X2 Y1 Y2 u1 u2 rest=gk2 8 c bw t X1 X2 Y1 Y2 u1 u2 rest:=by
 rcases chr_cases hc with rfl|rfl|rfl|rfl|rfl|rfl|rfl|rfl|rfl<;>kernel_rfl
theorem cw2_9 (c:Nat) (hc:chr c) (bw:Blk) (t:Nat) (X1 X2:Nat→AV) (Y1 Y2:Nat→Blk) (u1 u2:den zJob) (rest:List (den zJob)):gc2 Bn 9 c bw t X1 X2 Y1 Y2 u1 u2 rest=gk2 9 c bw t X1 X2 Y1 Y2 u1 u2 rest:=by
 rcases chr_cases hc with rfl|rfl|rfl|rfl|rfl|rfl|rfl|rfl|rfl<;>kernel_rfl
theorem cw2_10 (c:Nat) (hc:chr c) (bw:Blk) (t:Nat) (X1 X2:Nat→AV) (Y1 Y2:Nat→Blk) (u1 u2:den zJob) (rest:List (den zJob)):gc2 Bn 10 c bw t X1 X2 Y1 Y2 u1 u2 rest=gk2 10 c bw t X1 X2 Y1 Y2 u1 u2 rest:=by
 rcases chr_cases hc with rfl|rfl|rfl|rfl|rfl|rfl|rfl|rfl|rfl<;>kernel_rfl
theorem cw2_11 (c:Nat) (hc:chr c) (bw:Blk) (t:Nat) (X1 X2:Nat→AV) (Y1 Y2:Nat→Blk) (u1 u2:den zJob) (rest:List (den zJob)):gc2 Bn 11 c bw t X1 X2 Y1 Y2 u1 u2 rest=gk2 11 c bw t X1 X2 Y1 Y2 u1 u2 rest:=by
 rcases chr_cases hc with rfl|rfl|rfl|rfl|rfl|rfl|rfl|rfl|rfl<;>kernel_rfl
theorem cw2_12 (c:Nat) (hc:chr c) (bw:Blk) (t:Nat) (X1 X2:Nat→AV) (Y1 Y2:Nat→Blk) (u1 u2:den zJob) (rest:List (den zJob)):gc2 Bn 12 c bw t X1 X2 Y1 Y2 u1 u2 rest=gk2 12 c bw t X1 X2 Y1 Y2 u1 u2 rest:=by
 rcases chr_cases hc with rfl|rfl|rfl|rfl|rfl|rfl|rfl|rfl|rfl<;>kernel_rfl
theorem cw2_13 (c:Nat) (hc:chr c) (bw:Blk) (t:Nat) (X1 X2:Nat→AV) (Y1 Y2:Nat→Blk) (u1 u2:den zJob) (rest:List (den zJob)):gc2 Bn 13 c bw t X1 X2 Y1 Y2 u1 u2 rest=gk2 13 c bw t X1 X2 Y1 Y2 u1 u2 rest:=by
 rcases chr_cases hc with rfl|rfl|rfl|rfl|rfl|rfl|rfl|rfl|rfl<;>kernel_rfl
variable {Bn:Nat} [BOk Bn]
theorem cw2_14 (c:Nat) (hc:chr c) (bw:Blk) (t:Nat) (X1 X2:Nat→AV) (Y1 Y2:Nat→Blk) (u1 u2:den zJob) (rest:List (den zJob)):gc2 Bn 14 c bw t X1 X2 Y1 Y2 u1 u2 rest=gk2 14 c bw t X1 X2 Y1 Y2 u1 u2 rest:=by
 rcases chr_cases hc with rfl|rfl|rfl|rfl|rfl|rfl|rfl|rfl|rfl<;>kernel_rfl
theorem cw2_15 (c:Nat) (hc:chr c) (bw:Blk) (t:Nat) (X1 X2:Nat→AV) (Y1 Y2:Nat→Blk) (u1 u2:den zJob) (rest:List (den zJob)):gc2 Bn 15 c bw t X1 X2 Y1 Y2 u1 u2 rest=gk2 15 c bw t X1 X2 Y1 Y2 u1 u2 rest:=by
 rcases chr_cases hc with rfl|rfl|rfl|rfl|rfl|rfl|rfl|rfl|rfl<;>kernel_rfl
theorem cw2_16 (c:Nat) (hc:chr c) (bw:Blk) (t:Nat) (X1 X2:Nat→AV) (Y1 Y2:Nat→Blk) (u1 u2:den zJob) (rest:List (den zJob)):gc2 Bn 16 c bw t X1 X2 Y1 Y2 u1 u2 rest=gk2 16 c bw t X1 X2 Y1 Y2 u1 u2 rest:=by
 rcases chr_cases hc with rfl|rfl|rfl|rfl|rfl|rfl|rfl|rfl|rfl<;>kernel_rfl
theorem cw2_17 (c:Nat) (hc:chr c) (bw:Blk) (t:Nat) (X1 X2:Nat→AV) (Y1 Y2:Nat→Blk) (u1 u2:den zJob) (rest:List (den zJob)):gc2 Bn 17 c bw t X1 X2 Y1 Y2 u1 u2 rest=gk2 17 c bw t X1 X2 Y1 Y2 u1 u2 rest:=by
 rcases chr_cases hc with rfl|rfl|rfl|rfl|rfl|rfl|rfl|rfl|rfl<;>kernel_rfl
theorem cw2_18 (c:Nat) (hc:chr c) (bw:Blk) (t:Nat) (X1 X2:Nat→AV) (Y1 Y2:Nat→Blk) (u1 u2:den zJob) (rest:List (den zJob)):gc2 Bn 18 c bw t X1 X2 Y1 Y2 u1 u2 rest=gk2 18 c bw t X1 X2 Y1 Y2 u1 u2 rest:=by
 rcases chr_cases hc with rfl|rfl|rfl|rfl|rfl|rfl|rfl|rfl|rfl<;>kernel_rfl
theorem cw2_19 (c:Nat) (hc:chr c) (bw:Blk) (t:Nat) (X1 X2:Nat→AV) (Y1 Y2:Nat→Blk) (u1 u2:den zJob) (rest:List (den zJob)):gc2 Bn 19 c bw t X1 X2 Y1 Y2 u1 u2 rest=gk2 19 c bw t X1 X2 Y1 Y2 u1 u2 rest:=by
 rcases chr_cases hc with rfl|rfl|rfl|rfl|rfl|rfl|rfl|rfl|rfl<;>kernel_rfl
theorem cw2_20 (c:Nat) (bw:Blk) (t:Nat) (X1 X2:Nat→AV) (Y1 Y2:Nat→Blk) (u1 u2:den zJob) (rest:List (den zJob)):gc2 Bn 20 c bw t X1 X2 Y1 Y2 u1 u2 rest=gk2 20 c bw t X1 X2 Y1 Y2 u1 u2 rest:=by
 kernel_rfl
section
variable {Bn:Nat} [BOk Bn]
theorem cwa0 (p c:Nat) (hp:p≤20) (hc:chr c) (bw:Blk) (t:Nat) (rest:List (den zJob)):
 sumJ 0 (zJ Bn bw t 0 [] [] (vJ p 1 c::rest))=wantJ bw t 0 [] [] (vJ p 1 c::rest) (jX ⟨p,false,false⟩ 1 c) (jY ⟨p,false,false⟩ 1 c):=by
 match p,hp with
 |0,_=>exact cw0_0 c hc bw t rest
 |1,_=>exact cw0_1 c hc bw t rest
 |2,_=>exact cw0_2 c hc bw t rest
 |3,_=>exact cw0_3 c hc bw t rest
 |4,_=>exact cw0_4 c hc bw t rest
 |5,_=>exact cw0_5 c hc bw t rest
 |6,_=>exact cw0_6 c hc bw t rest
 |7,_=>exact cw0_7 c hc bw t rest
 |8,_=>exact cw0_8 c hc bw t rest
 |9,_=>exact cw0_9 c hc bw t rest
 |10,_=>exact cw0_10 c hc bw t rest
 |11,_=>exact cw0_11 c hc bw t rest
 |12,_=>exact cw0_12 c hc bw t rest
 |13,_=>exact cw0_13 c hc bw t rest
 |14,_=>exact cw0_14 c hc bw t rest
 |15,_=>exact cw0_15 c hc bw t rest
 |16,_=>exact cw0_16 c hc bw t rest
 |17,_=>exact cw0_17 c hc bw t rest
 |18,_=>exact cw0_18 c hc bw t rest
 |19,_=>exact cw0_19 c hc bw t rest
 |20,_=>exact cw0_20 c bw t rest
 |n+21,h=>exact absurd h om
theorem cwa1 (p c:Nat) (hp:p≤20) (hc:chr c) (bw:Blk) (t:Nat) (X1:Nat→AV) (Y1:Nat→Blk) (u1:den zJob) (rest:List (den zJob)):
 sumJ 1 (zJ Bn bw t 1 (cells52 X1) (yj Y1) (u1::vJ p 2 c::rest))=wantJ bw t 1 (cells52 X1) (yj Y1) (u1::vJ p 2 c::rest) (jX ⟨p,false,false⟩ 2 c) (jY ⟨p,false,false⟩ 2 c):=by
 match p,hp with
 |0,_=>exact cw1_0 c hc bw t X1 Y1 u1 rest
 |1,_=>exact cw1_1 c hc bw t X1 Y1 u1 rest
 |2,_=>exact cw1_2 c hc bw t X1 Y1 u1 rest
 |3,_=>exact cw1_3 c hc bw t X1 Y1 u1 rest
 |4,_=>exact cw1_4 c hc bw t X1 Y1 u1 rest
 |5,_=>exact cw1_5 c hc bw t X1 Y1 u1 rest
 |6,_=>exact cw1_6 c hc bw t X1 Y1 u1 rest
 |7,_=>exact cw1_7 c hc bw t X1 Y1 u1 rest
 |8,_=>exact cw1_8 c hc bw t X1 Y1 u1 rest
 |9,_=>exact cw1_9 c hc bw t X1 Y1 u1 rest
 |10,_=>exact cw1_10 c hc bw t X1 Y1 u1 rest
 |11,_=>exact cw1_11 c hc bw t X1 Y1 u1 rest
 |12,_=>exact cw1_12 c hc bw t X1 Y1 u1 rest
 |13,_=>exact cw1_13 c hc bw t X1 Y1 u1 rest
 |14,_=>exact cw1_14 c hc bw t X1 Y1 u1 rest
 |15,_=>exact cw1_15 c hc bw t X1 Y1 u1 rest
 |16,_=>exact cw1_16 c hc bw t X1 Y1 u1 rest
 |17,_=>exact cw1_17 c hc bw t X1 Y1 u1 rest
 |18,_=>exact cw1_18 c hc bw t X1 Y1 u1 rest
 |19,_=>exact cw1_19 c hc bw t X1 Y1 u1 rest
 |20,_=>exact cw1_20 c bw t X1 Y1 u1 rest
 |n+21,h=>exact absurd h om
theorem cwa2 (p c:Nat) (hp:p≤20) (hc:chr c) (bw:Blk) (t:Nat) (X1 X2:Nat→AV) (Y1 Y2:Nat→Blk) (u1 u2:den zJob) (rest:List (den zJob)):
 sumJ 2 (zJ Bn bw t 2 (cat (cells52 X1) (cells52 X2)) (cat (yj Y1) (yj Y2)) (u1::u2::vJ p 3 c::rest))=wantJ bw t 2 (cat (cells52 X1) (cells52 X2)) (cat (yj Y1) (yj Y2)) (u1::u2::vJ p 3 c::rest) (jX ⟨p,false,false⟩ 3 c) (jY ⟨p,false,false⟩ 3 c):=by
 match p,hp with
 |0,_=>exact cw2_0 c hc bw t X1 X2 Y1 Y2 u1 u2 rest
 |1,_=>exact cw2_1 c hc bw t X1 X2 Y1 Y2 u1 u2 rest
 |2,_=>exact cw2_2 c hc bw t X1 X2 Y1 Y2 u1 u2 rest
 |3,_=>exact cw2_3 c hc bw t X1 X2 Y1 Y2 u1 u2 rest
 |4,_=>exact cw2_4 c hc bw t X1 X2 Y1 Y2 u1 u2 rest
 |5,_=>exact cw2_5 c hc bw t X1 X2 Y1 Y2 u1 u2 rest
 |6,_=>exact cw2_6 c hc bw t X1 X2 Y1 Y2 u1 u2 rest
 |7,_=>exact cw2_7 c hc bw t X1 X2 Y1 Y2 u1 u2 rest
 |8,_=>exact cw2_8 c hc bw t X1 X2 Y1 Y2 u1 u2 rest
 |9,_=>exact cw2_9 c hc bw t X1 X2 Y1 Y2 u1 u2 rest
 |10,_=>exact cw2_10 c hc bw t X1 X2 Y1 Y2 u1 u2 rest
 |11,_=>exact cw2_11 c hc bw t X1 X2 Y1 Y2 u1 u2 rest
 |12,_=>exact cw2_12 c hc bw t X1 X2 Y1 Y2 u1 u2 rest
 |13,_=>exact cw2_13 c hc bw t X1 X2 Y1 Y2 u1 u2 rest
 |14,_=>exact cw2_14 c hc bw t X1 X2 Y1 Y2 u1 u2 rest
 |15,_=>exact cw2_15 c hc bw t X1 X2 Y1 Y2 u1 u2 rest
 |16,_=>exact cw2_16 c hc bw t X1 X2 Y1 Y2 u1 u2 rest
 |17,_=>exact cw2_17 c hc bw t X1 X2 Y1 Y2 u1 u2 rest
 |18,_=>exact cw2_18 c hc bw t X1 X2 Y1 Y2 u1 u2 rest
 |19,_=>exact cw2_19 c hc bw t X1 X2 Y1 Y2 u1 u2 rest
 |20,_=>exact cw2_20 c bw t X1 X2 Y1 Y2 u1 u2 rest
 |n+21,h=>exact absurd h om
end
def vv (P C:Nat→Nat) (k:Nat):den zJob:=vJ (P k) k (C k)
def XX (P C:Nat→Nat) (k:Nat):Nat→AV:=jX ⟨P k,false,false⟩ k (C k)
def YY (P C:Nat→Nat) (k:Nat):Nat→Blk:=jY ⟨P k,false,false⟩ k (C k)
def jsM (P C:Nat→Nat):Nat→List (den zJob)
 |0=>[]
 |1=>[vv P C 1]
 |2=>[vv P C 1,vv P C 2]
 |_=>[vv P C 1,vv P C 2,vv P C 3]
def lM (P C:Nat→Nat):Nat→List AV
 |0=>[]
 |1=>cells52 (XX P C 1)
 |2=>cat (cells52 (XX P C 1)) (cells52 (XX P C 2))
 |_=>cat (cat (cells52 (XX P C 1)) (cells52 (XX P C 2))) (cells52 (XX P C 3))
def yM (P C:Nat→Nat):Nat→List (Option Blk)
 |0=>[]
 |1=>yj (YY P C 1)
 |2=>cat (yj (YY P C 1)) (yj (YY P C 2))
 |_=>cat (cat (yj (YY P C 1)) (yj (YY P C 2))) (yj (YY P C 3))
section
variable {P C:Nat→Nat}
theorem jsM_len {m:Nat} (hm:m≤3):(jsM P C m).length=m:=by
 match m,hm with
 |0,_=>rfl
 |1,_=>rfl
 |2,_=>rfl
 |3,_=>rfl
theorem cellsX {k:Nat}{j:Nat}{x:AV} (h:(cells52 (XX P C k))[j]? =some x):idB (slots k) x:=
 cells52_idB (S:=slots k) (X:=XX P C k) (fun i=>jX_idB) x (List.mem_of_getElem? h)
theorem yjY {k:Nat}{j:Nat}{c:Option Blk} (h:(yj (YY P C k))[j]? =some c):∃b,c=some b∧(∀f:Id→Id,b.ren f=b)∧blkOk 52 (some b):=by
 match j,h with
 |0,h=>exact⟨_,(Oi h).symm,fun f=>sBk_ren (t:=.str) rfl f,sBk_ok (t:=.str) rfl 52⟩
 |1,h=>exact⟨_,(Oi h).symm,fun f=>sBk_ren (t:=zRef) rfl f,sBk_ok (t:=zRef) rfl 52⟩
 |2,h=>exact⟨_,(Oi h).symm,fun f=>sBk_ren (t:=zEvent) rfl f,sBk_ok (t:=zEvent) rfl 52⟩
 |j+3,h=>cases h
theorem preJ {i:Nat} (hi:i=0∨i=1∨i=2):PreJ i (lM P C i) (yM P C i):=by
 rcases hi with rfl|rfl|rfl
 ·exact⟨rfl,fun j x h=>(by cases h),rfl,fun j c h=>(by cases h)⟩
 ·exact⟨rfl,fun j x h=>⟨1,om,om,cellsX h⟩,rfl,fun j c h=>yjY h⟩
 ·refine⟨rfl,fun j x h=>?_,rfl,fun j c h=>?_⟩
  ·have h:(cat (cells52 (XX P C 1)) (cells52 (XX P C 2)))[j]? =some x:=h
   rw[cat_get _ _ 52 rfl] at h
   split at h
   ·exact⟨1,om,om,cellsX h⟩
   ·exact⟨2,om,om,cellsX h⟩
  ·have h:(cat (yj (YY P C 1)) (yj (YY P C 2)))[j]? =some c:=h
   rw[cat_get _ _ 3 rfl] at h
   split at h
   ·exact yjY h
   ·exact yjY h
theorem CwJ_len (bw:Blk) (t:Nat){i:Nat} (hi:i≤3):(CwJ bw t i (lM P C i) (yM P C i)).length=52:=by
 match i,hi with
 |0,_=>rfl
 |1,_=>rfl
 |2,_=>rfl
 |3,_=>rfl
variable {Bn:Nat} [BOk Bn]
theorem cwr {i m:Nat} (him:i<m) (hm:m≤3) (hP:∀k,P k≤20) (hC:∀k,1≤k→k≤m→chr (C k)) (bw:Blk) (t:Nat):
 sumJ i (zJ Bn bw t i (lM P C i) (yM P C i) (jsM P C m))=wantJ bw t i (lM P C i) (yM P C i) (jsM P C m) (XX P C (i+1)) (YY P C (i+1)):=by
 have h6:(i=0∧m=1)∨(i=0∧m=2)∨(i=0∧m=3)∨(i=1∧m=2)∨(i=1∧m=3)∨(i=2∧m=3):=om
 rcases h6 with ⟨rfl,rfl⟩|⟨rfl,rfl⟩|⟨rfl,rfl⟩|⟨rfl,rfl⟩|⟨rfl,rfl⟩|⟨rfl,rfl⟩
 ·exact cwa0 (P 1) (C 1) (hP 1) (hC 1 om om) bw t []
 ·exact cwa0 (P 1) (C 1) (hP 1) (hC 1 om om) bw t [vv P C 2]
 ·exact cwa0 (P 1) (C 1) (hP 1) (hC 1 om om) bw t [vv P C 2,vv P C 3]
 ·exact cwa1 (P 2) (C 2) (hP 2) (hC 2 om om) bw t (XX P C 1) (YY P C 1) (vv P C 1) []
 ·exact cwa1 (P 2) (C 2) (hP 2) (hC 2 om om) bw t (XX P C 1) (YY P C 1) (vv P C 1) [vv P C 3]
 ·exact cwa2 (P 3) (C 3) (hP 3) (hC 3 om om) bw t (XX P C 1) (XX P C 2) (YY P C 1) (YY P C 2) (vv P C 1) (vv P C 2) []
theorem jobsLoop {m:Nat} (hm:m≤3) (hP:∀k,P k≤20) (hC:∀k,1≤k→k≤m→chr (C k)){bw:Blk} (hbw:noIdB (some bw)=true) (t:Nat) (Q:Ex→T AV→H→Prop)
 (hex:∀fr,Holds fr (L26 (jsM P C m) m)→Q (.exit 0) fr (hpH 52 (CwJ bw t m (lM P C m) (yM P C m)))):
 SatE 2 PP (GG Bn) 67 (.loop rn26) (mkFr (L26 (jsM P C m) 0)) (hpH 52 (CwJ bw t 0 [] [])) Q:=by
 have key:=SatE.loop (n:=2) (nt:=67) (Q:=Q) (P:=PP) (G:=GG Bn) hB1 (b:=rn26) (fun i:Nat=>L26 (jsM P C m) i) (fun i=>CwJ bw t i (lM P C i) (yM P C i)) (fun i=>m - i) (fun i=>i≤m)
  (fun i hi=>by
   rw[CwJ_len bw t om]
   refine SatE.seq (SatE.of (sV kr ?_))
   refine SatE.seq ?_
   by_cases hlt:i<m
   ·refine eCondT (b:= !iLe (N (jsM P C m).length) (N i)) kr (by rw[iLe_eq,jsM_len hm];simp;omega) ?_
    refine SatE.of (Sat.skip ?_)
    refine SatE.of (Sat.keepL (L26 (jsM P C m) i) ⟨kr,kr,kr,kr,kr,trivial⟩ ?_)
    obtain⟨h1,h2⟩:=endJ (Bn:=Bn) om hbw (preJ (P:=P) (C:=C) om) (cwr (Bn:=Bn) hlt hm hP hC bw t)
    refine S_eq (n':=67) (c':=in26) (h':=hpH 52 (CwJ bw t i (lM P C i) (yM P C i))) rfl kr kr (Sat.ev (call:=EV Bn 60) hmix (EV_ok 60) (isNor_eq h1) ?_)
    refine⟨i+1,om,om,?_⟩
    have hi3:i=0∨i=1∨i=2:=om
    rcases hi3 with rfl|rfl|rfl<;>exact h2
   ·refine eCond (b:= !iLe (N (jsM P C m).length) (N i)) kr (by rw[iLe_eq,jsM_len hm];simp;omega) ?_
    refine SatE.of (Sat.exit ?_)
    obtain rfl:i=m:=om
    refine qEq (h:=hpH 52 (CwJ bw t i (lM P C i) (yM P C i))) kr (hex _ ?_)
    exact⟨kr,kr,kr,kr,kr,trivial⟩) 0 (Nz _) om
 have e:(CwJ bw t 0 (lM P C 0) (yM P C 0)).length=52:=rfl
 rw[e] at key
 exact key
end
variable {Bn:Nat} [BOk Bn]
abbrev pPg:List Par:=[⟨true,zProgram⟩]
abbrev pTg:List Par:=[⟨false,.sl zTrigger⟩]
abbrev pTn:List Par:=[⟨true,.sl zNode⟩]
abbrev pLs:List Par:=[⟨true,zLocks⟩]
abbrev pLp:List Par:=[⟨false,.ptr zLocks⟩]
theorem r58:runAll Bn [] EX 60 58 pPg pPg [((prg_,()),(prg_,()))]=true:=kr
theorem r59:runAll Bn [] EX 60 59 pTg pTg [(([],()),([],()))]=true:=kr
theorem r60:runAll Bn [] EX 60 60 pTn pTn [((tr_,()),(tr_,()))]=true:=kr
theorem r61:runAll Bn [] EX 60 61 pLs pLp [((([],[]),()),(([],[]),()))]=true:=kr
def K58:Con:=tabC 58 pPg pPg [((prg_,()),(prg_,()))]
def K59:Con:=tabC 59 pTg pTg [(([],()),([],()))]
def K60:Con:=tabC 60 pTn pTn [((tr_,()),(tr_,()))]
def K61:Con:=tabC 61 pLs pLp [((([],[]),()),(([],[]),()))]
def Lw:List Con:=[K58,K59,K60,K61]
theorem OLw:Okl Bn Lw:=okC (rows_con (rows_run ok0 r58)) (okC (rows_con (rows_run ok0 r59)) (okC (rows_con (rows_run ok0 r60)) (okC (rows_con (rows_run ok0 r61)) ok0)))
def EndW2 (C:List (Option Blk)) (h:H):Prop:=
 ∀(L:List (List Bool×AV)) (fr:T AV),(∀q∈L,okSlot q.2)→Holds fr L→EndC 2 L C fr h
section
variable {c1 c2 c3:Nat}
theorem step_end2 {k:Nat}{b:Bool} (hk:k=0∨k=1∨k=2∨k=3){r:R}{v:AV}{a':WS} (h:sumR k b r=some (v,Cn c1 c2 c3 a')):∃h2,r=.ok v h2∧EndW2 (Cn c1 c2 c3 a') h2:=by
 obtain⟨h2,g1,g2⟩:=step_endQ hk h
 refine⟨h2,g1,fun L fr hL hf=>?_⟩
 obtain⟨q,q1,q2,q3,g⟩:=g2 L fr hL hf
 refine g.up q1 fun i hi=>?_
 match i,hi with
 |0,_=>exact q2
 |1,_=>exact q3
end
section
variable {P:Program}{G:Gs}{n nt:Nat}{fr:T AV}{h:H}{Q:Ex→T AV→H→Prop}
theorem SatE.kill {c:Code}{p:Id}{b:Blk} (hb:h.get p=some b) (hc:SatE n P G nt c fr (h.put p .dead) Q):SatE n P G nt c fr h Q:=by
 intro K e0 e a0 a hn hs0 hx0 hg hd he hs hf hsz hp
 subst he
 have hk:=kill_st hs hb
 have hx:=kill_ext (e:=e) p
 exact hc K e0 ⟨e.ρ,e.h.put p .dead,e.w,e.F⟩ a0 a hn hs0 (hx0.trans hx) hg hd rfl hk (hf.ext hx) hsz hp
theorem SatE.heap {c:Code} (bs:List (Option Blk)) (hn:h.next=bs.length) (hb:heapL h bs.length=bs) (hc:SatE n P G nt c fr (hpH bs.length bs) Q):SatE n P G nt c fr h Q:=by
 intro K e0 e a0 a hn0 hs0 hx0 hg hd he hs hf hsz hp
 subst he
 have hget:∀id,(hpH bs.length bs).get id=e.h.get id:=fun id=>by
  obtain⟨h1,h2⟩:=hpH_same hb id
  by_cases hlt:unpath id<bs.length
  ·exact h1 hlt
  ·cases h3:(hpH bs.length bs).get id with
   |some b=>exact absurd (h2 b h3) hlt
   |none=>
    cases h4:e.h.get id with
    |none=>rfl
    |some b=>
     obtain⟨k,hk,hk2,_⟩:=hs.kn id (hs.dk id b h4)
     rw[hk2,unpath_path] at hlt;omega
 let e2:Env:=⟨e.ρ,hpH bs.length bs,e.w,e.F⟩
 have hlive:∀id,live e2.h id↔live e.h id:=fun id=>by unfold live;rw[show e2.h.get id=e.h.get id from hget id]
 have hown:∀b,Own e2 b↔Own e b:=fun b=>by
  constructor
  ·rintro ⟨id,h1,h2⟩;exact⟨id,(hlive id).1 h1,h2⟩
  ·rintro ⟨id,h1,h2⟩;exact⟨id,(hlive id).2 h1,h2⟩
 have x0:Ext e e2:={
  next:=by show e.h.next≤bs.length;omega
  kn:=fun _ h=>h
  ren:=fun _ _=>rfl
  fr:=rfl
  heap:=Nr _
  keep:=fun _ _ _=>rfl
  size:=fun _ _=>rfl
  own:=fun b _ ho=>(hown b).1 ho
  pres:=fun id b hb=>⟨b,by rw[show e2.h.get id=e.h.get id from hget id];exact hb⟩
  newk:=fun _ h=>.inl h
  qt:=⟨rfl,rfl,rfl⟩}
 have hs2:St e2:={
  kn:=fun id hk=>by
   obtain⟨k,h1,h2,h3⟩:=hs.kn id hk
   refine⟨k,by show k<bs.length;omega,h2,fun hl=>?_⟩
   rw[show e2.h.get id=e.h.get id from hget id];exact h3 hl
  dk:=fun id b hb=>hs.dk id b (by rw[←hget id];exact hb)
  lo:=by show e.F.lo≤bs.length;rw[←hn];exact hs.lo
  blk:=fun id b hb=>BlkRel.ext x0 (hs.dk id b (by rw[←hget id];exact hb)) rfl b (hs.blk id b (by rw[←hget id];exact hb))
  inj:=fun id id' h1 h2 he=>hs.inj id id' ((hlive id).1 h1) ((hlive id').1 h2) he
  fr:=fun b hb=>⟨(hs.fr b hb).1,fun ho=>(hs.fr b hb).2 ((hown b).1 ho)⟩}
 exact hc K e0 e2 a0 a hn0 hs0 (hx0.trans x0) hg hd rfl hs2 (hf.ext' x0) hsz hp
theorem SatE.keepL {c:Code} (L:List (List Bool×AV)) (hl:Holds fr L) (hc:SatE n P G nt c (mkFr L) h Q):SatE n P G nt c fr h Q:=
 fun K e0 e a0 a hn hs0 hx0 hg hd he hs hf hsz hp=>hc K e0 e a0 a hn hs0 hx0 hg hd he hs (mkFr_rel hf hl) hsz hp
end
def wM (P C:Nat→Nat) (t m:Nat) (bs:List (den zBatch)):den zWorld:=(N t,prg_,[],tr_,([],[]),jsM P C m,N 0,bs)
def HW2:H:=hpH 2 [some .dead,some (.cs 39 zW_ false)]
def wX (t:Nat) (js:List (den zJob)) (bs:List (den zBatch)):den zWorld:=(N t,prg_,[],tr_,([],[]),js,N 0,bs)
def bwX (t:Nat) (js:List (den zJob)) (bs:List (den zBatch)):Blk:=.cs 39 (tc zWorld (wX t js bs)) false
def spW0:List Spc:=.dd::.lv::.lv::cat (dS 37) (.blk (path 3) 39 kWj::dS 11)
def rest26:Code:=sndC (sndC (sndC b26))
section
variable {Bn:Nat} [BOk Bn]
theorem start26 (t:Nat) (js:List (den zJob)) (bs:List (den zBatch)) (Q:Ex→T AV→H→Prop)
 (hloop:SatE 2 PP (GG Bn) 67 (.loop rn26) (mkFr (L26 js 0)) (hpH 52 (CwJ (bwX t js bs) t 0 [] [])) (blkQ 0 (thenQ (fun fr h=>SatE 2 PP (GG Bn) 67 rest26 fr h Q) Q))):
 SatE 2 PP (GG Bn) 67 b26 (argsFrom [.ag (tc zWorld (wX t js bs))] 0 .e) HW2 Q:=by
 refine SatE.seq (SatE.of (sV kr ?_))
 refine SatE.seq (SatE.of (Sat.dregV hmix (callOf_ok (G:=GG Bn) (BOk.lo (B:=Bn)) (OLw (Bn:=Bn))) kr kr kr ?_))
 refine SatE.seq ?_
 refine eRun (call:=EV Bn 60) (EV_ok 60) kr ?_
 refine SatE.toC hB1 (L26 js 0) (CwJ (bwX t js bs) t 0 [] []) ?_ ?_
 ·refine EndCq.up (n:=2) (canon_plainQ (sp:=spW0) kr kr ⟨kr,kr,kr,kr,kr,trivial⟩ ⟨?_,?_,trivial,trivial,trivial,trivial⟩) (by decide) (fun i hi=>?_)
  ·show unpath (path 2)<52
   rw[unpath_path];omega
  ·show unpath (path 40)<52
   rw[unpath_path];omega
  ·match i,hi with
   |0,_=>rfl
   |1,_=>rfl
 ·exact SatE_eq (nt':=67) (c':=.block 0 (.loop rn26)) (h':=hpH 52 (CwJ (bwX t js bs) t 0 [] [])) kr kr rfl rfl (SatE.block hloop)
end
abbrev pVJ:List Par:=[⟨true,y26⟩,⟨false,.sl y228⟩,⟨true,zJob⟩]
variable {Bn:Nat} [BOk Bn]
abbrev pTr:List Par:=[⟨false,.sl zTrigger⟩]
abbrev pTe:List Par:=[⟨true,.sl zNode⟩]
abbrev pLk:List Par:=[⟨true,zLocks⟩]
abbrev pBs:List Par:=[⟨false,.sl zBatch⟩]
theorem r47:runAll Bn [] EX 60 47 pTr pBo [(([],()),(true,()))]=true:=kr
theorem r48:runAll Bn [] EX 60 48 pTe pBo [((tr_,()),(true,()))]=true:=kr
theorem r53:runAll Bn [] EX 60 53 pLk pBo [((([],[]),()),(true,()))]=true:=kr
def bss_:List (denL pBs×denL pBo):=[(([],()),(true,())),(([bt_ 1],()),(true,())),(([bt_ 2],()),(true,())),(([bt_ 3],()),(true,())),(([bt_ 1,bt_ 2],()),(true,())),(([bt_ 1,bt_ 3],()),(true,())),(([bt_ 2,bt_ 1],()),(true,())),(([bt_ 2,bt_ 3],()),(true,())),(([bt_ 3,bt_ 1],()),(true,())),(([bt_ 3,bt_ 2],()),(true,())),(([bt_ 1,bt_ 2,bt_ 3],()),(true,())),(([bt_ 1,bt_ 3,bt_ 2],()),(true,())),(([bt_ 2,bt_ 1,bt_ 3],()),(true,())),(([bt_ 2,bt_ 3,bt_ 1],()),(true,())),(([bt_ 3,bt_ 1,bt_ 2],()),(true,())),(([bt_ 3,bt_ 2,bt_ 1],()),(true,()))]
theorem r54:runAll Bn [] EX 60 54 pBs pBo bss_=true:=kr
def K47:Con:=tabC 47 pTr pBo [(([],()),(true,()))]
def K48:Con:=tabC 48 pTe pBo [((tr_,()),(true,()))]
def K53:Con:=tabC 53 pLk pBo [((([],[]),()),(true,()))]
def K54:Con:=tabC 54 pBs pBo bss_
theorem O47:OK Bn K47:=rows_con (rows_run ok0 r47)
theorem O48:OK Bn K48:=rows_con (rows_run ok0 r48)
theorem O53:OK Bn K53:=rows_con (rows_run ok0 r53)
theorem O54:OK Bn K54:=rows_con (rows_run ok0 r54)
def cW (P C:Nat→Nat) (t m:Nat):List (Option Blk):=CwJ .dead t m (lM P C m) (yM P C m)
def bt26:Code:=bkD (sndC (fsD rest26))
def Lb26 (bs:List (den zBatch)):List (List Bool×AV):=[(path 3,.p (path 40) 0),(path 48,.isl zBatch bs),(path 49,.i .i64 (N bs.length)),(path 50,.i .i64 (N 0))]
def zBt (Bn:Nat) (bw:Blk) (t:Nat) (X1 X2 X3:Nat→AV) (Y1 Y2 Y3:Nat→Blk) (bs:List (den zBatch)):CR:=
 cZ Bn (EV Bn 60) 67 (.block 2 bt26) (mkFr (Lb26 bs)) (hpH 52 (CwJ bw t 3 (cat (cat (cells52 X1) (cells52 X2)) (cells52 X3)) (cat (cat (yj Y1) (yj Y2)) (yj Y3))))
def sumBt (z:CR):Bool×AV×Option (List (Option Blk)):=(isNor z,getV (frZ z) (path 3),canon (specK 0 true (hZ z)) (hZ z))
section
variable {Bn:Nat} [BOk Bn]{P C:Nat→Nat}
theorem at26e {m:Nat} (hm:m≤3) (hP:∀k,P k≤20) (hC:∀k,1≤k→k≤m→chr (C k)) (t:Nat):
 At Bn 26 HW2 [.ag (tc zWorld (wM P C t m []))] (.p (path 40) 0) (hpH 52 (cW P C t m)):=by
 refine At.bodyG Tryz.func26 rfl (b:=b26) kr ?_
 refine Sat.ofN (n:=2) (Nr 2) (start26 t (jsM P C m) [] _ (jobsLoop hm hP hC kr t _ fun fr hh=>?_))
 show SatE 2 PP (GG Bn) 67 rest26 fr _ _
 refine SatE.keepL (L26 (jsM P C m) m) hh ?_
 have h4:m=0∨m=1∨m=2∨m=3:=om
 refine SatE.seq ?_
 rcases h4 with rfl|rfl|rfl|rfl
 ·refine eRun (call:=EV Bn 60) (EV_ok 60) kr ?_
  refine SatE.kill (p:=path 2) (b:=bwX t (jsM P C 0) []) kr ?_
  refine SatE.heap (cW P C t 0) kr kr ?_
  refine SatE.of (sV kr ?_)
  exact SatE.of (sE kr ⟨.inr rfl,kr,kr⟩)
 ·refine eRun (call:=EV Bn 60) (EV_ok 60) kr ?_
  refine SatE.kill (p:=path 2) (b:=bwX t (jsM P C 1) []) kr ?_
  refine SatE.heap (cW P C t 1) kr kr ?_
  refine SatE.of (sV kr ?_)
  exact SatE.of (sE kr ⟨.inr rfl,kr,kr⟩)
 ·refine eRun (call:=EV Bn 60) (EV_ok 60) kr ?_
  refine SatE.kill (p:=path 2) (b:=bwX t (jsM P C 2) []) kr ?_
  refine SatE.heap (cW P C t 2) kr kr ?_
  refine SatE.of (sV kr ?_)
  exact SatE.of (sE kr ⟨.inr rfl,kr,kr⟩)
 ·refine eRun (call:=EV Bn 60) (EV_ok 60) kr ?_
  refine SatE.kill (p:=path 2) (b:=bwX t (jsM P C 3) []) kr ?_
  refine SatE.heap (cW P C t 3) kr kr ?_
  refine SatE.of (sV kr ?_)
  exact SatE.of (sE kr ⟨.inr rfl,kr,kr⟩)
def bsl:List (List (den zBatch)):=bss_.map fun q=>q.1.1
def aW (P:Nat→Nat) (t:Nat) (bs:List (den zBatch)):WS:=⟨⟨P 1,false,false⟩,⟨P 2,false,false⟩,⟨P 3,false,false⟩,t,bs⟩
theorem sbt (bw:Blk) (t:Nat) (X1 X2 X3:Nat→AV) (Y1 Y2 Y3:Nat→Blk) (bs:List (den zBatch)) (hb:bs∈bsl):
 sumBt (zBt Bn bw t X1 X2 X3 Y1 Y2 Y3 bs)=(true,.p (path 40) 0,some (CX X1 X2 X3 Y1 Y2 Y3 t (sAV (t:=zBatch) (path 42) false bs) (sBk (t:=zBatch) 121 false bs))):=by
 simp only[bsl,bss_,List.map_cons,List.map_nil,List.mem_cons,List.not_mem_nil,or_false] at hb
 rcases hb with rfl|rfl|rfl|rfl|rfl|rfl|rfl|rfl|rfl|rfl|rfl|rfl|rfl|rfl|rfl|rfl<;>kernel_rfl
theorem at26b (hP:∀k,P k≤20) (hC:∀k,1≤k→k≤3→chr (C k)) (t:Nat){bs:List (den zBatch)} (hb:bs∈bsl):
 At Bn 26 HW2 [.ag (tc zWorld (wM P C t 3 bs))] (.p (path 40) 0) (hpH 52 (Cn (C 1) (C 2) (C 3) (aW P t bs))):=by
 refine At.bodyG Tryz.func26 rfl (b:=b26) kr ?_
 refine Sat.ofN (n:=2) (Nr 2) (start26 t (jsM P C 3) bs _ (jobsLoop (Nr 3) hP hC kr t _ fun fr hh=>?_))
 show SatE 2 PP (GG Bn) 67 rest26 fr _ _
 refine SatE.keepL (L26 (jsM P C 3) 3) hh ?_
 refine SatE.seq ?_
 refine eRun (call:=EV Bn 60) (EV_ok 60) kr ?_
 refine SatE.keepL (Lb26 bs) ⟨kr,kr,kr,kr,trivial⟩ ?_
 have key:=sbt (Bn:=Bn) (bwX t (jsM P C 3) bs) t (XX P C 1) (XX P C 2) (XX P C 3) (YY P C 1) (YY P C 2) (YY P C 3) bs hb
 injection key with k1 key
 injection key with k2 k3
 refine SatE_eq (nt':=67) (c':=.block 2 bt26) (fr':=mkFr (Lb26 bs)) (h':=hpH 52 (CwJ (bwX t (jsM P C 3) bs) t 3 (lM P C 3) (yM P C 3))) kr kr rfl kr ?_
 refine SatE.of (Sat.ev (call:=EV Bn 60) hmix (EV_ok 60) (isNor_eq k1) ?_)
 have hs:sumR 0 true (.ok (.i .i64 (N 0)) (hZ (zBt Bn (bwX t (jsM P C 3) bs) t (XX P C 1) (XX P C 2) (XX P C 3) (YY P C 1) (YY P C 2) (YY P C 3) bs)))=some (.i .i64 (N 0),Cn (C 1) (C 2) (C 3) (aW P t bs)):=by
  show(Option.rec none (fun C=>some (AV.i .i64 (N 0),C)) (canon _ _):Option (AV×List (Option Blk)))=_
  rw[k3];rfl
 obtain⟨h2,h3,h4⟩:=step_end2 (.inl rfl) hs
 injection h3 with _ h3
 subst h3
 refine SatE.toC hB1 [(path 3,.p (path 40) 0)] (Cn (C 1) (C 2) (C 3) (aW P t bs)) (h4 _ _ (fun q hq=>by rw[List.mem_singleton.1 hq];exact .inl rfl) ⟨k2,trivial⟩) ?_
 exact SatE.of (sE kr ⟨.inr rfl,kr,kr⟩)
end
end Go.Ev
end
