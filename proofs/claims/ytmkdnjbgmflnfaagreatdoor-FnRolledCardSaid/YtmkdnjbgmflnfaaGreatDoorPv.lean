/- A part of the proof that FnRolled returns true; no condition. -/
import Derived.Test.YtmkdnjbgmflnfaaGreatDoorPo
import Derived.Test.YtmkdnjbgmflnfaaGreatDoorPa
import Derived.Test.YtmkdnjbgmflnfaaGreatDoorPp
import Derived.Test.YtmkdnjbgmflnfaaGreatDoorPq
import Derived.Test.YtmkdnjbgmflnfaaGreatDoorPr
import Derived.Test.YtmkdnjbgmflnfaaGreatDoorPs
import Derived.Test.YtmkdnjbgmflnfaaGreatDoorPt
import Derived.Test.YtmkdnjbgmflnfaaGreatDoorPu
set_option linter.all false
set_option maxRecDepth 100000
open List renaming length→U
open Int renaming ofNat→J,toNat→Jn
open Go.Ev
attribute [local irreducible] GC RJ KC KM cAt cOn runC stp brC bodyC cvC rsC rdC regC loopC endC skpC extC retC evJ RS.at RS.put RS.okS RS.okR RS.all RS.fst endV endVM grpA grpB grpR grpD grpO RunOps RunD bodyF resF argsFrom
noncomputable section
namespace Go.Ev
open Go.Proofs
variable {Bn:Nat} [BOk Bn]
theorem st3_16ab_n0 (X1 X2:Nat→AV) (Y1 Y2:Nat→Blk) (t c:Nat):
 sumC 3 true Tryz.f28 (rS Bn 3 (HQ (idX 1 X1) (idX 2 X2) (jX ⟨16,false,true⟩ 3 c) Y1 Y2 (jY ⟨16,false,true⟩ 3 c) t (sAV (t:=zBatch) (path 42) false []) (sBk (t:=zBatch) 121 false [])))=some (.i .i64 (N 0),CX (idX 1 X1) (idX 2 X2) (jX ⟨17,true,true⟩ 3 c) Y1 Y2 (jY ⟨17,true,true⟩ 3 c) t (sAV (t:=zBatch) (path 42) false [(bt_ 3)]) (sBk (t:=zBatch) 121 false [(bt_ 3)])):=kr
theorem st3_16ab_n1 (X1 X2:Nat→AV) (Y1 Y2:Nat→Blk) (t c:Nat) (x0:den zBatch):
 sumC 3 true Tryz.f28 (rS Bn 3 (HQ (idX 1 X1) (idX 2 X2) (jX ⟨16,false,true⟩ 3 c) Y1 Y2 (jY ⟨16,false,true⟩ 3 c) t (sAV (t:=zBatch) (path 42) false [x0]) (sBk (t:=zBatch) 121 false [x0])))=some (.i .i64 (N 0),CX (idX 1 X1) (idX 2 X2) (jX ⟨17,true,true⟩ 3 c) Y1 Y2 (jY ⟨17,true,true⟩ 3 c) t (sAV (t:=zBatch) (path 42) false [x0,(bt_ 3)]) (sBk (t:=zBatch) 121 false [x0,(bt_ 3)])):=kr
theorem st3_16ab_n2 (X1 X2:Nat→AV) (Y1 Y2:Nat→Blk) (t c:Nat) (x0 x1:den zBatch):
 sumC 3 true Tryz.f28 (rS Bn 3 (HQ (idX 1 X1) (idX 2 X2) (jX ⟨16,false,true⟩ 3 c) Y1 Y2 (jY ⟨16,false,true⟩ 3 c) t (sAV (t:=zBatch) (path 42) false [x0,x1]) (sBk (t:=zBatch) 121 false [x0,x1])))=some (.i .i64 (N 0),CX (idX 1 X1) (idX 2 X2) (jX ⟨17,true,true⟩ 3 c) Y1 Y2 (jY ⟨17,true,true⟩ 3 c) t (sAV (t:=zBatch) (path 42) false [x0,x1,(bt_ 3)]) (sBk (t:=zBatch) 121 false [x0,x1,(bt_ 3)])):=kr
theorem st3_16bb_n0 (X1 X2:Nat→AV) (Y1 Y2:Nat→Blk) (t c:Nat):
 sumC 3 true Tryz.f28 (rS Bn 3 (HQ (idX 1 X1) (idX 2 X2) (jX ⟨16,true,true⟩ 3 c) Y1 Y2 (jY ⟨16,true,true⟩ 3 c) t (sAV (t:=zBatch) (path 42) false []) (sBk (t:=zBatch) 121 false [])))=some (.i .i64 (N 0),CX (idX 1 X1) (idX 2 X2) (jX ⟨17,true,true⟩ 3 c) Y1 Y2 (jY ⟨17,true,true⟩ 3 c) t (sAV (t:=zBatch) (path 42) false [(bt_ 3)]) (sBk (t:=zBatch) 121 false [(bt_ 3)])):=kr
theorem st3_16bb_n1 (X1 X2:Nat→AV) (Y1 Y2:Nat→Blk) (t c:Nat) (x0:den zBatch):
 sumC 3 true Tryz.f28 (rS Bn 3 (HQ (idX 1 X1) (idX 2 X2) (jX ⟨16,true,true⟩ 3 c) Y1 Y2 (jY ⟨16,true,true⟩ 3 c) t (sAV (t:=zBatch) (path 42) false [x0]) (sBk (t:=zBatch) 121 false [x0])))=some (.i .i64 (N 0),CX (idX 1 X1) (idX 2 X2) (jX ⟨17,true,true⟩ 3 c) Y1 Y2 (jY ⟨17,true,true⟩ 3 c) t (sAV (t:=zBatch) (path 42) false [x0,(bt_ 3)]) (sBk (t:=zBatch) 121 false [x0,(bt_ 3)])):=kr
theorem st3_16bb_n2 (X1 X2:Nat→AV) (Y1 Y2:Nat→Blk) (t c:Nat) (x0 x1:den zBatch):
 sumC 3 true Tryz.f28 (rS Bn 3 (HQ (idX 1 X1) (idX 2 X2) (jX ⟨16,true,true⟩ 3 c) Y1 Y2 (jY ⟨16,true,true⟩ 3 c) t (sAV (t:=zBatch) (path 42) false [x0,x1]) (sBk (t:=zBatch) 121 false [x0,x1])))=some (.i .i64 (N 0),CX (idX 1 X1) (idX 2 X2) (jX ⟨17,true,true⟩ 3 c) Y1 Y2 (jY ⟨17,true,true⟩ 3 c) t (sAV (t:=zBatch) (path 42) false [x0,x1,(bt_ 3)]) (sBk (t:=zBatch) 121 false [x0,x1,(bt_ 3)])):=kr
def isCn {α:Type} (l:List α):Bool:=List.rec false (fun _ _ _=>true) l
def nx (j:JS):JS:=⟨j.p+1,cd (Nat.beq j.p 19) false (cd j.f1 true (isCn (stkOf (vJ (j.p+1) 1 49)))),cd (Nat.beq j.p 19) false (cd j.f2 true (isCn (refOf (vJ (j.p+1) 1 49))))⟩
def lays:List JS:=[⟨0,false,false⟩,⟨1,false,false⟩,⟨2,false,false⟩,⟨3,false,false⟩,⟨4,false,true⟩,⟨5,true,false⟩,⟨5,true,true⟩,⟨6,false,true⟩,⟨6,true,true⟩,⟨7,true,true⟩,⟨8,true,true⟩,⟨9,true,false⟩,⟨9,true,true⟩,⟨10,false,false⟩,⟨10,true,false⟩,⟨10,true,true⟩,⟨11,false,false⟩,⟨11,true,false⟩,⟨11,true,true⟩,⟨12,false,false⟩,⟨12,true,false⟩,⟨12,true,true⟩,⟨13,false,false⟩,⟨13,true,false⟩,⟨13,true,true⟩,⟨14,false,true⟩,⟨14,true,true⟩,⟨15,true,false⟩,⟨15,true,true⟩,⟨16,false,true⟩,⟨16,true,true⟩,⟨17,true,false⟩,⟨17,true,true⟩,⟨18,false,false⟩,⟨18,true,false⟩,⟨18,true,true⟩,⟨19,false,false⟩,⟨19,true,false⟩,⟨19,true,true⟩,⟨20,false,false⟩]
def chr (c:Nat):Prop:=49≤c∧c≤57
theorem nx_0aa:nx ⟨0,false,false⟩=⟨1,false,false⟩:=kr
theorem nx_1aa:nx ⟨1,false,false⟩=⟨2,false,false⟩:=kr
theorem nx_2aa:nx ⟨2,false,false⟩=⟨3,false,false⟩:=kr
theorem nx_3aa:nx ⟨3,false,false⟩=⟨4,false,true⟩:=kr
theorem nx_4ab:nx ⟨4,false,true⟩=⟨5,true,true⟩:=kr
theorem nx_5ba:nx ⟨5,true,false⟩=⟨6,true,true⟩:=kr
theorem nx_5bb:nx ⟨5,true,true⟩=⟨6,true,true⟩:=kr
theorem nx_6ab:nx ⟨6,false,true⟩=⟨7,true,true⟩:=kr
theorem nx_6bb:nx ⟨6,true,true⟩=⟨7,true,true⟩:=kr
theorem nx_7bb:nx ⟨7,true,true⟩=⟨8,true,true⟩:=kr
theorem nx_8bb:nx ⟨8,true,true⟩=⟨9,true,true⟩:=kr
theorem nx_9ba:nx ⟨9,true,false⟩=⟨10,true,false⟩:=kr
theorem nx_9bb:nx ⟨9,true,true⟩=⟨10,true,true⟩:=kr
theorem nx_10aa:nx ⟨10,false,false⟩=⟨11,false,false⟩:=kr
theorem nx_10ba:nx ⟨10,true,false⟩=⟨11,true,false⟩:=kr
theorem nx_10bb:nx ⟨10,true,true⟩=⟨11,true,true⟩:=kr
theorem nx_11aa:nx ⟨11,false,false⟩=⟨12,false,false⟩:=kr
theorem nx_11ba:nx ⟨11,true,false⟩=⟨12,true,false⟩:=kr
theorem nx_11bb:nx ⟨11,true,true⟩=⟨12,true,true⟩:=kr
theorem nx_12aa:nx ⟨12,false,false⟩=⟨13,false,false⟩:=kr
theorem nx_12ba:nx ⟨12,true,false⟩=⟨13,true,false⟩:=kr
theorem nx_12bb:nx ⟨12,true,true⟩=⟨13,true,true⟩:=kr
theorem nx_13aa:nx ⟨13,false,false⟩=⟨14,false,true⟩:=kr
theorem nx_13ba:nx ⟨13,true,false⟩=⟨14,true,true⟩:=kr
theorem nx_13bb:nx ⟨13,true,true⟩=⟨14,true,true⟩:=kr
theorem nx_14ab:nx ⟨14,false,true⟩=⟨15,true,true⟩:=kr
theorem nx_14bb:nx ⟨14,true,true⟩=⟨15,true,true⟩:=kr
theorem nx_15ba:nx ⟨15,true,false⟩=⟨16,true,true⟩:=kr
theorem nx_15bb:nx ⟨15,true,true⟩=⟨16,true,true⟩:=kr
theorem nx_16ab:nx ⟨16,false,true⟩=⟨17,true,true⟩:=kr
theorem nx_16bb:nx ⟨16,true,true⟩=⟨17,true,true⟩:=kr
theorem nx_17ba:nx ⟨17,true,false⟩=⟨18,true,false⟩:=kr
theorem nx_17bb:nx ⟨17,true,true⟩=⟨18,true,true⟩:=kr
theorem nx_18aa:nx ⟨18,false,false⟩=⟨19,false,false⟩:=kr
theorem nx_18ba:nx ⟨18,true,false⟩=⟨19,true,false⟩:=kr
theorem nx_18bb:nx ⟨18,true,true⟩=⟨19,true,true⟩:=kr
theorem nx_19aa:nx ⟨19,false,false⟩=⟨20,false,false⟩:=kr
theorem nx_19ba:nx ⟨19,true,false⟩=⟨20,false,false⟩:=kr
theorem nx_19bb:nx ⟨19,true,true⟩=⟨20,false,false⟩:=kr
theorem lays_nx:∀j∈lays,j.p<20→nx j∈lays:=by
 intro j hj hp
 unfold lays at hj
 simp only[List.mem_cons,List.not_mem_nil,or_false] at hj
 rcases hj with rfl|rfl|rfl|rfl|rfl|rfl|rfl|rfl|rfl|rfl|rfl|rfl|rfl|rfl|rfl|rfl|rfl|rfl|rfl|rfl|rfl|rfl|rfl|rfl|rfl|rfl|rfl|rfl|rfl|rfl|rfl|rfl|rfl|rfl|rfl|rfl|rfl|rfl|rfl|rfl
 ·rw[nx_0aa];simp[lays]
 ·rw[nx_1aa];simp[lays]
 ·rw[nx_2aa];simp[lays]
 ·rw[nx_3aa];simp[lays]
 ·rw[nx_4ab];simp[lays]
 ·rw[nx_5ba];simp[lays]
 ·rw[nx_5bb];simp[lays]
 ·rw[nx_6ab];simp[lays]
 ·rw[nx_6bb];simp[lays]
 ·rw[nx_7bb];simp[lays]
 ·rw[nx_8bb];simp[lays]
 ·rw[nx_9ba];simp[lays]
 ·rw[nx_9bb];simp[lays]
 ·rw[nx_10aa];simp[lays]
 ·rw[nx_10ba];simp[lays]
 ·rw[nx_10bb];simp[lays]
 ·rw[nx_11aa];simp[lays]
 ·rw[nx_11ba];simp[lays]
 ·rw[nx_11bb];simp[lays]
 ·rw[nx_12aa];simp[lays]
 ·rw[nx_12ba];simp[lays]
 ·rw[nx_12bb];simp[lays]
 ·rw[nx_13aa];simp[lays]
 ·rw[nx_13ba];simp[lays]
 ·rw[nx_13bb];simp[lays]
 ·rw[nx_14ab];simp[lays]
 ·rw[nx_14bb];simp[lays]
 ·rw[nx_15ba];simp[lays]
 ·rw[nx_15bb];simp[lays]
 ·rw[nx_16ab];simp[lays]
 ·rw[nx_16bb];simp[lays]
 ·rw[nx_17ba];simp[lays]
 ·rw[nx_17bb];simp[lays]
 ·rw[nx_18aa];simp[lays]
 ·rw[nx_18ba];simp[lays]
 ·rw[nx_18bb];simp[lays]
 ·rw[nx_19aa];simp[lays]
 ·rw[nx_19ba];simp[lays]
 ·rw[nx_19bb];simp[lays]
 ·exact absurd hp (by decide)
section
variable {Bn:Nat} [BOk Bn]
theorem steps1 (j:JS) (hj:j∈lays) (h16:j.p≠16) (h19:j.p<19){c:Nat} (hc:chr c) (X2 X3:Nat→AV) (Y2 Y3:Nat→Blk) (t:Nat) (bx:AV) (b0:Blk):
 sumC 1 false Tryz.f28 (rS Bn 1 (HQ (jX j 1 c) (idX 2 X2) (idX 3 X3) (jY j 1 c) Y2 Y3 t bx b0))=some (.i .i64 (N 0),CX (jX (nx j) 1 c) (idX 2 X2) (idX 3 X3) (jY (nx j) 1 c) Y2 Y3 t bx b0):=by
 unfold lays at hj
 simp only[List.mem_cons,List.not_mem_nil,or_false] at hj
 rcases hj with rfl|rfl|rfl|rfl|rfl|rfl|rfl|rfl|rfl|rfl|rfl|rfl|rfl|rfl|rfl|rfl|rfl|rfl|rfl|rfl|rfl|rfl|rfl|rfl|rfl|rfl|rfl|rfl|rfl|rfl|rfl|rfl|rfl|rfl|rfl|rfl|rfl|rfl|rfl|rfl
 ·rw[nx_0aa];exact st1_0aa X2 X3 Y2 Y3 t c bx b0
 ·rw[nx_1aa]
  obtain⟨h1,h2⟩:=hc
  have:c=49∨c=50∨c=51∨c=52∨c=53∨c=54∨c=55∨c=56∨c=57:=om
  rcases this with rfl|rfl|rfl|rfl|rfl|rfl|rfl|rfl|rfl
  ·exact st1_1aa_49 X2 X3 Y2 Y3 t bx b0
  ·exact st1_1aa_50 X2 X3 Y2 Y3 t bx b0
  ·exact st1_1aa_51 X2 X3 Y2 Y3 t bx b0
  ·exact st1_1aa_52 X2 X3 Y2 Y3 t bx b0
  ·exact st1_1aa_53 X2 X3 Y2 Y3 t bx b0
  ·exact st1_1aa_54 X2 X3 Y2 Y3 t bx b0
  ·exact st1_1aa_55 X2 X3 Y2 Y3 t bx b0
  ·exact st1_1aa_56 X2 X3 Y2 Y3 t bx b0
  ·exact st1_1aa_57 X2 X3 Y2 Y3 t bx b0
 ·rw[nx_2aa];exact st1_2aa X2 X3 Y2 Y3 t c bx b0
 ·rw[nx_3aa];exact st1_3aa X2 X3 Y2 Y3 t c bx b0
 ·rw[nx_4ab];exact st1_4ab X2 X3 Y2 Y3 t c bx b0
 ·rw[nx_5ba];exact st1_5ba X2 X3 Y2 Y3 t c bx b0
 ·rw[nx_5bb];exact st1_5bb X2 X3 Y2 Y3 t c bx b0
 ·rw[nx_6ab];exact st1_6ab X2 X3 Y2 Y3 t c bx b0
 ·rw[nx_6bb];exact st1_6bb X2 X3 Y2 Y3 t c bx b0
 ·rw[nx_7bb];exact st1_7bb X2 X3 Y2 Y3 t c bx b0
 ·rw[nx_8bb];exact st1_8bb X2 X3 Y2 Y3 t c bx b0
 ·rw[nx_9ba];exact st1_9ba X2 X3 Y2 Y3 t c bx b0
 ·rw[nx_9bb];exact st1_9bb X2 X3 Y2 Y3 t c bx b0
 ·rw[nx_10aa];exact st1_10aa X2 X3 Y2 Y3 t c bx b0
 ·rw[nx_10ba];exact st1_10ba X2 X3 Y2 Y3 t c bx b0
 ·rw[nx_10bb];exact st1_10bb X2 X3 Y2 Y3 t c bx b0
 ·rw[nx_11aa];exact st1_11aa X2 X3 Y2 Y3 t c bx b0
 ·rw[nx_11ba];exact st1_11ba X2 X3 Y2 Y3 t c bx b0
 ·rw[nx_11bb];exact st1_11bb X2 X3 Y2 Y3 t c bx b0
 ·rw[nx_12aa];exact st1_12aa X2 X3 Y2 Y3 t c bx b0
 ·rw[nx_12ba];exact st1_12ba X2 X3 Y2 Y3 t c bx b0
 ·rw[nx_12bb];exact st1_12bb X2 X3 Y2 Y3 t c bx b0
 ·rw[nx_13aa];exact st1_13aa X2 X3 Y2 Y3 t c bx b0
 ·rw[nx_13ba];exact st1_13ba X2 X3 Y2 Y3 t c bx b0
 ·rw[nx_13bb];exact st1_13bb X2 X3 Y2 Y3 t c bx b0
 ·rw[nx_14ab];exact st1_14ab X2 X3 Y2 Y3 t c bx b0
 ·rw[nx_14bb];exact st1_14bb X2 X3 Y2 Y3 t c bx b0
 ·rw[nx_15ba];exact st1_15ba X2 X3 Y2 Y3 t c bx b0
 ·rw[nx_15bb];exact st1_15bb X2 X3 Y2 Y3 t c bx b0
 ·exact absurd rfl h16
 ·exact absurd rfl h16
 ·rw[nx_17ba];exact st1_17ba X2 X3 Y2 Y3 t c bx b0
 ·rw[nx_17bb];exact st1_17bb X2 X3 Y2 Y3 t c bx b0
 ·rw[nx_18aa];exact st1_18aa X2 X3 Y2 Y3 t c bx b0
 ·rw[nx_18ba];exact st1_18ba X2 X3 Y2 Y3 t c bx b0
 ·rw[nx_18bb];exact st1_18bb X2 X3 Y2 Y3 t c bx b0
 ·exact absurd h19 (by decide)
 ·exact absurd h19 (by decide)
 ·exact absurd h19 (by decide)
 ·exact absurd h19 (by decide)
theorem stepb1 (j:JS) (hj:j∈lays) (h16:j.p=16){c:Nat} (X2 X3:Nat→AV) (Y2 Y3:Nat→Blk) (t:Nat) (bs:List (den zBatch)) (hb:bs.length≤2):
 sumC 1 true Tryz.f28 (rS Bn 1 (HQ (jX j 1 c) (idX 2 X2) (idX 3 X3) (jY j 1 c) Y2 Y3 t (sAV (t:=zBatch) (path 42) false bs) (sBk (t:=zBatch) 121 false bs)))=some (.i .i64 (N 0),CX (jX (nx j) 1 c) (idX 2 X2) (idX 3 X3) (jY (nx j) 1 c) Y2 Y3 t (sAV (t:=zBatch) (path 42) false (bs++[bt_ 1])) (sBk (t:=zBatch) 121 false (bs++[bt_ 1]))):=by
 unfold lays at hj
 simp only[List.mem_cons,List.not_mem_nil,or_false] at hj
 rcases hj with rfl|rfl|rfl|rfl|rfl|rfl|rfl|rfl|rfl|rfl|rfl|rfl|rfl|rfl|rfl|rfl|rfl|rfl|rfl|rfl|rfl|rfl|rfl|rfl|rfl|rfl|rfl|rfl|rfl|rfl|rfl|rfl|rfl|rfl|rfl|rfl|rfl|rfl|rfl|rfl
 ·cases h16
 ·cases h16
 ·cases h16
 ·cases h16
 ·cases h16
 ·cases h16
 ·cases h16
 ·cases h16
 ·cases h16
 ·cases h16
 ·cases h16
 ·cases h16
 ·cases h16
 ·cases h16
 ·cases h16
 ·cases h16
 ·cases h16
 ·cases h16
 ·cases h16
 ·cases h16
 ·cases h16
 ·cases h16
 ·cases h16
 ·cases h16
 ·cases h16
 ·cases h16
 ·cases h16
 ·cases h16
 ·cases h16
 ·rw[nx_16ab]
  match bs,hb with
  |[],_=>exact st1_16ab_n0 X2 X3 Y2 Y3 t c
  |[x1],_=>exact st1_16ab_n1 X2 X3 Y2 Y3 t c x1
  |[x1,x2],_=>exact st1_16ab_n2 X2 X3 Y2 Y3 t c x1 x2
  |_::_::_::_,h=>exact absurd h (by simp)
 ·rw[nx_16bb]
  match bs,hb with
  |[],_=>exact st1_16bb_n0 X2 X3 Y2 Y3 t c
  |[x1],_=>exact st1_16bb_n1 X2 X3 Y2 Y3 t c x1
  |[x1,x2],_=>exact st1_16bb_n2 X2 X3 Y2 Y3 t c x1 x2
  |_::_::_::_,h=>exact absurd h (by simp)
 ·cases h16
 ·cases h16
 ·cases h16
 ·cases h16
 ·cases h16
 ·cases h16
 ·cases h16
 ·cases h16
 ·cases h16
theorem steps2 (j:JS) (hj:j∈lays) (h16:j.p≠16) (h19:j.p<19){c:Nat} (hc:chr c) (X1 X3:Nat→AV) (Y1 Y3:Nat→Blk) (t:Nat) (bx:AV) (b0:Blk):
 sumC 2 false Tryz.f28 (rS Bn 2 (HQ (idX 1 X1) (jX j 2 c) (idX 3 X3) Y1 (jY j 2 c) Y3 t bx b0))=some (.i .i64 (N 0),CX (idX 1 X1) (jX (nx j) 2 c) (idX 3 X3) Y1 (jY (nx j) 2 c) Y3 t bx b0):=by
 unfold lays at hj
 simp only[List.mem_cons,List.not_mem_nil,or_false] at hj
 rcases hj with rfl|rfl|rfl|rfl|rfl|rfl|rfl|rfl|rfl|rfl|rfl|rfl|rfl|rfl|rfl|rfl|rfl|rfl|rfl|rfl|rfl|rfl|rfl|rfl|rfl|rfl|rfl|rfl|rfl|rfl|rfl|rfl|rfl|rfl|rfl|rfl|rfl|rfl|rfl|rfl
 ·rw[nx_0aa];exact st2_0aa X1 X3 Y1 Y3 t c bx b0
 ·rw[nx_1aa]
  obtain⟨h1,h2⟩:=hc
  have:c=49∨c=50∨c=51∨c=52∨c=53∨c=54∨c=55∨c=56∨c=57:=om
  rcases this with rfl|rfl|rfl|rfl|rfl|rfl|rfl|rfl|rfl
  ·exact st2_1aa_49 X1 X3 Y1 Y3 t bx b0
  ·exact st2_1aa_50 X1 X3 Y1 Y3 t bx b0
  ·exact st2_1aa_51 X1 X3 Y1 Y3 t bx b0
  ·exact st2_1aa_52 X1 X3 Y1 Y3 t bx b0
  ·exact st2_1aa_53 X1 X3 Y1 Y3 t bx b0
  ·exact st2_1aa_54 X1 X3 Y1 Y3 t bx b0
  ·exact st2_1aa_55 X1 X3 Y1 Y3 t bx b0
  ·exact st2_1aa_56 X1 X3 Y1 Y3 t bx b0
  ·exact st2_1aa_57 X1 X3 Y1 Y3 t bx b0
 ·rw[nx_2aa];exact st2_2aa X1 X3 Y1 Y3 t c bx b0
 ·rw[nx_3aa];exact st2_3aa X1 X3 Y1 Y3 t c bx b0
 ·rw[nx_4ab];exact st2_4ab X1 X3 Y1 Y3 t c bx b0
 ·rw[nx_5ba];exact st2_5ba X1 X3 Y1 Y3 t c bx b0
 ·rw[nx_5bb];exact st2_5bb X1 X3 Y1 Y3 t c bx b0
 ·rw[nx_6ab];exact st2_6ab X1 X3 Y1 Y3 t c bx b0
 ·rw[nx_6bb];exact st2_6bb X1 X3 Y1 Y3 t c bx b0
 ·rw[nx_7bb];exact st2_7bb X1 X3 Y1 Y3 t c bx b0
 ·rw[nx_8bb];exact st2_8bb X1 X3 Y1 Y3 t c bx b0
 ·rw[nx_9ba];exact st2_9ba X1 X3 Y1 Y3 t c bx b0
 ·rw[nx_9bb];exact st2_9bb X1 X3 Y1 Y3 t c bx b0
 ·rw[nx_10aa];exact st2_10aa X1 X3 Y1 Y3 t c bx b0
 ·rw[nx_10ba];exact st2_10ba X1 X3 Y1 Y3 t c bx b0
 ·rw[nx_10bb];exact st2_10bb X1 X3 Y1 Y3 t c bx b0
 ·rw[nx_11aa];exact st2_11aa X1 X3 Y1 Y3 t c bx b0
 ·rw[nx_11ba];exact st2_11ba X1 X3 Y1 Y3 t c bx b0
 ·rw[nx_11bb];exact st2_11bb X1 X3 Y1 Y3 t c bx b0
 ·rw[nx_12aa];exact st2_12aa X1 X3 Y1 Y3 t c bx b0
 ·rw[nx_12ba];exact st2_12ba X1 X3 Y1 Y3 t c bx b0
 ·rw[nx_12bb];exact st2_12bb X1 X3 Y1 Y3 t c bx b0
 ·rw[nx_13aa];exact st2_13aa X1 X3 Y1 Y3 t c bx b0
 ·rw[nx_13ba];exact st2_13ba X1 X3 Y1 Y3 t c bx b0
 ·rw[nx_13bb];exact st2_13bb X1 X3 Y1 Y3 t c bx b0
 ·rw[nx_14ab];exact st2_14ab X1 X3 Y1 Y3 t c bx b0
 ·rw[nx_14bb];exact st2_14bb X1 X3 Y1 Y3 t c bx b0
 ·rw[nx_15ba];exact st2_15ba X1 X3 Y1 Y3 t c bx b0
 ·rw[nx_15bb];exact st2_15bb X1 X3 Y1 Y3 t c bx b0
 ·exact absurd rfl h16
 ·exact absurd rfl h16
 ·rw[nx_17ba];exact st2_17ba X1 X3 Y1 Y3 t c bx b0
 ·rw[nx_17bb];exact st2_17bb X1 X3 Y1 Y3 t c bx b0
 ·rw[nx_18aa];exact st2_18aa X1 X3 Y1 Y3 t c bx b0
 ·rw[nx_18ba];exact st2_18ba X1 X3 Y1 Y3 t c bx b0
 ·rw[nx_18bb];exact st2_18bb X1 X3 Y1 Y3 t c bx b0
 ·exact absurd h19 (by decide)
 ·exact absurd h19 (by decide)
 ·exact absurd h19 (by decide)
 ·exact absurd h19 (by decide)
theorem stepb2 (j:JS) (hj:j∈lays) (h16:j.p=16){c:Nat} (X1 X3:Nat→AV) (Y1 Y3:Nat→Blk) (t:Nat) (bs:List (den zBatch)) (hb:bs.length≤2):
 sumC 2 true Tryz.f28 (rS Bn 2 (HQ (idX 1 X1) (jX j 2 c) (idX 3 X3) Y1 (jY j 2 c) Y3 t (sAV (t:=zBatch) (path 42) false bs) (sBk (t:=zBatch) 121 false bs)))=some (.i .i64 (N 0),CX (idX 1 X1) (jX (nx j) 2 c) (idX 3 X3) Y1 (jY (nx j) 2 c) Y3 t (sAV (t:=zBatch) (path 42) false (bs++[bt_ 2])) (sBk (t:=zBatch) 121 false (bs++[bt_ 2]))):=by
 unfold lays at hj
 simp only[List.mem_cons,List.not_mem_nil,or_false] at hj
 rcases hj with rfl|rfl|rfl|rfl|rfl|rfl|rfl|rfl|rfl|rfl|rfl|rfl|rfl|rfl|rfl|rfl|rfl|rfl|rfl|rfl|rfl|rfl|rfl|rfl|rfl|rfl|rfl|rfl|rfl|rfl|rfl|rfl|rfl|rfl|rfl|rfl|rfl|rfl|rfl|rfl
 ·cases h16
 ·cases h16
 ·cases h16
 ·cases h16
 ·cases h16
 ·cases h16
 ·cases h16
 ·cases h16
 ·cases h16
 ·cases h16
 ·cases h16
 ·cases h16
 ·cases h16
 ·cases h16
 ·cases h16
 ·cases h16
 ·cases h16
 ·cases h16
 ·cases h16
 ·cases h16
 ·cases h16
 ·cases h16
 ·cases h16
 ·cases h16
 ·cases h16
 ·cases h16
 ·cases h16
 ·cases h16
 ·cases h16
 ·rw[nx_16ab]
  match bs,hb with
  |[],_=>exact st2_16ab_n0 X1 X3 Y1 Y3 t c
  |[x1],_=>exact st2_16ab_n1 X1 X3 Y1 Y3 t c x1
  |[x1,x2],_=>exact st2_16ab_n2 X1 X3 Y1 Y3 t c x1 x2
  |_::_::_::_,h=>exact absurd h (by simp)
 ·rw[nx_16bb]
  match bs,hb with
  |[],_=>exact st2_16bb_n0 X1 X3 Y1 Y3 t c
  |[x1],_=>exact st2_16bb_n1 X1 X3 Y1 Y3 t c x1
  |[x1,x2],_=>exact st2_16bb_n2 X1 X3 Y1 Y3 t c x1 x2
  |_::_::_::_,h=>exact absurd h (by simp)
 ·cases h16
 ·cases h16
 ·cases h16
 ·cases h16
 ·cases h16
 ·cases h16
 ·cases h16
 ·cases h16
 ·cases h16
theorem steps3 (j:JS) (hj:j∈lays) (h16:j.p≠16) (h19:j.p<19){c:Nat} (hc:chr c) (X1 X2:Nat→AV) (Y1 Y2:Nat→Blk) (t:Nat) (bx:AV) (b0:Blk):
 sumC 3 false Tryz.f28 (rS Bn 3 (HQ (idX 1 X1) (idX 2 X2) (jX j 3 c) Y1 Y2 (jY j 3 c) t bx b0))=some (.i .i64 (N 0),CX (idX 1 X1) (idX 2 X2) (jX (nx j) 3 c) Y1 Y2 (jY (nx j) 3 c) t bx b0):=by
 unfold lays at hj
 simp only[List.mem_cons,List.not_mem_nil,or_false] at hj
 rcases hj with rfl|rfl|rfl|rfl|rfl|rfl|rfl|rfl|rfl|rfl|rfl|rfl|rfl|rfl|rfl|rfl|rfl|rfl|rfl|rfl|rfl|rfl|rfl|rfl|rfl|rfl|rfl|rfl|rfl|rfl|rfl|rfl|rfl|rfl|rfl|rfl|rfl|rfl|rfl|rfl
 ·rw[nx_0aa];exact st3_0aa X1 X2 Y1 Y2 t c bx b0
 ·rw[nx_1aa]
  obtain⟨h1,h2⟩:=hc
  have:c=49∨c=50∨c=51∨c=52∨c=53∨c=54∨c=55∨c=56∨c=57:=om
  rcases this with rfl|rfl|rfl|rfl|rfl|rfl|rfl|rfl|rfl
  ·exact st3_1aa_49 X1 X2 Y1 Y2 t bx b0
  ·exact st3_1aa_50 X1 X2 Y1 Y2 t bx b0
  ·exact st3_1aa_51 X1 X2 Y1 Y2 t bx b0
  ·exact st3_1aa_52 X1 X2 Y1 Y2 t bx b0
  ·exact st3_1aa_53 X1 X2 Y1 Y2 t bx b0
  ·exact st3_1aa_54 X1 X2 Y1 Y2 t bx b0
  ·exact st3_1aa_55 X1 X2 Y1 Y2 t bx b0
  ·exact st3_1aa_56 X1 X2 Y1 Y2 t bx b0
  ·exact st3_1aa_57 X1 X2 Y1 Y2 t bx b0
 ·rw[nx_2aa];exact st3_2aa X1 X2 Y1 Y2 t c bx b0
 ·rw[nx_3aa];exact st3_3aa X1 X2 Y1 Y2 t c bx b0
 ·rw[nx_4ab];exact st3_4ab X1 X2 Y1 Y2 t c bx b0
 ·rw[nx_5ba];exact st3_5ba X1 X2 Y1 Y2 t c bx b0
 ·rw[nx_5bb];exact st3_5bb X1 X2 Y1 Y2 t c bx b0
 ·rw[nx_6ab];exact st3_6ab X1 X2 Y1 Y2 t c bx b0
 ·rw[nx_6bb];exact st3_6bb X1 X2 Y1 Y2 t c bx b0
 ·rw[nx_7bb];exact st3_7bb X1 X2 Y1 Y2 t c bx b0
 ·rw[nx_8bb];exact st3_8bb X1 X2 Y1 Y2 t c bx b0
 ·rw[nx_9ba];exact st3_9ba X1 X2 Y1 Y2 t c bx b0
 ·rw[nx_9bb];exact st3_9bb X1 X2 Y1 Y2 t c bx b0
 ·rw[nx_10aa];exact st3_10aa X1 X2 Y1 Y2 t c bx b0
 ·rw[nx_10ba];exact st3_10ba X1 X2 Y1 Y2 t c bx b0
 ·rw[nx_10bb];exact st3_10bb X1 X2 Y1 Y2 t c bx b0
 ·rw[nx_11aa];exact st3_11aa X1 X2 Y1 Y2 t c bx b0
 ·rw[nx_11ba];exact st3_11ba X1 X2 Y1 Y2 t c bx b0
 ·rw[nx_11bb];exact st3_11bb X1 X2 Y1 Y2 t c bx b0
 ·rw[nx_12aa];exact st3_12aa X1 X2 Y1 Y2 t c bx b0
 ·rw[nx_12ba];exact st3_12ba X1 X2 Y1 Y2 t c bx b0
 ·rw[nx_12bb];exact st3_12bb X1 X2 Y1 Y2 t c bx b0
 ·rw[nx_13aa];exact st3_13aa X1 X2 Y1 Y2 t c bx b0
 ·rw[nx_13ba];exact st3_13ba X1 X2 Y1 Y2 t c bx b0
 ·rw[nx_13bb];exact st3_13bb X1 X2 Y1 Y2 t c bx b0
 ·rw[nx_14ab];exact st3_14ab X1 X2 Y1 Y2 t c bx b0
 ·rw[nx_14bb];exact st3_14bb X1 X2 Y1 Y2 t c bx b0
 ·rw[nx_15ba];exact st3_15ba X1 X2 Y1 Y2 t c bx b0
 ·rw[nx_15bb];exact st3_15bb X1 X2 Y1 Y2 t c bx b0
 ·exact absurd rfl h16
 ·exact absurd rfl h16
 ·rw[nx_17ba];exact st3_17ba X1 X2 Y1 Y2 t c bx b0
 ·rw[nx_17bb];exact st3_17bb X1 X2 Y1 Y2 t c bx b0
 ·rw[nx_18aa];exact st3_18aa X1 X2 Y1 Y2 t c bx b0
 ·rw[nx_18ba];exact st3_18ba X1 X2 Y1 Y2 t c bx b0
 ·rw[nx_18bb];exact st3_18bb X1 X2 Y1 Y2 t c bx b0
 ·exact absurd h19 (by decide)
 ·exact absurd h19 (by decide)
 ·exact absurd h19 (by decide)
 ·exact absurd h19 (by decide)
theorem stepb3 (j:JS) (hj:j∈lays) (h16:j.p=16){c:Nat} (X1 X2:Nat→AV) (Y1 Y2:Nat→Blk) (t:Nat) (bs:List (den zBatch)) (hb:bs.length≤2):
 sumC 3 true Tryz.f28 (rS Bn 3 (HQ (idX 1 X1) (idX 2 X2) (jX j 3 c) Y1 Y2 (jY j 3 c) t (sAV (t:=zBatch) (path 42) false bs) (sBk (t:=zBatch) 121 false bs)))=some (.i .i64 (N 0),CX (idX 1 X1) (idX 2 X2) (jX (nx j) 3 c) Y1 Y2 (jY (nx j) 3 c) t (sAV (t:=zBatch) (path 42) false (bs++[bt_ 3])) (sBk (t:=zBatch) 121 false (bs++[bt_ 3]))):=by
 unfold lays at hj
 simp only[List.mem_cons,List.not_mem_nil,or_false] at hj
 rcases hj with rfl|rfl|rfl|rfl|rfl|rfl|rfl|rfl|rfl|rfl|rfl|rfl|rfl|rfl|rfl|rfl|rfl|rfl|rfl|rfl|rfl|rfl|rfl|rfl|rfl|rfl|rfl|rfl|rfl|rfl|rfl|rfl|rfl|rfl|rfl|rfl|rfl|rfl|rfl|rfl
 ·cases h16
 ·cases h16
 ·cases h16
 ·cases h16
 ·cases h16
 ·cases h16
 ·cases h16
 ·cases h16
 ·cases h16
 ·cases h16
 ·cases h16
 ·cases h16
 ·cases h16
 ·cases h16
 ·cases h16
 ·cases h16
 ·cases h16
 ·cases h16
 ·cases h16
 ·cases h16
 ·cases h16
 ·cases h16
 ·cases h16
 ·cases h16
 ·cases h16
 ·cases h16
 ·cases h16
 ·cases h16
 ·cases h16
 ·rw[nx_16ab]
  match bs,hb with
  |[],_=>exact st3_16ab_n0 X1 X2 Y1 Y2 t c
  |[x1],_=>exact st3_16ab_n1 X1 X2 Y1 Y2 t c x1
  |[x1,x2],_=>exact st3_16ab_n2 X1 X2 Y1 Y2 t c x1 x2
  |_::_::_::_,h=>exact absurd h (by simp)
 ·rw[nx_16bb]
  match bs,hb with
  |[],_=>exact st3_16bb_n0 X1 X2 Y1 Y2 t c
  |[x1],_=>exact st3_16bb_n1 X1 X2 Y1 Y2 t c x1
  |[x1,x2],_=>exact st3_16bb_n2 X1 X2 Y1 Y2 t c x1 x2
  |_::_::_::_,h=>exact absurd h (by simp)
 ·cases h16
 ·cases h16
 ·cases h16
 ·cases h16
 ·cases h16
 ·cases h16
 ·cases h16
 ·cases h16
 ·cases h16
end
theorem jX_c1 (j:JS) (k c:Nat) (h:j.p<20):jX j k c 1=.i .i64 (N 1)∧jX j k c 49=.i .i64 (N 0):=by
 obtain⟨p,f1,f2⟩:=j
 match p,h with
 |0,_=>exact⟨kr,kr⟩
 |1,_=>exact⟨kr,kr⟩
 |2,_=>exact⟨kr,kr⟩
 |3,_=>exact⟨kr,kr⟩
 |4,_=>exact⟨kr,kr⟩
 |5,_=>exact⟨kr,kr⟩
 |6,_=>exact⟨kr,kr⟩
 |7,_=>exact⟨kr,kr⟩
 |8,_=>exact⟨kr,kr⟩
 |9,_=>exact⟨kr,kr⟩
 |10,_=>exact⟨kr,kr⟩
 |11,_=>exact⟨kr,kr⟩
 |12,_=>exact⟨kr,kr⟩
 |13,_=>exact⟨kr,kr⟩
 |14,_=>exact⟨kr,kr⟩
 |15,_=>exact⟨kr,kr⟩
 |16,_=>exact⟨kr,kr⟩
 |17,_=>exact⟨kr,kr⟩
 |18,_=>exact⟨kr,kr⟩
 |19,_=>exact⟨kr,kr⟩
 |n+20,h=>exact absurd h (by simp only;omega)
theorem beqF {a b:Nat} (h:a≠b):Nat.beq a b=false:=by
 cases hb:Nat.beq a b with
 |false=>rfl
 |true=>exact absurd (Nq hb) h
theorem jX_run (j:JS) (k c:Nat) (h:j.p<20):runX k 1 (jX j k c)=jX j k c:=by
 obtain⟨h1,h2⟩:=jX_c1 j k c h
 funext i
 by_cases e0:i=0
 ·subst e0;exact congrFun (jX_id j k c) 0
 by_cases e1:i=1
 ·subst e1;exact h1.symm
 by_cases e49:i=49
 ·subst e49;exact h2.symm
 show cd (Nat.beq i 0) _ (cd (Nat.beq i 1) _ (cd (Nat.beq i 49) _ (jX j k c i)))=_
 rw[beqF e0,beqF e1,beqF e49]
 rfl
theorem jX_end (k c:Nat) (f1 f2:Bool):runX k 3 (jX ⟨20,f1,f2⟩ k c)=jX ⟨20,f1,f2⟩ k c:=by
 have h1:jX ⟨20,f1,f2⟩ k c 1=.i .i64 (N 3):=kr
 have h2:jX ⟨20,f1,f2⟩ k c 49=.i .i64 (N 0):=kr
 funext i
 by_cases e0:i=0
 ·subst e0;exact congrFun (jX_id ⟨20,f1,f2⟩ k c) 0
 by_cases e1:i=1
 ·subst e1;exact h1.symm
 by_cases e49:i=49
 ·subst e49;exact h2.symm
 show cd (Nat.beq i 0) _ (cd (Nat.beq i 1) _ (cd (Nat.beq i 49) _ (jX ⟨20,f1,f2⟩ k c i)))=_
 rw[beqF e0,beqF e1,beqF e49]
 rfl
def Bq (c1 c2 c3:Nat) (a:WS) (i:Nat):Blk:=nthD .dead [.dead,.dead,sBk (t:=zBatch) 121 false a.bs,jY a.j1 1 c1 0,jY a.j1 1 c1 1,jY a.j1 1 c1 2,jY a.j2 2 c2 0,jY a.j2 2 c2 1,jY a.j2 2 c2 2,jY a.j3 3 c3 0,jY a.j3 3 c3 1,jY a.j3 3 c3 2] i
def bsA (bs:List (den zBatch)):AV:=sAV (t:=zBatch) (path 42) false bs
theorem Hd_HX (c1 c2 c3:Nat) (a:WS):Hd c1 c2 c3 a=HX (jX a.j1 1 c1) (jX a.j2 2 c2) (jX a.j3 3 c3) (Bq c1 c2 c3 a) a.t (bsA a.bs):=kr
theorem bsA_cases (bs:List (den zBatch)):bsA bs=.em∨bsA bs=.sl (path 42) 0 2 bs.length bs.length false:=by
 cases bs with
 |nil=>exact .inl rfl
 |cons x xs=>exact .inr rfl
def gJ (k:Nat) (a:WS):JS:=cd (Nat.beq k 1) a.j1 (cd (Nat.beq k 2) a.j2 a.j3)
def nxW (k:Nat) (a:WS):WS:=⟨cd (Nat.beq k 1) (nx a.j1) a.j1,cd (Nat.beq k 2) (nx a.j2) a.j2,cd (Nat.beq k 3) (nx a.j3) a.j3,a.t,cd (Nat.beq (gJ k a).p 16) (a.bs++[bt_ k]) a.bs⟩
structure okWS (a:WS):Prop where
 j1:a.j1∈lays
 j2:a.j2∈lays
 j3:a.j3∈lays
section
variable {Bn:Nat} [BOk Bn]{c1 c2 c3:Nat}
theorem readyW1 (a:WS) (hp:a.j1.p<20) (hb:a.bs.length<400):At Bn 67 (HX (jX a.j1 1 c1) (jX a.j2 2 c2) (jX a.j3 3 c3) (Bq c1 c2 c3 a) a.t (bsA a.bs)) [.p (path 40) 0,.i .i64 (N 1)] (.i .i64 (N 0)) (HX (jX a.j1 1 c1) (jX a.j2 2 c2) (jX a.j3 3 c3) (Bq c1 c2 c3 a) a.t (bsA a.bs)):=by
 have key:At Bn 67 (HX (runX 1 1 (jX a.j1 1 c1)) (jX a.j2 2 c2) (jX a.j3 3 c3) (Bq c1 c2 c3 a) a.t (bsA a.bs)) [.p (path 40) 0,.i .i64 (N 1)] (.i .i64 (N 0)) (HX (runX 1 1 (jX a.j1 1 c1)) (jX a.j2 2 c2) (jX a.j3 3 c3) (Bq c1 c2 c3 a) a.t (bsA a.bs)):=by
  rcases bsA_cases a.bs with h|h<;>rw[h]
  ·exact readyem1 (jX a.j1 1 c1) (jX a.j2 2 c2) (jX a.j3 3 c3) _ _
  ·exact readysl1 (jX a.j1 1 c1) (jX a.j2 2 c2) (jX a.j3 3 c3) _ _ _ hb
 simpa only[jX_run a.j1 1 c1 hp,jX_id] using key
theorem endedW1 (a:WS) (hp:a.j1.p=20):At Bn 67 (HX (jX a.j1 1 c1) (jX a.j2 2 c2) (jX a.j3 3 c3) (Bq c1 c2 c3 a) a.t (bsA a.bs)) [.p (path 40) 0,.i .i64 (N 1)] (.i .i64 (N 5)) (HX (jX a.j1 1 c1) (jX a.j2 2 c2) (jX a.j3 3 c3) (Bq c1 c2 c3 a) a.t (bsA a.bs)):=by
 have key:=ended1 (Bn:=Bn) (jX a.j1 1 c1) (jX a.j2 2 c2) (jX a.j3 3 c3) (Bq c1 c2 c3 a) a.t (bsA a.bs)
 have he:runX 1 3 (jX a.j1 1 c1)=jX a.j1 1 c1:=by
  obtain⟨⟨p1,q1,r1⟩,⟨p2,q2,r2⟩,⟨p3,q3,r3⟩,t,bs⟩:=a
  obtain rfl:p1=20:=hp
  exact jX_end _ _ _ _
 simpa only[he,jX_id] using key
theorem stepW1 (hL:Okl Bn Lc) (a:WS) (ha:okWS a) (hp:a.j1.p<19) (hb:a.bs.length≤3) (hb2:a.j1.p=16→a.bs.length≤2) (hc:chr c1):
 ∃h2,At Bn 28 (Hd c1 c2 c3 a) [.p (path 40) 0,.i .i64 (N 1)] (.i .i64 (N 0)) h2∧EndW (Cn c1 c2 c3 (nxW 1 a)) h2:=by
 have hk:CallOK PP (GG Bn) (evF (tblR Bn Lc EX) 60):=evF_sound hmix (tblR_ok hL EX_ok) 60
 by_cases h16:a.j1.p=16
 ·have hs:=stepb1 (Bn:=Bn) a.j1 ha.j1 h16 (c:=c1) (jX a.j2 2 c2) (jX a.j3 3 c3) (jY a.j2 2 c2) (jY a.j3 3 c3) a.t a.bs (hb2 h16)
  simp only[jX_id] at hs
  refine step_at (b:=true) (k:=1) om hk (Hd_HX c1 c2 c3 a) (readyW1 a om om) ?_
  rw[Hd_HQ,Cn_CX]
  have e:(nxW 1 a).bs=a.bs++[bt_ 1]:=by
   show cd (Nat.beq a.j1.p 16) _ _=_
   rw[h16];rfl
  rw[e]
  exact hs
 ·have hs:=steps1 (Bn:=Bn) a.j1 ha.j1 h16 hp hc (jX a.j2 2 c2) (jX a.j3 3 c3) (jY a.j2 2 c2) (jY a.j3 3 c3) a.t (bsA a.bs) (sBk (t:=zBatch) 121 false a.bs)
  simp only[jX_id] at hs
  refine step_at (b:=false) (k:=1) om hk (Hd_HX c1 c2 c3 a) (readyW1 a om om) ?_
  rw[Hd_HQ,Cn_CX]
  have e:(nxW 1 a).bs=a.bs:=by
   show cd (Nat.beq a.j1.p 16) _ _=_
   rw[beqF h16];rfl
  rw[e]
  exact hs
theorem readyW2 (a:WS) (hp:a.j2.p<20) (hb:a.bs.length<400):At Bn 67 (HX (jX a.j1 1 c1) (jX a.j2 2 c2) (jX a.j3 3 c3) (Bq c1 c2 c3 a) a.t (bsA a.bs)) [.p (path 40) 0,.i .i64 (N 2)] (.i .i64 (N 0)) (HX (jX a.j1 1 c1) (jX a.j2 2 c2) (jX a.j3 3 c3) (Bq c1 c2 c3 a) a.t (bsA a.bs)):=by
 have key:At Bn 67 (HX (idX 1 (jX a.j1 1 c1)) (runX 2 1 (jX a.j2 2 c2)) (jX a.j3 3 c3) (Bq c1 c2 c3 a) a.t (bsA a.bs)) [.p (path 40) 0,.i .i64 (N 2)] (.i .i64 (N 0)) (HX (idX 1 (jX a.j1 1 c1)) (runX 2 1 (jX a.j2 2 c2)) (jX a.j3 3 c3) (Bq c1 c2 c3 a) a.t (bsA a.bs)):=by
  rcases bsA_cases a.bs with h|h<;>rw[h]
  ·exact readyem2 (jX a.j1 1 c1) (jX a.j2 2 c2) (jX a.j3 3 c3) _ _
  ·exact readysl2 (jX a.j1 1 c1) (jX a.j2 2 c2) (jX a.j3 3 c3) _ _ _ hb
 simpa only[jX_run a.j2 2 c2 hp,jX_id] using key
theorem endedW2 (a:WS) (hp:a.j2.p=20):At Bn 67 (HX (jX a.j1 1 c1) (jX a.j2 2 c2) (jX a.j3 3 c3) (Bq c1 c2 c3 a) a.t (bsA a.bs)) [.p (path 40) 0,.i .i64 (N 2)] (.i .i64 (N 5)) (HX (jX a.j1 1 c1) (jX a.j2 2 c2) (jX a.j3 3 c3) (Bq c1 c2 c3 a) a.t (bsA a.bs)):=by
 have key:=ended2 (Bn:=Bn) (jX a.j1 1 c1) (jX a.j2 2 c2) (jX a.j3 3 c3) (Bq c1 c2 c3 a) a.t (bsA a.bs)
 have he:runX 2 3 (jX a.j2 2 c2)=jX a.j2 2 c2:=by
  obtain⟨⟨p1,q1,r1⟩,⟨p2,q2,r2⟩,⟨p3,q3,r3⟩,t,bs⟩:=a
  obtain rfl:p2=20:=hp
  exact jX_end _ _ _ _
 simpa only[he,jX_id] using key
theorem stepW2 (hL:Okl Bn Lc) (a:WS) (ha:okWS a) (hp:a.j2.p<19) (hb:a.bs.length≤3) (hb2:a.j2.p=16→a.bs.length≤2) (hc:chr c2):
 ∃h2,At Bn 28 (Hd c1 c2 c3 a) [.p (path 40) 0,.i .i64 (N 2)] (.i .i64 (N 0)) h2∧EndW (Cn c1 c2 c3 (nxW 2 a)) h2:=by
 have hk:CallOK PP (GG Bn) (evF (tblR Bn Lc EX) 60):=evF_sound hmix (tblR_ok hL EX_ok) 60
 by_cases h16:a.j2.p=16
 ·have hs:=stepb2 (Bn:=Bn) a.j2 ha.j2 h16 (c:=c2) (jX a.j1 1 c1) (jX a.j3 3 c3) (jY a.j1 1 c1) (jY a.j3 3 c3) a.t a.bs (hb2 h16)
  simp only[jX_id] at hs
  refine step_at (b:=true) (k:=2) om hk (Hd_HX c1 c2 c3 a) (readyW2 a om om) ?_
  rw[Hd_HQ,Cn_CX]
  have e:(nxW 2 a).bs=a.bs++[bt_ 2]:=by
   show cd (Nat.beq a.j2.p 16) _ _=_
   rw[h16];rfl
  rw[e]
  exact hs
 ·have hs:=steps2 (Bn:=Bn) a.j2 ha.j2 h16 hp hc (jX a.j1 1 c1) (jX a.j3 3 c3) (jY a.j1 1 c1) (jY a.j3 3 c3) a.t (bsA a.bs) (sBk (t:=zBatch) 121 false a.bs)
  simp only[jX_id] at hs
  refine step_at (b:=false) (k:=2) om hk (Hd_HX c1 c2 c3 a) (readyW2 a om om) ?_
  rw[Hd_HQ,Cn_CX]
  have e:(nxW 2 a).bs=a.bs:=by
   show cd (Nat.beq a.j2.p 16) _ _=_
   rw[beqF h16];rfl
  rw[e]
  exact hs
theorem readyW3 (a:WS) (hp:a.j3.p<20) (hb:a.bs.length<400):At Bn 67 (HX (jX a.j1 1 c1) (jX a.j2 2 c2) (jX a.j3 3 c3) (Bq c1 c2 c3 a) a.t (bsA a.bs)) [.p (path 40) 0,.i .i64 (N 3)] (.i .i64 (N 0)) (HX (jX a.j1 1 c1) (jX a.j2 2 c2) (jX a.j3 3 c3) (Bq c1 c2 c3 a) a.t (bsA a.bs)):=by
 have key:At Bn 67 (HX (idX 1 (jX a.j1 1 c1)) (idX 2 (jX a.j2 2 c2)) (runX 3 1 (jX a.j3 3 c3)) (Bq c1 c2 c3 a) a.t (bsA a.bs)) [.p (path 40) 0,.i .i64 (N 3)] (.i .i64 (N 0)) (HX (idX 1 (jX a.j1 1 c1)) (idX 2 (jX a.j2 2 c2)) (runX 3 1 (jX a.j3 3 c3)) (Bq c1 c2 c3 a) a.t (bsA a.bs)):=by
  rcases bsA_cases a.bs with h|h<;>rw[h]
  ·exact readyem3 (jX a.j1 1 c1) (jX a.j2 2 c2) (jX a.j3 3 c3) _ _
  ·exact readysl3 (jX a.j1 1 c1) (jX a.j2 2 c2) (jX a.j3 3 c3) _ _ _ hb
 simpa only[jX_run a.j3 3 c3 hp,jX_id] using key
theorem endedW3 (a:WS) (hp:a.j3.p=20):At Bn 67 (HX (jX a.j1 1 c1) (jX a.j2 2 c2) (jX a.j3 3 c3) (Bq c1 c2 c3 a) a.t (bsA a.bs)) [.p (path 40) 0,.i .i64 (N 3)] (.i .i64 (N 5)) (HX (jX a.j1 1 c1) (jX a.j2 2 c2) (jX a.j3 3 c3) (Bq c1 c2 c3 a) a.t (bsA a.bs)):=by
 have key:=ended3 (Bn:=Bn) (jX a.j1 1 c1) (jX a.j2 2 c2) (jX a.j3 3 c3) (Bq c1 c2 c3 a) a.t (bsA a.bs)
 have he:runX 3 3 (jX a.j3 3 c3)=jX a.j3 3 c3:=by
  obtain⟨⟨p1,q1,r1⟩,⟨p2,q2,r2⟩,⟨p3,q3,r3⟩,t,bs⟩:=a
  obtain rfl:p3=20:=hp
  exact jX_end _ _ _ _
 simpa only[he,jX_id] using key
theorem stepW3 (hL:Okl Bn Lc) (a:WS) (ha:okWS a) (hp:a.j3.p<19) (hb:a.bs.length≤3) (hb2:a.j3.p=16→a.bs.length≤2) (hc:chr c3):
 ∃h2,At Bn 28 (Hd c1 c2 c3 a) [.p (path 40) 0,.i .i64 (N 3)] (.i .i64 (N 0)) h2∧EndW (Cn c1 c2 c3 (nxW 3 a)) h2:=by
 have hk:CallOK PP (GG Bn) (evF (tblR Bn Lc EX) 60):=evF_sound hmix (tblR_ok hL EX_ok) 60
 by_cases h16:a.j3.p=16
 ·have hs:=stepb3 (Bn:=Bn) a.j3 ha.j3 h16 (c:=c3) (jX a.j1 1 c1) (jX a.j2 2 c2) (jY a.j1 1 c1) (jY a.j2 2 c2) a.t a.bs (hb2 h16)
  simp only[jX_id] at hs
  refine step_at (b:=true) (k:=3) om hk (Hd_HX c1 c2 c3 a) (readyW3 a om om) ?_
  rw[Hd_HQ,Cn_CX]
  have e:(nxW 3 a).bs=a.bs++[bt_ 3]:=by
   show cd (Nat.beq a.j3.p 16) _ _=_
   rw[h16];rfl
  rw[e]
  exact hs
 ·have hs:=steps3 (Bn:=Bn) a.j3 ha.j3 h16 hp hc (jX a.j1 1 c1) (jX a.j2 2 c2) (jY a.j1 1 c1) (jY a.j2 2 c2) a.t (bsA a.bs) (sBk (t:=zBatch) 121 false a.bs)
  simp only[jX_id] at hs
  refine step_at (b:=false) (k:=3) om hk (Hd_HX c1 c2 c3 a) (readyW3 a om om) ?_
  rw[Hd_HQ,Cn_CX]
  have e:(nxW 3 a).bs=a.bs:=by
   show cd (Nat.beq a.j3.p 16) _ _=_
   rw[beqF h16];rfl
  rw[e]
  exact hs
end
section
variable {Bn:Nat} [BOk Bn]{c1 c2 c3:Nat}
theorem self_sum (X1 X2 X3:Nat→AV) (Y1 Y2 Y3:Nat→Blk) (t:Nat) (bx:AV) (b0:Blk) (v:AV):sumR 0 false (.ok v (HQ X1 X2 X3 Y1 Y2 Y3 t bx b0))=some (v,CX X1 X2 X3 Y1 Y2 Y3 t bx b0):=kr
theorem end_self (a:WS):EndW (Cn c1 c2 c3 a) (Hd c1 c2 c3 a):=by
 obtain⟨h2,h1,h3⟩:=step_end (c1:=c1) (c2:=c2) (c3:=c3) (k:=0) (b:=false) (.inl rfl) (r:=.ok .em (Hd c1 c2 c3 a)) (v:=.em) (a':=a) (by rw[Hd_HQ,Cn_CX];exact self_sum _ _ _ _ _ _ _ _ _ _)
 injection h1 with _ h4
 subst h4;exact h3
theorem ended28 (k:Nat){X1 X2 X3:Nat→AV}{B:Nat→Blk}{t:Nat}{bx:AV}
 (hr:At Bn 67 (HX X1 X2 X3 B t bx) [.p (path 40) 0,.i .i64 (N k)] (.i .i64 (N 5)) (HX X1 X2 X3 B t bx)):At Bn 28 (HX X1 X2 X3 B t bx) [.p (path 40) 0,.i .i64 (N k)] (.i .i64 (N 5)) (HX X1 X2 X3 B t bx):=by
 refine At.bodyG Tryz.func28 rfl (b:=b28) kr ?_
 refine sR kr ?_
 refine Sat.seq (Sat.seq ?_)
 refine atRegS 2 hr kr kr kr ?_
 refine sR kr ?_
 refine sCondT (b:=true) kr rfl ?_
 refine sR kr ?_
 exact Sat.ret ⟨.inr rfl,kr,kr⟩
end
noncomputable def b27:Code:=Option.getD Tryz.f27.body .skip
def rest27:Code:=sndC (sndC (sndC b27))
def fr27:List (List Bool×AV):=[(path 0,.p (path 40) 0),(path 2,.i .i64 (N 0))]
def wLz (z bx:AV):List AV:=[z,.isl zIns prg_.1,.isl zEntry prg_.2,.isl zTrigger [],.isl zNode tr_,.isl zLock [],.isl zLock [],.sl (path 41) 0 52 3 3 false,.i .i64 (N 0),bx]
def HQz (X1 X2 X3:Nat→AV) (Y1 Y2 Y3:Nat→Blk) (z bx:AV) (b0:Blk):H:=
 hpH 53 (cat (cat pre_ (some (.cs 39 (wLz z bx) false)::some (.cs 87 (cat (cells52 X1) (cat (cells52 X2) (cells52 X3))) false)::some b0::[some (Y1 0),some (Y1 1),some (Y1 2),some (Y2 0),some (Y2 1),some (Y2 2),some (Y3 0),some (Y3 1),some (Y3 2)])) [some .dead])
section
variable {Bn:Nat} [BOk Bn]{c1 c2 c3:Nat}
theorem tick_sum (X1 X2 X3:Nat→AV) (Y1 Y2 Y3:Nat→Blk) (t:Nat) (bx:AV) (b0:Blk):
 sumC 0 false Tryz.f27 (cZ Bn (EV Bn 60) 35 rest27 (mkFr fr27) (HQ X1 X2 X3 Y1 Y2 Y3 t bx b0))=some (.i .i64 (N 0),CX X1 X2 X3 Y1 Y2 Y3 t bx b0):=kr
theorem tick27 (X1 X2 X3:Nat→AV) (Y1 Y2 Y3:Nat→Blk) (t:Nat) (bx:AV) (b0:Blk) (ht:t<999999){hz:H}{v:AV}
 (hs:S Bn 35 rest27 (mkFr fr27) (HQ X1 X2 X3 Y1 Y2 Y3 (t+1) bx b0) (fun ex fr' h'=>(ex=.normal∨ex=.ret)∧resOf (resF Tryz.f27) fr' h'=some [v]∧h'=hz)):
 At Bn 27 (HQ X1 X2 X3 Y1 Y2 Y3 t bx b0) [.p (path 40) 0] v hz:=by
 refine At.bodyG Tryz.func27 rfl (b:=b27) kr ?_
 refine sR kr ?_
 refine Sat.seq ?_
 refine sR kr ?_
 refine sCond (b:=iEq (N t) (N 999999)) kr (by rw[iEq_eq];simp;omega) ?_
 refine Sat.skip ?_
 refine sR kr ?_
 refine Sat.keepL fr27 ⟨kr,kr,trivial⟩ ?_
 refine S_eq (n':=35) (c':=rest27) (h':=HQz X1 X2 X3 Y1 Y2 Y3 (.i .i64 (wr .i64 (J t+J 1))) bx b0) kr kr kr ?_
 rw[wr_inc om]
 exact hs
theorem tickW (a:WS) (ht:a.t<999999):∃h2,At Bn 27 (Hd c1 c2 c3 a) [.p (path 40) 0] (.i .i64 (N 0)) h2∧EndW (Cn c1 c2 c3 ⟨a.j1,a.j2,a.j3,a.t+1,a.bs⟩) h2:=by
 have hs:=tick_sum (Bn:=Bn) (jX a.j1 1 c1) (jX a.j2 2 c2) (jX a.j3 3 c3) (jY a.j1 1 c1) (jY a.j2 2 c2) (jY a.j3 3 c3) (a.t+1) (bsA a.bs) (sBk (t:=zBatch) 121 false a.bs)
 obtain⟨fr,hz,v',h1,h2,h3⟩:=sumC_eq hs
 obtain⟨h4,h5,h6⟩:=step_end (c1:=c1) (c2:=c2) (c3:=c3) (a':=⟨a.j1,a.j2,a.j3,a.t+1,a.bs⟩) (.inl rfl) h3
 injection h5 with h7 h8
 subst h7 h8
 exact⟨hz,tick27 _ _ _ _ _ _ _ _ _ ht (Sat.ev hmix (EV_ok 60) h1 ⟨.inr rfl,h2,rfl⟩),h6⟩
end
section
variable {f g:Id→Id}{N:Nat}
mutual
theorem ren_congr (h:∀id,unpath id<N→f id=g id):∀(x:AV),avOk N x→AV.ren f x=AV.ren g x
 |.i ..,_=>by simp only[AV.ren]
 |.b ..,_=>by simp only[AV.ren]
 |.s ..,_=>by simp only[AV.ren]
 |.v ..,_=>by simp only[AV.ren]
 |.p id _,ha=>by simp only[avOk] at ha;simp only[AV.ren,h id ha]
 |.sl id ..,ha=>by simp only[avOk] at ha;simp only[AV.ren,h id ha]
 |.em,_=>by simp only[AV.ren]
 |.isl ..,_=>by simp only[AV.ren]
 |.ip ..,_=>by simp only[AV.ren]
 |.f fn a b,ha=>by simp only[avOk] at ha;simp only[AV.ren,renL_congr h a ha.1,renL_congr h b ha.2]
 |.ifc t x,ha=>by simp only[avOk] at ha;simp only[AV.ren,ren_congr h x ha]
 |.ag cs,ha=>by simp only[avOk] at ha;simp only[AV.ren,renL_congr h cs ha]
 |.tu cs,ha=>by simp only[avOk] at ha;simp only[AV.ren,renL_congr h cs ha]
 |.m id,ha=>by simp only[avOk] at ha;simp only[AV.ren,h id ha]
 |.j,_=>by simp only[AV.ren]
theorem renL_congr (h:∀id,unpath id<N→f id=g id):∀(xs:List AV),avOkL N xs→AV.renL f xs=AV.renL g xs
 |[],_=>by simp only[AV.renL]
 |x::xs,ha=>by simp only[avOkL] at ha;simp only[AV.renL,ren_congr h x ha.1,renL_congr h xs ha.2]
end
theorem renE_congr (h:∀id,unpath id<N→f id=g id):∀(es:List (AV×AV)),(∀q∈es,avOk N q.1∧avOk N q.2)→renE f es=renE g es
 |[],_=>rfl
 |q::es,ha=>by
  have h1:=ha q (Mc ..)
  simp only[renE,ren_congr h _ h1.1,ren_congr h _ h1.2,renE_congr h es fun q hq=>ha q (Loz _ hq)]
theorem blkren_congr (h:∀id,unpath id<N→f id=g id) (b:Blk) (hb:blkOk N (some b)):b.ren f=b.ren g:=by
 cases b with
 |cs el l fz=>show Blk.cs el (AV.renL f l) fz=Blk.cs el (AV.renL g l) fz;rw[renL_congr h l hb]
 |mp es=>show Blk.mp (renE f es)=Blk.mp (renE g es);rw[renE_congr h es hb]
 |it s p=>rfl
 |dead=>rfl
theorem Wk_congr {hd:H} (h:∀id,unpath id<N→f id=g id){x0 x:AV} (ha:avOk N x) (hw:Wk hd f x0 x):Wk hd g x0 x:=by
 cases hw with
 |same=>rw[ren_congr h x ha];exact .same x
 |tight id off sz n lo ex hl=>simp only[avOk] at ha;rw[h id ha];exact .tight id off sz n lo ex hl
 |em0=>exact .em0
 |froz x0 t xs hx=>exact .froz _ _ _ hx
theorem FitB_congr {hd hh:H} (h:∀id,unpath id<N→f id=g id){id:Id} (hid:unpath id<N){b:Blk} (hb:blkOk N (some b)) (hf:FitB hd hh f id b):FitB hd hh g id b:=by
 rcases hf with h1|⟨el,l,l0,rfl,h2,h3,h4,h5⟩
 ·exact .inl (by rw[←h id hid,←blkren_congr h b hb];exact h1)
 ·refine .inr ⟨el,l,l0,rfl,by rw[←h id hid];exact h2,h3,h4,fun j x hx=>?_⟩
  obtain⟨x0,h6,h7⟩:=h5 j x hx
  have hb:avOkL N l:=hb
  exact⟨x0,h6,Wk_congr h (avOkL_mem hb x (List.mem_of_getElem? hx)) h7⟩
theorem HoldsR_congr {fr:T AV} (h:∀id,unpath id<N→f id=g id):∀{L:List (List Bool×AV)},LOk N L→HoldsR fr f L→HoldsR fr g L
 |[],_,_=>trivial
 |q::L,hL,hH=>⟨by rw[←ren_congr h q.2 hL.1];exact hH.1,HoldsR_congr h hL.2 hH.2⟩
end
theorem LOk_le {m n:Nat} (hmn:m≤n):∀{L:List (List Bool×AV)},LOk m L→LOk n L
 |[],_=>trivial
 |_::_,h=>⟨avOk_le hmn _ h.1,LOk_le hmn h.2⟩
theorem blkOk_le {m n:Nat} (hmn:m≤n) (b:Option Blk) (h:blkOk m b):blkOk n b:=by
 cases b with
 |none=>trivial
 |some b=>
  cases b with
  |cs el l fz=>exact avOkL_le hmn l h
  |mp es=>exact fun q hq=>⟨avOk_le hmn _ (h q hq).1,avOk_le hmn _ (h q hq).2⟩
  |it s p=>trivial
  |dead=>trivial
theorem blksOk_le {m n:Nat} (hmn:m≤n):∀{C:List (Option Blk)},blksOk m C→blksOk n C
 |[],_=>trivial
 |b::_,h=>⟨blkOk_le hmn b h.1,blksOk_le hmn h.2⟩
theorem blksOk_app {n:Nat}:∀{C:List (Option Blk)},blksOk n C→blksOk n (C++[some .dead])
 |[],_=>⟨trivial,trivial⟩
 |_::_,h=>⟨h.1,blksOk_app h.2⟩
theorem blksOk_get' {n:Nat}:∀{C:List (Option Blk)}{i:Nat}{c:Option Blk},blksOk n C→C[i]? =some c→blkOk n c
 |[],_,_,_,h=>by cases h
 |b::_,0,_,hb,h=>by obtain rfl:=Oi (show some b=some _ from h);exact hb.1
 |_::_,i+1,_,hb,h=>blksOk_get' (i:=i) hb.2 h
theorem EndC_dead {L:List (List Bool×AV)}{C:List (Option Blk)}{fr:T AV}{h:H}{b0:Blk} (hC:C[0]? =some (some b0)) (he:EndC 0 L C fr h):EndC 0 L (cat C [some .dead]) fr h:=by
 rw[cat_eq]
 obtain⟨q,hd,h1,h2,h3,h4,h5,h6,h7,h8,h9,h10⟩:=he
 simp only[Nat.zero_add] at h1 h3 h6
 have hg:∀i,i<q.length→from1 0 (q++[from1 0 q (path 0)]) (path i)=from1 0 q (path i):=fun i hi=>by
  obtain⟨x,hx⟩:∃x,q[i]? =some x:=⟨q[i],Lq hi⟩
  rw[from1_zero q i x hx,from1_zero _ i x (by rw[List.getElem?_append_left hi];exact hx)]
 have hcg:∀id,unpath id<q.length→from1 0 q id=from1 0 (q++[from1 0 q (path 0)]) id:=fun id hid=>by
  have:=hg (unpath id) hid
  rw[unpath_bij] at this;exact this.symm
 have hlt:∀(i:Nat) (b:Blk),(C++[some Blk.dead])[i]? =some (some b)→b≠.dead→C[i]? =some (some b)∧i<q.length:=fun i b hi hb=>by
  by_cases hl:i<C.length
  ·rw[List.getElem?_append_left hl] at hi;exact⟨hi,om⟩
  ·rw[List.getElem?_append_right om] at hi
   cases hk:i - C.length with
   |zero=>rw[hk] at hi;exact absurd (Oi (Oi (show some (some Blk.dead)=some (some b) from hi))).symm hb
   |succ m=>rw[hk] at hi;cases hi
 refine⟨q++[from1 0 q (path 0)],hd,by simp[h1],HoldsR_congr hcg h3 h2,LOk_le (by simp) h3,fun i c hi=>?_,fun i b hi hb=>?_,?_,h7,fun i b hi hb=>?_,fun j c _ hj=>?_,fun i j b c hi hj hb hc hij=>?_⟩
 ·by_cases hl:i<C.length
  ·rw[List.getElem?_append_left hl] at hi
   rw[hg i om];exact h4 i c hi
  ·rw[List.getElem?_append_right om] at hi
   have hz:=h4 0 _ hC
   cases hk:i - C.length with
   |zero=>
    rw[hk] at hi
    obtain rfl:=Oi (show some (some Blk.dead)=some c from hi)
    rw[from1_zero _ i (from1 0 q (path 0)) (by rw[show i=q.length by omega];simp)]
    exact hz
   |succ m=>rw[hk] at hi;cases hi
 ·obtain⟨h11,h12⟩:=hlt i b hi hb
  exact FitB_congr hcg (by rw[unpath_path];exact h12) (blksOk_get' h6 h11) (h5 i b h11 hb)
 ·exact blksOk_app (blksOk_le (by simp) h6)
 ·obtain⟨h11,h12⟩:=hlt i b hi hb
  rw[hg i h12];exact h8 i b h11 hb
 ·by_cases hl:j<C.length
  ·rw[List.getElem?_append_left hl] at hj;exact h9 j c (Nz _) hj
  ·rw[List.getElem?_append_right om] at hj
   cases hk:j - C.length with
   |zero=>rw[hk] at hj;exact⟨.dead,(Oi hj).symm⟩
   |succ m=>rw[hk] at hj;cases hj
 ·obtain⟨h11,h12⟩:=hlt i b hi hb
  obtain⟨h13,h14⟩:=hlt j c hj hc
  rw[hg i h12,hg j h14] at hij
  exact h10 i j b c h11 h13 hb hc hij
def dds:Nat→List (Option Blk):=Nat.rec [] (fun _ r=>some .dead::r)
def dS:Nat→List Spc:=Nat.rec [] (fun _ r=>.dd::r)
def preW (bw:Blk):List (Option Blk):=some .dead::some (.cs 39 zW_ false)::some bw::dds 37
def wLj (t:Nat) (jx bx:AV):List AV:=[.i .i64 (N t),.isl zIns prg_.1,.isl zEntry prg_.2,.isl zTrigger [],.isl zNode tr_,.isl zLock [],.isl zLock [],jx,.i .i64 (N 0),bx]
def jx_ (i:Nat):AV:=Nat.rec .em (fun n _=>.sl (path 41) 0 52 (Nat.succ n) (Nat.succ n) false) i
def jb_ (i:Nat) (l:List AV):Option Blk:=Nat.rec (some .dead) (fun _ _=>some (.cs 87 l false)) i
def CwJ (bw:Blk) (t i:Nat) (l:List AV) (ys:List (Option Blk)):List (Option Blk):=
 cat (preW bw) (some (.cs 39 (wLj t (jx_ i) .em) false)::jb_ i l::some .dead::cat ys (dds (Nat.sub 9 (Nat.mul 3 i))))
def yj (Y:Nat→Blk):List (Option Blk):=[some (Y 0),some (Y 1),some (Y 2)]
def L26 (js:List (den zJob)) (i:Nat):List (List Bool×AV):=
 [(path 1,.p (path 2) 0),(path 3,.p (path 40) 0),(path 29,.isl zJob js),(path 30,.i .i64 (N js.length)),(path 31,.i .i64 (N i))]
def kWj:List Kdc:=[.sc,.fz zIns,.fz zEntry,.fz zTrigger,.fz zNode,.fz zLock,.fz zLock,.ow (path 41),.sc,.ow (path 42)]
def preP:List Spc:=.dd::.lv::.lv::dS 37
def ot52s (i:Nat):List Kdc:=Nat.rec [] (fun _ r=>cat ot52 r) i
def lvs (n:Nat):List Spc:=Nat.rec [] (fun _ r=>.lv::r) n
def spJ (i:Nat) (h:H):List Spc:=match csOf (h.get (path 40)) 39 with
 |some w=>match nthD .em w 7 with
  |.sl id _ _ _ _ _=>match csOf (h.get id) 87 with
   |some l=>cat preP (.blk (path 40) 39 kWj::.blk id 87 (cat (ot52s i) (kJob (Nat.succ i)))::.dd::cat (lvs (Nat.mul 3 i)) (cat (jSp (Nat.succ i) (Nat.succ i) l) (dS (Nat.sub 6 (Nat.mul 3 i)))))
   |none=>[]
  |_=>[]
 |none=>[]
noncomputable def b26:Code:=Option.getD Tryz.f26.body .skip
def fsD (c:Code):Code:=match c with
 |.seq x _=>x
 |_=>.skip
def bkD (c:Code):Code:=match c with
 |.block _ x=>x
 |_=>.skip
def lpD (c:Code):Code:=match c with
 |.loop x=>x
 |_=>.skip
def rn26:Code:=lpD (bkD (sndC (fsD (sndC (sndC b26)))))
def in26:Code:=sndC (sndC rn26)
def zJ (Bn:Nat) (bw:Blk) (t i:Nat) (l:List AV) (ys:List (Option Blk)) (js:List (den zJob)):CR:=cZ Bn (EV Bn 60) 67 in26 (mkFr (L26 js i)) (hpH 52 (CwJ bw t i l ys))
def sumJ (i:Nat) (r:CR):Bool×AV×AV×AV×AV×AV×Option (List (Option Blk)):=
 (isNor r,getV (frZ r) (path 1),getV (frZ r) (path 3),getV (frZ r) (path 29),getV (frZ r) (path 30),getV (frZ r) (path 31),canon (spJ i (hZ r)) (hZ r))
def wantJ (bw:Blk) (t i:Nat) (l:List AV) (ys:List (Option Blk)) (js:List (den zJob)) (X:Nat→AV) (Y:Nat→Blk):Bool×AV×AV×AV×AV×AV×Option (List (Option Blk)):=
 (true,.p (path 2) 0,.p (path 40) 0,.isl zJob js,.i .i64 (N js.length),.i .i64 (N (Nat.succ i)),some (CwJ bw t (Nat.succ i) (cat l (cells52 X)) (cat ys (yj Y))))
def gc0 (Bn p c:Nat) (bw:Blk) (t:Nat) (rest:List (den zJob)):=sumJ 0 (zJ Bn bw t 0 [] [] (vJ p 1 c::rest))
def gk0 (p c:Nat) (bw:Blk) (t:Nat) (rest:List (den zJob)):=wantJ bw t 0 [] [] (vJ p 1 c::rest) (jX ⟨p,false,false⟩ 1 c) (jY ⟨p,false,false⟩ 1 c)
def gc1 (Bn p c:Nat) (bw:Blk) (t:Nat) (X1:Nat→AV) (Y1:Nat→Blk) (u1:den zJob) (rest:List (den zJob)):=sumJ 1 (zJ Bn bw t 1 (cells52 X1) (yj Y1) (u1::vJ p 2 c::rest))
def gk1 (p c:Nat) (bw:Blk) (t:Nat) (X1:Nat→AV) (Y1:Nat→Blk) (u1:den zJob) (rest:List (den zJob)):=wantJ bw t 1 (cells52 X1) (yj Y1) (u1::vJ p 2 c::rest) (jX ⟨p,false,false⟩ 2 c) (jY ⟨p,false,false⟩ 2 c)
def gc2 (Bn p c:Nat) (bw:Blk) (t:Nat) (X1 X2:Nat→AV) (Y1 Y2:Nat→Blk) (u1 u2:den zJob) (rest:List (den zJob)):=sumJ 2 (zJ Bn bw t 2 (cat (cells52 X1) (cells52 X2)) (cat (yj Y1) (yj Y2)) (u1::u2::vJ p 3 c::rest))
def gk2 (p c:Nat) (bw:Blk) (t:Nat) (X1 X2:Nat→AV) (Y1 Y2:Nat→Blk) (u1 u2:den zJob) (rest:List (den zJob)):=wantJ bw t 2 (cat (cells52 X1) (cells52 X2)) (cat (yj Y1) (yj Y2)) (u1::u2::vJ p 3 c::rest) (jX ⟨p,false,false⟩ 3 c) (jY ⟨p,false,false⟩ 3 c)
def spT (i:Nat) (id:Id) (l:List AV):List Spc:=
 .blk (path 40) 39 kWj::.blk id 87 (cat (ot52s i) (kJob (Nat.succ i)))::.dd::cat (lvs (Nat.mul 3 i)) (cat (jSp (Nat.succ i) (Nat.succ i) l) (dS (Nat.sub 6 (Nat.mul 3 i))))
theorem spJ_shape {i:Nat}{h:H}{C:List (Option Blk)} (hc:canon (spJ i h) h=some C) (hC:C≠[]):∃id l,spJ i h=cat preP (spT i id l):=by
 have key:spJ i h=[]∨∃id l,spJ i h=cat preP (spT i id l):=by
  unfold spJ
  split
  ·split
   ·split
    ·exact .inr ⟨_,_,rfl⟩
    ·exact .inl rfl
   ·exact .inl rfl
  ·exact .inl rfl
 rcases key with h1|h1
 ·rw[h1] at hc
  exact absurd (Oi (show some []=some C from hc)).symm hC
 ·exact h1
theorem midJ {i:Nat} (hi:i=0∨i=1∨i=2) (id:Id) (l:List AV) (j:Nat) (s:Spc) (h:(spT i id l)[j]? =some s):
 (j=0∧s=.blk (path 40) 39 kWj)∨(j=1∧s=.blk id 87 (cat (ot52s i) (kJob (Nat.succ i))))∨(s=.lv∧3≤j∧j<3+3*i)∨s=.dd∨(∃el ks x,s=spSl el ks x∧plainK ks):=by
 have p1:plainK [.sc]:=fun k h=>.inl (List.mem_singleton.1 h)
 have sl:∀(el:TypeId) (ks:List Kdc) (x:AV),plainK ks→some (spSl el ks x)=some s→∃el ks x,s=spSl el ks x∧plainK ks:=fun el ks x hp h=>⟨el,ks,x,(Oi h).symm,hp⟩
 match j,h with
 |0,h=>exact .inl ⟨rfl,(Oi h).symm⟩
 |1,h=>exact .inr (.inl ⟨rfl,(Oi h).symm⟩)
 |2,h=>exact .inr (.inr (.inr (.inl (Oi h).symm)))
 |3,h|4,h|5,h|6,h|7,h|8,h|9,h|10,h|11,h=>
  rcases hi with rfl|rfl|rfl<;>first
   |exact .inr (.inr (.inl ⟨(Oi h).symm,om,om⟩))
   |exact .inr (.inr (.inr (.inl (Oi h).symm)))
   |exact .inr (.inr (.inr (.inr (sl _ _ _ p1 h))))
   |exact .inr (.inr (.inr (.inr (sl _ _ _ (kdT_plain _) h))))
 |j+12,h=>rcases hi with rfl|rfl|rfl<;>cases h
theorem preP_len:preP.length=40:=kr
theorem preW_len (bw:Blk):(preW bw).length=40:=kr
theorem preP_lt {i:Nat} (h:i<40):preP[i]? =some .dd∨((i=1∨i=2)∧preP[i]? =some .lv):=by
 have key:(List.range 40).all (fun i=>match preP[i]? with
  |some .dd=>true
  |some .lv=>cd (Nat.beq i 1) true (Nat.beq i 2)
  |_=>false)=true:=kr
 have:=List.all_eq_true.1 key i (List.mem_range.2 h)
 split at this
 ·rename_i h2;exact .inl h2
 ·rename_i h2
  refine .inr ⟨?_,h2⟩
  cases hb:Nat.beq i 1 with
  |true=>exact .inl (Nq hb)
  |false=>rw[hb] at this;exact .inr (Nq this)
 ·cases this
theorem kWj_ok:∀k∈kWj,k≠.fx∧k≠.ot:=(plK_ok (N:=52) kr).2
theorem kJob_ok {i:Nat} (hi:i=0∨i=1∨i=2):∀k∈kJob (Nat.succ i),k≠.fx∧k≠.ot:=by
 rcases hi with rfl|rfl|rfl<;>exact(plK_ok (N:=52) kr).2
theorem ot52s_len {i:Nat} (hi:i=0∨i=1∨i=2):(ot52s i).length=52*i:=by rcases hi with rfl|rfl|rfl<;>rfl
theorem plain_no {ks:List Kdc} (h:plainK ks){k:Kdc} (hk:k∈ks):k≠.fx∧k≠.ot:=by
 rcases h k hk with rfl|⟨t,rfl⟩<;>exact⟨by simp,by simp⟩
theorem ot52s_mem:∀(i:Nat),∀k∈ot52s i,k=Kdc.ot:=by
 intro i
 induction i with
 |zero=>intro k h;cases h
 |succ i ih=>
  intro k h
  have h:k∈cat ot52 (ot52s i):=h
  rw[cat_eq] at h
  rcases List.mem_append.1 h with h|h
  ·have key:ot52.all (fun k=>match k with
    |.ot=>true
    |_=>false)=true:=kr
   have:=List.all_eq_true.1 key k h
   cases k<;>first|rfl|cases this
  ·exact ih k h
structure PreJ (i:Nat) (l:List AV) (ys:List (Option Blk)):Prop where
 len:l.length=52*i
 cel:∀(j:Nat) (x:AV),l[j]? =some x→∃k,1≤k∧k≤i∧idB (slots k) x
 yl:ys.length=3*i
 ys:∀(j:Nat) (c:Option Blk),ys[j]? =some c→∃b,c=some b∧(∀f:Id→Id,b.ren f=b)∧blkOk 52 (some b)
theorem endJ {Bn i:Nat} (hi:i=0∨i=1∨i=2){bw:Blk} (hbw:noIdB (some bw)=true){t:Nat}{l:List AV}{ys:List (Option Blk)}{js:List (den zJob)}{X:Nat→AV}{Y:Nat→Blk}{z:CR} (hp:PreJ i l ys)
 (h:sumJ i z=wantJ bw t i l ys js X Y):isNor z=true∧EndC 2 (L26 js (i+1)) (CwJ bw t (i+1) (cat l (cells52 X)) (cat ys (yj Y))) (frZ z) (hZ z):=by
 injection h with h1 h
 injection h with h2 h
 injection h with h3 h
 injection h with h4 h
 injection h with h5 h
 injection h with h6 hc
 refine⟨h1,?_⟩
 obtain⟨id,lj,hs⟩:=spJ_shape hc (by intro h;cases h)
 rw[hs] at hc
 generalize hC:CwJ bw t (Nat.succ i) (cat l (cells52 X)) (cat ys (yj Y))=C at hc
 have hlen:(cat preP (spT i id lj)).length=52:=by
  rw[cat_eq,La,preP_len]
  rcases hi with rfl|rfl|rfl<;>rfl
 have hget:∀(j:Nat) (s:Spc),(cat preP (spT i id lj))[j]? =some s→(j<40∧(s=.dd∨((j=1∨j=2)∧s=.lv)))∨(40≤j∧(spT i id lj)[j - 40]? =some s):=fun j s hj=>by
  rw[cat_get _ _ 40 preP_len] at hj
  split at hj
  ·rename_i h1
   left
   refine⟨h1,?_⟩
   rcases preP_lt h1 with h3|⟨h3,h4⟩
   ·rw[h3] at hj;exact .inl (Oi hj).symm
   ·rw[h4] at hj;exact .inr ⟨h3,(Oi hj).symm⟩
  ·rename_i h1;exact .inr ⟨om,hj⟩
 have hsrc:∀(j:Nat) (s:Spc),(cat preP (spT i id lj))[j]? =some s→from1 0 (srcs (cat preP (spT i id lj)) 0) (path j)=srcOf j s:=fun j s hj=>from1_zero _ _ _ (by rw[srcs_get _ 0 j s hj,Nat.zero_add])
 have at40:∀j,(cat preP (spT i id lj))[40+j]? =(spT i id lj)[j]? :=fun j=>by
  rw[cat_get _ _ 40 preP_len,if_neg om,Nat.add_sub_cancel_left]
 have f40:=hsrc 40 _ (by rw[at40 0];rfl)
 have f2:=hsrc 2 .lv (by rw[cat_get _ _ 40 preP_len];rfl)
 have fsl:∀k,1≤k→k≤i→∀x∈slots k,from1 0 (srcs (cat preP (spT i id lj)) 0) x=x:=fun k hk1 hk2 x hx=>by
  have hlv:∀j,j<3→(spT i id lj)[3*k+j]? =some .lv:=fun j hj=>by
   have hk:k=1∨k=2:=om
   have hj:j=0∨j=1∨j=2:=om
   rcases hi with rfl|rfl|rfl<;>rcases hk with rfl|rfl<;>first|omega|(rcases hj with rfl|rfl|rfl<;>rfl)
  unfold slots at hx
  simp only[List.mem_cons,List.not_mem_nil,or_false] at hx
  rcases hx with rfl|rfl|rfl
  ·exact hsrc _ .lv (by simp only[Nat.add_eq,Nat.mul_eq];rw[at40];exact hlv 0 om)
  ·have e:Nat.add 41 (Nat.mul 3 k)=40+(3*k+1):=by simp only[Nat.add_eq,Nat.mul_eq];omega
   rw[e]
   exact hsrc _ .lv (by rw[at40];exact hlv 1 om)
  ·have e:Nat.add 42 (Nat.mul 3 k)=40+(3*k+2):=by simp only[Nat.add_eq,Nat.mul_eq];omega
   rw[e]
   exact hsrc _ .lv (by rw[at40];exact hlv 2 om)
 have hblk:∀(j:Nat) (src:Id) (el:TypeId) (ks:List Kdc),(cat preP (spT i id lj))[j]? =some (.blk src el ks)→(∀k∈ks,k≠.fx∧k≠.ot)∨(j=41∧ks=cat (ot52s i) (kJob (Nat.succ i))):=fun j src el ks hj=>by
  rcases hget j _ hj with ⟨_,h1|⟨_,h1⟩⟩|⟨h1,h3⟩
  ·cases h1
  ·cases h1
  ·rcases midJ hi id lj _ _ h3 with ⟨h4,h5⟩|⟨h4,h5⟩|⟨h5,_⟩|h5|⟨el',ks',x,h5,h6⟩
   ·injection h5 with _ _ h5;subst h5;exact .inl kWj_ok
   ·injection h5 with _ _ h5;exact .inr ⟨om,h5⟩
   ·cases h5
   ·cases h5
   ·exact .inl fun k hk=>plain_no h6 (othK_sl h5.symm k hk)
 have hC41:C[41]? =some (some (.cs 87 (cat l (cells52 X)) false)):=by rw[←hC];unfold CwJ;rw[cat_get _ _ 40 (preW_len bw)];rfl
 have hC43:∀j,C[43+j]? =(cat (cat ys (yj Y)) (dds (Nat.sub 9 (Nat.mul 3 (Nat.succ i)))))[j]? :=fun j=>by
  rw[←hC];unfold CwJ;rw[cat_get _ _ 40 (preW_len bw),if_neg om,show 43+j - 40=j+1+1+1 by omega];rfl
 have hlv:∀(j:Nat),(cat preP (spT i id lj))[j]? =some .lv→∃b,C[j]? =some (some b)∧(∀f:Id→Id,b.ren f=b)∧blkOk 52 (some b):=fun j hj=>by
  rcases hget j _ hj with ⟨_,h1|⟨h1,_⟩⟩|⟨h1,h3⟩
  ·cases h1
  ·rcases h1 with rfl|rfl
   ·refine⟨.cs 39 zW_ false,by rw[←hC];unfold CwJ;rw[cat_get _ _ 40 (preW_len bw)];rfl,fun f=>(noIdB_ok (N:=52) kr).1,(noIdB_ok (f:=fun x=>x) kr).2⟩
   ·refine⟨bw,by rw[←hC];unfold CwJ;rw[cat_get _ _ 40 (preW_len bw)];rfl,fun f=>(noIdB_ok (N:=52) hbw).1,(noIdB_ok (f:=fun x=>x) hbw).2⟩
  ·rcases midJ hi id lj _ _ h3 with ⟨_,h5⟩|⟨_,h5⟩|⟨_,h5,h6⟩|h5|⟨el',ks',x,h5,_⟩
   ·cases h5
   ·cases h5
   ·obtain⟨c,hc⟩:∃c,ys[j - 43]? =some c:=⟨_,Lq (by rw[hp.yl];omega)⟩
    obtain⟨b,rfl,hb1,hb2⟩:=hp.ys _ _ hc
    refine⟨b,?_,hb1,hb2⟩
    rw[show j=43+(j - 43) by omega,hC43,cat_eq,cat_eq,List.append_assoc,List.getElem?_append_left (by rw[hp.yl];omega),hc]
   ·cases h5
   ·exact absurd h5.symm sl_nlv
 refine EndCq.up (n:=2) (q:=srcs (cat preP (spT i id lj)) 0) (canon_endQ hc ?_ ?_ ?_ ?_ ?_ ?_ ?_) (by rw[srcs_length,hlen];omega) (fun j hj=>?_)
 ·rw[hlen]
  refine List.all_eq_true.2 fun s hsm=>?_
  obtain⟨j,hj⟩:=List.mem_iff_getElem?.1 hsm
  rcases hget j s hj with ⟨_,rfl|⟨_,rfl⟩⟩|⟨_,h3⟩
  ·rfl
  ·rfl
  ·rcases midJ hi id lj _ _ h3 with ⟨_,rfl⟩|⟨_,rfl⟩|⟨rfl,_⟩|rfl|⟨el',ks',x,rfl,h6⟩
   ·kernel_rfl
   ·rcases hi with rfl|rfl|rfl<;>kernel_rfl
   ·rfl
   ·rfl
   ·rcases spSl_cases el' ks' x with h7|⟨id,n,h7⟩
    ·rw[h7];rfl
    ·rw[h7]
     show(repK n ks').all (kdOk 52)=true
     refine List.all_eq_true.2 fun y hy=>?_
     rcases h6 y (repK_mem hy) with rfl|⟨t,rfl⟩<;>rfl
 ·refine⟨?_,?_,?_,?_,?_,trivial⟩
  ·show _=AV.ren _ (.p (path 2) 0)
   simp only[AV.ren];rw[f2];exact h2
  ·show _=AV.ren _ (.p (path 40) 0)
   simp only[AV.ren];rw[f40];exact h3
  ·show _=AV.ren _ (.isl zJob js)
   simp only[AV.ren];exact h4
  ·show _=AV.ren _ (.i .i64 (N js.length))
   simp only[AV.ren];exact h5
  ·show _=AV.ren _ (.i .i64 (N (Nat.succ i)))
   simp only[AV.ren];exact h6
 ·rw[hlen]
  refine⟨?_,?_,trivial,trivial,trivial,trivial⟩
  ·show unpath (path 2)<52
   rw[unpath_path];omega
  ·show unpath (path 40)<52
   rw[unpath_path];omega
 ·intro j src el ks l' jj x hj _ hk _
  rcases hblk j _ _ _ hj with h|⟨_,rfl⟩
  ·exact absurd rfl (h _ (List.mem_of_getElem? hk)).1
  ·have:=List.mem_of_getElem? hk
   rw[cat_eq] at this
   rcases List.mem_append.1 this with h|h
   ·cases ot52s_mem i _ h
   ·exact absurd rfl (kJob_ok hi _ h).1
 ·intro j src el ks l' jj x hj hCj hk hx
  rcases hblk j _ _ _ hj with h|⟨rfl,rfl⟩
  ·exact absurd rfl (h _ (List.mem_of_getElem? hk)).2
  ·rw[hC41] at hCj
   injection hCj with hCj;injection hCj with hCj;injection hCj with _ hCj _
   subst hCj
   rw[cat_eq] at hk hx
   by_cases hjj:jj<52*i
   ·rw[List.getElem?_append_left (by rw[hp.len];exact hjj)] at hx
    obtain⟨k,g1,g2,g3⟩:=hp.cel jj x hx
    rw[hlen]
    exact idB_oth (fsl k g1 g2) (slots_lt g1 om) g3
   ·rw[List.getElem?_append_right (by rw[ot52s_len hi];omega)] at hk
    exact absurd rfl (kJob_ok hi _ (List.mem_of_getElem? hk)).2
 ·intro j b hj hb
  obtain⟨b',g1,g2,g3⟩:=hlv j hj
  rw[hb] at g1
  obtain rfl:=Oi (Oi g1)
  rw[hlen]
  exact⟨g2 _,g3⟩
 ·intro j hj hb
  obtain⟨b',g1,_⟩:=hlv j hj
  rw[hb] at g1;cases g1
 ·have key:∀s,(cat preP (spT i id lj))[j]? =some s→srcOf j s=path j→(srcs (cat preP (spT i id lj)) 0)[j]? =some (path j):=fun s hs he=>by
   rw[srcs_get _ 0 j s hs,Nat.zero_add,he]
  match j,hj with
  |0,_=>exact key .dd (by rw[cat_get _ _ 40 preP_len];rfl) kr
  |1,_=>exact key .lv (by rw[cat_get _ _ 40 preP_len];rfl) rfl
def b17 (j:JS):Nat:=if 17≤j.p then 1 else 0
structure InvW (a:WS):Prop where
 ok:okWS a
 bs:a.bs.length=b17 a.j1+b17 a.j2+b17 a.j3
def stW (k:Nat) (a:WS):WS:=cd (Nat.beq (gJ k a).p 20) a (nxW k a)
def vW (k:Nat) (a:WS):Nat:=cd (Nat.beq (gJ k a).p 20) 5 0
theorem vW_or (k:Nat) (a:WS):vW k a=0∨vW k a=5:=by
 unfold vW
 cases Nat.beq (gJ k a).p 20
 ·exact .inl rfl
 ·exact .inr rfl
def tkW (a:WS):WS:=⟨a.j1,a.j2,a.j3,a.t+1,a.bs⟩
theorem lays_le:∀j∈lays,j.p≤20:=by
 intro j hj
 have key:lays.all (fun j=>Nat.ble j.p 20)=true:=by decide
 exact Nb (List.all_eq_true.1 key j hj)
theorem b17_nx (j:JS):b17 (nx j)=if 16≤j.p then 1 else 0:=by
 unfold b17
 show(if 17≤j.p+1 then 1 else 0)=_
 congr 1
 exact propext ⟨fun h=>by omega,fun h=>by omega⟩
theorem InvW.tk {a:WS} (h:InvW a):InvW (tkW a):=⟨⟨h.ok.j1,h.ok.j2,h.ok.j3⟩,h.bs⟩
section
variable {Bn:Nat} [BOk Bn]{c1 c2 c3:Nat}
def Q19 (Bn c1 c2 c3 k:Nat):Prop:=∀a,InvW a→(gJ k a).p=19→∃h2,At Bn 28 (Hd c1 c2 c3 a) [.p (path 40) 0,.i .i64 (N k)] (.i .i64 (N 0)) h2∧EndW (Cn c1 c2 c3 (nxW k a)) h2
theorem stW_end1 {a:WS} (h:a.j1.p=20):stW 1 a=a:=by
 show cd (Nat.beq a.j1.p 20) a (nxW 1 a)=a
 rw[h];rfl
theorem stW_go1 {a:WS} (h:a.j1.p≠20):stW 1 a=nxW 1 a:=by
 show cd (Nat.beq a.j1.p 20) a (nxW 1 a)=_
 rw[beqF h];rfl
theorem InvW.st1 {a:WS} (h:InvW a):InvW (stW 1 a):=by
 by_cases hp:a.j1.p=20
 ·rw[stW_end1 hp];exact h
 ·rw[stW_go1 hp]
  have hle:=lays_le _ h.ok.j1
  have hn:=lays_nx _ h.ok.j1 om
  refine⟨⟨hn,h.ok.j2,h.ok.j3⟩,?_⟩
  show(cd (Nat.beq a.j1.p 16) (a.bs++[bt_ 1]) a.bs).length=b17 (nx a.j1)+b17 a.j2+b17 a.j3
  have hb:=h.bs
  have hx:=b17_nx a.j1
  by_cases h16:a.j1.p=16
  ·have h0:b17 a.j1=0:=by unfold b17;rw[if_neg om]
   rw[if_pos om] at hx
   rw[h16]
   show(a.bs++[bt_ 1]).length=_
   rw[La,hx]
   simp only[List.length_singleton]
   omega
  ·have h0:b17 a.j1=b17 (nx a.j1):=by
    rw[hx];unfold b17
    congr 1
    exact propext ⟨fun h=>by omega,fun h=>by omega⟩
   rw[beqF h16]
   show a.bs.length=_
   omega
theorem stepAll1 (hL:Okl Bn Lc) (hQ:Q19 Bn c1 c2 c3 1) (hc:chr c1) (a:WS) (ha:InvW a):
 ∃h2,At Bn 28 (Hd c1 c2 c3 a) [.p (path 40) 0,.i .i64 (N 1)] (.i .i64 (N (vW 1 a))) h2∧EndW (Cn c1 c2 c3 (stW 1 a)) h2:=by
 have hle:=lays_le _ ha.ok.j1
 have hb:=ha.bs
 have b1:b17 a.j1≤1:=by unfold b17;split<;>omega
 have b2:b17 a.j2≤1:=by unfold b17;split<;>omega
 have b3:b17 a.j3≤1:=by unfold b17;split<;>omega
 by_cases hp:a.j1.p=20
 ·rw[stW_end1 hp]
  have ev:vW 1 a=5:=by
   show cd (Nat.beq a.j1.p 20) 5 0=5
   rw[hp];rfl
  rw[ev]
  refine⟨Hd c1 c2 c3 a,?_,end_self a⟩
  rw[Hd_HX]
  exact ended28 1 (endedW1 a hp)
 ·rw[stW_go1 hp]
  have ev:vW 1 a=0:=by
   show cd (Nat.beq a.j1.p 20) 5 0=0
   rw[beqF hp];rfl
  rw[ev]
  by_cases h19:a.j1.p=19
  ·obtain⟨h2,h3,h4⟩:=hQ a ha h19
   exact⟨h2,h3,h4⟩
  ·obtain⟨h2,h3,h4⟩:=stepW1 (c1:=c1) (c2:=c2) (c3:=c3) hL a ha.ok om om (fun h16=>by
    have h0:b17 a.j1=0:=by unfold b17;rw[if_neg om]
    omega) hc
   exact⟨h2,h3,h4⟩
theorem stW_end2 {a:WS} (h:a.j2.p=20):stW 2 a=a:=by
 show cd (Nat.beq a.j2.p 20) a (nxW 2 a)=a
 rw[h];rfl
theorem stW_go2 {a:WS} (h:a.j2.p≠20):stW 2 a=nxW 2 a:=by
 show cd (Nat.beq a.j2.p 20) a (nxW 2 a)=_
 rw[beqF h];rfl
theorem InvW.st2 {a:WS} (h:InvW a):InvW (stW 2 a):=by
 by_cases hp:a.j2.p=20
 ·rw[stW_end2 hp];exact h
 ·rw[stW_go2 hp]
  have hle:=lays_le _ h.ok.j2
  have hn:=lays_nx _ h.ok.j2 om
  refine⟨⟨h.ok.j1,hn,h.ok.j3⟩,?_⟩
  show(cd (Nat.beq a.j2.p 16) (a.bs++[bt_ 2]) a.bs).length=b17 a.j1+b17 (nx a.j2)+b17 a.j3
  have hb:=h.bs
  have hx:=b17_nx a.j2
  by_cases h16:a.j2.p=16
  ·have h0:b17 a.j2=0:=by unfold b17;rw[if_neg om]
   rw[if_pos om] at hx
   rw[h16]
   show(a.bs++[bt_ 2]).length=_
   rw[La,hx]
   simp only[List.length_singleton]
   omega
  ·have h0:b17 a.j2=b17 (nx a.j2):=by
    rw[hx];unfold b17
    congr 1
    exact propext ⟨fun h=>by omega,fun h=>by omega⟩
   rw[beqF h16]
   show a.bs.length=_
   omega
theorem stepAll2 (hL:Okl Bn Lc) (hQ:Q19 Bn c1 c2 c3 2) (hc:chr c2) (a:WS) (ha:InvW a):
 ∃h2,At Bn 28 (Hd c1 c2 c3 a) [.p (path 40) 0,.i .i64 (N 2)] (.i .i64 (N (vW 2 a))) h2∧EndW (Cn c1 c2 c3 (stW 2 a)) h2:=by
 have hle:=lays_le _ ha.ok.j2
 have hb:=ha.bs
 have b1:b17 a.j1≤1:=by unfold b17;split<;>omega
 have b2:b17 a.j2≤1:=by unfold b17;split<;>omega
 have b3:b17 a.j3≤1:=by unfold b17;split<;>omega
 by_cases hp:a.j2.p=20
 ·rw[stW_end2 hp]
  have ev:vW 2 a=5:=by
   show cd (Nat.beq a.j2.p 20) 5 0=5
   rw[hp];rfl
  rw[ev]
  refine⟨Hd c1 c2 c3 a,?_,end_self a⟩
  rw[Hd_HX]
  exact ended28 2 (endedW2 a hp)
 ·rw[stW_go2 hp]
  have ev:vW 2 a=0:=by
   show cd (Nat.beq a.j2.p 20) 5 0=0
   rw[beqF hp];rfl
  rw[ev]
  by_cases h19:a.j2.p=19
  ·obtain⟨h2,h3,h4⟩:=hQ a ha h19
   exact⟨h2,h3,h4⟩
  ·obtain⟨h2,h3,h4⟩:=stepW2 (c1:=c1) (c2:=c2) (c3:=c3) hL a ha.ok om om (fun h16=>by
    have h0:b17 a.j2=0:=by unfold b17;rw[if_neg om]
    omega) hc
   exact⟨h2,h3,h4⟩
theorem stW_end3 {a:WS} (h:a.j3.p=20):stW 3 a=a:=by
 show cd (Nat.beq a.j3.p 20) a (nxW 3 a)=a
 rw[h];rfl
theorem stW_go3 {a:WS} (h:a.j3.p≠20):stW 3 a=nxW 3 a:=by
 show cd (Nat.beq a.j3.p 20) a (nxW 3 a)=_
 rw[beqF h];rfl
theorem InvW.st3 {a:WS} (h:InvW a):InvW (stW 3 a):=by
 by_cases hp:a.j3.p=20
 ·rw[stW_end3 hp];exact h
 ·rw[stW_go3 hp]
  have hle:=lays_le _ h.ok.j3
  have hn:=lays_nx _ h.ok.j3 om
  refine⟨⟨h.ok.j1,h.ok.j2,hn⟩,?_⟩
  show(cd (Nat.beq a.j3.p 16) (a.bs++[bt_ 3]) a.bs).length=b17 a.j1+b17 a.j2+b17 (nx a.j3)
  have hb:=h.bs
  have hx:=b17_nx a.j3
  by_cases h16:a.j3.p=16
  ·have h0:b17 a.j3=0:=by unfold b17;rw[if_neg om]
   rw[if_pos om] at hx
   rw[h16]
   show(a.bs++[bt_ 3]).length=_
   rw[La,hx]
   simp only[List.length_singleton]
   omega
  ·have h0:b17 a.j3=b17 (nx a.j3):=by
    rw[hx];unfold b17
    congr 1
    exact propext ⟨fun h=>by omega,fun h=>by omega⟩
   rw[beqF h16]
   show a.bs.length=_
   omega
theorem stepAll3 (hL:Okl Bn Lc) (hQ:Q19 Bn c1 c2 c3 3) (hc:chr c3) (a:WS) (ha:InvW a):
 ∃h2,At Bn 28 (Hd c1 c2 c3 a) [.p (path 40) 0,.i .i64 (N 3)] (.i .i64 (N (vW 3 a))) h2∧EndW (Cn c1 c2 c3 (stW 3 a)) h2:=by
 have hle:=lays_le _ ha.ok.j3
 have hb:=ha.bs
 have b1:b17 a.j1≤1:=by unfold b17;split<;>omega
 have b2:b17 a.j2≤1:=by unfold b17;split<;>omega
 have b3:b17 a.j3≤1:=by unfold b17;split<;>omega
 by_cases hp:a.j3.p=20
 ·rw[stW_end3 hp]
  have ev:vW 3 a=5:=by
   show cd (Nat.beq a.j3.p 20) 5 0=5
   rw[hp];rfl
  rw[ev]
  refine⟨Hd c1 c2 c3 a,?_,end_self a⟩
  rw[Hd_HX]
  exact ended28 3 (endedW3 a hp)
 ·rw[stW_go3 hp]
  have ev:vW 3 a=0:=by
   show cd (Nat.beq a.j3.p 20) 5 0=0
   rw[beqF hp];rfl
  rw[ev]
  by_cases h19:a.j3.p=19
  ·obtain⟨h2,h3,h4⟩:=hQ a ha h19
   exact⟨h2,h3,h4⟩
  ·obtain⟨h2,h3,h4⟩:=stepW3 (c1:=c1) (c2:=c2) (c3:=c3) hL a ha.ok om om (fun h16=>by
    have h0:b17 a.j3=0:=by unfold b17;rw[if_neg om]
    omega) hc
   exact⟨h2,h3,h4⟩
end
def fstC (c:Code):Code:=match c with
 |.seq x _=>x
 |_=>.skip
def blcC (c:Code):Code:=match c with
 |.block _ x=>x
 |_=>.skip
def lopC (c:Code):Code:=match c with
 |.loop x=>x
 |_=>.skip
noncomputable def b10:Code:=Option.getD Tryz.f10.body .skip
def in10:Code:=sndC (sndC (sndC b10))
def loop10:Code:=blcC (sndC (fstC in10))
def rnd10:Code:=lopC loop10
def k10:Code:=blcC (fstC (sndC (sndC rnd10)))
def inc10:Code:=sndC (sndC (sndC rnd10))
def tl10:Code:=sndC (sndC (sndC k10))
def Lp (ord:List Int) (n i:Nat):List (List Bool×AV):=
 [(path 4,.p (path 1) 0),(path 7,.p (path 40) 0),(path 8,.i .i64 (N n)),(path 23,.isl (.int .i64) ord),(path 24,.i .i64 (N ord.length)),(path 25,.i .i64 (N i))]
def Lt (ord:List Int) (n i v:Nat):List (List Bool×AV):=(path 11,.i .i64 (N v))::Lp ord n i
section
variable {Bn:Nat} [BOk Bn]{c1 c2 c3:Nat}
theorem qEq {Q:Ex→T AV→H→Prop}{ex:Ex}{fr:T AV}{h h':H} (e:h'=h) (hq:Q ex fr h):Q ex fr h':=e▸hq
def up (v n:Nat):Nat:=cd (Nat.beq v 0) (n+1) n
theorem up_le (v n:Nat):up v n≤n+1:=by
 unfold up
 cases Nat.beq v 0
 ·exact Nat.le_succ n
 ·exact Nr _
theorem tailP (ord:List Int) (n i v:Nat) (h:H) (hv:v=0∨v=5) (hn:n<9223372036854775807) (hi:i<9223372036854775807) (Q:Ex→T AV→H→Prop)
 (hq:∀fr,Holds fr (Lp ord (up v n) (i+1))→Q .normal fr h):
 S Bn 48 tl10 (mkFr (Lt ord n i v)) h (blkQ 1 (thenQ (fun fr h=>S Bn 48 inc10 fr h Q) Q)):=by
 refine sR kr ?_
 rcases hv with rfl|rfl
 ·refine sCondT (b:=true) kr rfl ?_
  refine sV kr ?_
  refine sV kr ?_
  refine qEq (h:=h) kr (hq _ ?_)
  exact zh (zh (zn hn (zh (zh (zn hi trivial)))))
 ·refine sCond (b:=false) kr rfl ?_
  refine Sat.skip ?_
  refine sV kr ?_
  refine qEq (h:=h) kr (hq _ ?_)
  exact zh (zh (zh (zh (zh (zn hi trivial)))))
def gFh (Bn nt k:Nat) (fr:T AV) (hh h2:H) (ops:Array Oper) (v:AV) (call:CallF):FR:=
 evOps call hh.next ((regL PP (GG Bn) nt ops).drop (k+1)) (setD (opA (regL PP (GG Bn) nt ops) k).dst v (stF call hh.next (regL PP (GG Bn) nt ops) fr ⟨Nat.add hh.next (regN PP (GG Bn) nt ops),hh.t⟩ k)) h2
theorem atRegG {nt rid:Nat}{ops:Array Oper}{fr:T AV}{hh h h2:H}{Q:Ex→T AV→H→Prop} (k:Nat){f:Nat}{args:List AV}{v:AV} (ha:At Bn f h args v h2)
 (hpre:cd (stOk (callAt f h args v h2) hh.next (regL PP (GG Bn) nt ops) fr ⟨Nat.add hh.next (regN PP (GG Bn) nt ops),hh.t⟩ k) (cd (Nat.blt k (regL PP (GG Bn) nt ops).length)
  (cd (isT (wanted (opA (regL PP (GG Bn) nt ops) k).g (stF (callAt f h args v h2) hh.next (regL PP (GG Bn) nt ops) fr ⟨Nat.add hh.next (regN PP (GG Bn) nt ops),hh.t⟩ k))) true false) false) false=true)
 (hv:(viewC (opA (regL PP (GG Bn) nt ops) k) (stF (callAt f h args v h2) hh.next (regL PP (GG Bn) nt ops) fr ⟨Nat.add hh.next (regN PP (GG Bn) nt ops),hh.t⟩ k),stH (callAt f h args v h2) hh.next (regL PP (GG Bn) nt ops) fr ⟨Nat.add hh.next (regN PP (GG Bn) nt ops),hh.t⟩ k)=(some (f,args),h))
 (hr:isOkF (gFh Bn nt k fr hh h2 ops v (callAt f h args v h2))=true)
 (hq:Q .normal (frOf (gFh Bn nt k fr hh h2 ops v (callAt f h args v h2))) (hOf (gFh Bn nt k fr hh h2 ops v (callAt f h args v h2)))):S Bn nt (.region rid ops false) fr hh Q:=
 atReg k ha hpre hv (isOkF_eq' hr) hq
theorem stW_t (k:Nat) (a:WS):(stW k a).t=a.t:=by
 unfold stW
 cases Nat.beq (gJ k a).p 20<;>rfl
def stepO (x:Int) (q:WS×Nat):WS×Nat:=if x=N 0 then(tkW q.1,q.2+1) else if x=N 1 then(stW 1 q.1,up (vW 1 q.1) q.2) else if x=N 2 then(stW 2 q.1,up (vW 2 q.1) q.2) else(stW 3 q.1,up (vW 3 q.1) q.2)
def play (ord:List Int) (a0:WS):Nat→WS×Nat
 |0=>(a0,0)
 |i+1=>stepO (gt (.int .i64) ord i) (play ord a0 i)
structure PS where
 a:WS
 n:Nat
 i:Nat
def Cd (c1 c2 c3:Nat) (a:WS):List (Option Blk):=cat (Cn c1 c2 c3 a) [some .dead]
def Ip (ord:List Int) (a0:WS) (s:PS):Prop:=InvW s.a∧s.a.t≤s.i∧s.n≤s.i∧s.i≤ord.length∧play ord a0 s.i=(s.a,s.n)
theorem Lp_ok (ord:List Int) (n i:Nat):∀q∈Lp ord n i,okSlot q.2:=fun q hq=>by
 unfold Lp at hq
 simp only[List.mem_cons,List.not_mem_nil,or_false] at hq
 rcases hq with rfl|rfl|rfl|rfl|rfl|rfl<;>first|exact .inr rfl|exact .inl rfl|trivial
theorem endP {a:WS}{ord:List Int}{n i:Nat}{fr:T AV}{h:H} (he:EndW (Cn c1 c2 c3 a) h) (hh:Holds fr (Lp ord n i)):EndC 0 (Lp ord n i) (Cd c1 c2 c3 a) fr h:=
 EndC_dead (b0:=.dead) rfl (he _ _ (Lp_ok ord n i) hh)
theorem roundP (hL:Okl Bn Lc) (hQ1:Q19 Bn c1 c2 c3 1) (hQ2:Q19 Bn c1 c2 c3 2) (hQ3:Q19 Bn c1 c2 c3 3) (hc1:chr c1) (hc2:chr c2) (hc3:chr c3)
 (ord:List Int) (hord:∀x∈ord,x=N 0∨x=N 1∨x=N 2∨x=N 3) (hlen:ord.length≤200) (a0:WS) (s:PS) (hs:Ip ord a0 s) (Q:Ex→T AV→H→Prop)
 (hex:s.i=ord.length→∀fr,Holds fr (Lp ord s.n s.i)→Q (.exit 0) fr (Hd c1 c2 c3 s.a)):
 S Bn 48 rnd10 (mkFr (Lp ord s.n s.i)) (Hd c1 c2 c3 s.a) (thenQ (fun fr' h'=>∃s':PS,Ip ord a0 s'∧ord.length - s'.i<ord.length - s.i∧EndC 0 (Lp ord s'.n s'.i) (Cd c1 c2 c3 s'.a) fr' h') Q):=by
 obtain⟨a,n,i⟩:=s
 obtain⟨ha,ht,hn,hi,hpl⟩:=hs
 simp only at ha ht hn hi hex hpl
 refine sR kr ?_
 refine Sat.seq ?_
 by_cases hlt:i<ord.length
 ·refine sCondT (b:= !iLe (N ord.length) (N i)) kr (by rw[iLe_eq];simp;omega) ?_
  refine Sat.skip ?_
  refine Sat.seq (Sat.block ?_)
  have hx:gt (.int .i64) ord i=N 0∨gt (.int .i64) ord i=N 1∨gt (.int .i64) ord i=N 2∨gt (.int .i64) ord i=N 3:=hord _ (by have h0:ord[i]? =some (gt (.int .i64) ord i):=gt_some (t:=.int .i64) (xs:=ord) hlt;exact List.mem_of_getElem? h0)
  have fin:∀(a':WS) (h2:H) (n':Nat),InvW a'→a'.t≤i+1→n'≤n+1→stepO (gt (.int .i64) ord i) (a,n)=(a',n')→EndW (Cn c1 c2 c3 a') h2→∀fr,Holds fr (Lp ord n' (i+1))→
   (thenQ (fun fr' h'=>∃s':PS,Ip ord a0 s'∧ord.length - s'.i<ord.length - i∧EndC 0 (Lp ord s'.n s'.i) (Cd c1 c2 c3 s'.a) fr' h') Q) .normal fr h2:=fun a' h2 n' ha' ht' hn' hst he fr hh=>
   ⟨⟨a',n',i+1⟩,⟨ha',ht',by simp only;omega,by simp only;omega,by show stepO (gt (.int .i64) ord i) (play ord a0 i)=_;rw[hpl,hst]⟩,by simp only;omega,endP he hh⟩
  rcases hx with hx|hx|hx|hx
  ·refine Sat.seq (Sat.reg (call:=EV Bn 60) hmix (EV_ok 60) ?_)
   refine zi 0 (.int .i64) ord i hlt ?_
   refine zv 1 28 (.i .i64 (gt (.int .i64) ord i)) (.i .i64 (N 0)) (by rw[hx]) ?_
   refine zf ?_
   refine sR kr ?_
   refine Sat.seq ?_
   refine sR kr ?_
   refine sCondT (b:=true) kr rfl ?_
   obtain⟨h2,h3,h4⟩:=tickW (Bn:=Bn) (c1:=c1) (c2:=c2) (c3:=c3) a om
   refine atRegG 1 h3 kr kr kr ?_
   refine Sat.keepL (Lt ord n i 0) ⟨kr,kr,kr,kr,kr,kr,kr,trivial⟩ ?_
   exact S_eq kr kr kr (tailP ord n i 0 h2 (.inl rfl) om om _ (fin (tkW a) h2 _ ha.tk (by show a.t+1≤_;omega) (up_le _ _) (by rw[hx];rfl) h4))
  ·refine Sat.seq (Sat.reg (call:=EV Bn 60) hmix (EV_ok 60) ?_)
   refine zi 0 (.int .i64) ord i hlt ?_
   refine zv 1 28 (.i .i64 (gt (.int .i64) ord i)) (.i .i64 (N 1)) (by rw[hx]) ?_
   refine zf ?_
   refine sR kr ?_
   refine Sat.seq ?_
   refine sR kr ?_
   refine sCond (b:=false) kr rfl ?_
   obtain⟨h2,h3,h4⟩:=stepAll1 (Bn:=Bn) (c1:=c1) (c2:=c2) (c3:=c3) hL hQ1 hc1 a ha
   refine atRegG 2 h3 kr kr kr ?_
   refine Sat.keepL (Lt ord n i (vW 1 a)) ⟨kr,kr,kr,kr,kr,kr,kr,trivial⟩ ?_
   exact S_eq kr kr kr (tailP ord n i (vW 1 a) h2 (vW_or 1 a) om om _ (fin (stW 1 a) h2 _ ha.st1 (by rw[stW_t 1];omega) (up_le _ _) (by rw[hx];rfl) h4))
  ·refine Sat.seq (Sat.reg (call:=EV Bn 60) hmix (EV_ok 60) ?_)
   refine zi 0 (.int .i64) ord i hlt ?_
   refine zv 1 28 (.i .i64 (gt (.int .i64) ord i)) (.i .i64 (N 2)) (by rw[hx]) ?_
   refine zf ?_
   refine sR kr ?_
   refine Sat.seq ?_
   refine sR kr ?_
   refine sCond (b:=false) kr rfl ?_
   obtain⟨h2,h3,h4⟩:=stepAll2 (Bn:=Bn) (c1:=c1) (c2:=c2) (c3:=c3) hL hQ2 hc2 a ha
   refine atRegG 2 h3 kr kr kr ?_
   refine Sat.keepL (Lt ord n i (vW 2 a)) ⟨kr,kr,kr,kr,kr,kr,kr,trivial⟩ ?_
   exact S_eq kr kr kr (tailP ord n i (vW 2 a) h2 (vW_or 2 a) om om _ (fin (stW 2 a) h2 _ ha.st2 (by rw[stW_t 2];omega) (up_le _ _) (by rw[hx];rfl) h4))
  ·refine Sat.seq (Sat.reg (call:=EV Bn 60) hmix (EV_ok 60) ?_)
   refine zi 0 (.int .i64) ord i hlt ?_
   refine zv 1 28 (.i .i64 (gt (.int .i64) ord i)) (.i .i64 (N 3)) (by rw[hx]) ?_
   refine zf ?_
   refine sR kr ?_
   refine Sat.seq ?_
   refine sR kr ?_
   refine sCond (b:=false) kr rfl ?_
   obtain⟨h2,h3,h4⟩:=stepAll3 (Bn:=Bn) (c1:=c1) (c2:=c2) (c3:=c3) hL hQ3 hc3 a ha
   refine atRegG 2 h3 kr kr kr ?_
   refine Sat.keepL (Lt ord n i (vW 3 a)) ⟨kr,kr,kr,kr,kr,kr,kr,trivial⟩ ?_
   exact S_eq kr kr kr (tailP ord n i (vW 3 a) h2 (vW_or 3 a) om om _ (fin (stW 3 a) h2 _ ha.st3 (by rw[stW_t 3];omega) (up_le _ _) (by rw[hx];rfl) h4))
 ·refine sCond (b:= !iLe (N ord.length) (N i)) kr (by rw[iLe_eq];simp;omega) ?_
  refine Sat.exit ?_
  refine qEq (h:=Hd c1 c2 c3 a) kr (hex om _ ?_)
  exact zh (zh (zh (zh (zh (zh trivial)))))
theorem SatE_eq {n0 nt nt':Nat}{c c':Code}{fr fr':T AV}{h h':H}{Q:Ex→T AV→H→Prop} (hn:nt=nt') (hc:c=c') (hfr:fr=fr') (hh:h=h') (hs:SatE n0 PP (GG Bn) nt' c' fr' h' Q):SatE n0 PP (GG Bn) nt c fr h Q:=by
 subst hn hc hfr hh;exact hs
theorem loopP (hL:Okl Bn Lc) (hQ1:Q19 Bn c1 c2 c3 1) (hQ2:Q19 Bn c1 c2 c3 2) (hQ3:Q19 Bn c1 c2 c3 3) (hc1:chr c1) (hc2:chr c2) (hc3:chr c3)
 (ord:List Int) (hord:∀x∈ord,x=N 0∨x=N 1∨x=N 2∨x=N 3) (hlen:ord.length≤200) (a0:WS) (h0:InvW a0) (ht0:a0.t=0) (Q:Ex→T AV→H→Prop)
 (hex:∀(a:WS) (n:Nat) fr,play ord a0 ord.length=(a,n)→InvW a→a.t≤200→n≤200→Holds fr (Lp ord n ord.length)→Q (.exit 0) fr (Hd c1 c2 c3 a)):
 SatE 0 PP (GG Bn) 48 loop10 (mkFr (Lp ord 0 0)) (Hd c1 c2 c3 a0) Q:=by
 have key:=SatE.loop (n:=0) (nt:=48) (Q:=Q) (P:=PP) (G:=GG Bn) (show 1073741824≤(GG Bn).B from BOk.lo (B:=Bn)) (b:=rnd10) (fun s:PS=>Lp ord s.n s.i) (fun s=>Cd c1 c2 c3 s.a) (fun s=>ord.length - s.i) (Ip ord a0)
  (fun s hs=>SatE_eq (n0:=0) (nt':=48) (c':=rnd10) (fr':=mkFr (Lp ord s.n s.i)) (h':=Hd c1 c2 c3 s.a) rfl rfl rfl kr
   (SatE.of (roundP hL hQ1 hQ2 hQ3 hc1 hc2 hc3 ord hord hlen a0 s hs Q fun he fr hh=>by
    have h1:=hs.2.1
    have h2:=hs.2.2.1
    have h3:=hex s.a s.n fr (by rw[←he];exact hs.2.2.2.2) hs.1 om om (by rw[←he];exact hh)
    exact h3))) ⟨a0,0,0⟩ ⟨h0,by simp only;omega,by simp only;omega,by simp only;omega,rfl⟩ (by simp only;omega)
 exact SatE_eq (c':=.loop rnd10) (h':=hpH (Cd c1 c2 c3 a0).length (Cd c1 c2 c3 a0)) (fr':=mkFr (Lp ord 0 0)) rfl kr rfl kr key
end
noncomputable def b12:Code:=Option.getD Tryz.f12.body .skip
def in12:Code:=sndC (sndC (sndC b12))
def loop12:Code:=blcC (sndC (fstC in12))
def rnd12:Code:=lopC loop12
def ko12:Code:=blcC (fstC (sndC (sndC rnd12)))
def tick12:Code:=sndC ko12
def loop12i:Code:=blcC (sndC (fstC ko12))
def rnd12i:Code:=lopC loop12i
def Lo (r:Nat):List (List Bool×AV):=[(path 4,.p (path 1) 0),(path 6,.p (path 40) 0),(path 20,.i .i64 (N 200)),(path 21,.i .i64 (N r))]
def Li (r j:Nat):List (List Bool×AV):=[(path 4,.p (path 1) 0),(path 6,.p (path 40) 0),(path 20,.i .i64 (N 200)),(path 21,.i .i64 (N r)),(path 26,.sl (path 41) 0 52 3 3 false),(path 27,.i .i64 (N 3)),(path 28,.i .i64 (N j))]
theorem Lo_ok (r:Nat):∀q∈Lo r,okSlot q.2:=fun q hq=>by
 unfold Lo at hq
 simp only[List.mem_cons,List.not_mem_nil,or_false] at hq
 rcases hq with rfl|rfl|rfl|rfl<;>first|exact .inr rfl|exact .inl rfl|trivial
theorem Li_ok (r j:Nat):∀q∈Li r j,okSlot q.2:=fun q hq=>by
 unfold Li at hq
 simp only[List.mem_cons,List.not_mem_nil,or_false] at hq
 rcases hq with rfl|rfl|rfl|rfl|rfl|rfl|rfl<;>first|exact .inr rfl|exact .inl rfl|exact rfl|trivial
def rndW (a:WS):WS:=tkW (stW 3 (stW 2 (stW 1 a)))
def rnds (a0:WS):Nat→WS
 |0=>a0
 |r+1=>rndW (rnds a0 r)
def inW (a:WS) (j:Nat):WS:=cd (Nat.beq j 0) a (cd (Nat.beq j 1) (stW 1 a) (cd (Nat.beq j 2) (stW 2 (stW 1 a)) (stW 3 (stW 2 (stW 1 a)))))
structure RR where
 a:WS
 r:Nat
 j:Nat
def pr (r:Nat):Nat:=if r≤20 then r else 20
structure Io (s:RR):Prop where
 inv:InvW s.a
 t:s.a.t≤200+s.r
 r:s.r≤200
 p1:pr s.r≤s.a.j1.p
 p2:pr s.r≤s.a.j2.p
 p3:pr s.r≤s.a.j3.p
structure Ii (s:RR):Prop where
 inv:InvW s.a
 t:s.a.t≤200+s.r
 r:s.r<200
 j:s.j≤3
 p1:pr (if 1≤s.j then s.r+1 else s.r)≤s.a.j1.p
 p2:pr (if 2≤s.j then s.r+1 else s.r)≤s.a.j2.p
 p3:pr (if 3≤s.j then s.r+1 else s.r)≤s.a.j3.p
section
variable {Bn:Nat} [BOk Bn]{c1 c2 c3:Nat}
def H52 (c1 c2 c3:Nat) (a:WS):H:=hpH 52 (Cn c1 c2 c3 a)
theorem self_sum52 (X1 X2 X3:Nat→AV) (Y1 Y2 Y3:Nat→Blk) (t:Nat) (bx:AV) (b0:Blk) (v:AV):sumR 0 false (.ok v (hpH 52 (CX X1 X2 X3 Y1 Y2 Y3 t bx b0)))=some (v,CX X1 X2 X3 Y1 Y2 Y3 t bx b0):=kr
theorem end_self52 (a:WS):EndW (Cn c1 c2 c3 a) (H52 c1 c2 c3 a):=by
 obtain⟨h2,h1,h3⟩:=step_end (c1:=c1) (c2:=c2) (c3:=c3) (k:=0) (b:=false) (.inl rfl) (r:=.ok .em (H52 c1 c2 c3 a)) (v:=.em) (a':=a) (by unfold H52;rw[Cn_CX];exact self_sum52 _ _ _ _ _ _ _ _ _ _)
 injection h1 with _ h4
 subst h4;exact h3
def HJ (c1 c2 c3:Nat) (a:WS) (X:Nat→AV):H:=hpH 53 (cat (Cn c1 c2 c3 a) [some (.cs 87 (cells52 X) false)])
theorem HJ_at {f:Nat}{args:List AV}{v:AV}{h2:H}{a:WS} (X:Nat→AV) (ha:At Bn f (Hd c1 c2 c3 a) args v h2):At Bn f (HJ c1 c2 c3 a X) args v h2:=by
 have e:(HJ c1 c2 c3 a X).put (path 52) .dead=Hd c1 c2 c3 a:=by
  unfold HJ Hd;rw[Cn_CX];kernel_rfl
 exact At.kill (p:=path 52) (b:=.cs 87 (cells52 X) false) (by unfold HJ;rw[Cn_CX];kernel_rfl) (by rw[e];exact ha)
theorem H52_id (a:WS):H52 c1 c2 c3 a=hpH 52 (CX (idX 1 (jX a.j1 1 c1)) (idX 2 (jX a.j2 2 c2)) (idX 3 (jX a.j3 3 c3)) (jY a.j1 1 c1) (jY a.j2 2 c2) (jY a.j3 3 c3) a.t (bsA a.bs) (sBk (t:=zBatch) 121 false a.bs)):=by
 rw[jX_id,jX_id,jX_id];rfl
theorem HJ_id (a:WS) (k:Nat) (X:Nat→AV) (hX:idX k X=X):HJ c1 c2 c3 a X=hpH 53 (cat (CX (idX 1 (jX a.j1 1 c1)) (idX 2 (jX a.j2 2 c2)) (idX 3 (jX a.j3 3 c3)) (jY a.j1 1 c1) (jY a.j2 2 c2) (jY a.j3 3 c3) a.t (bsA a.bs) (sBk (t:=zBatch) 121 false a.bs)) [some (.cs 87 (cells52 (idX k X)) false)]):=by
 rw[jX_id,jX_id,jX_id,hX];rfl
theorem endI {a:WS}{r j:Nat}{fr:T AV}{h:H} (he:EndW (Cn c1 c2 c3 a) h) (hh:Holds fr (Li r j)):EndC 0 (Li r j) (Cn c1 c2 c3 a) fr h:=he _ _ (Li_ok r j) hh
theorem endO {a:WS}{r:Nat}{fr:T AV}{h:H} (he:EndW (Cn c1 c2 c3 a) h) (hh:Holds fr (Lo r)):EndC 0 (Lo r) (Cn c1 c2 c3 a) fr h:=he _ _ (Lo_ok r) hh
theorem endOd {a:WS}{r:Nat}{fr:T AV}{h:H} (he:EndW (Cn c1 c2 c3 a) h) (hh:Holds fr (Lo r)):EndC 0 (Lo r) (Cd c1 c2 c3 a) fr h:=EndC_dead (b0:=.dead) rfl (he _ _ (Lo_ok r) hh)
theorem pr_le {r p q:Nat} (h:pr r≤p) (hq:p<q∨(p=20∧q=20)):pr (r+1)≤q:=by
 unfold pr at*;split<;>split at h<;>omega
theorem stW_p1 {a:WS} (h:InvW a):a.j1.p<(stW 1 a).j1.p∨(a.j1.p=20∧(stW 1 a).j1.p=20):=by
 by_cases hp:a.j1.p=20
 ·rw[stW_end1 hp];exact .inr ⟨hp,hp⟩
 ·rw[stW_go1 hp];exact .inl (Nat.lt_succ_self _)
theorem stW_o12 (a:WS):(stW 1 a).j2=a.j2:=by
 unfold stW
 cases Nat.beq (gJ 1 a).p 20<;>rfl
theorem stW_o13 (a:WS):(stW 1 a).j3=a.j3:=by
 unfold stW
 cases Nat.beq (gJ 1 a).p 20<;>rfl
theorem stW_p2 {a:WS} (h:InvW a):a.j2.p<(stW 2 a).j2.p∨(a.j2.p=20∧(stW 2 a).j2.p=20):=by
 by_cases hp:a.j2.p=20
 ·rw[stW_end2 hp];exact .inr ⟨hp,hp⟩
 ·rw[stW_go2 hp];exact .inl (Nat.lt_succ_self _)
theorem stW_o21 (a:WS):(stW 2 a).j1=a.j1:=by
 unfold stW
 cases Nat.beq (gJ 2 a).p 20<;>rfl
theorem stW_o23 (a:WS):(stW 2 a).j3=a.j3:=by
 unfold stW
 cases Nat.beq (gJ 2 a).p 20<;>rfl
theorem stW_p3 {a:WS} (h:InvW a):a.j3.p<(stW 3 a).j3.p∨(a.j3.p=20∧(stW 3 a).j3.p=20):=by
 by_cases hp:a.j3.p=20
 ·rw[stW_end3 hp];exact .inr ⟨hp,hp⟩
 ·rw[stW_go3 hp];exact .inl (Nat.lt_succ_self _)
theorem stW_o31 (a:WS):(stW 3 a).j1=a.j1:=by
 unfold stW
 cases Nat.beq (gJ 3 a).p 20<;>rfl
theorem stW_o32 (a:WS):(stW 3 a).j2=a.j2:=by
 unfold stW
 cases Nat.beq (gJ 3 a).p 20<;>rfl
theorem inner1 (hL:Okl Bn Lc) (hQ:Q19 Bn c1 c2 c3 1) (hc:chr c1) (a:WS) (ha:InvW a) (r:Nat) (Q:Ex→T AV→H→Prop)
 (hq:∀fr h2,EndW (Cn c1 c2 c3 (stW 1 a)) h2→Holds fr (Li r 1)→Q .normal fr h2):S Bn 46 rnd12i (mkFr (Li r 0)) (H52 c1 c2 c3 a) Q:=by
 refine S_eq (n':=46) (c':=rnd12i) (h':=hpH 52 (CX (idX 1 (jX a.j1 1 c1)) (idX 2 (jX a.j2 2 c2)) (idX 3 (jX a.j3 3 c3)) (jY a.j1 1 c1) (jY a.j2 2 c2) (jY a.j3 3 c3) a.t (bsA a.bs) (sBk (t:=zBatch) 121 false a.bs))) rfl rfl (H52_id a) ?_
 refine sR kr ?_
 refine Sat.seq ?_
 refine sCondT (b:=true) kr rfl ?_
 refine Sat.skip ?_
 refine Sat.seq (Sat.block ?_)
 refine sR kr ?_
 obtain⟨h2,h3,h4⟩:=stepAll1 (Bn:=Bn) (c1:=c1) (c2:=c2) (c3:=c3) hL hQ hc a ha
 have h5:=HJ_at (jX a.j1 1 c1) h3
 rw[HJ_id a 1 _ (jX_id _ _ _)] at h5
 refine atRegG 3 h5 kr kr kr ?_
 refine sV kr ?_
 refine qEq (h:=h2) kr (hq _ _ h4 ?_)
 exact zh (zh (zh (zh (zh (zh (zn (i:=0) om trivial))))))
theorem inner2 (hL:Okl Bn Lc) (hQ:Q19 Bn c1 c2 c3 2) (hc:chr c2) (a:WS) (ha:InvW a) (r:Nat) (Q:Ex→T AV→H→Prop)
 (hq:∀fr h2,EndW (Cn c1 c2 c3 (stW 2 a)) h2→Holds fr (Li r 2)→Q .normal fr h2):S Bn 46 rnd12i (mkFr (Li r 1)) (H52 c1 c2 c3 a) Q:=by
 refine S_eq (n':=46) (c':=rnd12i) (h':=hpH 52 (CX (idX 1 (jX a.j1 1 c1)) (idX 2 (jX a.j2 2 c2)) (idX 3 (jX a.j3 3 c3)) (jY a.j1 1 c1) (jY a.j2 2 c2) (jY a.j3 3 c3) a.t (bsA a.bs) (sBk (t:=zBatch) 121 false a.bs))) rfl rfl (H52_id a) ?_
 refine sR kr ?_
 refine Sat.seq ?_
 refine sCondT (b:=true) kr rfl ?_
 refine Sat.skip ?_
 refine Sat.seq (Sat.block ?_)
 refine sR kr ?_
 obtain⟨h2,h3,h4⟩:=stepAll2 (Bn:=Bn) (c1:=c1) (c2:=c2) (c3:=c3) hL hQ hc a ha
 have h5:=HJ_at (jX a.j2 2 c2) h3
 rw[HJ_id a 2 _ (jX_id _ _ _)] at h5
 refine atRegG 3 h5 kr kr kr ?_
 refine sV kr ?_
 refine qEq (h:=h2) kr (hq _ _ h4 ?_)
 exact zh (zh (zh (zh (zh (zh (zn (i:=1) om trivial))))))
theorem inner3 (hL:Okl Bn Lc) (hQ:Q19 Bn c1 c2 c3 3) (hc:chr c3) (a:WS) (ha:InvW a) (r:Nat) (Q:Ex→T AV→H→Prop)
 (hq:∀fr h2,EndW (Cn c1 c2 c3 (stW 3 a)) h2→Holds fr (Li r 3)→Q .normal fr h2):S Bn 46 rnd12i (mkFr (Li r 2)) (H52 c1 c2 c3 a) Q:=by
 refine S_eq (n':=46) (c':=rnd12i) (h':=hpH 52 (CX (idX 1 (jX a.j1 1 c1)) (idX 2 (jX a.j2 2 c2)) (idX 3 (jX a.j3 3 c3)) (jY a.j1 1 c1) (jY a.j2 2 c2) (jY a.j3 3 c3) a.t (bsA a.bs) (sBk (t:=zBatch) 121 false a.bs))) rfl rfl (H52_id a) ?_
 refine sR kr ?_
 refine Sat.seq ?_
 refine sCondT (b:=true) kr rfl ?_
 refine Sat.skip ?_
 refine Sat.seq (Sat.block ?_)
 refine sR kr ?_
 obtain⟨h2,h3,h4⟩:=stepAll3 (Bn:=Bn) (c1:=c1) (c2:=c2) (c3:=c3) hL hQ hc a ha
 have h5:=HJ_at (jX a.j3 3 c3) h3
 rw[HJ_id a 3 _ (jX_id _ _ _)] at h5
 refine atRegG 3 h5 kr kr kr ?_
 refine sV kr ?_
 refine qEq (h:=h2) kr (hq _ _ h4 ?_)
 exact zh (zh (zh (zh (zh (zh (zn (i:=2) om trivial))))))
end
end Go.Ev
end
