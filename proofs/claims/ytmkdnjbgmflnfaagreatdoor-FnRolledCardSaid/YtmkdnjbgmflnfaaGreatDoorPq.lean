/- A part of the proof that FnRolled returns true; no condition. -/
import Derived.Test.YtmkdnjbgmflnfaaGreatDoorPo
import Derived.Test.YtmkdnjbgmflnfaaGreatDoorPa
set_option linter.all false
set_option maxRecDepth 100000
open List renaming length→U
open Int renaming ofNat→J,toNat→Jn
open Go.Ev
attribute [local irreducible] GC RJ KC KM cAt cOn runC stp brC bodyC cvC rsC rdC regC loopC endC skpC extC retC evJ RS.at RS.put RS.okS RS.okR RS.all RS.fst endV endVM grpA grpB grpR grpD grpO RunOps RunD bodyF resF argsFrom
noncomputable section
namespace Go.Ev
open Go.Proofs
variable {Bn:Nat} [BOk Bn] (X2 X3:Nat→AV) (Y2 Y3:Nat→Blk) (t c:Nat) (bx:AV) (b0:Blk)
theorem st1_18ba:gl1 Bn ⟨18,true,false⟩ c X2 X3 Y2 Y3 t bx b0=gr1 (N 0) ⟨19,true,false⟩ c X2 X3 Y2 Y3 t bx b0:=kr
theorem st1_18bb:gl1 Bn ⟨18,true,true⟩ c X2 X3 Y2 Y3 t bx b0=gr1 (N 0) ⟨19,true,true⟩ c X2 X3 Y2 Y3 t bx b0:=kr
variable {Bn:Nat} [BOk Bn]
theorem st1_16ab_n0 (X2 X3:Nat→AV) (Y2 Y3:Nat→Blk) (t c:Nat):
 sumC 1 true Tryz.f28 (rS Bn 1 (HQ (jX ⟨16,false,true⟩ 1 c) (idX 2 X2) (idX 3 X3) (jY ⟨16,false,true⟩ 1 c) Y2 Y3 t (sAV (t:=zBatch) (path 42) false []) (sBk (t:=zBatch) 121 false [])))=some (.i .i64 (N 0),CX (jX ⟨17,true,true⟩ 1 c) (idX 2 X2) (idX 3 X3) (jY ⟨17,true,true⟩ 1 c) Y2 Y3 t (sAV (t:=zBatch) (path 42) false [(bt_ 1)]) (sBk (t:=zBatch) 121 false [(bt_ 1)])):=kr
theorem st1_16ab_n1 (X2 X3:Nat→AV) (Y2 Y3:Nat→Blk) (t c:Nat) (x0:den zBatch):
 sumC 1 true Tryz.f28 (rS Bn 1 (HQ (jX ⟨16,false,true⟩ 1 c) (idX 2 X2) (idX 3 X3) (jY ⟨16,false,true⟩ 1 c) Y2 Y3 t (sAV (t:=zBatch) (path 42) false [x0]) (sBk (t:=zBatch) 121 false [x0])))=some (.i .i64 (N 0),CX (jX ⟨17,true,true⟩ 1 c) (idX 2 X2) (idX 3 X3) (jY ⟨17,true,true⟩ 1 c) Y2 Y3 t (sAV (t:=zBatch) (path 42) false [x0,(bt_ 1)]) (sBk (t:=zBatch) 121 false [x0,(bt_ 1)])):=kr
theorem st1_16ab_n2 (X2 X3:Nat→AV) (Y2 Y3:Nat→Blk) (t c:Nat) (x0 x1:den zBatch):
 sumC 1 true Tryz.f28 (rS Bn 1 (HQ (jX ⟨16,false,true⟩ 1 c) (idX 2 X2) (idX 3 X3) (jY ⟨16,false,true⟩ 1 c) Y2 Y3 t (sAV (t:=zBatch) (path 42) false [x0,x1]) (sBk (t:=zBatch) 121 false [x0,x1])))=some (.i .i64 (N 0),CX (jX ⟨17,true,true⟩ 1 c) (idX 2 X2) (idX 3 X3) (jY ⟨17,true,true⟩ 1 c) Y2 Y3 t (sAV (t:=zBatch) (path 42) false [x0,x1,(bt_ 1)]) (sBk (t:=zBatch) 121 false [x0,x1,(bt_ 1)])):=kr
theorem st1_16bb_n0 (X2 X3:Nat→AV) (Y2 Y3:Nat→Blk) (t c:Nat):
 sumC 1 true Tryz.f28 (rS Bn 1 (HQ (jX ⟨16,true,true⟩ 1 c) (idX 2 X2) (idX 3 X3) (jY ⟨16,true,true⟩ 1 c) Y2 Y3 t (sAV (t:=zBatch) (path 42) false []) (sBk (t:=zBatch) 121 false [])))=some (.i .i64 (N 0),CX (jX ⟨17,true,true⟩ 1 c) (idX 2 X2) (idX 3 X3) (jY ⟨17,true,true⟩ 1 c) Y2 Y3 t (sAV (t:=zBatch) (path 42) false [(bt_ 1)]) (sBk (t:=zBatch) 121 false [(bt_ 1)])):=kr
theorem st1_16bb_n1 (X2 X3:Nat→AV) (Y2 Y3:Nat→Blk) (t c:Nat) (x0:den zBatch):
 sumC 1 true Tryz.f28 (rS Bn 1 (HQ (jX ⟨16,true,true⟩ 1 c) (idX 2 X2) (idX 3 X3) (jY ⟨16,true,true⟩ 1 c) Y2 Y3 t (sAV (t:=zBatch) (path 42) false [x0]) (sBk (t:=zBatch) 121 false [x0])))=some (.i .i64 (N 0),CX (jX ⟨17,true,true⟩ 1 c) (idX 2 X2) (idX 3 X3) (jY ⟨17,true,true⟩ 1 c) Y2 Y3 t (sAV (t:=zBatch) (path 42) false [x0,(bt_ 1)]) (sBk (t:=zBatch) 121 false [x0,(bt_ 1)])):=kr
theorem st1_16bb_n2 (X2 X3:Nat→AV) (Y2 Y3:Nat→Blk) (t c:Nat) (x0 x1:den zBatch):
 sumC 1 true Tryz.f28 (rS Bn 1 (HQ (jX ⟨16,true,true⟩ 1 c) (idX 2 X2) (idX 3 X3) (jY ⟨16,true,true⟩ 1 c) Y2 Y3 t (sAV (t:=zBatch) (path 42) false [x0,x1]) (sBk (t:=zBatch) 121 false [x0,x1])))=some (.i .i64 (N 0),CX (jX ⟨17,true,true⟩ 1 c) (idX 2 X2) (idX 3 X3) (jY ⟨17,true,true⟩ 1 c) Y2 Y3 t (sAV (t:=zBatch) (path 42) false [x0,x1,(bt_ 1)]) (sBk (t:=zBatch) 121 false [x0,x1,(bt_ 1)])):=kr
variable {Bn:Nat} [BOk Bn] (X1 X3:Nat→AV) (Y1 Y3:Nat→Blk) (t c:Nat) (bx:AV) (b0:Blk)
theorem st2_0aa:gl2 Bn ⟨0,false,false⟩ c X1 X3 Y1 Y3 t bx b0=gr2 (N 0) ⟨1,false,false⟩ c X1 X3 Y1 Y3 t bx b0:=kr
theorem st2_1aa_49:gl2 Bn ⟨1,false,false⟩ 49 X1 X3 Y1 Y3 t bx b0=gr2 (N 0) ⟨2,false,false⟩ 49 X1 X3 Y1 Y3 t bx b0:=kr
theorem st2_1aa_50:gl2 Bn ⟨1,false,false⟩ 50 X1 X3 Y1 Y3 t bx b0=gr2 (N 0) ⟨2,false,false⟩ 50 X1 X3 Y1 Y3 t bx b0:=kr
theorem st2_1aa_51:gl2 Bn ⟨1,false,false⟩ 51 X1 X3 Y1 Y3 t bx b0=gr2 (N 0) ⟨2,false,false⟩ 51 X1 X3 Y1 Y3 t bx b0:=kr
theorem st2_1aa_52:gl2 Bn ⟨1,false,false⟩ 52 X1 X3 Y1 Y3 t bx b0=gr2 (N 0) ⟨2,false,false⟩ 52 X1 X3 Y1 Y3 t bx b0:=kr
theorem st2_1aa_53:gl2 Bn ⟨1,false,false⟩ 53 X1 X3 Y1 Y3 t bx b0=gr2 (N 0) ⟨2,false,false⟩ 53 X1 X3 Y1 Y3 t bx b0:=kr
theorem st2_1aa_54:gl2 Bn ⟨1,false,false⟩ 54 X1 X3 Y1 Y3 t bx b0=gr2 (N 0) ⟨2,false,false⟩ 54 X1 X3 Y1 Y3 t bx b0:=kr
theorem st2_1aa_55:gl2 Bn ⟨1,false,false⟩ 55 X1 X3 Y1 Y3 t bx b0=gr2 (N 0) ⟨2,false,false⟩ 55 X1 X3 Y1 Y3 t bx b0:=kr
end Go.Ev
end
