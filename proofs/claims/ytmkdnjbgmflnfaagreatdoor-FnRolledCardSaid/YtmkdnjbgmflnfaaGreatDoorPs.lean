/- A part of the proof that FnRolled returns true; no condition. -/
import Derived.Test.YtmkdnjbgmflnfaaGreatDoorPo
import Derived.Test.YtmkdnjbgmflnfaaGreatDoorPa
set_option linter.all false
set_option maxRecDepth 100000
open List renaming length→U
open Int renaming ofNat→J,toNat→Jn
open Go.Ev
attribute [local irreducible] GC RJ KC KM cAt cOn runC stp brC bodyC cvC rsC rdC regC loopC endC skpC extC retC evJ RS.at RS.put RS.okS RS.okR RS.all RS.fst endV endVM grpA grpB grpR grpD grpO RunOps RunD bodyF resF argsFrom
noncomputable section
namespace Go.Ev
open Go.Proofs
variable {Bn:Nat} [BOk Bn] (X1 X3:Nat→AV) (Y1 Y3:Nat→Blk) (t c:Nat) (bx:AV) (b0:Blk)
theorem st2_13bb:gl2 Bn ⟨13,true,true⟩ c X1 X3 Y1 Y3 t bx b0=gr2 (N 0) ⟨14,true,true⟩ c X1 X3 Y1 Y3 t bx b0:=kr
theorem st2_14ab:gl2 Bn ⟨14,false,true⟩ c X1 X3 Y1 Y3 t bx b0=gr2 (N 0) ⟨15,true,true⟩ c X1 X3 Y1 Y3 t bx b0:=kr
theorem st2_14bb:gl2 Bn ⟨14,true,true⟩ c X1 X3 Y1 Y3 t bx b0=gr2 (N 0) ⟨15,true,true⟩ c X1 X3 Y1 Y3 t bx b0:=kr
theorem st2_15ba:gl2 Bn ⟨15,true,false⟩ c X1 X3 Y1 Y3 t bx b0=gr2 (N 0) ⟨16,true,true⟩ c X1 X3 Y1 Y3 t bx b0:=kr
theorem st2_15bb:gl2 Bn ⟨15,true,true⟩ c X1 X3 Y1 Y3 t bx b0=gr2 (N 0) ⟨16,true,true⟩ c X1 X3 Y1 Y3 t bx b0:=kr
theorem st2_17ba:gl2 Bn ⟨17,true,false⟩ c X1 X3 Y1 Y3 t bx b0=gr2 (N 0) ⟨18,true,false⟩ c X1 X3 Y1 Y3 t bx b0:=kr
theorem st2_17bb:gl2 Bn ⟨17,true,true⟩ c X1 X3 Y1 Y3 t bx b0=gr2 (N 0) ⟨18,true,true⟩ c X1 X3 Y1 Y3 t bx b0:=kr
theorem st2_18aa:gl2 Bn ⟨18,false,false⟩ c X1 X3 Y1 Y3 t bx b0=gr2 (N 0) ⟨19,false,false⟩ c X1 X3 Y1 Y3 t bx b0:=kr
variable {Bn:Nat} [BOk Bn] (X1 X3:Nat→AV) (Y1 Y3:Nat→Blk) (t c:Nat) (bx:AV) (b0:Blk)
theorem st2_18ba:gl2 Bn ⟨18,true,false⟩ c X1 X3 Y1 Y3 t bx b0=gr2 (N 0) ⟨19,true,false⟩ c X1 X3 Y1 Y3 t bx b0:=kr
theorem st2_18bb:gl2 Bn ⟨18,true,true⟩ c X1 X3 Y1 Y3 t bx b0=gr2 (N 0) ⟨19,true,true⟩ c X1 X3 Y1 Y3 t bx b0:=kr
variable {Bn:Nat} [BOk Bn]
theorem st2_16ab_n0 (X1 X3:Nat→AV) (Y1 Y3:Nat→Blk) (t c:Nat):
 sumC 2 true Tryz.f28 (rS Bn 2 (HQ (idX 1 X1) (jX ⟨16,false,true⟩ 2 c) (idX 3 X3) Y1 (jY ⟨16,false,true⟩ 2 c) Y3 t (sAV (t:=zBatch) (path 42) false []) (sBk (t:=zBatch) 121 false [])))=some (.i .i64 (N 0),CX (idX 1 X1) (jX ⟨17,true,true⟩ 2 c) (idX 3 X3) Y1 (jY ⟨17,true,true⟩ 2 c) Y3 t (sAV (t:=zBatch) (path 42) false [(bt_ 2)]) (sBk (t:=zBatch) 121 false [(bt_ 2)])):=kr
theorem st2_16ab_n1 (X1 X3:Nat→AV) (Y1 Y3:Nat→Blk) (t c:Nat) (x0:den zBatch):
 sumC 2 true Tryz.f28 (rS Bn 2 (HQ (idX 1 X1) (jX ⟨16,false,true⟩ 2 c) (idX 3 X3) Y1 (jY ⟨16,false,true⟩ 2 c) Y3 t (sAV (t:=zBatch) (path 42) false [x0]) (sBk (t:=zBatch) 121 false [x0])))=some (.i .i64 (N 0),CX (idX 1 X1) (jX ⟨17,true,true⟩ 2 c) (idX 3 X3) Y1 (jY ⟨17,true,true⟩ 2 c) Y3 t (sAV (t:=zBatch) (path 42) false [x0,(bt_ 2)]) (sBk (t:=zBatch) 121 false [x0,(bt_ 2)])):=kr
theorem st2_16ab_n2 (X1 X3:Nat→AV) (Y1 Y3:Nat→Blk) (t c:Nat) (x0 x1:den zBatch):
 sumC 2 true Tryz.f28 (rS Bn 2 (HQ (idX 1 X1) (jX ⟨16,false,true⟩ 2 c) (idX 3 X3) Y1 (jY ⟨16,false,true⟩ 2 c) Y3 t (sAV (t:=zBatch) (path 42) false [x0,x1]) (sBk (t:=zBatch) 121 false [x0,x1])))=some (.i .i64 (N 0),CX (idX 1 X1) (jX ⟨17,true,true⟩ 2 c) (idX 3 X3) Y1 (jY ⟨17,true,true⟩ 2 c) Y3 t (sAV (t:=zBatch) (path 42) false [x0,x1,(bt_ 2)]) (sBk (t:=zBatch) 121 false [x0,x1,(bt_ 2)])):=kr
theorem st2_16bb_n0 (X1 X3:Nat→AV) (Y1 Y3:Nat→Blk) (t c:Nat):
 sumC 2 true Tryz.f28 (rS Bn 2 (HQ (idX 1 X1) (jX ⟨16,true,true⟩ 2 c) (idX 3 X3) Y1 (jY ⟨16,true,true⟩ 2 c) Y3 t (sAV (t:=zBatch) (path 42) false []) (sBk (t:=zBatch) 121 false [])))=some (.i .i64 (N 0),CX (idX 1 X1) (jX ⟨17,true,true⟩ 2 c) (idX 3 X3) Y1 (jY ⟨17,true,true⟩ 2 c) Y3 t (sAV (t:=zBatch) (path 42) false [(bt_ 2)]) (sBk (t:=zBatch) 121 false [(bt_ 2)])):=kr
theorem st2_16bb_n1 (X1 X3:Nat→AV) (Y1 Y3:Nat→Blk) (t c:Nat) (x0:den zBatch):
 sumC 2 true Tryz.f28 (rS Bn 2 (HQ (idX 1 X1) (jX ⟨16,true,true⟩ 2 c) (idX 3 X3) Y1 (jY ⟨16,true,true⟩ 2 c) Y3 t (sAV (t:=zBatch) (path 42) false [x0]) (sBk (t:=zBatch) 121 false [x0])))=some (.i .i64 (N 0),CX (idX 1 X1) (jX ⟨17,true,true⟩ 2 c) (idX 3 X3) Y1 (jY ⟨17,true,true⟩ 2 c) Y3 t (sAV (t:=zBatch) (path 42) false [x0,(bt_ 2)]) (sBk (t:=zBatch) 121 false [x0,(bt_ 2)])):=kr
theorem st2_16bb_n2 (X1 X3:Nat→AV) (Y1 Y3:Nat→Blk) (t c:Nat) (x0 x1:den zBatch):
 sumC 2 true Tryz.f28 (rS Bn 2 (HQ (idX 1 X1) (jX ⟨16,true,true⟩ 2 c) (idX 3 X3) Y1 (jY ⟨16,true,true⟩ 2 c) Y3 t (sAV (t:=zBatch) (path 42) false [x0,x1]) (sBk (t:=zBatch) 121 false [x0,x1])))=some (.i .i64 (N 0),CX (idX 1 X1) (jX ⟨17,true,true⟩ 2 c) (idX 3 X3) Y1 (jY ⟨17,true,true⟩ 2 c) Y3 t (sAV (t:=zBatch) (path 42) false [x0,x1,(bt_ 2)]) (sBk (t:=zBatch) 121 false [x0,x1,(bt_ 2)])):=kr
end Go.Ev
end
