/- A part of the proof that FnRolled returns true; no condition. -/
import Derived.Test.YtmkdnjbgmflnfaaGreatDoorPo
import Derived.Test.YtmkdnjbgmflnfaaGreatDoorPa
set_option linter.all false
set_option maxRecDepth 100000
open List renaming length→U
open Int renaming ofNat→J,toNat→Jn
open Go.Ev
attribute [local irreducible] GC RJ KC KM cAt cOn runC stp brC bodyC cvC rsC rdC regC loopC endC skpC extC retC evJ RS.at RS.put RS.okS RS.okR RS.all RS.fst endV endVM grpA grpB grpR grpD grpO RunOps RunD bodyF resF argsFrom
noncomputable section
namespace Go.Ev
open Go.Proofs
variable {Bn:Nat} [BOk Bn] (X2 X3:Nat→AV) (Y2 Y3:Nat→Blk) (t c:Nat) (bx:AV) (b0:Blk)
theorem st1_6bb:gl1 Bn ⟨6,true,true⟩ c X2 X3 Y2 Y3 t bx b0=gr1 (N 0) ⟨7,true,true⟩ c X2 X3 Y2 Y3 t bx b0:=kr
theorem st1_7bb:gl1 Bn ⟨7,true,true⟩ c X2 X3 Y2 Y3 t bx b0=gr1 (N 0) ⟨8,true,true⟩ c X2 X3 Y2 Y3 t bx b0:=kr
theorem st1_8bb:gl1 Bn ⟨8,true,true⟩ c X2 X3 Y2 Y3 t bx b0=gr1 (N 0) ⟨9,true,true⟩ c X2 X3 Y2 Y3 t bx b0:=kr
theorem st1_9ba:gl1 Bn ⟨9,true,false⟩ c X2 X3 Y2 Y3 t bx b0=gr1 (N 0) ⟨10,true,false⟩ c X2 X3 Y2 Y3 t bx b0:=kr
theorem st1_9bb:gl1 Bn ⟨9,true,true⟩ c X2 X3 Y2 Y3 t bx b0=gr1 (N 0) ⟨10,true,true⟩ c X2 X3 Y2 Y3 t bx b0:=kr
theorem st1_10aa:gl1 Bn ⟨10,false,false⟩ c X2 X3 Y2 Y3 t bx b0=gr1 (N 0) ⟨11,false,false⟩ c X2 X3 Y2 Y3 t bx b0:=kr
theorem st1_10ba:gl1 Bn ⟨10,true,false⟩ c X2 X3 Y2 Y3 t bx b0=gr1 (N 0) ⟨11,true,false⟩ c X2 X3 Y2 Y3 t bx b0:=kr
theorem st1_10bb:gl1 Bn ⟨10,true,true⟩ c X2 X3 Y2 Y3 t bx b0=gr1 (N 0) ⟨11,true,true⟩ c X2 X3 Y2 Y3 t bx b0:=kr
variable {Bn:Nat} [BOk Bn] (X2 X3:Nat→AV) (Y2 Y3:Nat→Blk) (t c:Nat) (bx:AV) (b0:Blk)
theorem st1_11aa:gl1 Bn ⟨11,false,false⟩ c X2 X3 Y2 Y3 t bx b0=gr1 (N 0) ⟨12,false,false⟩ c X2 X3 Y2 Y3 t bx b0:=kr
theorem st1_11ba:gl1 Bn ⟨11,true,false⟩ c X2 X3 Y2 Y3 t bx b0=gr1 (N 0) ⟨12,true,false⟩ c X2 X3 Y2 Y3 t bx b0:=kr
theorem st1_11bb:gl1 Bn ⟨11,true,true⟩ c X2 X3 Y2 Y3 t bx b0=gr1 (N 0) ⟨12,true,true⟩ c X2 X3 Y2 Y3 t bx b0:=kr
theorem st1_12aa:gl1 Bn ⟨12,false,false⟩ c X2 X3 Y2 Y3 t bx b0=gr1 (N 0) ⟨13,false,false⟩ c X2 X3 Y2 Y3 t bx b0:=kr
theorem st1_12ba:gl1 Bn ⟨12,true,false⟩ c X2 X3 Y2 Y3 t bx b0=gr1 (N 0) ⟨13,true,false⟩ c X2 X3 Y2 Y3 t bx b0:=kr
theorem st1_12bb:gl1 Bn ⟨12,true,true⟩ c X2 X3 Y2 Y3 t bx b0=gr1 (N 0) ⟨13,true,true⟩ c X2 X3 Y2 Y3 t bx b0:=kr
theorem st1_13aa:gl1 Bn ⟨13,false,false⟩ c X2 X3 Y2 Y3 t bx b0=gr1 (N 0) ⟨14,false,true⟩ c X2 X3 Y2 Y3 t bx b0:=kr
theorem st1_13ba:gl1 Bn ⟨13,true,false⟩ c X2 X3 Y2 Y3 t bx b0=gr1 (N 0) ⟨14,true,true⟩ c X2 X3 Y2 Y3 t bx b0:=kr
variable {Bn:Nat} [BOk Bn] (X2 X3:Nat→AV) (Y2 Y3:Nat→Blk) (t c:Nat) (bx:AV) (b0:Blk)
theorem st1_13bb:gl1 Bn ⟨13,true,true⟩ c X2 X3 Y2 Y3 t bx b0=gr1 (N 0) ⟨14,true,true⟩ c X2 X3 Y2 Y3 t bx b0:=kr
theorem st1_14ab:gl1 Bn ⟨14,false,true⟩ c X2 X3 Y2 Y3 t bx b0=gr1 (N 0) ⟨15,true,true⟩ c X2 X3 Y2 Y3 t bx b0:=kr
theorem st1_14bb:gl1 Bn ⟨14,true,true⟩ c X2 X3 Y2 Y3 t bx b0=gr1 (N 0) ⟨15,true,true⟩ c X2 X3 Y2 Y3 t bx b0:=kr
theorem st1_15ba:gl1 Bn ⟨15,true,false⟩ c X2 X3 Y2 Y3 t bx b0=gr1 (N 0) ⟨16,true,true⟩ c X2 X3 Y2 Y3 t bx b0:=kr
theorem st1_15bb:gl1 Bn ⟨15,true,true⟩ c X2 X3 Y2 Y3 t bx b0=gr1 (N 0) ⟨16,true,true⟩ c X2 X3 Y2 Y3 t bx b0:=kr
theorem st1_17ba:gl1 Bn ⟨17,true,false⟩ c X2 X3 Y2 Y3 t bx b0=gr1 (N 0) ⟨18,true,false⟩ c X2 X3 Y2 Y3 t bx b0:=kr
theorem st1_17bb:gl1 Bn ⟨17,true,true⟩ c X2 X3 Y2 Y3 t bx b0=gr1 (N 0) ⟨18,true,true⟩ c X2 X3 Y2 Y3 t bx b0:=kr
theorem st1_18aa:gl1 Bn ⟨18,false,false⟩ c X2 X3 Y2 Y3 t bx b0=gr1 (N 0) ⟨19,false,false⟩ c X2 X3 Y2 Y3 t bx b0:=kr
end Go.Ev
end
