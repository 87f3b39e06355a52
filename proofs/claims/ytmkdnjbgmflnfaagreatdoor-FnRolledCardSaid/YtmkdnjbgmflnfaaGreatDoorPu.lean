/- A part of the proof that FnRolled returns true; no condition. -/
import Derived.Test.YtmkdnjbgmflnfaaGreatDoorPo
import Derived.Test.YtmkdnjbgmflnfaaGreatDoorPa
set_option linter.all false
set_option maxRecDepth 100000
open List renaming length→U
open Int renaming ofNat→J,toNat→Jn
open Go.Ev
attribute [local irreducible] GC RJ KC KM cAt cOn runC stp brC bodyC cvC rsC rdC regC loopC endC skpC extC retC evJ RS.at RS.put RS.okS RS.okR RS.all RS.fst endV endVM grpA grpB grpR grpD grpO RunOps RunD bodyF resF argsFrom
noncomputable section
namespace Go.Ev
open Go.Proofs
variable {Bn:Nat} [BOk Bn] (X1 X2:Nat→AV) (Y1 Y2:Nat→Blk) (t c:Nat) (bx:AV) (b0:Blk)
theorem st3_11aa:gl3 Bn ⟨11,false,false⟩ c X1 X2 Y1 Y2 t bx b0=gr3 (N 0) ⟨12,false,false⟩ c X1 X2 Y1 Y2 t bx b0:=kr
theorem st3_11ba:gl3 Bn ⟨11,true,false⟩ c X1 X2 Y1 Y2 t bx b0=gr3 (N 0) ⟨12,true,false⟩ c X1 X2 Y1 Y2 t bx b0:=kr
theorem st3_11bb:gl3 Bn ⟨11,true,true⟩ c X1 X2 Y1 Y2 t bx b0=gr3 (N 0) ⟨12,true,true⟩ c X1 X2 Y1 Y2 t bx b0:=kr
theorem st3_12aa:gl3 Bn ⟨12,false,false⟩ c X1 X2 Y1 Y2 t bx b0=gr3 (N 0) ⟨13,false,false⟩ c X1 X2 Y1 Y2 t bx b0:=kr
theorem st3_12ba:gl3 Bn ⟨12,true,false⟩ c X1 X2 Y1 Y2 t bx b0=gr3 (N 0) ⟨13,true,false⟩ c X1 X2 Y1 Y2 t bx b0:=kr
theorem st3_12bb:gl3 Bn ⟨12,true,true⟩ c X1 X2 Y1 Y2 t bx b0=gr3 (N 0) ⟨13,true,true⟩ c X1 X2 Y1 Y2 t bx b0:=kr
theorem st3_13aa:gl3 Bn ⟨13,false,false⟩ c X1 X2 Y1 Y2 t bx b0=gr3 (N 0) ⟨14,false,true⟩ c X1 X2 Y1 Y2 t bx b0:=kr
theorem st3_13ba:gl3 Bn ⟨13,true,false⟩ c X1 X2 Y1 Y2 t bx b0=gr3 (N 0) ⟨14,true,true⟩ c X1 X2 Y1 Y2 t bx b0:=kr
variable {Bn:Nat} [BOk Bn] (X1 X2:Nat→AV) (Y1 Y2:Nat→Blk) (t c:Nat) (bx:AV) (b0:Blk)
theorem st3_13bb:gl3 Bn ⟨13,true,true⟩ c X1 X2 Y1 Y2 t bx b0=gr3 (N 0) ⟨14,true,true⟩ c X1 X2 Y1 Y2 t bx b0:=kr
theorem st3_14ab:gl3 Bn ⟨14,false,true⟩ c X1 X2 Y1 Y2 t bx b0=gr3 (N 0) ⟨15,true,true⟩ c X1 X2 Y1 Y2 t bx b0:=kr
theorem st3_14bb:gl3 Bn ⟨14,true,true⟩ c X1 X2 Y1 Y2 t bx b0=gr3 (N 0) ⟨15,true,true⟩ c X1 X2 Y1 Y2 t bx b0:=kr
theorem st3_15ba:gl3 Bn ⟨15,true,false⟩ c X1 X2 Y1 Y2 t bx b0=gr3 (N 0) ⟨16,true,true⟩ c X1 X2 Y1 Y2 t bx b0:=kr
theorem st3_15bb:gl3 Bn ⟨15,true,true⟩ c X1 X2 Y1 Y2 t bx b0=gr3 (N 0) ⟨16,true,true⟩ c X1 X2 Y1 Y2 t bx b0:=kr
theorem st3_17ba:gl3 Bn ⟨17,true,false⟩ c X1 X2 Y1 Y2 t bx b0=gr3 (N 0) ⟨18,true,false⟩ c X1 X2 Y1 Y2 t bx b0:=kr
theorem st3_17bb:gl3 Bn ⟨17,true,true⟩ c X1 X2 Y1 Y2 t bx b0=gr3 (N 0) ⟨18,true,true⟩ c X1 X2 Y1 Y2 t bx b0:=kr
theorem st3_18aa:gl3 Bn ⟨18,false,false⟩ c X1 X2 Y1 Y2 t bx b0=gr3 (N 0) ⟨19,false,false⟩ c X1 X2 Y1 Y2 t bx b0:=kr
variable {Bn:Nat} [BOk Bn] (X1 X2:Nat→AV) (Y1 Y2:Nat→Blk) (t c:Nat) (bx:AV) (b0:Blk)
theorem st3_18ba:gl3 Bn ⟨18,true,false⟩ c X1 X2 Y1 Y2 t bx b0=gr3 (N 0) ⟨19,true,false⟩ c X1 X2 Y1 Y2 t bx b0:=kr
theorem st3_18bb:gl3 Bn ⟨18,true,true⟩ c X1 X2 Y1 Y2 t bx b0=gr3 (N 0) ⟨19,true,true⟩ c X1 X2 Y1 Y2 t bx b0:=kr
end Go.Ev
end
