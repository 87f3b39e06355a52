/- A part of the proof that FnRolled returns true; no condition. -/
import Derived.Test.YtmkdnjbgmflnfaaGreatDoorPo
import Derived.Test.YtmkdnjbgmflnfaaGreatDoorPa
set_option linter.all false
set_option maxRecDepth 100000
open List renaming length→U
open Int renaming ofNat→J,toNat→Jn
open Go.Ev
attribute [local irreducible] GC RJ KC KM cAt cOn runC stp brC bodyC cvC rsC rdC regC loopC endC skpC extC retC evJ RS.at RS.put RS.okS RS.okR RS.all RS.fst endV endVM grpA grpB grpR grpD grpO RunOps RunD bodyF resF argsFrom
noncomputable section
namespace Go.Ev
open Go.Proofs
variable {Bn:Nat} [BOk Bn] (X1 X3:Nat→AV) (Y1 Y3:Nat→Blk) (t c:Nat) (bx:AV) (b0:Blk)
theorem st2_1aa_56:gl2 Bn ⟨1,false,false⟩ 56 X1 X3 Y1 Y3 t bx b0=gr2 (N 0) ⟨2,false,false⟩ 56 X1 X3 Y1 Y3 t bx b0:=kr
theorem st2_1aa_57:gl2 Bn ⟨1,false,false⟩ 57 X1 X3 Y1 Y3 t bx b0=gr2 (N 0) ⟨2,false,false⟩ 57 X1 X3 Y1 Y3 t bx b0:=kr
theorem st2_2aa:gl2 Bn ⟨2,false,false⟩ c X1 X3 Y1 Y3 t bx b0=gr2 (N 0) ⟨3,false,false⟩ c X1 X3 Y1 Y3 t bx b0:=kr
theorem st2_3aa:gl2 Bn ⟨3,false,false⟩ c X1 X3 Y1 Y3 t bx b0=gr2 (N 0) ⟨4,false,true⟩ c X1 X3 Y1 Y3 t bx b0:=kr
theorem st2_4ab:gl2 Bn ⟨4,false,true⟩ c X1 X3 Y1 Y3 t bx b0=gr2 (N 0) ⟨5,true,true⟩ c X1 X3 Y1 Y3 t bx b0:=kr
theorem st2_5ba:gl2 Bn ⟨5,true,false⟩ c X1 X3 Y1 Y3 t bx b0=gr2 (N 0) ⟨6,true,true⟩ c X1 X3 Y1 Y3 t bx b0:=kr
theorem st2_5bb:gl2 Bn ⟨5,true,true⟩ c X1 X3 Y1 Y3 t bx b0=gr2 (N 0) ⟨6,true,true⟩ c X1 X3 Y1 Y3 t bx b0:=kr
theorem st2_6ab:gl2 Bn ⟨6,false,true⟩ c X1 X3 Y1 Y3 t bx b0=gr2 (N 0) ⟨7,true,true⟩ c X1 X3 Y1 Y3 t bx b0:=kr
variable {Bn:Nat} [BOk Bn] (X1 X3:Nat→AV) (Y1 Y3:Nat→Blk) (t c:Nat) (bx:AV) (b0:Blk)
theorem st2_6bb:gl2 Bn ⟨6,true,true⟩ c X1 X3 Y1 Y3 t bx b0=gr2 (N 0) ⟨7,true,true⟩ c X1 X3 Y1 Y3 t bx b0:=kr
theorem st2_7bb:gl2 Bn ⟨7,true,true⟩ c X1 X3 Y1 Y3 t bx b0=gr2 (N 0) ⟨8,true,true⟩ c X1 X3 Y1 Y3 t bx b0:=kr
theorem st2_8bb:gl2 Bn ⟨8,true,true⟩ c X1 X3 Y1 Y3 t bx b0=gr2 (N 0) ⟨9,true,true⟩ c X1 X3 Y1 Y3 t bx b0:=kr
theorem st2_9ba:gl2 Bn ⟨9,true,false⟩ c X1 X3 Y1 Y3 t bx b0=gr2 (N 0) ⟨10,true,false⟩ c X1 X3 Y1 Y3 t bx b0:=kr
theorem st2_9bb:gl2 Bn ⟨9,true,true⟩ c X1 X3 Y1 Y3 t bx b0=gr2 (N 0) ⟨10,true,true⟩ c X1 X3 Y1 Y3 t bx b0:=kr
theorem st2_10aa:gl2 Bn ⟨10,false,false⟩ c X1 X3 Y1 Y3 t bx b0=gr2 (N 0) ⟨11,false,false⟩ c X1 X3 Y1 Y3 t bx b0:=kr
theorem st2_10ba:gl2 Bn ⟨10,true,false⟩ c X1 X3 Y1 Y3 t bx b0=gr2 (N 0) ⟨11,true,false⟩ c X1 X3 Y1 Y3 t bx b0:=kr
theorem st2_10bb:gl2 Bn ⟨10,true,true⟩ c X1 X3 Y1 Y3 t bx b0=gr2 (N 0) ⟨11,true,true⟩ c X1 X3 Y1 Y3 t bx b0:=kr
variable {Bn:Nat} [BOk Bn] (X1 X3:Nat→AV) (Y1 Y3:Nat→Blk) (t c:Nat) (bx:AV) (b0:Blk)
theorem st2_11aa:gl2 Bn ⟨11,false,false⟩ c X1 X3 Y1 Y3 t bx b0=gr2 (N 0) ⟨12,false,false⟩ c X1 X3 Y1 Y3 t bx b0:=kr
theorem st2_11ba:gl2 Bn ⟨11,true,false⟩ c X1 X3 Y1 Y3 t bx b0=gr2 (N 0) ⟨12,true,false⟩ c X1 X3 Y1 Y3 t bx b0:=kr
theorem st2_11bb:gl2 Bn ⟨11,true,true⟩ c X1 X3 Y1 Y3 t bx b0=gr2 (N 0) ⟨12,true,true⟩ c X1 X3 Y1 Y3 t bx b0:=kr
theorem st2_12aa:gl2 Bn ⟨12,false,false⟩ c X1 X3 Y1 Y3 t bx b0=gr2 (N 0) ⟨13,false,false⟩ c X1 X3 Y1 Y3 t bx b0:=kr
theorem st2_12ba:gl2 Bn ⟨12,true,false⟩ c X1 X3 Y1 Y3 t bx b0=gr2 (N 0) ⟨13,true,false⟩ c X1 X3 Y1 Y3 t bx b0:=kr
theorem st2_12bb:gl2 Bn ⟨12,true,true⟩ c X1 X3 Y1 Y3 t bx b0=gr2 (N 0) ⟨13,true,true⟩ c X1 X3 Y1 Y3 t bx b0:=kr
theorem st2_13aa:gl2 Bn ⟨13,false,false⟩ c X1 X3 Y1 Y3 t bx b0=gr2 (N 0) ⟨14,false,true⟩ c X1 X3 Y1 Y3 t bx b0:=kr
theorem st2_13ba:gl2 Bn ⟨13,true,false⟩ c X1 X3 Y1 Y3 t bx b0=gr2 (N 0) ⟨14,true,true⟩ c X1 X3 Y1 Y3 t bx b0:=kr
end Go.Ev
end
