/- A part of the proof that FnRolled returns true; no condition. -/
import Derived.Test.YtmkdnjbgmflnfaaGreatDoorPo
import Derived.Test.YtmkdnjbgmflnfaaGreatDoorPa
set_option linter.all false
set_option maxRecDepth 100000
open List renaming length→U
open Int renaming ofNat→J,toNat→Jn
open Go.Ev
attribute [local irreducible] GC RJ KC KM cAt cOn runC stp brC bodyC cvC rsC rdC regC loopC endC skpC extC retC evJ RS.at RS.put RS.okS RS.okR RS.all RS.fst endV endVM grpA grpB grpR grpD grpO RunOps RunD bodyF resF argsFrom
noncomputable section
namespace Go.Ev
open Go.Proofs
variable {Bn:Nat} [BOk Bn] (X1 X2:Nat→AV) (Y1 Y2:Nat→Blk) (t c:Nat) (bx:AV) (b0:Blk)
theorem st3_0aa:gl3 Bn ⟨0,false,false⟩ c X1 X2 Y1 Y2 t bx b0=gr3 (N 0) ⟨1,false,false⟩ c X1 X2 Y1 Y2 t bx b0:=kr
theorem st3_1aa_49:gl3 Bn ⟨1,false,false⟩ 49 X1 X2 Y1 Y2 t bx b0=gr3 (N 0) ⟨2,false,false⟩ 49 X1 X2 Y1 Y2 t bx b0:=kr
theorem st3_1aa_50:gl3 Bn ⟨1,false,false⟩ 50 X1 X2 Y1 Y2 t bx b0=gr3 (N 0) ⟨2,false,false⟩ 50 X1 X2 Y1 Y2 t bx b0:=kr
theorem st3_1aa_51:gl3 Bn ⟨1,false,false⟩ 51 X1 X2 Y1 Y2 t bx b0=gr3 (N 0) ⟨2,false,false⟩ 51 X1 X2 Y1 Y2 t bx b0:=kr
theorem st3_1aa_52:gl3 Bn ⟨1,false,false⟩ 52 X1 X2 Y1 Y2 t bx b0=gr3 (N 0) ⟨2,false,false⟩ 52 X1 X2 Y1 Y2 t bx b0:=kr
theorem st3_1aa_53:gl3 Bn ⟨1,false,false⟩ 53 X1 X2 Y1 Y2 t bx b0=gr3 (N 0) ⟨2,false,false⟩ 53 X1 X2 Y1 Y2 t bx b0:=kr
theorem st3_1aa_54:gl3 Bn ⟨1,false,false⟩ 54 X1 X2 Y1 Y2 t bx b0=gr3 (N 0) ⟨2,false,false⟩ 54 X1 X2 Y1 Y2 t bx b0:=kr
theorem st3_1aa_55:gl3 Bn ⟨1,false,false⟩ 55 X1 X2 Y1 Y2 t bx b0=gr3 (N 0) ⟨2,false,false⟩ 55 X1 X2 Y1 Y2 t bx b0:=kr
variable {Bn:Nat} [BOk Bn] (X1 X2:Nat→AV) (Y1 Y2:Nat→Blk) (t c:Nat) (bx:AV) (b0:Blk)
theorem st3_1aa_56:gl3 Bn ⟨1,false,false⟩ 56 X1 X2 Y1 Y2 t bx b0=gr3 (N 0) ⟨2,false,false⟩ 56 X1 X2 Y1 Y2 t bx b0:=kr
theorem st3_1aa_57:gl3 Bn ⟨1,false,false⟩ 57 X1 X2 Y1 Y2 t bx b0=gr3 (N 0) ⟨2,false,false⟩ 57 X1 X2 Y1 Y2 t bx b0:=kr
theorem st3_2aa:gl3 Bn ⟨2,false,false⟩ c X1 X2 Y1 Y2 t bx b0=gr3 (N 0) ⟨3,false,false⟩ c X1 X2 Y1 Y2 t bx b0:=kr
theorem st3_3aa:gl3 Bn ⟨3,false,false⟩ c X1 X2 Y1 Y2 t bx b0=gr3 (N 0) ⟨4,false,true⟩ c X1 X2 Y1 Y2 t bx b0:=kr
theorem st3_4ab:gl3 Bn ⟨4,false,true⟩ c X1 X2 Y1 Y2 t bx b0=gr3 (N 0) ⟨5,true,true⟩ c X1 X2 Y1 Y2 t bx b0:=kr
theorem st3_5ba:gl3 Bn ⟨5,true,false⟩ c X1 X2 Y1 Y2 t bx b0=gr3 (N 0) ⟨6,true,true⟩ c X1 X2 Y1 Y2 t bx b0:=kr
theorem st3_5bb:gl3 Bn ⟨5,true,true⟩ c X1 X2 Y1 Y2 t bx b0=gr3 (N 0) ⟨6,true,true⟩ c X1 X2 Y1 Y2 t bx b0:=kr
theorem st3_6ab:gl3 Bn ⟨6,false,true⟩ c X1 X2 Y1 Y2 t bx b0=gr3 (N 0) ⟨7,true,true⟩ c X1 X2 Y1 Y2 t bx b0:=kr
variable {Bn:Nat} [BOk Bn] (X1 X2:Nat→AV) (Y1 Y2:Nat→Blk) (t c:Nat) (bx:AV) (b0:Blk)
theorem st3_6bb:gl3 Bn ⟨6,true,true⟩ c X1 X2 Y1 Y2 t bx b0=gr3 (N 0) ⟨7,true,true⟩ c X1 X2 Y1 Y2 t bx b0:=kr
theorem st3_7bb:gl3 Bn ⟨7,true,true⟩ c X1 X2 Y1 Y2 t bx b0=gr3 (N 0) ⟨8,true,true⟩ c X1 X2 Y1 Y2 t bx b0:=kr
theorem st3_8bb:gl3 Bn ⟨8,true,true⟩ c X1 X2 Y1 Y2 t bx b0=gr3 (N 0) ⟨9,true,true⟩ c X1 X2 Y1 Y2 t bx b0:=kr
theorem st3_9ba:gl3 Bn ⟨9,true,false⟩ c X1 X2 Y1 Y2 t bx b0=gr3 (N 0) ⟨10,true,false⟩ c X1 X2 Y1 Y2 t bx b0:=kr
theorem st3_9bb:gl3 Bn ⟨9,true,true⟩ c X1 X2 Y1 Y2 t bx b0=gr3 (N 0) ⟨10,true,true⟩ c X1 X2 Y1 Y2 t bx b0:=kr
theorem st3_10aa:gl3 Bn ⟨10,false,false⟩ c X1 X2 Y1 Y2 t bx b0=gr3 (N 0) ⟨11,false,false⟩ c X1 X2 Y1 Y2 t bx b0:=kr
theorem st3_10ba:gl3 Bn ⟨10,true,false⟩ c X1 X2 Y1 Y2 t bx b0=gr3 (N 0) ⟨11,true,false⟩ c X1 X2 Y1 Y2 t bx b0:=kr
theorem st3_10bb:gl3 Bn ⟨10,true,true⟩ c X1 X2 Y1 Y2 t bx b0=gr3 (N 0) ⟨11,true,true⟩ c X1 X2 Y1 Y2 t bx b0:=kr
end Go.Ev
end
