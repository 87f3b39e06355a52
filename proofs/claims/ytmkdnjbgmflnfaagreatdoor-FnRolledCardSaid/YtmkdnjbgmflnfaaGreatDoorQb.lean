/- A part of the proof that FnRolled returns true; no condition. -/
import Derived.Test.YtmkdnjbgmflnfaaGreatDoorPz
import Derived.Test.YtmkdnjbgmflnfaaGreatDoorPa
set_option linter.all false
set_option maxRecDepth 100000
open List renaming length→U
open Int renaming ofNat→J,toNat→Jn
open Go.Ev
attribute [local irreducible] GC RJ KC KM cAt cOn runC stp brC bodyC cvC rsC rdC regC loopC endC skpC extC retC evJ RS.at RS.put RS.okS RS.okR RS.all RS.fst endV endVM grpA grpB grpR grpD grpO RunOps RunD bodyF resF argsFrom
noncomputable section
namespace Go.Ev
open Go.Proofs
variable {Bn:Nat} [BOk Bn]
theorem vj1_14 (c:Nat):runAll Bn [K294] EX 60 113 pVJ pBo [((prg_,hei_,vJ 14 1 c,()),(true,()))]=true:=kr
theorem vj1_15 (c:Nat):runAll Bn [K294] EX 60 113 pVJ pBo [((prg_,hei_,vJ 15 1 c,()),(true,()))]=true:=kr
theorem vj1_16 (c:Nat):runAll Bn [K294] EX 60 113 pVJ pBo [((prg_,hei_,vJ 16 1 c,()),(true,()))]=true:=kr
theorem vj1_17 (c:Nat):runAll Bn [K294] EX 60 113 pVJ pBo [((prg_,hei_,vJ 17 1 c,()),(true,()))]=true:=kr
theorem vj1_18 (c:Nat):runAll Bn [K294] EX 60 113 pVJ pBo [((prg_,hei_,vJ 18 1 c,()),(true,()))]=true:=kr
theorem vj1_19 (c:Nat):runAll Bn [K294] EX 60 113 pVJ pBo [((prg_,hei_,vJ 19 1 c,()),(true,()))]=true:=kr
theorem vj1_20 (c:Nat):runAll Bn [K294] EX 60 113 pVJ pBo [((prg_,hei_,vJ 20 1 c,()),(true,()))]=true:=kr
variable {Bn:Nat} [BOk Bn]
theorem vj2_0 (c:Nat):runAll Bn [K294] EX 60 113 pVJ pBo [((prg_,hei_,vJ 0 2 c,()),(true,()))]=true:=kr
theorem vj2_1 (c:Nat):runAll Bn [K294] EX 60 113 pVJ pBo [((prg_,hei_,vJ 1 2 c,()),(true,()))]=true:=kr
theorem vj2_2 (c:Nat):runAll Bn [K294] EX 60 113 pVJ pBo [((prg_,hei_,vJ 2 2 c,()),(true,()))]=true:=kr
theorem vj2_3 (c:Nat):runAll Bn [K294] EX 60 113 pVJ pBo [((prg_,hei_,vJ 3 2 c,()),(true,()))]=true:=kr
theorem vj2_4 (c:Nat):runAll Bn [K294] EX 60 113 pVJ pBo [((prg_,hei_,vJ 4 2 c,()),(true,()))]=true:=kr
theorem vj2_5 (c:Nat):runAll Bn [K294] EX 60 113 pVJ pBo [((prg_,hei_,vJ 5 2 c,()),(true,()))]=true:=kr
theorem vj2_6 (c:Nat):runAll Bn [K294] EX 60 113 pVJ pBo [((prg_,hei_,vJ 6 2 c,()),(true,()))]=true:=kr
end Go.Ev
end
