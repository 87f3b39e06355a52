/- A part of the proof that FnRolled returns true; no condition. -/
import Derived.Test.YtmkdnjbgmflnfaaGreatDoorPz
import Derived.Test.YtmkdnjbgmflnfaaGreatDoorPa
set_option linter.all false
set_option maxRecDepth 100000
open List renaming length→U
open Int renaming ofNat→J,toNat→Jn
open Go.Ev
attribute [local irreducible] GC RJ KC KM cAt cOn runC stp brC bodyC cvC rsC rdC regC loopC endC skpC extC retC evJ RS.at RS.put RS.okS RS.okR RS.all RS.fst endV endVM grpA grpB grpR grpD grpO RunOps RunD bodyF resF argsFrom
noncomputable section
namespace Go.Ev
open Go.Proofs
variable {Bn:Nat} [BOk Bn]
theorem vj2_7 (c:Nat):runAll Bn [K294] EX 60 113 pVJ pBo [((prg_,hei_,vJ 7 2 c,()),(true,()))]=true:=kr
theorem vj2_8 (c:Nat):runAll Bn [K294] EX 60 113 pVJ pBo [((prg_,hei_,vJ 8 2 c,()),(true,()))]=true:=kr
theorem vj2_9 (c:Nat):runAll Bn [K294] EX 60 113 pVJ pBo [((prg_,hei_,vJ 9 2 c,()),(true,()))]=true:=kr
theorem vj2_10 (c:Nat):runAll Bn [K294] EX 60 113 pVJ pBo [((prg_,hei_,vJ 10 2 c,()),(true,()))]=true:=kr
theorem vj2_11 (c:Nat):runAll Bn [K294] EX 60 113 pVJ pBo [((prg_,hei_,vJ 11 2 c,()),(true,()))]=true:=kr
theorem vj2_12 (c:Nat):runAll Bn [K294] EX 60 113 pVJ pBo [((prg_,hei_,vJ 12 2 c,()),(true,()))]=true:=kr
theorem vj2_13 (c:Nat):runAll Bn [K294] EX 60 113 pVJ pBo [((prg_,hei_,vJ 13 2 c,()),(true,()))]=true:=kr
variable {Bn:Nat} [BOk Bn]
theorem vj2_14 (c:Nat):runAll Bn [K294] EX 60 113 pVJ pBo [((prg_,hei_,vJ 14 2 c,()),(true,()))]=true:=kr
theorem vj2_15 (c:Nat):runAll Bn [K294] EX 60 113 pVJ pBo [((prg_,hei_,vJ 15 2 c,()),(true,()))]=true:=kr
theorem vj2_16 (c:Nat):runAll Bn [K294] EX 60 113 pVJ pBo [((prg_,hei_,vJ 16 2 c,()),(true,()))]=true:=kr
theorem vj2_17 (c:Nat):runAll Bn [K294] EX 60 113 pVJ pBo [((prg_,hei_,vJ 17 2 c,()),(true,()))]=true:=kr
theorem vj2_18 (c:Nat):runAll Bn [K294] EX 60 113 pVJ pBo [((prg_,hei_,vJ 18 2 c,()),(true,()))]=true:=kr
theorem vj2_19 (c:Nat):runAll Bn [K294] EX 60 113 pVJ pBo [((prg_,hei_,vJ 19 2 c,()),(true,()))]=true:=kr
theorem vj2_20 (c:Nat):runAll Bn [K294] EX 60 113 pVJ pBo [((prg_,hei_,vJ 20 2 c,()),(true,()))]=true:=kr
end Go.Ev
end
