/- A part of the proof that FnRolled returns true; no condition. -/
import Derived.Test.YtmkdnjbgmflnfaaGreatDoorPz
import Derived.Test.YtmkdnjbgmflnfaaGreatDoorPa
set_option linter.all false
set_option maxRecDepth 100000
open List renaming length→U
open Int renaming ofNat→J,toNat→Jn
open Go.Ev
attribute [local irreducible] GC RJ KC KM cAt cOn runC stp brC bodyC cvC rsC rdC regC loopC endC skpC extC retC evJ RS.at RS.put RS.okS RS.okR RS.all RS.fst endV endVM grpA grpB grpR grpD grpO RunOps RunD bodyF resF argsFrom
noncomputable section
namespace Go.Ev
open Go.Proofs
variable {Bn:Nat} [BOk Bn]
theorem vj3_0 (c:Nat):runAll Bn [K294] EX 60 113 pVJ pBo [((prg_,hei_,vJ 0 3 c,()),(true,()))]=true:=kr
theorem vj3_1 (c:Nat):runAll Bn [K294] EX 60 113 pVJ pBo [((prg_,hei_,vJ 1 3 c,()),(true,()))]=true:=kr
theorem vj3_2 (c:Nat):runAll Bn [K294] EX 60 113 pVJ pBo [((prg_,hei_,vJ 2 3 c,()),(true,()))]=true:=kr
theorem vj3_3 (c:Nat):runAll Bn [K294] EX 60 113 pVJ pBo [((prg_,hei_,vJ 3 3 c,()),(true,()))]=true:=kr
theorem vj3_4 (c:Nat):runAll Bn [K294] EX 60 113 pVJ pBo [((prg_,hei_,vJ 4 3 c,()),(true,()))]=true:=kr
theorem vj3_5 (c:Nat):runAll Bn [K294] EX 60 113 pVJ pBo [((prg_,hei_,vJ 5 3 c,()),(true,()))]=true:=kr
theorem vj3_6 (c:Nat):runAll Bn [K294] EX 60 113 pVJ pBo [((prg_,hei_,vJ 6 3 c,()),(true,()))]=true:=kr
variable {Bn:Nat} [BOk Bn]
theorem vj3_7 (c:Nat):runAll Bn [K294] EX 60 113 pVJ pBo [((prg_,hei_,vJ 7 3 c,()),(true,()))]=true:=kr
theorem vj3_8 (c:Nat):runAll Bn [K294] EX 60 113 pVJ pBo [((prg_,hei_,vJ 8 3 c,()),(true,()))]=true:=kr
theorem vj3_9 (c:Nat):runAll Bn [K294] EX 60 113 pVJ pBo [((prg_,hei_,vJ 9 3 c,()),(true,()))]=true:=kr
theorem vj3_10 (c:Nat):runAll Bn [K294] EX 60 113 pVJ pBo [((prg_,hei_,vJ 10 3 c,()),(true,()))]=true:=kr
theorem vj3_11 (c:Nat):runAll Bn [K294] EX 60 113 pVJ pBo [((prg_,hei_,vJ 11 3 c,()),(true,()))]=true:=kr
theorem vj3_12 (c:Nat):runAll Bn [K294] EX 60 113 pVJ pBo [((prg_,hei_,vJ 12 3 c,()),(true,()))]=true:=kr
theorem vj3_13 (c:Nat):runAll Bn [K294] EX 60 113 pVJ pBo [((prg_,hei_,vJ 13 3 c,()),(true,()))]=true:=kr
end Go.Ev
end
