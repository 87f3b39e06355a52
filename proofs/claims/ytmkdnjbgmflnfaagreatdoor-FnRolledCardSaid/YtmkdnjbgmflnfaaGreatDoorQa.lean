/- A part of the proof that FnRolled returns true; no condition. -/
import Derived.Test.YtmkdnjbgmflnfaaGreatDoorPz
import Derived.Test.YtmkdnjbgmflnfaaGreatDoorPa
set_option linter.all false
set_option maxRecDepth 100000
open List renaming length→U
open Int renaming ofNat→J,toNat→Jn
open Go.Ev
attribute [local irreducible] GC RJ KC KM cAt cOn runC stp brC bodyC cvC rsC rdC regC loopC endC skpC extC retC evJ RS.at RS.put RS.okS RS.okR RS.all RS.fst endV endVM grpA grpB grpR grpD grpO RunOps RunD bodyF resF argsFrom
noncomputable section
namespace Go.Ev
open Go.Proofs
variable {Bn:Nat} [BOk Bn]
theorem vj1_0 (c:Nat):runAll Bn [K294] EX 60 113 pVJ pBo [((prg_,hei_,vJ 0 1 c,()),(true,()))]=true:=kr
theorem vj1_1 (c:Nat):runAll Bn [K294] EX 60 113 pVJ pBo [((prg_,hei_,vJ 1 1 c,()),(true,()))]=true:=kr
theorem vj1_2 (c:Nat):runAll Bn [K294] EX 60 113 pVJ pBo [((prg_,hei_,vJ 2 1 c,()),(true,()))]=true:=kr
theorem vj1_3 (c:Nat):runAll Bn [K294] EX 60 113 pVJ pBo [((prg_,hei_,vJ 3 1 c,()),(true,()))]=true:=kr
theorem vj1_4 (c:Nat):runAll Bn [K294] EX 60 113 pVJ pBo [((prg_,hei_,vJ 4 1 c,()),(true,()))]=true:=kr
theorem vj1_5 (c:Nat):runAll Bn [K294] EX 60 113 pVJ pBo [((prg_,hei_,vJ 5 1 c,()),(true,()))]=true:=kr
theorem vj1_6 (c:Nat):runAll Bn [K294] EX 60 113 pVJ pBo [((prg_,hei_,vJ 6 1 c,()),(true,()))]=true:=kr
variable {Bn:Nat} [BOk Bn]
theorem vj1_7 (c:Nat):runAll Bn [K294] EX 60 113 pVJ pBo [((prg_,hei_,vJ 7 1 c,()),(true,()))]=true:=kr
theorem vj1_8 (c:Nat):runAll Bn [K294] EX 60 113 pVJ pBo [((prg_,hei_,vJ 8 1 c,()),(true,()))]=true:=kr
theorem vj1_9 (c:Nat):runAll Bn [K294] EX 60 113 pVJ pBo [((prg_,hei_,vJ 9 1 c,()),(true,()))]=true:=kr
theorem vj1_10 (c:Nat):runAll Bn [K294] EX 60 113 pVJ pBo [((prg_,hei_,vJ 10 1 c,()),(true,()))]=true:=kr
theorem vj1_11 (c:Nat):runAll Bn [K294] EX 60 113 pVJ pBo [((prg_,hei_,vJ 11 1 c,()),(true,()))]=true:=kr
theorem vj1_12 (c:Nat):runAll Bn [K294] EX 60 113 pVJ pBo [((prg_,hei_,vJ 12 1 c,()),(true,()))]=true:=kr
theorem vj1_13 (c:Nat):runAll Bn [K294] EX 60 113 pVJ pBo [((prg_,hei_,vJ 13 1 c,()),(true,()))]=true:=kr
end Go.Ev
end
