/- A part of the proof that FnRolled returns true; no condition. -/
import Derived.Test.YtmkdnjbgmflnfaaGreatDoorPn
import Derived.Test.YtmkdnjbgmflnfaaGreatDoorPa
import Derived.Test.YtmkdnjbgmflnfaaGreatDoorPw
import Derived.Test.YtmkdnjbgmflnfaaGreatDoorPo
import Derived.Test.YtmkdnjbgmflnfaaGreatDoorPv
set_option linter.all false
set_option maxRecDepth 100000
open List renaming length→U
open Int renaming ofNat→J,toNat→Jn
open Go.Ev
attribute [local irreducible] GC RJ KC KM cAt cOn runC stp brC bodyC cvC rsC rdC regC loopC endC skpC extC retC evJ RS.at RS.put RS.okS RS.okR RS.all RS.fst endV endVM grpA grpB grpR grpD grpO RunOps RunD bodyF resF argsFrom
noncomputable section
namespace Go.Ev
open Go.Proofs
set_option maxHeartbeats 2000000
variable {Bn:Nat} [BOk Bn]
def c252 (a0:Int) (a1:Int) (a2:Int) (a3:Int):denL [⟨true,y346⟩]:=((true,a0,a1,a2,a3),())
def k252:Con:=⟨382,[⟨false,(.int .i64)⟩,⟨false,(.int .i64)⟩,⟨false,(.int .i64)⟩,⟨false,(.int .i64)⟩],[⟨true,y346⟩],fun x=>some (c252 x.1 x.2.1 x.2.2.1 x.2.2.2.1)⟩
theorem t252 (a0:Int) (a1:Int) (a2:Int) (a3:Int):KC Bn k252 (a0,a1,a2,a3,()) (c252 a0 a1 a2 a3):=by
 refine xI (uL [] ok0) Tryz.func382 fun hbd hB=>?_
 exact xe 6
theorem o252:OK Bn k252:=xO fun x=>t252 _ _ _ _
def c362 (a0:den y242):denL [⟨true,y346⟩,⟨true,y346⟩]:=(cd (iEq a0.1 (J 2)) ((c252 (J 0) (J 0) (J 0) (J 0)).1,(c252 (J 1) (J 0) (J 0) (J 0)).1,()) (cd (iEq a0.1 (J 8)) ((c252 (J 0) (J 0) (J 0) (J 0)).1,(c252 (J 1) (J 0) (J 0) (J 0)).1,()) (cd (iEq a0.1 (J 28)) ((c252 (J 0) (J 0) (J 0) (J 0)).1,(c252 (J 1) (J 0) (J 0) (J 0)).1,()) (cd (iEq a0.1 (J 3)) ((c252 (J 1) (J 0) (J 0) (J 0)).1,(c252 (Int.negSucc 0) (J 0) (J 0) (J 0)).1,()) (cd (iEq a0.1 (J 10)) ((c252 (J 1) (J 0) (J 0) (J 0)).1,(c252 (Int.negSucc 0) (J 0) (J 0) (J 0)).1,()) (cd (iEq a0.1 (J 25)) ((c252 (J 1) (J 0) (J 0) (J 0)).1,(c252 (Int.negSucc 0) (J 0) (J 0) (J 0)).1,()) (cd (iEq a0.1 (J 26)) ((c252 (J 1) (J 0) (J 0) (J 0)).1,(c252 (Int.negSucc 0) (J 0) (J 0) (J 0)).1,()) (cd (iEq a0.1 (J 31)) ((c252 (J 1) (J 0) (J 0) (J 0)).1,(c252 (Int.negSucc 0) (J 0) (J 0) (J 0)).1,()) (cd (iEq a0.1 (J 37)) ((c252 (J 1) (J 0) (J 0) (J 0)).1,(c252 (Int.negSucc 0) (J 0) (J 0) (J 0)).1,()) (cd (iEq a0.1 (J 39)) ((c252 (J 1) (J 0) (J 0) (J 0)).1,(c252 (Int.negSucc 0) (J 0) (J 0) (J 0)).1,()) (cd (iEq a0.1 (J 41)) ((c252 (J 1) (J 0) (J 0) (J 0)).1,(c252 (Int.negSucc 0) (J 0) (J 0) (J 0)).1,()) (cd (iEq a0.1 (J 42)) ((c252 (J 1) (J 0) (J 0) (J 0)).1,(c252 (Int.negSucc 0) (J 0) (J 0) (J 0)).1,()) (cd (iEq a0.1 (J 4)) ((c252 (J 1) (J 0) (J 0) (J 0)).1,(c252 (J 0) (J 0) (J 0) (J 0)).1,()) (cd (iEq a0.1 (J 6)) ((c252 (J 1) (J 0) (J 0) (J 0)).1,(c252 (J 0) (J 0) (J 0) (J 0)).1,()) (cd (iEq a0.1 (J 5)) ((c252 (J 2) (J 0) (J 0) (J 0)).1,(c252 (Int.negSucc 0) (J 0) (J 0) (J 0)).1,()) (cd (iEq a0.1 (J 7)) ((c252 a0.2.1 (J 0) (J 0) (J 0)).1,(c252 (wr .i64 ((J 1) - a0.2.1)) (J 0) (J 0) (J 0)).1,()) (cd (iEq a0.1 (J 11)) ((c252 a0.2.1 (J 0) (J 0) (J 0)).1,(c252 (wr .i64 ((J 0) - a0.2.1)) (J 1) (J 0) (J 0)).1,()) (cd (iEq a0.1 (J 12)) ((c252 a0.2.1 (J 0) (J 0) (J 0)).1,(c252 (wr .i64 ((J 0) - a0.2.1)) (J 1) (J 0) (J 0)).1,()) (cd (iEq a0.1 (J 13)) ((c252 a0.2.1 (J 0) (J 0) (J 0)).1,(c252 (wr .i64 ((J 0) - a0.2.1)) (J 1) (J 0) (J 0)).1,()) (cd (iEq a0.1 (J 14)) ((c252 (wr .i64 (a0.2.1+(J 1))) (J 0) (J 0) (J 0)).1,(c252 (wr .i64 ((wr .i64 ((J 0) - a0.2.1)) - (J 1))) (J 1) (J 0) (J 0)).1,()) (cd (iEq a0.1 (J 15)) ((c252 (J 0) (J 1) (J 0) (J 0)).1,(c252 (J 1) (Int.negSucc 0) (J 0) (J 0)).1,()) (cd (iEq a0.1 (J 17)) ((c252 (J 0) (J 1) (J 0) (J 0)).1,(c252 (J 1) (Int.negSucc 0) (J 0) (J 0)).1,()) (cd (iEq a0.1 (J 19)) ((c252 (J 0) (J 1) (J 0) (J 0)).1,(c252 (J 1) (Int.negSucc 0) (J 0) (J 0)).1,()) (cd (iEq a0.1 (J 16)) ((c252 (J 1) (J 1) (J 0) (J 0)).1,(c252 (J 0) (Int.negSucc 0) (J 0) (J 0)).1,()) (cd (iEq a0.1 (J 18)) ((c252 a0.2.1 (J 1) (J 0) (J 0)).1,(c252 (wr .i64 ((J 1) - a0.2.1)) (Int.negSucc 0) (J 0) (J 0)).1,()) (cd (iEq a0.1 (J 20)) ((c252 (J 1) (wr .i64 (a0.2.1+(J 1))) (J 0) (J 0)).1,(c252 (J 0) (J 0) (J 0) (J 0)).1,()) (cd (iEq a0.1 (J 21)) ((c252 (J 0) a0.2.1 (J 0) (J 0)).1,(c252 (J 0) (wr .i64 ((J 0) - a0.2.1)) (J 0) (J 0)).1,()) (cd (iEq a0.1 (J 22)) ((c252 (J 0) (J 1) (J 0) (J 0)).1,(c252 (J 0) (Int.negSucc 0) (J 0) (J 0)).1,()) (cd (iEq a0.1 (J 29)) ((c252 a0.2.2.1 (J 1) (J 0) (J 0)).1,(c252 (wr .i64 ((J 0) - a0.2.2.1)) (Int.negSucc 0) (J 0) (J 0)).1,()) (cd (iEq a0.1 (J 34)) ((c252 (J 1) (J 0) (J 0) (J 0)).1,(c252 (Int.negSucc 0) (J 0) (J 1) (J 0)).1,()) (cd (iEq a0.1 (J 35)) ((c252 (J 0) (J 0) (J 0) (J 0)).1,(c252 (J 0) (J 0) (J 1) (J 0)).1,()) (cd (iEq a0.1 (J 36)) ((c252 (J 0) (J 0) a0.2.1 (J 0)).1,(c252 a0.2.2.1 (J 0) (wr .i64 ((J 0) - a0.2.1)) (J 0)).1,()) (cd (iEq a0.1 (J 45)) ((c252 (J 0) (J 0) (J 0) (J 0)).1,(c252 (J 0) (J 0) (J 0) (J 1)).1,()) (cd (iEq a0.1 (J 46)) ((c252 a0.2.1 (J 0) (J 0) (J 1)).1,(c252 (wr .i64 ((J 0) - a0.2.1)) (J 0) (J 0) (J 0)).1,()) (cd (iEq a0.1 (J 47)) ((c252 (J 0) (J 0) (J 0) (J 1)).1,(c252 (J 0) (J 0) (J 0) (J 0)).1,()) (cd (iEq a0.1 (J 48)) ((c252 (J 0) (J 0) (J 0) (J 1)).1,(c252 (J 0) (J 0) (J 0) (J 0)).1,()) (cd (iEq a0.1 (J 49)) ((c252 (J 0) (J 0) (J 0) (J 1)).1,(c252 (J 0) (J 0) (J 0) (J 0)).1,()) (cd (iEq a0.1 (J 51)) ((c252 (J 0) (J 0) (J 0) (J 1)).1,(c252 (J 0) (J 0) (J 0) (J 0)).1,()) (cd (iEq a0.1 (J 52)) ((c252 (J 0) (J 0) (J 0) (J 1)).1,(c252 (J 0) (J 0) (J 0) (J 0)).1,()) (cd (iEq a0.1 (J 50)) ((c252 (J 0) (J 0) (J 0) (J 1)).1,(c252 (J 0) (J 0) (J 0) (Int.negSucc 0)).1,()) ((c252 (J 0) (J 0) (J 0) (J 0)).1,(c252 (J 0) (J 0) (J 0) (J 0)).1,())))))))))))))))))))))))))))))))))))))))))
def k362:Con:=⟨504,[⟨true,y242⟩],[⟨true,y346⟩,⟨true,y346⟩],fun x=>some (c362 x.1)⟩
theorem t362 (a0:den y242):KC Bn k362 (a0,()) (c362 a0):=by
 refine xI (uL [k252] (okC o252 ok0)) Tryz.func504 fun hbd hB=>?_
 refine xc 12 (fun h1=>?_) fun h1=>?_
 exact xe 7
 refine xc 3 (fun h2=>?_) fun h2=>?_
 exact xe 7
 refine xc 2 (fun h3=>?_) fun h3=>?_
 exact xe 5
 refine xc 4 (fun h4=>?_) fun h4=>?_
 exact xe 7
 refine xc 3 (fun h5=>?_) fun h5=>?_
 exact xe 7
 refine xc 3 (fun h6=>?_) fun h6=>?_
 exact xe 7
 refine xc 3 (fun h7=>?_) fun h7=>?_
 exact xe 7
 refine xc 3 (fun h8=>?_) fun h8=>?_
 exact xe 7
 refine xc 3 (fun h9=>?_) fun h9=>?_
 exact xe 7
 refine xc 3 (fun h10=>?_) fun h10=>?_
 exact xe 7
 refine xc 3 (fun h11=>?_) fun h11=>?_
 exact xe 7
 refine xc 2 (fun h12=>?_) fun h12=>?_
 exact xe 5
 refine xc 4 (fun h13=>?_) fun h13=>?_
 exact xe 7
 refine xc 2 (fun h14=>?_) fun h14=>?_
 exact xe 5
 refine xc 3 (fun h15=>?_) fun h15=>?_
 exact xe 5
 refine xc 3 (fun h16=>?_) fun h16=>?_
 refine xv 1 ?_
 exact xe 3
 refine xc 4 (fun h17=>?_) fun h17=>?_
 refine xv 3 ?_
 exact xe 3
 refine xc 3 (fun h18=>?_) fun h18=>?_
 refine xv 3 ?_
 exact xe 3
 refine xc 2 (fun h19=>?_) fun h19=>?_
 refine xv 1 ?_
 exact xe 3
 refine xc 3 (fun h20=>?_) fun h20=>?_
 refine xv 1 ?_
 exact xe 3
 refine xc 4 (fun h21=>?_) fun h21=>?_
 exact xe 7
 refine xc 3 (fun h22=>?_) fun h22=>?_
 exact xe 7
 refine xc 2 (fun h23=>?_) fun h23=>?_
 exact xe 5
 refine xc 3 (fun h24=>?_) fun h24=>?_
 exact xe 5
 refine xc 3 (fun h25=>?_) fun h25=>?_
 refine xv 1 ?_
 exact xe 3
 refine xc 3 (fun h26=>?_) fun h26=>?_
 exact xe 5
 refine xc 3 (fun h27=>?_) fun h27=>?_
 refine xv 1 ?_
 exact xe 3
 refine xc 3 (fun h28=>?_) fun h28=>?_
 exact xe 5
 refine xc 3 (fun h29=>?_) fun h29=>?_
 refine xv 1 ?_
 exact xe 3
 refine xc 3 (fun h30=>?_) fun h30=>?_
 exact xe 5
 refine xc 3 (fun h31=>?_) fun h31=>?_
 exact xe 5
 refine xc 3 (fun h32=>?_) fun h32=>?_
 refine xv 1 ?_
 exact xe 3
 refine xc 3 (fun h33=>?_) fun h33=>?_
 exact xe 5
 refine xc 3 (fun h34=>?_) fun h34=>?_
 refine xv 1 ?_
 exact xe 3
 refine xc 4 (fun h35=>?_) fun h35=>?_
 exact xe 7
 refine xc 3 (fun h36=>?_) fun h36=>?_
 exact xe 7
 refine xc 3 (fun h37=>?_) fun h37=>?_
 exact xe 7
 refine xc 3 (fun h38=>?_) fun h38=>?_
 exact xe 7
 refine xc 2 (fun h39=>?_) fun h39=>?_
 exact xe 5
 refine xc 3 (fun h40=>?_) fun h40=>?_
 exact xe 5
 exact xe 5
theorem o362:OK Bn k362:=xO fun x=>t362 _
def c363 (a0:den y346) (a1:den y346):denL [⟨false,.bool⟩]:=((cd (cd (cd (iLe a1.2.1 a0.2.1) (iLe a1.2.2.1 a0.2.2.1) false) (iLe a1.2.2.2.1 a0.2.2.2.1) false) (iLe a1.2.2.2.2 a0.2.2.2.2) false),())
def k363:Con:=⟨505,[⟨true,y346⟩,⟨true,y346⟩],[⟨false,.bool⟩],fun x=>some (c363 x.1 x.2.1)⟩
theorem t363 (a0:den y346) (a1:den y346):KC Bn k363 (a0,a1,()) (c363 a0 a1):=by
 refine xI (uL [] ok0) Tryz.func505 fun hbd hB=>?_
 exact xe 6
theorem o363:OK Bn k363:=xO fun x=>t363 _ _
def c361_L1 (a0:den (.sl (.int .i64))) (a1:Int):(Bool×Nat)→Out (Bool×Nat) (denL [⟨false,.bool⟩]):=fun s1=>(cd (!iLe (J (U a0)) (J s1.2)) (cd (iEq (gt (.int .i64) a0 s1.2) a1) (.ret (true,())) (.go (s1.1,s1.2+1))) (.brk s1))
def c361 (a0:den (.sl (.int .i64))) (a1:Int):denL [⟨false,.bool⟩]:=(outE (dfR _) (fun s1=>(false,())) (fun r=>r) (scan (c361_L1 a0 a1) ((U a0) - 0+1) (false,0)))
def k361:Con:=⟨503,[⟨false,(.sl (.int .i64))⟩,⟨false,(.int .i64)⟩],[⟨false,.bool⟩],fun x=>some (c361 x.1 x.2.1)⟩
theorem t361 (a0:den (.sl (.int .i64))) (a1:Int):KC Bn k361 (a0,a1,()) (c361 a0 a1):=by
 refine xI (uL [] ok0) Tryz.func503 fun hbd hB=>?_
 have b1:U a0≤Bn:=hbd.1.1
 refine xlc 8 0 (fun(s1:Bool×Nat)=>[(path 0,(.isl (.int .i64) a0)),(path 1,(.i .i64 a1)),(path 4,(.b s1.1)),(path 5,(.i .i64 (J s1.2)))]) (fun _=>[]) (fun s1=>s1.2) (U a0) om fun s1 (i1:s1.2≤(U a0))=>?_
 refine xc 4 (fun h2=>?_) fun h2=>?_
 refine xr 4 ?_
 have g3:=lt_of_nle h2
 have x4:s1.2<U a0:=fo1
 refine yi 2 (.int .i64) a0 s1.2 x4 ?_
 refine yf ?_
 refine xc 1 (fun h5=>?_) fun h5=>?_
 refine xt 5 ?_
 exact xe 0
 exact xg 3 (gI om) (hN 3 s1.2 om)
 refine xb 1 ?_
 exact xe 5
theorem o361:OK Bn k361:=xO fun x=>t361 _ _
def c364 (a0:Int):denL [⟨false,.bool⟩]:=((c361 [(J 1),(J 45),(J 47),(J 48),(J 49),(J 50),(J 51),(J 52),(J 40),(J 43),(J 44),(J 27)] a0).1,())
def k364:Con:=⟨506,[⟨false,(.int .i64)⟩],[⟨false,.bool⟩],fun x=>some (c364 x.1)⟩
theorem t364 (a0:Int):KC Bn k364 (a0,()) (c364 a0):=by
 refine xI (uL [k361] (okC o361 ok0)) Tryz.func506 fun hbd hB=>?_
 exact xe 6
theorem o364:OK Bn k364:=xO fun x=>t364 _
def c253 (a0:den y242) (a1:den y346):denL [⟨false,.bool⟩]:=(cd (cd (!(c363 a1 ((c362 a0).1)).1) true (!iLe a1.2.1 (J 40))) (false,()) (cd (iEq a0.1 (J 27)) ((cd (cd (iEq a1.2.1 (J 0)) (iEq a1.2.2.1 (J 1)) false) (iEq a1.2.2.2.1 (J 0)) false),()) ((cd (!(c364 a0.1).1) true (cd (cd (iEq a1.2.1 (J 0)) (iEq a1.2.2.1 (J 0)) false) (iEq a1.2.2.2.1 (J 0)) false)),())))
def k253:Con:=⟨383,[⟨true,y242⟩,⟨true,y346⟩],[⟨false,.bool⟩],fun x=>some (c253 x.1 x.2.1)⟩
theorem t253 (a0:den y242) (a1:den y346):KC Bn k253 (a0,a1,()) (c253 a0 a1):=by
 refine xI (uL [k362,k363,k364] (okC o362 (okC o363 (okC o364 ok0)))) Tryz.func383 fun hbd hB=>?_
 refine xc 10 (fun h1=>?_) fun h1=>?_
 exact xe 4
 refine xc 5 (fun h2=>?_) fun h2=>?_
 exact xe 4
 exact xe 4
theorem o253:OK Bn k253:=xO fun x=>t253 _ _
def c250 (a0:Int):denL [⟨false,.bool⟩]:=((c361 [(J 9),(J 10),(J 43),(J 44),(J 45),(J 47),(J 48)] a0).1,())
def k250:Con:=⟨380,[⟨false,(.int .i64)⟩],[⟨false,.bool⟩],fun x=>some (c250 x.1)⟩
theorem t250 (a0:Int):KC Bn k250 (a0,()) (c250 a0):=by
 refine xI (uL [k361] (okC o361 ok0)) Tryz.func380 fun hbd hB=>?_
 exact xe 6
theorem o250:OK Bn k250:=xO fun x=>t250 _
def c365 (a0:Int):denL [⟨false,.bool⟩]:=((c361 [(J 9),(J 32),(J 38),(J 39),(J 40),(J 41),(J 51),(J 52),(J 53)] a0).1,())
def k365:Con:=⟨507,[⟨false,(.int .i64)⟩],[⟨false,.bool⟩],fun x=>some (c365 x.1)⟩
theorem t365 (a0:Int):KC Bn k365 (a0,()) (c365 a0):=by
 refine xI (uL [k361] (okC o361 ok0)) Tryz.func507 fun hbd hB=>?_
 exact xe 6
theorem o365:OK Bn k365:=xO fun x=>t365 _
def c254 (a0:den y242) (a1:Int):denL [⟨false,(.sl (.int .i64))⟩]:=(cd (!(c365 a0.1).1) (cd (c250 a0.1).1 ([(wr .i64 (a1+(J 1))),a0.2.1],()) ([(wr .i64 (a1+(J 1)))],())) (cd (c250 a0.1).1 ([a0.2.1],()) ([],())))
def k254:Con:=⟨384,[⟨true,y242⟩,⟨false,(.int .i64)⟩],[⟨false,(.sl (.int .i64))⟩],fun x=>some (c254 x.1 x.2.1)⟩
theorem t254 (a0:den y242) (a1:Int):KC Bn k254 (a0,a1,()) (c254 a0 a1):=by
 refine xI (uL [k250,k365] (okC o250 (okC o365 ok0))) Tryz.func384 fun hbd hB=>?_
 refine xc 10 (fun h1=>?_) fun h1=>?_
 refine xc 6 (fun h2=>?_) fun h2=>?_
 exact xe 5
 exact xe 4
 refine xc 5 (fun h2=>?_) fun h2=>?_
 exact xe 5
 exact xe 4
theorem o254:OK Bn k254:=xO fun x=>t254 _ _
theorem c254_l (a0:den y242) (a1:Int):U (c254 a0 a1).1≤2:=by
 unfold c254
 cases(!(c365 a0.1).1)<;>cases(c250 a0.1).1<;>first|exact Nr _|exact Nz _|exact Nat.le_succ 1
theorem c254_r (a0:den y242) (a1:Int) (h:(c250 a0.1).1=true→@LE.le Int _ 0 a0.2.1) (h0:@LE.le Int _ 0 a1) (h1:@LT.lt Int _ a1 4611686018427387904):∀k,k<U (c254 a0 a1).1→@LE.le Int _ 0 (gt (.int .i64) (c254 a0 a1).1 k):=by
 have hw:wr .i64 (a1+J 1)=a1+1:=wr_id (by show @LE.le Int _ _ (a1+1);omega) (by show @LE.le Int _ (a1+1) _;omega)
 unfold c254
 rw[hw]
 intro k
 cases(!(c365 a0.1).1)<;>cases hj:(c250 a0.1).1<;>intro hk
 ·exact absurd hk (Nn _)
 ·obtain rfl:k=0:=by have:k<1:=hk;omega
  exact h hj
 ·obtain rfl:k=0:=by have:k<1:=hk;omega
  show @LE.le Int _ 0 (a1+1);omega
 ·have:k<2:=hk
  rcases(show k=0∨k=1 by omega) with rfl|rfl
  ·show @LE.le Int _ 0 (a1+1);omega
  ·exact h hj
def c366 (a0:den y346) (a1:den y346):denL [⟨true,y346⟩]:=((c252 (wr .i64 (a0.2.1+a1.2.1)) (wr .i64 (a0.2.2.1+a1.2.2.1)) (wr .i64 (a0.2.2.2.1+a1.2.2.2.1)) (wr .i64 (a0.2.2.2.2+a1.2.2.2.2))).1,())
def k366:Con:=⟨508,[⟨true,y346⟩,⟨true,y346⟩],[⟨true,y346⟩],fun x=>some (c366 x.1 x.2.1)⟩
theorem t366 (a0:den y346) (a1:den y346):KC Bn k366 (a0,a1,()) (c366 a0 a1):=by
 refine xI (uL [k252] (okC o252 ok0)) Tryz.func508 fun hbd hB=>?_
 exact xe 6
theorem o366:OK Bn k366:=xO fun x=>t366 _ _
def c255 (a0:den y242) (a1:den y346) (a2:Int) (a3:Int):denL [⟨true,y346⟩]:=(cd (cd (cd (iEq a0.1 (J 45)) (iEq a3 a0.2.1) false) (!iEq a3 (wr .i64 (a2+(J 1)))) false) (a1,()) ((c366 a1 ((c362 a0).2.1)).1,()))
def k255:Con:=⟨385,[⟨true,y242⟩,⟨true,y346⟩,⟨false,(.int .i64)⟩,⟨false,(.int .i64)⟩],[⟨true,y346⟩],fun x=>some (c255 x.1 x.2.1 x.2.2.1 x.2.2.2.1)⟩
theorem t255 (a0:den y242) (a1:den y346) (a2:Int) (a3:Int):KC Bn k255 (a0,a1,a2,a3,()) (c255 a0 a1 a2 a3):=by
 refine xI (uL [k362,k366] (okC o362 (okC o366 ok0))) Tryz.func385 fun hbd hB=>?_
 refine xc 10 (fun h1=>?_) fun h1=>?_
 exact xe 4
 exact xe 4
theorem o255:OK Bn k255:=xO fun x=>t255 _ _ _ _
theorem c255_k (a0:den y242) (a1:den y346) (a2 a3:Int) (h:a1.1=true):(c255 a0 a1 a2 a3).1.1=true:=by
 unfold c255
 generalize (cd (cd (iEq a0.1 (J 45)) (iEq a3 a0.2.1) false) (!iEq a3 (wr .i64 (a2+(J 1)))) false)=b
 cases b
 ·rfl
 ·exact h
def c171_L3 (a0:den y42) (s1:Nat×List (den y346)×List (den (.int .i64))) (s2:List (den y346)×List (den (.int .i64))):(Nat×List (den y346)×List (den (.int .i64)))→Out (Nat×List (den y346)×List (den (.int .i64))) (denL [⟨false,(.sl y346)⟩,⟨false,.bool⟩]):=fun s3=>(cd (!iLe (J (U (c254 (gt y242 a0.1 (Jn (gt (.int .i64) s2.2 ((U s2.2) - 1)))) (gt (.int .i64) s2.2 ((U s2.2) - 1))).1)) (J s3.1)) (cd (cd (iLe (J (U a0.1)) (gt (.int .i64) ((c254 (gt y242 a0.1 (Jn (gt (.int .i64) s2.2 ((U s2.2) - 1)))) (gt (.int .i64) s2.2 ((U s2.2) - 1))).1) s3.1)) true (cd (gt y346 s3.2.1 (Jn (gt (.int .i64) ((c254 (gt y242 a0.1 (Jn (gt (.int .i64) s2.2 ((U s2.2) - 1)))) (gt (.int .i64) s2.2 ((U s2.2) - 1))).1) s3.1))).1 (!(cd (cd (gt y346 s3.2.1 (Jn (gt (.int .i64) ((c254 (gt y242 a0.1 (Jn (gt (.int .i64) s2.2 ((U s2.2) - 1)))) (gt (.int .i64) s2.2 ((U s2.2) - 1))).1) s3.1))).1 (c255 (gt y242 a0.1 (Jn (gt (.int .i64) s2.2 ((U s2.2) - 1)))) (gt y346 s3.2.1 (Jn (gt (.int .i64) s2.2 ((U s2.2) - 1)))) (gt (.int .i64) s2.2 ((U s2.2) - 1)) (gt (.int .i64) ((c254 (gt y242 a0.1 (Jn (gt (.int .i64) s2.2 ((U s2.2) - 1)))) (gt (.int .i64) s2.2 ((U s2.2) - 1))).1) s3.1)).1.1 (!(c255 (gt y242 a0.1 (Jn (gt (.int .i64) s2.2 ((U s2.2) - 1)))) (gt y346 s3.2.1 (Jn (gt (.int .i64) s2.2 ((U s2.2) - 1)))) (gt (.int .i64) s2.2 ((U s2.2) - 1)) (gt (.int .i64) ((c254 (gt y242 a0.1 (Jn (gt (.int .i64) s2.2 ((U s2.2) - 1)))) (gt (.int .i64) s2.2 ((U s2.2) - 1))).1) s3.1)).1.1)) (cd (iEq (gt y346 s3.2.1 (Jn (gt (.int .i64) ((c254 (gt y242 a0.1 (Jn (gt (.int .i64) s2.2 ((U s2.2) - 1)))) (gt (.int .i64) s2.2 ((U s2.2) - 1))).1) s3.1))).2.1 (c255 (gt y242 a0.1 (Jn (gt (.int .i64) s2.2 ((U s2.2) - 1)))) (gt y346 s3.2.1 (Jn (gt (.int .i64) s2.2 ((U s2.2) - 1)))) (gt (.int .i64) s2.2 ((U s2.2) - 1)) (gt (.int .i64) ((c254 (gt y242 a0.1 (Jn (gt (.int .i64) s2.2 ((U s2.2) - 1)))) (gt (.int .i64) s2.2 ((U s2.2) - 1))).1) s3.1)).1.2.1) (cd (iEq (gt y346 s3.2.1 (Jn (gt (.int .i64) ((c254 (gt y242 a0.1 (Jn (gt (.int .i64) s2.2 ((U s2.2) - 1)))) (gt (.int .i64) s2.2 ((U s2.2) - 1))).1) s3.1))).2.2.1 (c255 (gt y242 a0.1 (Jn (gt (.int .i64) s2.2 ((U s2.2) - 1)))) (gt y346 s3.2.1 (Jn (gt (.int .i64) s2.2 ((U s2.2) - 1)))) (gt (.int .i64) s2.2 ((U s2.2) - 1)) (gt (.int .i64) ((c254 (gt y242 a0.1 (Jn (gt (.int .i64) s2.2 ((U s2.2) - 1)))) (gt (.int .i64) s2.2 ((U s2.2) - 1))).1) s3.1)).1.2.2.1) (cd (iEq (gt y346 s3.2.1 (Jn (gt (.int .i64) ((c254 (gt y242 a0.1 (Jn (gt (.int .i64) s2.2 ((U s2.2) - 1)))) (gt (.int .i64) s2.2 ((U s2.2) - 1))).1) s3.1))).2.2.2.1 (c255 (gt y242 a0.1 (Jn (gt (.int .i64) s2.2 ((U s2.2) - 1)))) (gt y346 s3.2.1 (Jn (gt (.int .i64) s2.2 ((U s2.2) - 1)))) (gt (.int .i64) s2.2 ((U s2.2) - 1)) (gt (.int .i64) ((c254 (gt y242 a0.1 (Jn (gt (.int .i64) s2.2 ((U s2.2) - 1)))) (gt (.int .i64) s2.2 ((U s2.2) - 1))).1) s3.1)).1.2.2.2.1) (cd (iEq (gt y346 s3.2.1 (Jn (gt (.int .i64) ((c254 (gt y242 a0.1 (Jn (gt (.int .i64) s2.2 ((U s2.2) - 1)))) (gt (.int .i64) s2.2 ((U s2.2) - 1))).1) s3.1))).2.2.2.2 (c255 (gt y242 a0.1 (Jn (gt (.int .i64) s2.2 ((U s2.2) - 1)))) (gt y346 s3.2.1 (Jn (gt (.int .i64) s2.2 ((U s2.2) - 1)))) (gt (.int .i64) s2.2 ((U s2.2) - 1)) (gt (.int .i64) ((c254 (gt y242 a0.1 (Jn (gt (.int .i64) s2.2 ((U s2.2) - 1)))) (gt (.int .i64) s2.2 ((U s2.2) - 1))).1) s3.1)).1.2.2.2.2) true false) false) false) false) false)) false)) (.ret ([],false,())) (cd (!(gt y346 s3.2.1 (Jn (gt (.int .i64) ((c254 (gt y242 a0.1 (Jn (gt (.int .i64) s2.2 ((U s2.2) - 1)))) (gt (.int .i64) s2.2 ((U s2.2) - 1))).1) s3.1))).1) (.go (s3.1+1,(List.set s3.2.1 (Jn (gt (.int .i64) ((c254 (gt y242 a0.1 (Jn (gt (.int .i64) s2.2 ((U s2.2) - 1)))) (gt (.int .i64) s2.2 ((U s2.2) - 1))).1) s3.1)) ((c255 (gt y242 a0.1 (Jn (gt (.int .i64) s2.2 ((U s2.2) - 1)))) (gt y346 s3.2.1 (Jn (gt (.int .i64) s2.2 ((U s2.2) - 1)))) (gt (.int .i64) s2.2 ((U s2.2) - 1)) (gt (.int .i64) ((c254 (gt y242 a0.1 (Jn (gt (.int .i64) s2.2 ((U s2.2) - 1)))) (gt (.int .i64) s2.2 ((U s2.2) - 1))).1) s3.1)).1)),(s3.2.2++[(gt (.int .i64) ((c254 (gt y242 a0.1 (Jn (gt (.int .i64) s2.2 ((U s2.2) - 1)))) (gt (.int .i64) s2.2 ((U s2.2) - 1))).1) s3.1)]))) (.go (s3.1+1,s3.2.1,s3.2.2)))) (.brk s3))
def c171_L4 (a0:den y42) (s1:Nat×List (den y346)×List (den (.int .i64))) (s2:List (den y346)×List (den (.int .i64))):(Bool×Nat)→Out (Bool×Nat) (denL [⟨false,(.sl y346)⟩,⟨false,.bool⟩]):=fun s4=>(cd (!iLe (J (U a0.2)) (J s4.2)) (cd (!(cd (cd (gt y346 s2.1 (Jn ((gt y261 a0.2 s4.2).2.2.1))).1 (c252 (J 0) (J 0) (J 0) (J 0)).1.1 (!(c252 (J 0) (J 0) (J 0) (J 0)).1.1)) (cd (iEq (gt y346 s2.1 (Jn ((gt y261 a0.2 s4.2).2.2.1))).2.1 (c252 (J 0) (J 0) (J 0) (J 0)).1.2.1) (cd (iEq (gt y346 s2.1 (Jn ((gt y261 a0.2 s4.2).2.2.1))).2.2.1 (c252 (J 0) (J 0) (J 0) (J 0)).1.2.2.1) (cd (iEq (gt y346 s2.1 (Jn ((gt y261 a0.2 s4.2).2.2.1))).2.2.2.1 (c252 (J 0) (J 0) (J 0) (J 0)).1.2.2.2.1) (cd (iEq (gt y346 s2.1 (Jn ((gt y261 a0.2 s4.2).2.2.1))).2.2.2.2 (c252 (J 0) (J 0) (J 0) (J 0)).1.2.2.2.2) true false) false) false) false) false)) (.ret ([],false,())) (.go (s4.1,s4.2+1))) (.brk s4))
def c171_L2 (a0:den y42) (s1:Nat×List (den y346)×List (den (.int .i64))):(List (den y346)×List (den (.int .i64)))→Out (List (den y346)×List (den (.int .i64))) (denL [⟨false,(.sl y346)⟩,⟨false,.bool⟩]):=fun s2=>(cd (!iLe (J (U s2.2)) (J 0)) (cd (cd (!(c253 (gt y242 a0.1 (Jn (gt (.int .i64) s2.2 ((U s2.2) - 1)))) (gt y346 s2.1 (Jn (gt (.int .i64) s2.2 ((U s2.2) - 1))))).1) true (cd (iEq (gt y242 a0.1 (Jn (gt (.int .i64) s2.2 ((U s2.2) - 1)))).1 (J 45)) (iEq (gt y242 a0.1 (Jn (gt (.int .i64) s2.2 ((U s2.2) - 1)))).2.1 (wr .i64 ((gt (.int .i64) s2.2 ((U s2.2) - 1))+(J 1)))) false)) (.ret ([],false,())) (outE (.ret (dfR _)) (fun s3=>(.go (s3.2.1,s3.2.2))) (fun r=>.ret r) (scan (c171_L3 a0 s1 s2) ((fun(s3:Nat×List (den y346)×List (den (.int .i64)))=>U (c254 (gt y242 a0.1 (Jn (gt (.int .i64) s2.2 (U s2.2 - 1)))) (gt (.int .i64) s2.2 (U s2.2 - 1))).1 - s3.1) (0,s2.1,(List.take ((U s2.2) - 1) s2.2))+1) (0,s2.1,(List.take ((U s2.2) - 1) s2.2))))) (.brk s2))
def c171_L1 (a0:den y42):(Nat×List (den y346)×List (den (.int .i64)))→Out (Nat×List (den y346)×List (den (.int .i64))) (denL [⟨false,(.sl y346)⟩,⟨false,.bool⟩]):=fun s1=>(cd (!iLe (J (U a0.2)) (J s1.1)) (cd (!(gt y346 s1.2.1 (Jn ((gt y261 a0.2 s1.1).2.2.1))).1) (.go (s1.1+1,(List.set s1.2.1 (Jn ((gt y261 a0.2 s1.1).2.2.1)) ((c252 (J 0) (J 0) (J 0) (J 0)).1)),(s1.2.2++[(gt y261 a0.2 s1.1).2.2.1]))) (.go (s1.1+1,s1.2.1,s1.2.2))) (.brk s1))
def c171 (a0:den y42):denL [⟨false,(.sl y346)⟩,⟨false,.bool⟩]:=(outE (dfR _) (fun s1=>(outE (dfR _) (fun s2=>(outE (dfR _) (fun s4=>(s2.1,true,())) (fun r=>r) (scan (c171_L4 a0 s1 s2) ((U a0.2) - 0+1) (false,0)))) (fun r=>r) (scan (c171_L2 a0 s1) ((fun(s2:List (den y346)×List (den (.int .i64)))=>2*unk (fun(h:den y346)=>h.1) s2.1+U s2.2) (s1.2.1,s1.2.2)+1) (s1.2.1,s1.2.2)))) (fun r=>r) (scan (c171_L1 a0) ((fun(s1:Nat×List (den y346)×List (den (.int .i64)))=>U a0.2 - s1.1) (0,(List.replicate (U a0.1) (false,(J 0),(J 0),(J 0),(J 0))),[])+1) (0,(List.replicate (U a0.1) (false,(J 0),(J 0),(J 0),(J 0))),[])))
open Classical in
def k171:Con:=⟨258,[⟨true,y42⟩],[⟨false,(.sl y346)⟩,⟨false,.bool⟩],fun x=>if 0<U x.1.1∧U x.1.1≤100000∧(∀i,i<U x.1.2→@LE.le Int _ 0 (gt y261 x.1.2 i).2.2.1∧@LT.lt Int _ (gt y261 x.1.2 i).2.2.1 ((U x.1.1:Nat):Int))∧(∀i,i<U x.1.1→(c250 (gt y242 x.1.1 i).1).1=true→@LE.le Int _ 0 (gt y242 x.1.1 i).2.1) then some (c171 x.1) else none⟩
theorem t171 (a0:den y42) (r0:0<U a0.1) (r1:U a0.1≤100000) (r2:(∀i,i<U a0.2→@LE.le Int _ 0 (gt y261 a0.2 i).2.2.1∧@LT.lt Int _ (gt y261 a0.2 i).2.2.1 ((U a0.1:Nat):Int))) (r3:(∀i,i<U a0.1→(c250 (gt y242 a0.1 i).1).1=true→@LE.le Int _ 0 (gt y242 a0.1 i).2.1)):KC Bn k171 (a0,()) (c171 a0):=by
 refine xI (uL [k252,k253,k254,k255] (okC o252 (okC o253 (okC o254 (okC o255 ok0))))) Tryz.func258 fun hbd hB=>?_
 refine xr 4 ?_
 have b1:U a0.1≤Bn:=hbd.1.1.1
 refine ymk 3 1 229 40 y346 (false,(J 0),(J 0),(J 0),(J 0)) (U a0.1) om om ?_
 refine yf ?_
 have b2:U a0.2≤Bn:=hbd.1.2.1
 refine xlC 9 3 (fun v (s1:Nat×List (den y346)×List (den (.int .i64)))=>[(path 1,(.p (path 0) 0)),(path 2,(.v (.slice none 0 0))),(path 3,(.b false)),(path 4,(.sl (path 1) 0 (wd y346) (U a0.1) (U a0.1) true)),(path 5,v),(path 6,(.i .i64 (J s1.1)))]) (fun v (s1:Nat×List (den y346)×List (den (.int .i64)))=>[some (.cs 27 [(.isl y242 a0.1),(.isl y261 a0.2)] false),some (.cs 229 (flatT y346 s1.2.1) false),none]) (fun s1=>(apv .em (path 3) (.int .i64) s1.2.2)) (fun s1=>(apb 2 (.int .i64) s1.2.2)) (fun s1=>((s1.1≤U a0.2∧U s1.2.1=U a0.1)∧unk (fun(h:den y346)=>h.1) s1.2.1+U s1.2.2≤U a0.1)∧AllW (U a0.1) (fun(h:den y346)=>h.1) s1.2.1 s1.2.2) (fun(s1:Nat×List (den y346)×List (den (.int .i64)))=>U a0.2 - s1.1) ⟨⟨⟨Nz _,List.length_replicate⟩,Nt (unk_le _ _) (Nat.le_of_eq List.length_replicate)⟩,allw_nil⟩ (by dsimp only;omega) (rendD ⟨bk1,bF,trivial,trivial⟩ kr kr kr) fun s1 i1=>?_
 obtain⟨⟨⟨hi1,hl1⟩,hu1⟩,hw1⟩:=i1
 refine xc 4 (fun h3=>?_) fun h3=>?_
 refine xr 4 ?_
 have g4:=lt_of_nle h3
 have b5:U a0.2≤Bn:=hbd.1.2.1
 have x6:s1.1<U a0.2:=fo1
 refine yi 3 y261 a0.2 s1.1 x6 ?_
 have e7:=r2 s1.1 x6
 refine yf ?_
 refine xr 2 ?_
 refine yv 2 33 (.i .i64 (gt y261 a0.2 s1.1).2.2.1) (.i .i64 (J (Jn ((gt y261 a0.2 s1.1).2.2.1)))) (toNat_av (show @LE.le Int _ 0 ((gt y261 a0.2 s1.1).2.2.1) by omega)) ?_
 refine yie 0 1 (wd y346) (U a0.1) (U a0.1) true (Jn ((gt y261 a0.2 s1.1).2.2.1)) fo1 ?_
 refine yl1 1 1 y346 s1.2.1 (Jn ((gt y261 a0.2 s1.1).2.2.1)) 0 (.b (gt y346 s1.2.1 (Jn ((gt y261 a0.2 s1.1).2.2.1))).1) (by have hl:U s1.2.1=_:=hl1;omega) ?_
 refine yf ?_
 refine xc 1 (fun h8=>?_) fun h8=>?_
 refine xr 1 ?_
 refine yv 3 39 (.i .i64 (gt y261 a0.2 s1.1).2.2.1) (.i .i64 (J (Jn ((gt y261 a0.2 s1.1).2.2.1)))) (toNat_av (show @LE.le Int _ 0 ((gt y261 a0.2 s1.1).2.2.1) by omega)) ?_
 refine yie 0 1 (wd y346) (U a0.1) (U a0.1) true (Jn ((gt y261 a0.2 s1.1).2.2.1)) fo1 ?_
 refine yst 0 1 229 y346 s1.2.1 (Jn ((gt y261 a0.2 s1.1).2.2.1)) ((c252 (J 0) (J 0) (J 0) (J 0)).1) (by have hl:U s1.2.1=_:=hl1;omega) ?_
 refine yf ?_
 refine xr 1 ?_
 refine zo 3 (zapp 0 5 2 8 .em iv_em 3 (.int .i64) s1.2.2 ((gt y261 a0.2 s1.1).2.2.1) fo4 (zf ?_))
 refine yf ?_
 refine xsv 3 6 (.i .i64 (wr .i64 ((J s1.1)+(J 1)))) (.i .i64 (J s1.1+1)) (wr_inc om) ?_
 have hk:=unk_set (fun(h:den y346)=>h.1) (x:=(c252 (J 0) (J 0) (J 0) (J 0)).1) (show(Jn ((gt y261 a0.2 s1.1).2.2.1))<U s1.2.1 by have hl:U s1.2.1=_:=hl1;omega) (by simpa using h8) rfl
 have hz:U (s1.2.2++[(gt y261 a0.2 s1.1).2.2.1])=U s1.2.2+1:=La ..
 exact xgC 0 5 (.sl (path 5) 0 (wd (.int .i64)) (U (s1.2.2++[(gt y261 a0.2 s1.1).2.2.1])) (U (s1.2.2++[(gt y261 a0.2 s1.1).2.2.1])) false) [false,false,false,false,true] ⟨⟨⟨⟨by dsimp only;omega,List.length_set.trans hl1⟩,by dsimp only;omega⟩,allw_push hw1 hl1 om om rfl⟩,by dsimp only;omega⟩ (gAn kr) ⟨bS bk1,bS bF,bS trivial,trivial⟩
 refine xsv 3 6 (.i .i64 (wr .i64 ((J s1.1)+(J 1)))) (.i .i64 (J s1.1+1)) (wr_inc om) ?_
 exact xgC 0 3 (apv .em (path 3) (.int .i64) s1.2.2) [false,false,false,false,true] ⟨⟨⟨⟨by dsimp only;omega,hl1⟩,hu1⟩,hw1⟩,by dsimp only;omega⟩ (gA iv_em kr) ⟨bS bk1,bS bF,bS trivial,trivial⟩
 refine xbC 1 ?_
 have g4:=le_of_nle h3
 refine Classical.byCases (p:=s1.2.2=[]) (fun n5=>?_) fun n5=>?_
 refine xsv 4 5 (apv .em (path 3) (.int .i64) s1.2.2) .em (congrArg (fun z=>apv .em (path 3) (.int .i64) z) n5) ?_
 refine xhv 0 3 (apb 2 (.int .i64) s1.2.2) .dead (congrArg (fun z=>apb 2 (.int .i64) z) n5) ?_
 refine xnl (s':=(s1.2.1,s1.2.2)) (by rw[n5];kernel_rfl) ?_
 refine xun 0 1 ?_
 have b6:U a0.2≤Bn:=hbd.1.2.1
 refine xlc 14 4 (fun(s4:Bool×Nat)=>[(path 1,(.p (path 0) 0)),(path 2,(.v (.slice none 0 0))),(path 3,(.b s4.1)),(path 4,(.sl (path 1) 0 (wd y346) (U a0.1) (U a0.1) true)),(path 13,(.i .i64 (J s4.2)))]) (fun s4=>[some (.cs 27 [(.isl y242 a0.1),(.isl y261 a0.2)] false),some (.cs 229 (flatT y346 s1.2.1) false),none,some .dead]) (fun s4=>s4.2) (U a0.2) om fun s4 (i4:s4.2≤(U a0.2))=>?_
 refine xc 4 (fun h7=>?_) fun h7=>?_
 refine xd 4 ?_
 have g8:=lt_of_nle h7
 have x9:s4.2<U a0.2:=fo1
 refine yi 4 y261 a0.2 s4.2 x9 ?_
 have e10:=r2 s4.2 x9
 refine yv 2 169 (.i .i64 (gt y261 a0.2 s4.2).2.2.1) (.i .i64 (J (Jn ((gt y261 a0.2 s4.2).2.2.1)))) (toNat_av (show @LE.le Int _ 0 ((gt y261 a0.2 s4.2).2.2.1) by omega)) ?_
 refine yie 0 1 (wd y346) (U a0.1) (U a0.1) true (Jn ((gt y261 a0.2 s4.2).2.2.1)) fo1 ?_
 refine yln 0 1 y346 s1.2.1 (Jn ((gt y261 a0.2 s4.2).2.2.1)) 0 5 [(.b (gt y346 s1.2.1 (Jn ((gt y261 a0.2 s4.2).2.2.1))).1),(.i .i64 (gt y346 s1.2.1 (Jn ((gt y261 a0.2 s4.2).2.2.1))).2.1),(.i .i64 (gt y346 s1.2.1 (Jn ((gt y261 a0.2 s4.2).2.2.1))).2.2.1),(.i .i64 (gt y346 s1.2.1 (Jn ((gt y261 a0.2 s4.2).2.2.1))).2.2.2.1),(.i .i64 (gt y346 s1.2.1 (Jn ((gt y261 a0.2 s4.2).2.2.1))).2.2.2.2)] (by have hl:U s1.2.1=_:=hl1;omega) ?_
 refine yf ?_
 refine xc 1 (fun h11=>?_) fun h11=>?_
 refine xt 5 ?_
 exact xe 0
 exact xgb 3 (gI om) (hN 4 s4.2 om) ⟨bk1,⟨bF,⟨bk1,⟨bk1,trivial⟩⟩⟩⟩
 refine xb 1 ?_
 have g8:=le_of_nle h7
 refine xsv 3 4 (.sl (path 1) 0 (wd y346) (U a0.1) (U a0.1) true) (.sl (path 1) 0 (wd y346) (U s1.2.1) (U s1.2.1) true) (by rw[hl1]) ?_
 refine xgv 0 4 1 229 (U s1.2.1) true y346 s1.2.1 (by have hl:=hl1;omega) ?_
 exact xe 2
 refine xsv 4 5 (apv .em (path 3) (.int .i64) s1.2.2) (.sl (path 3) 0 (wd (.int .i64)) (U s1.2.2) (U s1.2.2) false) (apv_ne n5) ?_
 refine xhv 0 3 (apb 2 (.int .i64) s1.2.2) (.cs 2 (flatT (.int .i64) s1.2.2) false) (apb_ne n5) ?_
 refine xlCi 0 4 (fun v (s2:List (den y346)×List (den (.int .i64)))=>[(path 1,(.p (path 0) 0)),(path 2,(.v (.slice none 0 0))),(path 3,(.b false)),(path 4,(.sl (path 1) 0 (wd y346) (U a0.1) (U a0.1) true)),(path 5,v)]) (fun v (s2:List (den y346)×List (den (.int .i64)))=>[some (.cs 27 [(.isl y242 a0.1),(.isl y261 a0.2)] false),some (.cs 229 (flatT y346 s2.1) false),none,some .dead]) (fun s2=>(.sl (path 4) 0 (wd (.int .i64)) (U s2.2) (U s2.2) false)) (fun s2=>(.cs 2 (flatT (.int .i64) s2.2) false)) (fun s2=>(U s2.1=U a0.1∧unk (fun(h:den y346)=>h.1) s2.1+U s2.2≤U a0.1)∧AllW (U a0.1) (fun(h:den y346)=>h.1) s2.1 s2.2) (fun(s2:List (den y346)×List (den (.int .i64)))=>2*unk (fun(h:den y346)=>h.1) s2.1+U s2.2) ⟨⟨hl1,hu1⟩,hw1⟩ (by have hq:=unk_le (fun(h:den y346)=>h.1) s1.2.1;dsimp only;omega) 3 (.sl (path 3) 0 (wd (.int .i64)) (U s1.2.2) (U s1.2.2) false) [false,false,false,false,true] (gN kr) ⟨bS bk1,bS bF,bS trivial,bS trivial,trivial⟩ fun s2 i2=>?_
 obtain⟨⟨hl2,hu2⟩,hw2⟩:=i2
 refine xc 4 (fun h12=>?_) fun h12=>?_
 refine xr 3 ?_
 have g13:=lt_of_nle h12
 refine yv 4 52 (.i .i64 (wr .i64 ((J (U s2.2)) - (J 1)))) (.i .i64 (J ((U s2.2) - 1))) (wr_dec om om) ?_
 refine yie 0 4 (wd (.int .i64)) (U s2.2) (U s2.2) false ((U s2.2) - 1) fo1 ?_
 refine yl1 0 4 (.int .i64) s2.2 ((U s2.2) - 1) 0 (.i .i64 (gt (.int .i64) s2.2 ((U s2.2) - 1))) fo1 ?_
 have e14:=(hw2 ((U s2.2) - 1) fo1).1
 refine yf ?_
 refine xr 2 ?_
 refine yv 4 58 (.i .i64 (wr .i64 ((J (U s2.2)) - (J 1)))) (.i .i64 (J ((U s2.2) - 1))) (wr_dec om om) ?_
 refine ypo 0 4 (wd (.int .i64)) (U s2.2) (U s2.2) false ((U s2.2) - 1) om ?_
 refine yf ?_
 refine xpS 2 5 4 2 ((U s2.2) - 1) (U s2.2) false (.int .i64) s2.2 om ?_
 have b15:U (List.take ((U s2.2) - 1) s2.2)=((U s2.2) - 1):=by rw[Tk];omega
 refine xr 0 ?_
 refine yv 3 62 (.i .i64 (gt (.int .i64) s2.2 ((U s2.2) - 1))) (.i .i64 (J (Jn (gt (.int .i64) s2.2 ((U s2.2) - 1))))) (toNat_av (show @LE.le Int _ 0 (gt (.int .i64) s2.2 ((U s2.2) - 1)) by omega)) ?_
 have x16:(Jn (gt (.int .i64) s2.2 ((U s2.2) - 1)))<U a0.1:=fo1
 refine yi 0 y242 a0.1 (Jn (gt (.int .i64) s2.2 ((U s2.2) - 1))) x16 ?_
 refine yf ?_
 refine xd 3 ?_
 refine yv 3 67 (.i .i64 (gt (.int .i64) s2.2 ((U s2.2) - 1))) (.i .i64 (J (Jn (gt (.int .i64) s2.2 ((U s2.2) - 1))))) (toNat_av (show @LE.le Int _ 0 (gt (.int .i64) s2.2 ((U s2.2) - 1)) by omega)) ?_
 refine yie 0 1 (wd y346) (U a0.1) (U a0.1) true (Jn (gt (.int .i64) s2.2 ((U s2.2) - 1))) fo1 ?_
 refine yln 0 1 y346 s2.1 (Jn (gt (.int .i64) s2.2 ((U s2.2) - 1))) 0 5 [(.b (gt y346 s2.1 (Jn (gt (.int .i64) s2.2 ((U s2.2) - 1)))).1),(.i .i64 (gt y346 s2.1 (Jn (gt (.int .i64) s2.2 ((U s2.2) - 1)))).2.1),(.i .i64 (gt y346 s2.1 (Jn (gt (.int .i64) s2.2 ((U s2.2) - 1)))).2.2.1),(.i .i64 (gt y346 s2.1 (Jn (gt (.int .i64) s2.2 ((U s2.2) - 1)))).2.2.2.1),(.i .i64 (gt y346 s2.1 (Jn (gt (.int .i64) s2.2 ((U s2.2) - 1)))).2.2.2.2)] (by have hl:U s2.1=_:=hl2;omega) ?_
 refine yf ?_
 refine xc 1 (fun h17=>?_) fun h17=>?_
 refine xtC 5 ?_
 exact xe 0
 have hN3:=c254_l (gt y242 a0.1 (Jn (gt (.int .i64) s2.2 (U s2.2 - 1)))) (gt (.int .i64) s2.2 (U s2.2 - 1))
 refine xlCi 8 6 (fun v (s3:Nat×List (den y346)×List (den (.int .i64)))=>[(path 1,(.p (path 0) 0)),(path 2,(.v (.slice none 0 0))),(path 3,(.b false)),(path 4,(.sl (path 1) 0 (wd y346) (U a0.1) (U a0.1) true)),(path 5,v),(path 8,(.i .i64 (gt (.int .i64) s2.2 ((U s2.2) - 1)))),(path 9,(.p (path 5) 0)),(path 10,(.isl (.int .i64) (c254 (gt y242 a0.1 (Jn (gt (.int .i64) s2.2 ((U s2.2) - 1)))) (gt (.int .i64) s2.2 ((U s2.2) - 1))).1)),(path 11,(.i .i64 (J s3.1)))]) (fun v (s3:Nat×List (den y346)×List (den (.int .i64)))=>[some (.cs 27 [(.isl y242 a0.1),(.isl y261 a0.2)] false),some (.cs 229 (flatT y346 s3.2.1) false),none,some .dead,some .dead,some (.cs 164 [(.i .i64 (gt y242 a0.1 (Jn (gt (.int .i64) s2.2 ((U s2.2) - 1)))).1),(.i .i64 (gt y242 a0.1 (Jn (gt (.int .i64) s2.2 ((U s2.2) - 1)))).2.1),(.i .i64 (gt y242 a0.1 (Jn (gt (.int .i64) s2.2 ((U s2.2) - 1)))).2.2.1),(.s (U (α:=Nat) (gt y242 a0.1 (Jn (gt (.int .i64) s2.2 ((U s2.2) - 1)))).2.2.2) (gt y242 a0.1 (Jn (gt (.int .i64) s2.2 ((U s2.2) - 1)))).2.2.2)] false)]) (fun s3=>(.sl (path 6) 0 (wd (.int .i64)) (U s3.2.2) (U s3.2.2) false)) (fun s3=>(.cs 2 (flatT (.int .i64) s3.2.2) false)) (fun s3=>((s3.1≤U (c254 (gt y242 a0.1 (Jn (gt (.int .i64) s2.2 (U s2.2 - 1)))) (gt (.int .i64) s2.2 (U s2.2 - 1))).1∧U s3.2.1=U a0.1)∧2*unk (fun(h:den y346)=>h.1) s3.2.1+U s3.2.2<2*unk (fun(h:den y346)=>h.1) s2.1+U s2.2)∧AllW (U a0.1) (fun(h:den y346)=>h.1) s3.2.1 s3.2.2∧unk (fun(h:den y346)=>h.1) s3.2.1+U s3.2.2≤U a0.1∧(gt y346 s3.2.1 (Jn (gt (.int .i64) s2.2 (U s2.2 - 1)))).1=true) (fun(s3:Nat×List (den y346)×List (den (.int .i64)))=>U (c254 (gt y242 a0.1 (Jn (gt (.int .i64) s2.2 (U s2.2 - 1)))) (gt (.int .i64) s2.2 (U s2.2 - 1))).1 - s3.1) ⟨⟨⟨Nz _,hl2⟩,by dsimp only;omega⟩,allw_take hw2,by dsimp only;omega,(hw2 _ om).2⟩ (by dsimp only;omega) 4 (.sl (path 4) 0 (wd (.int .i64)) (U (List.take ((U s2.2) - 1) s2.2)) (U (List.take ((U s2.2) - 1) s2.2)) false) [false,false,false,false,true] (gN kr) ⟨bS bk1,bS bF,bS trivial,bS trivial,bS trivial,bS bk1,trivial⟩ fun s3 i3=>?_
 obtain⟨⟨⟨hi3,hl3⟩,hd3⟩,hw3,hu3,hk3⟩:=i3
 refine xc 4 (fun h18=>?_) fun h18=>?_
 refine xw 4 ?_
 have g19:=lt_of_nle h18
 refine zdw 3 95 (.i .i64 (gt (.int .i64) s2.2 ((U s2.2) - 1))) (.i .i64 (J (Jn (gt (.int .i64) s2.2 ((U s2.2) - 1))))) (toNat_av (show @LE.le Int _ 0 (gt (.int .i64) s2.2 ((U s2.2) - 1)) by omega)) ?_
 refine zde 0 1 (wd y346) (U a0.1) (U a0.1) true (Jn (gt (.int .i64) s2.2 ((U s2.2) - 1))) fo1 ?_
 refine zdl 0 1 y346 s3.2.1 (Jn (gt (.int .i64) s2.2 ((U s2.2) - 1))) 0 5 [(.b (gt y346 s3.2.1 (Jn (gt (.int .i64) s2.2 ((U s2.2) - 1)))).1),(.i .i64 (gt y346 s3.2.1 (Jn (gt (.int .i64) s2.2 ((U s2.2) - 1)))).2.1),(.i .i64 (gt y346 s3.2.1 (Jn (gt (.int .i64) s2.2 ((U s2.2) - 1)))).2.2.1),(.i .i64 (gt y346 s3.2.1 (Jn (gt (.int .i64) s2.2 ((U s2.2) - 1)))).2.2.2.1),(.i .i64 (gt y346 s3.2.1 (Jn (gt (.int .i64) s2.2 ((U s2.2) - 1)))).2.2.2.2)] (by have hl:U s3.2.1=_:=hl3;omega) ?_
 refine zdi 3 (.int .i64) ((c254 (gt y242 a0.1 (Jn (gt (.int .i64) s2.2 ((U s2.2) - 1)))) (gt (.int .i64) s2.2 ((U s2.2) - 1))).1) s3.1 fo1 ?_
 have e20:=c254_r (gt y242 a0.1 (Jn (gt (.int .i64) s2.2 ((U s2.2) - 1)))) (gt (.int .i64) s2.2 ((U s2.2) - 1)) (r3 (Jn (gt (.int .i64) s2.2 ((U s2.2) - 1))) om) om om s3.1 fo1
 refine zfd ?_
 refine xd 3 ?_
 refine yi 2 (.int .i64) ((c254 (gt y242 a0.1 (Jn (gt (.int .i64) s2.2 ((U s2.2) - 1)))) (gt (.int .i64) s2.2 ((U s2.2) - 1))).1) s3.1 fo1 ?_
 have e21:=c254_r (gt y242 a0.1 (Jn (gt (.int .i64) s2.2 ((U s2.2) - 1)))) (gt (.int .i64) s2.2 ((U s2.2) - 1)) (r3 (Jn (gt (.int .i64) s2.2 ((U s2.2) - 1))) om) om om s3.1 fo1
 refine yg 6 112 false (iLe (J (U a0.1)) (gt (.int .i64) ((c254 (gt y242 a0.1 (Jn (gt (.int .i64) s2.2 ((U s2.2) - 1)))) (gt (.int .i64) s2.2 ((U s2.2) - 1))).1) s3.1)) (cd (gt y346 s3.2.1 (Jn (gt (.int .i64) ((c254 (gt y242 a0.1 (Jn (gt (.int .i64) s2.2 ((U s2.2) - 1)))) (gt (.int .i64) s2.2 ((U s2.2) - 1))).1) s3.1))).1 (!(cd (cd (gt y346 s3.2.1 (Jn (gt (.int .i64) ((c254 (gt y242 a0.1 (Jn (gt (.int .i64) s2.2 ((U s2.2) - 1)))) (gt (.int .i64) s2.2 ((U s2.2) - 1))).1) s3.1))).1 (c255 (gt y242 a0.1 (Jn (gt (.int .i64) s2.2 ((U s2.2) - 1)))) (gt y346 s3.2.1 (Jn (gt (.int .i64) s2.2 ((U s2.2) - 1)))) (gt (.int .i64) s2.2 ((U s2.2) - 1)) (gt (.int .i64) ((c254 (gt y242 a0.1 (Jn (gt (.int .i64) s2.2 ((U s2.2) - 1)))) (gt (.int .i64) s2.2 ((U s2.2) - 1))).1) s3.1)).1.1 (!(c255 (gt y242 a0.1 (Jn (gt (.int .i64) s2.2 ((U s2.2) - 1)))) (gt y346 s3.2.1 (Jn (gt (.int .i64) s2.2 ((U s2.2) - 1)))) (gt (.int .i64) s2.2 ((U s2.2) - 1)) (gt (.int .i64) ((c254 (gt y242 a0.1 (Jn (gt (.int .i64) s2.2 ((U s2.2) - 1)))) (gt (.int .i64) s2.2 ((U s2.2) - 1))).1) s3.1)).1.1)) (cd (iEq (gt y346 s3.2.1 (Jn (gt (.int .i64) ((c254 (gt y242 a0.1 (Jn (gt (.int .i64) s2.2 ((U s2.2) - 1)))) (gt (.int .i64) s2.2 ((U s2.2) - 1))).1) s3.1))).2.1 (c255 (gt y242 a0.1 (Jn (gt (.int .i64) s2.2 ((U s2.2) - 1)))) (gt y346 s3.2.1 (Jn (gt (.int .i64) s2.2 ((U s2.2) - 1)))) (gt (.int .i64) s2.2 ((U s2.2) - 1)) (gt (.int .i64) ((c254 (gt y242 a0.1 (Jn (gt (.int .i64) s2.2 ((U s2.2) - 1)))) (gt (.int .i64) s2.2 ((U s2.2) - 1))).1) s3.1)).1.2.1) (cd (iEq (gt y346 s3.2.1 (Jn (gt (.int .i64) ((c254 (gt y242 a0.1 (Jn (gt (.int .i64) s2.2 ((U s2.2) - 1)))) (gt (.int .i64) s2.2 ((U s2.2) - 1))).1) s3.1))).2.2.1 (c255 (gt y242 a0.1 (Jn (gt (.int .i64) s2.2 ((U s2.2) - 1)))) (gt y346 s3.2.1 (Jn (gt (.int .i64) s2.2 ((U s2.2) - 1)))) (gt (.int .i64) s2.2 ((U s2.2) - 1)) (gt (.int .i64) ((c254 (gt y242 a0.1 (Jn (gt (.int .i64) s2.2 ((U s2.2) - 1)))) (gt (.int .i64) s2.2 ((U s2.2) - 1))).1) s3.1)).1.2.2.1) (cd (iEq (gt y346 s3.2.1 (Jn (gt (.int .i64) ((c254 (gt y242 a0.1 (Jn (gt (.int .i64) s2.2 ((U s2.2) - 1)))) (gt (.int .i64) s2.2 ((U s2.2) - 1))).1) s3.1))).2.2.2.1 (c255 (gt y242 a0.1 (Jn (gt (.int .i64) s2.2 ((U s2.2) - 1)))) (gt y346 s3.2.1 (Jn (gt (.int .i64) s2.2 ((U s2.2) - 1)))) (gt (.int .i64) s2.2 ((U s2.2) - 1)) (gt (.int .i64) ((c254 (gt y242 a0.1 (Jn (gt (.int .i64) s2.2 ((U s2.2) - 1)))) (gt (.int .i64) s2.2 ((U s2.2) - 1))).1) s3.1)).1.2.2.2.1) (cd (iEq (gt y346 s3.2.1 (Jn (gt (.int .i64) ((c254 (gt y242 a0.1 (Jn (gt (.int .i64) s2.2 ((U s2.2) - 1)))) (gt (.int .i64) s2.2 ((U s2.2) - 1))).1) s3.1))).2.2.2.2 (c255 (gt y242 a0.1 (Jn (gt (.int .i64) s2.2 ((U s2.2) - 1)))) (gt y346 s3.2.1 (Jn (gt (.int .i64) s2.2 ((U s2.2) - 1)))) (gt (.int .i64) s2.2 ((U s2.2) - 1)) (gt (.int .i64) ((c254 (gt y242 a0.1 (Jn (gt (.int .i64) s2.2 ((U s2.2) - 1)))) (gt (.int .i64) s2.2 ((U s2.2) - 1))).1) s3.1)).1.2.2.2.2) true false) false) false) false) false)) false) (fun h22=>?_) ?_
 have g23:@LT.lt Int _ (gt (.int .i64) ((c254 (gt y242 a0.1 (Jn (gt (.int .i64) s2.2 ((U s2.2) - 1)))) (gt (.int .i64) s2.2 ((U s2.2) - 1))).1) s3.1) (((U a0.1):Nat):Int):=ile_f h22
 refine yi 3 (.int .i64) ((c254 (gt y242 a0.1 (Jn (gt (.int .i64) s2.2 ((U s2.2) - 1)))) (gt (.int .i64) s2.2 ((U s2.2) - 1))).1) s3.1 fo1 ?_
 have e24:=c254_r (gt y242 a0.1 (Jn (gt (.int .i64) s2.2 ((U s2.2) - 1)))) (gt (.int .i64) s2.2 ((U s2.2) - 1)) (r3 (Jn (gt (.int .i64) s2.2 ((U s2.2) - 1))) om) om om s3.1 fo1
 refine yv 1 117 (.i .i64 (gt (.int .i64) ((c254 (gt y242 a0.1 (Jn (gt (.int .i64) s2.2 ((U s2.2) - 1)))) (gt (.int .i64) s2.2 ((U s2.2) - 1))).1) s3.1)) (.i .i64 (J (Jn (gt (.int .i64) ((c254 (gt y242 a0.1 (Jn (gt (.int .i64) s2.2 ((U s2.2) - 1)))) (gt (.int .i64) s2.2 ((U s2.2) - 1))).1) s3.1)))) (toNat_av (show @LE.le Int _ 0 (gt (.int .i64) ((c254 (gt y242 a0.1 (Jn (gt (.int .i64) s2.2 ((U s2.2) - 1)))) (gt (.int .i64) s2.2 ((U s2.2) - 1))).1) s3.1) by omega)) ?_
 refine yie 0 1 (wd y346) (U a0.1) (U a0.1) true (Jn (gt (.int .i64) ((c254 (gt y242 a0.1 (Jn (gt (.int .i64) s2.2 ((U s2.2) - 1)))) (gt (.int .i64) s2.2 ((U s2.2) - 1))).1) s3.1)) fo1 ?_
 refine yl1 1 1 y346 s3.2.1 (Jn (gt (.int .i64) ((c254 (gt y242 a0.1 (Jn (gt (.int .i64) s2.2 ((U s2.2) - 1)))) (gt (.int .i64) s2.2 ((U s2.2) - 1))).1) s3.1)) 0 (.b (gt y346 s3.2.1 (Jn (gt (.int .i64) ((c254 (gt y242 a0.1 (Jn (gt (.int .i64) s2.2 ((U s2.2) - 1)))) (gt (.int .i64) s2.2 ((U s2.2) - 1))).1) s3.1))).1) (by have hl:U s3.2.1=_:=hl3;omega) ?_
 refine yg 1 121 true (gt y346 s3.2.1 (Jn (gt (.int .i64) ((c254 (gt y242 a0.1 (Jn (gt (.int .i64) s2.2 ((U s2.2) - 1)))) (gt (.int .i64) s2.2 ((U s2.2) - 1))).1) s3.1))).1 (!(cd (cd (gt y346 s3.2.1 (Jn (gt (.int .i64) ((c254 (gt y242 a0.1 (Jn (gt (.int .i64) s2.2 ((U s2.2) - 1)))) (gt (.int .i64) s2.2 ((U s2.2) - 1))).1) s3.1))).1 (c255 (gt y242 a0.1 (Jn (gt (.int .i64) s2.2 ((U s2.2) - 1)))) (gt y346 s3.2.1 (Jn (gt (.int .i64) s2.2 ((U s2.2) - 1)))) (gt (.int .i64) s2.2 ((U s2.2) - 1)) (gt (.int .i64) ((c254 (gt y242 a0.1 (Jn (gt (.int .i64) s2.2 ((U s2.2) - 1)))) (gt (.int .i64) s2.2 ((U s2.2) - 1))).1) s3.1)).1.1 (!(c255 (gt y242 a0.1 (Jn (gt (.int .i64) s2.2 ((U s2.2) - 1)))) (gt y346 s3.2.1 (Jn (gt (.int .i64) s2.2 ((U s2.2) - 1)))) (gt (.int .i64) s2.2 ((U s2.2) - 1)) (gt (.int .i64) ((c254 (gt y242 a0.1 (Jn (gt (.int .i64) s2.2 ((U s2.2) - 1)))) (gt (.int .i64) s2.2 ((U s2.2) - 1))).1) s3.1)).1.1)) (cd (iEq (gt y346 s3.2.1 (Jn (gt (.int .i64) ((c254 (gt y242 a0.1 (Jn (gt (.int .i64) s2.2 ((U s2.2) - 1)))) (gt (.int .i64) s2.2 ((U s2.2) - 1))).1) s3.1))).2.1 (c255 (gt y242 a0.1 (Jn (gt (.int .i64) s2.2 ((U s2.2) - 1)))) (gt y346 s3.2.1 (Jn (gt (.int .i64) s2.2 ((U s2.2) - 1)))) (gt (.int .i64) s2.2 ((U s2.2) - 1)) (gt (.int .i64) ((c254 (gt y242 a0.1 (Jn (gt (.int .i64) s2.2 ((U s2.2) - 1)))) (gt (.int .i64) s2.2 ((U s2.2) - 1))).1) s3.1)).1.2.1) (cd (iEq (gt y346 s3.2.1 (Jn (gt (.int .i64) ((c254 (gt y242 a0.1 (Jn (gt (.int .i64) s2.2 ((U s2.2) - 1)))) (gt (.int .i64) s2.2 ((U s2.2) - 1))).1) s3.1))).2.2.1 (c255 (gt y242 a0.1 (Jn (gt (.int .i64) s2.2 ((U s2.2) - 1)))) (gt y346 s3.2.1 (Jn (gt (.int .i64) s2.2 ((U s2.2) - 1)))) (gt (.int .i64) s2.2 ((U s2.2) - 1)) (gt (.int .i64) ((c254 (gt y242 a0.1 (Jn (gt (.int .i64) s2.2 ((U s2.2) - 1)))) (gt (.int .i64) s2.2 ((U s2.2) - 1))).1) s3.1)).1.2.2.1) (cd (iEq (gt y346 s3.2.1 (Jn (gt (.int .i64) ((c254 (gt y242 a0.1 (Jn (gt (.int .i64) s2.2 ((U s2.2) - 1)))) (gt (.int .i64) s2.2 ((U s2.2) - 1))).1) s3.1))).2.2.2.1 (c255 (gt y242 a0.1 (Jn (gt (.int .i64) s2.2 ((U s2.2) - 1)))) (gt y346 s3.2.1 (Jn (gt (.int .i64) s2.2 ((U s2.2) - 1)))) (gt (.int .i64) s2.2 ((U s2.2) - 1)) (gt (.int .i64) ((c254 (gt y242 a0.1 (Jn (gt (.int .i64) s2.2 ((U s2.2) - 1)))) (gt (.int .i64) s2.2 ((U s2.2) - 1))).1) s3.1)).1.2.2.2.1) (cd (iEq (gt y346 s3.2.1 (Jn (gt (.int .i64) ((c254 (gt y242 a0.1 (Jn (gt (.int .i64) s2.2 ((U s2.2) - 1)))) (gt (.int .i64) s2.2 ((U s2.2) - 1))).1) s3.1))).2.2.2.2 (c255 (gt y242 a0.1 (Jn (gt (.int .i64) s2.2 ((U s2.2) - 1)))) (gt y346 s3.2.1 (Jn (gt (.int .i64) s2.2 ((U s2.2) - 1)))) (gt (.int .i64) s2.2 ((U s2.2) - 1)) (gt (.int .i64) ((c254 (gt y242 a0.1 (Jn (gt (.int .i64) s2.2 ((U s2.2) - 1)))) (gt (.int .i64) s2.2 ((U s2.2) - 1))).1) s3.1)).1.2.2.2.2) true false) false) false) false) false)) (fun h25=>?_) ?_
 refine yi 3 (.int .i64) ((c254 (gt y242 a0.1 (Jn (gt (.int .i64) s2.2 ((U s2.2) - 1)))) (gt (.int .i64) s2.2 ((U s2.2) - 1))).1) s3.1 fo1 ?_
 have e26:=c254_r (gt y242 a0.1 (Jn (gt (.int .i64) s2.2 ((U s2.2) - 1)))) (gt (.int .i64) s2.2 ((U s2.2) - 1)) (r3 (Jn (gt (.int .i64) s2.2 ((U s2.2) - 1))) om) om om s3.1 fo1
 refine yv 1 126 (.i .i64 (gt (.int .i64) ((c254 (gt y242 a0.1 (Jn (gt (.int .i64) s2.2 ((U s2.2) - 1)))) (gt (.int .i64) s2.2 ((U s2.2) - 1))).1) s3.1)) (.i .i64 (J (Jn (gt (.int .i64) ((c254 (gt y242 a0.1 (Jn (gt (.int .i64) s2.2 ((U s2.2) - 1)))) (gt (.int .i64) s2.2 ((U s2.2) - 1))).1) s3.1)))) (toNat_av (show @LE.le Int _ 0 (gt (.int .i64) ((c254 (gt y242 a0.1 (Jn (gt (.int .i64) s2.2 ((U s2.2) - 1)))) (gt (.int .i64) s2.2 ((U s2.2) - 1))).1) s3.1) by omega)) ?_
 refine yie 0 1 (wd y346) (U a0.1) (U a0.1) true (Jn (gt (.int .i64) ((c254 (gt y242 a0.1 (Jn (gt (.int .i64) s2.2 ((U s2.2) - 1)))) (gt (.int .i64) s2.2 ((U s2.2) - 1))).1) s3.1)) fo1 ?_
 refine yln 0 1 y346 s3.2.1 (Jn (gt (.int .i64) ((c254 (gt y242 a0.1 (Jn (gt (.int .i64) s2.2 ((U s2.2) - 1)))) (gt (.int .i64) s2.2 ((U s2.2) - 1))).1) s3.1)) 0 5 [(.b (gt y346 s3.2.1 (Jn (gt (.int .i64) ((c254 (gt y242 a0.1 (Jn (gt (.int .i64) s2.2 ((U s2.2) - 1)))) (gt (.int .i64) s2.2 ((U s2.2) - 1))).1) s3.1))).1),(.i .i64 (gt y346 s3.2.1 (Jn (gt (.int .i64) ((c254 (gt y242 a0.1 (Jn (gt (.int .i64) s2.2 ((U s2.2) - 1)))) (gt (.int .i64) s2.2 ((U s2.2) - 1))).1) s3.1))).2.1),(.i .i64 (gt y346 s3.2.1 (Jn (gt (.int .i64) ((c254 (gt y242 a0.1 (Jn (gt (.int .i64) s2.2 ((U s2.2) - 1)))) (gt (.int .i64) s2.2 ((U s2.2) - 1))).1) s3.1))).2.2.1),(.i .i64 (gt y346 s3.2.1 (Jn (gt (.int .i64) ((c254 (gt y242 a0.1 (Jn (gt (.int .i64) s2.2 ((U s2.2) - 1)))) (gt (.int .i64) s2.2 ((U s2.2) - 1))).1) s3.1))).2.2.2.1),(.i .i64 (gt y346 s3.2.1 (Jn (gt (.int .i64) ((c254 (gt y242 a0.1 (Jn (gt (.int .i64) s2.2 ((U s2.2) - 1)))) (gt (.int .i64) s2.2 ((U s2.2) - 1))).1) s3.1))).2.2.2.2)] (by have hl:U s3.2.1=_:=hl3;omega) ?_
 exact ya
 exact ya
 refine yf ?_
 refine xc 1 (fun h27=>?_) fun h27=>?_
 refine xtC 6 ?_
 refine xtC 0 ?_
 exact xe 0
 refine xr 2 ?_
 have g28:@LT.lt Int _ (gt (.int .i64) ((c254 (gt y242 a0.1 (Jn (gt (.int .i64) s2.2 ((U s2.2) - 1)))) (gt (.int .i64) s2.2 ((U s2.2) - 1))).1) s3.1) (((U a0.1):Nat):Int):=ile_f (oF h27).1
 refine yi 3 (.int .i64) ((c254 (gt y242 a0.1 (Jn (gt (.int .i64) s2.2 ((U s2.2) - 1)))) (gt (.int .i64) s2.2 ((U s2.2) - 1))).1) s3.1 fo1 ?_
 have e29:=c254_r (gt y242 a0.1 (Jn (gt (.int .i64) s2.2 ((U s2.2) - 1)))) (gt (.int .i64) s2.2 ((U s2.2) - 1)) (r3 (Jn (gt (.int .i64) s2.2 ((U s2.2) - 1))) om) om om s3.1 fo1
 refine yv 1 137 (.i .i64 (gt (.int .i64) ((c254 (gt y242 a0.1 (Jn (gt (.int .i64) s2.2 ((U s2.2) - 1)))) (gt (.int .i64) s2.2 ((U s2.2) - 1))).1) s3.1)) (.i .i64 (J (Jn (gt (.int .i64) ((c254 (gt y242 a0.1 (Jn (gt (.int .i64) s2.2 ((U s2.2) - 1)))) (gt (.int .i64) s2.2 ((U s2.2) - 1))).1) s3.1)))) (toNat_av (show @LE.le Int _ 0 (gt (.int .i64) ((c254 (gt y242 a0.1 (Jn (gt (.int .i64) s2.2 ((U s2.2) - 1)))) (gt (.int .i64) s2.2 ((U s2.2) - 1))).1) s3.1) by omega)) ?_
 refine yie 0 1 (wd y346) (U a0.1) (U a0.1) true (Jn (gt (.int .i64) ((c254 (gt y242 a0.1 (Jn (gt (.int .i64) s2.2 ((U s2.2) - 1)))) (gt (.int .i64) s2.2 ((U s2.2) - 1))).1) s3.1)) fo1 ?_
 refine yl1 1 1 y346 s3.2.1 (Jn (gt (.int .i64) ((c254 (gt y242 a0.1 (Jn (gt (.int .i64) s2.2 ((U s2.2) - 1)))) (gt (.int .i64) s2.2 ((U s2.2) - 1))).1) s3.1)) 0 (.b (gt y346 s3.2.1 (Jn (gt (.int .i64) ((c254 (gt y242 a0.1 (Jn (gt (.int .i64) s2.2 ((U s2.2) - 1)))) (gt (.int .i64) s2.2 ((U s2.2) - 1))).1) s3.1))).1) (by have hl:U s3.2.1=_:=hl3;omega) ?_
 refine yf ?_
 refine xc 1 (fun h30=>?_) fun h30=>?_
 refine xw 1 ?_
 refine zdi 3 (.int .i64) ((c254 (gt y242 a0.1 (Jn (gt (.int .i64) s2.2 ((U s2.2) - 1)))) (gt (.int .i64) s2.2 ((U s2.2) - 1))).1) s3.1 fo1 ?_
 have e31:=c254_r (gt y242 a0.1 (Jn (gt (.int .i64) s2.2 ((U s2.2) - 1)))) (gt (.int .i64) s2.2 ((U s2.2) - 1)) (r3 (Jn (gt (.int .i64) s2.2 ((U s2.2) - 1))) om) om om s3.1 fo1
 refine zdw 2 146 (.i .i64 (gt (.int .i64) ((c254 (gt y242 a0.1 (Jn (gt (.int .i64) s2.2 ((U s2.2) - 1)))) (gt (.int .i64) s2.2 ((U s2.2) - 1))).1) s3.1)) (.i .i64 (J (Jn (gt (.int .i64) ((c254 (gt y242 a0.1 (Jn (gt (.int .i64) s2.2 ((U s2.2) - 1)))) (gt (.int .i64) s2.2 ((U s2.2) - 1))).1) s3.1)))) (toNat_av (show @LE.le Int _ 0 (gt (.int .i64) ((c254 (gt y242 a0.1 (Jn (gt (.int .i64) s2.2 ((U s2.2) - 1)))) (gt (.int .i64) s2.2 ((U s2.2) - 1))).1) s3.1) by omega)) ?_
 refine zde 0 1 (wd y346) (U a0.1) (U a0.1) true (Jn (gt (.int .i64) ((c254 (gt y242 a0.1 (Jn (gt (.int .i64) s2.2 ((U s2.2) - 1)))) (gt (.int .i64) s2.2 ((U s2.2) - 1))).1) s3.1)) fo1 ?_
 refine zds 0 1 229 y346 s3.2.1 (Jn (gt (.int .i64) ((c254 (gt y242 a0.1 (Jn (gt (.int .i64) s2.2 ((U s2.2) - 1)))) (gt (.int .i64) s2.2 ((U s2.2) - 1))).1) s3.1)) ((c255 (gt y242 a0.1 (Jn (gt (.int .i64) s2.2 ((U s2.2) - 1)))) (gt y346 s3.2.1 (Jn (gt (.int .i64) s2.2 ((U s2.2) - 1)))) (gt (.int .i64) s2.2 ((U s2.2) - 1)) (gt (.int .i64) ((c254 (gt y242 a0.1 (Jn (gt (.int .i64) s2.2 ((U s2.2) - 1)))) (gt (.int .i64) s2.2 ((U s2.2) - 1))).1) s3.1)).1) (by have hl:U s3.2.1=_:=hl3;omega) ?_
 refine zfd ?_
 refine xr 1 ?_
 refine yi 3 (.int .i64) ((c254 (gt y242 a0.1 (Jn (gt (.int .i64) s2.2 ((U s2.2) - 1)))) (gt (.int .i64) s2.2 ((U s2.2) - 1))).1) s3.1 fo1 ?_
 have e32:=c254_r (gt y242 a0.1 (Jn (gt (.int .i64) s2.2 ((U s2.2) - 1)))) (gt (.int .i64) s2.2 ((U s2.2) - 1)) (r3 (Jn (gt (.int .i64) s2.2 ((U s2.2) - 1))) om) om om s3.1 fo1
 refine zo 2 (zapn 0 9 2 8 6 (.int .i64) s3.2.2 (gt (.int .i64) ((c254 (gt y242 a0.1 (Jn (gt (.int .i64) s2.2 ((U s2.2) - 1)))) (gt (.int .i64) s2.2 ((U s2.2) - 1))).1) s3.1) fo4 (zf ?_))
 refine yf ?_
 refine xsv 3 11 (.i .i64 (wr .i64 ((J s3.1)+(J 1)))) (.i .i64 (J s3.1+1)) (wr_inc om) ?_
 have hk:=unk_set (fun(h:den y346)=>h.1) (x:=(c255 (gt y242 a0.1 (Jn (gt (.int .i64) s2.2 ((U s2.2) - 1)))) (gt y346 s3.2.1 (Jn (gt (.int .i64) s2.2 ((U s2.2) - 1)))) (gt (.int .i64) s2.2 ((U s2.2) - 1)) (gt (.int .i64) ((c254 (gt y242 a0.1 (Jn (gt (.int .i64) s2.2 ((U s2.2) - 1)))) (gt (.int .i64) s2.2 ((U s2.2) - 1))).1) s3.1)).1) (show(Jn (gt (.int .i64) ((c254 (gt y242 a0.1 (Jn (gt (.int .i64) s2.2 ((U s2.2) - 1)))) (gt (.int .i64) s2.2 ((U s2.2) - 1))).1) s3.1))<U s3.2.1 by have hl:U s3.2.1=_:=hl3;omega) (by simpa using h30) (c255_k _ _ _ _ hk3)
 have hz:U (s3.2.2++[(gt (.int .i64) ((c254 (gt y242 a0.1 (Jn (gt (.int .i64) s2.2 ((U s2.2) - 1)))) (gt (.int .i64) s2.2 ((U s2.2) - 1))).1) s3.1)])=U s3.2.2+1:=La ..
 exact xgC 0 9 (.sl (path 9) 0 (wd (.int .i64)) (U (s3.2.2++[(gt (.int .i64) ((c254 (gt y242 a0.1 (Jn (gt (.int .i64) s2.2 ((U s2.2) - 1)))) (gt (.int .i64) s2.2 ((U s2.2) - 1))).1) s3.1)])) (U (s3.2.2++[(gt (.int .i64) ((c254 (gt y242 a0.1 (Jn (gt (.int .i64) s2.2 ((U s2.2) - 1)))) (gt (.int .i64) s2.2 ((U s2.2) - 1))).1) s3.1)])) false) [false,false,false,false,true] ⟨⟨⟨⟨by dsimp only;omega,List.length_set.trans hl3⟩,by dsimp only;omega⟩,allw_push hw3 hl3 om om (c255_k _ _ _ _ hk3),by dsimp only;omega,gt_set (f:=(fun(h:den y346)=>h.1)) om hk3 (c255_k _ _ _ _ hk3)⟩,by dsimp only;omega⟩ (gN kr) ⟨bS bk1,bS bF,bS trivial,bS trivial,bS trivial,bS bk1,trivial⟩
 refine xsv 3 11 (.i .i64 (wr .i64 ((J s3.1)+(J 1)))) (.i .i64 (J s3.1+1)) (wr_inc om) ?_
 exact xgC 0 6 (.sl (path 6) 0 (wd (.int .i64)) (U s3.2.2) (U s3.2.2) false) [false,false,false,false,true] ⟨⟨⟨⟨by dsimp only;omega,hl3⟩,hd3⟩,hw3,hu3,hk3⟩,by dsimp only;omega⟩ (gN kr) ⟨bS bk1,bS bF,bS trivial,bS trivial,bS trivial,bS bk1,trivial⟩
 refine xbC 1 ?_
 have g19:=le_of_nle h18
 exact xgC 2 6 (.sl (path 6) 0 (wd (.int .i64)) (U s3.2.2) (U s3.2.2) false) [false,false,false,false,true] ⟨⟨⟨hl3,hu3⟩,hw3⟩,hd3⟩ (gN kr) ⟨bS bk1,bS bF,bS trivial,bS trivial,trivial⟩
 have g13:=le_of_nle h12
 refine xbC 1 ?_
 have b14:U a0.2≤Bn:=hbd.1.2.1
 refine xlc 7 5 (fun(s4:Bool×Nat)=>[(path 1,(.p (path 0) 0)),(path 2,(.v (.slice none 0 0))),(path 3,(.b s4.1)),(path 4,(.sl (path 1) 0 (wd y346) (U a0.1) (U a0.1) true)),(path 13,(.i .i64 (J s4.2)))]) (fun s4=>[some (.cs 27 [(.isl y242 a0.1),(.isl y261 a0.2)] false),some (.cs 229 (flatT y346 s2.1) false),none,some .dead,some (.cs 2 (flatT (.int .i64) s2.2) false)]) (fun s4=>s4.2) (U a0.2) om fun s4 (i4:s4.2≤(U a0.2))=>?_
 refine xc 4 (fun h15=>?_) fun h15=>?_
 refine xd 4 ?_
 have g16:=lt_of_nle h15
 have x17:s4.2<U a0.2:=fo1
 refine yi 4 y261 a0.2 s4.2 x17 ?_
 have e18:=r2 s4.2 x17
 refine yv 2 169 (.i .i64 (gt y261 a0.2 s4.2).2.2.1) (.i .i64 (J (Jn ((gt y261 a0.2 s4.2).2.2.1)))) (toNat_av (show @LE.le Int _ 0 ((gt y261 a0.2 s4.2).2.2.1) by omega)) ?_
 refine yie 0 1 (wd y346) (U a0.1) (U a0.1) true (Jn ((gt y261 a0.2 s4.2).2.2.1)) fo1 ?_
 refine yln 0 1 y346 s2.1 (Jn ((gt y261 a0.2 s4.2).2.2.1)) 0 5 [(.b (gt y346 s2.1 (Jn ((gt y261 a0.2 s4.2).2.2.1))).1),(.i .i64 (gt y346 s2.1 (Jn ((gt y261 a0.2 s4.2).2.2.1))).2.1),(.i .i64 (gt y346 s2.1 (Jn ((gt y261 a0.2 s4.2).2.2.1))).2.2.1),(.i .i64 (gt y346 s2.1 (Jn ((gt y261 a0.2 s4.2).2.2.1))).2.2.2.1),(.i .i64 (gt y346 s2.1 (Jn ((gt y261 a0.2 s4.2).2.2.1))).2.2.2.2)] (by have hl:U s2.1=_:=hl2;omega) ?_
 refine yf ?_
 refine xc 1 (fun h19=>?_) fun h19=>?_
 refine xt 5 ?_
 exact xe 0
 exact xgb 3 (gI om) (hN 4 s4.2 om) ⟨bk1,⟨bF,⟨bk1,⟨bk1,⟨bF,trivial⟩⟩⟩⟩⟩
 refine xb 1 ?_
 have g16:=le_of_nle h15
 refine xsv 3 4 (.sl (path 1) 0 (wd y346) (U a0.1) (U a0.1) true) (.sl (path 1) 0 (wd y346) (U s2.1) (U s2.1) true) (by rw[hl2]) ?_
 refine xgv 0 4 1 229 (U s2.1) true y346 s2.1 (by have hl:=hl2;omega) ?_
 exact xe 2
theorem p171 {a0:den y42} (h:0<U a0.1∧U a0.1≤100000∧(∀i,i<U a0.2→@LE.le Int _ 0 (gt y261 a0.2 i).2.2.1∧@LT.lt Int _ (gt y261 a0.2 i).2.2.1 ((U a0.1:Nat):Int))∧(∀i,i<U a0.1→(c250 (gt y242 a0.1 i).1).1=true→@LE.le Int _ 0 (gt y242 a0.1 i).2.1)):k171.F (a0,())=some (c171 a0):=if_pos h
theorem o171:OK Bn k171:=xOp fun x (hp:0<U x.1.1∧U x.1.1≤100000∧(∀i,i<U x.1.2→@LE.le Int _ 0 (gt y261 x.1.2 i).2.2.1∧@LT.lt Int _ (gt y261 x.1.2 i).2.2.1 ((U x.1.1:Nat):Int))∧(∀i,i<U x.1.1→(c250 (gt y242 x.1.1 i).1).1=true→@LE.le Int _ 0 (gt y242 x.1.1 i).2.1))=>t171 _ hp.1 hp.2.1 hp.2.2.1 hp.2.2.2
variable {Bn:Nat} [BOk Bn]
abbrev pHe:List Par:=[⟨false,.sl y346⟩,⟨false,.bool⟩]
def hei_:den (.sl y346):=[(true,J0,J0,J0,J0),(true,J0,J0,J0,J0),(true,J0,J0,J0,J0),(true,J0,J0,J0,J0),(true,J0,J1,J0,J0),(true,J1,J0,J0,J0),(true,J0,J1,J0,J0),(true,J0,J2,J0,J0),(true,J1,J1,J0,J0),(true,J0,J2,J0,J0),(true,J1,J2,J0,J0),(true,J1,J1,J0,J0),(true,J1,J2,J0,J0),(true,J2,J1,J0,J0),(true,J1,J1,J0,J0),(true,J1,J1,J0,J0),(true,J1,J0,J0,J0),(true,J0,J0,J0,J0),(true,J0,J0,J0,J0),(true,J0,J0,J0,J0),(true,J0,J0,J0,J0),(true,J0,J0,J0,J0),(true,J0,J0,J0,J0),(true,J0,J0,J0,J0),(true,J0,J0,J0,J0),(true,J0,J1,J0,J0),(true,J1,J0,J0,J0),(true,J0,J1,J0,J0),(true,J0,J2,J0,J0),(true,J1,J1,J0,J0),(true,J0,J2,J0,J0),(true,J1,J2,J0,J0),(true,J1,J1,J0,J0),(true,J1,J2,J0,J0),(true,J2,J1,J0,J0),(true,J1,J1,J0,J0),(true,J1,J1,J0,J0),(true,J1,J0,J0,J0),(true,J0,J0,J0,J0),(true,J1,J0,J0,J0),(true,J0,J1,J0,J0),(true,J1,J1,J0,J0),(true,J0,J2,J0,J0),(true,J1,J2,J0,J0),(true,J1,J1,J0,J0),(true,J1,J2,J0,J0),(true,J2,J1,J0,J0),(true,J1,J1,J0,J0),(true,J1,J1,J0,J0),(true,J1,J0,J0,J0),(true,J0,J0,J0,J0),(true,J0,J0,J0,J0),(true,J0,J0,J0,J0),(true,J0,J0,J0,J0),(true,J0,J0,J0,J0),(true,J0,J0,J0,J0),(true,J0,J1,J0,J0),(true,J1,J0,J0,J0),(true,J0,J1,J0,J0),(true,J0,J2,J0,J0),(true,J1,J1,J0,J0),(true,J0,J2,J0,J0),(true,J1,J2,J0,J0),(true,J1,J1,J0,J0),(true,J1,J2,J0,J0),(true,J2,J1,J0,J0),(true,J1,J1,J0,J0),(true,J1,J1,J0,J0),(true,J1,J0,J0,J0),(true,J0,J0,J0,J0),(true,J0,J0,J0,J0),(true,J0,J0,J0,J0),(true,J0,J0,J0,J0),(true,J0,J1,J0,J0),(true,J1,J0,J0,J0),(true,J0,J1,J0,J0),(true,J0,J0,J0,J0),(true,J0,J0,J0,J0),(true,J0,J1,J0,J0),(true,J1,J0,J0,J0),(true,J0,J1,J0,J0),(true,J0,J2,J0,J0),(true,J1,J1,J0,J0),(true,J0,J2,J0,J0),(true,J1,J2,J0,J0),(true,J1,J1,J0,J0),(true,J1,J2,J0,J0),(true,J2,J1,J0,J0),(true,J1,J1,J0,J0),(true,J1,J1,J0,J0),(true,J1,J0,J0,J0),(true,J0,J0,J0,J0),(true,J0,J0,J0,J0),(true,J0,J1,J0,J0),(true,J1,J0,J0,J0),(true,J0,J1,J0,J0),(true,J0,J0,J0,J0),(true,J0,J0,J0,J0),(true,J0,J0,J0,J0),(true,J0,J0,J0,J0),(true,J0,J1,J0,J0),(true,J1,J0,J0,J0),(true,J0,J1,J0,J0),(true,J1,J1,J0,J0),(true,J0,J0,J0,J0),(true,J0,J0,J0,J0),(true,J0,J1,J0,J0),(true,J1,J0,J0,J0),(true,J0,J1,J0,J0),(true,J1,J1,J0,J0),(true,J1,J1,J0,J0),(true,J1,J0,J0,J0),(true,J0,J0,J0,J0),(true,J0,J0,J0,J0),(true,J0,J0,J0,J0),(true,J0,J0,J0,J0),(true,J0,J1,J0,J0),(true,J1,J0,J0,J0),(true,J0,J1,J0,J0),(true,J0,J0,J0,J0),(true,J0,J0,J0,J0),(true,J1,J0,J0,J0),(true,J0,J0,J0,J0),(true,J0,J0,J0,J0),(true,J0,J1,J0,J0),(true,J1,J0,J0,J0),(true,J0,J1,J0,J0),(true,J0,J0,J0,J0),(true,J0,J0,J0,J0),(true,J0,J1,J0,J0),(true,J1,J0,J0,J0),(true,J0,J1,J0,J0),(true,J0,J2,J0,J0),(true,J1,J1,J0,J0),(true,J1,J1,J0,J0),(true,J1,J0,J0,J0),(true,J0,J0,J0,J0),(true,J0,J0,J0,J0),(true,J0,J0,J0,J0),(true,J0,J0,J0,J0),(true,J0,J0,J0,J0),(true,J0,J0,J0,J0),(true,J0,J1,J0,J0),(true,J1,J1,J0,J0),(true,J1,J1,J0,J0),(true,J1,J0,J0,J0),(true,J0,J0,J0,J0),(true,J0,J1,J0,J0),(true,J1,J1,J0,J0),(true,J1,J1,J0,J0),(true,J1,J0,J0,J0),(true,J0,J0,J0,J0),(true,J0,J0,J0,J0),(true,J0,J0,J0,J1),(true,J0,J0,J0,J1),(true,J0,J0,J0,J1),(true,J0,J0,J0,J1),(true,J0,J0,J0,J1),(true,J0,J1,J0,J1),(true,J0,J2,J0,J1),(true,J1,J1,J0,J1),(true,J0,J2,J0,J1),(true,J1,J1,J0,J1),(true,J1,J1,J0,J1),(true,J1,J0,J0,J1),(true,J0,J0,J0,J1),(true,J0,J0,J0,J1),(true,J0,J1,J0,J1),(true,J1,J0,J0,J1),(true,J2,J0,J0,J1),(true,J1,J0,J0,J1),(true,J0,J0,J0,J1),(true,J0,J0,J0,J1),(true,J0,J0,J0,J1),(true,J0,J1,J0,J1),(true,J0,J2,J0,J1),(true,J1,J1,J0,J1),(true,J1,J2,J0,J1),(true,J2,J1,J0,J1),(true,J1,J2,J0,J1),(true,J2,J1,J0,J1),(true,J1,J1,J0,J1),(true,J1,J1,J0,J1),(true,J1,J0,J0,J1),(true,J0,J0,J0,J1),(true,J0,J0,J0,J0),(true,J0,J0,J0,J0),(true,J0,J1,J0,J0),(true,J1,J0,J0,J0),(true,J0,J0,J0,J0),(true,J1,J0,J0,J0),(true,J0,J0,J0,J0),(true,J0,J0,J0,J0),(true,J0,J0,J0,J0),(true,J0,J0,J0,J0),(true,J0,J1,J0,J0),(true,J0,J1,J0,J0),(true,J1,J1,J0,J0),(true,J1,J1,J0,J0),(true,J1,J0,J0,J0),(true,J0,J0,J0,J0),(true,J0,J0,J0,J0),(true,J0,J1,J0,J0),(true,J1,J0,J0,J0),(true,J0,J1,J0,J0),(true,J0,J2,J0,J0),(true,J1,J1,J0,J0),(true,J1,J1,J0,J0),(true,J1,J0,J0,J0),(true,J0,J0,J0,J0),(true,J0,J0,J0,J0),(true,J0,J1,J0,J0),(true,J1,J0,J0,J0),(true,J0,J0,J0,J0),(true,J0,J0,J0,J0),(true,J0,J0,J0,J0),(true,J0,J0,J0,J0),(true,J0,J0,J0,J1),(true,J1,J0,J0,J1),(true,J2,J0,J0,J1),(true,J3,J0,J0,J1),(true,J0,J0,J0,J1),(true,J0,J0,J0,J1),(true,J0,J0,J0,J1),(true,J0,J0,J0,J1),(true,J0,J0,J0,J1),(true,J0,J0,J0,J1),(true,J0,J0,J0,J0),(true,J0,J0,J0,J1),(true,J0,J0,J0,J1),(true,J0,J0,J0,J1),(true,J0,J0,J0,J1),(true,J0,J1,J0,J1),(true,J1,J0,J0,J1),(true,J0,J1,J0,J1),(true,J0,J2,J0,J1),(true,J1,J1,J0,J1),(true,J0,J2,J0,J1),(true,J1,J2,J0,J1),(true,J1,J1,J0,J1),(true,J1,J2,J0,J1),(true,J2,J1,J0,J1),(true,J1,J1,J0,J1),(true,J1,J1,J0,J1),(true,J1,J0,J0,J1),(true,J0,J0,J0,J1),(true,J0,J0,J0,J1),(true,J0,J0,J0,J1),(true,J0,J0,J0,J0),(true,J0,J0,J0,J0),(true,J0,J0,J0,J0),(true,J0,J0,J0,J0),(true,J0,J0,J0,J0),(true,J0,J0,J0,J0),(true,J0,J1,J0,J0),(true,J1,J0,J0,J0),(true,J0,J1,J0,J0),(true,J1,J1,J0,J0),(true,J1,J1,J0,J0),(true,J1,J0,J0,J0),(true,J0,J0,J0,J0),(true,J0,J0,J0,J0),(true,J0,J0,J0,J0),(true,J0,J0,J0,J0),(true,J0,J1,J0,J0),(true,J1,J0,J0,J0),(true,J0,J1,J0,J0),(true,J1,J0,J0,J0),(true,J0,J0,J0,J0),(true,J0,J0,J0,J0),(true,J0,J0,J0,J0),(true,J0,J0,J0,J0),(true,J0,J1,J0,J0),(true,J1,J0,J0,J0),(true,J0,J1,J0,J0),(true,J0,J2,J0,J0),(true,J1,J1,J0,J0),(true,J1,J1,J0,J0),(true,J1,J0,J0,J0),(true,J0,J0,J0,J0),(true,J0,J1,J0,J0),(true,J1,J1,J0,J0),(true,J2,J1,J0,J0),(true,J1,J1,J0,J0),(true,J1,J1,J0,J0),(true,J1,J0,J0,J0),(true,J0,J0,J0,J0),(true,J0,J0,J0,J0),(true,J0,J0,J0,J0),(true,J0,J0,J0,J0),(true,J0,J0,J0,J0),(true,J0,J0,J0,J0),(true,J0,J1,J0,J0),(true,J1,J0,J0,J0),(true,J0,J1,J0,J0),(true,J0,J2,J0,J0),(true,J1,J1,J0,J0),(true,J1,J1,J0,J0),(true,J1,J0,J0,J0),(true,J0,J0,J0,J0),(true,J0,J0,J0,J0),(true,J0,J0,J0,J0),(true,J0,J0,J0,J0),(true,J0,J1,J0,J0),(true,J1,J0,J0,J0),(true,J0,J1,J0,J0),(true,J0,J2,J0,J0),(true,J1,J1,J0,J0),(true,J1,J1,J0,J0),(true,J1,J0,J0,J0),(true,J0,J0,J0,J0),(true,J0,J0,J0,J0),(true,J0,J0,J0,J0),(true,J0,J0,J0,J0),(true,J0,J1,J0,J0),(true,J0,J0,J0,J0),(true,J0,J0,J0,J0),(true,J0,J0,J0,J0),(true,J0,J0,J0,J0),(true,J0,J0,J0,J0),(true,J0,J0,J0,J0),(true,J0,J0,J0,J0),(true,J0,J0,J0,J0),(true,J0,J1,J0,J0),(true,J0,J2,J0,J0),(true,J1,J1,J0,J0),(true,J0,J2,J0,J0),(true,J1,J2,J0,J0),(true,J1,J1,J0,J0),(true,J1,J1,J0,J0),(true,J1,J0,J0,J0),(true,J0,J0,J0,J0),(true,J0,J0,J0,J0),(true,J1,J0,J0,J0),(true,J0,J0,J0,J0),(true,J0,J0,J0,J0),(true,J0,J1,J0,J0),(true,J1,J0,J0,J0),(true,J0,J1,J0,J0),(true,J0,J2,J0,J0),(true,J1,J1,J0,J0),(true,J1,J2,J0,J0),(true,J2,J1,J0,J0),(true,J1,J1,J0,J0),(true,J1,J1,J0,J0),(true,J1,J0,J0,J0),(true,J0,J0,J0,J0),(true,J0,J0,J0,J0),(true,J0,J0,J0,J0),(true,J0,J0,J0,J0),(false,J0,J0,J0,J0)]
theorem v171:eqDL pHe (c171 prg_) (hei_,true,())=true:=kr
variable {Bn:Nat} [BOk Bn]
abbrev pHf:List Par:=[⟨false,.sl y228⟩,⟨false,.bool⟩]
theorem v106:eqDL pHf (c106 prg_) (hei_,true,())=true:=kr
theorem prg_l:U prg_.1=351:=kr
theorem q106:KOk PP (GG Bn) 106 [⟨true,y26⟩] pHf (prg_,()) (hei_,true,()):=by
 rw[←eqDL_eq pHf _ _ v106]
 exact(o106 (Bn:=Bn)).2 (prg_,()) (c106 prg_) (p106 ⟨by rw[prg_l];decide,by rw[prg_l];decide⟩)
theorem rows_1 {f:Nat}{ps rs:List Par}{x:denL ps}{y:denL rs} (h:KOk PP (GG Bn) f ps rs x y):RowsOk Bn f ps rs [(x,y)]:=fun q hq=>by rw[List.mem_singleton.1 hq];exact h
def K106:Con:=tabC 106 [⟨true,y26⟩] pHf [((prg_,()),(hei_,true,()))]
theorem O106:OK Bn K106:=rows_con (rows_1 q106)
variable {Bn:Nat} [BOk Bn]
abbrev pIn:List Par:=[⟨true,y242⟩]
abbrev pBo:List Par:=[⟨false,.bool⟩]
def tI0_:List (denL pIn×denL pBo):=[(((J1,J0,J0,[]),()),(true,())),(((J33,J1,J0,[]),()),(true,())),(((J11,J0,J0,[65]),()),(true,())),(((J15,J0,J0,[]),()),(true,())),(((J12,J1,J0,[67]),()),(true,())),(((J2,J0,J0,[]),()),(true,())),(((J16,J0,J0,[]),()),(true,())),(((J11,J0,J0,[78]),()),(true,())),(((J5,J0,J0,[43]),()),(true,())),(((J20,J0,J0,[]),()),(true,())),(((J21,J1,J0,[]),()),(true,())),(((J3,J0,J0,[]),()),(true,())),(((J33,J2,J0,[]),()),(true,())),(((J40,J0,J0,[]),()),(true,())),(((J5,J0,J0,[45]),()),(true,())),(((J2,J0,J0,[57]),()),(true,())),(((J29,J1,J0,[]),()),(true,())),(((J29,J2,J0,[]),()),(true,())),(((J2,J0,J0,[49]),()),(true,())),(((J29,J1,J1,[]),()),(true,())),(((J12,J1,J0,[82]),()),(true,())),(((J8,J0,J0,[84]),()),(true,())),(((J31,J0,J0,[]),()),(true,())),(((J12,J1,J0,[66]),()),(true,())),(((J30,J0,J0,[]),()),(true,())),(((J11,J0,J0,[75]),()),(true,())),(((J11,J0,J0,[84]),()),(true,())),(((J2,J0,J0,[48]),()),(true,())),(((J45,J 185,J0,[]),()),(true,()))]
theorem r169_0:runAll Bn [] EX 60 256 pIn pBo tI0_=true:=kr
def tI1_:List (denL pIn×denL pBo):=[(((J48,J 156,J0,[]),()),(true,())),(((J9,J 153,J0,[]),()),(true,())),(((J18,J0,J0,[]),()),(true,())),(((J5,J0,J0,[61]),()),(true,())),(((J10,J 172,J0,[]),()),(true,())),(((J52,J0,J0,[]),()),(true,())),(((J51,J0,J0,[]),()),(true,())),(((J26,J0,J0,[]),()),(true,())),(((J2,J0,J0,[10]),()),(true,())),(((J11,J0,J0,[88]),()),(true,())),(((J27,J0,J0,[]),()),(true,())),(((J28,J0,J0,[]),()),(true,())),(((J12,J1,J0,[73]),()),(true,())),(((J45,J 248,J0,[73]),()),(true,())),(((J2,J0,J0,[51]),()),(true,())),(((J46,J3,J0,[]),()),(true,())),(((J47,J 226,J0,[]),()),(true,())),(((J48,J 228,J0,[]),()),(true,())),(((J49,J0,J0,[]),()),(true,())),(((J9,J 221,J0,[]),()),(true,())),(((J50,J0,J0,[]),()),(true,())),(((J9,J 248,J0,[]),()),(true,())),(((J2,J0,J0,[55]),()),(true,())),(((J33,J3,J0,[]),()),(true,())),(((J17,J0,J0,[]),()),(true,())),(((J5,J0,J0,[47]),()),(true,())),(((J12,J0,J0,[82]),()),(true,())),(((J22,J0,J0,[]),()),(true,()))]
theorem r169_1:runAll Bn [] EX 60 256 pIn pBo tI1_=true:=kr
def k169:Con:=tabC 256 pIn pBo (tI0_++tI1_)
theorem o169:OK Bn k169:=rows_con (rows_app (rows_run ok0 r169_0) (rows_run ok0 r169_1))
variable {Bn:Nat} [BOk Bn]
def K103:Con:=tabC 103 pIn pBo (tI0_++tI1_)
def K104:Con:=tabC 104 pPr pBo [((prg_,()),(true,()))]
def K52:Con:=tabC 52 pPr pHf [((prg_,()),(hei_,true,()))]
variable {Bn:Nat} [BOk Bn]
def K294:Con:=tabC 294 [⟨false,.sl .str⟩] pBo [(([[65],[78]],()),(true,()))]
theorem r104:runAll Bn [K294] EX 60 104 pPr pBo [((prg_,()),(true,()))]=true:=kr
end Go.Ev
end
noncomputable section
namespace Go.Ev
open Go.Proofs Go.RowKit
def nmB (b:Bool):List Nat:=cond b [78] [65]
abbrev vsN:List Value:=([[65],[78]]:List (den .str)).flatMap (fvT .str)
theorem vals_stops (Bb Bo:Nat) (w0:World) (hk:KcE w0 vsN 2 Bb Bo w0):SeqStopsK Fence.wide 4 PP 535 #[.pointer (some ⟨Bb,Bo,none⟩)] (fun b:Bool=>#[.string (strOf (nmB b))]) (fun A B=>KcE w0 vsN 2 Bb Bo A→KcE w0 vsN 2 Bb Bo B) (fun xs=>xs=[false,true]) (fun _=>True) 2 w0:=by
 intro l Jw Jx W hW _ _ hY h0
 have kp:∀a v,w0.cell? a=some v→W.cell? a=some v:=fun a v hv=>by
  obtain⟨o,ho,_⟩:=Go.cells_of_cell hv
  exact(hW.cell (Array.getElem?_eq_some_iff.1 ho).1).trans hv
 have hKW:=hk.keep kp
 obtain⟨⟨b,off,cap,h1,h2⟩,h3⟩:=hk
 refine(vals_in (fun b=>strOf (nmB b)) (fun j=>j==1) Fence.wide 4 trivial rfl om l Bb Bo b off 2 cap om (KcE w0 vsN 2 Bb Bo) ?_ Jw Jx hY W (kp _ _ h1) hKW h0).mono ?_
 ·rintro W' ⟨⟨b',off',cap',g1,g2⟩,_⟩ j hj
  rw[h1] at g1
  injection g1 with g1;injection g1 with g1;injection g1 with g1;injection g1 with g3 g4
  subst g3 g4
  match j,hj with
  |0,_=>exact g2 0 _ rfl
  |1,_=>exact g2 1 _ rfl
 ·rintro e W' ⟨hv,⟨ys,rfl,hj⟩|⟨pre,_,hj⟩⟩
  ·exact⟨hv,.inl ⟨_,rfl,hj⟩⟩
  ·exact⟨hv,.inr ⟨pre,trivial,hj⟩⟩
variable {Bn:Nat} [BOk Bn]
noncomputable def b647:Code:=Option.getD Tryz.f647.body .skip
def fstD (c:Code):Code:=match c with
 |.seq x _=>x
 |_=>.skip
def blkD (c:Code):Code:=match c with
 |.block _ x=>x
 |_=>.skip
def rfBody (c:Code):Code:=match c with
 |.rangeFunc _ _ _ x=>x
 |_=>.skip
def rfAsg (c:Code):Code:=match c with
 |.rangeFunc _ _ x _=>x
 |_=>.skip
def r647:Code:=blkD (sndC (fstD (sndC b647)))
def bxN:AV:=.p (path 0) 0
def clN:AV:=.f (.func 535) [] [bxN]
def NL:AV:=.isl .str [[65],[78]]
def HN:H:=hpH 1 [some (.cs 54 [NL] false)]
def a647:List AV:=[nilS,clN]
def svA:List Bool→AV
 |[]=>nilS
 |[_]=>.sl (path 2) 0 1 1 1 false
 |_=>.sl (path 2) 0 1 2 2 false
def hsA (pre:List Bool):List (Option Blk):=some (.cs 54 [NL] false)::some (.cs 54 [svA pre] false)::(match pre with
 |[]=>[]
 |_=>[some (.cs 9 (pre.map fun b=>.s 1 (nmB b)) false)])
def frA0:List (List Bool×AV):=[(path 0,nilS),(path 1,clN),(path 2,.p (path 1) 0),(path 6,clN)]
def frA (b:Bool):T AV:=T.set (path 5) (.s 1 (nmB b)) (T.set (path 7) (.s 1 (nmB b)) (mkFr frA0))
def bd647:Code:=blkD (rfBody r647)
def opsR (c:Code):Array Oper:=match c with
 |.region _ ops _=>ops
 |_=>#[]
theorem bodyA {pre:List Bool}{x:Bool}{Q:Ex→T AV→H→Prop} (hok:isOkF (evOps (EV Bn 60) (hsA pre).length (regL PP (GG Bn) 13 (opsR bd647)) (frA x) ⟨Nat.add (hsA pre).length (regN PP (GG Bn) 13 (opsR bd647)),(hpH (hsA pre).length (hsA pre)).t⟩)=true)
 (hq:∀fr,Q .normal fr (hOf (evOps (EV Bn 60) (hsA pre).length (regL PP (GG Bn) 13 (opsR bd647)) (frA x) ⟨Nat.add (hsA pre).length (regN PP (GG Bn) 13 (opsR bd647)),(hpH (hsA pre).length (hsA pre)).t⟩))):
 SatR PP (GG Bn) 13 (rfBody r647) (frA x) (hpH (hsA pre).length (hsA pre)) Q:=by
 have e:rfBody r647=.block 1 (.region 3 (opsR bd647) false):=kr
 rw[e]
 refine SatR.block (SatR.reg (call:=EV Bn 60) (EV_ok 60) kr ?_)
 exact RunOps.fin hok (hq _)
theorem fitA {pre:List Bool}{C:List (Option Blk)} (q:List Id) {fr:T AV}{h:H} (e:hsA pre=C) (hlen:C.length=2+q.length) (hcs:csL C=true) (hbo:blksOk C.length C) (hq:eqRen h (from1 2 q) C 0)
 (hinj:∀i j,i<C.length→j<C.length→from1 2 q (path i)=from1 2 q (path j)→i=j):EndC (hsA []).length [] (hsA pre) fr h:=by
 rw[e];exact EndC_fit q hlen hcs hbo hq hinj
theorem inj3 {x:Id} (h0x:x≠path 0) (h1x:x≠path 1):∀i j,i<3→j<3→from1 2 [x] (path i)=from1 2 [x] (path j)→i=j:=by
 intro i j hi hj he
 have h0:from1 2 [x] (path 0)=path 0:=kr
 have h1:from1 2 [x] (path 1)=path 1:=kr
 have h2:from1 2 [x] (path 2)=x:=kr
 match i,j,hi,hj with
 |0,0,_,_=>rfl
 |1,1,_,_=>rfl
 |2,2,_,_=>rfl
 |0,1,_,_=>rw[h0,h1] at he;exact absurd (path_inj he) om
 |1,0,_,_=>rw[h0,h1] at he;exact absurd (path_inj he) om
 |0,2,_,_=>rw[h0,h2] at he;exact absurd he.symm h0x
 |2,0,_,_=>rw[h0,h2] at he;exact absurd he h0x
 |1,2,_,_=>rw[h1,h2] at he;exact absurd he.symm h1x
 |2,1,_,_=>rw[h1,h2] at he;exact absurd he h1x
theorem bodyAll (pre:List Bool) (x:Bool) (hp:pre.length<2):SatR PP (GG Bn) 13 (rfBody r647) (frA x) (hpH (hsA pre).length (hsA pre)) (fun ex fr' h'=>ex=.normal∧EndC (hsA []).length [] (hsA (pre++[x])) fr' h'):=by
 have u2:unpath (path 2)<3:=by rw[unpath_path];omega
 match pre,x,hp with
 |[],x,_=>
  refine bodyA (by cases x<;>kernel_rfl) (fun fr=>⟨rfl,?_⟩)
  refine fitA [path 3] rfl rfl rfl ?_ ?_ (inj3 (fun h=>absurd (path_inj h) om) (fun h=>absurd (path_inj h) om))
  ·exact⟨⟨trivial,trivial⟩,⟨u2,trivial⟩,⟨trivial,trivial⟩,trivial⟩
  ·cases x<;>exact⟨kr,kr,kr,trivial⟩
 |[y],x,_=>
  refine bodyA (by cases x<;>cases y<;>kernel_rfl) (fun fr=>⟨rfl,?_⟩)
  refine fitA [path 4] rfl rfl rfl ?_ ?_ (inj3 (fun h=>absurd (path_inj h) om) (fun h=>absurd (path_inj h) om))
  ·exact⟨⟨trivial,trivial⟩,⟨u2,trivial⟩,⟨trivial,trivial,trivial⟩,trivial⟩
  ·cases x<;>cases y<;>exact⟨kr,kr,kr,trivial⟩
theorem zip1 {k:Nat}{v:Value}{T:Array Value}:(#[k].zip #[v]).foldl (fun t (p,v)=>t.setIfInBounds p v) T=T.setIfInBounds k v:=by simp
theorem at647:At Bn 647 HN a647 (.sl (path 2) 0 1 2 2 false) (hpH 3 (hsA [false,true])):=by
 refine At.bodyM Tryz.func647 (b:=b647) kr kr kr ?_
 refine SatM.seqL (sV kr ⟨rfl,?_⟩)
 refine SatM.seqR (SatM.seqL (sV kr ⟨rfl,?_⟩))
 refine SatM.block ?_
 refine SatM.keepL frA0 ⟨kr,kr,kr,kr,trivial⟩ ?_
 refine SatM.heap (hsA []) kr kr ?_
 refine SatM.range (bx:=bxN) (gf:=535) False (BOk.lo (B:=Bn)) hsA (fun b:Bool=>#[.string (strOf (nmB b))]) 2 [false,true] vsN 2 frA kr (enters_of Tryz.func535 kr rfl) vals_stops (fun x=>rfl) ?_ (fun h=>h.elim) (fun pre _=>bx_p (box:=path 0) (t:=.str) (ys:=[[65],[78]]) (el:=54) (el1:=54) (fz:=false) (fz1:=false) rfl (by simp) (by rw[unpath_path];rfl) (by rw[unpath_path];cases pre<;>rfl)) ?_ ?_ (by simp) ?_
 ·intro pre hp
  match pre,hp with
  |[],_=>rfl
  |[x],_=>rfl
  |[x,y],_=>rfl
 ·intro e a hs he hf hsz
  have hn:Tryz.f647.ntmps=13:=kr
  rw[hn] at hsz⊢
  refine⟨fun x a' _=>a'={tmps:=(a.tmps.setIfInBounds 7 (.string (strOf (nmB x)))).setIfInBounds 5 (.string (strOf (nmB x))),defers:=[]},fun x a' _ _ _ _ h _ _=>h,fun l m x W K _ hK=>?_,fun e1 x a' hs1 hx _ h=>?_⟩
  ·rw[zip1]
   refine assign_in ?_
   refine hK _ _ (Below.refl _ _) ?_
   have:(a.tmps.setIfInBounds 7 (.string (strOf (nmB x))))[7]?.getD undef=.string (strOf (nmB x)):=by rw[Array.getElem?_setIfInBounds_self_of_lt om];rfl
   show({tmps:=(a.tmps.setIfInBounds 7 (.string (strOf (nmB x)))).setIfInBounds 5 ((a.tmps.setIfInBounds 7 (.string (strOf (nmB x))))[7]?.getD undef),defers:=[]}:Act)=_
   rw[this]
  ·subst h
   have hr:Rel e1 (.s 1 (nmB x)) (.string (strOf (nmB x))):=by
    simp only[Rel,and_true]
    cases x<;>simp[nmB]
   exact⟨((hf.ext' hx).set om hr).set (by simp;omega) hr,by simp;omega⟩
 ·exact bodyAll
 ·refine⟨rfl,rfl,?_⟩
  refine sE kr ⟨.inr rfl,kr,kr⟩
noncomputable def b533:Code:=Option.getD Tryz.f533.body .skip
def g533 (Bn:Nat) (fr:T AV) (hh h2:H) (ops:Array Oper) (v:AV) (call:CallF):FR:=
 evOps call hh.next ((regL PP (GG Bn) 5 ops).drop (1+1)) (setD (opA (regL PP (GG Bn) 5 ops) 1).dst v (stF call hh.next (regL PP (GG Bn) 5 ops) fr ⟨Nat.add hh.next (regN PP (GG Bn) 5 ops),hh.t⟩ 1)) h2
theorem atReg533 {rid:Nat}{ops:Array Oper}{fr:T AV}{hh h h2:H}{Q:Ex→T AV→H→Prop}{f:Nat}{args:List AV}{v:AV} (ha:At Bn f h args v h2)
 (hpre:cd (stOk (callAt f h args v h2) hh.next (regL PP (GG Bn) 5 ops) fr ⟨Nat.add hh.next (regN PP (GG Bn) 5 ops),hh.t⟩ 1) (cd (Nat.blt 1 (regL PP (GG Bn) 5 ops).length)
  (cd (isT (wanted (opA (regL PP (GG Bn) 5 ops) 1).g (stF (callAt f h args v h2) hh.next (regL PP (GG Bn) 5 ops) fr ⟨Nat.add hh.next (regN PP (GG Bn) 5 ops),hh.t⟩ 1))) true false) false) false=true)
 (hv:(viewC (opA (regL PP (GG Bn) 5 ops) 1) (stF (callAt f h args v h2) hh.next (regL PP (GG Bn) 5 ops) fr ⟨Nat.add hh.next (regN PP (GG Bn) 5 ops),hh.t⟩ 1),stH (callAt f h args v h2) hh.next (regL PP (GG Bn) 5 ops) fr ⟨Nat.add hh.next (regN PP (GG Bn) 5 ops),hh.t⟩ 1)=(some (f,args),h))
 (hr:isOkF (g533 Bn fr hh h2 ops v (callAt f h args v h2))=true)
 (hq:Q .normal (frOf (g533 Bn fr hh h2 ops v (callAt f h args v h2))) (hOf (g533 Bn fr hh h2 ops v (callAt f h args v h2)))):S Bn 5 (.region rid ops false) fr hh Q:=
 atReg 1 ha hpre hv (isOkF_eq' hr) hq
def HE:H:=hpH 3 (hsA [false,true])
def sN:AV:=.sl (path 2) 0 1 2 2 false
theorem at533:At Bn 533 HN [clN] sN HE:=by
 refine At.bodyG Tryz.func533 rfl (b:=b533) kr ?_
 refine sR kr ?_
 refine Sat.seq ?_
 refine atReg533 at647 kr kr kr ?_
 refine sE kr ⟨.inr rfl,kr,kr⟩
end Go.Ev
end
noncomputable section
namespace Go.Ev
open Go.Proofs
variable {Bn:Nat} [BOk Bn]
theorem r103_0:runAll Bn [] EX 60 103 pIn pBo tI0_=true:=kr
variable {Bn:Nat} [BOk Bn]
theorem r103_1:runAll Bn [] EX 60 103 pIn pBo tI1_=true:=kr
variable {Bn:Nat} [BOk Bn]
theorem r52:runAll Bn [K103,K104,K106] EX 60 52 pPr pHf [((prg_,()),(hei_,true,()))]=true:=kr
theorem r46:runAll Bn [K52] EX 60 46 pPr pBo [((prg_,()),(true,()))]=true:=kr
variable {Bn:Nat} [BOk Bn]
theorem O103:OK Bn K103:=rows_con (rows_app (rows_run ok0 r103_0) (rows_run ok0 r103_1))
theorem O104 (h:OK Bn K294):OK Bn K104:=rows_con (rows_run (okC h ok0) r104)
theorem O52 (h:OK Bn K294):OK Bn K52:=rows_con (rows_run (okC O103 (okC (O104 h) (okC O106 ok0))) r52)
theorem okLc (h:OK Bn K294):Okl Bn Lc:=okC (rows_con (rows_run (okC (O52 h) ok0) r46)) ok0
end Go.Ev
end
noncomputable section
namespace Go.Ev
open Go.Proofs Go.RowKit
variable {Bn:Nat} [BOk Bn]
def callOr (f0:Nat) (c1 c2:CallF):CallF:=fun f args h=>cd (Nat.beq f f0) (c1 f args h) (c2 f args h)
theorem callOr_ok {f0:Nat}{c1 c2:CallF} (h1:CallOK PP (GG Bn) c1) (h2:CallOK PP (GG Bn) c2):CallOK PP (GG Bn) (callOr f0 c1 c2):=by
 intro f args r h' e vs hr hs hg hrel
 have hr:cd (Nat.beq f f0) (c1 f args e.h) (c2 f args e.h)=.ok r h':=hr
 cases hb:Nat.beq f f0 with
 |true=>rw[hb] at hr;exact h1 f args r h' e vs hr hs hg hrel
 |false=>rw[hb] at hr;exact h2 f args r h' e vs hr hs hg hrel
theorem callOr_at {f:Nat}{h h' h2:H}{args:List AV}{v:AV}{c2:CallF} (hs:h'=h):callOr f (callAt f h args v h2) c2 f args h'=.ok v h2:=by
 subst hs
 show cd (Nat.beq f f) (callAt f h' args v h2 f args h') _=_
 rw[Nat.beq_refl];exact callAt_eq
noncomputable def b414:Code:=Option.getD Tryz.f414.body .skip
noncomputable def b294:Code:=Option.getD Tryz.f294.body .skip
def z414 (Bn:Nat):CR:=cZ Bn (EV Bn 60) 9 (sndC (sndC b414)) (T.set (path 3) sN (mkFr [])) HE
def H414 (Bn:Nat):H:=hZ (z414 Bn)
theorem at414:At Bn 414 HN [clN] sN (H414 Bn):=by
 refine At.bodyG Tryz.func414 rfl (b:=b414) kr ?_
 refine sR kr ?_
 refine Sat.seq ?_
 refine atRegG 1 at533 kr kr kr ?_
 refine sE kr ⟨.inr rfl,kr,kr⟩
def z294 (Bn:Nat):CR:=cZ Bn (EV Bn 60) 13 (sndC (sndC b294)) (T.set (path 0) NL (T.set (path 3) sN (mkFr []))) (H414 Bn)
theorem at294:At Bn 294 H0 [NL] (.b true) (hZ (z294 Bn)):=by
 refine At.bodyG Tryz.func294 rfl (b:=b294) kr ?_
 refine sR kr ?_
 refine Sat.seq ?_
 refine Sat.reg (call:=callOr 414 (callAt 414 HN [clN] sN (H414 Bn)) (EV Bn 60)) hmix (callOr_ok (callAt_ok at414) (EV_ok 60)) ?_
 refine RunOps.callH (f:=414) (args:=[clN]) (v:=sN) (h2:=H414 Bn) 2 kr kr kr kr (callOr_at kr) ?_
 refine zf ?_
 refine sE kr ⟨.inr rfl,kr,kr⟩
theorem O294:OK Bn K294:=rows_con (fun q hq=>by rw[List.mem_singleton.1 hq];exact kok_of_at (us:=[.b true]) at294 kr)
theorem OLc:Okl Bn Lc:=okLc O294
end Go.Ev
end
noncomputable section
namespace Go.Ev
open Go.Proofs Go.RowKit
def bdv (b:Bool):den zBind:=cond b ([78],N 0) ([65],N 0)
def bxi (b:Bool):Nat:=cond b 1 0
abbrev vsB:List Value:=([([65],N 0),([78],N 0)]:List (den zBind)).flatMap (fvT zBind)
abbrev encB (b:Bool):Array Value:=#[.int .i64 (N (bxi b)),.agg #[.string (strOf (bdv b).1),.int .i64 (bdv b).2]]
theorem back_stops (Bb Bo:Nat) (w0:World) (hk:KcE w0 vsB 2 Bb Bo w0):SeqStopsK Fence.wide 4 PP 661 #[.pointer (some ⟨Bb,Bo,none⟩)] encB (fun A B=>KcE w0 vsB 2 Bb Bo A→KcE w0 vsB 2 Bb Bo B) (fun xs=>xs=[true,false]) (fun _=>True) 2 w0:=by
 intro l Jw Jx W hW _ _ hY h0
 have kp:∀a v,w0.cell? a=some v→W.cell? a=some v:=fun a v hv=>by
  obtain⟨o,ho,_⟩:=Go.cells_of_cell hv
  exact(hW.cell (Array.getElem?_eq_some_iff.1 ho).1).trans hv
 refine(back_in (fun b=>N (bxi b)) (fun b=>strOf (bdv b).1) (fun b=>(bdv b).2) (fun j=>j==0) Fence.wide 4 trivial rfl om l Bb Bo 2 om (KcE w0 vsB 2 Bb Bo) ?_ ?_ Jw Jx hY W (hk.keep kp) h0).mono ?_
 ·intro j hj
  match j,hj with
  |0,_=>rfl
  |1,_=>rfl
 ·rintro W' ⟨_,b,off,cap,g1,g2⟩
  refine⟨b,off,cap,g1,fun j hj=>?_⟩
  match j,hj with
  |0,_=>exact⟨g2 2 _ rfl,g2 3 _ rfl⟩
  |1,_=>exact⟨g2 0 _ rfl,g2 1 _ rfl⟩
 ·rintro e W' ⟨hv,⟨ys,rfl,hj⟩|⟨pre,_,hj⟩⟩
  ·exact⟨hv,.inl ⟨_,rfl,hj⟩⟩
  ·exact⟨hv,.inr ⟨pre,trivial,hj⟩⟩
def lv_:AV:=.isl (.sl zBind) [[([65],N 0),([78],N 0)]]
def bl_ (c:Nat):Blk:=.cs 334 [.i .i64 (N 1),.isl zNode [([118],[],[49])],.i .i64 (N 2),.isl zNode [([118],[],[c])]] false
def zl_:Blk:=.cs 78 [.i .i64 (N 0),nilS,nilS,nilS] false
def stL (a n:Bool):AV×List AV:=match a,n with
 |false,false=>(.sl (path 3) 0 2 2 2 false,[.s 1 [65],.i .i64 (N 1),.s 1 [78],.i .i64 (N 2)])
 |false,true=>(.sl (path 3) 0 2 1 2 false,[.s 1 [65],.i .i64 (N 1),.s 0 [],.i .i64 (N 0)])
 |true,false=>(.sl (path 3) 0 2 1 2 false,[.s 1 [78],.i .i64 (N 2),.s 0 [],.i .i64 (N 0)])
 |true,true=>(.sl (path 3) 0 2 0 2 false,[.s 0 [],.i .i64 (N 0),.s 0 [],.i .i64 (N 0)])
def C5 (c:Nat):List (Option Blk):=[some .dead,some zl_,some (.cs 78 [.i .i64 (N 3),(stL false false).1,.sl (path 4) 0 2 2 2 false,lv_] false),some (.cs 332 (stL false false).2 false),some (bl_ c)]
def hsX (c:Nat) (q:AV×List AV):List (Option Blk):=[some .dead,some zl_,some (.cs 78 [.i .i64 (N 3),q.1,.sl (path 4) 0 2 2 2 false,lv_] false),some (.cs 332 q.2 false),some (bl_ c),some (.cs 249 [.p (path 2) 0] false),some (.cs 74 [.isl zBind [([65],N 0),([78],N 0)]] false)]
def hasB (b:Bool):List Bool→Bool:=List.rec false (fun x _ r=>cond (x==b) true r)
def hsL (c:Nat) (pre:List Bool):List (Option Blk):=hsX c (stL (hasB false pre) (hasB true pre))
noncomputable def b452:Code:=Option.getD Tryz.f452.body .skip
def clL:AV:=.f (.func 661) [] [.p (path 6) 0]
def frL0:List (List Bool×AV):=[(path 1,.p (path 5) 0),(path 3,.i .i64 (N 0)),(path 22,clL)]
def frL (b:Bool):T AV:=T.set (path 5) (.ip zBind (bdv b) 0) (T.set (path 24) (.ag (tc zBind (bdv b))) (T.set (path 23) (.i .i64 (N (bxi b))) (mkFr frL0)))
def r452:Code:=blkD (sndC (fstD (sndC (sndC (sndC b452)))))
def bd452:Code:=blkD (rfBody r452)
section
variable {Bn:Nat} [BOk Bn]
def eL (Bn c:Nat) (pre:List Bool) (x:Bool):FR:=evOps (EV Bn 60) (hsL c pre).length (regL PP (GG Bn) 40 (opsR bd452)) (frL x) ⟨Nat.add (hsL c pre).length (regN PP (GG Bn) 40 (opsR bd452)),(hpH (hsL c pre).length (hsL c pre)).t⟩
theorem bodyL {c:Nat}{pre:List Bool}{x:Bool}{Q:Ex→T AV→H→Prop} (hok:isOkF (eL Bn c pre x)=true) (hq:∀fr,Q .normal fr (hOf (eL Bn c pre x))):
 SatR PP (GG Bn) 40 (rfBody r452) (frL x) (hpH (hsL c pre).length (hsL c pre)) Q:=by
 have e:rfBody r452=.block 1 (.region 6 (opsR bd452) false):=kr
 rw[e]
 refine SatR.block (SatR.reg (call:=EV Bn 60) (EV_ok 60) kr ?_)
 exact RunOps.fin hok (hq _)
theorem from1_nil (n:Nat) (id:Id):from1 n [] id=id:=by
 unfold from1
 cases Nat.blt (unpath id) n<;>rfl
theorem hsX_ok (c:Nat) (a n:Bool):blksOk 7 (hsX c (stL a n)):=by
 have u2:unpath (path 2)<7:=by rw[unpath_path];omega
 have u3:unpath (path 3)<7:=by rw[unpath_path];omega
 have u4:unpath (path 4)<7:=by rw[unpath_path];omega
 cases a<;>cases n<;>
 exact⟨trivial,⟨trivial,trivial,trivial,trivial,trivial⟩,⟨trivial,u3,u4,trivial,trivial⟩,⟨trivial,trivial,trivial,trivial,trivial⟩,⟨trivial,trivial,trivial,trivial,trivial⟩,⟨u2,trivial⟩,⟨trivial,trivial⟩,trivial⟩
theorem fitL {c:Nat}{a n:Bool}{C:List (Option Blk)}{fr:T AV}{h:H} (hC:C=hsX c (stL a n)) (hq:eqRen h (from1 7 []) (hsX c (stL a n)) 0):EndC (hsL c []).length [] C fr h:=by
 subst hC
 refine EndC_fit (n:=7) [] rfl ?_ (hsX_ok c a n) hq ?_
 ·cases a<;>cases n<;>rfl
 ·intro i j _ _ he
  rw[from1_nil,from1_nil] at he
  exact path_inj he
theorem bodyL2 (c:Nat) (pre:List Bool) (x:Bool) (hp:pre.length<2):SatR PP (GG Bn) 40 (rfBody r452) (frL x) (hpH (hsL c pre).length (hsL c pre)) (fun ex fr' h'=>ex=.normal∧EndC (hsL c []).length [] (hsL c (pre++[x])) fr' h'):=by
 match pre,x,hp with
 |[],true,_=>exact bodyL kr (fun fr=>⟨rfl,fitL (a:=false) (n:=true) rfl ⟨kr,kr,kr,kr,kr,kr,kr,trivial⟩⟩)
 |[],false,_=>exact bodyL kr (fun fr=>⟨rfl,fitL (a:=true) (n:=false) rfl ⟨kr,kr,kr,kr,kr,kr,kr,trivial⟩⟩)
 |[true],true,_=>exact bodyL kr (fun fr=>⟨rfl,fitL (a:=false) (n:=true) rfl ⟨kr,kr,kr,kr,kr,kr,kr,trivial⟩⟩)
 |[true],false,_=>exact bodyL kr (fun fr=>⟨rfl,fitL (a:=true) (n:=true) rfl ⟨kr,kr,kr,kr,kr,kr,kr,trivial⟩⟩)
 |[false],true,_=>exact bodyL kr (fun fr=>⟨rfl,fitL (a:=true) (n:=true) rfl ⟨kr,kr,kr,kr,kr,kr,kr,trivial⟩⟩)
 |[false],false,_=>exact bodyL kr (fun fr=>⟨rfl,fitL (a:=true) (n:=false) rfl ⟨kr,kr,kr,kr,kr,kr,kr,trivial⟩⟩)
theorem zip2 {k j:Nat}{u v:Value}{T:Array Value}:(#[k,j].zip #[u,v]).foldl (fun t (p,v)=>t.setIfInBounds p v) T=(T.setIfInBounds k u).setIfInBounds j v:=by simp
def t452:Code:=sndC (sndC (sndC (sndC b452)))
def z452 (Bn c:Nat):CR:=cZ Bn (EV Bn 60) 40 t452 (mkFr frL0) (hpH 7 (hsL c [true,false]))
def H452 (Bn c:Nat):H:=hZ (z452 Bn c)
theorem at452 (c:Nat):At Bn 452 (hpH 5 (C5 c)) [.p (path 2) 0] (.i .i64 (N 0)) (H452 Bn c):=by
 refine At.bodyM Tryz.func452 (b:=b452) kr kr kr ?_
 refine SatM.seqL (sV kr ⟨rfl,?_⟩)
 refine SatM.seqL (sV kr ⟨rfl,?_⟩)
 refine SatM.seqL (sV kr ⟨rfl,?_⟩)
 refine SatM.seqR (SatM.seqL (sV kr ⟨rfl,?_⟩))
 refine SatM.block ?_
 refine SatM.keepL frL0 ⟨kr,kr,kr,trivial⟩ ?_
 refine SatM.heap (hsL c []) kr kr ?_
 refine SatM.range (bx:=.p (path 6) 0) (gf:=661) True (BOk.lo (B:=Bn)) (hsL c) encB 2 [true,false] vsB 2 frL kr (enters_of Tryz.func661 kr rfl) back_stops (fun x=>rfl) ?_ ?_
  (fun pre _=>bx_p (box:=path 6) (t:=zBind) (ys:=[([65],N 0),([78],N 0)]) (el:=74) (el1:=74) (fz:=false) (fz1:=false) rfl (by simp) (by rw[unpath_path];rfl) (by rw[unpath_path];rfl)) ?_ (bodyL2 c) (by simp) ?_
 ·intro pre hp
  show csL (hsX c (stL (hasB false pre) (hasB true pre)))=true
  cases hasB false pre<;>cases hasB true pre<;>rfl
 ·intro _ pre hp
  show lvL (hsX c (stL (hasB false pre) (hasB true pre))) (hsX c (stL false false))=true
  cases hasB false pre<;>cases hasB true pre<;>rfl
 ·intro e a hs he hf hsz
  have hn:Tryz.f452.ntmps=40:=kr
  rw[hn] at hsz⊢
  have cb:∀x:Bool,∀u∈(bdv x).1,u<256:=fun x=>by cases x<;>simp[bdv]
  refine⟨fun x a' W=>∃b,e.w.heap.size≤b∧a'={tmps:=((a.tmps.setIfInBounds 23 (.int .i64 (N (bxi x)))).setIfInBounds 24 (.agg #[.string (strOf (bdv x).1),.int .i64 (bdv x).2])).setIfInBounds 5 (.pointer (some ⟨b,0,none⟩)),defers:=[]}∧
   W.heap[b]? =some (.cells #[.string (strOf (bdv x).1),.int .i64 (bdv x).2] 332),?_,fun l m x W K hW hK=>?_,fun e1 x a' hs1 hx hO h=>?_⟩
  ·rintro x a' _ W W' row ⟨b,h1,h2,h3⟩ hg hr
   refine⟨b,h1,h2,(hg.block b (Array.getElem?_eq_some_iff.1 h3).1 fun e=>?_).trans h3⟩
   obtain⟨_,o,ho,hc⟩:=hr b e.symm
   rw[h3] at ho;obtain rfl:=Oi ho;cases hc
  ·rw[zip2]
   have e5:rfAsg r452=.region 5 #[{dst:=some 5,op:=Op.alloc 332,type:=0,pos:= "l09_scopes.go:363",after:=#[],guard:=none},{dst:=none,op:=Op.store 332 (Operand.tmp 5) (Operand.tmp 24),type:=0,pos:= "l09_scopes.go:363",after:=#[{on:=0,ground:=Ground.data},{on:=0,ground:=Ground.phase}],guard:=none}] false:=kr
   show(rfAsg r452).wpIn _ _ _ _ _ _
   rw[e5]
   refine box_in (by simp;omega) (s:=strOf (bdv x).1) (z:=(bdv x).2) ?_ ?_
   ·rw[Array.getElem?_setIfInBounds_ne om,Array.getElem?_setIfInBounds_self_of_lt (by simp;omega)];rfl
   ·exact hK _ _ ((Below.refl _ W).alloc (Nr _) _) ⟨W.heap.size,hW,rfl,World.alloc_heap_new W _⟩
  ·obtain⟨b,h1,rfl,h3⟩:=h
   have hcell:CellsAt e1.w b 0 [.string (strOf (bdv x).1),.int .i64 (bdv x).2]:=fun j v hv=>by
    simp only[World.cell?,Nat.zero_add,h3]
    match j,hv with
    |0,hv=>simpa using hv
    |1,hv=>simpa using hv
    |j+2,hv=>simp at hv
   have himm:Imm e1 b:=⟨(Array.getElem?_eq_some_iff.1 h3).1,fun hfb=>by rw[hx.fr] at hfb;have:=(hs.fr b hfb).1;omega,fun ho=>by have:=hO trivial b ho;omega⟩
   have hrt:relT (mm e1) e1.w zBind (bdv x) [.string (strOf (bdv x).1),.int .i64 (bdv x).2]:=⟨[_],[_],rfl,⟨rfl,cb x,by cases x<;>simp[bdv]⟩,rfl⟩
   have r1:Rel e1 (.i .i64 (N (bxi x))) (.int .i64 (N (bxi x))):=by simp only[Rel]
   have r2:Rel e1 (.ag (tc zBind (bdv x))) (.agg #[.string (strOf (bdv x).1),.int .i64 (bdv x).2]):=by
    simp only[Rel]
    exact⟨tc_one zBind (bdv x),_,rfl,relT_relL zBind (bdv x) _ hrt⟩
   have r3:Rel e1 (.ip zBind (bdv x) 0) (.pointer (some ⟨b,0,none⟩)):=by
    simp only[Rel]
    exact⟨b,0,_,rfl,himm,hcell,hrt⟩
   exact⟨(((hf.ext' hx).set om r1).set (by simp;omega) r2).set (by simp;omega) r3,by simp;omega⟩
 ·refine⟨rfl,rfl,?_⟩
  refine sE kr ⟨.inr rfl,kr,kr⟩
end
end Go.Ev
end
