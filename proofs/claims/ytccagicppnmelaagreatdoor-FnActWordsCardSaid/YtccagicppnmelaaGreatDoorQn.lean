/- A part of the proof that FnActWords returns true for every input and leaves its argument as it was; no condition. -/
import Derived.Test.YtccagicppnmelaaGreatDoorQm
import Derived.Test.YtccagicppnmelaaGreatDoorQa
set_option linter.all false
open List renaming length→U
open Int renaming ofNat→J,toNat→Jn
open Go.Ev
attribute [local irreducible] GC RJ KC KM cAt cOn runC stp brC bodyC cvC rsC rdC regC loopC endC skpC extC retC evJ RS.at RS.put RS.okS RS.okR RS.all RS.fst endV endVM grpA grpB grpR grpD grpO RunOps RunD bodyF resF argsFrom cArg
noncomputable section
namespace Go.Ev
open Go.Proofs
set_option maxRecDepth 100000
set_option maxHeartbeats 2000000
variable {Bn:Nat} [BOk Bn]
def c140 (a0:Int):denL [⟨false,.bool⟩]:=((cd (cd (iLe (J 97) a0) (iLe a0 (J 122)) false) true (cd (iLe (J 65) a0) (iLe a0 (J 90)) false)),())
def k140:Con:=⟨140,[⟨false,(.int .u8)⟩],[⟨false,.bool⟩],fun x=>some (c140 x.1)⟩
theorem t140 (a0:Int):KC Bn k140 (a0,()) (c140 a0):=by
 refine xI (uL [] ok0) Tryz.func140 fun hbd hB=>?_
 exact xe 6
theorem o140:OK Bn k140:=xO fun x=>t140 _
def c141 (a0:Int):denL [⟨false,.bool⟩]:=((cd (iLe (J 48) a0) (iLe a0 (J 57)) false),())
def k141:Con:=⟨141,[⟨false,(.int .u8)⟩],[⟨false,.bool⟩],fun x=>some (c141 x.1)⟩
theorem t141 (a0:Int):KC Bn k141 (a0,()) (c141 a0):=by
 refine xI (uL [] ok0) Tryz.func141 fun hbd hB=>?_
 exact xe 6
theorem o141:OK Bn k141:=xO fun x=>t141 _
def c86_L1 (a0:List Nat):(Bool×Nat)→Out (Bool×Nat) (denL [⟨false,.bool⟩]):=fun s1=>(cd (!iLe (J (U (α:=Nat) a0)) (J s1.2)) (cd (cd (!(cd (c140 (J (gc a0 s1.2))).1 true (cd (iEq (J s1.2) (J 0)) (iEq (J (gc a0 s1.2)) (J 37)) false))) (cd (iEq (J s1.2) (J 0)) true (!(c141 (J (gc a0 s1.2))).1)) false) (.ret (false,())) (.go (s1.1,s1.2+1))) (.brk s1))
def c86 (a0:List Nat):denL [⟨false,.bool⟩]:=(outE (dfR _) (fun s1=>((cd (iLe (J 1) (J (U (α:=Nat) a0))) (iLe (J (U (α:=Nat) a0)) (J 8)) false),())) (fun r=>r) (scan (c86_L1 a0) ((U (α:=Nat) a0) - 0+1) (false,0)))
def k86:Con:=⟨86,[⟨false,.str⟩],[⟨false,.bool⟩],fun x=>some (c86 x.1)⟩
theorem t86 (a0:List Nat):KC Bn k86 (a0,()) (c86 a0):=by
 refine xI (uL [k140,k141] (okC o140 (okC o141 ok0))) Tryz.func86 fun hbd hB=>?_
 have b1:U (α:=Nat) a0≤1152921504606846976:=hbd.1
 refine xlc 8 0 (fun(s1:Bool×Nat)=>[(path 0,(.s (U (α:=Nat) a0) a0)),(path 2,(.b s1.1)),(path 3,(.i .i64 (J s1.2)))]) (fun _=>[]) (fun s1=>s1.2) (U (α:=Nat) a0) om fun s1 (i1:s1.2≤(U (α:=Nat) a0))=>?_
 refine xc 4 (fun h2=>?_) fun h2=>?_
 refine xr 4 ?_
 have g3:=lt_of_nle h2
 refine yx 2 a0 s1.2 fo2 ?_
 refine yg 2 15 false (c140 (J (gc a0 s1.2))).1 (cd (iEq (J s1.2) (J 0)) (iEq (J (gc a0 s1.2)) (J 37)) false) (fun h4=>?_) ?_
 refine yg 3 18 true (iEq (J s1.2) (J 0)) (iEq (J (gc a0 s1.2)) (J 37)) (fun h5=>?_) ?_
 have g6:=eq_of_ieq h5
 refine yx 2 a0 s1.2 fo2 ?_
 exact ya
 exact ya
 refine yf ?_
 refine xr 2 ?_
 refine yg 3 27 true (!(cd (c140 (J (gc a0 s1.2))).1 true (cd (iEq (J s1.2) (J 0)) (iEq (J (gc a0 s1.2)) (J 37)) false))) (cd (iEq (J s1.2) (J 0)) true (!(c141 (J (gc a0 s1.2))).1)) (fun h7=>?_) ?_
 refine yg 3 30 false (iEq (J s1.2) (J 0)) (!(c141 (J (gc a0 s1.2))).1) (fun h8=>?_) ?_
 have g9:=ne_of_ieq h8
 refine yx 2 a0 s1.2 fo2 ?_
 exact ya
 exact ya
 refine yf ?_
 refine xc 1 (fun h10=>?_) fun h10=>?_
 refine xt 5 ?_
 exact xe 0
 exact xg 3 (gI om) (hN 2 s1.2 om)
 refine xb 1 ?_
 exact xe 5
theorem o86:OK Bn k86:=xO fun x=>t86 _
def c142 (a0:List Nat):denL [⟨false,.bool⟩]:=((!iLe (J (U (α:=Nat) a0)) (J 64)),())
def k142:Con:=⟨142,[⟨false,.str⟩],[⟨false,.bool⟩],fun x=>some (c142 x.1)⟩
theorem t142 (a0:List Nat):KC Bn k142 (a0,()) (c142 a0):=by
 refine xI (uL [] ok0) Tryz.func142 fun hbd hB=>?_
 exact xe 6
theorem o142:OK Bn k142:=xO fun x=>t142 _
def c50_142_L1 (a0:den (.sl .str)) (a1:den (.clo 142 .unit)):(Nat×Nat)→Out (Nat×Nat) (denL [⟨false,(.int .i64)⟩]):=fun s1=>(cd (!iLe (J (U a0)) (J s1.2)) (cd (c142 (gt .str a0 s1.2)).1 (.ret ((J s1.2),())) (.go (s1.1,s1.2+1))) (.brk s1))
def c50_142 (a0:den (.sl .str)) (a1:den (.clo 142 .unit)):denL [⟨false,(.int .i64)⟩]:=(outE (dfR _) (fun s1=>((Int.negSucc 0),())) (fun r=>r) (scan (c50_142_L1 a0 a1) ((U a0) - 0+1) (0,0)))
def k50_142:Con:=⟨50,[⟨false,(.sl .str)⟩,⟨false,(.clo 142 .unit)⟩],[⟨false,(.int .i64)⟩],fun x=>some (c50_142 x.1 x.2.1)⟩
theorem t50_142 (a0:den (.sl .str)) (a1:den (.clo 142 .unit)):KC Bn k50_142 (a0,a1,()) (c50_142 a0 a1):=by
 refine xI (uL [k142] (okC o142 ok0)) Tryz.func50 fun hbd hB=>?_
 have b1:U a0≤Bn:=hbd.1.1
 refine xlc 8 0 (fun(s1:Nat×Nat)=>[(path 0,(.isl .str a0)),(path 1,(.f (.func 142) [] [])),(path 4,(.i .i64 (J s1.1))),(path 7,(.i .i64 (J (U a0)))),(path 8,(.i .i64 (J s1.2)))]) (fun _=>[]) (fun s1=>s1.2) (U a0) om fun s1 (i1:s1.2≤(U a0))=>?_
 refine xc 4 (fun h2=>?_) fun h2=>?_
 refine xr 7 ?_
 have g3:=lt_of_nle h2
 have x4:s1.2<U a0:=fo2
 refine yi 3 .str a0 s1.2 x4 ?_
 refine yf ?_
 refine xc 1 (fun h5=>?_) fun h5=>?_
 refine xt 5 ?_
 exact xe 0
 exact xg 3 (gI om) (hN 4 s1.2 om)
 refine xb 1 ?_
 exact xe 5
theorem o50_142:OK Bn k50_142:=xO fun x=>t50_142 _ _
def c21_142 (a0:den (.sl .str)) (a1:den (.clo 142 .unit)):denL [⟨false,.bool⟩]:=((iLe (J 0) (c50_142 a0 ()).1),())
def k21_142:Con:=⟨21,[⟨false,(.sl .str)⟩,⟨false,(.clo 142 .unit)⟩],[⟨false,.bool⟩],fun x=>some (c21_142 x.1 x.2.1)⟩
theorem t21_142 (a0:den (.sl .str)) (a1:den (.clo 142 .unit)):KC Bn k21_142 (a0,a1,()) (c21_142 a0 a1):=by
 refine xI (uL [k50_142] (okC o50_142 ok0)) Tryz.func21 fun hbd hB=>?_
 exact xe 6
theorem o21_142:OK Bn k21_142:=xO fun x=>t21_142 _ _
def c87 (a0:den (.sl .str)):denL [⟨false,.bool⟩]:=((c21_142 a0 ()).1,())
def k87:Con:=⟨87,[⟨false,(.sl .str)⟩],[⟨false,.bool⟩],fun x=>some (c87 x.1)⟩
theorem t87 (a0:den (.sl .str)):KC Bn k87 (a0,()) (c87 a0):=by
 refine xI (uL [k21_142] (okC o21_142 ok0)) Tryz.func87 fun hbd hB=>?_
 exact xe 6
theorem o87:OK Bn k87:=xO fun x=>t87 _
def c88 (a0:den (.sl .str)):denL [⟨false,.bool⟩]:=((cd (iLe (J (U a0)) (J 8)) (!(c87 a0).1) false),())
def k88:Con:=⟨88,[⟨false,(.sl .str)⟩],[⟨false,.bool⟩],fun x=>some (c88 x.1)⟩
theorem t88 (a0:den (.sl .str)):KC Bn k88 (a0,()) (c88 a0):=by
 refine xI (uL [k87] (okC o87 ok0)) Tryz.func88 fun hbd hB=>?_
 exact xe 6
theorem o88:OK Bn k88:=xO fun x=>t88 _
def c89 (a0:den y26):denL [⟨false,.bool⟩]:=((cd (cd (cd (sEq a0.2.2.1 ([]:List Nat)) (sEq a0.2.2.2.1 ([]:List Nat)) false) (iEq (J (U a0.2.2.2.2.1)) (J 0)) false) (iEq (J (U a0.2.2.2.2.2.1)) (J 0)) false),())
def k89:Con:=⟨89,[⟨true,y26⟩],[⟨false,.bool⟩],fun x=>some (c89 x.1)⟩
theorem t89 (a0:den y26):KC Bn k89 (a0,()) (c89 a0):=by
 refine xI (uL [] ok0) Tryz.func89 fun hbd hB=>?_
 exact xe 6
theorem o89:OK Bn k89:=xO fun x=>t89 _
def c46 (a0:Int) (a1:Int) (a2:Int):denL [⟨false,.bool⟩]:=((cd (iLe a1 a0) (iLe a0 a2) false),())
def k46:Con:=⟨46,[⟨false,(.int .i64)⟩,⟨false,(.int .i64)⟩,⟨false,(.int .i64)⟩],[⟨false,.bool⟩],fun x=>some (c46 x.1 x.2.1 x.2.2.1)⟩
theorem t46 (a0:Int) (a1:Int) (a2:Int):KC Bn k46 (a0,a1,a2,()) (c46 a0 a1 a2):=by
 refine xI (uL [] ok0) Tryz.func46 fun hbd hB=>?_
 exact xe 6
theorem o46:OK Bn k46:=xO fun x=>t46 _ _ _
def c90 (a0:Int):denL [⟨false,.bool⟩]:=((c46 a0 (J 1) (J 4)).1,())
def k90:Con:=⟨90,[⟨false,(.int .i64)⟩],[⟨false,.bool⟩],fun x=>some (c90 x.1)⟩
theorem t90 (a0:Int):KC Bn k90 (a0,()) (c90 a0):=by
 refine xI (uL [k46] (okC o46 ok0)) Tryz.func90 fun hbd hB=>?_
 exact xe 6
theorem o90:OK Bn k90:=xO fun x=>t90 _
def c143_L1 (a0:den (.sl (.int .i64))):(Bool×Nat)→Out (Bool×Nat) (denL [⟨false,.bool⟩]):=fun s1=>(cd (!iLe (J (U a0)) (J s1.2)) (cd (iLe (gt (.int .i64) a0 s1.2) (gt (.int .i64) a0 (s1.2 - 1))) (.ret (false,())) (.go (s1.1,s1.2+1))) (.brk s1))
def c143 (a0:den (.sl (.int .i64))):denL [⟨false,.bool⟩]:=(outE (dfR _) (fun s1=>(true,())) (fun r=>r) (scan (c143_L1 a0) ((fun(s1:Bool×Nat)=>(U a0) - s1.2) (false,1)+1) (false,1)))
def k143:Con:=⟨143,[⟨false,(.sl (.int .i64))⟩],[⟨false,.bool⟩],fun x=>some (c143 x.1)⟩
theorem t143 (a0:den (.sl (.int .i64))):KC Bn k143 (a0,()) (c143 a0):=by
 refine xI (uL [] ok0) Tryz.func143 fun hbd hB=>?_
 have b1:U a0≤Bn:=hbd.1.1
 refine xl 8 0 (fun(s1:Bool×Nat)=>[(path 0,(.isl (.int .i64) a0)),(path 2,(.b s1.1)),(path 3,(.i .i64 (J s1.2)))]) (fun _=>[]) (fun s1=>1≤s1.2∧(s1.2≤(U a0)∨s1.2=1)) (fun(s1:Bool×Nat)=>(U a0) - s1.2) (by first|exact Nz _|omega|(dsimp only;omega)) fo6 hK fun s1 (i1:1≤s1.2∧(s1.2≤(U a0)∨s1.2=1))=>?_
 refine xc 4 (fun h2=>?_) fun h2=>?_
 refine xd 4 ?_
 have g3:=lt_of_nle h2
 refine yv 3 12 (.i .i64 (wr .i64 ((J s1.2) - (J 1)))) (.i .i64 (J (s1.2 - 1))) (wr_dec om om) ?_
 have x4:(s1.2 - 1)<U a0:=fo2
 refine yi 0 (.int .i64) a0 (s1.2 - 1) x4 ?_
 have x5:s1.2<U a0:=fo2
 refine yi 3 (.int .i64) a0 s1.2 x5 ?_
 refine yf ?_
 refine xc 1 (fun h6=>?_) fun h6=>?_
 refine xt 5 ?_
 exact xe 0
 exact xg 3 ⟨fo6,fo6⟩ (hN 2 s1.2 om)
 refine xb 1 ?_
 exact xe 5
theorem o143:OK Bn k143:=xO fun x=>t143 _
def c91 (a0:den (.sl (.int .i64))):denL [⟨false,.bool⟩]:=((cd (cd (iLe (J (U a0)) (J 400)) (c143 a0).1 false) (cd (iEq (J (U a0)) (J 0)) true (iLe (J 0) (gt (.int .i64) a0 0))) false),())
def k91:Con:=⟨91,[⟨false,(.sl (.int .i64))⟩],[⟨false,.bool⟩],fun x=>some (c91 x.1)⟩
theorem t91 (a0:den (.sl (.int .i64))):KC Bn k91 (a0,()) (c91 a0):=by
 refine xI (uL [k143] (okC o143 ok0)) Tryz.func91 fun hbd hB=>?_
 refine xr 4 ?_
 refine yg 8 10 true (cd (iLe (J (U a0)) (J 400)) (c143 a0).1 false) (cd (iEq (J (U a0)) (J 0)) true (iLe (J 0) (gt (.int .i64) a0 0))) (fun h1=>?_) ?_
 refine yg 4 14 false (iEq (J (U a0)) (J 0)) (iLe (J 0) (gt (.int .i64) a0 0)) (fun h2=>?_) ?_
 have g3:=le_of_ile (aT h1).1
 have g4:=ne_of_ieq h2
 have b5:U a0≤Bn:=hbd.1.1
 have x6:0<U a0:=fo2
 refine yi 1 (.int .i64) a0 0 x6 ?_
 exact ya
 exact ya
 refine yf ?_
 exact xe 1
theorem o91:OK Bn k91:=xO fun x=>t91 _
def c45 (a0:den y26):denL [⟨false,.bool⟩]:=(cd (iEq a0.1 (J 1)) ((cd (cd (cd (cd (cd (cd (iEq a0.2.1 (J 0)) (iEq (J (U a0.2.2.2.2.2.2)) (J 0)) false) (c86 a0.2.2.1).1 false) (c86 a0.2.2.2.1).1 false) (iLe (J (U a0.2.2.2.2.1)) (J 5)) false) (!(c87 a0.2.2.2.2.1).1) false) (c88 a0.2.2.2.2.2.1).1 false),()) (cd (cd (!(c89 a0).1) true (cd (!iEq a0.1 (J 7)) (!iLe (J (U a0.2.2.2.2.2.2)) (J 0)) false)) (false,()) (cd (iEq a0.1 (J 2)) ((c90 a0.2.1).1,()) (cd (iEq a0.1 (J 3)) ((iEq a0.2.1 (J 0)),()) (cd (iEq a0.1 (J 4)) ((iEq a0.2.1 (J 0)),()) (cd (iEq a0.1 (J 6)) ((iEq a0.2.1 (J 0)),()) (cd (iEq a0.1 (J 5)) ((c46 a0.2.1 (J 0) (J 64)).1,()) ((cd (cd (iEq a0.1 (J 7)) (c46 a0.2.1 (Int.negSucc 0) (J 1700)).1 false) (c91 a0.2.2.2.2.2.2).1 false),()))))))))
def k45:Con:=⟨45,[⟨true,y26⟩],[⟨false,.bool⟩],fun x=>some (c45 x.1)⟩
theorem t45 (a0:den y26):KC Bn k45 (a0,()) (c45 a0):=by
 refine xI (uL [k46,k86,k87,k88,k89,k90,k91] (okC o46 (okC o86 (okC o87 (okC o88 (okC o89 (okC o90 (okC o91 ok0)))))))) Tryz.func45 fun hbd hB=>?_
 refine xc 7 (fun h1=>?_) fun h1=>?_
 exact xe 4
 refine xc 5 (fun h2=>?_) fun h2=>?_
 exact xe 4
 refine xc 9 (fun h3=>?_) fun h3=>?_
 exact xe 5
 refine xc 4 (fun h4=>?_) fun h4=>?_
 exact xe 7
 refine xc 3 (fun h5=>?_) fun h5=>?_
 exact xe 7
 refine xc 2 (fun h6=>?_) fun h6=>?_
 exact xe 5
 refine xc 3 (fun h7=>?_) fun h7=>?_
 exact xe 5
 exact xe 5
theorem o45:OK Bn k45:=xO fun x=>t45 _
theorem c45_t {a:den y26} (h:(c45 a).1=true):@LE.le Int _ 1 a.1∧@LE.le Int _ a.1 7:=by
 refine Classical.byContradiction fun hk=>?_
 have e:∀k:Int,1≤k→k≤7→iEq a.1 k=false:=fun k h1 h2=>by
  cases hb:iEq a.1 k with
  |false=>rfl
  |true=>have:=ieq_t hb;exact absurd (show @LE.le Int _ 1 a.1∧@LE.le Int _ a.1 7 by omega) hk
 unfold c45 at h
 rw[e (J 1) (by decide) (by decide),e (J 7) (by decide) (by decide),e (J 2) (by decide) (by decide),e (J 3) (by decide) (by decide),e (J 4) (by decide) (by decide),e (J 6) (by decide) (by decide),e (J 5) (by decide) (by decide)] at h
 generalize (!(c89 a).1)=p at h
 generalize (!iLe (J (U a.2.2.2.2.2.2)) (J 0))=q at h
 cases p<;>cases q<;>cases(show false=true from h)
def c47 (a0:den y26):denL [⟨false,.bool⟩]:=((cd (cd (cd (iEq a0.1 (J 0)) (iEq a0.2.1 (J 0)) false) (c89 a0).1 false) (iEq (J (U a0.2.2.2.2.2.2)) (J 0)) false),())
def k47:Con:=⟨47,[⟨true,y26⟩],[⟨false,.bool⟩],fun x=>some (c47 x.1)⟩
theorem t47 (a0:den y26):KC Bn k47 (a0,()) (c47 a0):=by
 refine xI (uL [k89] (okC o89 ok0)) Tryz.func47 fun hbd hB=>?_
 exact xe 6
theorem o47:OK Bn k47:=xO fun x=>t47 _
def c17 (a0:den y28):denL [⟨false,.bool⟩]:=(cd (iEq a0.1 (J 1)) ((cd (iEq a0.2.1 (J 0)) (c45 a0.2.2).1 false),()) (cd (iEq a0.1 (J 3)) ((cd (c46 a0.2.1 (J 0) (J 11)).1 (c47 a0.2.2).1 false),()) (cd (iEq a0.1 (J 4)) ((cd (c46 a0.2.1 (J 0) (J 11)).1 (c47 a0.2.2).1 false),()) (cd (iEq a0.1 (J 5)) ((cd (c46 a0.2.1 (J 0) (J 11)).1 (c47 a0.2.2).1 false),()) (cd (iEq a0.1 (J 2)) ((cd (iEq a0.2.1 (J 0)) (c47 a0.2.2).1 false),()) (cd (iEq a0.1 (J 6)) ((cd (iEq a0.2.1 (J 0)) (c47 a0.2.2).1 false),()) (cd (iEq a0.1 (J 7)) ((cd (iEq a0.2.1 (J 0)) (c47 a0.2.2).1 false),()) (false,()))))))))
def k17:Con:=⟨17,[⟨true,y28⟩],[⟨false,.bool⟩],fun x=>some (c17 x.1)⟩
theorem t17 (a0:den y28):KC Bn k17 (a0,()) (c17 a0):=by
 refine xI (uL [k45,k46,k47] (okC o45 (okC o46 (okC o47 ok0)))) Tryz.func17 fun hbd hB=>?_
 refine xc 11 (fun h1=>?_) fun h1=>?_
 exact xe 5
 refine xc 4 (fun h2=>?_) fun h2=>?_
 exact xe 7
 refine xc 3 (fun h3=>?_) fun h3=>?_
 exact xe 7
 refine xc 2 (fun h4=>?_) fun h4=>?_
 exact xe 5
 refine xc 4 (fun h5=>?_) fun h5=>?_
 exact xe 7
 refine xc 3 (fun h6=>?_) fun h6=>?_
 exact xe 7
 refine xc 2 (fun h7=>?_) fun h7=>?_
 exact xe 5
 exact xe 5
theorem o17:OK Bn k17:=xO fun x=>t17 _
theorem c17_t {a:den y28} (h:(c17 a).1=true):(@LE.le Int _ 1 a.1∧@LE.le Int _ a.1 7)∧(@Eq Int a.1 1→@LE.le Int _ 1 a.2.2.1∧@LE.le Int _ a.2.2.1 7):=by
 refine⟨Classical.byContradiction fun hk=>?_,fun h1=>?_⟩
 ·have e:∀k:Int,1≤k→k≤7→iEq a.1 k=false:=fun k h1 h2=>by
   cases hb:iEq a.1 k with
   |false=>rfl
   |true=>have:=ieq_t hb;exact absurd (show @LE.le Int _ 1 a.1∧@LE.le Int _ a.1 7 by omega) hk
  unfold c17 at h
  rw[e (J 1) (by decide) (by decide),e (J 7) (by decide) (by decide),e (J 2) (by decide) (by decide),e (J 3) (by decide) (by decide),e (J 4) (by decide) (by decide),e (J 6) (by decide) (by decide),e (J 5) (by decide) (by decide)] at h
  cases(show false=true from h)
 ·unfold c17 at h
  have e:iEq a.1 (J 1)=true:=by rw[iEq_eq];simpa using h1
  rw[e] at h
  have h:cd (iEq a.2.1 (J 0)) (c45 a.2.2).1 false=true:=h
  exact c45_t (cd_true h).2
theorem c17_n {a:den y28} (h:(!(c17 a).1)=false):(@LE.le Int _ 1 a.1∧@LE.le Int _ a.1 7)∧(@Eq Int a.1 1→@LE.le Int _ 1 a.2.2.1∧@LE.le Int _ a.2.2.1 7):=c17_t (by simpa using h)
def c48_L2 (a0:den y26) (s1:Nat×List (den .str)):(Nat×List (den .str))→Out (Nat×List (den .str)) (denL [⟨false,(.sl .str)⟩]):=fun s2=>(cd (!iLe (J (U a0.2.2.2.2.2.1)) (J s2.1)) (.go (s2.1+1,(s2.2++[(c92 (gt .str a0.2.2.2.2.2.1 s2.1)).1]))) (.brk s2))
def c48_L3 (a0:den y26) (s1:Nat×List (den .str)):(Nat×List (den .str))→Out (Nat×List (den .str)) (denL [⟨false,(.sl .str)⟩]):=fun s3=>(cd (!iLe (J (U a0.2.2.2.2.2.1)) (J s3.1)) (.go (s3.1+1,(s3.2++[(c92 (gt .str a0.2.2.2.2.2.1 s3.1)).1]))) (.brk s3))
def c48_L1 (a0:den y26):(Nat×List (den .str))→Out (Nat×List (den .str)) (denL [⟨false,(.sl .str)⟩]):=fun s1=>(cd (!iLe (J (U a0.2.2.2.2.1)) (J s1.1)) (.go (s1.1+1,(s1.2++[(c92 (gt .str a0.2.2.2.2.1 s1.1)).1]))) (.brk s1))
def c48 (a0:den y26):denL [⟨false,(.sl .str)⟩]:=(outE (dfR _) (fun s1=>(cd (!iLe (J (U a0.2.2.2.2.2.1)) (J 0)) (outE (dfR _) (fun s2=>(s2.2,())) (fun r=>r) (scan (c48_L2 a0 s1) ((fun(s2:Nat×List (den .str))=>U a0.2.2.2.2.2.1 - s2.1) (0,(s1.2++[([105,110]:List Nat)]))+1) (0,(s1.2++[([105,110]:List Nat)])))) (outE (dfR _) (fun s3=>(s3.2,())) (fun r=>r) (scan (c48_L3 a0 s1) ((fun(s3:Nat×List (den .str))=>U a0.2.2.2.2.2.1 - s3.1) (0,s1.2)+1) (0,s1.2))))) (fun r=>r) (scan (c48_L1 a0) ((fun(s1:Nat×List (den .str))=>U a0.2.2.2.2.1 - s1.1) (0,[a0.2.2.1,a0.2.2.2.1])+1) (0,[a0.2.2.1,a0.2.2.2.1])))
open Classical in
def k48:Con:=⟨48,[⟨true,y26⟩],[⟨false,(.sl .str)⟩],fun x=>if allT tPl x.1.2.2.2.2.1=true∧allT tPl x.1.2.2.2.2.2.1=true∧U x.1.2.2.2.2.1≤1000∧U x.1.2.2.2.2.2.1≤1000 then some (c48 x.1) else none⟩
theorem t48 (a0:den y26) (r0:allT tPl a0.2.2.2.2.1=true) (r1:allT tPl a0.2.2.2.2.2.1=true) (r2:U a0.2.2.2.2.1≤1000) (r3:U a0.2.2.2.2.2.1≤1000):KC Bn k48 (a0,()) (c48 a0):=by
 refine xI (uL [k92] (okC o92 ok0)) Tryz.func48 fun hbd hB=>?_
 have b1:U a0.2.2.2.2.1≤Bn:=hbd.1.2.2.2.2.1.1
 refine xlCi 11 2 (fun v (s1:Nat×List (den .str))=>[(path 1,(.p (path 0) 0)),(path 2,(.v (.slice none 0 0))),(path 3,v),(path 14,(.isl .str a0.2.2.2.2.1)),(path 15,(.i .i64 (J (U a0.2.2.2.2.1)))),(path 16,(.i .i64 (J s1.1)))]) (fun v (s1:Nat×List (den .str))=>[some (.cs 27 [(.i .i64 a0.1),(.i .i64 a0.2.1),(.s (U (α:=Nat) a0.2.2.1) a0.2.2.1),(.s (U (α:=Nat) a0.2.2.2.1) a0.2.2.2.1),(.isl .str a0.2.2.2.2.1),(.isl .str a0.2.2.2.2.2.1),(.isl (.int .i64) a0.2.2.2.2.2.2)] false),some .dead]) (fun s1=>(.sl (path 2) 0 (wd .str) (U s1.2) (U s1.2) false)) (fun s1=>(.cs 9 (flatT .str s1.2) false)) (fun s1=>s1.1≤U a0.2.2.2.2.1∧U s1.2≤s1.1+2) (fun(s1:Nat×List (den .str))=>U a0.2.2.2.2.1 - s1.1) ⟨Nz _,fo3⟩ fo3 1 (.sl (path 1) 0 1 2 2 true) [false,false,true] (gN kr) ⟨bS bk1,bS trivial,trivial⟩ fun s1 i1=>?_
 obtain⟨hi1,hl1⟩:=i1
 refine xc 4 (fun h2=>?_) fun h2=>?_
 refine xr 4 ?_
 have g3:=lt_of_nle h2
 have b4:U a0.2.2.2.2.1≤Bn:=hbd.1.2.2.2.2.1.1
 have x5:s1.1<U a0.2.2.2.2.1:=fo2
 refine yi 0 .str a0.2.2.2.2.1 s1.1 x5 ?_
 refine yf ?_
 refine xr 1 ?_
 have b6:U (α:=Nat) (gt .str a0.2.2.2.2.1 s1.1)≤1152921504606846976:=(bd_gt hbd.1.2.2.2.2.1 x5)
 refine ycl 2 k92 ((gt .str a0.2.2.2.2.1 s1.1),()) (c92 (gt .str a0.2.2.2.2.1 s1.1)) (p92 (by first|assumption|exact allT_get (by assumption) om)) ?_
 refine zo 1 (zapn 0 4 9 16 2 .str s1.2 ((c92 (gt .str a0.2.2.2.2.1 s1.1)).1) fo4 (zf ?_))
 refine yf ?_
 refine xsv 3 16 (.i .i64 (wr .i64 ((J s1.1)+(J 1)))) (.i .i64 (J s1.1+1)) (wr_inc om) ?_
 exact xgC 0 4 (.sl (path 4) 0 (wd .str) (U (s1.2++[(c92 (gt .str a0.2.2.2.2.1 s1.1)).1])) (U (s1.2++[(c92 (gt .str a0.2.2.2.2.1 s1.1)).1])) false) [false,false,true] ⟨⟨fo3,fo3⟩,fo3⟩ (gN kr) ⟨bS bk1,bS trivial,trivial⟩
 have g3:=le_of_nle h2
 refine xbC 1 ?_
 refine xc 6 (fun h4=>?_) fun h4=>?_
 refine xr 0 ?_
 have g5:=lt_of_nle h4
 refine zo 2 (zapn 0 4 9 16 2 .str s1.2 ([105,110]:List Nat) fo4 (zf ?_))
 refine yf ?_
 have b6:U a0.2.2.2.2.2.1≤Bn:=hbd.1.2.2.2.2.2.1.1
 refine xlCi 6 5 (fun v (s2:Nat×List (den .str))=>[(path 2,(.v (.slice none 0 0))),(path 3,v),(path 34,(.isl .str a0.2.2.2.2.2.1)),(path 35,(.i .i64 (J (U a0.2.2.2.2.2.1)))),(path 36,(.i .i64 (J s2.1)))]) (fun v (s2:Nat×List (den .str))=>[some (.cs 27 [(.i .i64 a0.1),(.i .i64 a0.2.1),(.s (U (α:=Nat) a0.2.2.1) a0.2.2.1),(.s (U (α:=Nat) a0.2.2.2.1) a0.2.2.2.1),(.isl .str a0.2.2.2.2.1),(.isl .str a0.2.2.2.2.2.1),(.isl (.int .i64) a0.2.2.2.2.2.2)] false),some .dead,some .dead,some (.cs 9 [(.s 2 [105,110])] false),some .dead]) (fun s2=>(.sl (path 5) 0 (wd .str) (U s2.2) (U s2.2) false)) (fun s2=>(.cs 9 (flatT .str s2.2) false)) (fun s2=>s2.1≤U a0.2.2.2.2.2.1∧U s2.2≤s2.1+1010) (fun(s2:Nat×List (den .str))=>U a0.2.2.2.2.2.1 - s2.1) ⟨Nz _,fo3⟩ fo3 4 (.sl (path 4) 0 (wd .str) (U (s1.2++[([105,110]:List Nat)])) (U (s1.2++[([105,110]:List Nat)])) false) [false,true] (gN kr) ⟨bS bk1,bS trivial,bS trivial,bS bk1,bS trivial,trivial⟩ fun s2 i2=>?_
 obtain⟨hi2,hl2⟩:=i2
 refine xc 4 (fun h7=>?_) fun h7=>?_
 refine xr 4 ?_
 have g8:=lt_of_nle h7
 have b9:U a0.2.2.2.2.2.1≤Bn:=hbd.1.2.2.2.2.2.1.1
 have x10:s2.1<U a0.2.2.2.2.2.1:=fo2
 refine yi 0 .str a0.2.2.2.2.2.1 s2.1 x10 ?_
 refine yf ?_
 refine xr 1 ?_
 have b11:U (α:=Nat) (gt .str a0.2.2.2.2.2.1 s2.1)≤1152921504606846976:=(bd_gt hbd.1.2.2.2.2.2.1 x10)
 refine ycl 2 k92 ((gt .str a0.2.2.2.2.2.1 s2.1),()) (c92 (gt .str a0.2.2.2.2.2.1 s2.1)) (p92 (by first|assumption|exact allT_get (by assumption) om)) ?_
 refine zo 1 (zapn 0 7 9 16 5 .str s2.2 ((c92 (gt .str a0.2.2.2.2.2.1 s2.1)).1) fo4 (zf ?_))
 refine yf ?_
 refine xsv 3 36 (.i .i64 (wr .i64 ((J s2.1)+(J 1)))) (.i .i64 (J s2.1+1)) (wr_inc om) ?_
 exact xgC 0 7 (.sl (path 7) 0 (wd .str) (U (s2.2++[(c92 (gt .str a0.2.2.2.2.2.1 s2.1)).1])) (U (s2.2++[(c92 (gt .str a0.2.2.2.2.2.1 s2.1)).1])) false) [false,true] ⟨⟨fo3,fo3⟩,fo3⟩ (gN kr) ⟨bS bk1,bS trivial,bS trivial,bS bk1,bS trivial,trivial⟩
 refine xbC 1 ?_
 have g8:=le_of_nle h7
 refine xgv 3 3 5 9 (U s2.2) false .str s2.2 fo4 ?_
 exact xe 2
 have g5:=le_of_nle h4
 have b6:U a0.2.2.2.2.2.1≤Bn:=hbd.1.2.2.2.2.2.1.1
 refine xlCi 6 3 (fun v (s3:Nat×List (den .str))=>[(path 2,(.v (.slice none 0 0))),(path 3,v),(path 34,(.isl .str a0.2.2.2.2.2.1)),(path 35,(.i .i64 (J (U a0.2.2.2.2.2.1)))),(path 36,(.i .i64 (J s3.1)))]) (fun v (s3:Nat×List (den .str))=>[some (.cs 27 [(.i .i64 a0.1),(.i .i64 a0.2.1),(.s (U (α:=Nat) a0.2.2.1) a0.2.2.1),(.s (U (α:=Nat) a0.2.2.2.1) a0.2.2.2.1),(.isl .str a0.2.2.2.2.1),(.isl .str a0.2.2.2.2.2.1),(.isl (.int .i64) a0.2.2.2.2.2.2)] false),some .dead,some .dead]) (fun s3=>(.sl (path 3) 0 (wd .str) (U s3.2) (U s3.2) false)) (fun s3=>(.cs 9 (flatT .str s3.2) false)) (fun s3=>s3.1≤U a0.2.2.2.2.2.1∧U s3.2≤s3.1+1010) (fun(s3:Nat×List (den .str))=>U a0.2.2.2.2.2.1 - s3.1) ⟨Nz _,fo3⟩ fo3 2 (.sl (path 2) 0 (wd .str) (U s1.2) (U s1.2) false) [false,true] (gN kr) ⟨bS bk1,bS trivial,bS trivial,trivial⟩ fun s3 i3=>?_
 obtain⟨hi3,hl3⟩:=i3
 refine xc 4 (fun h7=>?_) fun h7=>?_
 refine xr 4 ?_
 have g8:=lt_of_nle h7
 have b9:U a0.2.2.2.2.2.1≤Bn:=hbd.1.2.2.2.2.2.1.1
 have x10:s3.1<U a0.2.2.2.2.2.1:=fo2
 refine yi 0 .str a0.2.2.2.2.2.1 s3.1 x10 ?_
 refine yf ?_
 refine xr 1 ?_
 have b11:U (α:=Nat) (gt .str a0.2.2.2.2.2.1 s3.1)≤1152921504606846976:=(bd_gt hbd.1.2.2.2.2.2.1 x10)
 refine ycl 2 k92 ((gt .str a0.2.2.2.2.2.1 s3.1),()) (c92 (gt .str a0.2.2.2.2.2.1 s3.1)) (p92 (by first|assumption|exact allT_get (by assumption) om)) ?_
 refine zo 1 (zapn 0 5 9 16 3 .str s3.2 ((c92 (gt .str a0.2.2.2.2.2.1 s3.1)).1) fo4 (zf ?_))
 refine yf ?_
 refine xsv 3 36 (.i .i64 (wr .i64 ((J s3.1)+(J 1)))) (.i .i64 (J s3.1+1)) (wr_inc om) ?_
 exact xgC 0 5 (.sl (path 5) 0 (wd .str) (U (s3.2++[(c92 (gt .str a0.2.2.2.2.2.1 s3.1)).1])) (U (s3.2++[(c92 (gt .str a0.2.2.2.2.2.1 s3.1)).1])) false) [false,true] ⟨⟨fo3,fo3⟩,fo3⟩ (gN kr) ⟨bS bk1,bS trivial,bS trivial,trivial⟩
 refine xbC 1 ?_
 have g8:=le_of_nle h7
 refine xgv 3 3 3 9 (U s3.2) false .str s3.2 fo4 ?_
 exact xe 2
theorem p48 {a0:den y26} (h:allT tPl a0.2.2.2.2.1=true∧allT tPl a0.2.2.2.2.2.1=true∧U a0.2.2.2.2.1≤1000∧U a0.2.2.2.2.2.1≤1000):k48.F (a0,())=some (c48 a0):=if_pos h
theorem o48:OK Bn k48:=xOp fun x (hp:allT tPl x.1.2.2.2.2.1=true∧allT tPl x.1.2.2.2.2.2.1=true∧U x.1.2.2.2.2.1≤1000∧U x.1.2.2.2.2.2.1≤1000)=>t48 _ hp.1 hp.2.1 hp.2.2.1 hp.2.2.2
def c20 (a0:Int):denL [⟨false,.str⟩]:=((c49 a0 (J 10)).1,())
open Classical in
def k20:Con:=⟨20,[⟨false,(.int .i64)⟩],[⟨false,.str⟩],fun x=>if @LE.le Int _ (-9223372036854775808) x.1∧@LE.le Int _ x.1 9223372036854775807 then some (c20 x.1) else none⟩
theorem t20 (a0:Int) (r0:@LE.le Int _ (-9223372036854775808) a0) (r1:@LE.le Int _ a0 9223372036854775807):KC Bn k20 (a0,()) (c20 a0):=by
 refine xI (uL [k49] (okC o49 ok0)) Tryz.func20 fun hbd hB=>?_
 refine xr 4 ?_
 refine ycl 1 k49 (a0,(J 10),()) (c49 a0 (J 10)) (p49 ⟨fo1,fo1,fo1⟩) ?_
 refine yf ?_
 exact xe 1
theorem p20 {a0:Int} (h:@LE.le Int _ (-9223372036854775808) a0∧@LE.le Int _ a0 9223372036854775807):k20.F (a0,())=some (c20 a0):=if_pos h
theorem o20:OK Bn k20:=xOp fun x (hp:@LE.le Int _ (-9223372036854775808) x.1∧@LE.le Int _ x.1 9223372036854775807)=>t20 _ hp.1 hp.2
def c18_L1 (a0:den y26):(Nat×List (den .str))→Out (Nat×List (den .str)) (denL [⟨false,(.sl .str)⟩]):=fun s1=>(cd (!iLe (J (U ([a0.2.1]++a0.2.2.2.2.2.2))) (J s1.1)) (.go (s1.1+1,(s1.2++[(c20 (gt (.int .i64) ([a0.2.1]++a0.2.2.2.2.2.2) s1.1)).1]))) (.brk s1))
def c18 (a0:den y26):denL [⟨false,(.sl .str)⟩]:=(cd (iEq a0.1 (J 1)) (([(c28 a0.1).1]++(c48 a0).1),()) (cd (iEq a0.1 (J 2)) ([(c28 a0.1).1,(c20 a0.2.1).1],()) (cd (iEq a0.1 (J 5)) ([(c28 a0.1).1,(c20 a0.2.1).1],()) (cd (iEq a0.1 (J 7)) (cd (nilB a0.2.2.2.2.2.2) ([(c28 a0.1).1,(c20 a0.2.1).1],()) (outE (dfR _) (fun s1=>(s1.2,())) (fun r=>r) (scan (c18_L1 a0) ((fun(s1:Nat×List (den .str))=>U ([a0.2.1]++a0.2.2.2.2.2.2) - s1.1) (0,[(c28 a0.1).1])+1) (0,[(c28 a0.1).1])))) ([(c28 a0.1).1],())))))
open Classical in
def k18:Con:=⟨18,[⟨true,y26⟩],[⟨false,(.sl .str)⟩],fun x=>if allT tPl x.1.2.2.2.2.1=true∧allT tPl x.1.2.2.2.2.2.1=true∧U x.1.2.2.2.2.1≤1000∧U x.1.2.2.2.2.2.1≤1000∧U x.1.2.2.2.2.2.2≤1000∧@LE.le Int _ 1 x.1.1∧@LE.le Int _ x.1.1 7∧U (c48 x.1).1≤3000∧0<U (c48 x.1).1∧@LE.le Int _ (-9223372036854775808) x.1.2.1∧@LE.le Int _ x.1.2.1 9223372036854775807∧allR ([x.1.2.1]++x.1.2.2.2.2.2.2)=true then some (c18 x.1) else none⟩
theorem t18 (a0:den y26) (r0:allT tPl a0.2.2.2.2.1=true) (r1:allT tPl a0.2.2.2.2.2.1=true) (r2:U a0.2.2.2.2.1≤1000) (r3:U a0.2.2.2.2.2.1≤1000) (r4:U a0.2.2.2.2.2.2≤1000) (r5:@LE.le Int _ 1 a0.1) (r6:@LE.le Int _ a0.1 7) (r7:U (c48 a0).1≤3000) (r8:0<U (c48 a0).1) (r9:@LE.le Int _ (-9223372036854775808) a0.2.1) (r10:@LE.le Int _ a0.2.1 9223372036854775807) (r11:allR ([a0.2.1]++a0.2.2.2.2.2.2)=true):KC Bn k18 (a0,()) (c18 a0):=by
 refine xI (uL [k20,k28,k48] (okC o20 (okC o28 (okC o48 ok0)))) Tryz.func18 fun hbd hB=>?_
 refine xr 4 ?_
 refine ycl 2 k28 (a0.1,()) (c28 a0.1) (p28 (by first|exact sw_in om om|(refine sw_in ?_ ?_<;>(simp only[Io];omega)))) ?_
 refine yf ?_
 refine xc 9 (fun h1=>?_) fun h1=>?_
 refine xr 1 ?_
 have g2:@Eq Int a0.1 ((1:Nat):Int):=ieq_t h1
 refine ycl 2 k48 (a0,()) (c48 a0) (p48 ⟨fo1,fo1,fo1,fo1⟩) ?_
 refine zo 0 (zapX 0 2 9 16 1 false .str [(c28 a0.1).1] ((c48 a0).1) (by assumption) fo4 (zf ?_))
 refine yf ?_
 have b3:U ([(c28 a0.1).1]++(c48 a0).1)=U [(c28 a0.1).1]+U ((c48 a0).1):=La ..
 have b4:U [(c28 a0.1).1]=1:=rfl
 exact xeO 3 2 9 (U ([(c28 a0.1).1]++(c48 a0).1)) false false .str ([(c28 a0.1).1]++(c48 a0).1) fo4
 have g2:@Ne Int a0.1 ((1:Nat):Int):=ieq_f h1
 refine xc 4 (fun h3=>?_) fun h3=>?_
 refine xr 3 ?_
 have g4:@Eq Int a0.1 ((2:Nat):Int):=ieq_t h3
 refine ycl 3 k20 (a0.2.1,()) (c20 a0.2.1) (p20 ⟨by first|assumption|exact(allR_get (by assumption) om).1,by first|assumption|exact(allR_get (by assumption) om).2⟩) ?_
 refine yf ?_
 exact xe 3
 have g4:@Ne Int a0.1 ((2:Nat):Int):=ieq_f h3
 refine xc 2 (fun h5=>?_) fun h5=>?_
 refine xr 1 ?_
 have g6:@Eq Int a0.1 ((5:Nat):Int):=ieq_t h5
 refine ycl 3 k20 (a0.2.1,()) (c20 a0.2.1) (p20 ⟨by first|assumption|exact(allR_get (by assumption) om).1,by first|assumption|exact(allR_get (by assumption) om).2⟩) ?_
 refine yf ?_
 exact xe 3
 refine xc 3 (fun h6=>?_) fun h6=>?_
 have g7:@Ne Int a0.1 ((5:Nat):Int):=ieq_f h5
 have g8:@Eq Int a0.1 ((7:Nat):Int):=ieq_t h6
 refine xsp (nilB a0.2.2.2.2.2.2) (fun h9=>?_) fun h9=>?_
 refine xhv 1 0 (.cs 27 [(.i .i64 a0.1),(.i .i64 a0.2.1),(.s (U (α:=Nat) a0.2.2.1) a0.2.2.1),(.s (U (α:=Nat) a0.2.2.2.1) a0.2.2.2.1),(.isl .str a0.2.2.2.2.1),(.isl .str a0.2.2.2.2.2.1),(.isl (.int .i64) a0.2.2.2.2.2.2)] false) (.cs 27 [(.i .i64 a0.1),(.i .i64 a0.2.1),(.s (U (α:=Nat) a0.2.2.1) a0.2.2.1),(.s (U (α:=Nat) a0.2.2.2.1) a0.2.2.2.1),(.isl .str a0.2.2.2.2.1),(.isl .str a0.2.2.2.2.2.1),(.isl (.int .i64) [])] false) (congrArg (fun z=>Blk.cs 27 [(.i .i64 a0.1),(.i .i64 a0.2.1),(.s (U (α:=Nat) a0.2.2.1) a0.2.2.1),(.s (U (α:=Nat) a0.2.2.2.1) a0.2.2.2.1),(.isl .str a0.2.2.2.2.1),(.isl .str a0.2.2.2.2.2.1),.isl (.int .i64) z] false) (nilB_t h9)) ?_
 refine xun 3 20 ?_
 refine xr 11 ?_
 refine ycl 2 k20 (a0.2.1,()) (c20 a0.2.1) (p20 ⟨by first|assumption|exact(allR_get (by assumption) om).1,by first|assumption|exact(allR_get (by assumption) om).2⟩) ?_
 refine yf ?_
 exact xe 17
 have z10:=nilB_f h9
 refine xr 1 ?_
 have b11:U a0.2.2.2.2.2.2≤Bn:=hbd.1.2.2.2.2.2.2.1
 refine zo 5 (zapX 0 3 2 8 2 false (.int .i64) [a0.2.1] a0.2.2.2.2.2.2 (by assumption) fo4 (zf ?_))
 refine yf ?_
 have b12:U ([a0.2.1]++a0.2.2.2.2.2.2)=U [a0.2.1]+U a0.2.2.2.2.2.2:=La ..
 have b13:U [a0.2.1]=1:=rfl
 refine xlCi 2 4 (fun v (s1:Nat×List (den .str))=>[(path 2,(.v (.slice none 0 0))),(path 3,v),(path 34,(.sl (path 3) 0 (wd (.int .i64)) (U ([a0.2.1]++a0.2.2.2.2.2.2)) (U ([a0.2.1]++a0.2.2.2.2.2.2)) false)),(path 35,(.i .i64 (J (U ([a0.2.1]++a0.2.2.2.2.2.2))))),(path 36,(.i .i64 (J s1.1)))]) (fun v (s1:Nat×List (den .str))=>[some (.cs 27 [(.i .i64 a0.1),(.i .i64 a0.2.1),(.s (U (α:=Nat) a0.2.2.1) a0.2.2.1),(.s (U (α:=Nat) a0.2.2.2.1) a0.2.2.2.1),(.isl .str a0.2.2.2.2.1),(.isl .str a0.2.2.2.2.2.1),(.isl (.int .i64) a0.2.2.2.2.2.2)] false),some .dead,some (.cs 2 [(.i .i64 a0.2.1)] false),some (.cs 2 (flatT (.int .i64) ([a0.2.1]++a0.2.2.2.2.2.2)) false)]) (fun s1=>(.sl (path 4) 0 (wd .str) (U s1.2) (U s1.2) false)) (fun s1=>(.cs 9 (flatT .str s1.2) false)) (fun s1=>s1.1≤U ([a0.2.1]++a0.2.2.2.2.2.2)∧U s1.2≤s1.1+1) (fun(s1:Nat×List (den .str))=>U ([a0.2.1]++a0.2.2.2.2.2.2) - s1.1) ⟨Nz _,fo3⟩ fo3 1 (.sl (path 1) 0 1 1 1 true) [false,true] (gN kr) ⟨bS bk1,bS trivial,bS bk1,bS bF,trivial⟩ fun s1 i1=>?_
 obtain⟨hi1,hl1⟩:=i1
 refine xc 4 (fun h14=>?_) fun h14=>?_
 refine xr 4 ?_
 have g15:=lt_of_nle h14
 have b16:U ([a0.2.1]++a0.2.2.2.2.2.2)=U [a0.2.1]+U a0.2.2.2.2.2.2:=La ..
 have b17:U [a0.2.1]=1:=rfl
 refine yie 0 3 (wd (.int .i64)) (U ([a0.2.1]++a0.2.2.2.2.2.2)) (U ([a0.2.1]++a0.2.2.2.2.2.2)) false s1.1 fo2 ?_
 refine yl1 0 3 (.int .i64) ([a0.2.1]++a0.2.2.2.2.2.2) s1.1 0 (.i .i64 (gt (.int .i64) ([a0.2.1]++a0.2.2.2.2.2.2) s1.1)) fo2 ?_
 refine yf ?_
 refine xr 1 ?_
 refine ycl 2 k20 ((gt (.int .i64) ([a0.2.1]++a0.2.2.2.2.2.2) s1.1),()) (c20 (gt (.int .i64) ([a0.2.1]++a0.2.2.2.2.2.2) s1.1)) (p20 ⟨by first|assumption|exact(allR_get (by assumption) om).1,by first|assumption|exact(allR_get (by assumption) om).2⟩) ?_
 refine zo 1 (zapn 0 6 9 16 4 .str s1.2 ((c20 (gt (.int .i64) ([a0.2.1]++a0.2.2.2.2.2.2) s1.1)).1) fo4 (zf ?_))
 refine yf ?_
 refine xsv 3 36 (.i .i64 (wr .i64 ((J s1.1)+(J 1)))) (.i .i64 (J s1.1+1)) (wr_inc om) ?_
 exact xgC 0 6 (.sl (path 6) 0 (wd .str) (U (s1.2++[(c20 (gt (.int .i64) ([a0.2.1]++a0.2.2.2.2.2.2) s1.1)).1])) (U (s1.2++[(c20 (gt (.int .i64) ([a0.2.1]++a0.2.2.2.2.2.2) s1.1)).1])) false) [false,true] ⟨⟨fo3,fo3⟩,fo3⟩ (gN kr) ⟨bS bk1,bS trivial,bS bk1,bS bF,trivial⟩
 refine xbC 1 ?_
 have g15:=le_of_nle h14
 refine xgv 4 3 4 9 (U s1.2) false .str s1.2 fo4 ?_
 exact xe 2
 exact xe 5
theorem p18 {a0:den y26} (h:allT tPl a0.2.2.2.2.1=true∧allT tPl a0.2.2.2.2.2.1=true∧U a0.2.2.2.2.1≤1000∧U a0.2.2.2.2.2.1≤1000∧U a0.2.2.2.2.2.2≤1000∧@LE.le Int _ 1 a0.1∧@LE.le Int _ a0.1 7∧U (c48 a0).1≤3000∧0<U (c48 a0).1∧@LE.le Int _ (-9223372036854775808) a0.2.1∧@LE.le Int _ a0.2.1 9223372036854775807∧allR ([a0.2.1]++a0.2.2.2.2.2.2)=true):k18.F (a0,())=some (c18 a0):=if_pos h
theorem o18:OK Bn k18:=xOp fun x (hp:allT tPl x.1.2.2.2.2.1=true∧allT tPl x.1.2.2.2.2.2.1=true∧U x.1.2.2.2.2.1≤1000∧U x.1.2.2.2.2.2.1≤1000∧U x.1.2.2.2.2.2.2≤1000∧@LE.le Int _ 1 x.1.1∧@LE.le Int _ x.1.1 7∧U (c48 x.1).1≤3000∧0<U (c48 x.1).1∧@LE.le Int _ (-9223372036854775808) x.1.2.1∧@LE.le Int _ x.1.2.1 9223372036854775807∧allR ([x.1.2.1]++x.1.2.2.2.2.2.2)=true)=>t18 _ hp.1 hp.2.1 hp.2.2.1 hp.2.2.2.1 hp.2.2.2.2.1 hp.2.2.2.2.2.1 hp.2.2.2.2.2.2.1 hp.2.2.2.2.2.2.2.1 hp.2.2.2.2.2.2.2.2.1 hp.2.2.2.2.2.2.2.2.2.1 hp.2.2.2.2.2.2.2.2.2.2.1 hp.2.2.2.2.2.2.2.2.2.2.2
end Go.Ev
end
noncomputable section
namespace Go.Ev
open Go.Proofs
set_option maxRecDepth 100000
set_option maxHeartbeats 2000000
variable {Bn:Nat} [BOk Bn]
def c22 (a0:List Nat):denL [⟨false,.bool⟩]:=((c23 a0 ([32]:List Nat)).1,())
open Classical in
def k22:Con:=⟨22,[⟨false,.str⟩],[⟨false,.bool⟩],fun x=>if U (α:=Nat) x.1≤4294967280 then some (c22 x.1) else none⟩
theorem t22 (a0:List Nat) (r0:U (α:=Nat) a0≤4294967280):KC Bn k22 (a0,()) (c22 a0):=by
 refine xI (uL [k23] (okC o23 ok0)) Tryz.func22 fun hbd hB=>?_
 refine xr 4 ?_
 have b1:U (α:=Nat) a0≤1152921504606846976:=hbd.1
 refine ycl 1 k23 (a0,([32]:List Nat),()) (c23 a0 ([32]:List Nat)) (p23 fo1) ?_
 refine yf ?_
 exact xe 1
theorem p22 {a0:List Nat} (h:U (α:=Nat) a0≤4294967280):k22.F (a0,())=some (c22 a0):=if_pos h
theorem o22:OK Bn k22:=xOp fun x (hp:U (α:=Nat) x.1≤4294967280)=>t22 _ hp
def c50_22_L1 (a0:den (.sl .str)) (a1:den (.clo 22 .unit)):(Nat×Nat)→Out (Nat×Nat) (denL [⟨false,(.int .i64)⟩]):=fun s1=>(cd (!iLe (J (U a0)) (J s1.2)) (cd (c22 (gt .str a0 s1.2)).1 (.ret ((J s1.2),())) (.go (s1.1,s1.2+1))) (.brk s1))
def c50_22 (a0:den (.sl .str)) (a1:den (.clo 22 .unit)):denL [⟨false,(.int .i64)⟩]:=(outE (dfR _) (fun s1=>((Int.negSucc 0),())) (fun r=>r) (scan (c50_22_L1 a0 a1) ((U a0) - 0+1) (0,0)))
open Classical in
def k50_22:Con:=⟨50,[⟨false,(.sl .str)⟩,⟨false,(.clo 22 .unit)⟩],[⟨false,(.int .i64)⟩],fun x=>if allLn x.1=true then some (c50_22 x.1 x.2.1) else none⟩
theorem t50_22 (a0:den (.sl .str)) (a1:den (.clo 22 .unit)) (r0:allLn a0=true):KC Bn k50_22 (a0,a1,()) (c50_22 a0 a1):=by
 refine xI (uL [k22] (okC o22 ok0)) Tryz.func50 fun hbd hB=>?_
 have b1:U a0≤Bn:=hbd.1.1
 refine xlc 8 0 (fun(s1:Nat×Nat)=>[(path 0,(.isl .str a0)),(path 1,(.f (.func 22) [] [])),(path 4,(.i .i64 (J s1.1))),(path 7,(.i .i64 (J (U a0)))),(path 8,(.i .i64 (J s1.2)))]) (fun _=>[]) (fun s1=>s1.2) (U a0) om fun s1 (i1:s1.2≤(U a0))=>?_
 refine xc 4 (fun h2=>?_) fun h2=>?_
 refine xr 7 ?_
 have g3:=lt_of_nle h2
 have x4:s1.2<U a0:=fo2
 refine yi 3 .str a0 s1.2 x4 ?_
 have b5:U (α:=Nat) (gt .str a0 s1.2)≤1152921504606846976:=(bd_gt hbd.1 x4)
 refine ycl 1 k22 ((gt .str a0 s1.2),()) (c22 (gt .str a0 s1.2)) (p22 (by first|assumption|exact allLn_get (by assumption) om)) ?_
 refine yf ?_
 refine xc 1 (fun h6=>?_) fun h6=>?_
 refine xt 5 ?_
 exact xe 0
 exact xg 3 (gI om) (hN 4 s1.2 om)
 refine xb 1 ?_
 exact xe 5
theorem p50_22 {a0:den (.sl .str)}{a1:den (.clo 22 .unit)} (h:allLn a0=true):k50_22.F (a0,a1,())=some (c50_22 a0 a1):=if_pos h
theorem o50_22:OK Bn k50_22:=xOp fun x (hp:allLn x.1=true)=>t50_22 _ _ hp
def c21_22 (a0:den (.sl .str)) (a1:den (.clo 22 .unit)):denL [⟨false,.bool⟩]:=((iLe (J 0) (c50_22 a0 ()).1),())
open Classical in
def k21_22:Con:=⟨21,[⟨false,(.sl .str)⟩,⟨false,(.clo 22 .unit)⟩],[⟨false,.bool⟩],fun x=>if allLn x.1=true then some (c21_22 x.1 x.2.1) else none⟩
theorem t21_22 (a0:den (.sl .str)) (a1:den (.clo 22 .unit)) (r0:allLn a0=true):KC Bn k21_22 (a0,a1,()) (c21_22 a0 a1):=by
 refine xI (uL [k50_22] (okC o50_22 ok0)) Tryz.func21 fun hbd hB=>?_
 refine xr 4 ?_
 have b1:U a0≤Bn:=hbd.1.1
 refine ycl 2 k50_22 (a0,(),()) (c50_22 a0 ()) (p50_22 fo1) ?_
 refine yf ?_
 exact xe 1
theorem p21_22 {a0:den (.sl .str)}{a1:den (.clo 22 .unit)} (h:allLn a0=true):k21_22.F (a0,a1,())=some (c21_22 a0 a1):=if_pos h
theorem o21_22:OK Bn k21_22:=xOp fun x (hp:allLn x.1=true)=>t21_22 _ _ hp
def c6 (a0:den y28):denL [⟨false,.str⟩]:=(cd (!(c17 a0).1) (([]:List Nat),()) (cd (iEq a0.1 (J 1)) (cd (c21_22 ((c18 a0.2.2).1) ()).1 (([]:List Nat),()) ((c24 ((c18 a0.2.2).1) ([32]:List Nat)).1,())) (cd (iEq a0.1 (J 3)) (cd (c21_22 [(c19 a0.1).1,(c20 a0.2.1).1] ()).1 (([]:List Nat),()) ((c24 [(c19 a0.1).1,(c20 a0.2.1).1] ([32]:List Nat)).1,())) (cd (iEq a0.1 (J 4)) (cd (c21_22 [(c19 a0.1).1,(c20 a0.2.1).1] ()).1 (([]:List Nat),()) ((c24 [(c19 a0.1).1,(c20 a0.2.1).1] ([32]:List Nat)).1,())) (cd (iEq a0.1 (J 5)) (cd (c21_22 [(c19 a0.1).1,(c20 a0.2.1).1] ()).1 (([]:List Nat),()) ((c24 [(c19 a0.1).1,(c20 a0.2.1).1] ([32]:List Nat)).1,())) (cd (c21_22 [(c19 a0.1).1] ()).1 (([]:List Nat),()) ((c24 [(c19 a0.1).1] ([32]:List Nat)).1,())))))))
open Classical in
def k6:Con:=⟨6,[⟨true,y28⟩],[⟨false,.str⟩],fun x=>if allT tPl x.1.2.2.2.2.2.2.1=true∧allT tPl x.1.2.2.2.2.2.2.2.1=true∧U x.1.2.2.2.2.2.2.1≤1000∧U x.1.2.2.2.2.2.2.2.1≤1000∧U x.1.2.2.2.2.2.2.2.2≤1000∧U (c48 x.1.2.2).1≤3000∧0<U (c48 x.1.2.2).1∧@LE.le Int _ (-9223372036854775808) x.1.2.2.2.1∧@LE.le Int _ x.1.2.2.2.1 9223372036854775807∧allR ([x.1.2.2.2.1]++x.1.2.2.2.2.2.2.2.2)=true∧U (c18 x.1.2.2).1≤1000000∧U (α:=Nat) (joinN [32] (c18 x.1.2.2).1)≤1099511627776∧U (α:=Nat) (joinN [32] [(c19 x.1.1).1,(c20 x.1.2.1).1])≤1099511627776∧U (α:=Nat) (joinN [32] [(c19 x.1.1).1])≤1099511627776∧@LE.le Int _ (-9223372036854775808) x.1.2.1∧@LE.le Int _ x.1.2.1 9223372036854775807∧allLn (c18 x.1.2.2).1=true∧allLn [(c19 x.1.1).1,(c20 x.1.2.1).1]=true∧allLn [(c19 x.1.1).1]=true then some (c6 x.1) else none⟩
theorem t6 (a0:den y28) (r0:allT tPl a0.2.2.2.2.2.2.1=true) (r1:allT tPl a0.2.2.2.2.2.2.2.1=true) (r2:U a0.2.2.2.2.2.2.1≤1000) (r3:U a0.2.2.2.2.2.2.2.1≤1000) (r4:U a0.2.2.2.2.2.2.2.2≤1000) (r5:U (c48 a0.2.2).1≤3000) (r6:0<U (c48 a0.2.2).1) (r7:@LE.le Int _ (-9223372036854775808) a0.2.2.2.1) (r8:@LE.le Int _ a0.2.2.2.1 9223372036854775807) (r9:allR ([a0.2.2.2.1]++a0.2.2.2.2.2.2.2.2)=true) (r10:U (c18 a0.2.2).1≤1000000) (r11:U (α:=Nat) (joinN [32] (c18 a0.2.2).1)≤1099511627776) (r12:U (α:=Nat) (joinN [32] [(c19 a0.1).1,(c20 a0.2.1).1])≤1099511627776) (r13:U (α:=Nat) (joinN [32] [(c19 a0.1).1])≤1099511627776) (r14:@LE.le Int _ (-9223372036854775808) a0.2.1) (r15:@LE.le Int _ a0.2.1 9223372036854775807) (r16:allLn (c18 a0.2.2).1=true) (r17:allLn [(c19 a0.1).1,(c20 a0.2.1).1]=true) (r18:allLn [(c19 a0.1).1]=true):KC Bn k6 (a0,()) (c6 a0):=by
 refine xI (uL [k21_22,k17,k18,k19,k20,k24] (okC o21_22 (okC o17 (okC o18 (okC o19 (okC o20 (okC o24 ok0))))))) Tryz.func6 fun hbd hB=>?_
 refine xc 7 (fun h1=>?_) fun h1=>?_
 exact xe 4
 have g2:=c17_n h1
 refine xc 12 (fun h3=>?_) fun h3=>?_
 refine xr 0 ?_
 have g4:@Eq Int a0.1 ((1:Nat):Int):=ieq_t h3
 refine ycl 2 k18 (a0.2.2,()) (c18 a0.2.2) (p18 ⟨fo1,fo1,fo1,fo1,fo1,fo1,fo1,fo1,fo1,fo1,fo1,fo1⟩) ?_
 refine yf ?_
 refine xr 4 ?_
 refine ycl 1 k21_22 ((c18 a0.2.2).1,(),()) (c21_22 ((c18 a0.2.2).1) ()) (p21_22 fo1) ?_
 refine yf ?_
 refine xc 1 (fun h5=>?_) fun h5=>?_
 exact xe 4
 refine xr 2 ?_
 refine ycl 1 k24 ((c18 a0.2.2).1,([32]:List Nat),()) (c24 ((c18 a0.2.2).1) ([32]:List Nat)) (p24 (by first|assumption|exact⟨fo8,by assumption⟩)) ?_
 refine yf ?_
 exact xe 1
 have g4:@Ne Int a0.1 ((1:Nat):Int):=ieq_f h3
 refine xc 4 (fun h5=>?_) fun h5=>?_
 refine xw 2 ?_
 have g6:@Eq Int a0.1 ((3:Nat):Int):=ieq_t h5
 refine zcd 3 k19 (a0.1,()) (c19 a0.1) (p19 (by first|exact ss_in om om|(refine ss_in ?_ ?_<;>(simp only[Io];omega)))) ?_
 refine zcd 2 k20 (a0.2.1,()) (c20 a0.2.1) (p20 ⟨fo1,fo1⟩) ?_
 refine zfd ?_
 refine xr 4 ?_
 refine ycl 1 k21_22 ([(c19 a0.1).1,(c20 a0.2.1).1],(),()) (c21_22 [(c19 a0.1).1,(c20 a0.2.1).1] ()) (p21_22 fo1) ?_
 refine yf ?_
 refine xc 1 (fun h7=>?_) fun h7=>?_
 exact xe 4
 refine xr 2 ?_
 refine ycl 1 k24 ([(c19 a0.1).1,(c20 a0.2.1).1],([32]:List Nat),()) (c24 [(c19 a0.1).1,(c20 a0.2.1).1] ([32]:List Nat)) (p24 (by first|assumption|exact⟨fo8,by assumption⟩)) ?_
 refine yf ?_
 exact xe 1
 have g6:@Ne Int a0.1 ((3:Nat):Int):=ieq_f h5
 refine xc 3 (fun h7=>?_) fun h7=>?_
 refine xw 2 ?_
 have g8:@Eq Int a0.1 ((4:Nat):Int):=ieq_t h7
 refine zcd 3 k19 (a0.1,()) (c19 a0.1) (p19 (by first|exact ss_in om om|(refine ss_in ?_ ?_<;>(simp only[Io];omega)))) ?_
 refine zcd 2 k20 (a0.2.1,()) (c20 a0.2.1) (p20 ⟨fo1,fo1⟩) ?_
 refine zfd ?_
 refine xr 4 ?_
 refine ycl 1 k21_22 ([(c19 a0.1).1,(c20 a0.2.1).1],(),()) (c21_22 [(c19 a0.1).1,(c20 a0.2.1).1] ()) (p21_22 fo1) ?_
 refine yf ?_
 refine xc 1 (fun h9=>?_) fun h9=>?_
 exact xe 4
 refine xr 2 ?_
 refine ycl 1 k24 ([(c19 a0.1).1,(c20 a0.2.1).1],([32]:List Nat),()) (c24 [(c19 a0.1).1,(c20 a0.2.1).1] ([32]:List Nat)) (p24 (by first|assumption|exact⟨fo8,by assumption⟩)) ?_
 refine yf ?_
 exact xe 1
 have g8:@Ne Int a0.1 ((4:Nat):Int):=ieq_f h7
 refine xc 2 (fun h9=>?_) fun h9=>?_
 refine xw 0 ?_
 have g10:@Eq Int a0.1 ((5:Nat):Int):=ieq_t h9
 refine zcd 3 k19 (a0.1,()) (c19 a0.1) (p19 (by first|exact ss_in om om|(refine ss_in ?_ ?_<;>(simp only[Io];omega)))) ?_
 refine zcd 2 k20 (a0.2.1,()) (c20 a0.2.1) (p20 ⟨fo1,fo1⟩) ?_
 refine zfd ?_
 refine xr 4 ?_
 refine ycl 1 k21_22 ([(c19 a0.1).1,(c20 a0.2.1).1],(),()) (c21_22 [(c19 a0.1).1,(c20 a0.2.1).1] ()) (p21_22 fo1) ?_
 refine yf ?_
 refine xc 1 (fun h11=>?_) fun h11=>?_
 exact xe 4
 refine xr 2 ?_
 refine ycl 1 k24 ([(c19 a0.1).1,(c20 a0.2.1).1],([32]:List Nat),()) (c24 [(c19 a0.1).1,(c20 a0.2.1).1] ([32]:List Nat)) (p24 (by first|assumption|exact⟨fo8,by assumption⟩)) ?_
 refine yf ?_
 exact xe 1
 refine xr 0 ?_
 have g10:@Ne Int a0.1 ((5:Nat):Int):=ieq_f h9
 refine ycl 3 k19 (a0.1,()) (c19 a0.1) (p19 (by first|exact ss_in om om|(refine ss_in ?_ ?_<;>(simp only[Io];omega)))) ?_
 refine yf ?_
 refine xr 4 ?_
 refine ycl 1 k21_22 ([(c19 a0.1).1],(),()) (c21_22 [(c19 a0.1).1] ()) (p21_22 fo1) ?_
 refine yf ?_
 refine xc 1 (fun h11=>?_) fun h11=>?_
 exact xe 4
 refine xr 2 ?_
 refine ycl 1 k24 ([(c19 a0.1).1],([32]:List Nat),()) (c24 [(c19 a0.1).1] ([32]:List Nat)) (p24 (by first|assumption|exact⟨fo8,by assumption⟩)) ?_
 refine yf ?_
 exact xe 1
theorem p6 {a0:den y28} (h:allT tPl a0.2.2.2.2.2.2.1=true∧allT tPl a0.2.2.2.2.2.2.2.1=true∧U a0.2.2.2.2.2.2.1≤1000∧U a0.2.2.2.2.2.2.2.1≤1000∧U a0.2.2.2.2.2.2.2.2≤1000∧U (c48 a0.2.2).1≤3000∧0<U (c48 a0.2.2).1∧@LE.le Int _ (-9223372036854775808) a0.2.2.2.1∧@LE.le Int _ a0.2.2.2.1 9223372036854775807∧allR ([a0.2.2.2.1]++a0.2.2.2.2.2.2.2.2)=true∧U (c18 a0.2.2).1≤1000000∧U (α:=Nat) (joinN [32] (c18 a0.2.2).1)≤1099511627776∧U (α:=Nat) (joinN [32] [(c19 a0.1).1,(c20 a0.2.1).1])≤1099511627776∧U (α:=Nat) (joinN [32] [(c19 a0.1).1])≤1099511627776∧@LE.le Int _ (-9223372036854775808) a0.2.1∧@LE.le Int _ a0.2.1 9223372036854775807∧allLn (c18 a0.2.2).1=true∧allLn [(c19 a0.1).1,(c20 a0.2.1).1]=true∧allLn [(c19 a0.1).1]=true):k6.F (a0,())=some (c6 a0):=if_pos h
theorem o6:OK Bn k6:=xOp fun x (hp:allT tPl x.1.2.2.2.2.2.2.1=true∧allT tPl x.1.2.2.2.2.2.2.2.1=true∧U x.1.2.2.2.2.2.2.1≤1000∧U x.1.2.2.2.2.2.2.2.1≤1000∧U x.1.2.2.2.2.2.2.2.2≤1000∧U (c48 x.1.2.2).1≤3000∧0<U (c48 x.1.2.2).1∧@LE.le Int _ (-9223372036854775808) x.1.2.2.2.1∧@LE.le Int _ x.1.2.2.2.1 9223372036854775807∧allR ([x.1.2.2.2.1]++x.1.2.2.2.2.2.2.2.2)=true∧U (c18 x.1.2.2).1≤1000000∧U (α:=Nat) (joinN [32] (c18 x.1.2.2).1)≤1099511627776∧U (α:=Nat) (joinN [32] [(c19 x.1.1).1,(c20 x.1.2.1).1])≤1099511627776∧U (α:=Nat) (joinN [32] [(c19 x.1.1).1])≤1099511627776∧@LE.le Int _ (-9223372036854775808) x.1.2.1∧@LE.le Int _ x.1.2.1 9223372036854775807∧allLn (c18 x.1.2.2).1=true∧allLn [(c19 x.1.1).1,(c20 x.1.2.1).1]=true∧allLn [(c19 x.1.1).1]=true)=>t6 _ hp.1 hp.2.1 hp.2.2.1 hp.2.2.2.1 hp.2.2.2.2.1 hp.2.2.2.2.2.1 hp.2.2.2.2.2.2.1 hp.2.2.2.2.2.2.2.1 hp.2.2.2.2.2.2.2.2.1 hp.2.2.2.2.2.2.2.2.2.1 hp.2.2.2.2.2.2.2.2.2.2.1 hp.2.2.2.2.2.2.2.2.2.2.2.1 hp.2.2.2.2.2.2.2.2.2.2.2.2.1 hp.2.2.2.2.2.2.2.2.2.2.2.2.2.1 hp.2.2.2.2.2.2.2.2.2.2.2.2.2.2.1 hp.2.2.2.2.2.2.2.2.2.2.2.2.2.2.2.1 hp.2.2.2.2.2.2.2.2.2.2.2.2.2.2.2.2.1 hp.2.2.2.2.2.2.2.2.2.2.2.2.2.2.2.2.2.1 hp.2.2.2.2.2.2.2.2.2.2.2.2.2.2.2.2.2.2
def okAct (b:den y26):Prop:=allT tPl b.2.2.2.2.1=true∧allT tPl b.2.2.2.2.2.1=true∧U b.2.2.2.2.1≤1000∧U b.2.2.2.2.2.1≤1000∧U b.2.2.2.2.2.2≤1000∧U (c48 b).1≤3000∧0<U (c48 b).1∧@LE.le Int _ (-9223372036854775808) b.2.1∧@LE.le Int _ b.2.1 9223372036854775807∧allR ([b.2.1]++b.2.2.2.2.2.2)=true∧U (c18 b).1≤1000000∧U (α:=Nat) (joinN [32] (c18 b).1)≤1099511627776∧allLn (c18 b).1=true
theorem okSA {k t:Int}{b:den y26} (h:okAct b) (h0:@LE.le Int _ (-9223372036854775808) t) (h1:@LE.le Int _ t 9223372036854775807):allT tPl b.2.2.2.2.1=true∧allT tPl b.2.2.2.2.2.1=true∧U b.2.2.2.2.1≤1000∧U b.2.2.2.2.2.1≤1000∧U b.2.2.2.2.2.2≤1000∧U (c48 b).1≤3000∧0<U (c48 b).1∧@LE.le Int _ (-9223372036854775808) b.2.1∧@LE.le Int _ b.2.1 9223372036854775807∧allR ([b.2.1]++b.2.2.2.2.2.2)=true∧U (c18 b).1≤1000000∧U (α:=Nat) (joinN [32] (c18 b).1)≤1099511627776∧U (α:=Nat) (joinN [32] [(c19 k).1,(c20 t).1])≤1099511627776∧U (α:=Nat) (joinN [32] [(c19 k).1])≤1099511627776∧@LE.le Int _ (-9223372036854775808) t∧@LE.le Int _ t 9223372036854775807∧allLn (c18 b).1=true∧allLn [(c19 k).1,(c20 t).1]=true∧allLn [(c19 k).1]=true:=by
 have l1:U (α:=Nat) (c19 k).1≤1000:=c19_l k
 have l2:U (α:=Nat) (c20 t).1≤1000:=Nt (c49_q t (J 10) h0 h1).1 (by decide)
 exact⟨h.1,h.2.1,h.2.2.1,h.2.2.2.1,h.2.2.2.2.1,h.2.2.2.2.2.1,h.2.2.2.2.2.2.1,h.2.2.2.2.2.2.2.1,h.2.2.2.2.2.2.2.2.1,h.2.2.2.2.2.2.2.2.2.1,h.2.2.2.2.2.2.2.2.2.2.1,h.2.2.2.2.2.2.2.2.2.2.2.1,by rw[joinN_2];show _+1+_≤_;omega,by rw[joinN_1];omega,h0,h1,h.2.2.2.2.2.2.2.2.2.2.2.2,allLn_2 l1 l2,allLn_1 l1⟩
def c27 (a0:List Nat):denL [⟨false,(.sl .str)⟩]:=((c57_58 a0 ()).1,())
open Classical in
def k27:Con:=⟨27,[⟨false,.str⟩],[⟨false,(.sl .str)⟩],fun x=>if asB x.1=true then some (c27 x.1) else none⟩
theorem t27 (a0:List Nat) (r0:asB a0=true):KC Bn k27 (a0,()) (c27 a0):=by
 refine xI (uL [k57_58] (okC o57_58 ok0)) Tryz.func27 fun hbd hB=>?_
 refine xr 4 ?_
 have b1:U (α:=Nat) a0≤1152921504606846976:=hbd.1
 refine ycl 1 k57_58 (a0,(),()) (c57_58 a0 ()) (p57_58 (by assumption)) ?_
 refine yf ?_
 exact xe 1
theorem p27 {a0:List Nat} (h:asB a0=true):k27.F (a0,())=some (c27 a0):=if_pos h
theorem o27:OK Bn k27:=xOp fun x (hp:asB x.1=true)=>t27 _ hp
def c99_L1 (a0:den (.sl .str)) (a1:List Nat):(Nat×Nat)→Out (Nat×Nat) (denL [⟨false,(.int .i64)⟩]):=fun s1=>(cd (!iLe (J (U a0)) (J s1.2)) (cd (sEq a1 (gt .str a0 s1.2)) (.ret ((J s1.2),())) (.go (s1.1,s1.2+1))) (.brk s1))
def c99 (a0:den (.sl .str)) (a1:List Nat):denL [⟨false,(.int .i64)⟩]:=(outE (dfR _) (fun s1=>((Int.negSucc 0),())) (fun r=>r) (scan (c99_L1 a0 a1) ((U a0) - 0+1) (0,0)))
def k99:Con:=⟨99,[⟨false,(.sl .str)⟩,⟨false,.str⟩],[⟨false,(.int .i64)⟩],fun x=>some (c99 x.1 x.2.1)⟩
theorem t99 (a0:den (.sl .str)) (a1:List Nat):KC Bn k99 (a0,a1,()) (c99 a0 a1):=by
 refine xI (uL [] ok0) Tryz.func99 fun hbd hB=>?_
 have b1:U a0≤Bn:=hbd.1.1
 refine xlc 8 0 (fun(s1:Nat×Nat)=>[(path 0,(.isl .str a0)),(path 1,(.s (U (α:=Nat) a1) a1)),(path 4,(.i .i64 (J s1.1))),(path 7,(.i .i64 (J (U a0)))),(path 8,(.i .i64 (J s1.2)))]) (fun _=>[]) (fun s1=>s1.2) (U a0) om fun s1 (i1:s1.2≤(U a0))=>?_
 refine xc 4 (fun h2=>?_) fun h2=>?_
 refine xr 7 ?_
 have g3:=lt_of_nle h2
 have x4:s1.2<U a0:=fo2
 refine yi 3 .str a0 s1.2 x4 ?_
 refine yf ?_
 refine xc 1 (fun h5=>?_) fun h5=>?_
 refine xt 5 ?_
 exact xe 0
 exact xg 3 (gI om) (hN 4 s1.2 om)
 refine xb 1 ?_
 exact xe 5
theorem o99:OK Bn k99:=xO fun x=>t99 _ _
theorem c99_p (a0:den (.sl .str)) (a1:List Nat):@LE.le Int _ (-1) (c99 a0 a1).1∧@LT.lt Int _ (c99 a0 a1).1 ((U a0:Nat):Int):=by
 unfold c99
 rcases scan_end (P:=c99_L1 a0 a1) (Inv:=fun _=>True) (B:=fun _=>True) (R:=fun r=>@LE.le Int _ (-1) r.1∧@LT.lt Int _ r.1 ((U a0:Nat):Int)) (m:=fun s=>U a0 - s.2) (fun s hs=>by
  unfold c99_L1
  cases h1:(!iLe (J (U a0)) (J s.2)) with
  |false=>exact .inr (.inl ⟨_,rfl,trivial⟩)
  |true=>
   have h3:=lt_of_nle h1
   cases h2:sEq a1 (gt .str a0 s.2) with
   |true=>exact .inr (.inr ⟨_,rfl,by dsimp only;simp only[Io];omega,by dsimp only;simp only[Io];omega⟩)
   |false=>exact .inl ⟨_,rfl,trivial,by dsimp only;omega⟩) (U a0 - 0+1) (0,0) (by dsimp only;omega) trivial with ⟨s,h1,h2⟩|⟨r,h1,h2⟩
 ·rw[outB h1]
  exact⟨by show @LE.le Int _ (-1) (Int.negSucc 0);decide,by show @LT.lt Int _ (Int.negSucc 0) _;have:(Int.negSucc 0:Int)= -1:=rfl;omega⟩
 ·rw[outR h1];exact h2
def c100_L1 (a0:den (.sl .str)):(Nat×List (den .str))→Out (Nat×List (den .str)) (denL [⟨false,(.sl .str)⟩]):=fun s1=>(cd (!iLe (J (U a0)) (J s1.1)) (.go (s1.1+1,(s1.2++[(c159 (gt .str a0 s1.1)).1]))) (.brk s1))
def c100 (a0:den (.sl .str)):denL [⟨false,(.sl .str)⟩]:=(outE (dfR _) (fun s1=>(s1.2,())) (fun r=>r) (scan (c100_L1 a0) ((fun(s1:Nat×List (den .str))=>U a0 - s1.1) (0,[])+1) (0,[])))
open Classical in
def k100:Con:=⟨100,[⟨false,(.sl .str)⟩],[⟨false,(.sl .str)⟩],fun x=>if allT tRp x.1=true∧U x.1≤1000 then some (c100 x.1) else none⟩
theorem t100 (a0:den (.sl .str)) (r0:allT tRp a0=true) (r1:U a0≤1000):KC Bn k100 (a0,()) (c100 a0):=by
 refine xI (uL [k159] (okC o159 ok0)) Tryz.func100 fun hbd hB=>?_
 have b1:U a0≤Bn:=hbd.1.1
 refine xlC 11 1 (fun v (s1:Nat×List (den .str))=>[(path 2,(.v (.slice none 0 0))),(path 3,v),(path 9,(.isl .str a0)),(path 10,(.i .i64 (J (U a0)))),(path 11,(.i .i64 (J s1.1)))]) (fun v (s1:Nat×List (den .str))=>[none]) (fun s1=>(apv .em (path 1) .str s1.2)) (fun s1=>(apb 9 .str s1.2)) (fun s1=>s1.1≤U a0∧U s1.2≤s1.1+0) (fun(s1:Nat×List (den .str))=>U a0 - s1.1) ⟨Nz _,fo3⟩ fo3 (rendD ⟨trivial,trivial⟩ kr kr kr) fun s1 i1=>?_
 obtain⟨hi1,hl1⟩:=i1
 refine xc 4 (fun h2=>?_) fun h2=>?_
 refine xr 4 ?_
 have g3:=lt_of_nle h2
 have b4:U a0≤Bn:=hbd.1.1
 have x5:s1.1<U a0:=fo2
 refine yi 0 .str a0 s1.1 x5 ?_
 refine yf ?_
 refine xr 2 ?_
 have b6:U (α:=Nat) (gt .str a0 s1.1)≤1152921504606846976:=(bd_gt hbd.1 x5)
 refine ycl 1 k159 ((gt .str a0 s1.1),()) (c159 (gt .str a0 s1.1)) (p159 (by first|assumption|exact allT_get (by assumption) om)) ?_
 refine yf ?_
 refine xr 1 ?_
 refine zo 3 (zapp 0 3 9 16 .em iv_em 1 .str s1.2 ((c159 (gt .str a0 s1.1)).1) fo4 (zf ?_))
 refine yf ?_
 refine xsv 3 11 (.i .i64 (wr .i64 ((J s1.1)+(J 1)))) (.i .i64 (J s1.1+1)) (wr_inc om) ?_
 exact xgC 0 3 (.sl (path 3) 0 (wd .str) (U (s1.2++[(c159 (gt .str a0 s1.1)).1])) (U (s1.2++[(c159 (gt .str a0 s1.1)).1])) false) [false,true] ⟨⟨fo3,fo3⟩,fo3⟩ (gAn kr) ⟨bS trivial,trivial⟩
 refine xbC 1 ?_
 have g3:=le_of_nle h2
 refine xga 3 3 .em iv_em 1 9 .str s1.2 fo4 ?_
 exact xe 2
theorem p100 {a0:den (.sl .str)} (h:allT tRp a0=true∧U a0≤1000):k100.F (a0,())=some (c100 a0):=if_pos h
theorem o100:OK Bn k100:=xOp fun x (hp:allT tRp x.1=true∧U x.1≤1000)=>t100 _ hp.1 hp.2
def c59 (a0:den (.sl .str)):denL [⟨true,y26⟩]:=(cd (!iLe (J 2) (J (U a0))) (((J 1),(J 0),([]:List Nat),([]:List Nat),[],[],[]),()) (cd (iLe (J 0) (c99 (List.drop 2 (List.take (U a0) a0)) ([105,110]:List Nat)).1) (((J 1),(J 0),(gt .str a0 0),(gt .str a0 1),(c100 (List.drop 0 (List.take (Jn ((c99 (List.drop 2 (List.take (U a0) a0)) ([105,110]:List Nat)).1)) (List.drop 2 (List.take (U a0) a0))))).1,(c100 (List.drop (Jn (wr .i64 ((c99 (List.drop 2 (List.take (U a0) a0)) ([105,110]:List Nat)).1+((1:Nat):Int)))) (List.take (U (List.drop 2 (List.take (U a0) a0))) (List.drop 2 (List.take (U a0) a0))))).1,[]),()) (((J 1),(J 0),(gt .str a0 0),(gt .str a0 1),(c100 (List.drop 2 (List.take (U a0) a0))).1,(c100 []).1,[]),())))
open Classical in
def k59:Con:=⟨59,[⟨false,(.sl .str)⟩],[⟨true,y26⟩],fun x=>if allT tRp (List.drop 2 x.1)=true∧U x.1≤1000 then some (c59 x.1) else none⟩
theorem t59 (a0:den (.sl .str)) (r0:allT tRp (List.drop 2 a0)=true) (r1:U a0≤1000):KC Bn k59 (a0,()) (c59 a0):=by
 refine xI (uL [k100,k99] (okC o100 (okC o99 ok0))) Tryz.func59 fun hbd hB=>?_
 refine xc 10 (fun h1=>?_) fun h1=>?_
 exact xe 4
 refine xw 2 ?_
 have g2:=le_of_nle h1
 have b3:U a0≤Bn:=hbd.1.1
 have x4:0<U a0:=fo2
 refine zdi 1 .str a0 0 x4 ?_
 have x5:1<U a0:=fo2
 refine zdi 2 .str a0 1 x5 ?_
 refine zfd ?_
 refine xr 2 ?_
 refine yl 1 .str a0 (some 2) none (Nr _) (by show 2≤(U a0);omega) ?_
 refine yf ?_
 have b6:U (List.drop 2 (List.take (U a0) a0))=min (U a0) (U a0) - 2:=by simp only[Tk,Ld]
 have p7:@LE.le Int _ (-1) (c99 (List.drop 2 (List.take (U a0) a0)) ([105,110]:List Nat)).1∧@LT.lt Int _ (c99 (List.drop 2 (List.take (U a0) a0)) ([105,110]:List Nat)).1 ((U (List.drop 2 (List.take (U a0) a0)):Nat):Int):=c99_p (List.drop 2 (List.take (U a0) a0)) ([105,110]:List Nat)
 refine xc 8 (fun h8=>?_) fun h8=>?_
 refine xd 0 ?_
 have g9:@LE.le Int _ ((0:Nat):Int) ((c99 (List.drop 2 (List.take (U a0) a0)) ([105,110]:List Nat)).1):=ile_t h8
 refine yv 2 28 (.i .i64 (c99 (List.drop 2 (List.take (U a0) a0)) ([105,110]:List Nat)).1) (.i .i64 (J (Jn ((c99 (List.drop 2 (List.take (U a0) a0)) ([105,110]:List Nat)).1)))) (toNat_av (show @LE.le Int _ 0 ((c99 (List.drop 2 (List.take (U a0) a0)) ([105,110]:List Nat)).1) by omega)) ?_
 refine yl 0 .str (List.drop 2 (List.take (U a0) a0)) none (some (Jn ((c99 (List.drop 2 (List.take (U a0) a0)) ([105,110]:List Nat)).1))) (by show(Jn ((c99 (List.drop 2 (List.take (U a0) a0)) ([105,110]:List Nat)).1))≤(U (List.drop 2 (List.take (U a0) a0)));omega) (Nz _) ?_
 try (have w10:@Eq Int (wr .i64 ((c99 (List.drop 2 (List.take (U a0) a0)) ([105,110]:List Nat)).1+((1:Nat):Int))) ((c99 (List.drop 2 (List.take (U a0) a0)) ([105,110]:List Nat)).1+((1:Nat):Int)):=wr_id om om)
 refine yv 3 32 (.i .i64 (wr .i64 ((c99 (List.drop 2 (List.take (U a0) a0)) ([105,110]:List Nat)).1+(J 1)))) (.i .i64 (J (Jn (wr .i64 ((c99 (List.drop 2 (List.take (U a0) a0)) ([105,110]:List Nat)).1+((1:Nat):Int)))))) (toNat_av (show @LE.le Int _ 0 (wr .i64 ((c99 (List.drop 2 (List.take (U a0) a0)) ([105,110]:List Nat)).1+((1:Nat):Int))) by omega)) ?_
 refine yl 0 .str (List.drop 2 (List.take (U a0) a0)) (some (Jn (wr .i64 ((c99 (List.drop 2 (List.take (U a0) a0)) ([105,110]:List Nat)).1+((1:Nat):Int))))) none (Nr _) (by show(Jn (wr .i64 ((c99 (List.drop 2 (List.take (U a0) a0)) ([105,110]:List Nat)).1+((1:Nat):Int))))≤(U (List.drop 2 (List.take (U a0) a0)));omega) ?_
 refine yf ?_
 refine xr 2 ?_
 have b11:U (List.drop 0 (List.take (Jn ((c99 (List.drop 2 (List.take (U a0) a0)) ([105,110]:List Nat)).1)) (List.drop 2 (List.take (U a0) a0))))=min (Jn ((c99 (List.drop 2 (List.take (U a0) a0)) ([105,110]:List Nat)).1)) (U (List.drop 2 (List.take (U a0) a0))) - 0:=by simp only[Tk,Ld]
 refine ycl 1 k100 ((List.drop 0 (List.take (Jn ((c99 (List.drop 2 (List.take (U a0) a0)) ([105,110]:List Nat)).1)) (List.drop 2 (List.take (U a0) a0)))),()) (c100 (List.drop 0 (List.take (Jn ((c99 (List.drop 2 (List.take (U a0) a0)) ([105,110]:List Nat)).1)) (List.drop 2 (List.take (U a0) a0))))) (p100 ⟨by first|assumption|exact rfl|(simp only[List.take_length];first|assumption|exact allT_take _ (by assumption)|exact allT_drop _ (by assumption)|exact allT_take _ (allT_drop _ (by assumption))|exact allT_drop _ (allT_drop _ (by assumption))),fo1⟩) ?_
 have b12:U (List.drop (Jn (wr .i64 ((c99 (List.drop 2 (List.take (U a0) a0)) ([105,110]:List Nat)).1+((1:Nat):Int)))) (List.take (U (List.drop 2 (List.take (U a0) a0))) (List.drop 2 (List.take (U a0) a0))))=min (U (List.drop 2 (List.take (U a0) a0))) (U (List.drop 2 (List.take (U a0) a0))) - (Jn (wr .i64 ((c99 (List.drop 2 (List.take (U a0) a0)) ([105,110]:List Nat)).1+((1:Nat):Int)))):=by simp only[Tk,Ld]
 refine ycl 1 k100 ((List.drop (Jn (wr .i64 ((c99 (List.drop 2 (List.take (U a0) a0)) ([105,110]:List Nat)).1+((1:Nat):Int)))) (List.take (U (List.drop 2 (List.take (U a0) a0))) (List.drop 2 (List.take (U a0) a0)))),()) (c100 (List.drop (Jn (wr .i64 ((c99 (List.drop 2 (List.take (U a0) a0)) ([105,110]:List Nat)).1+((1:Nat):Int)))) (List.take (U (List.drop 2 (List.take (U a0) a0))) (List.drop 2 (List.take (U a0) a0))))) (p100 ⟨by first|assumption|exact rfl|(simp only[List.take_length];first|assumption|exact allT_take _ (by assumption)|exact allT_drop _ (by assumption)|exact allT_take _ (allT_drop _ (by assumption))|exact allT_drop _ (allT_drop _ (by assumption))),fo1⟩) ?_
 refine yf ?_
 exact xe 4
 refine xr 2 ?_
 have g9:@LT.lt Int _ ((c99 (List.drop 2 (List.take (U a0) a0)) ([105,110]:List Nat)).1) ((0:Nat):Int):=ile_f h8
 refine ycl 1 k100 ((List.drop 2 (List.take (U a0) a0)),()) (c100 (List.drop 2 (List.take (U a0) a0))) (p100 ⟨by first|assumption|exact rfl|(simp only[List.take_length];first|assumption|exact allT_take _ (by assumption)|exact allT_drop _ (by assumption)|exact allT_take _ (allT_drop _ (by assumption))|exact allT_drop _ (allT_drop _ (by assumption))),fo1⟩) ?_
 refine ycl 1 k100 ([],()) (c100 []) (p100 ⟨by first|assumption|exact rfl|(simp only[List.take_length];first|assumption|exact allT_take _ (by assumption)|exact allT_drop _ (by assumption)|exact allT_take _ (allT_drop _ (by assumption))|exact allT_drop _ (allT_drop _ (by assumption))),fo1⟩) ?_
 refine yf ?_
 exact xe 4
theorem p59 {a0:den (.sl .str)} (h:allT tRp (List.drop 2 a0)=true∧U a0≤1000):k59.F (a0,())=some (c59 a0):=if_pos h
theorem o59:OK Bn k59:=xOp fun x (hp:allT tRp (List.drop 2 x.1)=true∧U x.1≤1000)=>t59 _ hp.1 hp.2
def c29_L1 (a0:Int) (a1:den (.sl .str)):(Nat×Int×List (den (.int .i64)))→Out (Nat×Int×List (den (.int .i64))) (denL [⟨true,y26⟩,⟨false,.bool⟩]):=fun s1=>(cd (!iLe (J (U a1)) (J s1.1)) (cd (!(c30 (gt .str a1 s1.1)).2.1) (.ret (((J 0),(J 0),([]:List Nat),([]:List Nat),[],[],[]),false,())) (cd (iEq (J s1.1) (J 0)) (.go (s1.1+1,(c30 (gt .str a1 s1.1)).1,s1.2.2)) (.go (s1.1+1,s1.2.1,(s1.2.2++[(c30 (gt .str a1 s1.1)).1]))))) (.brk s1))
def c29 (a0:Int) (a1:den (.sl .str)):denL [⟨true,y26⟩,⟨false,.bool⟩]:=(cd (iEq a0 (J 1)) ((c59 a1).1,true,()) (outE (dfR _) (fun s1=>((a0,s1.2.1,([]:List Nat),([]:List Nat),[],[],s1.2.2),true,())) (fun r=>r) (scan (c29_L1 a0 a1) ((fun(s1:Nat×Int×List (den (.int .i64)))=>U a1 - s1.1) (0,(J 0),[])+1) (0,(J 0),[]))))
open Classical in
def k29:Con:=⟨29,[⟨false,(.int .i64)⟩,⟨false,(.sl .str)⟩],[⟨true,y26⟩,⟨false,.bool⟩],fun x=>if(@Eq Int x.1 1→allT tRp (List.drop 2 x.2.1)=true)∧(@Ne Int x.1 1→allT tRi x.2.1=true)∧U x.2.1≤1000 then some (c29 x.1 x.2.1) else none⟩
theorem t29 (a0:Int) (a1:den (.sl .str)) (r0:(@Eq Int a0 1→allT tRp (List.drop 2 a1)=true)) (r1:(@Ne Int a0 1→allT tRi a1=true)) (r2:U a1≤1000):KC Bn k29 (a0,a1,()) (c29 a0 a1):=by
 refine xI (uL [k30,k59] (okC o30 (okC o59 ok0))) Tryz.func29 fun hbd hB=>?_
 refine xc 7 (fun h1=>?_) fun h1=>?_
 refine xr 1 ?_
 have g2:@Eq Int a0 ((1:Nat):Int):=ieq_t h1
 have b3:U a1≤Bn:=hbd.2.1.1
 refine ycl 1 k59 (a1,()) (c59 a1) (p59 ⟨by first|assumption|exact r0 om,fo1⟩) ?_
 refine yf ?_
 exact xe 2
 have g2:@Ne Int a0 ((1:Nat):Int):=ieq_f h1
 have b3:U a1≤Bn:=hbd.2.1.1
 refine xlC 9 2 (fun v (s1:Nat×Int×List (den (.int .i64)))=>[(path 4,(.p (path 0) 0)),(path 5,(.b false)),(path 6,(.p (path 1) 0)),(path 17,(.isl .str a1)),(path 18,(.i .i64 (J (U a1)))),(path 19,(.i .i64 (J s1.1)))]) (fun v (s1:Nat×Int×List (den (.int .i64)))=>[some (.cs 27 [(.i .i64 (J 0)),(.i .i64 (J 0)),(.s 0 []),(.s 0 []),(.v (.slice none 0 0)),(.v (.slice none 0 0)),(.v (.slice none 0 0))] false),some (.cs 27 [(.i .i64 a0),(.i .i64 s1.2.1),(.s 0 []),(.s 0 []),(.v (.slice none 0 0)),(.v (.slice none 0 0)),v] false)]) (fun s1=>(apv (.v (.slice none 0 0)) (path 2) (.int .i64) s1.2.2)) (fun s1=>(apb 2 (.int .i64) s1.2.2)) (fun s1=>s1.1≤U a1∧U s1.2.2≤s1.1) (fun(s1:Nat×Int×List (den (.int .i64)))=>U a1 - s1.1) ⟨Nz _,Nz _⟩ fo3 (rendD ⟨bk1,bk1,trivial⟩ kr kr kr) fun s1 i1=>?_
 obtain⟨hi1,hl1⟩:=i1
 refine xc 4 (fun h4=>?_) fun h4=>?_
 refine xr 4 ?_
 have g5:=lt_of_nle h4
 have b6:U a1≤Bn:=hbd.2.1.1
 have x7:s1.1<U a1:=fo2
 refine yi 1 .str a1 s1.1 x7 ?_
 refine yf ?_
 refine xr 2 ?_
 have b8:U (α:=Nat) (gt .str a1 s1.1)≤1152921504606846976:=(bd_gt hbd.2.1 x7)
 refine ycl 1 k30 ((gt .str a1 s1.1),()) (c30 (gt .str a1 s1.1)) (p30 (by exact allT_get (r1 om) om)) ?_
 refine yf ?_
 refine xc 5 (fun h9=>?_) fun h9=>?_
 refine xtC 6 ?_
 exact xe 0
 refine xc 4 (fun h10=>?_) fun h10=>?_
 have g11:=eq_of_ieq h10
 refine xsv 4 19 (.i .i64 (wr .i64 ((J s1.1)+(J 1)))) (.i .i64 (J s1.1+1)) (wr_inc om) ?_
 exact xgC 0 2 (apv (.v (.slice none 0 0)) (path 2) (.int .i64) s1.2.2) [] ⟨⟨fo3,fo3⟩,fo3⟩ (gA iv_nil kr) ⟨bS bk1,bC ⟨vS,vS,vS,vS,vS,vS,vC,trivial⟩,trivial⟩
 refine xr 0 ?_
 have g11:=ne_of_ieq h10
 refine zo 4 (zapp 0 4 2 8 (.v (.slice none 0 0)) iv_nil 2 (.int .i64) s1.2.2 ((c30 (gt .str a1 s1.1)).1) fo4 (zf ?_))
 refine yf ?_
 refine xsv 3 19 (.i .i64 (wr .i64 ((J s1.1)+(J 1)))) (.i .i64 (J s1.1+1)) (wr_inc om) ?_
 exact xgC 0 4 (.sl (path 4) 0 (wd (.int .i64)) (U (s1.2.2++[(c30 (gt .str a1 s1.1)).1])) (U (s1.2.2++[(c30 (gt .str a1 s1.1)).1])) false) [] ⟨⟨fo3,fo3⟩,fo3⟩ (gAn kr) ⟨bS bk1,bC ⟨vS,vS,vS,vS,vS,vS,vC,trivial⟩,trivial⟩
 refine xbC 1 ?_
 have g5:=le_of_nle h4
 refine xgaC 3 1 27 2 2 6 [(.i .i64 a0),(.i .i64 s1.2.1),(.s 0 []),(.s 0 []),(.v (.slice none 0 0)),(.v (.slice none 0 0)),(apv (.v (.slice none 0 0)) (path 2) (.int .i64) s1.2.2)] (.v (.slice none 0 0)) iv_nil (.int .i64) s1.2.2 fo4 ?_
 exact xe 2
theorem p29 {a0:Int}{a1:den (.sl .str)} (h:(@Eq Int a0 1→allT tRp (List.drop 2 a1)=true)∧(@Ne Int a0 1→allT tRi a1=true)∧U a1≤1000):k29.F (a0,a1,())=some (c29 a0 a1):=if_pos h
theorem o29:OK Bn k29:=xOp fun x (hp:(@Eq Int x.1 1→allT tRp (List.drop 2 x.2.1)=true)∧(@Ne Int x.1 1→allT tRi x.2.1=true)∧U x.2.1≤1000)=>t29 _ _ hp.1 hp.2.1 hp.2.2
theorem okAct0:okAct ((0:Int),(0:Int),[],[],[],[],[]):=⟨kr,kr,by decide,by decide,by decide,Nb kr,Nb kr,by decide,by decide,kr,Nb kr,Nb kr,kr⟩
end Go.Ev
end
