/- A part of the proof that FnRolled returns true; no condition. -/
import Derived.Test.YtmkdnjbgmflnfaaGreatDoorQf
import Derived.Test.YtmkdnjbgmflnfaaGreatDoorPa
import Derived.Test.YtmkdnjbgmflnfaaGreatDoorPx
import Derived.Test.YtmkdnjbgmflnfaaGreatDoorQh
import Derived.Lib.LaidTab
import Derived.Shelf.Vars
import Derived.SizedLaws
import Derived.OpenShut
set_option linter.all false
set_option maxRecDepth 100000
open List renaming length→U
open Int renaming ofNat→J,toNat→Jn
open Go.Ev
attribute [local irreducible] GC RJ KC KM cAt cOn runC stp brC bodyC cvC rsC rdC regC loopC endC skpC extC retC evJ RS.at RS.put RS.okS RS.okR RS.all RS.fst endV endVM grpA grpB grpR grpD grpO RunOps RunD bodyF resF argsFrom
noncomputable section
namespace Go.Ev
open Go.Proofs
set_option maxHeartbeats 2000000
abbrev y138:Ty:=(.pair (.sl (.int .u8)) (.pair (.int .i64) (.int .u64)))
def allB (xs:List Int):Bool:=List.rec true (fun x _ ih=>cd (cd (iLe (J 0) x) (iLe x (J 255)) false) ih false) xs
theorem allB_get:∀{xs:List (den (.int .u8))}{i:Nat},allB xs=true→i<xs.length→@LE.le Int _ 0 (gt (.int .u8) xs i)∧@LE.le Int _ (gt (.int .u8) xs i) 255
 |[],i,_,h=>absurd h (Nn _)
 |x::xs,i,h,hi=>by
  have h:cd (cd (iLe (J 0) x) (iLe x (J 255)) false) (allB xs) false=true:=h
  obtain⟨h1,h2⟩:=cd_true h
  obtain⟨h1,h3⟩:=cd_true h1
  cases i with
  |zero=>exact⟨ile_t h1,ile_t h3⟩
  |succ i=>exact allB_get (xs:=xs) h2 (Nat.lt_of_succ_lt_succ hi)
theorem and255 (x:Int):@LE.le Int _ 0 (wr .i64 ((IntKind.u64).wrap (BitVec.ofInt (IntKind.u64).bits x&&& BitVec.ofInt (IntKind.u64).bits (J 255)).toNat))∧@LE.le Int _ (wr .i64 ((IntKind.u64).wrap (BitVec.ofInt (IntKind.u64).bits x&&& BitVec.ofInt (IntKind.u64).bits (J 255)).toNat)) 255:=by
 have h0:(BitVec.ofInt (IntKind.u64).bits x&&& BitVec.ofInt (IntKind.u64).bits (J 255)).toNat≤255:=by
  rw[BitVec.toNat_and]
  exact Nat.and_le_right
 generalize (BitVec.ofInt (IntKind.u64).bits x&&& BitVec.ofInt (IntKind.u64).bits (J 255)).toNat=n at h0
 have h1:(IntKind.u64).wrap (n:Int)=n:=by
  show((n:Int) % 18446744073709551616:Int)=n
  omega
 rw[h1,wr_id om om]
 exact⟨om,om⟩
section
variable {Bn:Nat} [BOk Bn]
def c23 (a0:den (.sl (.int .u8))) (a1:Int) (a2:Int):denL [⟨false,(.int .i64)⟩]:=(cd (iLe a2 (J 1)) ((J 0),()) (cd (!iLe (J (U a0)) a1) ((Int.tmod (wr .i64 (gt (.int .u8) a0 (Jn a1))) a2),()) ((Int.tmod (wr .i64 ((wr .i64 (a1*(J 29)))+(J 5))) a2),())))
open Classical in
def k23:Con:=⟨23,[⟨false,(.sl (.int .u8))⟩,⟨false,(.int .i64)⟩,⟨false,(.int .i64)⟩],[⟨false,(.int .i64)⟩],fun x=>if @LE.le Int _ 0 x.2.1 then some (c23 x.1 x.2.1 x.2.2.1) else none⟩
theorem t23 (a0:den (.sl (.int .u8))) (a1:Int) (a2:Int) (r0:@LE.le Int _ 0 a1):KC Bn k23 (a0,a1,a2,()) (c23 a0 a1 a2):=by
 refine xI (uL [] ok0) Tryz.func23 fun hbd hB=>?_
 refine xc 7 (fun h1=>?_) fun h1=>?_
 exact xe 4
 have g2:@LT.lt Int _ ((1:Nat):Int) a2:=ile_f h1
 refine xc 5 (fun h3=>?_) fun h3=>?_
 refine xr 1 ?_
 have b4:U a0≤Bn:=hbd.1.1
 have g5:@LT.lt Int _ a1 (((U a0):Nat):Int):=ile_f (by simpa using h3)
 refine yv 2 14 (.i .i64 a1) (.i .i64 (J (Jn a1))) (toNat_av (show @LE.le Int _ 0 a1 by omega)) ?_
 have x6:(Jn a1)<U a0:=fo1
 refine yi 0 (.int .u8) a0 (Jn a1) x6 ?_
 try (have w7:@Eq Int (wr .i64 (gt (.int .u8) a0 (Jn a1))) (gt (.int .u8) a0 (Jn a1)):=wr_id om om)
 refine yrm 3 .i64 (wr .i64 (gt (.int .u8) a0 (Jn a1))) a2 om ?_
 refine yf ?_
 exact xe 2
 refine xr 2 ?_
 have b4:U a0≤Bn:=hbd.1.1
 have g5:@LE.le Int _ (((U a0):Nat):Int) a1:=ile_t (by simpa using h3)
 try (have w6:@Eq Int (wr .i64 (a1*((29:Nat):Int))) (a1*((29:Nat):Int)):=wr_id om om)
 try (have w7:@Eq Int (wr .i64 ((wr .i64 (a1*((29:Nat):Int)))+((5:Nat):Int))) ((wr .i64 (a1*((29:Nat):Int)))+((5:Nat):Int)):=wr_id om om)
 refine yrm 4 .i64 (wr .i64 ((wr .i64 (a1*(J 29)))+(J 5))) a2 om ?_
 refine yf ?_
 exact xe 1
theorem d23 (a:den (.sl (.int .u8))) (k:Nat) (hk:k≤2) (h:allB a=true):∃d:Nat,d≤8∧c23 a (N k) (N 9)=(N d,()):=by
 have key:∀x:Int,@LE.le Int _ 0 x→∃d:Nat,d≤8∧Int.tmod x (N 9)=N d:=fun x hx=>by
  have h1:=Int.tmod_nonneg 9 hx
  have h2:=Int.tmod_lt_of_pos (b:=9) x (by decide)
  refine⟨(Int.tmod x 9).toNat,om,?_⟩
  show Int.tmod x 9=((Int.tmod x 9).toNat:Int)
  omega
 unfold c23
 cases(iLe (N 9) (J 1)) with
 |true=>exact⟨0,om,rfl⟩
 |false=>
  cases hl:(!iLe (J (U a)) (N k)) with
  |true=>
   have hl:@LT.lt Int _ (N k) ((U a:Nat):Int):=ile_f (by simpa using hl)
   have hl:k<U a:=Int.ofNat_lt.1 hl
   have hb:=allB_get h (show Jn (N k)<U a from hl)
   obtain⟨d,h1,h2⟩:=key (wr .i64 (gt (.int .u8) a (Jn (N k)))) (by rw[wr_id om om];exact hb.1)
   exact⟨d,h1,by show(Int.tmod _ _,())=_;rw[h2]⟩
  |false=>
   obtain⟨d,h1,h2⟩:=key (wr .i64 ((wr .i64 ((N k)*(J 29)))+(J 5))) (by
    have h3:k=0∨k=1∨k=2:=om
    rcases h3 with rfl|rfl|rfl<;>decide)
   exact⟨d,h1,by show(Int.tmod _ _,())=_;rw[h2]⟩
theorem kok23 (a:den (.sl (.int .u8))) (k:Nat) (hk:k≤2) (h:allB a=true):∃d:Nat,d≤8∧KC Bn k23 (a,N k,N 9,()) (N d,()):=by
 obtain⟨d,h1,h2⟩:=d23 a k hk h
 refine⟨d,h1,?_⟩
 rw[←h2]
 exact t23 (Bn:=Bn) a (N k) (N 9) (Int.natCast_nonneg k)
def c8 (a0:den (.sl (.int .u8))) (a1:den (.sl (.int .u8))):denL [⟨false,.bool⟩]:=((cd (!iLe (J (U a0)) (J 1048576)) true (!iLe (J (U a1)) (J 1048576))),())
def k8:Con:=⟨8,[⟨false,(.sl (.int .u8))⟩,⟨false,(.sl (.int .u8))⟩],[⟨false,.bool⟩],fun x=>some (c8 x.1 x.2.1)⟩
theorem t8 (a0:den (.sl (.int .u8))) (a1:den (.sl (.int .u8))):KC Bn k8 (a0,a1,()) (c8 a0 a1):=by
 refine xI (uL [] ok0) Tryz.func8 fun hbd hB=>?_
 exact xe 6
def c74 (a0:den y138):den y138×denL [⟨false,(.int .i64)⟩]:=(cd (!iLe (J (U a0.1)) a0.2.1) (cd (iLe (wr .i64 (a0.2.1+(J 1))) (J (U a0.1))) ((a0.1,(wr .i64 (a0.2.1+(J 1))),(wr .u64 ((wr .u64 ((wr .u64 (a0.2.2*(J 6364136223846793005)))+(wr .u64 (wr .i64 (gt (.int .u8) a0.1 (Jn a0.2.1))))))+(J 1442695040888963407)))),((wr .i64 (gt (.int .u8) a0.1 (Jn a0.2.1))),())) ((a0.1,(wr .i64 (a0.2.1+(J 1))),(wr .u64 ((wr .u64 ((wr .u64 (a0.2.2*(J 6364136223846793005)))+(wr .u64 (wr .i64 (gt (.int .u8) a0.1 (Jn a0.2.1))))))+(J 1442695040888963407)))),((wr .i64 ((IntKind.u64).wrap (BitVec.ofInt (IntKind.u64).bits (Int.fdiv (wr .u64 ((wr .u64 ((wr .u64 (a0.2.2*(J 6364136223846793005)))+(wr .u64 (wr .i64 (gt (.int .u8) a0.1 (Jn a0.2.1))))))+(J 1442695040888963407))) (2 ^ (min 40 (IntKind.u64).bits)))&&& BitVec.ofInt (IntKind.u64).bits (J 255)).toNat)),()))) (cd (iLe (wr .i64 (a0.2.1+(J 1))) (J (U a0.1))) ((a0.1,(wr .i64 (a0.2.1+(J 1))),(wr .u64 ((wr .u64 ((wr .u64 (a0.2.2*(J 6364136223846793005)))+(wr .u64 (J 0))))+(J 1442695040888963407)))),((J 0),())) ((a0.1,(wr .i64 (a0.2.1+(J 1))),(wr .u64 ((wr .u64 ((wr .u64 (a0.2.2*(J 6364136223846793005)))+(wr .u64 (J 0))))+(J 1442695040888963407)))),((wr .i64 ((IntKind.u64).wrap (BitVec.ofInt (IntKind.u64).bits (Int.fdiv (wr .u64 ((wr .u64 ((wr .u64 (a0.2.2*(J 6364136223846793005)))+(wr .u64 (J 0))))+(J 1442695040888963407))) (2 ^ (min 40 (IntKind.u64).bits)))&&& BitVec.ofInt (IntKind.u64).bits (J 255)).toNat)),()))))
open Classical in
def k74:ConM:=⟨74,y138,139,[],[⟨false,(.int .i64)⟩],fun x0 x=>if allB x0.1=true∧@LE.le Int _ 0 x0.2.1∧@LE.le Int _ x0.2.1 1000000000 then some (c74 x0) else none,none⟩
theorem t74 (a0:den y138) (r0:allB a0.1=true) (r1:@LE.le Int _ 0 a0.2.1) (r2:@LE.le Int _ a0.2.1 1000000000):KM Bn k74 a0 (()) (c74 a0):=by
 refine xIM (uL [] ok0) Tryz.func74 fun hb0 hbd hB=>?_
 refine xc 10 (fun h1=>?_) fun h1=>?_
 refine xd 0 ?_
 have b2:U a0.1≤Bn:=hb0.1.1
 have g3:@LT.lt Int _ a0.2.1 (((U a0.1):Nat):Int):=ile_f (by simpa using h1)
 refine yv 8 21 (.i .i64 a0.2.1) (.i .i64 (J (Jn a0.2.1))) (toNat_av (show @LE.le Int _ 0 a0.2.1 by omega)) ?_
 have x4:(Jn a0.2.1)<U a0.1:=fo1
 refine yi 0 (.int .u8) a0.1 (Jn a0.2.1) x4 ?_
 refine yf ?_
 refine xc 11 (fun h5=>?_) fun h5=>?_
 exact xem 4
 exact xem 4
 refine xc 11 (fun h2=>?_) fun h2=>?_
 exact xem 4
 exact xem 4
theorem p74 {a0:den y138} (h:allB a0.1=true∧@LE.le Int _ 0 a0.2.1∧@LE.le Int _ a0.2.1 1000000000):k74.F a0 (())=some (c74 a0):=if_pos h
theorem o74:OM Bn k74:=xOMp fun x0 x (hp:allB x0.1=true∧@LE.le Int _ 0 x0.2.1∧@LE.le Int _ x0.2.1 1000000000)=>t74 _ (by first|omega|exact hp|exact hp.1|exact hp.2|exact hp.2.1|exact hp.2.2|exact hp.2.2.1|exact hp.2.2.2) (by first|omega|exact hp|exact hp.1|exact hp.2|exact hp.2.1|exact hp.2.2|exact hp.2.2.1|exact hp.2.2.2) (by first|omega|exact hp|exact hp.1|exact hp.2|exact hp.2.1|exact hp.2.2|exact hp.2.2.1|exact hp.2.2.2)
theorem c74_p (a0:den y138) (h:allB a0.1=true) (h0:@LE.le Int _ 0 a0.2.1) (h1:@LE.le Int _ a0.2.1 1000000000):allB (c74 a0).1.1=true∧(@LE.le Int _ 0 (c74 a0).1.2.1∧@LE.le Int _ (c74 a0).1.2.1 (a0.2.1+1))∧(@LE.le Int _ 0 (c74 a0).2.1∧@LE.le Int _ (c74 a0).2.1 255):=by
 have hw:wr .i64 (a0.2.1+(J 1))=a0.2.1+1:=wr_id (by show @LE.le Int _ _ (a0.2.1+1);omega) (by show @LE.le Int _ (a0.2.1+1) _;omega)
 have hz:@LE.le Int _ 0 (J 0)∧@LE.le Int _ (J 0) 255:=by decide
 unfold c74
 rw[hw]
 cases hc:(!iLe (J (U a0.1)) a0.2.1) with
 |true=>
  have hl:@LT.lt Int _ a0.2.1 ((U a0.1:Nat):Int):=ile_f (by simpa using hc)
  have hb:=allB_get h (show(Jn a0.2.1)<U a0.1 by omega)
  have hwb:wr .i64 (gt (.int .u8) a0.1 (Jn a0.2.1))=gt (.int .u8) a0.1 (Jn a0.2.1):=wr_id om om
  cases(iLe (a0.2.1+1) (J (U a0.1))) with
  |true=>exact⟨h,⟨by dsimp only[cd];omega,by dsimp only[cd];omega⟩,by show @LE.le Int _ 0 (wr .i64 (gt (.int .u8) a0.1 (Jn a0.2.1)))∧@LE.le Int _ (wr .i64 (gt (.int .u8) a0.1 (Jn a0.2.1))) 255;rw[hwb];exact hb⟩
  |false=>exact⟨h,⟨by dsimp only[cd];omega,by dsimp only[cd];omega⟩,and255 _⟩
 |false=>
  cases(iLe (a0.2.1+1) (J (U a0.1))) with
  |true=>exact⟨h,⟨by dsimp only[cd];omega,by dsimp only[cd];omega⟩,hz⟩
  |false=>exact⟨h,⟨by dsimp only[cd];omega,by dsimp only[cd];omega⟩,and255 _⟩
def c30 (a0:den y138) (a1:Int):den y138×denL [⟨false,(.int .i64)⟩]:=(cd (iLe a1 (J 1)) (a0,((J 0),())) (cd (!iLe a1 (J 200)) ((c74 ((c74 a0).1)).1,((Int.tmod (wr .i64 ((wr .i64 ((c74 a0).2.1*(J 256)))+(c74 ((c74 a0).1)).2.1)) a1),())) ((c74 a0).1,((Int.tmod (c74 a0).2.1 a1),()))))
open Classical in
def k30:ConM:=⟨30,y138,139,[⟨false,(.int .i64)⟩],[⟨false,(.int .i64)⟩],fun x0 x=>if allB x0.1=true∧@LE.le Int _ 0 x0.2.1∧@LE.le Int _ x0.2.1 999999990 then some (c30 x0 x.1) else none,none⟩
theorem t30 (a0:den y138) (a1:Int) (r0:allB a0.1=true) (r1:@LE.le Int _ 0 a0.2.1) (r2:@LE.le Int _ a0.2.1 999999990):KM Bn k30 a0 (a1,()) (c30 a0 a1):=by
 refine xIM (uM [k74] [] (okMC o74 okM0) ok0) Tryz.func30 fun hb0 hbd hB=>?_
 refine xc 7 (fun h1=>?_) fun h1=>?_
 exact xem 4
 refine xr 2 ?_
 have g2:@LT.lt Int _ ((1:Nat):Int) a1:=ile_f h1
 refine yclm 1 0 k74 a0 (()) (c74 a0) (p74 ⟨fo2,fo2,fo2⟩) ?_
 have p3:allB (c74 a0).1.1=true∧(@LE.le Int _ 0 (c74 a0).1.2.1∧@LE.le Int _ (c74 a0).1.2.1 (a0.2.1+1))∧(@LE.le Int _ 0 (c74 a0).2.1∧@LE.le Int _ (c74 a0).2.1 255):=c74_p a0 fo3 fo3 fo3
 have p3b:=p3.1
 refine yf ?_
 refine xc 5 (fun h4=>?_) fun h4=>?_
 refine xr 0 ?_
 have g5:@LT.lt Int _ ((200:Nat):Int) a1:=ile_f (by simpa using h4)
 refine yclm 3 0 k74 ((c74 a0).1) (()) (c74 ((c74 a0).1)) (p74 ⟨fo2,fo2,fo2⟩) ?_
 refine yf ?_
 refine xr 2 ?_
 have p6:allB (c74 ((c74 a0).1)).1.1=true∧(@LE.le Int _ 0 (c74 ((c74 a0).1)).1.2.1∧@LE.le Int _ (c74 ((c74 a0).1)).1.2.1 (((c74 a0).1).2.1+1))∧(@LE.le Int _ 0 (c74 ((c74 a0).1)).2.1∧@LE.le Int _ (c74 ((c74 a0).1)).2.1 255):=c74_p ((c74 a0).1) fo3 fo3 fo3
 have p6b:=p6.1
 try (have w7:@Eq Int (wr .i64 ((c74 a0).2.1*((256:Nat):Int))) ((c74 a0).2.1*((256:Nat):Int)):=wr_id om om)
 try (have w8:@Eq Int (wr .i64 ((wr .i64 ((c74 a0).2.1*((256:Nat):Int)))+(c74 ((c74 a0).1)).2.1)) ((wr .i64 ((c74 a0).2.1*((256:Nat):Int)))+(c74 ((c74 a0).1)).2.1):=wr_id om om)
 refine yrm 2 .i64 (wr .i64 ((wr .i64 ((c74 a0).2.1*(J 256)))+(c74 ((c74 a0).1)).2.1)) a1 om ?_
 refine yf ?_
 exact xem 1
 refine xr 2 ?_
 have g5:@LE.le Int _ a1 ((200:Nat):Int):=ile_t (by simpa using h4)
 refine yrm 2 .i64 ((c74 a0).2.1) a1 om ?_
 refine yf ?_
 exact xem 1
theorem p30 {a0:den y138}{a1:Int} (h:allB a0.1=true∧@LE.le Int _ 0 a0.2.1∧@LE.le Int _ a0.2.1 999999990):k30.F a0 (a1,())=some (c30 a0 a1):=if_pos h
theorem o30:OM Bn k30:=xOMp fun x0 x (hp:allB x0.1=true∧@LE.le Int _ 0 x0.2.1∧@LE.le Int _ x0.2.1 999999990)=>t30 _ _ (by first|omega|exact hp|exact hp.1|exact hp.2|exact hp.2.1|exact hp.2.2|exact hp.2.2.1|exact hp.2.2.2) (by first|omega|exact hp|exact hp.1|exact hp.2|exact hp.2.1|exact hp.2.2|exact hp.2.2.1|exact hp.2.2.2) (by first|omega|exact hp|exact hp.1|exact hp.2|exact hp.2.1|exact hp.2.2|exact hp.2.2.1|exact hp.2.2.2)
theorem c30_p (a0:den y138) (a1:Int) (h:allB a0.1=true) (h0:@LE.le Int _ 0 a0.2.1) (h1:@LE.le Int _ a0.2.1 999999990):allB (c30 a0 a1).1.1=true∧(@LE.le Int _ 0 (c30 a0 a1).1.2.1∧@LE.le Int _ (c30 a0 a1).1.2.1 (a0.2.1+2))∧(@LE.le Int _ 0 (c30 a0 a1).2.1∧(@LE.le Int _ 1 a1→@LT.lt Int _ (c30 a0 a1).2.1 a1)):=by
 have g:=c74_p a0 h h0 om
 obtain⟨g1,⟨g2,g3⟩,g4,g5⟩:=g
 unfold c30
 cases hc:iLe a1 (J 1) with
 |true=>exact⟨h,⟨h0,by dsimp only[cd];omega⟩,by show @LE.le Int _ 0 (J 0);decide,fun hh=>by show @LT.lt Int _ (J 0) a1;have:(J 0:Int)=0:=rfl;omega⟩
 |false=>
  have hn:@LT.lt Int _ 1 a1:=ile_f hc
  cases(!iLe a1 (J 200)) with
  |false=>exact⟨g1,⟨by dsimp only[cd];omega,by dsimp only[cd];omega⟩,Int.tmod_nonneg _ g4,fun _=>Int.tmod_lt_of_pos _ om⟩
  |true=>
   obtain⟨k1,⟨k2,k3⟩,k4,k5⟩:=c74_p (c74 a0).1 g1 g2 om
   refine⟨k1,⟨by dsimp only[cd];omega,by dsimp only[cd];omega⟩,Int.tmod_nonneg _ ?_,fun _=>Int.tmod_lt_of_pos _ om⟩
   have e1:wr .i64 ((c74 a0).2.1*(J 256))=(c74 a0).2.1*256:=wr_id (by show @LE.le Int _ _ ((c74 a0).2.1*256);omega) (by show @LE.le Int _ ((c74 a0).2.1*256) _;omega)
   rw[e1,wr_id om om]
   omega
end
noncomputable def b11:Code:=Option.getD Tryz.f11.body .skip
noncomputable def b31:Code:=Option.getD Tryz.f31.body .skip
def lst11:Code:=sndC (sndC (sndC b11))
def lp11:Code:=lpD (bkD (sndC (fsD lst11)))
abbrev tI:Ty:=.int .i64
def sBl (σ:den y138):Blk:=.cs 139 (tc y138 σ) false
def arr7:Blk:=.cs 2 [.i .i64 (N 1),.i .i64 (N 1),.i .i64 (N 2),.i .i64 (N 2),.i .i64 (N 3),.i .i64 (N 3),.i .i64 (N 0)] false
def hS (σ:den y138) (xs:List Int):H:=hpH 5 [some (sBl σ),none,some (apb 2 tI xs),some arr7]
def pk (i:Nat):Nat:=cd (Nat.ble 6 i) 0 (cd (Nat.ble 4 i) 3 (cd (Nat.ble 2 i) 2 1))
section
variable {Bn:Nat} [BOk Bn]
theorem at30 {h:H}{σ σ':den y138}{n r:Int} (hg:h.get (path 0)=some (sBl σ)) (hF:k30.F σ (n,())=some (σ',(r,()))):
 At Bn 30 h [.p (path 0) 0,.i .i64 n] (.i .i64 r) (h.put (path 0) (sBl σ')):=by
 refine At.ev (call:=callOfM [k30] (callOf [])) (callOfM_ok (G:=GG Bn) (BOk.lo (B:=Bn)) (callOf_ok (G:=GG Bn) (BOk.lo (B:=Bn)) ok0) (okMC o30 okM0)) ?_
 show callM k30 [.p (path 0) 0,.i .i64 n] h=_
 have e:callM k30 [.p (path 0) 0,.i .i64 n] h=(match decM k30 (h.get (path 0)) with
  |some x0=>(match decL H0 k30.ps [.i .i64 n] with
   |some x=>finM k30 (path 0) h (k30.F x0 x)
   |none=>.no)
  |none=>.no):=kr
 rw[e,hg]
 show finM k30 (path 0) h (k30.F σ (n,()))=_
 rw[hF]
 rfl
theorem at31 {σ σ':den y138}{xs:List Int}{i:Nat} (hi:i<7) (hF:k30.F σ (N 7,())=some (σ',(N i,()))):
 At Bn 31 (hS σ xs) [.p (path 0) 0,.sl (path 3) 0 1 7 7 true] (.i .i64 (N (pk i))) ((hS σ xs).put (path 0) (sBl σ')):=by
 have hc:i=0∨i=1∨i=2∨i=3∨i=4∨i=5∨i=6:=om
 refine At.bodyG Tryz.func31 rfl (b:=b31) kr ?_
 refine sR kr ?_
 refine Sat.seq ?_
 have h30:=at30 (Bn:=Bn) (h:=hS σ xs) kr hF
 rcases hc with rfl|rfl|rfl|rfl|rfl|rfl|rfl
 all_goals
  refine atRegG 4 h30 kr kr kr ?_
  exact sE kr ⟨.inr rfl,kr,kr⟩
theorem drw (σ:den y138) (n:Nat) (hn:1≤n) (h:allB σ.1=true) (h0:@LE.le Int _ 0 σ.2.1) (h1:@LE.le Int _ σ.2.1 1000):
 ∃(σ':den y138) (i:Nat),i<n∧k30.F σ (N n,())=some (σ',(N i,()))∧allB σ'.1=true∧@LE.le Int _ 0 σ'.2.1∧@LE.le Int _ σ'.2.1 (σ.2.1+2)∧σ'=(c30 σ (N n)).1∧i=((c30 σ (N n)).2.1).toNat:=by
 obtain⟨g1,⟨g2,g3⟩,g4,g5⟩:=c30_p σ (N n) h h0 om
 have g5:=g5 (by show @LE.le Int _ 1 ((n:Nat):Int);omega)
 refine⟨(c30 σ (N n)).1,((c30 σ (N n)).2.1).toNat,?_,?_,g1,g2,g3,rfl,rfl⟩
 ·have g6:@LT.lt Int _ (c30 σ (N n)).2.1 ((n:Nat):Int):=g5
  omega
 ·refine(p30 ⟨h,h0,om⟩).trans ?_
  have e:(N ((c30 σ (N n)).2.1).toNat)=(c30 σ (N n)).2.1:=Int.toNat_of_nonneg g4
  show some (c30 σ (N n))=some ((c30 σ (N n)).1,(N ((c30 σ (N n)).2.1).toNat,()))
  rw[e]
abbrev OS:Type:=den y138×Nat×List Int
def L11 (a:OS):List (List Bool×AV):=[(path 3,.p (path 0) 0),(path 5,.i .i64 (N a.2.1))]
def B11 (a:OS):List (Option Blk):=[some (sBl a.1),none]
def run11 (k:Nat):den y138→List Int→List Int:=Nat.rec (fun _ xs=>xs) (fun _ ih σ xs=>ih (c30 σ (N 7)).1 (xs++[N (pk ((c30 σ (N 7)).2.1).toNat)])) k
def I11 (ord:List Int) (a:OS):Prop:=run11 a.2.1 a.1 a.2.2=ord∧allB a.1.1=true∧@LE.le Int _ 0 a.1.2.1∧@LE.le Int _ (a.1.2.1+2*(a.2.1:Int)) 1000∧a.2.2.length+a.2.1≤169∧∀x∈a.2.2,x=N 0∨x=N 1∨x=N 2∨x=N 3
theorem pk_in (i:Nat):N (pk i)=N 0∨N (pk i)=N 1∨N (pk i)=N 2∨N (pk i)=N 3:=by
 unfold pk
 cases Nat.ble 6 i<;>cases Nat.ble 4 i<;>cases Nat.ble 2 i<;>simp[cd]
theorem wdec (k:Nat) (hk:k≤1000):wr .i64 (N (k+1) - N 1)=N k:=by
 have e:(N (k+1) - N 1)=N k:=by show((k+1:Nat):Int) - 1=(k:Int);omega
 rw[e]
 exact wr_id (by show @LE.le Int _ _ ((k:Nat):Int);omega) (by show @LE.le Int _ ((k:Nat):Int) _;omega)
theorem round11 {Q:Ex→T AV→H→Prop} (σ:den y138) (k:Nat) (xs:List Int) (ord:List Int) (hI:I11 ord (σ,k+1,xs)):
 S Bn 23 lp11 (mkFr ((path 4,apv .em (path 2) tI xs)::L11 (σ,k+1,xs))) (hpH 3 (cat (B11 (σ,k+1,xs)) [some (apb 2 tI xs)]))
   (thenQ (fun fr' h'=>∃a':OS,I11 ord a'∧a'.2.1<k+1∧Holds fr' (L11 a')∧LOk 2 (L11 a')∧heapL h' 2=B11 a'∧blksOk 2 (B11 a')∧GEnd 2 (path 4) .em 2 tI a'.2.2 fr' h') Q):=by
 obtain⟨i0,i1,i2,i3,i4,i5⟩:=hI
 replace i3:@LE.le Int _ (σ.2.1+2*((k+1:Nat):Int)) 1000:=i3
 replace i4:xs.length+(k+1)≤169:=i4
 obtain⟨σ',i,hi,hF,j1,j2,j3,j4,j5⟩:=drw σ 7 om i1 i2 om
 refine Sat.seq (sR kr (sCondT (b:=true) kr rfl (Sat.skip ?_)))
 refine Sat.seq (Sat.block ?_)
 refine Sat.reg (call:=callOr 31 (callAt 31 (hS σ xs) [.p (path 0) 0,.sl (path 3) 0 1 7 7 true] (.i .i64 (N (pk i))) ((hS σ xs).put (path 0) (sBl σ'))) (EV Bn 60)) hmix (callOr_ok (callAt_ok (at31 hi hF)) (EV_ok 60)) ?_
 refine RunOps.callH (f:=31) (args:=[.p (path 0) 0,.sl (path 3) 0 1 7 7 true]) (v:=.i .i64 (N (pk i))) (h2:=(hS σ xs).put (path 0) (sBl σ')) 3 kr kr kr kr (callOr_at kr) ?_
 refine zapp 1 5 2 8 .em iv_em 2 tI xs (N (pk i)) om (zf ?_)
 refine sV kr ?_
 refine⟨(σ',k,xs++[N (pk i)]),⟨by rw[j4,j5];exact i0,j1,j2,?_,?_,?_⟩,Nat.lt_succ_self k,⟨kr,Eq.trans kr (congrArg (AV.i .i64) (wdec k om)),trivial⟩,lok_of kr,kr,blks_of kr,gnew2 (q:=5) kr kr kr⟩
 ·show @LE.le Int _ (σ'.2.1+2*(k:Int)) 1000
  omega
 ·show(xs++[N (pk i)]).length+k≤169
  simp only[La,Lcz,Ln];omega
 ·intro x hx
  rcases List.mem_append.1 hx with h|h
  ·exact i5 x h
  ·rw[List.mem_singleton.1 h];exact pk_in i
theorem run11_len:∀(k:Nat) (σ:den y138) (xs:List Int),(run11 k σ xs).length=xs.length+k
 |0,_,_=>rfl
 |k+1,σ,xs=>by
  show(run11 k _ _).length=_
  rw[run11_len k];simp only[La,Lcz,Ln];omega
theorem run11_in:∀(k:Nat) (σ:den y138) (xs:List Int),(∀x∈xs,x=N 0∨x=N 1∨x=N 2∨x=N 3)→∀x∈run11 k σ xs,x=N 0∨x=N 1∨x=N 2∨x=N 3
 |0,_,_,h=>h
 |k+1,σ,xs,h=>by
  show∀x∈run11 k _ _,_
  refine run11_in k _ _ fun x hx=>?_
  rcases List.mem_append.1 hx with h1|h1
  ·exact h x h1
  ·rw[List.mem_singleton.1 h1];exact pk_in _
abbrev p11:List Par:=[⟨false,.sl (.int .u8)⟩]
abbrev o11:List Par:=[⟨false,.sl tI⟩]
noncomputable def Q11 (ord:List Int):Ex→T AV→H→Prop:=EndQ (resF Tryz.f11) o11 (ord,())
theorem end11 (σ:den y138) (xs:List Int) (hl:xs.length≤1000) (N1:T AV→H→Prop):
 S Bn 23 lp11 (mkFr ((path 4,apv .em (path 2) tI xs)::L11 (σ,0,xs))) (hpH 3 (cat (B11 (σ,0,xs)) [some (apb 2 tI xs)])) (thenQ N1 (blkQ 0 (thenQ (fun fr h=>S Bn 23 (sndC lst11) fr h (Q11 xs)) (Q11 xs)))):=by
 refine Sat.seq (sR kr (sCond (b:=false) kr rfl (Sat.exit ?_)))
 show S Bn 23 (sndC lst11) _ _ (Q11 xs)
 refine zga 4 .em iv_em 2 2 tI xs om ?_ kr kr
 refine sE kr ?_
 exact ze (res:=resF Tryz.f11) (rs:=o11) (y:=(xs,())) (y':=(xs,())) rfl kr
theorem w20 (j:Nat) (hj:j<150):wr .i64 (N 20+N j)=N (20+j):=by
 have e:(N 20+N j)=N (20+j):=by show((20:Nat):Int)+(j:Int)=((20+j:Nat):Int);omega
 rw[e]
 exact wr_id (by show @LE.le Int _ _ ((20+j:Nat):Int);omega) (by show @LE.le Int _ ((20+j:Nat):Int) _;omega)
theorem loop11 (ord:List Int) (σ:den y138) (k:Nat) (hI:I11 ord (σ,k,[])) (fr:T AV) (h:H) (hl:Holds fr (L11 (σ,k,[]))) (hn:h.next=2) (hh:heapL h 2=B11 (σ,k,[])) (hv:getV fr (path 4)=.em):
 S Bn 23 (.loop lp11) fr h (blkQ 0 (thenQ (fun fr h=>S Bn 23 (sndC lst11) fr h (Q11 ord)) (Q11 ord))):=by
 refine Sat.loopG 2 (path 4) .em iv_em 2 tI (fun a:OS=>a.2.2) L11 B11 (fun a=>a.2.1) (I11 ord) (fun a hI=>?_) (σ,k,[]) hI ?_ hl (lok_of kr) hn hh (blks_of kr) rfl hv
 ·obtain⟨σ,k,xs⟩:=a
  cases k with
  |zero=>
   obtain⟨i0,_,_,_,i4,_⟩:=hI
   have i4:xs.length+0≤169:=i4
   have e:xs=ord:=i0
   subst e
   exact end11 σ xs om _
  |succ k=>exact round11 σ k xs ord hI
 ·have:=hI.2.2.2.2.1
  have h4:([]:List Int).length+k≤169:=this
  show k<_
  simp only[Ln] at h4
  omega
theorem kok11 (code:CB) (hb:allB code=true):∃ord:List Int,(∀x∈ord,x=N 0∨x=N 1∨x=N 2∨x=N 3)∧ord.length≤169∧KOk PP (GG Bn) 11 p11 o11 (code,()) (ord,()):=by
 obtain⟨σ,j,hj,hF,j1,j2,j3,_,_⟩:=drw (code,N 0,N 0) 150 om hb (by show @LE.le Int _ 0 0;omega) (by show @LE.le Int _ 0 1000;omega)
 refine⟨run11 (20+j) σ [],run11_in _ _ _ (by simp),by rw[run11_len];simp only[Ln];omega,?_⟩
 have hI:I11 (run11 (20+j) σ []) (σ,20+j,[]):=⟨rfl,j1,j2,by
  replace j3:@LE.le Int _ σ.2.1 (0+2):=j3
  show @LE.le Int _ (σ.2.1+2*((20+j:Nat):Int)) 1000
  omega,by show([]:List Int).length+(20+j)≤169;simp only[Ln];omega,by simp⟩
 refine fn_intro (G:=GG Bn) (b:=b11) (res:=resF Tryz.f11) hmix Tryz.func11 kr rfl kr kr kr (BOk.lo (B:=Bn)) fun _=>?_
 refine sR kr ?_
 refine sR kr ?_
 refine sR kr ?_
 refine Sat.seq (Sat.seq ?_)
 refine atRegG 1 (at30 (Bn:=Bn) (h:=hpH 2 [some (sBl (code,N 0,N 0))]) kr hF) kr kr kr ?_
 refine zsv 5 (.i .i64 (wr .i64 (N 20+N j))) (.i .i64 (N (20+j))) (congrArg (AV.i .i64) (w20 j hj)) ?_ kr
 refine S_eq (n':=23) (c':=.block 0 (.loop lp11)) rfl kr rfl (Sat.block ?_)
 exact loop11 _ σ (20+j) hI _ _ ⟨kr,kr,trivial⟩ kr kr kr
end
section
variable {Bn:Nat} [BOk Bn]
abbrev p23:List Par:=[⟨false,(.sl (.int .u8))⟩,⟨false,(.int .i64)⟩,⟨false,(.int .i64)⟩]
theorem kc23 {x:denL p23}{y:denL pInt} (h:KC Bn k23 x y):KOk PP (GG Bn) 23 p23 pInt x y:=by
 unfold KC at h
 exact h
def aAj (k:Nat) (C:Nat→Nat) (p:List Bool):List AV:=[.ag (tc zWorld (wM P0 C 0 k [])),.s 3 [74,79,66],.s 4 [82,79,76,76],.sl p 0 1 2 2 true,.v (.slice none 0 0)]
def vAj (k:Nat) (C:Nat→Nat):AV:=.tu [.ag (tc zWorld (wM P0 C 0 k [])),.i .i64 (N k),.i .i64 (N 0)]
def wB (k:Nat) (C:Nat→Nat):Blk:=.cs 39 (tc zWorld (wM P0 C 0 k [])) false
def sB (d:Nat):Blk:=.cs 9 [.s 1 [49],.s 1 [49+d]] false
def dD:Option Blk:=some .dead
def BK0 (C:Nat→Nat):List (Option Blk):=B9 (wB 0 C)
def BK1 (C:Nat→Nat):List (Option Blk):=cat (B9 (wB 1 C)) [dD,dD]
def BK2 (C:Nat→Nat):List (Option Blk):=cat (B9 (wB 2 C)) [dD,dD,dD,dD]
def BK3 (C:Nat→Nat):List (Option Blk):=cat (B9 (wB 3 C)) [dD,dD,dD,dD,dD,dD]
def HK0 (C:Nat→Nat) (d:Nat):H:=hpH 6 (cat (BK0 C) [some (sB d)])
def HK1 (C:Nat→Nat) (d:Nat):H:=hpH 8 (cat (BK1 C) [some (sB d)])
def HK2 (C:Nat→Nat) (d:Nat):H:=hpH 10 (cat (BK2 C) [some (sB d)])
def s9 (s:Int) (d:Nat):Int:=wr .i64 (s+wr .i64 (N 1+N d))
theorem rnd0 (code:CB) (s:Int) (C:Nat→Nat) (d:Nat) (hd:d≤8) (h23:KC Bn k23 (code,N 0,N 9,()) (N d,())) (h24:KOk PP (GG Bn) 24 pAj oAj (xAj (wM P0 C 0 0 []) (49+d)) (wM P0 C 0 1 [],N 1,N 0,()))
 (c':Code) (Q' Q:Ex→T AV→H→Prop) (hn:S Bn 73 c' (mkFr (L9 code 1 (s9 s d))) (hpH 6 (BK1 C)) Q'):
 S Bn 73 lp9 (mkFr (L9 code 0 s)) (hpH 4 (BK0 C)) (thenQ (fun fr h=>S Bn 73 c' fr h Q') Q):=by
 have hc:d=0∨d=1∨d=2∨d=3∨d=4∨d=5∨d=6∨d=7∨d=8:=om
 refine Sat.seq (sR kr (sCondT (b:=true) kr rfl (Sat.skip ?_)))
 refine Sat.seq (Sat.block ?_)
 refine Sat.seq ?_
 refine atRegG 2 (f:=23) (args:=[.isl (.int .u8) code,.i .i64 (N 0),.i .i64 (N 9)]) (v:=.i .i64 (N d)) (At.ofK (h:=hpH 4 (BK0 C)) (ps:=p23) (rs:=pInt) (x:=(code,N 0,N 9,())) (y:=(N d,())) (kc23 h23) kr rfl kr) kr kr kr ?_
 refine sR kr ?_
 obtain⟨c24,hk24,h24⟩:∃c:CallF,CallOK PP (GG Bn) c∧c 24 (aAj 0 C (path 4)) (HK0 C d)=.ok (vAj 1 C) ((HK0 C d).put (path 4) .dead):=
  ⟨_,callAt_ok (At.freeze (b:=sB d) kr (by intro h;cases h) h24 kr kr kr),callAt_eq⟩
 refine Sat.seq (Sat.dregS hmix (callOr_ok (f0:=24) hk24 (callOf_ok (G:=GG Bn) (L:=[K15]) (BOk.lo (B:=Bn)) (okC O15 ok0))) kr ?_)
 rcases hc with rfl|rfl|rfl|rfl|rfl|rfl|rfl|rfl|rfl
 all_goals
  refine RunD.stepX 6 (vAj 1 C) ((HK0 C _).put (path 4) .dead) kr kr kr kr (Eq.trans kr h24) kr (zfd ?_ kr kr)
  refine sR kr ?_
  refine sV kr ?_
  refine sV kr ?_
  refine Sat.kill (p:=path 5) (b:=wB 1 C) kr ?_
  refine Sat.keepL _ ?_ (Sat.heapL (BK1 C) kr kr hn)
  exact⟨kr,kr,kr,kr,kr,kr,kr,trivial⟩
theorem rnd1 (code:CB) (s:Int) (C:Nat→Nat) (d:Nat) (hd:d≤8) (h23:KC Bn k23 (code,N 1,N 9,()) (N d,())) (h24:KOk PP (GG Bn) 24 pAj oAj (xAj (wM P0 C 0 1 []) (49+d)) (wM P0 C 0 2 [],N 2,N 0,()))
 (c':Code) (Q' Q:Ex→T AV→H→Prop) (hn:S Bn 73 c' (mkFr (L9 code 2 (s9 s d))) (hpH 8 (BK2 C)) Q'):
 S Bn 73 lp9 (mkFr (L9 code 1 s)) (hpH 6 (BK1 C)) (thenQ (fun fr h=>S Bn 73 c' fr h Q') Q):=by
 have hc:d=0∨d=1∨d=2∨d=3∨d=4∨d=5∨d=6∨d=7∨d=8:=om
 refine Sat.seq (sR kr (sCondT (b:=true) kr rfl (Sat.skip ?_)))
 refine Sat.seq (Sat.block ?_)
 refine Sat.seq ?_
 refine atRegG 2 (f:=23) (args:=[.isl (.int .u8) code,.i .i64 (N 1),.i .i64 (N 9)]) (v:=.i .i64 (N d)) (At.ofK (h:=hpH 6 (BK1 C)) (ps:=p23) (rs:=pInt) (x:=(code,N 1,N 9,())) (y:=(N d,())) (kc23 h23) kr rfl kr) kr kr kr ?_
 refine sR kr ?_
 obtain⟨c24,hk24,h24⟩:∃c:CallF,CallOK PP (GG Bn) c∧c 24 (aAj 1 C (path 6)) (HK1 C d)=.ok (vAj 2 C) ((HK1 C d).put (path 6) .dead):=
  ⟨_,callAt_ok (At.freeze (b:=sB d) kr (by intro h;cases h) h24 kr kr kr),callAt_eq⟩
 refine Sat.seq (Sat.dregS hmix (callOr_ok (f0:=24) hk24 (callOf_ok (G:=GG Bn) (L:=[K15]) (BOk.lo (B:=Bn)) (okC O15 ok0))) kr ?_)
 rcases hc with rfl|rfl|rfl|rfl|rfl|rfl|rfl|rfl|rfl
 all_goals
  refine RunD.stepX 6 (vAj 2 C) ((HK1 C _).put (path 6) .dead) kr kr kr kr (Eq.trans kr h24) kr (zfd ?_ kr kr)
  refine sR kr ?_
  refine sV kr ?_
  refine sV kr ?_
  refine Sat.kill (p:=path 7) (b:=wB 2 C) kr ?_
  refine Sat.keepL _ ?_ (Sat.heapL (BK2 C) kr kr hn)
  exact⟨kr,kr,kr,kr,kr,kr,kr,trivial⟩
theorem rnd2 (code:CB) (s:Int) (C:Nat→Nat) (d:Nat) (hd:d≤8) (h23:KC Bn k23 (code,N 2,N 9,()) (N d,())) (h24:KOk PP (GG Bn) 24 pAj oAj (xAj (wM P0 C 0 2 []) (49+d)) (wM P0 C 0 3 [],N 3,N 0,()))
 (c':Code) (Q' Q:Ex→T AV→H→Prop) (hn:S Bn 73 c' (mkFr (L9 code 3 (s9 s d))) (hpH 10 (BK3 C)) Q'):
 S Bn 73 lp9 (mkFr (L9 code 2 s)) (hpH 8 (BK2 C)) (thenQ (fun fr h=>S Bn 73 c' fr h Q') Q):=by
 have hc:d=0∨d=1∨d=2∨d=3∨d=4∨d=5∨d=6∨d=7∨d=8:=om
 refine Sat.seq (sR kr (sCondT (b:=true) kr rfl (Sat.skip ?_)))
 refine Sat.seq (Sat.block ?_)
 refine Sat.seq ?_
 refine atRegG 2 (f:=23) (args:=[.isl (.int .u8) code,.i .i64 (N 2),.i .i64 (N 9)]) (v:=.i .i64 (N d)) (At.ofK (h:=hpH 8 (BK2 C)) (ps:=p23) (rs:=pInt) (x:=(code,N 2,N 9,())) (y:=(N d,())) (kc23 h23) kr rfl kr) kr kr kr ?_
 refine sR kr ?_
 obtain⟨c24,hk24,h24⟩:∃c:CallF,CallOK PP (GG Bn) c∧c 24 (aAj 2 C (path 8)) (HK2 C d)=.ok (vAj 3 C) ((HK2 C d).put (path 8) .dead):=
  ⟨_,callAt_ok (At.freeze (b:=sB d) kr (by intro h;cases h) h24 kr kr kr),callAt_eq⟩
 refine Sat.seq (Sat.dregS hmix (callOr_ok (f0:=24) hk24 (callOf_ok (G:=GG Bn) (L:=[K15]) (BOk.lo (B:=Bn)) (okC O15 ok0))) kr ?_)
 rcases hc with rfl|rfl|rfl|rfl|rfl|rfl|rfl|rfl|rfl
 all_goals
  refine RunD.stepX 6 (vAj 3 C) ((HK2 C _).put (path 8) .dead) kr kr kr kr (Eq.trans kr h24) kr (zfd ?_ kr kr)
  refine sR kr ?_
  refine sV kr ?_
  refine sV kr ?_
  refine Sat.kill (p:=path 9) (b:=wB 3 C) kr ?_
  refine Sat.keepL _ ?_ (Sat.heapL (BK3 C) kr kr hn)
  exact⟨kr,kr,kr,kr,kr,kr,kr,trivial⟩
theorem unr4 {nt:Nat}{b:Code}{fr:T AV}{h:H}{Q:Ex→T AV→H→Prop} (hr:S Bn nt b fr h (thenQ (fun fr h=>S Bn nt b fr h (thenQ (fun fr h=>S Bn nt b fr h (thenQ (fun fr h=>S Bn nt b fr h (thenQ (fun _ _=>False) Q)) Q)) Q)) Q)):S Bn nt (.loop b) fr h Q:=Sat.unroll 4 (by
 unfold SatN
 exact hr)
abbrev p9:List Par:=[⟨false,.sl (.int .u8)⟩,⟨false,.str⟩]
abbrev o9:List Par:=[⟨true,zWorld⟩,⟨false,.int .i64⟩,⟨false,.bool⟩]
theorem end9 (code:CB) (C:Nat→Nat) (s:Int) (Q:Ex→T AV→H→Prop):S Bn 73 lp9 (mkFr (L9 code 3 s)) (hpH 10 (BK3 C)) (thenQ (fun _ _=>False) (blkQ 0 (thenQ (fun fr h=>S Bn 73 (sndC rest9) fr h (EndQ (resF Tryz.f9) o9 (wM P0 C 0 3 [],s,true,()))) Q))):=by
 refine Sat.seq (sR kr (sCond (b:=false) kr rfl (Sat.exit ?_)))
 refine sE kr ?_
 exact ze (res:=resF Tryz.f9) (rs:=o9) (y:=(wM P0 C 0 3 [],s,true,())) (y':=(wM P0 C 0 3 [],s,true,())) rfl kr
theorem start9 (code:CB) (C:Nat→Nat) (Q:Ex→T AV→H→Prop) (h:S Bn 73 (.loop lp9) (mkFr (L9 code 0 (N 10))) (hpH 4 (BK0 C)) (blkQ 0 (thenQ (fun fr h=>S Bn 73 (sndC rest9) fr h Q) Q))):
 S Bn 73 b9 (argsFrom [.isl (.int .u8) code,.s 4 [82,79,76,76]] 0 .e) H0 Q:=
 head9 code C _ (S_eq (n':=73) (c':=.block 0 (.loop lp9)) (h':=hpH 4 (BK0 C)) rfl kr kr (Sat.block h))
theorem kok9C (code:CB) (C:Nat→Nat) (d0 d1 d2:Nat) (hd0:d0≤8) (hd1:d1≤8) (hd2:d2≤8)
 (g0:KC Bn k23 (code,N 0,N 9,()) (N d0,())) (g1:KC Bn k23 (code,N 1,N 9,()) (N d1,())) (g2:KC Bn k23 (code,N 2,N 9,()) (N d2,()))
 (a0:KOk PP (GG Bn) 24 pAj oAj (xAj (wM P0 C 0 0 []) (49+d0)) (wM P0 C 0 1 [],N 1,N 0,())) (a1:KOk PP (GG Bn) 24 pAj oAj (xAj (wM P0 C 0 1 []) (49+d1)) (wM P0 C 0 2 [],N 2,N 0,()))
 (a2:KOk PP (GG Bn) 24 pAj oAj (xAj (wM P0 C 0 2 []) (49+d2)) (wM P0 C 0 3 [],N 3,N 0,())):
 KOk PP (GG Bn) 9 p9 o9 (code,[82,79,76,76],()) (wM P0 C 0 3 [],s9 (s9 (s9 (N 10) d0) d1) d2,true,()):=by
 refine fn_intro (G:=GG Bn) (b:=b9) (res:=resF Tryz.f9) hmix Tryz.func9 kr rfl kr kr kr (BOk.lo (B:=Bn)) fun _=>?_
 exact start9 code C _ (unr4 (rnd0 code (N 10) C d0 hd0 g0 a0 lp9 _ _ (rnd1 code _ C d1 hd1 g1 a1 lp9 _ _ (rnd2 code _ C d2 hd2 g2 a2 lp9 _ _ (end9 code C _ _)))))
theorem kok9 (code:CB) (hb:allB code=true):∃c1 c2 c3:Nat,∃s:Int,chr c1∧chr c2∧chr c3∧KOk PP (GG Bn) 9 p9 o9 (code,[82,79,76,76],()) (wT 0 0 0 c1 c2 c3 0 [],s,true,()):=by
 obtain⟨d0,h0,g0⟩:=kok23 (Bn:=Bn) code 0 om hb
 obtain⟨d1,h1,g1⟩:=kok23 (Bn:=Bn) code 1 om hb
 obtain⟨d2,h2,g2⟩:=kok23 (Bn:=Bn) code 2 om hb
 have c0:chr (49+d0):=by unfold chr;omega
 have c1:chr (49+d1):=by unfold chr;omega
 have c2:chr (49+d2):=by unfold chr;omega
 exact⟨49+d0,49+d1,49+d2,_,c0,c1,c2,kok9C code (Cc (49+d0) (49+d1) (49+d2)) d0 d1 d2 h0 h1 h2 g0 g1 g2 (kaj0 c0) (kaj1 c0 c1) (kaj2 c0 c1 c2)⟩
end
variable {Bn:Nat} [BOk Bn]
abbrev pT2:List Par:=[⟨true,.sl zNode⟩,⟨true,.sl zNode⟩]
abbrev pS1:List Par:=[⟨false,.str⟩]
theorem r16:runAll Bn [] EX 60 16 pT2 pBo [((tr_,tr_,()),(true,()))]=true:=kr
theorem count_x (r1 r2 r3:jrT) (t:Nat) (bs:List (den zBatch)):runAll Bn [] EX 60 14 pWo pS1 [((wJ r1 r2 r3 t bs,()),([49,48],()))]=true:=kr
noncomputable def b4:Code:=Option.getD Tryz.f4.body .skip
abbrev p4:List Par:=[⟨false,.sl (.int .u8)⟩,⟨false,.sl (.int .u8)⟩]
def wBk (t:Nat) (js:List (den zJob)) (bs:List (den zBatch)):Blk:=.cs 39 (tc zWorld (wX t js bs)) false
def L4a (code more:CB):List (List Bool×AV):=[(path 0,.isl (.int .u8) code),(path 1,.isl (.int .u8) more)]
def L4:List (List Bool×AV):=[(path 5,.p (path 0) 0),(path 7,.b true),(path 8,.p (path 1) 0),(path 10,.i .i64 (N 0)),(path 11,.p (path 2) 0),(path 12,.i .i64 (N 0))]
def in4:Code:=sndC (sndC b4)
def r64:Code:=sndC (sndC (sndC in4))
section
variable {Bn:Nat} [BOk Bn]
abbrev p8:List Par:=[⟨false,.sl (.int .u8)⟩,⟨false,.sl (.int .u8)⟩]
theorem kc8 (code more:CB):KOk PP (GG Bn) 8 p8 pBo (code,more,()) ((c8 code more).1,()):=by
 have h:=t8 (Bn:=Bn) code more
 unfold KC at h
 exact h
theorem start4 (code more:CB) (h:S Bn 60 in4 (mkFr (L4a code more)) (hpH 0 []) (EndQ (resF Tryz.f4) pBo (true,()))):
 KOk PP (GG Bn) 4 p4 pBo (code,more,()) (true,()):=by
 refine fn_intro (G:=GG Bn) (b:=b4) (res:=resF Tryz.f4) hmix Tryz.func4 kr rfl kr kr kr (BOk.lo (B:=Bn)) fun _=>?_
 refine sR kr ?_
 refine Sat.seq (Sat.seq ?_)
 refine atRegG 2 (At.ofK (h:=H0) (args:=[.isl (.int .u8) code,.isl (.int .u8) more]) (v:=.b (c8 code more).1) (kc8 code more) kr kr kr) kr kr kr ?_
 cases hb:(c8 code more).1 with
 |true=>
  refine sCondT (b:=true) kr rfl ?_
  refine sE kr ?_
  exact ze (res:=resF Tryz.f4) (rs:=pBo) (y:=(true,())) (y':=(true,())) rfl kr
 |false=>
  refine sCond (b:=false) kr rfl (Sat.skip ?_)
  refine Sat.keepL (L4a code more) ⟨kr,kr,trivial⟩ ?_
  exact Sat.heapL [] kr kr h
theorem mid4 (code more:CB) (Q:Ex→T AV→H→Prop){js0 js1 js2:List (den zJob)}{bs0 bs1 bs2:List (den zBatch)}{u0 u1 u2:Nat}{s:Int}{n:Nat}{ord:List Int}
 (h9:KOk PP (GG Bn) 9 p9 o9 (code,[82,79,76,76],()) (wX u0 js0 bs0,s,true,())) (h11:KOk PP (GG Bn) 11 p11 o11 (more,()) (ord,()))
 (h10:KOk PP (GG Bn) 10 pPj oPj (wX u0 js0 bs0,ord,()) (wX u1 js1 bs1,N n,N 0,())) (h12:KOk PP (GG Bn) 12 pRa oRa (wX u1 js1 bs1,N 200,()) (wX u2 js2 bs2,N 0,()))
 (h:S Bn 60 r64 (mkFr L4) (hpH 3 [some (wBk u0 js0 bs0),some (wBk u1 js1 bs1),some (wBk u2 js2 bs2)]) Q):
 S Bn 60 in4 (mkFr (L4a code more)) (hpH 0 []) Q:=by
 refine Sat.seq ?_
 refine atRegG 1 (At.ofK (h:=hpH 1 []) (args:=[.isl (.int .u8) code,.s 4 [82,79,76,76]]) (v:=.tu [.ag (tc zWorld (wX u0 js0 bs0)),.i .i64 s,.b true]) h9 kr kr kr) kr kr kr ?_
 obtain⟨d11,k11,e11⟩:∃c:CallF,CallOK PP (GG Bn) c∧c 11 [.isl (.int .u8) more] (hpH 2 [some (wBk u0 js0 bs0)])=.ok (.isl tI ord) (hpH 2 [some (wBk u0 js0 bs0)]):=
  ⟨_,callAt_ok (At.ofK h11 kr kr kr),callAt_eq⟩
 obtain⟨d10,k10,e10⟩:∃c:CallF,CallOK PP (GG Bn) c∧c 10 [.ag (tc zWorld (wX u0 js0 bs0)),.isl tI ord] (hpH 2 [some (wBk u0 js0 bs0)])=.ok (.tu [.ag (tc zWorld (wX u1 js1 bs1)),.i .i64 (N n),.i .i64 (N 0)]) (hpH 2 [some (wBk u0 js0 bs0)]):=
  ⟨_,callAt_ok (At.ofK h10 kr kr kr),callAt_eq⟩
 refine Sat.seq (Sat.dregS hmix (callOr_ok (f0:=11) k11 (callOr_ok (f0:=10) k10 (EV_ok 60))) kr ?_)
 refine RunD.stepX 2 _ _ kr kr kr kr (Eq.trans kr e11) kr ?_
 refine RunD.stepX 0 _ _ kr kr kr kr (Eq.trans kr e10) kr (zfd ?_ kr kr)
 refine Sat.seq ?_
 refine atRegG 1 (At.ofK (h:=hpH 3 [some (wBk u0 js0 bs0),some (wBk u1 js1 bs1)]) (args:=[.ag (tc zWorld (wX u1 js1 bs1)),.i .i64 (N 200)]) (v:=.tu [.ag (tc zWorld (wX u2 js2 bs2)),.i .i64 (N 0)]) h12 kr kr kr) kr kr kr ?_
 refine Sat.keepL L4 ⟨kr,kr,kr,kr,kr,kr,trivial⟩ ?_
 refine Sat.heapL [some (wBk u0 js0 bs0),some (wBk u1 js1 bs1),some (wBk u2 js2 bs2)] kr kr ?_
 exact S_eq rfl kr rfl h
def K16:Con:=tabC 16 pT2 pBo [((tr_,tr_,()),(true,()))]
theorem last4 {js0 js1 js2:List (den zJob)}{bs0 bs1 bs2:List (den zBatch)}{u0 u1 u2:Nat} (h13:KOk PP (GG Bn) 13 pWo pBo (wX u2 js2 bs2,()) (true,())) (h14:KOk PP (GG Bn) 14 pWo pS1 (wX u1 js1 bs1,()) ([49,48],())):
 S Bn 60 r64 (mkFr L4) (hpH 3 [some (wBk u0 js0 bs0),some (wBk u1 js1 bs1),some (wBk u2 js2 bs2)]) (EndQ (resF Tryz.f4) pBo (true,())):=by
 have a13:At Bn 13 (hpH 3 [some (wBk u0 js0 bs0),some (wBk u1 js1 bs1),some (wBk u2 js2 bs2)]) [.ag (tc zWorld (wX u2 js2 bs2))] (.b true) (hpH 3 [some (wBk u0 js0 bs0),some (wBk u1 js1 bs1),some (wBk u2 js2 bs2)]):=
  At.ofK h13 kr kr kr
 obtain⟨d14,k14,e14⟩:∃c:CallF,CallOK PP (GG Bn) c∧c 14 [.ag (tc zWorld (wX u1 js1 bs1))] (hpH 3 [some (wBk u0 js0 bs0),some (wBk u1 js1 bs1),some (wBk u2 js2 bs2)])=.ok (.s 2 [49,48]) (hpH 3 [some (wBk u0 js0 bs0),some (wBk u1 js1 bs1),some (wBk u2 js2 bs2)]):=
  ⟨_,callAt_ok (At.ofK h14 kr kr kr),callAt_eq⟩
 refine Sat.seq ?_
 refine Sat.reg (call:=callOr 13 (callAt 13 _ _ _ _) (callOr 14 d14 (callOf [K16]))) hmix (callOr_ok (callAt_ok a13) (callOr_ok k14 (callOf_ok (G:=GG Bn) (L:=[K16]) (BOk.lo (B:=Bn)) (okC (rows_con (rows_run ok0 r16)) ok0)))) ?_
 refine RunOps.callH (f:=13) (args:=[.ag (tc zWorld (wX u2 js2 bs2))]) (v:=.b true) (h2:=hpH 3 [some (wBk u0 js0 bs0),some (wBk u1 js1 bs1),some (wBk u2 js2 bs2)]) 11 kr kr kr kr (callOr_at kr) ?_
 refine RunOps.callH (f:=14) (args:=[.ag (tc zWorld (wX u1 js1 bs1))]) (v:=.s 2 [49,48]) (h2:=hpH 3 [some (wBk u0 js0 bs0),some (wBk u1 js1 bs1),some (wBk u2 js2 bs2)]) 10 kr kr kr kr (Eq.trans kr e14) ?_
 refine zf ?_
 refine sE kr ?_
 exact ze (res:=resF Tryz.f4) (rs:=pBo) (y:=(true,())) (y':=(true,())) rfl kr
end
variable {Bn:Nat} [BOk Bn]
abbrev pBo168:List Par:=[⟨false,.bool⟩]
theorem r168:runAll Bn [] EX 60 255 pPr pBo168 [((prg_,()),(true,()))]=true:=kr
def k168:Con:=tabC 255 pPr pBo168 [((prg_,()),(true,()))]
theorem o168:OK Bn k168:=rows_con (rows_run ok0 r168)
variable {Bn:Nat} [BOk Bn]
abbrev pBo170:List Par:=[⟨false,.bool⟩]
theorem r170:runAll Bn [k250] EX 60 257 pPr pBo170 [((prg_,()),(true,()))]=true:=kr
def k170:Con:=tabC 257 pPr pBo170 [((prg_,()),(true,()))]
theorem o170:OK Bn k170:=rows_con (rows_run (okC o250 ok0) r170)
variable {Bn:Nat} [BOk Bn]
def allb {t:Ty} (P:den t→Bool) (l:List (den t)):Bool:=List.rec true (fun x _ ih=>cd (P x) ih false) l
theorem allb_gt {t:Ty}{P:den t→Bool}:∀{l:List (den t)},allb P l=true→∀i,i<l.length→P (gt t l i)=true
 |[],_,_,h=>absurd h (Nn _)
 |x::l,h,i,hi=>by
  obtain⟨h1,h2⟩:=cd_true (show cd (P x) (allb P l) false=true from h)
  cases i with
  |zero=>exact h1
  |succ i=>exact allb_gt (l:=l) h2 i (Nat.lt_of_succ_lt_succ hi)
def entB (e:den y261):Bool:=cd (iLe (J0) e.2.2.1) (iLe e.2.2.1 (J 350)) false
def insB (e:den y242):Bool:=cd (c250 e.1).1 (iLe (J0) e.2.1) true
theorem iLe_t {a b:Int} (h:iLe a b=true):@LE.le Int _ a b:=by rw[iLe_eq] at h;simpa using h
theorem prg_len:U prg_.1=351:=kr
theorem prg_ent:∀i,i<U prg_.2→@LE.le Int _ 0 (gt y261 prg_.2 i).2.2.1∧@LT.lt Int _ (gt y261 prg_.2 i).2.2.1 ((U prg_.1:Nat):Int):=fun i hi=>by
 have h:=allb_gt (t:=y261) (P:=entB) (l:=prg_.2) kr i hi
 obtain⟨h1,h2⟩:=cd_true (show cd _ _ false=true from h)
 have h3:=iLe_t h2
 refine⟨iLe_t h1,?_⟩
 rw[prg_len]
 have:(J 350:Int)=350:=rfl
 omega
theorem prg_ins:∀i,i<U prg_.1→(c250 (gt y242 prg_.1 i).1).1=true→@LE.le Int _ 0 (gt y242 prg_.1 i).2.1:=fun i hi hj=>by
 have h:=allb_gt (t:=y242) (P:=insB) (l:=prg_.1) kr i hi
 have h:cd (c250 (gt y242 prg_.1 i).1).1 (iLe (J0) (gt y242 prg_.1 i).2.1) true=true:=h
 rw[hj] at h
 exact iLe_t h
theorem q171:KOk PP (GG Bn) 258 pPr pHe (prg_,()) (hei_,true,()):=by
 rw[←eqDL_eq pHe _ _ v171]
 exact(o171 (Bn:=Bn)).2 (prg_,()) (c171 prg_) (p171 ⟨by rw[prg_len];decide,by rw[prg_len];decide,prg_ent,prg_ins⟩)
theorem rows_one {f:Nat}{ps rs:List Par}{x:denL ps}{y:denL rs} (h:KOk PP (GG Bn) f ps rs x y):RowsOk Bn f ps rs [(x,y)]:=fun q hq=>by rw[List.mem_singleton.1 hq];exact h
def K171:Con:=tabC 258 pPr pHe [((prg_,()),(hei_,true,()))]
theorem O171:OK Bn K171:=rows_con (rows_one q171)
theorem r109:runAll Bn [k168,k169,k170,K171] EX 60 151 pPr pBo [((prg_,()),(true,()))]=true:=kr
def k109:Con:=tabC 151 pPr pBo [((prg_,()),(true,()))]
theorem o109:OK Bn k109:=rows_con (rows_run (okC o168 (okC o169 (okC o170 (okC O171 ok0)))) r109)
section
variable {Bn:Nat} [BOk Bn]
def EV3 (Bn:Nat):CallF:=evF (tblR Bn [k168,k169,k170,K171,k109] EX) 60
theorem EV3_ok:CallOK PP (GG Bn) (EV3 Bn):=evF_sound hmix (tblR_ok (okC o168 (okC o169 (okC o170 (okC O171 (okC o109 ok0))))) EX_ok) 60
noncomputable def b33:Code:=Option.getD Tryz.f33.body .skip
noncomputable def b13:Code:=Option.getD Tryz.f13.body .skip
def HF (t:Nat) (bs:List (den zBatch)):H:=hpH 1 [some (.cs 39 (tc zWorld (wT 20 20 20 49 49 49 t bs)) false)]
theorem at33_0 (t:Nat) (ht:t≤999999):At Bn 33 (HF t [bt_ 1,bt_ 2,bt_ 3]) [.p (path 0) 0] (.b true) (HF t [bt_ 1,bt_ 2,bt_ 3]):=by
 refine At.bodyS Tryz.func33 rfl (b:=b33) kr ?_ kr
 refine sR kr ?_
 refine Sat.seq (Sat.seq ?_)
 refine Sat.reg (call:=EV3 Bn) hmix EV3_ok ?_
 refine zv 5 8 (.b (cd (iLe (N 0) (N t)) (iLe (N t) (N 999999)) false)) (.b true) (by rw[iLe_eq,iLe_eq];congr 1;simp[cd];omega) ?_
 refine zf ?_
 refine sCond (b:=false) kr rfl ?_
 refine Sat.skip ?_
 refine Sat.ev (call:=EV3 Bn) hmix EV3_ok (isRet_eq kr) ?_
 exact⟨.inr rfl,kr,sameH_of kr⟩
theorem end13_0 (t:Nat) (ht:t≤999999):KOk PP (GG Bn) 13 pWo pBo (wT 20 20 20 49 49 49 t [bt_ 1,bt_ 2,bt_ 3],()) (true,()):=by
 refine fn_intro (G:=GG Bn) (b:=b13) (res:=resF Tryz.f13) hmix Tryz.func13 kr rfl kr kr kr (BOk.lo (B:=Bn)) fun _=>?_
 refine sR kr ?_
 refine Sat.seq (Sat.seq ?_)
 refine atRegG 0 (at33_0 t ht) kr kr kr ?_
 refine sCond (b:=false) kr rfl ?_
 refine Sat.skip ?_
 refine Sat.ev (call:=EV3 Bn) hmix EV3_ok (isRet_eq kr) ?_
 exact ze (res:=resF Tryz.f13) (rs:=pBo) (y:=(true,())) (y':=(true,())) rfl kr
theorem at33_1 (t:Nat) (ht:t≤999999):At Bn 33 (HF t [bt_ 1,bt_ 3,bt_ 2]) [.p (path 0) 0] (.b true) (HF t [bt_ 1,bt_ 3,bt_ 2]):=by
 refine At.bodyS Tryz.func33 rfl (b:=b33) kr ?_ kr
 refine sR kr ?_
 refine Sat.seq (Sat.seq ?_)
 refine Sat.reg (call:=EV3 Bn) hmix EV3_ok ?_
 refine zv 5 8 (.b (cd (iLe (N 0) (N t)) (iLe (N t) (N 999999)) false)) (.b true) (by rw[iLe_eq,iLe_eq];congr 1;simp[cd];omega) ?_
 refine zf ?_
 refine sCond (b:=false) kr rfl ?_
 refine Sat.skip ?_
 refine Sat.ev (call:=EV3 Bn) hmix EV3_ok (isRet_eq kr) ?_
 exact⟨.inr rfl,kr,sameH_of kr⟩
theorem end13_1 (t:Nat) (ht:t≤999999):KOk PP (GG Bn) 13 pWo pBo (wT 20 20 20 49 49 49 t [bt_ 1,bt_ 3,bt_ 2],()) (true,()):=by
 refine fn_intro (G:=GG Bn) (b:=b13) (res:=resF Tryz.f13) hmix Tryz.func13 kr rfl kr kr kr (BOk.lo (B:=Bn)) fun _=>?_
 refine sR kr ?_
 refine Sat.seq (Sat.seq ?_)
 refine atRegG 0 (at33_1 t ht) kr kr kr ?_
 refine sCond (b:=false) kr rfl ?_
 refine Sat.skip ?_
 refine Sat.ev (call:=EV3 Bn) hmix EV3_ok (isRet_eq kr) ?_
 exact ze (res:=resF Tryz.f13) (rs:=pBo) (y:=(true,())) (y':=(true,())) rfl kr
theorem at33_2 (t:Nat) (ht:t≤999999):At Bn 33 (HF t [bt_ 2,bt_ 1,bt_ 3]) [.p (path 0) 0] (.b true) (HF t [bt_ 2,bt_ 1,bt_ 3]):=by
 refine At.bodyS Tryz.func33 rfl (b:=b33) kr ?_ kr
 refine sR kr ?_
 refine Sat.seq (Sat.seq ?_)
 refine Sat.reg (call:=EV3 Bn) hmix EV3_ok ?_
 refine zv 5 8 (.b (cd (iLe (N 0) (N t)) (iLe (N t) (N 999999)) false)) (.b true) (by rw[iLe_eq,iLe_eq];congr 1;simp[cd];omega) ?_
 refine zf ?_
 refine sCond (b:=false) kr rfl ?_
 refine Sat.skip ?_
 refine Sat.ev (call:=EV3 Bn) hmix EV3_ok (isRet_eq kr) ?_
 exact⟨.inr rfl,kr,sameH_of kr⟩
theorem end13_2 (t:Nat) (ht:t≤999999):KOk PP (GG Bn) 13 pWo pBo (wT 20 20 20 49 49 49 t [bt_ 2,bt_ 1,bt_ 3],()) (true,()):=by
 refine fn_intro (G:=GG Bn) (b:=b13) (res:=resF Tryz.f13) hmix Tryz.func13 kr rfl kr kr kr (BOk.lo (B:=Bn)) fun _=>?_
 refine sR kr ?_
 refine Sat.seq (Sat.seq ?_)
 refine atRegG 0 (at33_2 t ht) kr kr kr ?_
 refine sCond (b:=false) kr rfl ?_
 refine Sat.skip ?_
 refine Sat.ev (call:=EV3 Bn) hmix EV3_ok (isRet_eq kr) ?_
 exact ze (res:=resF Tryz.f13) (rs:=pBo) (y:=(true,())) (y':=(true,())) rfl kr
theorem at33_3 (t:Nat) (ht:t≤999999):At Bn 33 (HF t [bt_ 2,bt_ 3,bt_ 1]) [.p (path 0) 0] (.b true) (HF t [bt_ 2,bt_ 3,bt_ 1]):=by
 refine At.bodyS Tryz.func33 rfl (b:=b33) kr ?_ kr
 refine sR kr ?_
 refine Sat.seq (Sat.seq ?_)
 refine Sat.reg (call:=EV3 Bn) hmix EV3_ok ?_
 refine zv 5 8 (.b (cd (iLe (N 0) (N t)) (iLe (N t) (N 999999)) false)) (.b true) (by rw[iLe_eq,iLe_eq];congr 1;simp[cd];omega) ?_
 refine zf ?_
 refine sCond (b:=false) kr rfl ?_
 refine Sat.skip ?_
 refine Sat.ev (call:=EV3 Bn) hmix EV3_ok (isRet_eq kr) ?_
 exact⟨.inr rfl,kr,sameH_of kr⟩
theorem end13_3 (t:Nat) (ht:t≤999999):KOk PP (GG Bn) 13 pWo pBo (wT 20 20 20 49 49 49 t [bt_ 2,bt_ 3,bt_ 1],()) (true,()):=by
 refine fn_intro (G:=GG Bn) (b:=b13) (res:=resF Tryz.f13) hmix Tryz.func13 kr rfl kr kr kr (BOk.lo (B:=Bn)) fun _=>?_
 refine sR kr ?_
 refine Sat.seq (Sat.seq ?_)
 refine atRegG 0 (at33_3 t ht) kr kr kr ?_
 refine sCond (b:=false) kr rfl ?_
 refine Sat.skip ?_
 refine Sat.ev (call:=EV3 Bn) hmix EV3_ok (isRet_eq kr) ?_
 exact ze (res:=resF Tryz.f13) (rs:=pBo) (y:=(true,())) (y':=(true,())) rfl kr
theorem at33_4 (t:Nat) (ht:t≤999999):At Bn 33 (HF t [bt_ 3,bt_ 1,bt_ 2]) [.p (path 0) 0] (.b true) (HF t [bt_ 3,bt_ 1,bt_ 2]):=by
 refine At.bodyS Tryz.func33 rfl (b:=b33) kr ?_ kr
 refine sR kr ?_
 refine Sat.seq (Sat.seq ?_)
 refine Sat.reg (call:=EV3 Bn) hmix EV3_ok ?_
 refine zv 5 8 (.b (cd (iLe (N 0) (N t)) (iLe (N t) (N 999999)) false)) (.b true) (by rw[iLe_eq,iLe_eq];congr 1;simp[cd];omega) ?_
 refine zf ?_
 refine sCond (b:=false) kr rfl ?_
 refine Sat.skip ?_
 refine Sat.ev (call:=EV3 Bn) hmix EV3_ok (isRet_eq kr) ?_
 exact⟨.inr rfl,kr,sameH_of kr⟩
theorem end13_4 (t:Nat) (ht:t≤999999):KOk PP (GG Bn) 13 pWo pBo (wT 20 20 20 49 49 49 t [bt_ 3,bt_ 1,bt_ 2],()) (true,()):=by
 refine fn_intro (G:=GG Bn) (b:=b13) (res:=resF Tryz.f13) hmix Tryz.func13 kr rfl kr kr kr (BOk.lo (B:=Bn)) fun _=>?_
 refine sR kr ?_
 refine Sat.seq (Sat.seq ?_)
 refine atRegG 0 (at33_4 t ht) kr kr kr ?_
 refine sCond (b:=false) kr rfl ?_
 refine Sat.skip ?_
 refine Sat.ev (call:=EV3 Bn) hmix EV3_ok (isRet_eq kr) ?_
 exact ze (res:=resF Tryz.f13) (rs:=pBo) (y:=(true,())) (y':=(true,())) rfl kr
theorem at33_5 (t:Nat) (ht:t≤999999):At Bn 33 (HF t [bt_ 3,bt_ 2,bt_ 1]) [.p (path 0) 0] (.b true) (HF t [bt_ 3,bt_ 2,bt_ 1]):=by
 refine At.bodyS Tryz.func33 rfl (b:=b33) kr ?_ kr
 refine sR kr ?_
 refine Sat.seq (Sat.seq ?_)
 refine Sat.reg (call:=EV3 Bn) hmix EV3_ok ?_
 refine zv 5 8 (.b (cd (iLe (N 0) (N t)) (iLe (N t) (N 999999)) false)) (.b true) (by rw[iLe_eq,iLe_eq];congr 1;simp[cd];omega) ?_
 refine zf ?_
 refine sCond (b:=false) kr rfl ?_
 refine Sat.skip ?_
 refine Sat.ev (call:=EV3 Bn) hmix EV3_ok (isRet_eq kr) ?_
 exact⟨.inr rfl,kr,sameH_of kr⟩
theorem end13_5 (t:Nat) (ht:t≤999999):KOk PP (GG Bn) 13 pWo pBo (wT 20 20 20 49 49 49 t [bt_ 3,bt_ 2,bt_ 1],()) (true,()):=by
 refine fn_intro (G:=GG Bn) (b:=b13) (res:=resF Tryz.f13) hmix Tryz.func13 kr rfl kr kr kr (BOk.lo (B:=Bn)) fun _=>?_
 refine sR kr ?_
 refine Sat.seq (Sat.seq ?_)
 refine atRegG 0 (at33_5 t ht) kr kr kr ?_
 refine sCond (b:=false) kr rfl ?_
 refine Sat.skip ?_
 refine Sat.ev (call:=EV3 Bn) hmix EV3_ok (isRet_eq kr) ?_
 exact ze (res:=resF Tryz.f13) (rs:=pBo) (y:=(true,())) (y':=(true,())) rfl kr
end
theorem play_inv {ord:List Int}{a0:WS} (h0:InvW a0):∀i,InvW (play ord a0 i).1∧(play ord a0 i).1.t≤a0.t+i
 |0=>⟨h0,Nr _⟩
 |i+1=>by
  obtain⟨h1,h2⟩:=play_inv (ord:=ord) h0 i
  show InvW (stepO (gt (.int .i64) ord i) (play ord a0 i)).1∧(stepO (gt (.int .i64) ord i) (play ord a0 i)).1.t≤a0.t+(i+1)
  generalize play ord a0 i=q at h1 h2
  unfold stepO
  by_cases e0:gt (.int .i64) ord i=N 0
  ·rw[if_pos e0]
   exact⟨h1.tk,by show q.1.t+1≤_;omega⟩
  ·rw[if_neg e0]
   by_cases e1:gt (.int .i64) ord i=N 1
   ·rw[if_pos e1]
    exact⟨h1.st1,by show(stW 1 q.1).t≤_;rw[stW_t];omega⟩
   ·rw[if_neg e1]
    by_cases e2:gt (.int .i64) ord i=N 2
    ·rw[if_pos e2]
     exact⟨h1.st2,by show(stW 2 q.1).t≤_;rw[stW_t];omega⟩
    ·rw[if_neg e2]
     exact⟨h1.st3,by show(stW 3 q.1).t≤_;rw[stW_t];omega⟩
theorem six {a:WS} (hB:InvB a) (hl:a.bs.length=3):a.bs=[bt_ 1,bt_ 2,bt_ 3]∨a.bs=[bt_ 1,bt_ 3,bt_ 2]∨a.bs=[bt_ 2,bt_ 1,bt_ 3]∨a.bs=[bt_ 2,bt_ 3,bt_ 1]∨a.bs=[bt_ 3,bt_ 1,bt_ 2]∨a.bs=[bt_ 3,bt_ 2,bt_ 1]:=by
 obtain⟨l,h1,h2,h3⟩:=hB
 have h4:∀k∈l,k=1∨k=2∨k=3:=fun k hk=>by
  rcases h3 k hk with h|h|h
  ·exact .inl h.1
  ·exact .inr (.inl h.1)
  ·exact .inr (.inr h.1)
 rw[h1,Lm] at hl
 rw[h1]
 match l,h2,h4,hl with
 |[x,y,z],h2,h4,_=>
  have hx:=h4 x (by simp)
  have hy:=h4 y (by simp)
  have hz:=h4 z (by simp)
  simp at h2
  rcases hx with rfl|rfl|rfl<;>rcases hy with rfl|rfl|rfl<;>rcases hz with rfl|rfl|rfl<;>first|omega|simp
def vE (k:Nat):den zJob:=(N k,(N 3,N 0,[],[],[],[],[],(N 1,[],[],[]),false,false,(false,[],[]),N 0,N 0,N 0,N 0,[]),(N 0,N 0,[]),
 (N 0,N 0,[],[],[],[],[],(N 0,[],[],[]),false,false,(false,[],[]),N 0,N 0,N 0,N 0,[]),[],[],[],N 0,[],[49])
theorem e20_1 (c:Nat):vJ 20 1 c=vE 1:=kr
theorem e20_2 (c:Nat):vJ 20 2 c=vE 2:=kr
theorem e20_3 (c:Nat):vJ 20 3 c=vE 3:=kr
theorem v20_1 (c:Nat):vJ 20 1 c=vJ 20 1 49:=by rw[e20_1,e20_1]
theorem v20_2 (c:Nat):vJ 20 2 c=vJ 20 2 49:=by rw[e20_2,e20_2]
theorem v20_3 (c:Nat):vJ 20 3 c=vJ 20 3 49:=by rw[e20_3,e20_3]
section
variable {Bn:Nat} [BOk Bn]{c1 c2 c3:Nat}
theorem kok13 {a:WS} (hi:InvW a) (hB:InvB a) (h1:a.j1.p=20) (h2:a.j2.p=20) (h3:a.j3.p=20) (ht:a.t≤999999):KOk PP (GG Bn) 13 pWo pBo (wA c1 c2 c3 a,()) (true,()):=by
 have hl:a.bs.length=3:=by
  rw[hi.bs]
  unfold b17
  rw[h1,h2,h3]
  rfl
 have e:wA c1 c2 c3 a=wT 20 20 20 49 49 49 a.t a.bs:=by
  unfold wA wT
  rw[h1,h2,h3,v20_1 c1,v20_2 c2,v20_3 c3]
 rw[e]
 rcases six hB hl with h|h|h|h|h|h<;>rw[h]
 ·exact end13_0 a.t ht
 ·exact end13_1 a.t ht
 ·exact end13_2 a.t ht
 ·exact end13_3 a.t ht
 ·exact end13_4 a.t ht
 ·exact end13_5 a.t ht
theorem kok14 (a:WS):KOk PP (GG Bn) 14 pWo pS1 (wA c1 c2 c3 a,()) ([49,48],()):=by
 have e:wA c1 c2 c3 a=wJ (vJ a.j1.p 1 c1).2 (vJ a.j2.p 2 c2).2 (vJ a.j3.p 3 c3).2 a.t a.bs:=wT_wJ ..
 rw[e]
 exact rows_run ok0 (count_x _ _ _ _ _) _ (List.mem_singleton.2 rfl)
theorem law4 (code more:CB) (hc:allB code=true) (hm:allB more=true):KOk PP (GG Bn) 4 p4 pBo (code,more,()) (true,()):=by
 obtain⟨c1,c2,c3,s,hc1,hc2,hc3,h9⟩:=kok9 (Bn:=Bn) code hc
 obtain⟨ord,ho,hl,h11⟩:=kok11 (Bn:=Bn) more hm
 have hP0:∀k,P0 k≤20:=fun k=>Nz _
 have i0:InvW (aL P0 0 []):=invL hP0 0 [] rfl
 have iB0:InvB (aL P0 0 []):=⟨[],rfl,by simp,by simp⟩
 have h10:=kok10 (Bn:=Bn) hc1 hc2 hc3 ord ho om
 obtain⟨i1,t1⟩:=play_inv (ord:=ord) i0 ord.length
 have iB1:=InvB.ofPlay (ord:=ord) iB0 ord.length
 have t0:(aL P0 0 []).t=0:=rfl
 generalize ha:(play ord (aL P0 0 []) ord.length).1=a1 at h10 i1 t1 iB1
 generalize (play ord (aL P0 0 []) ord.length).2=n at h10
 have h12:=kok12 (Bn:=Bn) hc1 hc2 hc3 a1 i1 iB1 om
 obtain⟨i2,t2,_⟩:=rnds_io (cpW_inv i1) 200
 obtain⟨q1,q2,q3⟩:=rnds_end (cpW_inv i1)
 have iB2:=InvB.ofRnds (cpW_B iB1) 200
 have tc:(cpW a1).t=a1.t:=rfl
 have h13:=kok13 (Bn:=Bn) (c1:=c1) (c2:=c2) (c3:=c3) i2 iB2 q1 q2 q3 om
 have h14:=kok14 (Bn:=Bn) (c1:=c1) (c2:=c2) (c3:=c3) a1
 exact start4 code more (mid4 code more _ h9 h11 h10 h12 (last4 h13 h14))
end
end Go.Ev
end
noncomputable section
namespace Go.Ev
open Go.Proofs
abbrev Bn:Nat:=1152921504606846976
instance bn_ok:BOk Bn:=⟨by decide,by decide⟩
def env0 (w:World):Env:=⟨fun _=>(0,1),H0,w,⟨fun _=>False,0,Bn⟩⟩
theorem env0_get (w:World) (id:Id):(env0 w).h.get id=none:=by show T.get id .e=none;rw[T.get_e]
theorem env0_own (w:World) (b:Nat):¬Own (env0 w) b:=fun⟨id,⟨_,hb,_⟩,_⟩=>by rw[env0_get] at hb;cases hb
theorem env0_imm (w:World) (b:Nat) (h:b<w.heap.size):Imm (env0 w) b:=⟨h,fun h=>h,env0_own w b⟩
theorem env0_st (w:World):St (env0 w):={
 kn:=fun id h=>by simp[known,env0] at h
 dk:=fun id b hb=>by rw[env0_get] at hb;cases hb
 lo:=Nr 0
 blk:=fun id b hb=>by rw[env0_get] at hb;cases hb
 inj:=fun id _ ⟨b,hb,_⟩=>by rw[env0_get] at hb;cases hb
 fr:=fun b hb=>hb.elim}
theorem env0_fresh (w:World):Fresh (env0 w):=⟨rfl,fun _=>rfl,rfl⟩
theorem cell_lt {w:World}{b o:Nat}{v:Value} (h:w.cell? ⟨b,o,none⟩=some v):b<w.heap.size:=by
 rcases Nat.lt_or_ge b w.heap.size with hl|hl
 ·exact hl
 ·simp[World.cell?,Array.getElem?_eq_none hl] at h
theorem cells_one {w:World}{g:Nat}{v:Value} (h:w.cell? ⟨g,0,none⟩=some v):CellsAt w g 0 [v]:=fun j u hu=>by
 cases j with
 |zero=>obtain rfl:=Oi hu;exact h
 |succ j=>simp at hu
theorem relT_pow {m:Mm}{w:World}:relT m w powT powX (Lib.pow10Tab.map fun z=>Value.int .u64 z):=by
 show relT m w powT powX [.int .u64 1,.int .u64 10,.int .u64 100,.int .u64 1000,.int .u64 10000,.int .u64 100000,.int .u64 1000000,.int .u64 10000000,.int .u64 100000000,.int .u64 1000000000,.int .u64 10000000000,.int .u64 100000000000,.int .u64 1000000000000,.int .u64 10000000000000,.int .u64 100000000000000,.int .u64 1000000000000000,.int .u64 10000000000000000,.int .u64 100000000000000000,.int .u64 1000000000000000000,.int .u64 10000000000000000000]
 repeat refine⟨[_],_,rfl,rfl,?_⟩
 rfl
theorem grel_of {W:World}{m:Int} (h0:W.cell? ⟨0,0,none⟩=some (.int .i64 m)) (h1:Lib.TabIs Tryz.prog W (YtmkdnjbgmflnfaaGreatDoor.Rows.fnRolledRow.named.getD 5 default) .u64 Lib.pow10Tab)
 (h2:∃u v,W.cell? ⟨8,0,none⟩=some (.iface u v)) (h3:∃u v,W.cell? ⟨9,0,none⟩=some (.iface u v)):GRel (GG Bn) (env0 W):=by
 have hn:Tryz.prog.globalNamed (YtmkdnjbgmflnfaaGreatDoor.Rows.fnRolledRow.named.getD 5 default)=some 1:=Tryz.lays173.m17
 refine⟨rfl,fun g q hq=>?_,fun g hg=>?_,fun g hg=>?_⟩
 ·replace hq:cd (Nat.beq g 1) (some (⟨powT,powX⟩:Sigma den)) none=some q:=hq
  cases hb:Nat.beq g 1 with
  |false=>rw[hb] at hq;cases hq
  |true=>
   rw[hb] at hq
   obtain rfl:=Oi (show some (⟨powT,powX⟩:Sigma den)=some q from hq)
   obtain rfl:=Nq hb
   have hcell:=fun i hi=>h1.cell hn i hi
   have hbs:bsize W 1=20:=by
    unfold Lib.TabIs World.var? at h1
    rw[hn] at h1
    have h1:(match W.heap[1]? with|some (.cells cs _ _)=>some cs|_=>none)=_:=h1
    unfold bsize
    split at h1
    ·rename_i cs t fr hb
     rw[hb]
     have:=Oi h1
     show cs.size=20
     rw[this]
     rfl
    ·cases h1
   refine⟨?_,hbs⟩
   simp only[Rel]
   refine⟨1,0,_,rfl,env0_imm W 1 ?_,?_,relT_pow⟩
   ·rcases Nat.lt_or_ge 1 W.heap.size with hl|hl
    ·exact hl
    ·simp[bsize,Array.getElem?_eq_none hl] at hbs
   ·intro j v hv
    have hj:j<20:=by
     have:=(List.getElem?_eq_some_iff.1 hv).1
     exact this
    have h4:=hcell j hj
    rw[List.getElem?_map] at hv
    obtain⟨z,hz,rfl⟩:=Option.map_eq_some_iff.1 hv
    have h5:Lib.pow10Tab.getD j 0=z:=by simp[List.getD,hz]
    rw[h5] at h4
    show W.cell? ⟨1,0+j,none⟩=_
    rw[Nat.zero_add]
    exact h4
 ·obtain rfl:=Nq (show Nat.beq g 0=true from hg)
  refine⟨m,?_⟩
  simp only[Rel]
  exact⟨0,0,[.int .i64 m],rfl,env0_imm W 0 (cell_lt h0),cells_one h0,rfl⟩
 ·have hg:cd (Nat.beq g 8) true (Nat.beq g 9)=true:=hg
  have go:∀k:Nat,(∃u v,W.cell? ⟨k,0,none⟩=some (.iface u v))→Rel (env0 W) (.ip .unit () 0) (.pointer (some ⟨k,0,none⟩))∧∃v,(env0 W).w.cell? ⟨k,0,none⟩=some v∧(v=.nilIface∨∃t p,v=.iface t p):=fun k ⟨u,v,h⟩=>by
   refine⟨?_,_,h,.inr ⟨u,v,rfl⟩⟩
   simp only[Rel]
   exact⟨k,0,[],rfl,env0_imm W k (cell_lt h),fun j v hv=>by simp at hv,rfl⟩
  cases hb:Nat.beq g 8 with
  |true=>obtain rfl:=Nq hb;exact go 8 h2
  |false=>rw[hb] at hg;obtain rfl:=Nq (show Nat.beq g 9=true from hg);exact go 9 h3
theorem enters4:∀args w,(callFunc 4 args).run Tryz.prog w=.ok (.enter 4 args) w:=enters_of Tryz.func4 kr rfl
theorem allB_of:∀{l:List Int},(∀z∈l,(0:Int)≤z∧z≤255)→allB l=true
 |[],_=>rfl
 |z::l,h=>by
  have h1:=h z (Mc ..)
  have h2:=allB_of (l:=l) fun x hx=>h x (Loz _ hx)
  show cd (cd (iLe (J 0) z) (iLe z (J 255)) false) (allB l) false=true
  have e1:iLe (J 0) z=true:=by rw[iLe_eq];exact Dt (show(0:Int)≤z from h1.1)
  have e2:iLe z (J 255)=true:=by rw[iLe_eq];exact Dt (show z≤255 from h1.2)
  rw[e1,e2,h2];rfl
theorem calls4 {w:World}{code more:den (.sl (.int .u8))}{u v:Value} (hb:allB code=true) (hb2:allB more=true) (hg:GRel (GG Bn) (env0 w)) (hr:Rel (env0 w) (.isl (.int .u8) code) u) (hr2:Rel (env0 w) (.isl (.int .u8) more) v):
 Calls Tryz.prog 4 #[u,v] w fun e w'=>e=.returned (.bool true)∧w.heap.size≤w'.heap.size∧(∀b,b<w.heap.size→w'.heap[b]? =w.heap[b]?)∧Qt w w':=by
 have hd:=law4 (Bn:=Bn) code more hb hb2 (env0 w) [u,v] (env0_fresh w) (env0_st w) hg (by show RelL (env0 w) [.isl (.int .u8) code,.isl (.int .u8) more] [u,v];simp only[RelL];exact⟨hr,hr2,trivial⟩)
 rcases hd with ⟨x,w',h1,_⟩|⟨_,h2⟩
 ·have:=enters4 [u,v].toArray w
  have h1:(callFunc 4 [u,v].toArray).run Tryz.prog w=.ok (.value x) w':=h1
  rw[this] at h1
  cases h1
 ·refine h2.mono ?_
  rintro e w' ⟨cv,rfl,e',rfl,_,hext,hrel⟩
  replace hrel:Rel e' (.b true) cv:=hrel
  simp only[Rel] at hrel
  subst hrel
  exact⟨rfl,hext.heap,fun b hb=>hext.keep b hb (env0_own w b),hext.qt⟩
end Go.Ev
namespace Go.Proofs.YtmkdnjbgmflnfaaGreatDoor
open Go.ChangeShapes Go.WideShapes Go.ChangeAt Go.RowKit Go.Ev
theorem own:ownKnob Tryz.prog.godebug=none:=kr
theorem cells5:Tryz.prog.cellsOf 5=1:=kr
theorem iface_cells {H:Type}{enc:TypeId×Value→H}{P:Program}{w:World}{base:Nat}{sp:Nat→Bool}{fuel:Nat}{t:TypeId}{ms:Array (String×TypeId)}{cs:List Value}{n:String}{d:DataW H}{p:List MemPlace}
 (ht:P.underlying t=some (.interface ms)) (h:DataW.trod enc P w base sp false fuel t cs=some (.iface n d,p)):∃u v,cs=[.iface u v]:=by
 cases fuel with
 |zero=>simp[DataW.trod] at h
 |succ fuel=>
  unfold DataW.trod at h
  rw[ht] at h
  split at h<;>first
   |cases h;done
   |exact⟨_,_,rfl⟩
   |(rename_i h1;cases h1;done)
   |(rename_i h1 _;cases h1;done)
   |(rename_i h1 _ _;cases h1;done)
   |(rename_i h1 _ _ _;cases h1;done)
theorem cell_of_var {W:World}{n:String}{g:Nat}{u:TypeId}{v:Value}{cs:Array Value} (hn:Tryz.prog.globalNamed n=some g) (hv:W.var? Tryz.prog n=some cs) (hc:cs.toList=[.iface u v]):W.cell? ⟨g,0,none⟩=some (.iface u v):=by
 have e:cs=#[.iface u v]:=by rw[←Array.toArray_toList (xs:=cs),hc]
 subst e
 unfold World.var? at hv
 rw[hn] at hv
 have hv:(match W.heap[g]? with|some (.cells cs _ _)=>some cs|_=>none)=some #[.iface u v]:=hv
 split at hv
 ·rename_i cs t fr hb
  obtain rfl:=Oi hv
  simp[World.cell?,hb]
 ·cases hv
theorem fil:(Rows.fnRolledRow.laid.filter fun x=>x.2.handleName?.isSome)=[]:=kr
theorem nP:((Rows.fnRolledRow.laid[4]?).getD (default,.nil)).1=Rows.fnRolledRow.named.getD 5 default:=kr
theorem nD:((Rows.fnRolledRow.laid[4]?).getD (default,.nil)).2=Lib.tabData .u64 Lib.pow10Tab:=kr
theorem nS:Tryz.prog.globalNamed ((Rows.fnRolledRow.laid[2]?).getD (default,.nil)).1=some 8:=kr
theorem nR:Tryz.prog.globalNamed ((Rows.fnRolledRow.laid[3]?).getD (default,.nil)).1=some 9:=kr
theorem ty1:(Tryz.prog.globals[1]?).map (·.type)=some 676:=kr
theorem ty2:(Tryz.prog.globals[8]?).map (·.type)=some 513:=kr
theorem ty3:(Tryz.prog.globals[9]?).map (·.type)=some 513:=kr
theorem c97:Tryz.prog.cellsOf 137=1:=kr
theorem c326:Tryz.prog.cellsOf 676=20:=kr
theorem laid_met {W:World} (h:laidMetH Tryz.prog Rows.fnRolledRow.laid W):laidMet Tryz.prog Rows.fnRolledRow.laid W:=by
 unfold laidMetH at h
 rw[fil] at h
 exact h
def Holds1 (W:World) (n:String) (d:DataW Unit):Prop:=∃g t cs fuel p,Tryz.prog.globalNamed n=some g∧(Tryz.prog.globals[g]?).map (·.type)=some t∧W.var? Tryz.prog n=some cs∧DataW.trod (fun _=>()) Tryz.prog W 0 (fun _=>true) false fuel t cs.toList=some (d,p)
theorem holds_of {W:World}{ps:List MemPlace}:∀{l:List (String×DataW Unit)},DataW.LaidVars Tryz.prog W l ps→∀{i:Nat}{x:String×DataW Unit},l[i]? =some x→Holds1 W x.1 x.2
 |[],_,i,x,hx=>by simp at hx
 |y::l,h,i,x,hx=>by
  obtain⟨g,t,cs,fuel,p,q,hg,ht,hvar,hd,hq,_⟩:=h
  cases i with
  |zero=>obtain rfl:=Oi hx;exact⟨g,t,cs,fuel,p,hg,ht,hvar,hd⟩
  |succ i=>exact holds_of hq (by simpa using hx)
theorem pow_laid {W:World} (h:Holds1 W ((Rows.fnRolledRow.laid[4]?).getD (default,.nil)).1 ((Rows.fnRolledRow.laid[4]?).getD (default,.nil)).2):Lib.TabIs Tryz.prog W (Rows.fnRolledRow.named.getD 5 default) .u64 Lib.pow10Tab:=by
 rw[nP,nD] at h
 obtain⟨g,t,cs,fuel,p,hg,ht,hvar,hd⟩:=h
 have hn:Tryz.prog.globalNamed (Rows.fnRolledRow.named.getD 5 default)=some 1:=Tryz.lays173.m17
 obtain rfl:=Oi (hn.symm.trans hg)
 obtain rfl:=Oi (ty1.symm.trans ht)
 unfold Lib.TabIs
 rw[hvar,←Lib.cells_of_tab Tryz.underlying676 Tryz.underlying137 c97 c326 hd]
theorem err_laid {W:World}{n:String}{g:Nat}{m:String}{d:DataW Unit} (hn:Tryz.prog.globalNamed n=some g) (hty:(Tryz.prog.globals[g]?).map (·.type)=some 513){x:DataW Unit} (hx:x=.iface m d) (h:Holds1 W n x):∃u v,W.cell? ⟨g,0,none⟩=some (.iface u v):=by
 subst hx
 obtain⟨g',t,cs,fuel,p,hg,ht,hvar,hd⟩:=h
 obtain rfl:=Oi (hn.symm.trans hg)
 obtain rfl:=Oi (hty.symm.trans ht)
 obtain⟨u,v,hc⟩:=iface_cells Tryz.underlying513 hd
 exact⟨u,v,cell_of_var hn hvar hc⟩
theorem vars_laid {W:World} (h:laidMetH Tryz.prog Rows.fnRolledRow.laid W):Lib.TabIs Tryz.prog W (Rows.fnRolledRow.named.getD 5 default) .u64 Lib.pow10Tab∧(∃u v,W.cell? ⟨8,0,none⟩=some (.iface u v))∧∃u v,W.cell? ⟨9,0,none⟩=some (.iface u v):=by
 obtain⟨ps,hl,_⟩:=laid_met h
 exact⟨pow_laid (holds_of hl (i:=4) (x:=((Rows.fnRolledRow.laid[4]?).getD (default,.nil))) rfl),err_laid nS ty2 rfl (holds_of hl (i:=2) (x:=((Rows.fnRolledRow.laid[2]?).getD (default,.nil))) rfl),err_laid nR ty3 rfl (holds_of hl (i:=3) (x:=((Rows.fnRolledRow.laid[3]?).getD (default,.nil))) rfl)⟩
theorem vars_rel {W:World} (hs:W.ShapedOpen Tryz.prog) (h:laidMetH Tryz.prog Rows.fnRolledRow.laid W):GRel (GG Bn) (env0 W):=by
 have hz:((begin Tryz.prog (fun _ _=>0) default).world.heap[0]?).bind Obj.row? =some (#[.int .i64 0],3):=kr
 obtain⟨m,hm⟩:=cell_of_shapedOpen_int hs (g:=0) (of_decide_eq_true kr) hz rfl kr kr Tryz.underlying3
 obtain⟨h1,h2,h3⟩:=vars_laid h
 exact grel_of hm h1 h2 h3
theorem lits_length {H:Type}{k:IntKind}{l:List Int}:(lits (H:=H) k l).length=l.length:=by simp[lits]
theorem bytes_in {H:Type}{enc:TypeId×Value→H}{W:World}{d:DataW H}{p:List MemPlace}{a0:Option Addr}{len cap:Nat}
 (h:DataW.Trod enc Tryz.prog W 0 (fun _=>true) true 22 (.slice a0 len cap) d p) (hlt:∀x∈p,x.block<W.heap.size) (hsz0:∀elems spare,d=.slice elems spare→(elems.length+spare.length)*Tryz.prog.bytesOf 5≤reachBytes):
 ∃code:den (.sl (.int .u8)),allB code=true∧Rel (env0 W) (.isl (.int .u8) code) (.slice a0 len cap):=by
 obtain⟨fuel,hf⟩:=h
 rcases open_ints Tryz.underlying22 Tryz.underlying5 cells5 hf with ⟨hcs,hx⟩|⟨a,len',cap',zs,hcs,_,hl,hm,hz,hx,hcell,hwz⟩
 ·simp[Value.cells] at hcs
  obtain⟨rfl,rfl,rfl⟩:=hcs
  refine⟨([]:List Int),rfl,?_⟩
  simp only[Rel]
  exact⟨_,rfl,.inl ⟨rfl,rfl⟩⟩
 ·simp[Value.cells] at hcs
  obtain⟨rfl,rfl,rfl⟩:=hcs
  simp only[Prod.mk.injEq] at hx
  obtain⟨rfl,rfl⟩:=hx
  simp only[if_true] at hz
  have hin:=range_u8 hwz
  have hll:(zs.take len).length=len:=by simp;omega
  have hbig:len≤Bn:=by
   have h1:=hsz0 _ _ rfl
   have h2:Tryz.prog.bytesOf 5=1:=kr
   rw[h2,lits_length,hll] at h1
   have h3:reachBytes<2 ^ 47:=reachBytes_lt
   have h4:(2 ^ 47:Nat)≤Bn:=by decide
   omega
  refine⟨(zs.take len:List Int),allB_of fun z hz1=>?_,?_⟩
  ·obtain⟨j,hj⟩:=List.getElem?_of_mem (List.mem_of_mem_take hz1)
   have:=hin j
   rw[hj] at this
   simpa using this
  ·simp only[Rel]
   refine⟨_,rfl,.inr ⟨a,cap,?_,?_,?_,?_⟩⟩
   ·show Value.slice (some a) len cap=Value.slice (some a) (zs.take len).length cap
    rw[hll]
   ·show(zs.take len).length≤cap
    rw[hll];exact hl
   ·show(zs.take len).length≤Bn
    rw[hll];exact hbig
   ·by_cases h0:len=0
    ·left
     subst h0
     rfl
    ·right
     obtain⟨b,off,rfl,hc⟩:=ints_at hcell om
     refine⟨rfl,env0_imm W b ?_,fun i x hi=>⟨[.int .u8 x],?_,rfl⟩⟩
     ·exact hlt (.cell b off) (MemPlace.mem_row.2 ⟨0,om,by simp⟩)
     ·replace hi:(zs.take len)[i]? =some x:=hi
      have hil:i<len:=by
       have:=(List.getElem?_eq_some_iff.1 hi).1
       omega
      have h1:=hc i om
      rw[List.getElem?_take_of_lt hil] at hi
      have h2:zs.getD i 0=x:=by simp[List.getD,hi]
      rw[h2] at h1
      have h5:(⟨b,off+i*wd (.int .u8),none⟩:Addr)=⟨b,off+i,none⟩:=by show(⟨b,off+i*1,none⟩:Addr)=_;rw[Nat.mul_one]
      have h6:=cells_one (w:=W) (g:=b) (v:=.int .u8 x)
      intro j u hu
      cases j with
      |zero=>
       obtain rfl:=Oi hu
       show W.cell? ⟨b,off+i*1+0,none⟩=_
       rw[Nat.mul_one,Nat.add_zero]
       exact h1
      |succ j=>simp at hu
theorem law_lifted (os:Os) (started:os.Started) (H:Type) (enc:TypeId×Value→H):
 ReturnsInHanded {} Tryz.checked os 4 .any (fun w args=>(Rows.fnRolledSpec.pre enc Tryz.prog Tryz.f4 [] false w args∧laidMetH Tryz.prog Rows.fnRolledRow.laid w)∧sizedMet enc Tryz.prog Tryz.f4 (OpenSpec.ofChange Rows.fnRolledSpec) false w args)
  (Rows.fnRolledSpec.post enc Tryz.prog Tryz.f4 false true false false):=by
 refine returnsInHanded_of_calls (C:=Tryz.checked) own started kr (laidWorld_fits enc os) ?_
 intro w tape i _ hsh _ hok hpre _
 obtain⟨_,_,_,fn',hfn',_,_,_,_,hval1⟩:=hok
 have e:fn'=Tryz.f4:=Oi (hfn'.symm.trans Tryz.func4)
 subst e
 obtain⟨⟨⟨ds,gs,before,hw,_⟩,hL0⟩,hsz0⟩:=hpre
 have hsz1:=hsz0.weights hw
 have hW:=DataW.Whole.of_heap (w':=w.forCall tape i) (by rfl) hw
 have hL:laidMetH Tryz.prog Rows.fnRolledRow.laid (w.forCall tape i):=hL0.of_heap (by rfl)
 have hS:(w.forCall tape i).ShapedOpen Tryz.prog:=hsh
 suffices hgoal:Calls Tryz.prog 4 i.args (w.forCall tape i) fun e W'=>∃v,e=.returned v∧Rows.fnRolledSpec.post enc Tryz.prog Tryz.f4 false true false false (w.forCall tape i) i.args v W' by
  refine hgoal.mono fun e W' ⟨v,he,hp⟩=>?_
  subst he
  exact ChangeSpec.post_blind hp
 clear hsz0 hw
 generalize w.forCall tape i=W at*
 generalize i.args=args at*
 have hval:∀(j:Nat) t v,Tryz.f4.params[j]? =some t→args[j]? =some v→Value.okWide Tryz.prog W .any w.heap.size t v:=hval1
 have hW':=hW
 obtain⟨p,q,hA0,hV,rfl,_,_⟩:=hW
 have hA:DataW.TrodAll enc Tryz.prog W 0 (fun _=>true) true Tryz.f4.params.toList args.toList ds p:=hA0
 rw[Tryz.params4] at hA hval hsz1
 obtain⟨v0,v1,d0,d1,p0,p1,rfl,rfl,rfl,h0,h1⟩:=trodAll_two hA
 obtain⟨rfl,rfl⟩:=trodVars_none hV
 obtain⟨a0,len0,cap0,rfl⟩:=okWide_slice Tryz.underlying22 (hval 0 22 v0 rfl rfl)
 obtain⟨a1,len1,cap1,rfl⟩:=okWide_slice Tryz.underlying22 (hval 1 22 v1 rfl rfl)
 simp only[List.append_nil] at hW'
 have hlt0:∀x∈p0,x.block<W.heap.size:=fun x hx=>hW'.lt x (by simp[hx])
 have hlt1:∀x∈p1,x.block<W.heap.size:=fun x hx=>hW'.lt x (by simp[hx])
 have hg:=vars_rel hS hL
 have e1:Rows.fnRolledSpec.fn H ([d0,d1]++[])={results:=[.lit (.bool true)],args:=[d0,d1]}:=by simp[Rows.fnRolledSpec]
 obtain⟨code,hc,hr⟩:=bytes_in h0 hlt0 (fun elems spare hd=>sized_slice (j:=0) hsz1 rfl (by rw[hd];rfl) Tryz.underlying22)
 obtain⟨more,hm,hr2⟩:=bytes_in h1 hlt1 (fun elems spare hd=>sized_slice (j:=1) hsz1 rfl (by rw[hd];rfl) Tryz.underlying22)
 refine(calls4 hc hm hg hr hr2).mono fun e W' ⟨he,g1,g2,g3⟩=>?_
 have hb:Below W.heap.size W W':=⟨g3.1,g3.2.1,g3.2.2,g1,g2⟩
 subst he
 refine⟨_,rfl,_,_,_,[],p0++p1,[],hW',?_,?_,?_,hb.frame _,fun h=>by cases h⟩
 ·rw[e1];exact trodAll_mk1 (shut_bool Tryz.underlying4 true)
 ·rw[e1];exact trodAll_mk2 (Below.trod laidOut kr (of_decide_eq_true kr) h0 hb hlt0) (Below.trod laidOut kr (of_decide_eq_true kr) h1 hb hlt1)
 ·rw[e1];rfl
end Go.Proofs.YtmkdnjbgmflnfaaGreatDoor
end
