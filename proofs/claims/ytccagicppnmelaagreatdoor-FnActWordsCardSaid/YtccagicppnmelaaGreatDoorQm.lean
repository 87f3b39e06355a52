/- A part of the proof that FnActWords returns true for every input and leaves its argument as it was; no condition. -/
import Derived.Test.YtccagicppnmelaaGreatDoorQk
import Derived.Test.YtccagicppnmelaaGreatDoorQg
import Derived.Test.YtccagicppnmelaaGreatDoorQj
import Derived.Test.YtccagicppnmelaaGreatDoorQa
set_option linter.all false
open List renaming length→U
open Int renaming ofNat→J,toNat→Jn
open Go.Ev
attribute [local irreducible] GC RJ KC KM cAt cOn runC stp brC bodyC cvC rsC rdC regC loopC endC skpC extC retC evJ RS.at RS.put RS.okS RS.okR RS.all RS.fst endV endVM grpA grpB grpR grpD grpO RunOps RunD bodyF resF argsFrom cArg
noncomputable section
namespace Go.Ev
abbrev y98:Ty:=(.pair (.sl (.int .u8)) (.pair (.int .i64) (.int .u64)))
open Go.Proofs
set_option maxRecDepth 100000
set_option maxHeartbeats 2000000
variable {Bn:Nat} [BOk Bn]
def c44 (a0:den y98):den y98×denL [⟨false,(.int .i64)⟩]:=(cd (!iLe (J (U a0.1)) a0.2.1) (cd (iLe (wr .i64 (a0.2.1+(J 1))) (J (U a0.1))) ((a0.1,(wr .i64 (a0.2.1+(J 1))),(wr .u64 ((wr .u64 ((wr .u64 (a0.2.2*(J 6364136223846793005)))+(wr .u64 (wr .i64 (gt (.int .u8) a0.1 (Jn a0.2.1))))))+(J 1442695040888963407)))),((wr .i64 (gt (.int .u8) a0.1 (Jn a0.2.1))),())) ((a0.1,(wr .i64 (a0.2.1+(J 1))),(wr .u64 ((wr .u64 ((wr .u64 (a0.2.2*(J 6364136223846793005)))+(wr .u64 (wr .i64 (gt (.int .u8) a0.1 (Jn a0.2.1))))))+(J 1442695040888963407)))),((wr .i64 ((IntKind.u64).wrap (BitVec.ofInt (IntKind.u64).bits (Int.fdiv (wr .u64 ((wr .u64 ((wr .u64 (a0.2.2*(J 6364136223846793005)))+(wr .u64 (wr .i64 (gt (.int .u8) a0.1 (Jn a0.2.1))))))+(J 1442695040888963407))) (2 ^ (min 40 (IntKind.u64).bits)))&&& BitVec.ofInt (IntKind.u64).bits (J 255)).toNat)),()))) (cd (iLe (wr .i64 (a0.2.1+(J 1))) (J (U a0.1))) ((a0.1,(wr .i64 (a0.2.1+(J 1))),(wr .u64 ((wr .u64 ((wr .u64 (a0.2.2*(J 6364136223846793005)))+(wr .u64 (J 0))))+(J 1442695040888963407)))),((J 0),())) ((a0.1,(wr .i64 (a0.2.1+(J 1))),(wr .u64 ((wr .u64 ((wr .u64 (a0.2.2*(J 6364136223846793005)))+(wr .u64 (J 0))))+(J 1442695040888963407)))),((wr .i64 ((IntKind.u64).wrap (BitVec.ofInt (IntKind.u64).bits (Int.fdiv (wr .u64 ((wr .u64 ((wr .u64 (a0.2.2*(J 6364136223846793005)))+(wr .u64 (J 0))))+(J 1442695040888963407))) (2 ^ (min 40 (IntKind.u64).bits)))&&& BitVec.ofInt (IntKind.u64).bits (J 255)).toNat)),()))))
open Classical in
def k44:ConM:=⟨44,y98,99,[],[⟨false,(.int .i64)⟩],fun x0 x=>if allB x0.1=true∧@LE.le Int _ 0 x0.2.1∧@LE.le Int _ x0.2.1 1000000000 then some (c44 x0) else none,none⟩
theorem t44 (a0:den y98) (r0:allB a0.1=true) (r1:@LE.le Int _ 0 a0.2.1) (r2:@LE.le Int _ a0.2.1 1000000000):KM Bn k44 a0 (()) (c44 a0):=by
 refine xIM (uL [] ok0) Tryz.func44 fun hb0 hbd hB=>?_
 refine xc 10 (fun h1=>?_) fun h1=>?_
 refine xd 0 ?_
 have b2:U a0.1≤Bn:=hb0.1.1
 have g3:@LT.lt Int _ a0.2.1 (((U a0.1):Nat):Int):=ile_f (by simpa using h1)
 refine yv 8 21 (.i .i64 a0.2.1) (.i .i64 (J (Jn a0.2.1))) (toNat_av (show @LE.le Int _ 0 a0.2.1 by omega)) ?_
 have x4:(Jn a0.2.1)<U a0.1:=fo2
 refine yi 0 (.int .u8) a0.1 (Jn a0.2.1) x4 ?_
 refine yf ?_
 refine xc 11 (fun h5=>?_) fun h5=>?_
 exact xem 4
 exact xem 4
 refine xc 11 (fun h2=>?_) fun h2=>?_
 exact xem 4
 exact xem 4
theorem p44 {a0:den y98} (h:allB a0.1=true∧@LE.le Int _ 0 a0.2.1∧@LE.le Int _ a0.2.1 1000000000):k44.F a0 (())=some (c44 a0):=if_pos h
theorem o44:OM Bn k44:=xOMp fun x0 x (hp:allB x0.1=true∧@LE.le Int _ 0 x0.2.1∧@LE.le Int _ x0.2.1 1000000000)=>t44 _ (by first|omega|exact hp|exact hp.1|exact hp.2|exact hp.2.1|exact hp.2.2|exact hp.2.2.1|exact hp.2.2.2) (by first|omega|exact hp|exact hp.1|exact hp.2|exact hp.2.1|exact hp.2.2|exact hp.2.2.1|exact hp.2.2.2) (by first|omega|exact hp|exact hp.1|exact hp.2|exact hp.2.1|exact hp.2.2|exact hp.2.2.1|exact hp.2.2.2)
theorem c44_p (a0:den y98) (h:allB a0.1=true) (h0:@LE.le Int _ 0 a0.2.1) (h1:@LE.le Int _ a0.2.1 1000000000):allB (c44 a0).1.1=true∧(@LE.le Int _ 0 (c44 a0).1.2.1∧@LE.le Int _ (c44 a0).1.2.1 (a0.2.1+1))∧(@LE.le Int _ 0 (c44 a0).2.1∧@LE.le Int _ (c44 a0).2.1 255):=by
 have hw:wr .i64 (a0.2.1+(J 1))=a0.2.1+1:=wr_id (by show @LE.le Int _ _ (a0.2.1+1);omega) (by show @LE.le Int _ (a0.2.1+1) _;omega)
 have hz:@LE.le Int _ 0 (J 0)∧@LE.le Int _ (J 0) 255:=by decide
 unfold c44
 rw[hw]
 cases hc:(!iLe (J (U a0.1)) a0.2.1) with
 |true=>
  have hl:@LT.lt Int _ a0.2.1 ((U a0.1:Nat):Int):=ile_f (by simpa using hc)
  have hb:=allB_get h (show(Jn a0.2.1)<U a0.1 by omega)
  have hwb:wr .i64 (gt (.int .u8) a0.1 (Jn a0.2.1))=gt (.int .u8) a0.1 (Jn a0.2.1):=wr_id om om
  cases(iLe (a0.2.1+1) (J (U a0.1))) with
  |true=>exact⟨h,⟨by dsimp only[cd];omega,by dsimp only[cd];omega⟩,by show @LE.le Int _ 0 (wr .i64 (gt (.int .u8) a0.1 (Jn a0.2.1)))∧@LE.le Int _ (wr .i64 (gt (.int .u8) a0.1 (Jn a0.2.1))) 255;rw[hwb];exact hb⟩
  |false=>exact⟨h,⟨by dsimp only[cd];omega,by dsimp only[cd];omega⟩,and255 _⟩
 |false=>
  cases(iLe (a0.2.1+1) (J (U a0.1))) with
  |true=>exact⟨h,⟨by dsimp only[cd];omega,by dsimp only[cd];omega⟩,hz⟩
  |false=>exact⟨h,⟨by dsimp only[cd];omega,by dsimp only[cd];omega⟩,and255 _⟩
def c15 (a0:den y98) (a1:Int):den y98×denL [⟨false,(.int .i64)⟩]:=(cd (iLe a1 (J 1)) (a0,((J 0),())) (cd (!iLe a1 (J 200)) ((c44 ((c44 a0).1)).1,((Int.tmod (wr .i64 ((wr .i64 ((c44 a0).2.1*(J 256)))+(c44 ((c44 a0).1)).2.1)) a1),())) ((c44 a0).1,((Int.tmod (c44 a0).2.1 a1),()))))
open Classical in
def k15:ConM:=⟨15,y98,99,[⟨false,(.int .i64)⟩],[⟨false,(.int .i64)⟩],fun x0 x=>if allB x0.1=true∧@LE.le Int _ 0 x0.2.1∧@LE.le Int _ x0.2.1 999999990 then some (c15 x0 x.1) else none,none⟩
theorem t15 (a0:den y98) (a1:Int) (r0:allB a0.1=true) (r1:@LE.le Int _ 0 a0.2.1) (r2:@LE.le Int _ a0.2.1 999999990):KM Bn k15 a0 (a1,()) (c15 a0 a1):=by
 refine xIM (uM [k44] [] (okMC o44 okM0) ok0) Tryz.func15 fun hb0 hbd hB=>?_
 refine xc 7 (fun h1=>?_) fun h1=>?_
 exact xem 4
 refine xr 2 ?_
 have g2:@LT.lt Int _ ((1:Nat):Int) a1:=ile_f h1
 refine yclm 1 0 k44 a0 (()) (c44 a0) (p44 ⟨fo1,fo1,fo1⟩) ?_
 have p3:allB (c44 a0).1.1=true∧(@LE.le Int _ 0 (c44 a0).1.2.1∧@LE.le Int _ (c44 a0).1.2.1 (a0.2.1+1))∧(@LE.le Int _ 0 (c44 a0).2.1∧@LE.le Int _ (c44 a0).2.1 255):=c44_p a0 fo5 fo5 fo5
 have p3b:=p3.1
 refine yf ?_
 refine xc 5 (fun h4=>?_) fun h4=>?_
 refine xr 0 ?_
 have g5:@LT.lt Int _ ((200:Nat):Int) a1:=ile_f (by simpa using h4)
 refine yclm 3 0 k44 ((c44 a0).1) (()) (c44 ((c44 a0).1)) (p44 ⟨fo1,fo1,fo1⟩) ?_
 refine yf ?_
 refine xr 2 ?_
 have p6:allB (c44 ((c44 a0).1)).1.1=true∧(@LE.le Int _ 0 (c44 ((c44 a0).1)).1.2.1∧@LE.le Int _ (c44 ((c44 a0).1)).1.2.1 (((c44 a0).1).2.1+1))∧(@LE.le Int _ 0 (c44 ((c44 a0).1)).2.1∧@LE.le Int _ (c44 ((c44 a0).1)).2.1 255):=c44_p ((c44 a0).1) fo5 fo5 fo5
 have p6b:=p6.1
 try (have w7:@Eq Int (wr .i64 ((c44 a0).2.1*((256:Nat):Int))) ((c44 a0).2.1*((256:Nat):Int)):=wr_id om om)
 try (have w8:@Eq Int (wr .i64 ((wr .i64 ((c44 a0).2.1*((256:Nat):Int)))+(c44 ((c44 a0).1)).2.1)) ((wr .i64 ((c44 a0).2.1*((256:Nat):Int)))+(c44 ((c44 a0).1)).2.1):=wr_id om om)
 refine yrm 2 .i64 (wr .i64 ((wr .i64 ((c44 a0).2.1*(J 256)))+(c44 ((c44 a0).1)).2.1)) a1 om ?_
 refine yf ?_
 exact xem 1
 refine xr 2 ?_
 have g5:@LE.le Int _ a1 ((200:Nat):Int):=ile_t (by simpa using h4)
 refine yrm 2 .i64 ((c44 a0).2.1) a1 om ?_
 refine yf ?_
 exact xem 1
theorem p15 {a0:den y98}{a1:Int} (h:allB a0.1=true∧@LE.le Int _ 0 a0.2.1∧@LE.le Int _ a0.2.1 999999990):k15.F a0 (a1,())=some (c15 a0 a1):=if_pos h
theorem o15:OM Bn k15:=xOMp fun x0 x (hp:allB x0.1=true∧@LE.le Int _ 0 x0.2.1∧@LE.le Int _ x0.2.1 999999990)=>t15 _ _ (by first|omega|exact hp|exact hp.1|exact hp.2|exact hp.2.1|exact hp.2.2|exact hp.2.2.1|exact hp.2.2.2) (by first|omega|exact hp|exact hp.1|exact hp.2|exact hp.2.1|exact hp.2.2|exact hp.2.2.1|exact hp.2.2.2) (by first|omega|exact hp|exact hp.1|exact hp.2|exact hp.2.1|exact hp.2.2|exact hp.2.2.1|exact hp.2.2.2)
theorem c15_p (a0:den y98) (a1:Int) (h:allB a0.1=true) (h0:@LE.le Int _ 0 a0.2.1) (h1:@LE.le Int _ a0.2.1 999999990):allB (c15 a0 a1).1.1=true∧(@LE.le Int _ 0 (c15 a0 a1).1.2.1∧@LE.le Int _ (c15 a0 a1).1.2.1 (a0.2.1+2))∧(@LE.le Int _ 0 (c15 a0 a1).2.1∧(@LE.le Int _ 1 a1→@LT.lt Int _ (c15 a0 a1).2.1 a1)):=by
 have g:=c44_p a0 h h0 om
 obtain⟨g1,⟨g2,g3⟩,g4,g5⟩:=g
 unfold c15
 cases hc:iLe a1 (J 1) with
 |true=>exact⟨h,⟨h0,by dsimp only[cd];omega⟩,by show @LE.le Int _ 0 (J 0);decide,fun hh=>by show @LT.lt Int _ (J 0) a1;have:(J 0:Int)=0:=rfl;omega⟩
 |false=>
  have hn:@LT.lt Int _ 1 a1:=ile_f hc
  cases(!iLe a1 (J 200)) with
  |false=>exact⟨g1,⟨by dsimp only[cd];omega,by dsimp only[cd];omega⟩,Int.tmod_nonneg _ g4,fun _=>Int.tmod_lt_of_pos _ om⟩
  |true=>
   obtain⟨k1,⟨k2,k3⟩,k4,k5⟩:=c44_p (c44 a0).1 g1 g2 om
   refine⟨k1,⟨by dsimp only[cd];omega,by dsimp only[cd];omega⟩,Int.tmod_nonneg _ ?_,fun _=>Int.tmod_lt_of_pos _ om⟩
   have e1:wr .i64 ((c44 a0).2.1*(J 256))=(c44 a0).2.1*256:=wr_id (by show @LE.le Int _ _ ((c44 a0).2.1*256);omega) (by show @LE.le Int _ ((c44 a0).2.1*256) _;omega)
   rw[e1,wr_id om om]
   omega
def c31 (a0:den y98) (a1:Int):den y98×denL [⟨false,.bool⟩]:=((c15 a0 a1).1,((iEq (c15 a0 a1).2.1 (J 0)),()))
open Classical in
def k31:ConM:=⟨31,y98,99,[⟨false,(.int .i64)⟩],[⟨false,.bool⟩],fun x0 x=>if allB x0.1=true∧@LE.le Int _ 0 x0.2.1∧@LE.le Int _ x0.2.1 999999980 then some (c31 x0 x.1) else none,none⟩
theorem t31 (a0:den y98) (a1:Int) (r0:allB a0.1=true) (r1:@LE.le Int _ 0 a0.2.1) (r2:@LE.le Int _ a0.2.1 999999980):KM Bn k31 a0 (a1,()) (c31 a0 a1):=by
 refine xIM (uM [k15] [] (okMC o15 okM0) ok0) Tryz.func31 fun hb0 hbd hB=>?_
 refine xr 4 ?_
 refine yclm 2 0 k15 a0 (a1,()) (c15 a0 a1) (p15 ⟨fo1,fo1,fo1⟩) ?_
 refine yf ?_
 have p1:allB (c15 a0 a1).1.1=true∧(@LE.le Int _ 0 (c15 a0 a1).1.2.1∧@LE.le Int _ (c15 a0 a1).1.2.1 (a0.2.1+2))∧(@LE.le Int _ 0 (c15 a0 a1).2.1∧(@LE.le Int _ 1 a1→@LT.lt Int _ (c15 a0 a1).2.1 a1)):=c15_p a0 a1 fo5 fo5 fo5
 have p1b:=p1.1
 exact xem 1
theorem c31_p (a0:den y98) (a1:Int) (r0:allB a0.1=true) (r1:@LE.le Int _ 0 a0.2.1) (r2:@LE.le Int _ a0.2.1 999999980):allB (c31 a0 a1).1.1=true∧(@LE.le Int _ 0 (c31 a0 a1).1.2.1∧@LE.le Int _ (c31 a0 a1).1.2.1 (a0.2.1+2)):=by
 obtain⟨R,hR⟩:=ex_pred (fun r:den y98×denL [⟨false,.bool⟩]=>allB r.1.1=true∧(@LE.le Int _ 0 r.1.2.1∧@LE.le Int _ r.1.2.1 (a0.2.1+2)))
 refine(hR (c31 a0 a1)).1 ?_
 unfold c31
 have p1:allB (c15 a0 a1).1.1=true∧(@LE.le Int _ 0 (c15 a0 a1).1.2.1∧@LE.le Int _ (c15 a0 a1).1.2.1 (a0.2.1+2))∧(@LE.le Int _ 0 (c15 a0 a1).2.1∧(@LE.le Int _ 1 a1→@LT.lt Int _ (c15 a0 a1).2.1 a1)):=c15_p a0 a1 fo5 fo5 fo5
 have p1b:=p1.1
 refine(hR _).2 ⟨fo9,⟨fo6,fo6⟩⟩
def c16 (a0:den y98) (a1:den (.sl .str)):den y98×denL [⟨false,.str⟩]:=((c15 a0 (J (U a1))).1,((gt .str a1 (Jn ((c15 a0 (((U a1):Nat):Int)).2.1))),()))
open Classical in
def k16:ConM:=⟨16,y98,99,[⟨false,(.sl .str)⟩],[⟨false,.str⟩],fun x0 x=>if allB x0.1=true∧@LE.le Int _ 0 x0.2.1∧@LE.le Int _ x0.2.1 999999980∧0<U x.1 then some (c16 x0 x.1) else none,none⟩
theorem t16 (a0:den y98) (a1:den (.sl .str)) (r0:allB a0.1=true) (r1:@LE.le Int _ 0 a0.2.1) (r2:@LE.le Int _ a0.2.1 999999980) (r3:0<U a1):KM Bn k16 a0 (a1,()) (c16 a0 a1):=by
 refine xIM (uM [k15] [] (okMC o15 okM0) ok0) Tryz.func16 fun hb0 hbd hB=>?_
 refine xr 4 ?_
 have b1:U a1≤Bn:=hbd.1.1
 refine yclm 4 0 k15 a0 ((J (U a1)),()) (c15 a0 (J (U a1))) (p15 ⟨fo1,fo1,fo1⟩) ?_
 have p2:allB (c15 a0 (J (U a1))).1.1=true∧(@LE.le Int _ 0 (c15 a0 (J (U a1))).1.2.1∧@LE.le Int _ (c15 a0 (J (U a1))).1.2.1 (a0.2.1+2))∧(@LE.le Int _ 0 (c15 a0 (J (U a1))).2.1∧(@LE.le Int _ 1 (((U a1):Nat):Int)→@LT.lt Int _ (c15 a0 (J (U a1))).2.1 (((U a1):Nat):Int))):=c15_p a0 (J (U a1)) fo5 fo5 fo5
 have p2b:=p2.1
 have p2o:allB (c15 a0 (((U a1):Nat):Int)).1.1=true∧(@LE.le Int _ 0 (c15 a0 (((U a1):Nat):Int)).1.2.1∧@LE.le Int _ (c15 a0 (((U a1):Nat):Int)).1.2.1 (a0.2.1+2))∧(@LE.le Int _ 0 (c15 a0 (((U a1):Nat):Int)).2.1∧(@LE.le Int _ 1 (((U a1):Nat):Int)→@LT.lt Int _ (c15 a0 (((U a1):Nat):Int)).2.1 (((U a1):Nat):Int))):=p2
 refine yv 0 9 (.i .i64 (c15 a0 (J (U a1))).2.1) (.i .i64 (J (Jn ((c15 a0 (((U a1):Nat):Int)).2.1)))) (toNat_av (show @LE.le Int _ 0 ((c15 a0 (((U a1):Nat):Int)).2.1) by omega)) ?_
 have x3:(Jn ((c15 a0 (((U a1):Nat):Int)).2.1))<U a1:=fo2
 refine yi 0 .str a1 (Jn ((c15 a0 (((U a1):Nat):Int)).2.1)) x3 ?_
 refine yf ?_
 exact xem 1
theorem c16_p (a0:den y98) (a1:den (.sl .str)) (r0:allB a0.1=true) (r1:@LE.le Int _ 0 a0.2.1) (r2:@LE.le Int _ a0.2.1 999999980) (r3:0<U a1):allB (c16 a0 a1).1.1=true∧(@LE.le Int _ 0 (c16 a0 a1).1.2.1∧@LE.le Int _ (c16 a0 a1).1.2.1 (a0.2.1+2)):=by
 obtain⟨R,hR⟩:=ex_pred (fun r:den y98×denL [⟨false,.str⟩]=>allB r.1.1=true∧(@LE.le Int _ 0 r.1.2.1∧@LE.le Int _ r.1.2.1 (a0.2.1+2)))
 refine(hR (c16 a0 a1)).1 ?_
 unfold c16
 have p2:allB (c15 a0 (J (U a1))).1.1=true∧(@LE.le Int _ 0 (c15 a0 (J (U a1))).1.2.1∧@LE.le Int _ (c15 a0 (J (U a1))).1.2.1 (a0.2.1+2))∧(@LE.le Int _ 0 (c15 a0 (J (U a1))).2.1∧(@LE.le Int _ 1 (((U a1):Nat):Int)→@LT.lt Int _ (c15 a0 (J (U a1))).2.1 (((U a1):Nat):Int))):=c15_p a0 (J (U a1)) fo5 fo5 fo5
 have p2b:=p2.1
 have p2o:allB (c15 a0 (((U a1):Nat):Int)).1.1=true∧(@LE.le Int _ 0 (c15 a0 (((U a1):Nat):Int)).1.2.1∧@LE.le Int _ (c15 a0 (((U a1):Nat):Int)).1.2.1 (a0.2.1+2))∧(@LE.le Int _ 0 (c15 a0 (((U a1):Nat):Int)).2.1∧(@LE.le Int _ 1 (((U a1):Nat):Int)→@LT.lt Int _ (c15 a0 (((U a1):Nat):Int)).2.1 (((U a1):Nat):Int))):=p2
 have x3:(Jn ((c15 a0 (((U a1):Nat):Int)).2.1))<U a1:=fo2
 refine(hR _).2 ⟨fo9,⟨fo6,fo6⟩⟩
def c37 (a0:den y98) (a1:den (.sl (.int .i64))):den y98×denL [⟨false,(.int .i64)⟩]:=((c15 a0 (J (U a1))).1,((gt (.int .i64) a1 (Jn ((c15 a0 (((U a1):Nat):Int)).2.1))),()))
open Classical in
def k37:ConM:=⟨37,y98,99,[⟨false,(.sl (.int .i64))⟩],[⟨false,(.int .i64)⟩],fun x0 x=>if allB x0.1=true∧@LE.le Int _ 0 x0.2.1∧@LE.le Int _ x0.2.1 999999980∧0<U x.1 then some (c37 x0 x.1) else none,none⟩
theorem t37 (a0:den y98) (a1:den (.sl (.int .i64))) (r0:allB a0.1=true) (r1:@LE.le Int _ 0 a0.2.1) (r2:@LE.le Int _ a0.2.1 999999980) (r3:0<U a1):KM Bn k37 a0 (a1,()) (c37 a0 a1):=by
 refine xIM (uM [k15] [] (okMC o15 okM0) ok0) Tryz.func37 fun hb0 hbd hB=>?_
 refine xr 4 ?_
 have b1:U a1≤Bn:=hbd.1.1
 refine yclm 4 0 k15 a0 ((J (U a1)),()) (c15 a0 (J (U a1))) (p15 ⟨fo1,fo1,fo1⟩) ?_
 have p2:allB (c15 a0 (J (U a1))).1.1=true∧(@LE.le Int _ 0 (c15 a0 (J (U a1))).1.2.1∧@LE.le Int _ (c15 a0 (J (U a1))).1.2.1 (a0.2.1+2))∧(@LE.le Int _ 0 (c15 a0 (J (U a1))).2.1∧(@LE.le Int _ 1 (((U a1):Nat):Int)→@LT.lt Int _ (c15 a0 (J (U a1))).2.1 (((U a1):Nat):Int))):=c15_p a0 (J (U a1)) fo5 fo5 fo5
 have p2b:=p2.1
 have p2o:allB (c15 a0 (((U a1):Nat):Int)).1.1=true∧(@LE.le Int _ 0 (c15 a0 (((U a1):Nat):Int)).1.2.1∧@LE.le Int _ (c15 a0 (((U a1):Nat):Int)).1.2.1 (a0.2.1+2))∧(@LE.le Int _ 0 (c15 a0 (((U a1):Nat):Int)).2.1∧(@LE.le Int _ 1 (((U a1):Nat):Int)→@LT.lt Int _ (c15 a0 (((U a1):Nat):Int)).2.1 (((U a1):Nat):Int))):=p2
 refine yv 0 9 (.i .i64 (c15 a0 (J (U a1))).2.1) (.i .i64 (J (Jn ((c15 a0 (((U a1):Nat):Int)).2.1)))) (toNat_av (show @LE.le Int _ 0 ((c15 a0 (((U a1):Nat):Int)).2.1) by omega)) ?_
 have x3:(Jn ((c15 a0 (((U a1):Nat):Int)).2.1))<U a1:=fo2
 refine yi 0 (.int .i64) a1 (Jn ((c15 a0 (((U a1):Nat):Int)).2.1)) x3 ?_
 refine yf ?_
 exact xem 1
theorem c37_p (a0:den y98) (a1:den (.sl (.int .i64))) (r0:allB a0.1=true) (r1:@LE.le Int _ 0 a0.2.1) (r2:@LE.le Int _ a0.2.1 999999980) (r3:0<U a1):allB (c37 a0 a1).1.1=true∧(@LE.le Int _ 0 (c37 a0 a1).1.2.1∧@LE.le Int _ (c37 a0 a1).1.2.1 (a0.2.1+2)):=by
 obtain⟨R,hR⟩:=ex_pred (fun r:den y98×denL [⟨false,(.int .i64)⟩]=>allB r.1.1=true∧(@LE.le Int _ 0 r.1.2.1∧@LE.le Int _ r.1.2.1 (a0.2.1+2)))
 refine(hR (c37 a0 a1)).1 ?_
 unfold c37
 have p2:allB (c15 a0 (J (U a1))).1.1=true∧(@LE.le Int _ 0 (c15 a0 (J (U a1))).1.2.1∧@LE.le Int _ (c15 a0 (J (U a1))).1.2.1 (a0.2.1+2))∧(@LE.le Int _ 0 (c15 a0 (J (U a1))).2.1∧(@LE.le Int _ 1 (((U a1):Nat):Int)→@LT.lt Int _ (c15 a0 (J (U a1))).2.1 (((U a1):Nat):Int))):=c15_p a0 (J (U a1)) fo5 fo5 fo5
 have p2b:=p2.1
 have p2o:allB (c15 a0 (((U a1):Nat):Int)).1.1=true∧(@LE.le Int _ 0 (c15 a0 (((U a1):Nat):Int)).1.2.1∧@LE.le Int _ (c15 a0 (((U a1):Nat):Int)).1.2.1 (a0.2.1+2))∧(@LE.le Int _ 0 (c15 a0 (((U a1):Nat):Int)).2.1∧(@LE.le Int _ 1 (((U a1):Nat):Int)→@LT.lt Int _ (c15 a0 (((U a1):Nat):Int)).2.1 (((U a1):Nat):Int))):=p2
 have x3:(Jn ((c15 a0 (((U a1):Nat):Int)).2.1))<U a1:=fo2
 refine(hR _).2 ⟨fo9,⟨fo6,fo6⟩⟩
def each (α:Type) (l:List α):List (α×Unit):=List.rec [] (fun x _ ih=>(x,())::ih) l
theorem each_mem {α:Type}{x:α}:∀{l:List α},x∈l→(x,())∈each α l
 |[],h=>by cases h
 |y::l,h=>by
  rcases List.mem_cons.1 h with rfl|h
  ·exact Mc ..
  ·exact Lo _ (each_mem h)
theorem each_len {α:Type}{l:List α} (h:each α l≠[]):0<l.length:=by
 cases l with
 |nil=>exact absurd rfl h
 |cons=>exact Nat.succ_pos _
theorem gt_in {t:Ty}:∀{l:List (den t)}{i:Nat},i<l.length→gt t l i∈l
 |[],_,h=>by cases h
 |x::l,0,_=>Mc ..
 |x::l,i+1,h=>Lo _ (gt_in (l:=l) (Nat.lt_of_succ_lt_succ h))
theorem up_upDn {y:denL [⟨false,(.int .i64)⟩]} (hy:y∈upTo (J 200)):y.1∈upDn:=by
 refine Lo _ ?_
 generalize upTo (J 200)=L at hy
 induction L with
 |nil=>cases hy
 |cons q L ih=>
  rcases List.mem_cons.1 hy with rfl|h
  ·exact Mc ..
  ·exact Lo _ (ih h)
def dPick:Dr:=drS 15 [⟨false,(.int .i64)⟩] [⟨false,(.int .i64)⟩] 20 (fun x=>upTo x.1) none (fun x=>cd (iEq x.1 (J 200)) [] (upTo x.1)) (fun x=>cd (iEq x.1 (J 200)) [(fun y=>y,fun y=>[.int y.1])] [])
def dOne:Dr:=dr0 31 [⟨false,(.int .i64)⟩] [⟨false,.bool⟩] 20 (fun _=>[(true,()),(false,())]) none
def dText:Dr:=dr0 16 [⟨false,(.sl .str)⟩] [⟨false,.str⟩] 20 (fun x=>each (List Nat) x.1) none
def dAmong:Dr:=dr0 37 [⟨false,(.sl (.int .i64))⟩] [⟨false,(.int .i64)⟩] 20 (fun x=>each Int x.1) none
theorem dPick_ok:DrOk Bn dPick:=⟨⟨kr,fun x y hy=>by
 obtain⟨n,u⟩:=x
 show y∈cd (iEq n (J 200)) [] (upTo n)∨∃p∈cd (iEq n (J 200)) [((fun(y:denL [⟨false,(.int .i64)⟩])=>y),(fun(y:denL [⟨false,(.int .i64)⟩])=>[Zv.int y.1]))] [],y=p.1 y∧∀v∈p.2 y,Zok v
 cases h1:iEq n (J 200) with
 |false=>exact .inl hy
 |true=>
  rw[iEq_eq] at h1
  have hn:n=J 200:=by simpa using h1
  subst hn
  exact .inr ⟨_,List.mem_singleton.2 rfl,rfl,fun v hv=>by obtain rfl:=List.mem_singleton.1 hv;exact up_upDn hy⟩⟩,fun x0 x h1 h2 h3 hne _ _=>by
 obtain⟨n,u⟩:=x
 have h3:@LE.le Int _ (x0.2.1+((20:Nat):Int)) 1000000000:=h3
 have hw0:@LE.le Int _ x0.2.1 999999980:=om
 obtain⟨g1,⟨g2,g3⟩,g4,g5⟩:=c15_p x0 n h1 h2 om
 exact⟨c15 x0 n,upTo_mem g4 (g5 (upTo_pos hne)),⟨g1,g2,by show @LE.le Int _ _ (x0.2.1+((20:Nat):Int));omega⟩,by have hh:=t15 (Bn:=Bn) x0 n h1 h2 om;unfold KM at hh;exact hh⟩⟩
theorem dOne_ok:DrOk Bn dOne:=⟨⟨kr,drEn0 fun _=>rfl⟩,fun x0 x h1 h2 h3 _ _ _=>by
 obtain⟨n,u⟩:=x
 have h3:@LE.le Int _ (x0.2.1+((20:Nat):Int)) 1000000000:=h3
 have hw0:@LE.le Int _ x0.2.1 999999980:=om
 obtain⟨g1,⟨g2,g3⟩⟩:=c31_p x0 n h1 h2 om
 refine⟨c31 x0 n,?_,⟨g1,g2,by show @LE.le Int _ _ (x0.2.1+((20:Nat):Int));omega⟩,by have hh:=t31 (Bn:=Bn) x0 n h1 h2 hw0;unfold KM at hh;exact hh⟩
 show(c31 x0 n).2∈[(true,()),(false,())]
 obtain⟨b,u⟩:=(c31 x0 n).2
 cases u
 cases b
 ·exact Lo _ (Mc ..)
 ·exact Mc ..⟩
theorem dText_ok:DrOk Bn dText:=⟨⟨kr,drEn0 fun _=>rfl⟩,fun x0 x h1 h2 h3 hne _ _=>by
 obtain⟨l,u⟩:=x
 have h3:@LE.le Int _ (x0.2.1+((20:Nat):Int)) 1000000000:=h3
 have hw0:@LE.le Int _ x0.2.1 999999980:=om
 have hl:0<U (α:=List Nat) l:=each_len hne
 obtain⟨g1,⟨g2,g3⟩⟩:=c16_p x0 l h1 h2 om hl
 obtain⟨_,_,k1,k2⟩:=c15_p x0 (((U (α:=List Nat) l):Nat):Int) h1 h2 om
 have k3:Jn (c15 x0 (((U (α:=List Nat) l):Nat):Int)).2.1<U (α:=List Nat) l:=by have:=k2 om;omega
 exact⟨c16 x0 l,each_mem (gt_in (t:=.str) k3),⟨g1,g2,by show @LE.le Int _ _ (x0.2.1+((20:Nat):Int));omega⟩,by have hh:=t16 (Bn:=Bn) x0 l h1 h2 hw0 hl;unfold KM at hh;exact hh⟩⟩
theorem dAmong_ok:DrOk Bn dAmong:=⟨⟨kr,drEn0 fun _=>rfl⟩,fun x0 x h1 h2 h3 hne _ _=>by
 obtain⟨l,u⟩:=x
 have h3:@LE.le Int _ (x0.2.1+((20:Nat):Int)) 1000000000:=h3
 have hw0:@LE.le Int _ x0.2.1 999999980:=om
 have hl:0<U (α:=Int) l:=each_len hne
 obtain⟨g1,⟨g2,g3⟩⟩:=c37_p x0 l h1 h2 om hl
 obtain⟨_,_,k1,k2⟩:=c15_p x0 (((U (α:=Int) l):Nat):Int) h1 h2 om
 have k3:Jn (c15 x0 (((U (α:=Int) l):Nat):Int)).2.1<U (α:=Int) l:=by have:=k2 om;omega
 exact⟨c37 x0 l,each_mem (gt_in (t:=.int .i64) k3),⟨g1,g2,by show @LE.le Int _ _ (x0.2.1+((20:Nat):Int));omega⟩,by have hh:=t37 (Bn:=Bn) x0 l h1 h2 hw0 hl;unfold KM at hh;exact hh⟩⟩
end Go.Ev
end
noncomputable section
namespace Go.Ev
open Go.Proofs
set_option maxRecDepth 100000
variable {Bn:Nat}
theorem cl0:∀d∈([]:List Cl),ClOk Bn d:=fun d h=>by cases h
theorem clD {d:Dr}{Ds:List Cl} (h:DrOk Bn d) (hs:∀d∈Ds,ClOk Bn d):∀e∈Cl.dr d::Ds,ClOk Bn e:=fun e he=>by
 rcases List.mem_cons.1 he with rfl|he
 ·exact h
 ·exact hs e he
theorem clF {d:Fc}{Ds:List Cl} (h:FcOk Bn d) (hs:∀d∈Ds,ClOk Bn d):∀e∈Cl.fc d::Ds,ClOk Bn e:=fun e he=>by
 rcases List.mem_cons.1 he with rfl|he
 ·exact h
 ·exact hs e he
theorem clM' {d:Fm}{Ds:List Cl} (h:FmOk Bn d) (hs:∀d∈Ds,ClOk Bn d):∀e∈Cl.fm d::Ds,ClOk Bn e:=fun e he=>by
 rcases List.mem_cons.1 he with rfl|he
 ·exact h
 ·exact hs e he
theorem clS {d:Fs}{Ds:List Cl} (h:FsOk Bn d) (hs:∀d∈Ds,ClOk Bn d):∀e∈Cl.fs d::Ds,ClOk Bn e:=fun e he=>by
 rcases List.mem_cons.1 he with rfl|he
 ·exact h
 ·exact hs e he
abbrev pStr:List Par:=[⟨false,.str⟩]
abbrev pStrs:List Par:=[⟨false,.sl .str⟩]
variable [BOk Bn]
def l_dLabel:List (denL pStr):=[([65,68,68],()),([77,79,86,69],()),([82,65,87],()),([72,69,76,68],()),([84,82,89],()),([66,79,84,72],()),([83,85,77],()),([65,83,75],()),([83,80,73,78],()),([82,79,76,76],()),([66,65,68],()),([78,69,83,84],()),([83,76,79,87],())]
def dLabel:Dr:=dr0 42 [] pStr 20 (fun _=>l_dLabel) none
theorem dLabel_ok:DrOk Bn dLabel:=nd_fn (Ds:=[.dr dText]) (clD dText_ok cl0) ok0 dLabel (fun _ y z=>chkL l_dLabel y z) (fun _ _ _ _ h _ _=>chkD_mem h) (drEn0 fun _=>rfl) Tryz.func42 40 (fun σ x _ _ _=>w_ok kr kr)
def l_dArgs:List (denL pStrs):=[([[49],[49]],()),([[49],[50]],()),([[49],[53]],()),([[50],[49]],()),([[50],[50]],()),([[50],[53]],()),([[97],[49]],()),([[97],[50]],()),([[97],[53]],())]
def dArgs:Dr:=dr0 43 [] pStrs 40 (fun _=>l_dArgs) none
theorem dArgs_ok:DrOk Bn dArgs:=nd_fn (Ds:=[.dr dText]) (clD dText_ok cl0) ok0 dArgs (fun _ y z=>chkL l_dArgs y z) (fun _ _ _ _ h _ _=>chkD_mem h) (drEn0 fun _=>rfl) Tryz.func43 40 (fun σ x _ _ _=>w_ok kr kr)
def l_dOdd:List (denL pStr):=[([],()),([32,32],()),([35,32,115,97,105,100],()),([108,105,110,101],()),([108,105,110,101,32,82],()),([108,105,110,101,32,57,32,81],()),([116,114,105,103,103,101,114,32,49,32,65,32,45,32,115,101,116,32,82],()),([116,114,105,103,103,101,114,32,48,32,65,32,45,32,115,101,116,32,82,32,65,68,68],()),([116,114,105,103,103,101,114,32,50,32,65,32,49,44,42,32,98,111,116,104,32,82,32,65,68,68],()),([116,97,98,108,101,32,84,32,87,32,105,100,32,45],()),([116,97,98,108,101,32,85,32,87,32,105,100,44,105,100,32,45],()),([115,116,97,114,116,32,120],()),([103,101,116,32,94,65],()),([115,116,101,112,32,49],()),([108,105,110,101,32,82,32,40],()),([119,104,97,116],()),([108,105,110,101,32,82,32,88],())]
def dOdd:Dr:=dr0 61 [] pStr 20 (fun _=>l_dOdd) none
theorem dOdd_ok:DrOk Bn dOdd:=nd_fn (Ds:=[.dr dText]) (clD dText_ok cl0) ok0 dOdd (fun _ y z=>chkL l_dOdd y z) (fun _ _ _ _ h _ _=>chkD_mem h) (drEn0 fun _=>rfl) Tryz.func61 40 (fun σ x _ _ _=>w_ok kr kr)
def l_dSome:List (denL pStr):=[([],()),([32,32],()),([35,32,115,97,105,100],()),([97,99,107,101,100],()),([97,102,116,101,114,32,94,67],()),([97,102,116,101,114,32,94,67,40,49,41],()),([97,114,114,105,118,101,32,48],()),([97,114,114,105,118,101,32,49],()),([99,97,116,99,104],()),([99,104,101,99,107],()),([99,111,112,121],()),([99,114,97,115,104],()),([99,114,97,115,104,32,45,49],()),([99,114,97,115,104,32,45,49,32,48],()),([99,114,97,115,104,32,45,49,32,48,32,50],()),([99,114,97,115,104,32,53,32,48,32,49],()),([100,97,116,97,32,94,67],()),([102,108,117,115,104],()),([103,101,116,32,67],()),([103,101,116,32,94,65],()),([103,101,116,32,94,67,40],()),([103,101,116,32,94,67,40,49,41],()),([103,101,116,32,94,87,40,34,114,34,44,55,41],()),([104,111,108,100,115],()),([106,111,98,32,82,32,65,68,68,32,34,97,34,32,50],()),([106,111,98,32,82,32,65,68,68,32,34,97,34,32,53],()),([106,111,98,32,82,32,65,68,68,32,49,32,50],()),([106,111,98,32,82,32,65,68,68,32,49,32,53],()),([106,111,98,32,82,32,65,83,75,32,105,110,32,34,104,105,34],()),([106,111,98,32,82,32,66,65,68],()),([106,111,98,32,82,32,72,79,76,68,32,49,32,51],()),([106,111,98,32,82,32,78,79,78,69],()),([106,111,98,32,82,32,80,85,84,32,55,32,34,97,110,110,34],()),([106,111,98,32,82,32,80,85,84,32,55,32,34,98,111,98,34],()),([106,111,98,32,82,32,80,85,84,32,55,32,34,120,94,121,34],()),([106,111,98,32,82,32,80,85,84,32,56,32,34,97,110,110,34],()),([106,111,98,32,82,32,80,85,84,32,56,32,34,98,111,98,34],()),([106,111,98,32,82,32,80,85,84,32,56,32,34,120,94,121,34],()),([108,97,103],()),([108,105,110,101],()),([108,105,110,101,32,57,32,81],()),([108,105,110,101,32,82],()),([108,105,110,101,32,82,32,40],()),([108,105,110,101,32,82,32,88],()),([108,111,99,107,115],()),([108,111,115,101,32,48],()),([109,111,118,101,115],()),([110,111,100,101,115],()),([111,116,104,101,114,32,94,67,40,49,41],()),([111,117,116,32,49],()),([111,117,116,32,50],()),([111,117,116,32,120],()),([112,97,103,101,115,32,50],()),([112,97,103,101,115,32,54,53],()),([114,117,110,32,49,48],()),([114,117,110,32,49,50],()),([114,117,110,32,50,48,49],()),([114,117,110,32,50,53],()),([114,117,110,32,51],()),([114,117,110,32,120],()),([115,101,108,101,99,116],()),([115,101,108,101,99,116,32,42,32,102,114,111,109,32,84],()),([115,101,108,101,99,116,32,42,32,102,114,111,109,32,88],()),([115,101,108,101,99,116,32,110,97,109,101,32,102,114,111,109,32,84,32,111,114,100,101,114,32,98,121,32,110,97,109,101,32,100,101,115,99],()),([115,101,108,101,99,116,32,110,97,109,101,32,102,114,111,109,32,84,32,119,104,101,114,101,32,105,100,61,55],()),([115,104,105,112],()),([115,116,97,114,116,32,120],()),([115,116,97,116,101,32,49],()),([115,116,97,116,101,32,50],()),([115,116,97,116,101,32,51],()),([115,116,101,112,32,49],()),([115,116,101,112,32,50],()),([115,116,101,112,32,51],()),([115,116,101,112,32,53],()),([115,119,105,116,99,104],()),([116,97,98,108,101,32,84,32,87,32,105,100,32,45],()),([116,97,98,108,101,32,85,32,87,32,105,100,44,105,100,32,45],()),([116,105,99,107],()),([116,105,109,101],()),([116,114,105,103,103,101,114,32,48,32,65,32,45,32,115,101,116,32,82,32,65,68,68],()),([116,114,105,103,103,101,114,32,49,32,65,32,45,32,115,101,116,32,82],()),([116,114,105,103,103,101,114,32,50,32,65,32,49,44,42,32,98,111,116,104,32,82,32,65,68,68],()),([116,119,105,99,101,32,48],()),([119,104,97,116],())]
def dSome:Dr:=dr0 32 [] pStr 100 (fun _=>l_dSome) none
theorem dSome_ok:DrOk Bn dSome:=nd_fn (Ds:=[.dr dPick,.dr dText,.dr dOdd]) (clD dPick_ok (clD dText_ok (clD dOdd_ok cl0))) ok0 dSome (fun _ y z=>chkL l_dSome y z) (fun _ _ _ _ h _ _=>chkD_mem h) (drEn0 fun _=>rfl) Tryz.func32 400 (fun σ x _ _ _=>w_ok kr kr)
def chkP (y:denL pAct) (z:List Zv):Option (List Ob):=match z with
 |[]=>cd (isCr y) (some []) none
 |[.int a]=>cd (inK l_keep y.1.2.2.2.2.2.2) (some [obL pAct y (aCrash a y.1.2.2.2.2.2.2,())]) none
 |_=>none
theorem chkP_mem {y:denL pAct}{z:List Zv}{o:List Ob} (h:chkP y z=some o) (he:Eqs o) (hz:∀v∈z,Zok v):y∈crashL []:=by
 unfold chkP at h
 split at h
 ·exact isCr_mem (cd_some h).1
 ·rename_i a
  obtain⟨h1,h2⟩:=cd_some h
  obtain rfl:=Oi h2
  have h3:y=(aCrash a y.1.2.2.2.2.2.2,()):=he (obL pAct y (aCrash a y.1.2.2.2.2.2.2,())) (List.mem_singleton.2 rfl)
  rw[h3]
  exact crash_mem (hz (.int a) (List.mem_singleton.2 rfl)) (inK_mem h1)
 ·cases h
def dPower:Dr:=drS 69 [] pAct 200 (fun _=>crashL []) none (fun _=>[]) (fun _=>[(fun y=>y,fun y=>[.cr y.1])])
theorem dPower_ok:DrOk Bn dPower:=nd_fn (Ds:=[.dr dPick,.dr dOne]) (clD dPick_ok (clD dOne_ok cl0)) ok0 dPower (fun _ y z=>chkP y z) (fun _ _ _ _ h he hz=>chkP_mem h he hz) (fun _ _ hy=>.inr ⟨_,List.mem_singleton.2 rfl,rfl,fun v hv=>by obtain rfl:=List.mem_singleton.1 hv;exact hy⟩) Tryz.func69 600 (fun σ x _ _ _=>w_ok kr kr)
end Go.Ev
end
noncomputable section
namespace Go.Ev
open Go.Proofs
set_option maxRecDepth 100000
variable {Bn:Nat}
abbrev y242:Ty:=(.pair (.int .i64) (.pair (.int .i64) (.pair (.int .i64) .str)))
abbrev y261:Ty:=(.pair .str (.pair .str (.pair (.int .i64) (.sl .str))))
abbrev y42:Ty:=(.pair (.sl y242) (.sl y261))
abbrev y182:Ty:=(.pair (.int .i64) (.pair .str (.pair (.sl .str) (.pair .bool (.pair .bool (.pair .str .str))))))
abbrev y257:Ty:=(.pair .str (.pair (.sl .str) .str))
abbrev y46:Ty:=(.sl y257)
abbrev y299:Ty:=(.pair (.int .i64) (.pair (.int .i64) (.pair .str (.sl .str))))
abbrev y50:Ty:=(.pair (.sl y299) (.sl y299))
abbrev y172:Ty:=(.pair .bool (.pair .str (.sl .str)))
abbrev y466:Ty:=(.pair .bool .str)
abbrev y492:Ty:=(.pair .str (.pair (.int .i64) (.pair (.int .i64) (.pair .bool (.pair (.int .i64) (.int .i64))))))
abbrev y372:Ty:=(.pair (.int .i64) (.pair .bool (.pair .bool (.pair (.int .i64) (.pair (.int .i64) (.pair (.int .i64) (.pair (.int .i64) (.pair .str .str))))))))
abbrev y608:Ty:=(.pair .str (.int .i64))
abbrev y402:Ty:=(.pair (.int .i64) y46)
abbrev y404:Ty:=(.sl y608)
abbrev y170:Ty:=(.pair (.int .i64) (.pair (.sl y608) (.pair (.sl y402) (.sl y404))))
abbrev y174:Ty:=(.pair (.int .i64) (.pair (.int .i64) (.pair (.sl .str) (.pair (.sl y172) (.pair (.sl y466) (.pair (.sl y492) (.pair (.sl y372) (.pair y170 (.pair .bool (.pair .bool (.pair y172 (.pair (.int .i64) (.pair (.int .i64) (.pair (.int .i64) (.pair (.int .i64) .str)))))))))))))))
abbrev y278:Ty:=(.pair (.int .i64) (.pair .str (.pair (.sl .str) (.pair .str (.int .i64)))))
abbrev y177:Ty:=(.pair (.int .i64) (.pair (.int .i64) (.sl y278)))
abbrev y179:Ty:=(.pair (.int .i64) (.pair y174 (.pair y177 (.pair y174 (.pair .str (.pair (.sl .str) (.pair (.sl y299) (.pair (.int .i64) (.pair (.sl .str) .str)))))))))
abbrev y203:Ty:=(.pair (.int .i64) (.sl y278))
abbrev y54:Ty:=(.pair (.int .i64) (.pair y42 (.pair (.sl y182) (.pair y46 (.pair y50 (.pair (.sl y179) (.pair (.int .i64) (.sl y203))))))))
abbrev y253:Ty:=(.pair .bool (.pair (.sl .str) (.pair (.sl .str) (.sl (.int .i64)))))
abbrev y255:Ty:=(.pair (.int .i64) y253)
abbrev y57:Ty:=(.pair (.int .i64) (.sl y255))
abbrev y424:Ty:=(.pair (.int .i64) .str)
abbrev y60:Ty:=(.pair (.int .i64) (.pair (.sl .str) (.sl y424)))
abbrev y249:Ty:=(.pair (.int .i64) (.int .i64))
abbrev y63:Ty:=(.pair (.int .i64) (.pair (.int .i64) (.pair (.int .i64) (.sl y249))))
abbrev y65:Ty:=(.pair y60 (.pair y63 (.pair y63 (.pair (.sl y249) (.sl (.int .i64))))))
abbrev y67:Ty:=(.pair y60 (.pair (.int .i64) (.pair (.int .i64) (.pair (.int .i64) (.int .i64)))))
abbrev y69:Ty:=(.pair y57 (.pair y65 (.pair y67 (.pair (.int .i64) (.int .i64)))))
abbrev y71:Ty:=(.pair y54 (.pair y69 (.pair y46 (.pair (.int .i64) (.sl y203)))))
abbrev y637:Ty:=(.pair (.int .i64) (.pair .str (.int .i64)))
abbrev y195:Ty:=(.pair .str (.sl .str))
abbrev y346:Ty:=(.pair .bool (.pair (.int .i64) (.pair (.int .i64) (.pair (.int .i64) (.int .i64)))))
abbrev y515:Ty:=(.pair .str (.pair (.sl .str) (.pair .bool (.pair .str (.pair .bool .str)))))
abbrev y431:Ty:=(.pair (.int .i64) (.sl y515))
abbrev y75:Ty:=(.pair y46 (.pair (.int .i64) (.sl y431)))
abbrev y77:Ty:=(.pair y71 (.pair y75 (.pair (.sl .str) (.int .i64))))
abbrev y26:Ty:=(.pair (.int .i64) (.pair (.int .i64) (.pair .str (.pair .str (.pair (.sl .str) (.pair (.sl .str) (.sl (.int .i64))))))))
abbrev y28:Ty:=(.pair (.int .i64) (.pair (.int .i64) y26))
variable [BOk Bn]
def c70 (a0:Int) (a1:Int):denL [⟨false,(.int .i64)⟩]:=(cd (!iLe a0 a1) (a0,()) (a1,()))
def k70:Con:=⟨70,[⟨false,(.int .i64)⟩,⟨false,(.int .i64)⟩],[⟨false,(.int .i64)⟩],fun x=>some (c70 x.1 x.2.1)⟩
theorem t70 (a0:Int) (a1:Int):KC Bn k70 (a0,a1,()) (c70 a0 a1):=by
 refine xI (uL [] ok0) Tryz.func70 fun hbd hB=>?_
 refine xc 7 (fun h1=>?_) fun h1=>?_
 exact xe 4
 exact xe 4
theorem o70:OK Bn k70:=xO fun x=>t70 _ _
abbrev pInt:List Par:=[⟨false,.int .i64⟩]
def idL (ids:List Int):List (denL pInt):=mapL (fun a=>(a,())) ids (upTo (J 6))
def dId (w:den y54) (ids:List Int):Dr:=dr0 71 [⟨true,y54⟩] pInt 60 (fun _=>idL ids) (some (w,()))
abbrev yJobR:Ty:=(.pair y174 (.pair y177 (.pair y174 (.pair .str (.pair (.sl .str) (.pair (.sl y299) (.pair (.int .i64) (.pair (.sl .str) .str))))))))
section
variable (tk:Int) (pr:den y42) (tr:den (.sl y182)) (te:den y46) (lo:den y50) (al:Int) (ba:den (.sl y203)) (j1 j2:den yJobR) (b1:den (.pair y69 (.pair y46 (.pair (.int .i64) (.sl y203)))))
def wd1:den y54:=(tk,pr,tr,te,lo,[(J 1,j1)],al,ba)
def wd2:den y54:=(tk,pr,tr,te,lo,[(J 1,j1),(J 2,j2)],al,ba)
theorem dId1_ok:DrOk Bn (dId (wd1 tk pr tr te lo al ba j1) [J 1]):=nd_fn (Ds:=[.dr dPick,.dr dOne]) (clD dPick_ok (clD dOne_ok cl0)) ok0 _ (fun _ y z=>chkL (idL [J 1]) y z) (fun _ _ _ _ h _ _=>chkD_mem h) (drEn0 fun _=>rfl) Tryz.func71 60 (fun σ x _ h _=>by
 have h:=h _ rfl
 subst h
 exact w_ok kr kr)
theorem dId2_ok:DrOk Bn (dId (wd2 tk pr tr te lo al ba j1 j2) [J 1,J 2]):=nd_fn (Ds:=[.dr dPick,.dr dOne]) (clD dPick_ok (clD dOne_ok cl0)) ok0 _ (fun _ y z=>chkL (idL [J 1,J 2]) y z) (fun _ _ _ _ h _ _=>chkD_mem h) (drEn0 fun _=>rfl) Tryz.func71 60 (fun σ x _ h _=>by
 have h:=h _ rfl
 subst h
 exact w_ok kr kr)
end
theorem crash_sub {y:denL pAct} (h:y∈crashL []):y∈actL:=by
 rcases crash_inv h with h|⟨A,h1,K,h2,rfl⟩
 ·cases h
 ·exact crash_mem h1 h2
theorem small_sub {y:denL pAct} (h:y∈l_small):y∈actL:=by
 unfold actL crashL
 generalize l_keep=L
 induction L with
 |nil=>exact h
 |cons K L ih=>exact mapL_tail ih
def chkA (y:denL pAct) (z:List Zv):Option (List Ob):=match z with
 |[]=>cd (inD pAct l_small y) (some []) none
 |[.cr a]=>some [obL pAct y (a,())]
 |_=>none
theorem chkA_mem {y:denL pAct}{z:List Zv}{o:List Ob} (h:chkA y z=some o) (he:Eqs o) (hz:∀v∈z,Zok v):y∈actL:=by
 unfold chkA at h
 split at h
 ·exact small_sub (inD_mem (cd_some h).1)
 ·rename_i a
  obtain rfl:=Oi h
  have h3:y=(a,()):=he (obL pAct y (a,())) (List.mem_singleton.2 rfl)
  rw[h3]
  exact crash_sub (hz (.cr a) (List.mem_singleton.2 rfl))
 ·cases h
def dAct (x:den y71):Dr:=drS 38 [⟨true,y71⟩] pAct 320 (fun _=>actL) (some (x,())) (fun _=>l_small) (fun _=>[(fun y=>y,fun y=>[.cr y.1])])
def chkS (y:denL pSites) (z:List Zv):Option (List Ob):=match z with
 |[]=>cd (inD pSites sitesE y) (some []) none
 |[.cr a]=>some [obL pSites y (mainA a)]
 |_=>none
theorem chkS_mem {y:denL pSites}{z:List Zv}{o:List Ob} (h:chkS y z=some o) (he:Eqs o) (hz:∀v∈z,Zok v):y∈sitesL:=by
 unfold chkS at h
 split at h
 ·exact mapL_tail (inD_mem (cd_some h).1)
 ·rename_i a
  obtain rfl:=Oi h
  have h3:y=mainA a:=he (obL pSites y (mainA a)) (List.mem_singleton.2 rfl)
  rw[h3]
  exact mapL_mem (g:=fun(a:denL pAct)=>mainA a.1) (hz (.cr a) (List.mem_singleton.2 rfl))
 ·cases h
def dSites (x:den y77):Dr:=drS 13 [⟨true,y77⟩] pSites 400 (fun _=>sitesL) (some (x,())) (fun _=>sitesE) (fun _=>[(fun y=>mainA (aCrash y.1.2.2.2.1 y.1.2.2.2.2.2.2.2.2),fun y=>[.cr y.1.2.2])])
theorem dAct_en {x:den y71}:DrEn (dAct x):=fun _ y hy=>by
 have hy:y∈actL:=hy
 rcases crash_inv hy with h|⟨A,h1,K,h2,rfl⟩
 ·exact .inl h
 ·exact .inr ⟨_,List.mem_singleton.2 rfl,rfl,fun v hv=>by obtain rfl:=List.mem_singleton.1 hv;exact crash_mem h1 h2⟩
theorem dSites_en {x:den y77}:DrEn (dSites x):=fun _ y hy=>by
 have hy:y∈mapL (fun(a:denL pAct)=>mainA a.1) (crashL []) sitesE:=hy
 rcases mapL_inv hy with h|⟨a,h,rfl⟩
 ·exact .inl h
 ·rcases crash_inv h with h|⟨A,h1,K,h2,rfl⟩
  ·cases h
  ·exact .inr ⟨_,List.mem_singleton.2 rfl,rfl,fun v hv=>by obtain rfl:=List.mem_singleton.1 hv;exact crash_mem h1 h2⟩
section
variable (tk:Int) (pr:den y42) (tr:den (.sl y182)) (te:den y46) (lo:den y50) (al:Int) (ba:den (.sl y203)) (j1 j2:den yJobR) (b1:den (.pair y69 (.pair y46 (.pair (.int .i64) (.sl y203))))) (s1:den (.pair y75 (.pair (.sl .str) (.int .i64))))
def st1:den y71:=(wd1 tk pr tr te lo al ba j1,b1)
theorem dAct1_ok:DrOk Bn (dAct (st1 tk pr tr te lo al ba j1 b1)):=nd_fn (Ds:=[.dr dPick,.dr dLabel,.dr dArgs,.dr dOne,.dr dPower,.dr (dId (wd1 tk pr tr te lo al ba j1) [J 1])]) (clD dPick_ok (clD dLabel_ok (clD dArgs_ok (clD dOne_ok (clD dPower_ok (clD (dId1_ok ..) cl0)))))) (okC o70 ok0) _ (fun _ y z=>chkA y z) (fun _ _ _ _ h he hz=>chkA_mem h he hz) dAct_en Tryz.func38 200 (fun σ x _ h _=>by
 have h:=h _ rfl
 subst h
 exact w_ok kr kr)
theorem dSites1_ok:DrOk Bn (dSites (st1 tk pr tr te lo al ba j1 b1,s1)):=nd_fn (Ds:=[.dr dPick,.dr dAmong,.dr dOne,.dr (dAct (st1 tk pr tr te lo al ba j1 b1))]) (clD dPick_ok (clD dAmong_ok (clD dOne_ok (clD (dAct1_ok ..) cl0)))) ok0 _ (fun _ y z=>chkS y z) (fun _ _ _ _ h he hz=>chkS_mem h he hz) dSites_en Tryz.func13 200 (fun σ x _ h _=>by
 have h:=h _ rfl
 subst h
 exact w_ok kr kr)
def st2:den y71:=(wd2 tk pr tr te lo al ba j1 j2,b1)
theorem dAct2_ok:DrOk Bn (dAct (st2 tk pr tr te lo al ba j1 j2 b1)):=nd_fn (Ds:=[.dr dPick,.dr dLabel,.dr dArgs,.dr dOne,.dr dPower,.dr (dId (wd2 tk pr tr te lo al ba j1 j2) [J 1,J 2])]) (clD dPick_ok (clD dLabel_ok (clD dArgs_ok (clD dOne_ok (clD dPower_ok (clD (dId2_ok ..) cl0)))))) (okC o70 ok0) _ (fun _ y z=>chkA y z) (fun _ _ _ _ h he hz=>chkA_mem h he hz) dAct_en Tryz.func38 200 (fun σ x _ h _=>by
 have h:=h _ rfl
 subst h
 exact w_ok kr kr)
theorem dSites2_ok:DrOk Bn (dSites (st2 tk pr tr te lo al ba j1 j2 b1,s1)):=nd_fn (Ds:=[.dr dPick,.dr dAmong,.dr dOne,.dr (dAct (st2 tk pr tr te lo al ba j1 j2 b1))]) (clD dPick_ok (clD dAmong_ok (clD dOne_ok (clD (dAct2_ok ..) cl0)))) ok0 _ (fun _ y z=>chkS y z) (fun _ _ _ _ h he hz=>chkS_mem h he hz) dSites_en Tryz.func13 200 (fun σ x _ h _=>by
 have h:=h _ rfl
 subst h
 exact w_ok kr kr)
end
end Go.Ev
end
