/- A part of the proof that FnActWords returns true for every input and leaves its argument as it was; no condition. -/
import Derived.Test.YtccagicppnmelaaGreatDoorQf
import Derived.Shelf.Strings.Count
import Derived.Shelf.Strings.Search2
import Derived.Test.YtccagicppnmelaaGreatDoorQa
import Derived.Laws.RangeString
set_option linter.all false
open List renaming length→U
open Int renaming ofNat→J,toNat→Jn
noncomputable section
namespace Go.Proofs
def Tryz.lays138_ren:Go.Shelf.Ren:=⟨fun|138=>340|195=>464|218=>465|143=>51|219=>94|217=>152|225=>153|224=>154|267=>155|266=>234|314=>235|n=>n,fun|9=>9|3=>3|4=>4|5=>5|0=>0|46=>150|146=>331|51=>327|n=>n,fun|1=>0|n=>n⟩
theorem Tryz.lays138:Go.Proofs.Lays.n138 Tryz.prog Tryz.lays138_ren where
 mixed:=kr
 f138:=Tryz.func340.trans (congrArg some kr)
 f143:=Tryz.func51.trans (congrArg some kr)
 f195:=Tryz.func464.trans (congrArg some kr)
 f217:=Tryz.func152.trans (congrArg some kr)
 f218:=Tryz.func465.trans (congrArg some kr)
 f219:=Tryz.func94.trans (congrArg some kr)
 f224:=Tryz.func154.trans (congrArg some kr)
 f225:=Tryz.func153.trans (congrArg some kr)
 f266:=Tryz.func234.trans (congrArg some kr)
 f267:=Tryz.func155.trans (congrArg some kr)
 f314:=Tryz.func235.trans (congrArg some kr)
 t0:=Tryz.underlying0
 a0:=Tryz.isAgg0
 z0:=Tryz.sizeOf0
 v0:=Tryz.zeroValue0
 t3:=Tryz.underlying3
 a3:=Tryz.isAgg3
 z3:=Tryz.sizeOf3
 v3:=Tryz.zeroValue3
 t4:=Tryz.underlying4
 a4:=Tryz.isAgg4
 z4:=Tryz.sizeOf4
 v4:=Tryz.zeroValue4
 t5:=Tryz.underlying5
 a5:=Tryz.isAgg5
 z5:=Tryz.sizeOf5
 v5:=Tryz.zeroValue5
 t9:=Tryz.underlying9
 a9:=Tryz.isAgg9
 z9:=Tryz.sizeOf9
 v9:=Tryz.zeroValue9
 t46:=Tryz.underlying150
 a46:=Tryz.isAgg150
 z46:=Tryz.sizeOf150
 v46:=Tryz.zeroValue150
 t51:=Tryz.underlying327
 a51:=Tryz.isAgg327
 z51:=Tryz.sizeOf327
 v51:=Tryz.zeroValue327
 t146:=Tryz.underlying331
 a146:=Tryz.isAgg331
 z146:=Tryz.sizeOf331
 v146:=Tryz.zeroValue331
 g1:=kr
def Tryz.lays217_ren:Go.Shelf.Ren:=⟨fun|217=>152|266=>234|n=>n,fun|9=>9|5=>5|3=>3|n=>n,fun|n=>n⟩
theorem Tryz.lays217:Go.Proofs.Lays.n217 Tryz.prog Tryz.lays217_ren where
 mixed:=kr
 f217:=Tryz.func152.trans (congrArg some kr)
 f266:=Tryz.func234.trans (congrArg some kr)
 t3:=Tryz.underlying3
 a3:=Tryz.isAgg3
 z3:=Tryz.sizeOf3
 v3:=Tryz.zeroValue3
 t5:=Tryz.underlying5
 a5:=Tryz.isAgg5
 z5:=Tryz.sizeOf5
 v5:=Tryz.zeroValue5
 t9:=Tryz.underlying9
 a9:=Tryz.isAgg9
 z9:=Tryz.sizeOf9
 v9:=Tryz.zeroValue9
def Tryz.lays219_ren:Go.Shelf.Ren:=⟨fun|219=>94|217=>152|225=>153|224=>154|267=>155|266=>234|314=>235|n=>n,fun|9=>9|3=>3|4=>4|5=>5|46=>150|146=>331|51=>327|n=>n,fun|1=>0|n=>n⟩
theorem Tryz.lays219:Go.Proofs.Lays.n219 Tryz.prog Tryz.lays219_ren where
 mixed:=kr
 f217:=Tryz.func152.trans (congrArg some kr)
 f219:=Tryz.func94.trans (congrArg some kr)
 f224:=Tryz.func154.trans (congrArg some kr)
 f225:=Tryz.func153.trans (congrArg some kr)
 f266:=Tryz.func234.trans (congrArg some kr)
 f267:=Tryz.func155.trans (congrArg some kr)
 f314:=Tryz.func235.trans (congrArg some kr)
 t3:=Tryz.underlying3
 a3:=Tryz.isAgg3
 z3:=Tryz.sizeOf3
 v3:=Tryz.zeroValue3
 t4:=Tryz.underlying4
 a4:=Tryz.isAgg4
 z4:=Tryz.sizeOf4
 v4:=Tryz.zeroValue4
 t5:=Tryz.underlying5
 a5:=Tryz.isAgg5
 z5:=Tryz.sizeOf5
 v5:=Tryz.zeroValue5
 t9:=Tryz.underlying9
 a9:=Tryz.isAgg9
 z9:=Tryz.sizeOf9
 v9:=Tryz.zeroValue9
 t46:=Tryz.underlying150
 a46:=Tryz.isAgg150
 z46:=Tryz.sizeOf150
 v46:=Tryz.zeroValue150
 t51:=Tryz.underlying327
 a51:=Tryz.isAgg327
 z51:=Tryz.sizeOf327
 v51:=Tryz.zeroValue327
 t146:=Tryz.underlying331
 a146:=Tryz.isAgg331
 z146:=Tryz.sizeOf331
 v146:=Tryz.zeroValue331
 g1:=kr
end Go.Proofs
namespace Go.Ev
open Go.Proofs Go.Shelf Go.Sort
def preB (a b:List Nat):Bool:=
 List.rec (motive:=fun _=>List Nat→Bool) (fun _=>true) (fun x _ ih=>List.rec false (fun y ys _=>cd (Nat.beq x y) (ih ys) false)) a b
theorem preB_eq:∀(a b:List Nat),(∀c∈a,c<256)→(∀c∈b,c<256)→preB a b=(U8 a).isPrefixOf (U8 b)
 |[],b,_,_=>by simp[preB,U8]
 |x::a,[],_,_=>by simp[preB,U8]
 |x::a,y::b,ha,hb=>by
  have ih:=preB_eq a b (fun c hc=>ha c (Lo _ hc)) (fun c hc=>hb c (Lo _ hc))
  have:preB (x::a) (y::b)=cd (Nat.beq x y) (preB a b) false:=rfl
  rw[this,ih]
  have h:=u8_eq (ha x (Mc ..)) (hb y (Mc ..))
  simp only[U8,List.map_cons,List.isPrefixOf_cons_cons,h]
  cases Nat.beq x y<;>simp[cd]
def idxS (a:List Nat) (l:List Nat):Nat→Int:=
 List.rec (motive:=fun _=>Nat→Int) (fun i=>cd (preB a []) (.ofNat i) (.negSucc 0)) (fun x xs ih i=>cd (preB a (x::xs)) (.ofNat i) (ih (Nat.succ i))) l
theorem idxS_eq (a:List Nat) (ha:∀c∈a,c<256):∀(l:List Nat) (i:Nat),(∀c∈l,c<256)→idxS a l i=if Lib.index (U8 l) (U8 a)= -1 then -1 else(i:Int)+Lib.index (U8 l) (U8 a)
 |[],i,hl=>by
  have:idxS a [] i=cd (preB a []) (.ofNat i) (.negSucc 0):=rfl
  rw[this,preB_eq a [] ha hl]
  cases a<;>simp[U8,Lib.index,cd]
 |x::l,i,hl=>by
  have ih:=idxS_eq a ha l (i+1) (fun c hc=>hl c (Lo _ hc))
  have:idxS a (x::l) i=cd (preB a (x::l)) (.ofNat i) (idxS a l (i+1)):=rfl
  rw[this,ih,preB_eq a (x::l) ha hl]
  have hU:U8 (x::l)=UInt8.ofNat x::U8 l:=rfl
  rw[hU]
  have hge:=Lib.index_ge (U8 l) (U8 a)
  simp only[Lib.index]
  rcases Bool.eq_false_or_eq_true ((U8 a).isPrefixOf (UInt8.ofNat x::U8 l)) with hp|hp
  ·simp[hp,cd]
  ·simp only[hp,cd,Bool.false_eq_true,if_false,beq_iff_eq]
   split
   ·simp
   ·rw[if_neg om];push_cast;omega
theorem idxB_eq (c:Nat) (hc:c<256):∀(l:List Nat) (i:Nat),(∀c∈l,c<256)→idxB c l i=if Lib.indexByte (U8 l) (UInt8.ofNat c)= -1 then -1 else(i:Int)+Lib.indexByte (U8 l) (UInt8.ofNat c)
 |[],i,hl=>by simp[idxB,U8,Lib.indexByte]
 |x::l,i,hl=>by
  have ih:=idxB_eq c hc l (i+1) (fun c hc=>hl c (Lo _ hc))
  have:idxB c (x::l) i=cd (Nat.beq x c) (.ofNat i) (idxB c l (i+1)):=rfl
  rw[this,ih]
  have hU:U8 (x::l)=UInt8.ofNat x::U8 l:=rfl
  have hge:=Lib.indexByte_ge (U8 l) (UInt8.ofNat c)
  rw[hU]
  simp only[Lib.indexByte,u8_eq (hl x (Mc ..)) hc]
  cases Nat.beq x c with
  |true=>simp[cd]
  |false=>
   simp only[cd,Bool.false_eq_true,if_false,beq_iff_eq]
   split
   ·simp
   ·rw[if_neg om];push_cast;omega
theorem cntB_eq (c:Nat) (hc:c<256):∀(l:List Nat),(∀c∈l,c<256)→cntB c l=Lib.countByte (U8 l) (UInt8.ofNat c)
 |[],hl=>by simp[cntB,U8,Lib.countByte]
 |x::l,hl=>by
  have ih:=cntB_eq c hc l (fun c hc=>hl c (Lo _ hc))
  have:cntB c (x::l)=cd (Nat.beq x c) (Nat.succ (cntB c l)) (cntB c l):=rfl
  rw[this,ih]
  have hU:U8 (x::l)=UInt8.ofNat x::U8 l:=rfl
  rw[hU]
  unfold Lib.countByte
  rw[List.count_cons,u8_eq (hl x (Mc ..)) hc]
  cases Nat.beq x c<;>simp[cd]
theorem index_ite (x:Int):(if x= -1 then(-1:Int) else((0:Nat):Int)+x)=x:=by split<;>omega
def xIdxS (l:List AV):Option AV:=match l with
 |[.s n l,.s _ a]=>cd (Nat.ble n 1000000) (some (.i .i64 (idxS a l 0))) none
 |_=>none
def xIdxB (l:List AV):Option AV:=match l with
 |[.s _ l,.i .u8 (.ofNat c)]=>cd (Nat.blt c 256) (some (.i .i64 (idxB c l 0))) none
 |_=>none
def xCnt (l:List AV):Option AV:=match l with
 |[.s _ l,.s _ [c]]=>some (.i .i64 (.ofNat (cntB c l)))
 |_=>none
def xId (l:List AV):Option AV:=match l with
 |[x]=>some x
 |_=>none
def xFmt (l:List AV):Option AV:=match l with
 |[.i .i64 a,.i .i64 b]=>cd (cd (iEq b (J 10)) (cd (iLe (.negSucc 9223372036854775807) a) (iLe a (J 9223372036854775807)) false) false) (some (.s (U (itoaN a)) (itoaN a))) none
 |_=>none
theorem Does.of_calls {P:Program}{f:Nat}{vs:Array Value}{e:Env}{v:AV}{cv:Value} (he:∀args w,(callFunc f args).run P w=.ok (.enter f args) w)
 (hc:Calls P f vs e.w fun x w'=>x=.returned cv∧w'=e.w) (hs:St e) (hr:Rel e v cv):
 Does P f vs e.w (fun cv w'=>∃e',e'.w=w'∧e'.h=e.h∧St e'∧Ext e e'∧Rel e' v cv):=by
 refine .inr ⟨he _ _,hc.mono ?_⟩
 rintro x w' ⟨rfl,rfl⟩
 exact⟨cv,rfl,e,rfl,rfl,hs,Ext.refl e,hr⟩
def ExtOk (B:Nat) (f:Nat) (g:List AV→Option AV):Prop:=∀args v e vs,g args=some v→St e→GRel (GG B) e→RelL e args vs→
 Does PP f vs.toArray e.w (fun cv w'=>∃e',e'.w=w'∧e'.h=e.h∧St e'∧Ext e e'∧Rel e' v cv)
theorem ExOk.cons {B f:Nat}{g:List AV→Option AV}{E:Exs} (h:ExtOk B f g) (hE:ExOk B E):ExOk B ((f,g)::E):=fun q hq=>by
 rcases List.mem_cons.1 hq with rfl|hq
 ·exact h
 ·exact hE q hq
theorem xIdxS_ok {B:Nat}:ExtOk B 94 xIdxS:=by
 intro args v e vs hx hs hg hr
 unfold xIdxS at hx
 split at hx
 ·rename_i n l k a
  obtain⟨u,u',rfl,h1,h2⟩:=rel_two hr
  simp only[Rel] at h1 h2
  obtain⟨⟨hn,_⟩,hl,rfl⟩:=h1
  obtain⟨_,ha,rfl⟩:=h2
  obtain⟨hb,hx⟩:=cd_some hx
  obtain rfl:=Oi hx
  have hle:=Nb hb
  obtain⟨m,hm⟩:=maxlen_of hg
  refine Does.of_calls (enters_of Tryz.func94 kr rfl) (Any.stringslite_Index Tryz.lays219 (strOf l) (strOf a) m e.w ?_ hm) hs ?_
  ·have:(strOf l).size=l.length:=by simp[strOf,ByteArray.size]
   omega
  ·simp only[Rel]
   rw[idxS_eq a ha l 0 hl,index_ite,strOf_list,strOf_list]
 ·cases hx
theorem xIdxB_ok {B:Nat}:ExtOk B 152 xIdxB:=by
 intro args v e vs hx hs hg hr
 unfold xIdxB at hx
 split at hx
 ·rename_i n l c
  obtain⟨u,u',rfl,h1,h2⟩:=rel_two hr
  simp only[Rel] at h1 h2
  obtain⟨hn,hl,rfl⟩:=h1
  subst h2
  obtain⟨hb,hx⟩:=cd_some hx
  obtain rfl:=Oi hx
  have hlt:c<256:=Nat.lt_succ_of_le (by simpa[Nat.blt] using hb)
  refine Does.of_calls (enters_of Tryz.func152 kr rfl) (Any.stringslite_IndexByte Tryz.lays217 (strOf l) (.ofNat c) e.w) hs ?_
  simp only[Rel]
  rw[idxB_eq c hlt l 0 hl,index_ite,strOf_list]
  rfl
 ·cases hx
theorem xCnt_ok {B:Nat}:ExtOk B 340 xCnt:=by
 intro args v e vs hx hs hg hr
 unfold xCnt at hx
 split at hx
 ·rename_i n l k c
  obtain⟨u,u',rfl,h1,h2⟩:=rel_two hr
  simp only[Rel] at h1 h2
  obtain⟨hn,hl,rfl⟩:=h1
  obtain⟨_,ha,rfl⟩:=h2
  obtain rfl:=Oi hx
  refine Does.of_calls (enters_of Tryz.func340 kr rfl) (Any.strings_Count_one Tryz.lays138 (strOf l) (UInt8.ofNat c) e.w) hs ?_
  simp only[Rel]
  rw[strOf_list,←cntB_eq c (ha c (Mc ..)) l hl]
  rfl
 ·cases hx
theorem value156 (x:Value) (w:World):(callFunc 156 #[x]).run Tryz.prog w=.ok (.value x) w:=by
 have h1:Tryz.f156.name≠ "runtime.NumGoroutine" :=by
  have:(Tryz.f156.name== "runtime.NumGoroutine")=false:=kr
  simpa using this
 have h2:Tryz.f156.body=none:=by rfl
 have h3:Extern.findNext Tryz.f156=none:=by rfl
 have h4:Extern.find Tryz.f156=some Extern.AbiNoEscape.same:=by rfl
 have h5:(Extern.AbiNoEscape.same #[x]).run Tryz.prog w=.ok x w:=rfl
 simp[callFunc,Tryz.func156,h1,h2,h3,h4,mark]
 rfl
theorem xId_ok {B:Nat}:ExtOk B 156 xId:=by
 intro args v e vs hx hs hg hr
 unfold xId at hx
 split at hx
 ·rename_i x
  obtain rfl:=Oi hx
  match vs,hr with
  |[u],hr=>
   simp only[RelL] at hr
   exact .inl ⟨u,e.w,value156 u e.w,e,rfl,rfl,hs,Ext.refl e,hr.1⟩
  |[],hr=>simp[RelL] at hr
  |_::_::_,hr=>simp[RelL] at hr
 ·cases hx
theorem ext_grow {e:Env} (hs:St e) (k:Nat) (os:Array Obj):St ⟨e.ρ,e.h,grow (e.w.drewN k) os,e.F⟩∧Ext e ⟨e.ρ,e.h,grow (e.w.drewN k) os,e.F⟩:=by
 have hkeep:∀b,b<e.w.heap.size→(grow (e.w.drewN k) os).heap[b]? =e.w.heap[b]? :=fun b hb=>by
  show(e.w.heap++os)[b]? =_
  rw[Array.getElem?_append_left hb]
 have hx:Ext e ⟨e.ρ,e.h,grow (e.w.drewN k) os,e.F⟩:={
  next:=Nr _
  kn:=fun _ h=>h
  ren:=fun _ _=>rfl
  fr:=rfl
  qt:=⟨rfl,rfl,rfl⟩
  heap:=by show e.w.heap.size≤(e.w.heap++os).size;simp
  keep:=fun b hb _=>hkeep b hb
  size:=fun b hb=>by simp only[bsize,hkeep b hb]
  own:=fun _ _ h=>h
  pres:=fun _ b h=>⟨b,h⟩
  newk:=fun _ h=>.inl h}
 refine⟨?_,hx⟩
 exact{
  kn:=hs.kn
  dk:=hs.dk
  lo:=hs.lo
  blk:=fun id b hb=>by
   by_cases hd:b=.dead
   ·subst hd;trivial
   ·exact BlkRel.ext hx (hs.dk id b hb) (hkeep _ (hs.lt ⟨b,hb,hd⟩)) b (hs.blk id b hb)
  inj:=hs.inj
  fr:=fun b hb=>⟨Nl (hs.fr b hb).1 hx.heap,(hs.fr b hb).2⟩}
theorem xFmt_ok {B:Nat}:ExtOk B 49 xFmt:=by
 intro args v e vs hx hs hg hr
 unfold xFmt at hx
 split at hx
 ·rename_i a b
  obtain⟨u,u',rfl,h1,h2⟩:=rel_two hr
  simp only[Rel] at h1 h2
  subst h1 h2
  obtain⟨hb,hx⟩:=cd_some hx
  obtain⟨hb,hc⟩:=cd_true hb
  obtain⟨hc,hd⟩:=cd_true hc
  obtain rfl:=Oi hx
  rw[iEq_eq] at hb
  rw[iLe_eq] at hc hd
  obtain rfl:b=10:=by simpa using hb
  have hc:(-9223372036854775808:Int)≤a:=by simpa using hc
  have hd:a≤(9223372036854775807:Int):=by simpa using hd
  refine .inr ⟨enters_of Tryz.func49 kr rfl _ _,(Any.strconv_FormatInt_10 Tryz.lays173 a hc hd e.w (tab_of hg)).mono ?_⟩
  rintro o w' ⟨rfl,k,os,rfl⟩
  obtain⟨q1,q2⟩:=ext_grow hs k os
  refine⟨_,rfl,⟨e.ρ,e.h,grow (e.w.drewN k) os,e.F⟩,rfl,rfl,q1,q2,?_⟩
  simp only[Rel]
  refine⟨⟨trivial,?_⟩,itoaN_lt a,?_⟩
  ·have:=c49_p a 10 hc hd
   have:U (α:=Nat) (itoaN a)≤21:=this
   omega
  ·rw[←itoaN_eq];rfl
 ·cases hx
def EX:Exs:=[(60,pintX),(94,xIdxS),(152,xIdxB),(340,xCnt),(156,xId),(49,xFmt)]
theorem EX_ok {B:Nat}:ExOk B EX:=ExOk.cons (fun args v e vs=>pint_ok _ (List.mem_singleton.2 rfl) args v e vs) (ExOk.cons xIdxS_ok (ExOk.cons xIdxB_ok (ExOk.cons xCnt_ok (ExOk.cons xId_ok (ExOk.cons xFmt_ok exOk0)))))
end Go.Ev
end
noncomputable section
namespace Go.Proofs
theorem Tryz.bldX:Go.Proofs.Builder.Extra Tryz.prog Tryz.laysJ_ren where
 sizeBuilder:=kr
 liesBuilder:=kr
 t5:=Tryz.underlying5
 a5:=Tryz.isAgg5
 z5:=Tryz.sizeOf5
 v5:=Tryz.zeroValue5
 infoByte:=kr
 cellsByte:=kr
 sizeByte:=kr
 neB5:=by decide
end Go.Proofs
namespace Go.Ev
open Go.Proofs Go.Shelf Go.Sort
def joinT (sep:List Nat) (xs:List (List Nat)):List Nat:=List.rec [] (fun x _ ih=>cat sep (cat x ih)) xs
def joinN (sep:List Nat) (xs:List (List Nat)):List Nat:=match xs with
 |[]=>[]
 |x::r=>cat x (joinT sep r)
theorem joinT_eq (sep:List Nat):∀(xs:List (List Nat)),U8 (joinT sep xs)=Lib.joinTail (U8 sep) (xs.map U8)
 |[]=>rfl
 |x::r=>by
  have ih:=joinT_eq sep r
  show U8 (cat sep (cat x (joinT sep r)))=_
  rw[cat_eq,cat_eq]
  simp only[U8,List.map_append,Lib.joinTail,List.map_cons,List.flatten_cons] at ih⊢
  rw[ih];simp
theorem joinN_eq (sep:List Nat):∀(xs:List (List Nat)),U8 (joinN sep xs)=Lib.join (xs.map U8) (U8 sep)
 |[]=>rfl
 |x::r=>by
  show U8 (cat x (joinT sep r))=_
  rw[cat_eq,List.map_cons,Lib.join_cons,←joinT_eq]
  simp[U8]
theorem joinT_lt {sep:List Nat} (hs:∀c∈sep,c<256):∀{xs:List (List Nat)},(∀x∈xs,∀c∈x,c<256)→∀c∈joinT sep xs,c<256
 |[],_,c,h=>by cases h
 |x::r,hx,c,h=>by
  have h:c∈cat sep (cat x (joinT sep r)):=h
  rw[cat_eq,cat_eq] at h
  rcases List.mem_append.1 h with h|h
  ·exact hs c h
  ·rcases List.mem_append.1 h with h|h
   ·exact hx x (Mc ..) c h
   ·exact joinT_lt hs (fun y hy=>hx y (Lo _ hy)) c h
theorem joinN_lt {sep:List Nat} (hs:∀c∈sep,c<256):∀{xs:List (List Nat)},(∀x∈xs,∀c∈x,c<256)→∀c∈joinN sep xs,c<256
 |[],_,c,h=>by cases h
 |x::r,hx,c,h=>by
  have h:c∈cat x (joinT sep r):=h
  rw[cat_eq] at h
  rcases List.mem_append.1 h with h|h
  ·exact hx x (Mc ..) c h
  ·exact joinT_lt hs (fun y hy=>hx y (Lo _ hy)) c h
def c24 (a0:List (List Nat)) (a1:List Nat):denL [⟨false,.str⟩]:=(joinN a1 a0,())
def k24:Con:=⟨24,[⟨false,.sl .str⟩,⟨false,.str⟩],[⟨false,.str⟩],fun x=>cd (cd (Nat.ble (U x.1) 1000000) (Nat.ble (U (α:=Nat) (joinN x.2.1 x.1)) 1099511627776) false) (some (c24 x.1 x.2.1)) none⟩
theorem p24 {a0:List (List Nat)}{a1:List Nat} (h:U a0≤1000000∧U (α:=Nat) (joinN a1 a0)≤1099511627776):k24.F (a0,a1,())=some (c24 a0 a1):=by
 show cd (cd (Nat.ble _ _) (Nat.ble _ _) _) _ _=_
 rw[Nc h.1,Nc h.2];rfl
theorem relT_strs {m:Mm}{w:World}{a:Addr}:∀(xs:List (den .str)) (o:Nat),(∀i x,xs[i]? =some x→∃us,CellsAt w a.block (o+i*wd .str) us∧relT m w .str x us)→∀j (x:den .str),xs[j]? =some x→(∀c∈(show List Nat from x),c<256)∧w.cell? ⟨a.block,o+j,none⟩=some (.string (strOf x)):=by
 intro xs o h j x hx
 obtain⟨us,h1,h2,h3,_⟩:=h j x hx
 refine⟨h3,?_⟩
 have:=h1 0 (.string (strOf x)) (by rw[h2];rfl)
 simpa[wd] using this
theorem o24 {Bn:Nat} [BOk Bn]:ConOk PP (GG Bn) k24:=⟨kr,fun x y h=>by
 obtain⟨a0,a1,u⟩:=x
 have h:cd (cd (Nat.ble (U a0) 1000000) (Nat.ble (U (α:=Nat) (joinN a1 a0)) 1099511627776) false) (some (c24 a0 a1)) none=some y:=h
 obtain⟨hb,h⟩:=cd_some h
 obtain⟨hb0,hb⟩:=cd_true hb
 have hb0:=Nb hb0
 obtain rfl:=Oi h
 have hb:=Nb hb
 refine kok_below (enters_of Tryz.func24 kr rfl) fun e vs hr=>?_
 obtain⟨v1,v2,rfl,r1,r2⟩:=rel_two hr
 have r1:Rel e (.isl .str a0) v1:=r1
 have r2:Rel e (.s (U (α:=Nat) a1) a1) v2:=r2
 obtain⟨_,g2,rfl⟩:=rel_s r2
 simp only[Rel] at r1
 obtain⟨v,hv,r1⟩:=r1
 have hv:v1=v:=by simpa using hv
 subst hv
 have hfin:∀(w':World),∀(hx:∀x∈a0,∀c∈(show List Nat from x),c<256),∀e',Rel e' (encR k24.rs (c24 a0 a1)) (.string ⟨(Lib.join (a0.map U8) (U8 a1)).toArray⟩):=fun _ hx e'=>by
  show Rel e' (.s (U (α:=Nat) (joinN a1 a0)) (joinN a1 a0)) _
  simp only[Rel]
  refine⟨⟨trivial,om⟩,joinN_lt g2 hx,?_⟩
  rw[←joinN_eq];rfl
 have hlen:(Lib.join ((a0.map strOf).map (·.data.toList)) (strOf a1).data.toList).length≤140737488355328:=by
  rw[strOf_list,List.map_map]
  have:((fun b:ByteArray=>b.data.toList)∘strOf)=U8:=by funext l;exact strOf_list l
  rw[this,←joinN_eq]
  simp only[U8,Lm];omega
 have heq:Lib.join ((a0.map strOf).map (·.data.toList)) (strOf a1).data.toList=Lib.join (a0.map U8) (U8 a1):=by
  rw[strOf_list,List.map_map]
  have:((fun b:ByteArray=>b.data.toList)∘strOf)=U8:=by funext l;exact strOf_list l
  rw[this]
 rcases r1 with ⟨ha,rfl⟩|⟨a,cap,rfl,hcap,hB,hrest⟩
 ·have ha:a0=[]:=ha
  subst ha
  refine⟨_,(Any.strings_Join_none Tryz.laysJ Tryz.bldX none 0 (strOf a1) e.w).mono ?_,hfin e.w (fun x hx=>by cases hx)⟩
  rintro o w' ⟨ho,hw⟩
  subst hw
  refine⟨?_,Go.RowKit.Below.refl _ _⟩
  rw[ho];rfl
 ·rcases hrest with ha|⟨hsp,himm,hcs⟩
  ·have ha:a0=[]:=ha
   subst ha
   refine⟨_,(Any.strings_Join_none Tryz.laysJ Tryz.bldX (some a) cap (strOf a1) e.w).mono ?_,hfin e.w (fun x hx=>by cases hx)⟩
   rintro o w' ⟨ho,hw⟩
   subst hw
   refine⟨?_,Go.RowKit.Below.refl _ _⟩
   rw[ho];rfl
  ·obtain⟨blk,off,spot⟩:=a
   have hsp:spot=none:=hsp
   subst hsp
   have hc:=relT_strs (a:=⟨blk,off,none⟩) a0 off hcs
   have h1:∀(j:Nat) x,(a0.map strOf)[j]? =some x→e.w.cell? ⟨blk,off+j,none⟩=some (.string x):=by
    intro j x hx
    rw[List.getElem?_map] at hx
    cases hj:a0[j]? with
    |none=>rw[hj] at hx;cases hx
    |some z=>
     rw[hj] at hx
     obtain rfl:=Oi hx
     exact(hc j z hj).2
   have hl:(a0.map strOf).length=a0.length:=Lm ..
   have hJ:=Any.strings_Join Tryz.laysJ Tryz.bldX blk off cap (a0.map strOf) (strOf a1) e.w h1 himm.1 (by rw[hl];exact Nt hb0 (by decide)) (by rw[hl];exact hcap) hlen
   rw[hl,heq] at hJ
   refine⟨_,hJ.mono ?_,hfin e.w ?_⟩
   ·rintro o w' ⟨ho,hw⟩
    exact⟨ho,hw⟩
   ·intro x hx
    obtain⟨j,hj⟩:=List.mem_iff_getElem?.1 hx
    exact(hc j x hj).1⟩
def asB (l:List Nat):Bool:=cd (Nat.ble l.length 1000) (List.rec true (fun c _ ih=>cd (Nat.blt c 128) ih false) l) false
theorem asB_inv {l:List Nat} (h:asB l=true):l.length≤1000∧∀c∈l,c<128:=by
 unfold asB at h
 obtain⟨h1,h0⟩:=cd_true h
 refine⟨Nb h1,?_⟩
 clear h1 h
 induction l with
 |nil=>intro c hc;cases hc
 |cons d l ih=>
  have h0:cd (Nat.blt d 128) (List.rec true (fun c _ ih=>cd (Nat.blt c 128) ih false) l:Bool) false=true:=h0
  obtain⟨h2,h3⟩:=cd_true h0
  intro c hc
  rcases List.mem_cons.1 hc with rfl|hc
  ·exact Nat.lt_of_succ_le (Nb h2)
  ·exact ih h3 c hc
def spW (l:List Nat):Nat→Nat→Option Nat→List (Nat×Nat)→List (Nat×Nat)×Option Nat
 |0,_,st,acc=>(acc,st)
 |f+1,pos,st,acc=>
  cd (Nat.blt pos l.length)
   (cd (Nat.beq (gc l pos) 32)
    (match st with
     |some a=>spW l f (pos+1) none (acc++[(a,pos)])
     |none=>spW l f (pos+1) none acc)
    (match st with
     |some a=>spW l f (pos+1) (some a) acc
     |none=>spW l f (pos+1) (some pos) acc))
   (acc,st)
def clW (l:List Nat) (x:List (Nat×Nat)×Option Nat):List (Nat×Nat):=match x.2 with
 |some a=>x.1++[(a,l.length)]
 |none=>x.1
def wordsN (l:List Nat):List (List Nat):=(clW l (spW l l.length 0 none [])).map fun x=>(l.drop x.1).take (x.2 - x.1)
theorem spW_step (l:List Nat) (f pos:Nat) (st:Option Nat) (acc:List (Nat×Nat)):spW l (f+1) pos st acc=cd (Nat.blt pos l.length)
 (cd (Nat.beq (gc l pos) 32)
  (match st with
   |some a=>spW l f (pos+1) none (acc++[(a,pos)])
   |none=>spW l f (pos+1) none acc)
  (match st with
   |some a=>spW l f (pos+1) (some a) acc
   |none=>spW l f (pos+1) (some pos) acc))
 (acc,st):=rfl
def isBl (r:Nat):Bool:=decide ((r:Int)=32)
theorem size_strOf (l:List Nat):(strOf l).size=l.length:=by simp[strOf,ByteArray.size]
theorem spW_eq {l:List Nat} (hl:∀c∈l,c<128):∀(f pos:Nat) (st:Option Nat) (acc:List (Nat×Nat)),Lib.spansFromP isBl (strOf l) f pos st acc=spW l f pos st acc
 |0,_,_,_=>rfl
 |f+1,pos,st,acc=>by
  rw[spW_step]
  unfold Lib.spansFromP
  by_cases hp:pos<l.length
  ·rw[if_pos (by rw[size_strOf];exact hp),show Nat.blt pos l.length=true from Nc hp]
   have hlt:l[pos]<128:=hl _ (List.getElem_mem ..)
   have hbyte:((strOf l)[pos]'(by rw[size_strOf];exact hp)).toNat=l[pos]:=by
    show((l.map UInt8.ofNat).toArray[pos]'(by simpa using hp)).toNat=_
    simp only[List.getElem_toArray,List.getElem_map,UInt8.toNat_ofNat']
    omega
   have hdec:=decode_ascii (strOf l) pos (by rw[size_strOf];exact hp) (by rw[hbyte];exact hlt)
   rw[hbyte] at hdec
   rw[hdec]
   have hgc:gc l pos=l[pos]:=by unfold gc;rw[Lw,Lq hp];rfl
   have hb:isBl l[pos]=Nat.beq (gc l pos) 32:=by
    rw[hgc,Bool.eq_iff_iff]
    unfold isBl
    rw[decide_eq_true_eq,Nat.beq_eq]
    omega
   simp only[hb,cd]
   cases Nat.beq (gc l pos) 32 with
   |true=>
    simp only[if_true]
    cases st with
    |none=>exact spW_eq hl f _ _ _
    |some a=>exact spW_eq hl f _ _ _
   |false=>
    simp only[Bool.false_eq_true,if_false]
    cases st with
    |none=>exact spW_eq hl f _ _ _
    |some a=>exact spW_eq hl f _ _ _
  ·rw[if_neg (by rw[size_strOf];exact hp),show Nat.blt pos l.length=false from by
    rw[Bool.eq_false_iff];intro h;exact hp (Nb h)]
   rfl
def SpOk (n:Nat) (acc:List (Nat×Nat)):Prop:=∀x∈acc,x.1≤x.2∧x.2≤n
theorem spW_ok (l:List Nat):∀(f pos:Nat) (st:Option Nat) (acc:List (Nat×Nat)),SpOk l.length acc→(∀a,st=some a→a≤pos∧a<l.length)→acc.length≤pos→acc.length+1≤pos+(if st=none then 1 else 0)→
 SpOk l.length (spW l f pos st acc).1∧(∀a,(spW l f pos st acc).2=some a→a<l.length)∧(spW l f pos st acc).1.length≤pos+f
 |0,pos,st,acc,h1,h2,h3,_=>⟨h1,fun a ha=>(h2 a ha).2,h3⟩
 |f+1,pos,st,acc,h1,h2,h3,h4=>by
  rw[spW_step]
  cases hb:Nat.blt pos l.length with
  |false=>exact⟨h1,fun a ha=>(h2 a ha).2,by show acc.length≤_;omega⟩
  |true=>
   have hp:pos<l.length:=Nb hb
   have go:∀(st':Option Nat) (acc':List (Nat×Nat)),SpOk l.length acc'→(∀a,st'=some a→a≤pos+1∧a<l.length)→acc'.length≤pos+1→acc'.length+1≤pos+1+(if st'=none then 1 else 0)→_:=
    fun st' acc' q1 q2 q3 q4=>spW_ok l f (pos+1) st' acc' q1 q2 q3 q4
   cases Nat.beq (gc l pos) 32 with
   |true=>
    cases st with
    |none=>
     obtain⟨k1,k2,k3⟩:=go none acc h1 (fun a h=>by cases h) om (by simp at h4⊢;omega)
     exact⟨k1,k2,by show(spW l f (pos+1) none acc).1.length≤_;omega⟩
    |some a=>
     obtain⟨g1,g2⟩:=h2 a rfl
     obtain⟨k1,k2,k3⟩:=go none (acc++[(a,pos)]) (fun x hx=>by
      rcases List.mem_append.1 hx with hx|hx
      ·exact h1 x hx
      ·rw[List.mem_singleton.1 hx];exact⟨g1,Nat.le_of_lt hp⟩) (fun a h=>by cases h) (by simp at h4⊢;omega) (by simp at h4⊢;omega)
     exact⟨k1,k2,by show(spW l f (pos+1) none (acc++[(a,pos)])).1.length≤_;omega⟩
   |false=>
    cases st with
    |none=>
     obtain⟨k1,k2,k3⟩:=go (some pos) acc h1 (fun a h=>by cases h;exact⟨om,hp⟩) om (by simp at h4⊢;omega)
     exact⟨k1,k2,by show(spW l f (pos+1) (some pos) acc).1.length≤_;omega⟩
    |some a=>
     obtain⟨g1,g2⟩:=h2 a rfl
     obtain⟨k1,k2,k3⟩:=go (some a) acc h1 (fun b h=>by cases h;exact⟨om,g2⟩) om (by simp at h4⊢;omega)
     exact⟨k1,k2,by show(spW l f (pos+1) (some a) acc).1.length≤_;omega⟩
theorem words_sp (l:List Nat):SpOk l.length (clW l (spW l l.length 0 none []))∧(clW l (spW l l.length 0 none [])).length≤l.length+1:=by
 obtain⟨h1,h2,h3⟩:=spW_ok l l.length 0 none [] (fun x hx=>by cases hx) (fun a h=>by cases h) (Nr _) (by simp)
 unfold clW
 cases hs:(spW l l.length 0 none []).2 with
 |none=>exact⟨h1,by show(spW l l.length 0 none []).1.length≤_;omega⟩
 |some a=>
  refine⟨fun x hx=>?_,by simp;omega⟩
  rcases List.mem_append.1 hx with hx|hx
  ·exact h1 x hx
  ·rw[List.mem_singleton.1 hx];exact⟨Nat.le_of_lt (h2 a hs),Nr _⟩
theorem words_eq {l:List Nat} (hl:∀c∈l,c<128):Lib.goFieldsP isBl (strOf l)=(wordsN l).map strOf:=by
 have h1:Lib.spansOfP isBl (strOf l)=clW l (spW l l.length 0 none []):=by
  unfold Lib.spansOfP
  rw[size_strOf,spW_eq hl]
  unfold Lib.closeSpans clW
  cases(spW l l.length 0 none []).2<;>simp[size_strOf]
 unfold Lib.goFieldsP wordsN
 rw[h1,List.map_map]
 refine List.map_congr_left fun x hx=>?_
 obtain⟨g1,g2⟩:=(words_sp l).1 x hx
 have:=strOf_extract l x.1 (x.2 - x.1) om
 rw[show x.1+(x.2 - x.1)=x.2 by omega] at this
 exact this
theorem blank_pays (w:World):PredAt Tryz.prog 58 #[] Go.Proofs.encR isBl w:=fun W r _=>by
 unfold FnGives
 go_enter Tryz.func58,Tryz.ntmps58
 go_wp2
 go_ret
 exact⟨rfl,0,rfl⟩
def c57_58 (a0:List Nat) (a1:Unit):denL [⟨false,.sl .str⟩]:=(wordsN a0,())
def k57_58:Con:=⟨57,[⟨false,.str⟩,⟨false,.clo 58 .unit⟩],[⟨false,.sl .str⟩],fun x=>cd (asB x.1) (some (c57_58 x.1 x.2.1)) none⟩
theorem p57_58 {a0:List Nat}{a1:Unit} (h:asB a0=true):k57_58.F (a0,a1,())=some (c57_58 a0 a1):=by
 show cd (asB a0) _ _=_
 rw[h];rfl
theorem o57_58 {Bn:Nat} [BOk Bn]:ConOk PP (GG Bn) k57_58:=⟨kr,fun x y h=>by
 obtain⟨a0,a1,u⟩:=x
 have h:cd (asB a0) (some (c57_58 a0 a1)) none=some y:=h
 obtain⟨hb,h⟩:=cd_some h
 obtain rfl:=Oi h
 obtain⟨hn,hasc⟩:=asB_inv hb
 intro e vs hf hs hg hr
 obtain⟨v1,v2,rfl,r1,r2⟩:=rel_two hr
 have r1:Rel e (.s (U (α:=Nat) a0) a0) v1:=r1
 obtain⟨_,g1,rfl⟩:=rel_s r1
 have r2:Rel e (.f (.func 58) [] []) v2:=r2
 simp only[Rel] at r2
 obtain⟨us,ws,rfl,h1,h2⟩:=r2
 obtain rfl:us=#[]:=by have:=relL0 h1;simpa using this
 obtain rfl:ws=#[]:=by have:=relL0 h2;simpa using this
 have hJ:=Any.strings_FieldsFunc Tryz.lays229 58 #[] (enters_of Tryz.func58 kr rfl) isBl (strOf a0) e.w (by rw[size_strOf];omega) (blank_pays e.w) kr kr
 rw[words_eq hasc,Lm,List.map_map] at hJ
 have hlen:(wordsN a0).length≤1001:=by
  have:=(words_sp a0).2
  unfold wordsN;rw[Lm];omega
 refine .inr ⟨enters_of Tryz.func57 kr rfl _ _,hJ.mono ?_⟩
 rintro o w' ⟨A,rfl,hA,hown,hB⟩
 obtain⟨q1,q2⟩:=ext_below hs hB
 refine⟨_,rfl,⟨e.ρ,e.h,w',e.F⟩,rfl,q1,q2,?_⟩
 show Rel ⟨e.ρ,e.h,w',e.F⟩ (.isl .str (wordsN a0)) _
 simp only[Rel]
 obtain⟨_,⟨h3,_⟩|⟨g,cap,cur,hv,hbase,hget,hcap,_,hsz,htake⟩⟩:=hown
 ·cases h3
 ·injection hv with hv hv2 hv3
  injection hv with hv
  injection hv with hv
  subst hv hv3
  have hAlt:A<w'.heap.size:=(Array.getElem?_eq_some_iff.1 hget).1
  have hFB:e.F.B=Bn:=hg.1
  have hlo:1073741824≤Bn:=BOk.lo
  refine⟨_,rfl,.inr ⟨⟨A,0,none⟩,_,rfl,Nr _,(by show(wordsN a0).length≤e.F.B;omega),.inr ⟨rfl,⟨hAlt,fun hF=>absurd (hs.fr A hF).1 om,fun⟨id,hl,hid⟩=>?_⟩,fun i x hx=>?_⟩⟩⟩
  ·have:=hs.lt (show live e.h id from hl)
   have hid:(e.ρ id).1=A:=hid
   omega
  ·refine⟨[.string (strOf x)],fun j v hj=>?_,rfl,?_,?_⟩
   ·cases j with
    |succ j=>simp at hj
    |zero=>
     obtain rfl:Value.string (strOf x)=v:=by simpa using hj
     have hi:i<(wordsN a0).length:=(List.getElem?_eq_some_iff.1 hx).1
     have h5:cur.toList[i]? =some (.string (strOf x)):=by
      have h6:(cur.toList.take ((wordsN a0).length*1))[i]? =some (.string (strOf x)):=by
       rw[htake,List.getElem?_map,hx];rfl
      rw[List.getElem?_take] at h6
      rw[if_pos om] at h6
      exact h6
     show World.cell? w' ⟨A,0+i*1+0,none⟩=_
     simp only[World.cell?,hget]
     simpa using h5
   ·intro c hc
    have hmem:x∈wordsN a0:=List.mem_iff_getElem?.2 ⟨i,hx⟩
    unfold wordsN at hmem
    obtain⟨q,_,rfl⟩:=List.mem_map.1 hmem
    have:=List.mem_of_mem_drop (List.mem_of_mem_take hc)
    exact g1 c this
   ·have hmem:x∈wordsN a0:=List.mem_iff_getElem?.2 ⟨i,hx⟩
    unfold wordsN at hmem
    obtain⟨q,_,rfl⟩:=List.mem_map.1 hmem
    simp only[Tk,Ld];omega⟩
end Go.Ev
end
