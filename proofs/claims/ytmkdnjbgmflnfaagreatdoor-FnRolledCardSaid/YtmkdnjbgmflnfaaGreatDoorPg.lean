/- A part of the proof that FnRolled returns true; no condition. -/
import Derived.Test.YtmkdnjbgmflnfaaGreatDoorPf
import Derived.Test.YtmkdnjbgmflnfaaGreatDoorPa
import Derived.Shelf.Strings.Search2
import Derived.KernelRfl
set_option linter.all false
set_option maxRecDepth 100000
open List renaming length→U
open Int renaming ofNat→J,toNat→Jn
noncomputable section
namespace Go.Ev
open Go.Proofs
variable {Bn:Nat}
theorem flat_len (t:Ty):∀(xs:List (den t)),((xs.map (tc t)).flatten).length=xs.length*wd t
 |[]=>by simp
 |x::xs=>by simp only[List.map_cons,List.flatten_cons,La,tc_len,flat_len t xs,Lcz,Nat.add_mul];omega
theorem lay_app:∀(a new b c:List AV),new.length=b.length→lay (a++(b++c)) a.length new=some (a++(new++c))
 |[],[],[],c,_=>by cases c<;>rfl
 |[],x::new,y::b,c,h=>by
  have ih:=lay_app [] new b c (by simpa using h)
  show(Option.rec none (fun r=>some (x::r)) (lay (b++c) 0 new):Option (List AV))=_
  have ih:lay (b++c) 0 new=some (new++c):=ih
  rw[ih];rfl
 |[],[],y::b,c,h=>by simp at h
 |[],x::new,[],c,h=>by simp at h
 |x::a,new,b,c,h=>by
  have ih:=lay_app a new b c h
  show(Option.rec none (fun r=>some (x::r)) (lay (a++(b++c)) a.length new):Option (List AV))=_
  rw[ih];rfl
theorem tc_ok (n:Nat):∀(t:Ty) (x:den t),avOkL n (tc t x)
 |.int _,_=>by show avOkL n [.i _ _];simp[avOkL,avOk]
 |.bool,_=>by show avOkL n [.b _];simp[avOkL,avOk]
 |.str,_=>by show avOkL n [.s _ _];simp[avOkL,avOk]
 |.unit,_=>by show avOkL n [];simp[avOkL]
 |.pair a b,x=>by
  show avOkL n (catA (tc a x.1) (tc b x.2))
  rw[catA_eq]
  have:∀(xs ys:List AV),avOkL n xs→avOkL n ys→avOkL n (xs++ys):=by
   intro xs
   induction xs with
   |nil=>intro ys _ h;exact h
   |cons x xs ih=>intro ys h1 h2;simp only[List.cons_append,avOkL] at h1⊢;exact⟨h1.1,ih ys h1.2 h2⟩
  exact this _ _ (tc_ok n a _) (tc_ok n b _)
 |.sl _,_=>by show avOkL n [.isl _ _];simp[avOkL,avOk]
 |.ptr _,_=>by show avOkL n [.ip _ _ _];simp[avOkL,avOk]
 |.clo f t,x=>by
  show avOkL n [.f (.func f) [] (tc t x)]
  simp only[avOkL,avOk,and_true]
  exact⟨trivial,tc_ok n t x⟩
theorem avOkL_app {n:Nat}:∀{xs ys:List AV},avOkL n xs→avOkL n ys→avOkL n (xs++ys)
 |[],ys,_,h=>h
 |x::xs,ys,h1,h2=>by simp only[List.cons_append,avOkL] at h1⊢;exact⟨h1.1,avOkL_app h1.2 h2⟩
theorem dec_tc (hd:H):∀(t:Ty) (x:den t) (r:List AV),dec hd t (tc t x++r)=some (x,r)
 |.int k,n,r=>by
  show cd (kEq k k) (some (n,r)) none=_
  have:kEq k k=true:=by cases k<;>rfl
  rw[this];rfl
 |.bool,_,_=>rfl
 |.str,_,_=>rfl
 |.unit,_,_=>rfl
 |.pair a b,x,r=>by
  have h1:tc (.pair a b) x++r=tc a x.1++(tc b x.2++r):=by
   show catA (tc a x.1) (tc b x.2)++r=_
   rw[catA_eq,List.append_assoc]
  rw[h1,dec_pair,dec_tc hd a]
  simp only
  rw[dec_tc hd b]
 |.sl t,xs,r=>by
  show dec hd (.sl t) (.isl t xs::r)=_
  simp only[dec]
  split
  ·rfl
  ·rename_i h _;exact absurd rfl h
 |.ptr t,x,r=>by
  show dec hd (.ptr t) (.ip t x 0::r)=_
  simp only[dec]
  split
  ·rfl
  ·rename_i h _;exact absurd rfl h
 |.clo f t,x,r=>by
  show cd (Nat.beq f f) (match dec hd t (tc t x) with
   |some (x,[])=>some (x,r)
   |_=>none) none=_
  have:=dec_tc hd t x []
  rw[List.append_nil] at this
  rw[Nat.beq_refl,this];rfl
theorem decRows_tc (hd:H) (t:Ty):∀(xs:List (den t)),decRows (dec hd t) xs.length ((xs.map (tc t)).flatten)=some xs
 |[]=>rfl
 |x::xs=>by
  show decRows (dec hd t) (xs.length+1) (tc t x++(xs.map (tc t)).flatten)=_
  rw[decRows_succ,dec_tc]
  simp only
  rw[decRows_tc hd t xs]
theorem cut_all:∀(l:List AV),cut l 0 l.length=some l
 |[]=>rfl
 |x::l=>by
  show(Option.rec none (fun r=>some (x::r)) (cut l 0 l.length):Option (List AV))=_
  rw[cut_all l]
theorem decP_tos {hd:H}{id:Id}{t:Ty}{el:TypeId}{fz ex:Bool}{lo:Nat}{xs:List (den t)} (hb:xs.length≤1073741824) (hg:hd.get id=some (.cs el ((xs.map (tc t)).flatten) fz)):
 decP hd false (.sl t) (.sl id 0 (wd t) xs.length lo ex)=some xs:=by
 have h1:dec hd (.sl t) [.sl id 0 (wd t) xs.length lo ex]=some (xs,[]):=by
  cases xs with
  |nil=>rfl
  |cons x xs=>
   show cd (cd (Nat.beq (wd t) (wd t)) (Nat.ble (xs.length+1) 1073741824) false) (match blkCut (hd.get id) 0 (Nat.mul (xs.length+1) (wd t)) with
    |some l=>match decRows (dec hd t) (xs.length+1) l with
     |some xs=>some (xs,[])
     |none=>none
    |none=>none) none=_
   rw[Nat.beq_refl,ble_nat,Dt (by simpa using hb),hg]
   have hc:blkCut (some (Blk.cs el (((x::xs).map (tc t)).flatten) fz)) 0 (Nat.mul (xs.length+1) (wd t))=some (((x::xs).map (tc t)).flatten):=by
    show cut (((x::xs).map (tc t)).flatten) 0 ((xs.length+1)*wd t)=_
    have:=flat_len t (x::xs)
    rw[Lcz] at this
    rw[←this];exact cut_all _
   rw[hc]
   have:=decRows_tc hd t (x::xs)
   rw[Lcz] at this
   show(match decRows (dec hd t) (xs.length+1) (((x::xs).map (tc t)).flatten) with
        |some xs=>some (xs,([]:List AV))
        |none=>none)=_
   rw[this]
 simp only[decP,h1]
def viewMk (o:AOp) (fr:T AV):Option (TypeId×Nat×Nat×List AV×Nat×Nat):=match o with
 |.o2 (.mksl el sz by_ z l c)=>match asN (ev l fr),asN (ev c fr) with
  |some l,some c=>some (el,sz,by_,z,l,c)
  |_,_=>none
 |_=>none
def viewSt (o:AOp) (fr:T AV):Option (Nat×AV×Option (List AV)):=match o with
 |.st n a x=>some (n,ev a fr,(ev x fr).cells)
 |_=>none
section
variable {call:CallF}{base:Nat}{ops:List AO}{fr:T AV}{h:H}{Q:T AV→H→Prop}
theorem RunOps.stepH (k:Nat) (v:AV) (h':H) (hok:stOk call base ops fr h k=true) (hk:Nat.blt k ops.length=true) (hw:wanted (opA ops k).g (stF call base ops fr h k)=some true)
 (hv:evOp call (opA ops k).op (stF call base ops fr h k) (stH call base ops fr h k) (Nat.add base (opA ops k).k)=.ok v h')
 (hr:RunOps call base (ops.drop (k+1)) (setD (opA ops k).dst v (stF call base ops fr h k)) h' Q):RunOps call base ops fr h Q:=by
 refine RunOps.upto k hok ?_
 obtain⟨fr',h2,h1,h3⟩:=hr
 refine⟨fr',h2,?_,h3⟩
 rw[opA_drop hk]
 show(Option.rec .no (fun c=>cd c
  (R.rec .no (fun v h'=>evOps call base (ops.drop (k+1)) (setD (opA ops k).dst v (stF call base ops fr h k)) h') (evOp call (opA ops k).op (stF call base ops fr h k) (stH call base ops fr h k) (Nat.add base (opA ops k).k)))
  (evOps call base (ops.drop (k+1)) (setD (opA ops k).dst undefA (stF call base ops fr h k)) (stH call base ops fr h k))) (wanted (opA ops k).g (stF call base ops fr h k)):FR)=_
 rw[hw,hv]
 exact h1
theorem ev_mksl {o:AOp}{id el sz by_ n:Nat}{z:List AV} (hn:0<n) (hby:n*by_≤1099511627776) (hv:viewMk o fr=some (el,sz,by_,z,n,n)) (hlt:Nat.blt id h.next=true) (hfr:h.get (path id)=none):
 evOp call o fr h id=.ok (.sl (path id) 0 sz n n true) (h.put (path id) (.cs el (repl n z) false)):=by
 unfold viewMk at hv
 split at hv
 ·rename_i el' sz' by' z' l c
  split at hv
  ·rename_i l' c' h1 h2
   simp only[Oj,Prod.mk.injEq] at hv
   obtain⟨rfl,rfl,rfl,rfl,rfl,g6⟩:=hv
   show(match asN (ev l fr),asN (ev c fr) with
    |some l,some c=>cd (Nat.ble l c) (cd (roomy c by') (cd (Nat.beq c 0) (.ok .em h) (putNew id (.cs el' (repl c z') false) (fun id=>.sl id 0 sz' l c true) h)) .no) .no
    |_,_=>.no:R)=_
   rw[h1,h2,g6]
   show cd (Nat.ble l' l') (cd (roomy l' by') (cd (Nat.beq l' 0) (.ok .em h) (putNew id (.cs el' (repl l' z') false) (fun id=>.sl id 0 sz' l' l' true) h)) .no) .no=_
   have e1:Nat.ble l' l'=true:=Nc (Nr _)
   have e2:roomy l' by'=true:=Nc hby
   have e3:Nat.beq l' 0=false:=by rw[beq_nat];exact Df om
   rw[e1,e2,e3]
   show putNew id (.cs el' (repl l' z') false) (fun id=>.sl id 0 sz' l' l' true) h=_
   unfold putNew
   rw[hlt,hfr];rfl
  ·cases hv
 ·cases hv
theorem ev_st {o:AOp}{id:Id}{off i:Nat}{cs l l':List AV}{el:TypeId} (hl:lay l off cs=some l') (hv:viewSt o fr=some (len cs,.p id off,some cs)) (hg:h.get id=some (.cs el l false)):
 evOp call o fr h i=.ok undefA (h.put id (.cs el l' false)):=by
 unfold viewSt at hv
 split at hv
 ·rename_i n a x
  simp only[Oj,Prod.mk.injEq] at hv
  obtain⟨h1,h2,h3⟩:=hv
  show(Option.rec .no (fun cs=>cd (Nat.beq (len cs) n) (Option.rec .no (fun h'=>.ok undefA h') (storeAt (ev a fr) cs h)) .no) (ev x fr).cells:R)=_
  rw[h3,h2]
  show cd (Nat.beq (len cs) n) (Option.rec .no (fun h'=>.ok undefA h') (blkLay (h.get id) id off cs h):R) .no=_
  rw[h1,Nat.beq_refl,hg]
  show(Option.rec .no (fun h'=>.ok undefA h') (Option.rec none (fun l'=>some (h.put id (.cs el l' false))) (lay l off cs)):R)=_
  rw[hl]
 ·cases hv
end
theorem zsv {nt:Nat}{c:Code}{fr:T AV}{h:H}{Q:Ex→T AV→H→Prop} (p:Nat) (v v':AV) (he:v=v') (hr:S Bn nt c (T.set (path p) v' fr) h Q)
 (hv:T.get (path p) fr=some v:=by kernel_rfl):S Bn nt c fr h Q:=by
 subst he
 rw[T.set_self (path p) _ _ hv] at hr;exact hr
def SatN (P:Program) (G:Gs) (nt:Nat) (b:Code) (Q:Ex→T AV→H→Prop) (r:Nat):T AV→H→Prop:=
 Nat.rec (motive:=fun _=>T AV→H→Prop) (fun _ _=>False) (fun _ ih fr h=>Sat P G nt b fr h (thenQ ih Q)) r
theorem Sat.unroll {P:Program}{G:Gs}{nt:Nat}{b:Code}{Q:Ex→T AV→H→Prop} (r:Nat){fr:T AV}{h:H} (hr:SatN P G nt b Q r fr h):Sat P G nt (.loop b) fr h Q:=by
 intro K e a he hs hf hg hsz hp
 refine wp_loop_rounds r ?_
 have key:∀(r:Nat) (fr:T AV) (h:H),SatN P G nt b Q r fr h→∀(e1:Env) (a1:Act),e1.h=h→St e1→FrRel e1 fr a1.tmps→GRel G e1→a1.tmps.size=nt→
  (∀ex fr' h',Q ex fr' h'→Post nt K e1 a1 ex fr' h')→Code.rounds P b K r a1 e1.w:=by
  intro r
  induction r with
  |zero=>intro fr h hF;exact hF.elim
  |succ r ih=>
   intro fr h hN e1 a1 he1 hs1 hf1 hg1 hsz1 hp1
   rw[rounds_succ]
   refine(show Sat P G nt b fr h (thenQ (SatN P G nt b Q r) Q) from hN) _ e1 a1 he1 hs1 hf1 hg1 hsz1 (fun ex fr2 h2 hq=>?_)
   intro a2 e2 he2 hs2 hx2 hf2 hsz2 hd2
   cases ex with
   |normal=>exact ih fr2 h2 hq e2 a2 he2 hs2 hf2 (hg1.ext hx2) hsz2 (fun ex fr' h' hq'=>(hp1 ex fr' h' hq').ext hx2 hd2)
   |exit id=>exact hp1 (.exit id) fr2 h2 hq a2 e2 he2 hs2 hx2 hf2 hsz2 hd2
   |ret=>exact hp1 .ret fr2 h2 hq a2 e2 he2 hs2 hx2 hf2 hsz2 hd2
 exact key r fr h hr e a he hs hf hg hsz hp
theorem zun {nt:Nat}{b:Code}{fr:T AV}{h:H}{Q:Ex→T AV→H→Prop} (r:Nat) (hr:SatN PP (GG Bn) nt b Q r fr h):S Bn nt (.loop b) fr h Q:=Sat.unroll r hr
theorem zu1 {nt:Nat}{b:Code}{fr:T AV}{h:H}{Q:Ex→T AV→H→Prop}{r:Nat} (hr:S Bn nt b fr h (thenQ (SatN PP (GG Bn) nt b Q r) Q)):SatN PP (GG Bn) nt b Q (r+1) fr h:=hr
attribute [irreducible] SatN
def hC (x:CR):H:=CR.rec H0 (fun _ _ h=>h) x
def U8 (l:List Nat):List UInt8:=l.map UInt8.ofNat
theorem strOf_list (l:List Nat):(strOf l).data.toList=U8 l:=by simp[strOf,U8]
theorem u8_eq {a b:Nat} (ha:a<256) (hb:b<256):(UInt8.ofNat a==UInt8.ofNat b)=Nat.beq a b:=by
 rw[Bool.eq_iff_iff,beq_iff_eq,Nat.beq_eq]
 constructor
 ·intro h
  have:=congrArg UInt8.toNat h
  simpa[UInt8.toNat_ofNat,Nat.mod_eq_of_lt ha,Nat.mod_eq_of_lt hb] using this
 ·intro h;rw[h]
theorem rel_two {e:Env}{x y:AV}{vs:List Value} (h:RelL e [x,y] vs):∃u v,vs=[u,v]∧Rel e x u∧Rel e y v:=by
 match vs,h with
 |[u,v],h=>simp only[RelL] at h;exact⟨u,v,rfl,h.1,h.2.1⟩
 |[],h=>simp[RelL] at h
 |[_],h=>simp[RelL] at h
 |_::_::_::_,h=>simp[RelL] at h
def gotL (hs:List Bh) (mk:List Pd) (r:Rd) (js:List Nat):List (Option AV):=
 List.rec [] (fun j _ ih=>(Option.rec none (fun b=>R.rec none (fun a _=>some a) (evOp noCall r.o r.fr (heapAt b r.ks mk) 0)) (nth hs j))::ih) js
def wantL (r:Rd) (js:List Nat):List (Option AV):=List.rec [] (fun _ _ ih=>some r.v::ih) js
def gotA (hs:List Bh) (mk:List Pd) (rs:List Rd):List (List (Option AV)):=List.rec [] (fun r _ ih=>gotL hs mk r r.js::ih) rs
def wantA (rs:List Rd):List (List (Option AV)):=List.rec [] (fun r _ ih=>wantL r r.js::ih) rs
theorem chk1_got (hs:List Bh) (mk:List Pd) (r:Rd):∀(js:List Nat),gotL hs mk r js=wantL r js→chk1 hs mk r js=true
 |[],_=>rfl
 |j::js,h=>by
  injection h with h1 h2
  have ih:=chk1_got hs mk r js h2
  show(Option.rec false (fun b=>R.rec false (fun a _=>cd (sameA a r.v) (chk1 hs mk r js) false) (evOp noCall r.o r.fr (heapAt b r.ks mk) 0)) (nth hs j):Bool)=true
  cases hn:nth hs j with
  |none=>rw[hn] at h1;cases h1
  |some b=>
   rw[hn] at h1
   replace h1:(R.rec none (fun a _=>some a) (evOp noCall r.o r.fr (heapAt b r.ks mk) 0):Option AV)=some r.v:=h1
   show(R.rec false (fun a _=>cd (sameA a r.v) (chk1 hs mk r js) false) (evOp noCall r.o r.fr (heapAt b r.ks mk) 0):Bool)=true
   cases he:evOp noCall r.o r.fr (heapAt b r.ks mk) 0 with
   |no=>rw[he] at h1;cases h1
   |ok a h'=>
    rw[he] at h1
    injection h1 with h1
    show cd (sameA a r.v) (chk1 hs mk r js) false=true
    rw[h1,sameA_refl,ih];rfl
theorem chkAll_got (hs:List Bh) (mk:List Pd):∀(rs:List Rd),gotA hs mk rs=wantA rs→chkAll hs mk rs=true
 |[],_=>rfl
 |r::rs,h=>by
  injection h with h1 h2
  show cd (chk1 hs mk r r.js) (chkAll hs mk rs) false=true
  rw[chk1_got hs mk r _ h1,chkAll_got hs mk rs h2];rfl
def isSomeD (x:Option DS):Bool:=Option.rec false (fun _=>true) x
def gotD (x:Option DS):List (List (Option AV)):=Option.rec [] (fun s=>gotA (revOnto s.old [s.cur]) s.mks s.rs) x
def wantD (x:Option DS):List (List (Option AV)):=Option.rec [] (fun s=>wantA s.rs) x
def frD (x:Option DS):T AV:=Option.rec .e (fun s=>s.fr) x
def hD (x:Option DS):H:=Option.rec H0 (fun s=>puts (selC s.cur.cons s.mks) s.cur.h) x
def evDr (P:Program) (G:Gs) (nt:Nat) (call:CallF) (ops:Array Oper) (fr:T AV) (h:H):Option DS:=
 evD call h.next (regN P G nt ops) (drawOf (predsGo ops.toList []) (regL P G nt ops)) ⟨fr,⟨⟨Nat.add h.next (regN P G nt ops),h.t⟩,[]⟩,[],[],[]⟩
section
variable {P:Program}{G:Gs}{nt:Nat}{call:CallF}{fr:T AV}{h:H}{Q:Ex→T AV→H→Prop}
theorem Sat.dregV (hm:P.follows .mixedOrders=true) (hk:CallOK P G call){rid:Nat}{ops:Array Oper}
 (hd:chkD (regN P G nt ops) ops.toList (predsGo ops.toList []) (regL P G nt ops)=true)
 (hok:isSomeD (evDr P G nt call ops fr h)=true) (hc:gotD (evDr P G nt call ops fr h)=wantD (evDr P G nt call ops fr h))
 (hq:Q .normal (frD (evDr P G nt call ops fr h)) (hD (evDr P G nt call ops fr h))):Sat P G nt (.region rid ops true) fr h Q:=by
 cases hev:evDr P G nt call ops fr h with
 |none=>rw[hev] at hok;cases hok
 |some s=>
  rw[hev] at hc hq
  refine Sat.ev hm hk (ex:=.normal) (fr':=s.fr) (h':=puts (selC s.cur.cons s.mks) s.cur.h) ?_ hq
  have:compC P G nt (.region rid ops true)=if chkD (regN P G nt ops) ops.toList (predsGo ops.toList []) (regL P G nt ops) then .dreg (regN P G nt ops) (drawOf (predsGo ops.toList []) (regL P G nt ops)) else .bad:=rfl
  rw[this,if_pos hd]
  show(Option.rec .no (fun q=>.ok .normal q.1 q.2) (evDreg call (regN P G nt ops) (drawOf (predsGo ops.toList []) (regL P G nt ops)) fr h):CR)=_
  have he:evDreg call (regN P G nt ops) (drawOf (predsGo ops.toList []) (regL P G nt ops)) fr h=some (s.fr,puts (selC s.cur.cons s.mks) s.cur.h):=by
   unfold evDreg
   unfold evDr at hev
   rw[hev]
   have hc:chkAll (revOnto s.old [s.cur]) s.mks s.rs=true:=chkAll_got _ _ _ hc
   show cd (List.rec true (fun _ _ _=>chkAll (revOnto s.old [s.cur]) s.mks s.rs) s.rs) _ none=_
   cases hrs:s.rs with
   |nil=>rfl
   |cons r rs=>rw[hrs] at hc;show cd (chkAll _ _ (r::rs)) _ none=_;rw[hc];rfl
  rw[he]
end
abbrev Fs0:=Option (Nat×Nat×Bool)
def fstA (fs:Fs0) (id:Id):AV:=match fs with
 |none=>.p id 0
 |some (w,n,ex)=>.sl id 0 w n n ex
def idA (fs:Fs0) (a:AV):Option Id:=match fs,a with
 |none,.p id 0=>some id
 |some (w,n,ex),.sl id 0 w' n' lo ex'=>cd (Nat.beq w w') (cd (Nat.beq n n') (cd (Nat.beq n' lo) (cd (cd ex ex' (!ex')) (some id) none) none) none) none
 |_,_=>none
theorem idA_inv {fs:Fs0}{a:AV}{id:Id} (h:idA fs a=some id):a=fstA fs id:=by
 unfold idA at h
 split at h
 ·injection h with h;subst h;rfl
 ·rename_i w n ex id' w' n' lo ex'
  cases h1:Nat.beq w w' with
  |false=>rw[h1] at h;cases h
  |true=>
   cases h2:Nat.beq n n' with
   |false=>rw[h1,h2] at h;cases h
   |true=>
    cases h3:Nat.beq n' lo with
    |false=>rw[h1,h2,h3] at h;cases h
    |true=>
     rw[h1,h2,h3] at h
     obtain rfl:=Nq h1
     obtain rfl:=Nq h2
     obtain rfl:=Nq h3
     cases ex<;>cases ex'<;>first|(injection h with h;subst h;rfl)|cases h
 ·cases h
structure ConM where
 f:Nat
 t:Ty
 el:TypeId
 ps:List Par
 rs:List Par
 F:den t→denL ps→Option (den t×denL rs)
 fs:Fs0
def FreshM (e:Env) (el:TypeId) (t:Ty) (x0:den t):Prop:=e.h=hpH 1 [some (.cs el (tc t x0) false)]∧(∀id,id≠path 0→(e.ρ id).2=1)∧(e.ρ (path 0)).2=0∧e.F.lo=0
def KOkM (P:Program) (G:Gs) (f:Nat) (fs:Fs0) (el:TypeId) (t:Ty) (ps rs:List Par) (x0:den t) (x:denL ps) (x1:den t) (y:denL rs):Prop:=
 ∀e vs,FreshM e el t x0→St e→GRel G e→RelL e (fstA fs (path 0)::encL ps x) vs→
  Does P f vs.toArray e.w (fun cv w'=>∃e',e'.w=w'∧St e'∧Ext e e'∧e'.h.get (path 0)=some (.cs el (tc t x1) false)∧Rel e' (encR rs y) cv)
def ConMOk (P:Program) (G:Gs) (c:ConM):Prop:=wfR c.rs=true∧∀x0 x x1 y,c.F x0 x=some (x1,y)→KOkM P G c.f c.fs c.el c.t c.ps c.rs x0 x x1 y
def finM (c:ConM) (id:Id) (h:H) (o:Option (den c.t×denL c.rs)):R:=match o with
 |some q=>.ok (encR c.rs q.2) (h.put id (.cs c.el (tc c.t q.1) false))
 |none=>.no
def decM (c:ConM) (b:Option Blk):Option (den c.t):=match b with
 |some (.cs el l false)=>cd (Nat.beq el c.el) (match dec H0 c.t l with
  |some (x,[])=>some x
  |_=>none) none
 |_=>none
def callM (c:ConM) (args:List AV) (h:H):R:=match args with
 |a::rest=>match idA c.fs a with
  |some id=>match decM c (h.get id) with
   |some x0=>match decL H0 c.ps rest with
    |some x=>finM c id h (c.F x0 x)
    |none=>.no
   |none=>.no
  |none=>.no
 |_=>.no
def callOfM (M:List ConM) (call:CallF):CallF:=fun f args h=>List.rec (call f args h) (fun c _ ih=>cd (Nat.beq c.f f) (callM c args h) ih) M
theorem cells_relL {e:Env}{c:Array Value}:∀(l:List AV) (o:Nat),(∀j x,l[j]? =some x→one x=true∧∃v,c[o+j]? =some v∧Rel e x v)→∃us:List Value,RelL e l us∧∀j v,us[j]? =some v→c[o+j]? =some v
 |[],o,_=>⟨[],by simp[RelL],fun j v h=>by simp at h⟩
 |x::l,o,h=>by
  obtain⟨_,v,hv,hr⟩:=h 0 x rfl
  obtain⟨us,h1,h2⟩:=cells_relL l (o+1) (fun j y hy=>by
   have:=h (j+1) y (by simpa using hy)
   rw[show o+1+j=o+(j+1) by omega];exact this)
  refine⟨v::us,by simp only[RelL];exact⟨hr,h1⟩,fun j u hu=>?_⟩
  cases j with
  |zero=>simp at hu;subst hu;exact hv
  |succ j=>have:=h2 j u (by simpa using hu);rw[show o+(j+1)=o+1+j by omega];exact this
theorem relL_cells {e:Env}{c:Array Value}:∀(l:List AV) (us:List Value) (o:Nat),RelL e l us→(∀x∈l,one x=true)→(∀j v,us[j]? =some v→c[o+j]? =some v)→∀j x,l[j]? =some x→one x=true∧∃v,c[o+j]? =some v∧Rel e x v
 |[],_,o,_,_,_,j,x,h=>by simp at h
 |y::l,[],o,hr,_,_,j,x,h=>by simp[RelL] at hr
 |y::l,u::us,o,hr,ho,hc,j,x,h=>by
  simp only[RelL] at hr
  cases j with
  |zero=>
   simp at h;subst h
   exact⟨ho y (by simp),u,hc 0 u rfl,hr.1⟩
  |succ j=>
   have:=relL_cells l us (o+1) hr.2 (fun x hx=>ho x (by simp[hx])) (fun j v hv=>by
    have:=hc (j+1) v (by simpa using hv)
    rw[show o+1+j=o+(j+1) by omega];exact this) j x (by simpa using h)
   rw[show o+(j+1)=o+1+j by omega];exact this
theorem blk_typed {e e2:Env}{hd:H}{id id2:Id}{el:TypeId}{l:List AV}{t:Ty}{x:den t} (hs:St e) (hw:e2.w=e.w) (hi:Mle (mm e) (mm e2)) (hsub:∀id b,hd.get id=some b→e.h.get id=some b) (ho:∀id,live hd id→Imm e2 (e.ρ id).1) (hlo:1073741824≤e2.F.B)
 (hb:BlkRel e id (.cs el l false)) (hd':dec hd t l=some (x,[])) (hρ:e2.ρ id2=e.ρ id):BlkRel e2 id2 (.cs el (tc t x) false):=by
 obtain⟨c,fr,h1,h2,h3,h4,h5⟩:=hb
 obtain⟨us,hr,hc⟩:=cells_relL l _ h3
 obtain⟨us',ws,hus,hT,hws⟩:=dec_rel hs hw hi hsub ho hlo t l x [] us hd' hr
 obtain rfl:=relL0 hws
 rw[List.append_nil] at hus
 subst hus
 have hl:(tc t x).length=l.length:=by rw[tc_len,←relT_len t x us hT];exact hr.len
 simp only[BlkRel,hρ,hw]
 exact⟨c,fr,h1,by rw[hl];exact h2,relL_cells _ us _ (relT_relL t x us hT) (tc_one t x) hc,fun _=>h4 rfl,h5⟩
theorem blk_mono {e e2:Env}{id id2:Id}{el:TypeId}{t:Ty}{x:den t} (hw:e2.w=e.w) (hi:Mle (mm e) (mm e2)) (hb:BlkRel e id (.cs el (tc t x) false)) (hρ:e2.ρ id2=e.ρ id):BlkRel e2 id2 (.cs el (tc t x) false):=by
 obtain⟨c,fr,h1,h2,h3,h4,h5⟩:=hb
 obtain⟨us,hr,hc⟩:=cells_relL _ _ h3
 have hT:=relL_relT t x us hr
 have hT2:relT (mm e2) e2.w t x us:=relT_mono (w':=e2.w) hi (fun b o _=>by rw[hw]) _ _ _ hT
 simp only[BlkRel,hρ,hw]
 exact⟨c,fr,h1,h2,relL_cells _ us _ (relT_relL t x us hT2) (tc_one t x) hc,fun _=>h4 rfl,h5⟩
theorem hp1_get (b:Blk) (id:Id):(hpH 1 [some b]).get id=if id=path 0 then some b else none:=by
 have h1:=hpH_get 1 [some b] (unpath id)
 rw[unpath_bij] at h1
 rw[h1]
 by_cases h:id=path 0
 ·rw[if_pos h,h,unpath_path];rfl
 ·rw[if_neg h]
  have:unpath id≠0:=fun h0=>h (by rw[←unpath_bij id,h0])
  obtain⟨k,hk⟩:∃k,unpath id=k+1:=⟨unpath id - 1,om⟩
  rw[hk];simp
theorem put_get (h:H) (id id':Id) (b:Blk):(h.put id b).get id'=if id'=id then some b else h.get id':=by
 show T.get id' (T.set id b h.t)=_
 rw[T.get_set];rfl
section
variable {P:Program}{G:Gs}
theorem callM_ok (hlo:1073741824≤G.B){c:ConM} (hc:ConMOk P G c){args:List AV}{r:AV}{h':H}{e:Env}{vs:List Value} (hr:callM c args e.h=.ok r h') (hs:St e) (hg:GRel G e) (hrel:RelL e args vs):
 Does P c.f vs.toArray e.w (fun v w'=>∃e',e'.w=w'∧e'.h=h'∧St e'∧Ext e e'∧Rel e' r v):=by
 unfold callM at hr
 split at hr
 ·rename_i a0 rest
  split at hr
  ·rename_i id0 hid0
   obtain rfl:=idA_inv hid0
   split at hr
   ·rename_i x0 hx0
    split at hr
    rename_i x hx
    cases hF:c.F x0 x with
    |none=>rw[hF] at hr;cases hr
    |some q=>
     obtain⟨x1,y⟩:=q
     rw[hF] at hr
     injection(show R.ok (encR c.rs y) (e.h.put id0 (.cs c.el (tc c.t x1) false))=.ok r h' from hr) with hr1 hr2
     subst hr1;subst hr2
     obtain⟨l,hl,hdec⟩:∃l,e.h.get id0=some (.cs c.el l false)∧dec H0 c.t l=some (x0,[]):=by
      unfold decM at hx0
      split at hx0
      ·rename_i el l hb
       cases hbe:Nat.beq el c.el with
       |false=>rw[hbe] at hx0;cases hx0
       |true=>
        rw[hbe] at hx0
        obtain rfl:=Nq hbe
        replace hx0:(match dec H0 c.t l with
         |some (x,[])=>some x
         |_=>none)=some x0:=hx0
        split at hx0
        ·rename_i x' hd
         cases hx0
         exact⟨l,hb,hd⟩
        ·cases hx0
      ·cases hx0
     have hlive0:live e.h id0:=⟨_,hl,by simp⟩
     let F0:Fix:=⟨fun b=>e.F.f b∨(Own e b∧b≠(e.ρ id0).1),0,e.F.B⟩
     let e0:Env:=⟨fun id=>if id=path 0 then e.ρ id0 else(0,1),hpH 1 [some (.cs c.el (tc c.t x0) false)],e.w,F0⟩
     have hρ0:e0.ρ (path 0)=e.ρ id0:=by show(if path 0=path 0 then e.ρ id0 else(0,1))=e.ρ id0;rw[if_pos rfl]
     have hb0:=hs.blk id0 _ hl
     have hz:(e.ρ id0).2=0:=by obtain⟨_,_,_,_,_,_,h5⟩:=hb0;exact h5
     have hlive1:∀id,live e0.h id↔id=path 0:=fun id=>by
      constructor
      ·rintro ⟨b,hb,_⟩
       rw[show e0.h.get id=_ from hp1_get _ id] at hb
       by_cases h:id=path 0
       ·exact h
       ·rw[if_neg h] at hb;cases hb
      ·rintro rfl
       exact⟨_,by rw[show e0.h.get (path 0)=_ from hp1_get _ _,if_pos rfl],by simp⟩
     have hown0:∀b,Own e0 b↔b=(e.ρ id0).1:=fun b=>by
      constructor
      ·rintro ⟨id,h1,h2⟩
       rw[(hlive1 id).1 h1,hρ0] at h2;exact h2.symm
      ·rintro rfl;exact⟨path 0,(hlive1 _).2 rfl,by rw[hρ0]⟩
     have hownI:Own e (e.ρ id0).1:=⟨id0,hlive0,rfl⟩
     have hi0:Mle (mm e) (mm e0):=⟨fun b (hb:Imm e b)=>⟨hb.1,fun h=>Or.elim h hb.2.1 (fun h=>hb.2.2 h.1),fun h=>hb.2.2 (by rw[(hown0 b).1 h];exact hownI)⟩,Nr _⟩
     have hB:1073741824≤e0.F.B:=by show 1073741824≤e.F.B;rw[hg.1];exact hlo
     have hblk0:BlkRel e0 (path 0) (.cs c.el (tc c.t x0) false):=
      blk_typed (hd:=H0) hs rfl hi0 (fun id b hb=>by rw[H0_get] at hb;cases hb) (fun id ⟨b,hb,_⟩=>by rw[H0_get] at hb;cases hb) hB hb0 hdec hρ0
     have hs0:St e0:={
      kn:=fun id hk=>by
       by_cases h:id=path 0
       ·exact⟨0,Nat.one_pos,h,fun _=>⟨_,by rw[show e0.h.get id=_ from hp1_get _ id,if_pos h]⟩⟩
       ·have:e0.ρ id=(0,1):=if_neg h
        unfold known at hk;rw[this] at hk;cases hk
      dk:=fun id b hb=>by
       rw[show e0.h.get id=_ from hp1_get _ id] at hb
       by_cases h:id=path 0
       ·subst h;show(e0.ρ (path 0)).2=0;rw[hρ0];exact hz
       ·rw[if_neg h] at hb;cases hb
      lo:=Nz _
      blk:=fun id b hb=>by
       rw[show e0.h.get id=_ from hp1_get _ id] at hb
       by_cases h:id=path 0
       ·rw[if_pos h] at hb;cases hb;subst h;exact hblk0
       ·rw[if_neg h] at hb;cases hb
      inj:=fun id id' h1 h2 _=>by rw[(hlive1 id).1 h1,(hlive1 id').1 h2]
      fr:=fun b hb=>by
       rcases hb with hb|⟨⟨id,h1,h2⟩,hne⟩
       ·exact⟨(hs.fr b hb).1,fun h=>(hs.fr b hb).2 (by rw[(hown0 b).1 h];exact hownI)⟩
       ·exact⟨by show b<e.w.heap.size;rw[←h2];exact hs.lt h1,fun h=>hne ((hown0 b).1 h)⟩}
     have hg0:GRel G e0:=⟨hg.1,fun g q hq=>by
      obtain⟨h1,h2⟩:=hg.2.1 g q hq
      refine⟨?_,h2⟩
      simp only[Rel] at h1⊢
      obtain⟨b,o,us,hv,h3,h4,h5⟩:=h1
      exact⟨b,o,us,hv,hi0.1 b h3,h4,relT_mono hi0 (fun b o _=>rfl) _ _ _ h5⟩,fun g hq=>by
      obtain⟨m,h1⟩:=hg.2.2.1 g hq
      refine⟨m,?_⟩
      simp only[Rel] at h1⊢
      obtain⟨b,o,us,hv,h3,h4,h5⟩:=h1
      exact⟨b,o,us,hv,hi0.1 b h3,h4,relT_mono hi0 (fun b o _=>rfl) _ _ _ h5⟩,fun g hq=>let⟨h1,v,h2,h3⟩:=hg.2.2.2 g hq;⟨by simp only[Rel] at h1⊢;obtain⟨b,o,us,hv,h4,h5,h6⟩:=h1;exact⟨b,o,us,hv,hi0.1 b h4,h5,h6⟩,v,h2,h3⟩⟩
     have hrel0:RelL e0 (fstA c.fs (path 0)::encL c.ps x) vs:=by
      cases vs with
      |nil=>simp[RelL] at hrel
      |cons v vs=>
       simp only[RelL] at hrel⊢
       refine⟨?_,decL_rel (hd:=H0) (e2:=e0) hs rfl hi0 (fun id b hb=>by rw[H0_get] at hb;cases hb) (fun id ⟨b,hb,_⟩=>by rw[H0_get] at hb;cases hb) hB c.ps rest x vs hx hrel.2⟩
       have h1:=hrel.1
       cases hfs:c.fs with
       |none=>rw[hfs] at h1;simp only[fstA,Rel,known,hρ0] at h1⊢;exact h1
       |some q=>obtain⟨w,n,ex⟩:=q;rw[hfs] at h1;simp only[fstA,Rel,known,hρ0] at h1⊢;exact h1
     refine Does.mono (hc.2 x0 x x1 y hF e0 vs ⟨rfl,fun id h=>by show(if id=path 0 then e.ρ id0 else((0,1):Nat×Nat)).2=1;rw[if_neg h],by rw[hρ0];exact hz,rfl⟩ hs0 hg0 hrel0) ?_
     rintro cv w' ⟨e1,hw1,hs1,hx1,hb1,hr1⟩
     have hkn0:known e0 (path 0):=by show(e0.ρ (path 0)).2=0;rw[hρ0];exact hz
     have hρ1:e1.ρ (path 0)=e.ρ id0:=(hx1.ren _ hkn0).trans hρ0
     let e':Env:=⟨e.ρ,e.h.put id0 (.cs c.el (tc c.t x1) false),w',e.F⟩
     have hlive':∀id,live e'.h id↔live e.h id:=fun id=>by
      unfold live
      rw[show e'.h.get id=_ from put_get _ _ _ _]
      by_cases h:id=id0
      ·rw[if_pos h,h]
       exact⟨fun _=>hlive0,fun _=>⟨_,rfl,by simp⟩⟩
      ·rw[if_neg h]
     have hown':∀b,Own e' b↔Own e b:=fun b=>by
      constructor
      ·rintro ⟨id,h1,h2⟩;exact⟨id,(hlive' id).1 h1,h2⟩
      ·rintro ⟨id,h1,h2⟩;exact⟨id,(hlive' id).2 h1,h2⟩
     have hsome:∀id b,e.h.get id=some b→∃b',e'.h.get id=some b':=fun id b hb=>by
      rw[show e'.h.get id=_ from put_get _ _ _ _]
      by_cases h:id=id0
      ·rw[if_pos h];exact⟨_,rfl⟩
      ·rw[if_neg h];exact⟨b,hb⟩
     have hkeep:∀b,b<e.w.heap.size→b≠(e.ρ id0).1→w'.heap[b]? =e.w.heap[b]? :=fun b hb hne=>by
      have:=hx1.keep b hb (fun h=>hne ((hown0 b).1 h))
      rw[hw1] at this;exact this
     have hx':Ext e e':={
      next:=Nr _
      kn:=fun _ h=>h
      ren:=fun _ _=>rfl
      fr:=rfl
      qt:=by have:=hx1.qt;rw[hw1] at this;exact this
      heap:=by have:=hx1.heap;rw[hw1] at this;exact this
      keep:=fun b hb hno=>hkeep b hb (fun h=>hno (by rw[h];exact hownI))
      size:=fun b hb=>by have:=hx1.size b hb;rw[hw1] at this;exact this
      own:=fun b _ h=>(hown' b).1 h
      pres:=fun id b h=>hsome id b h
      newk:=fun _ h=>.inl h}
     have hown1:Own e1 (e.ρ id0).1:=⟨path 0,⟨_,hb1,by simp⟩,by rw[hρ1]⟩
     have hi1:Mle (mm e1) (mm e'):=⟨fun b (hb:Imm e1 b)=>by
      refine⟨by show b<w'.heap.size;rw[←hw1];exact hb.1,fun h=>hb.2.1 (by rw[hx1.fr];exact Or.inl h),fun h=>?_⟩
      have h2:=(hown' b).1 h
      by_cases hbb:b=(e.ρ id0).1
      ·exact hb.2.2 (by rw[hbb];exact hown1)
      ·exact hb.2.1 (by rw[hx1.fr];exact Or.inr ⟨h2,hbb⟩),by show e1.F.B≤e.F.B;rw[hx1.fr];exact Nr _⟩
     have hs':St e':={
      kn:=fun id hk=>by
       obtain⟨k,h1,h2,h3⟩:=hs.kn id hk
       exact⟨k,h1,h2,fun hl=>by obtain⟨b,hb⟩:=h3 hl;exact hsome id b hb⟩
      dk:=fun id b hb=>by
       rw[show e'.h.get id=_ from put_get _ _ _ _] at hb
       by_cases h:id=id0
       ·rw[h];exact hs.dk id0 _ hl
       ·rw[if_neg h] at hb;exact hs.dk id b hb
      lo:=hs.lo
      blk:=fun id b hb=>by
       rw[show e'.h.get id=_ from put_get _ _ _ _] at hb
       by_cases h:id=id0
       ·rw[if_pos h] at hb;cases hb;subst h
        exact blk_mono (e:=e1) (id:=path 0) hw1.symm hi1 (hs1.blk _ _ hb1) (by rw[hρ1])
       ·rw[if_neg h] at hb
        by_cases hd:b=.dead
        ·subst hd;trivial
        ·have hli:live e.h id:=⟨b,hb,hd⟩
         exact BlkRel.ext hx' (hs.dk id b hb) (hkeep _ (hs.lt hli) (fun heq=>h (hs.inj id id0 hli hlive0 heq))) b (hs.blk id b hb)
      inj:=fun id id' h1 h2 he=>hs.inj id id' ((hlive' id).1 h1) ((hlive' id').1 h2) he
      fr:=fun b hb=>⟨Nl (hs.fr b hb).1 hx'.heap,fun h=>(hs.fr b hb).2 ((hown' b).1 h)⟩}
     exact⟨e',rfl,rfl,hs',hx',encR_mono (e:=e1) (e2:=e') hw1.symm hi1 hc.1 hr1⟩
    cases hr
   ·cases hr
  ·cases hr
 ·cases hr
theorem callOfM_ok (hlo:1073741824≤G.B){call:CallF} (hk:CallOK P G call):∀{M:List ConM},(∀c∈M,ConMOk P G c)→CallOK P G (callOfM M call)
 |[],_=>hk
 |c::M,h=>fun f args r h' e vs hr hs hg hrel=>by
  have hr:cd (Nat.beq c.f f) (callM c args e.h) (callOfM M call f args e.h)=.ok r h':=hr
  cases hb:Nat.beq c.f f with
  |true=>
   rw[hb] at hr
   obtain rfl:=Nq hb
   exact callM_ok hlo (h c (by simp)) hr hs hg hrel
  |false=>
   rw[hb] at hr
   exact callOfM_ok hlo hk (M:=M) (fun c hc=>h c (by simp[hc])) f args r h' e vs hr hs hg hrel
end
def cut0 (h:H):H:=hpH h.next (none::List.rec [] (fun _ t _=>t) (heapL h h.next))
theorem cut0_get {h:H}{id:Id}{b:Blk} (hb:(cut0 h).get id=some b):h.get id=some b∧id≠path 0:=by
 have h1:=hpH_get h.next (none::List.rec [] (fun _ t _=>t) (heapL h h.next)) (unpath id)
 rw[unpath_bij] at h1
 have h1:(cut0 h).get id=_:=h1
 rw[hb] at h1
 have htl:∀(l:List (Option Blk)) (k:Nat),(List.rec (motive:=fun _=>List (Option Blk)) [] (fun _ t _=>t) l:List (Option Blk))[k]? =l[k+1]? :=fun l k=>by cases l<;>simp
 cases hu:unpath id with
 |zero=>rw[hu] at h1;simp at h1
 |succ k=>
  rw[hu,List.getElem?_cons_succ,htl,heapL_get] at h1
  by_cases hk:k+1<h.next
  ·rw[if_pos hk] at h1
   refine⟨?_,fun he=>by rw[he,unpath_path] at hu;cases hu⟩
   rw[show id=path (k+1) by rw[←hu,unpath_bij]]
   exact h1.symm
  ·rw[if_neg hk] at h1;simp at h1
def decB (hd:H) (el:TypeId) (t:Ty) (b:Option Blk):Option (den t):=match b with
 |some (.cs el' l false)=>cd (Nat.beq el' el) (match dec hd t l with
  |some (x,[])=>some x
  |_=>none) none
 |_=>none
theorem decB_inv {hd:H}{el:TypeId}{t:Ty}{b:Option Blk}{x:den t} (h:decB hd el t b=some x):∃l,b=some (.cs el l false)∧dec hd t l=some (x,[]):=by
 unfold decB at h
 split at h
 ·rename_i el' l
  cases hbe:Nat.beq el' el with
  |false=>rw[hbe] at h;cases h
  |true=>
   rw[hbe] at h
   obtain rfl:=Nq hbe
   replace h:(match dec hd t l with
    |some (x,[])=>some x
    |_=>none)=some x:=h
   split at h
   ·rename_i x' hd'
    cases h
    exact⟨l,rfl,hd'⟩
   ·cases h
 ·cases h
def endVM (res:List (List Bool×Option (Option Nat))) (el:TypeId) (t:Ty) (rs:List Par) (fr:T AV) (h:H):Option (den t×denL rs):=
 Option.rec none (fun x1=>Option.rec none (fun us=>Option.rec none (fun y=>some (x1,y)) (decL (cut0 h) rs us)) (resOf res fr h)) (decB (cut0 h) el t (h.get (path 0)))
def EndQM (res:List (List Bool×Option (Option Nat))) (el:TypeId) (t:Ty) (rs:List Par) (q:den t×denL rs):Ex→T AV→H→Prop:=
 fun ex fr' h'=>(ex=.normal∨ex=.ret)∧endVM res el t rs fr' h'=some q
section
variable {P:Program}{G:Gs}
theorem fn_introM (hm:P.follows .mixedOrders=true){f:Nat}{fs:Fs0}{fn:Func}{b:Code}{res:List (List Bool×Option (Option Nat))}{el:TypeId}{t:Ty}{ps rs:List Par}{x0:den t}{x:denL ps}{q:den t×denL rs}
 (hf:P.funcs[f]? =some fn) (hname:(fn.name== "runtime.NumGoroutine")=false) (hb:fn.body=some b) (hres:compResL P fn.results.toList=some res) (hle:Nat.ble (ps.length+1) fn.ntmps=true) (hwf:wfR ps=true) (hBlo:1073741824≤G.B)
 (hsat:Bd G.B t x0→BdL G.B ps x→Sat P G fn.ntmps b (argsFrom (fstA fs (path 0)::encL ps x) 0 .e) (hpH 1 [some (.cs el (tc t x0) false)]) (EndQM res el t rs q)):KOkM P G f fs el t ps rs x0 x q.1 q.2:=by
 obtain⟨x1,y⟩:=q
 intro e vs hfr hs hg hrel
 obtain⟨he,hρ,hρ0,hlo⟩:=hfr
 right
 have hname':¬fn.name= "runtime.NumGoroutine" :=by simpa using hname
 refine⟨by simp[callFunc,hf,hname',hb],?_⟩
 have hvl:=hrel.len
 rw[Lcz,encL_length] at hvl
 have hle:=Nb hle
 have hget:∀id,e.h.get id=if id=path 0 then some (.cs el (tc t x0) false) else none:=fun id=>by rw[he];exact hp1_get _ id
 have hbl:=hs.blk (path 0) (.cs el (tc t x0) false) (by rw[hget,if_pos rfl])
 have hbd0:Bd e.F.B t x0:=by
  obtain⟨c,fr,h1,h2,h3,h4⟩:=hbl
  obtain⟨us,hr,_⟩:=cells_relL _ _ h3
  exact relT_bd t x0 us (relL_relT t x0 us hr)
 have hbdL:BdL e.F.B ps x:=by
  cases vs with
  |nil=>simp[RelL] at hrel
  |cons v vs=>simp only[RelL] at hrel;exact relL_bdL hwf hrel.2
 refine calls_of_wp hf hb (hsat (by rw[←hg.1];exact hbd0) (by rw[←hg.1];exact hbdL) _ e _ he hs (args_rel hrel _) hg (by simp;omega) (fun ex fr' h' hq=>?_))
 obtain⟨hex,hend⟩:=hq
 intro a' e' he' hs' hx' hf' _ hd'
 subst he'
 have hfin:a'.defers=[]∧∃v,(results fn a'.tmps).run P e'.w=.ok v e'.w∧∃v',Ending.returned v=.returned v'∧∃e2,e2.w=e'.w∧St e2∧Ext e e2∧e2.h.get (path 0)=some (.cs el (tc t x1) false)∧Rel e2 (encR rs y) v':=by
  unfold endVM at hend
  cases hdb:decB (cut0 e'.h) el t (e'.h.get (path 0)) with
  |none=>rw[hdb] at hend;cases hend
  |some x1'=>
  rw[hdb] at hend
  cases hro:resOf res fr' e'.h with
  |none=>rw[hro] at hend;cases hend
  |some us=>
  rw[hro] at hend
  cases hdec:decL (cut0 e'.h) rs us with
  |none=>
   replace hend:(Option.rec none (fun y=>some (x1',y)) (decL (cut0 e'.h) rs us):Option (den t×denL rs))=some (x1,y):=hend
   rw[hdec] at hend;cases hend
  |some y'=>
  replace hend:(Option.rec none (fun y=>some (x1',y)) (decL (cut0 e'.h) rs us):Option (den t×denL rs))=some (x1,y):=hend
  rw[hdec] at hend
  injection hend with hend
  injection hend with hx1 hy
  subst hx1;subst hy
  obtain⟨l,hl,hld⟩:=decB_inv hdb
  obtain⟨h2,cv,h3,h4⟩:=results_sound (fn:=fn) (r:=tupA us) (h':=e'.h) hs' hf' hres hro (by
   match us with
   |[_]=>rfl
   |[]=>rfl
   |_::_::_=>rfl)
  let e2:Env:=⟨fun id=>if id=path 0 then e'.ρ (path 0) else(0,1),⟨e'.h.next,T.set (path 0) (.cs el (tc t x1') false) .e⟩,e'.w,e'.F⟩
  have hg2:∀id,e2.h.get id=if id=path 0 then some (.cs el (tc t x1') false) else none:=fun id=>by
   show T.get id (T.set (path 0) _ .e)=_
   rw[T.get_set,T.get_e]
  have hρ2:e2.ρ (path 0)=e'.ρ (path 0):=by show(if path 0=path 0 then e'.ρ (path 0) else(0,1))=_;rw[if_pos rfl]
  have hρ3:∀id,id≠path 0→e2.ρ id=(0,1):=fun id h=>by show(if id=path 0 then e'.ρ (path 0) else(0,1))=_;rw[if_neg h]
  have hk0:known e (path 0):=hρ0
  have hk2:known e2 (path 0):=by unfold known;rw[hρ2];exact hx'.kn _ hk0
  have hk2':∀id,known e2 id→id=path 0:=fun id h=>by
   by_cases hh:id=path 0
   ·exact hh
   ·unfold known at h;rw[hρ3 id hh] at h;cases h
  have hke:∀id,known e id→id=path 0:=fun id h=>by
   by_cases hh:id=path 0
   ·exact hh
   ·unfold known at h;rw[hρ id hh] at h;cases h
  have hlv2:∀id,live e2.h id↔id=path 0:=fun id=>by
   constructor
   ·rintro ⟨b,hb,_⟩
    rw[hg2] at hb
    by_cases h:id=path 0
    ·exact h
    ·rw[if_neg h] at hb;cases hb
   ·rintro rfl;exact⟨_,by rw[hg2,if_pos rfl],by simp⟩
  have hlive0:live e'.h (path 0):=⟨_,hl,by simp⟩
  have hown:∀b,Own e2 b→b=(e'.ρ (path 0)).1:=fun b ⟨id,h1,h2⟩=>by rw[(hlv2 id).1 h1,hρ2] at h2;exact h2.symm
  have hownI:Own e' (e'.ρ (path 0)).1:=⟨path 0,hlive0,rfl⟩
  have hi2:Mle (mm e') (mm e2):=⟨fun b (hb:Imm e' b)=>⟨hb.1,hb.2.1,fun h=>hb.2.2 (by rw[hown b h];exact hownI)⟩,Nr _⟩
  have hBe:1073741824≤e2.F.B:=by show 1073741824≤e'.F.B;rw[hx'.fr,hg.1];exact hBlo
  have hsub:∀id b,(cut0 e'.h).get id=some b→e'.h.get id=some b:=fun id b hb=>(cut0_get hb).1
  have hoo:∀id,live (cut0 e'.h) id→Imm e2 (e'.ρ id).1:=fun id ⟨b,hb,hd⟩=>by
   obtain⟨g1,g2⟩:=cut0_get hb
   have hli:live e'.h id:=⟨b,g1,hd⟩
   refine⟨hs'.lt hli,fun h=>(hs'.fr _ h).2 ⟨id,hli,rfl⟩,fun h=>g2 (hs'.inj id (path 0) hli hlive0 (hown _ h))⟩
  have hblk2:BlkRel e2 (path 0) (.cs el (tc t x1') false):=blk_typed (hd:=cut0 e'.h) hs' rfl hi2 hsub hoo hBe (hs'.blk _ _ hl) hld hρ2
  have hnx:0<e'.h.next:=by
   have:=hx'.next
   rw[he] at this
   exact this
  have hx2:Ext e e2:={
   next:=hx'.next
   kn:=fun id h=>by rw[hke id h];exact hk2
   ren:=fun id h=>by rw[hke id h,hρ2];exact hx'.ren _ hk0
   fr:=hx'.fr
   heap:=hx'.heap
   keep:=hx'.keep
   size:=hx'.size
   own:=fun b _ h=>by
    refine⟨path 0,⟨_,by rw[hget,if_pos rfl],by simp⟩,?_⟩
    rw[hown b h,hx'.ren _ hk0]
   pres:=fun id b h=>by
    rw[hget] at h
    by_cases hh:id=path 0
    ·exact⟨_,by rw[hg2,if_pos hh]⟩
    ·rw[if_neg hh] at h;cases h
   newk:=fun id h=>.inl (by rw[hk2' id h];exact hk0)
   qt:=hx'.qt}
  have hs2:St e2:={
   kn:=fun id h=>⟨0,hnx,hk2' id h,fun _=>⟨_,by rw[hg2,if_pos (hk2' id h)]⟩⟩
   dk:=fun id b hb=>by
    rw[hg2] at hb
    by_cases hh:id=path 0
    ·rw[hh];exact hk2
    ·rw[if_neg hh] at hb;cases hb
   lo:=hs'.lo
   blk:=fun id b hb=>by
    rw[hg2] at hb
    by_cases hh:id=path 0
    ·rw[if_pos hh] at hb;cases hb;rw[hh];exact hblk2
    ·rw[if_neg hh] at hb;cases hb
   inj:=fun id id' h1 h2 _=>by rw[(hlv2 id).1 h1,(hlv2 id').1 h2]
   fr:=fun b hb=>⟨(hs'.fr b hb).1,fun h=>(hs'.fr b hb).2 (by rw[hown b h];exact hownI)⟩}
  refine⟨hd',cv,h3,cv,rfl,e2,rfl,hs2,hx2,by rw[hg2,if_pos rfl],?_⟩
  refine tupA_conv (decL_length hdec) (fun vs hr=>?_) h4
  exact decL_rel (e2:=e2) hs' rfl hi2 hsub hoo hBe rs us y' vs hdec hr
 rcases hex with rfl|rfl
 ·exact hfin
 ·exact hfin
end
variable {Bn:Nat}
abbrev OklM (B:Nat) (M:List ConM):Prop:=∀c∈M,ConMOk PP (GG B) c
theorem okM0:OklM Bn []:=fun c h=>by cases h
theorem okMC {c:ConM}{L:List ConM} (h:ConMOk PP (GG Bn) c) (hl:OklM Bn L):OklM Bn (c::L):=fun d hd=>by
 rcases List.mem_cons.1 hd with rfl|hd
 ·exact h
 ·exact hl d hd
section
variable {nt rid:Nat}{ops:Array Oper}{fr:T AV}{h:H}{Q:Ex→T AV→H→Prop}{x y:Code}
end
def flatT (y:Ty) (xs:List (den y)):List AV:=(xs.map (tc y)).flatten
def apv (iv:AV) (p:Id) (y:Ty) (xs:List (den y)):AV:=List.rec iv (fun _ t _=>.sl p 0 (wd y) (Nat.succ (U t)) (Nat.succ (U t)) false) xs
def apb (el:TypeId) (y:Ty) (xs:List (den y)):Blk:=List.rec .dead (fun x t _=>.cs el (flatT y (x::t)) false) xs
def isIv (iv:AV):Prop:=iv=.em∨iv=.v (.slice none 0 0)
def GEnd (n:Nat) (gs:List Bool) (iv:AV) (el:TypeId) (y:Ty) (xs:List (den y)) (fr:T AV) (h:H):Prop:=
 (xs=[]∧getV fr gs=iv)∨(xs≠[]∧∃q lo ex,getV fr gs=.sl q 0 (wd y) xs.length lo ex∧n≤unpath q∧h.get q=some (.cs el (flatT y xs) false))
theorem flatT_ok (n:Nat) (y:Ty):∀(xs:List (den y)),avOkL n (flatT y xs)
 |[]=>by show avOkL n [];simp only[avOkL]
 |x::xs=>by
  show avOkL n (tc y x++flatT y xs)
  exact avOkL_app (tc_ok n y x) (flatT_ok n y xs)
section
variable {e e3:Env}{n:Nat}
mutual
theorem Rel.conv (hρ:∀id,unpath id<n→e3.ρ id=e.ρ id) (hi:∀b,Imm e b→Imm e3 b) (hw:e3.w=e.w) (hB:e3.F.B=e.F.B):∀(x:AV) (v:Value),avOk n x→Rel e x v→Rel e3 x v
 |.i ..,_,_,hr=>by simpa only[Rel] using hr
 |.b ..,_,_,hr=>by simpa only[Rel] using hr
 |.s ..,_,_,hr=>by simpa only[Rel] using hr
 |.v ..,_,_,hr=>by simpa only[Rel] using hr
 |.p id off,v,ha,hr=>by
  simp only[Rel] at hr⊢
  have hρ:=hρ id (by simpa only[avOk] using ha)
  simp only[known,hρ];exact hr
 |.sl id off sz k lo ex,v,ha,hr=>by
  simp only[Rel] at hr⊢
  have hρ:=hρ id (by simpa only[avOk] using ha)
  simp only[known,hρ,hw];exact hr
 |.em,_,_,hr=>by simpa only[Rel] using hr
 |.isl t xs,v,_,hr=>by
  simp only[Rel] at hr⊢
  exact relT_mono (m:=mm e) (m':=mm e3) ⟨hi,by show e.F.B≤e3.F.B;rw[hB];exact Nr _⟩ (fun b o _=>by rw[hw]) _ _ _ hr
 |.ip t x off,v,_,hr=>by
  simp only[Rel] at hr⊢
  obtain⟨b,o,us,hv,hm,hc,hr⟩:=hr
  exact⟨b,o,us,hv,hi b hm,fun j v hv=>by rw[hw];exact hc j v hv,relT_mono (m:=mm e) (m':=mm e3) ⟨hi,by show e.F.B≤e3.F.B;rw[hB];exact Nr _⟩ (fun b o _=>by rw[hw]) _ _ _ hr⟩
 |.f fn a b,v,ha,hr=>by
  simp only[Rel] at hr⊢
  simp only[avOk] at ha
  obtain⟨vs,ws,hv,h1,h2⟩:=hr
  exact⟨vs,ws,hv,RelL.conv hρ hi hw hB _ _ ha.1 h1,RelL.conv hρ hi hw hB _ _ ha.2 h2⟩
 |.ifc t x,v,ha,hr=>by
  simp only[Rel] at hr⊢
  simp only[avOk] at ha
  obtain⟨u,hv,hu⟩:=hr
  exact⟨u,hv,Rel.conv hρ hi hw hB _ _ ha hu⟩
 |.ag cs,v,ha,hr=>by
  simp only[Rel] at hr⊢
  simp only[avOk] at ha
  obtain⟨h1,vs,hv,h2⟩:=hr
  exact⟨h1,vs,hv,RelL.conv hρ hi hw hB _ _ ha h2⟩
 |.tu cs,v,ha,hr=>by
  simp only[Rel] at hr⊢
  simp only[avOk] at ha
  obtain⟨vs,hv,h2⟩:=hr
  exact⟨vs,hv,RelL.conv hρ hi hw hB _ _ ha h2⟩
 |.m id,v,ha,hr=>by
  simp only[Rel] at hr⊢
  have hρ:=hρ id (by simpa only[avOk] using ha)
  simp only[known,hρ];exact hr
 |.j,_,_,_=>by simp[Rel]
theorem RelL.conv (hρ:∀id,unpath id<n→e3.ρ id=e.ρ id) (hi:∀b,Imm e b→Imm e3 b) (hw:e3.w=e.w) (hB:e3.F.B=e.F.B):∀(xs:List AV) (vs:List Value),avOkL n xs→RelL e xs vs→RelL e3 xs vs
 |[],[],_,_=>by simp[RelL]
 |[],_::_,_,hr=>by simp[RelL] at hr
 |_::_,[],_,hr=>by simp[RelL] at hr
 |x::xs,v::vs,ha,hr=>by
  simp only[RelL] at hr⊢
  simp only[avOkL] at ha
  exact⟨Rel.conv hρ hi hw hB _ _ ha.1 hr.1,RelL.conv hρ hi hw hB _ _ ha.2 hr.2⟩
end
theorem EntRel.conv (hρ:∀id,unpath id<n→e3.ρ id=e.ρ id) (hi:∀b,Imm e b→Imm e3 b) (hw:e3.w=e.w) (hB:e3.F.B=e.F.B):∀(es:List (AV×AV)) (ms:List MapEntry),(∀q∈es,avOk n q.1∧avOk n q.2)→EntRel e es ms→EntRel e3 es ms
 |[],[],_,_=>trivial
 |[],_::_,_,hr=>hr.elim
 |(_,_)::_,[],_,hr=>hr.elim
 |(k,v)::es,m::ms,ha,hr=>⟨Rel.conv hρ hi hw hB _ _ (ha (k,v) (by simp)).1 hr.1,Rel.conv hρ hi hw hB _ _ (ha (k,v) (by simp)).2 hr.2.1,EntRel.conv hρ hi hw hB es ms (fun q hq=>ha q (by simp[hq])) hr.2.2⟩
theorem BlkRel.conv (hρ:∀id,unpath id<n→e3.ρ id=e.ρ id) (hi:∀b,Imm e b→Imm e3 b) (hw:e3.w=e.w) (hB:e3.F.B=e.F.B){id id3:Id} (hid:e3.ρ id3=e.ρ id):∀(b:Blk),blkOk n (some b)→BlkRel e id b→BlkRel e3 id3 b
 |.cs el l fz,hb,h=>by
  obtain⟨c,fr,g1,g2,g3,g4⟩:=h
  simp only[BlkRel,hid,hw]
  refine⟨c,fr,g1,g2,fun j x hx=>?_,g4⟩
  obtain⟨ho,v,hv,hr⟩:=g3 j x hx
  exact⟨ho,v,hv,Rel.conv hρ hi hw hB _ _ (avOkL_mem hb x (List.mem_of_getElem? hx)) hr⟩
 |.mp es,hb,h=>by
  obtain⟨ms,clock,g1,g2⟩:=h
  simp only[BlkRel,hid,hw]
  exact⟨ms,clock,g1,EntRel.conv hρ hi hw hB _ _ hb g2⟩
 |.it s pos,_,h=>by simp only[BlkRel,hid,hw] at h⊢;exact h
 |.dead,_,_=>trivial
end
theorem LOk_get {n:Nat}:∀(L:List (List Bool×AV)),LOk n L→∀p,avOk n (getV (mkFr L) p)
 |[],_,p=>by show avOk n (getV (.e:T AV) p);rw[getV_e];simp[avOk]
 |q::L,hL,p=>by
  show avOk n (getV (T.set q.1 q.2 (mkFr L)) p)
  rw[getV_set]
  by_cases hp:p=q.1
  ·rw[if_pos hp];exact hL.1
  ·rw[if_neg hp];exact LOk_get L hL.2 p
theorem snoc_get (n:Nat) (bs:List (Option Blk)) (hl:bs.length=n) (b:Blk) (id:Id):(hpH (n+1) (bs++[some b])).get id=if unpath id<n then(bs[unpath id]?).join else if id=path n then some b else none:=by
 have h1:=hpH_get (n+1) (bs++[some b]) (unpath id)
 rw[unpath_bij] at h1
 rw[h1]
 by_cases h:unpath id<n
 ·rw[if_pos h,List.getElem?_append_left om]
 ·rw[if_neg h,List.getElem?_append_right om]
  by_cases h2:id=path n
  ·rw[if_pos h2,h2,unpath_path,hl,Nat.sub_self];rfl
  ·rw[if_neg h2]
   have:unpath id≠n:=fun h0=>h2 (by rw[←h0,unpath_bij])
   obtain⟨k,hk⟩:∃k,unpath id - bs.length=k+1:=⟨unpath id - bs.length - 1,om⟩
   rw[hk];simp
theorem regrow {e0 e2:Env}{fr2:T AV}{tmps:Array Value}{n:Nat}{gs:List Bool}{iv:AV}{el:TypeId}{y:Ty}{xs:List (den y)}{L:List (List Bool×AV)}{B:List (Option Blk)}
 (hs0:St e0) (hs2:St e2) (hx:Ext e0 e2) (hn:e0.h.next=n) (hiv:isIv iv) (hf:FrRel e2 fr2 tmps) (hL:Holds fr2 L) (hLo:LOk n L) (hB:heapL e2.h n=B) (hBo:blksOk n B) (hg:GEnd n gs iv el y xs fr2 e2.h):
 ∃e3:Env,e3.w=e2.w∧e3.h=hpH (n+1) (B++[some (apb el y xs)])∧St e3∧Ext e0 e3∧FrRel e3 (mkFr ((gs,apv iv (path n) y xs)::L)) tmps:=by
 have hBl:B.length=n:=by
  rw[←hB]
  have:∀n k,(Nat.rec (motive:=fun _=>Nat→List (Option Blk)) (fun _=>[]) (fun _ ih k=>e2.h.get (path k)::ih (Nat.succ k)) n k:List (Option Blk)).length=n:=by
   intro n
   induction n with
   |zero=>intro k;rfl
   |succ n ih=>intro k;simp only[Lcz,ih]
  exact this n 0
 have hold:∀id,unpath id<n→(B[unpath id]?).join=e2.h.get id:=fun id h=>by
  rw[←hB,heapL_get,if_pos h,unpath_bij];rfl
 obtain⟨r,hr2,hcase⟩:∃r:Nat×Nat,r.2=0∧((xs=[]∧getV fr2 gs=iv)∨(xs≠[]∧∃q lo ex,getV fr2 gs=.sl q 0 (wd y) xs.length lo ex∧n≤unpath q∧e2.h.get q=some (.cs el (flatT y xs) false)∧r=e2.ρ q)):=by
  rcases hg with ⟨h1,h2⟩|⟨h1,q,lo,ex,h2,h3,h4⟩
  ·exact⟨(0,0),rfl,.inl ⟨h1,h2⟩⟩
  ·exact⟨e2.ρ q,hs2.dk q _ h4,.inr ⟨h1,q,lo,ex,h2,h3,h4,rfl⟩⟩
 let e3:Env:=⟨fun id=>if unpath id<n then e2.ρ id else if id=path n then r else(0,1),hpH (n+1) (B++[some (apb el y xs)]),e2.w,e2.F⟩
 have hget:∀id,e3.h.get id=if unpath id<n then e2.h.get id else if id=path n then some (apb el y xs) else none:=fun id=>by
  rw[show e3.h.get id=_ from snoc_get n B hBl _ id]
  by_cases h:unpath id<n
  ·rw[if_pos h,if_pos h,hold id h]
  ·rw[if_neg h,if_neg h]
 have hlow:∀id,unpath id<n→e3.ρ id=e2.ρ id:=fun id h=>if_pos h
 have hnot:¬unpath (path n)<n:=by rw[unpath_path];omega
 have htop:e3.ρ (path n)=r:=by
  show(if unpath (path n)<n then e2.ρ (path n) else if path n=path n then r else(0,1))=r
  rw[if_neg hnot,if_pos rfl]
 have hoth:∀id,¬unpath id<n→id≠path n→e3.ρ id=(0,1):=fun id h1 h2=>by
  show(if unpath id<n then e2.ρ id else if id=path n then r else(0,1))=_
  rw[if_neg h1,if_neg h2]
 have hgetlow:∀id,unpath id<n→e3.h.get id=e2.h.get id:=fun id h=>by rw[hget,if_pos h]
 have hgettop:e3.h.get (path n)=some (apb el y xs):=by rw[hget,if_neg hnot,if_pos rfl]
 have hlive:∀id,live e3.h id→(unpath id<n∧live e2.h id)∨(id=path n∧∃q lo ex,getV fr2 gs=.sl q 0 (wd y) xs.length lo ex∧n≤unpath q∧e2.h.get q=some (.cs el (flatT y xs) false)∧r=e2.ρ q):=fun id ⟨b,hb,hd⟩=>by
  by_cases h:unpath id<n
  ·exact .inl ⟨h,b,by rw[←hgetlow id h];exact hb,hd⟩
  ·rw[hget,if_neg h] at hb
   by_cases h2:id=path n
   ·rw[if_pos h2] at hb
    rcases hcase with ⟨h3,_⟩|⟨_,h4⟩
    ·subst h3;injection hb with hb;exact absurd hb.symm hd
    ·exact .inr ⟨h2,h4⟩
   ·rw[if_neg h2] at hb;cases hb
 have hown:∀b,Own e3 b→Own e2 b:=fun b ⟨id,h1,h2⟩=>by
  rcases hlive id h1 with ⟨h3,h4⟩|⟨h3,q,lo,ex,_,_,h4,h5⟩
  ·exact⟨id,h4,by rw[←hlow id h3];exact h2⟩
  ·exact⟨q,⟨_,h4,by simp⟩,by rw[←h5,←htop,←h3];exact h2⟩
 have himm:∀b,Imm e2 b→Imm e3 b:=fun b hb=>⟨hb.1,hb.2.1,fun h=>hb.2.2 (hown b h)⟩
 have hkn:∀id,known e0 id→unpath id<n:=fun id hk=>by
  obtain⟨k,h1,h2,_⟩:=hs0.kn id hk
  rw[h2,unpath_path];omega
 have hx3:Ext e0 e3:={
  next:=by show e0.h.next≤n+1;omega
  kn:=fun id hk=>by unfold known;rw[hlow id (hkn id hk)];exact hx.kn id hk
  ren:=fun id hk=>by rw[hlow id (hkn id hk)];exact hx.ren id hk
  fr:=hx.fr
  heap:=hx.heap
  keep:=hx.keep
  size:=hx.size
  own:=fun b hb ho=>hx.own b hb (hown b ho)
  pres:=fun id b hb=>by
   obtain⟨b',hb'⟩:=hx.pres id b hb
   exact⟨b',by rw[hgetlow id (hkn id (hs0.dk id b hb))];exact hb'⟩
  newk:=fun id hk=>by
   by_cases h:unpath id<n
   ·have hk':known e2 id:=by unfold known at hk;rw[hlow id h] at hk;exact hk
    rcases hx.newk id hk' with h1|⟨b,hb⟩
    ·exact .inl h1
    ·exact .inr ⟨b,by rw[hgetlow id h];exact hb⟩
   ·by_cases h2:id=path n
    ·exact .inr ⟨_,by rw[h2];exact hgettop⟩
    ·unfold known at hk;rw[hoth id h h2] at hk;cases hk
  qt:=hx.qt}
 have hs3:St e3:={
  kn:=fun id hk=>by
   by_cases h:unpath id<n
   ·have hk':known e2 id:=by unfold known at hk;rw[hlow id h] at hk;exact hk
    obtain⟨k,h1,h2,h3⟩:=hs2.kn id hk'
    refine⟨k,by show k<n+1;rw[h2,unpath_path] at h;omega,h2,fun hl=>?_⟩
    obtain⟨b,hb⟩:=h3 hl
    exact⟨b,by rw[hgetlow id h];exact hb⟩
   ·by_cases h2:id=path n
    ·exact⟨n,Nat.lt_succ_self n,h2,fun _=>⟨_,by rw[h2];exact hgettop⟩⟩
    ·unfold known at hk;rw[hoth id h h2] at hk;cases hk
  dk:=fun id b hb=>by
   by_cases h:unpath id<n
   ·rw[hgetlow id h] at hb
    unfold known;rw[hlow id h];exact hs2.dk id b hb
   ·rw[hget,if_neg h] at hb
    by_cases h2:id=path n
    ·unfold known;rw[h2,htop];exact hr2
    ·rw[if_neg h2] at hb;cases hb
  lo:=by
   show e2.F.lo≤n+1
   rw[hx.fr]
   have:=hs0.lo
   omega
  blk:=fun id b hb=>by
   by_cases h:unpath id<n
   ·rw[hgetlow id h] at hb
    refine BlkRel.conv (n:=n) hlow himm rfl rfl (hlow id h) b ?_ (hs2.blk id b hb)
    exact blksOk_get hBo (unpath id) b (by rw[hold id h];exact hb)
   ·rw[hget,if_neg h] at hb
    by_cases h2:id=path n
    ·rw[if_pos h2] at hb
     injection hb with hb;subst hb;subst h2
     rcases hcase with ⟨h3,_⟩|⟨h3,q,lo,ex,_,_,h4,h5⟩
     ·subst h3;trivial
     ·obtain⟨x,t,rfl⟩:∃x t,xs=x::t:=by
       cases xs with
       |nil=>exact absurd rfl h3
       |cons x t=>exact⟨x,t,rfl⟩
      exact BlkRel.conv (n:=n) hlow himm rfl rfl (by rw[htop,h5]) _ (flatT_ok n y (x::t)) (hs2.blk q _ h4)
    ·rw[if_neg h2] at hb;cases hb
  inj:=fun id id' h1 h2 he=>by
   rcases hlive id h1 with ⟨h3,h4⟩|⟨h3,q,lo,ex,_,hq,h4,h5⟩
   ·rcases hlive id' h2 with ⟨h6,h7⟩|⟨h6,q',lo',ex',_,hq',h7,h8⟩
    ·rw[hlow id h3,hlow id' h6] at he;exact hs2.inj id id' h4 h7 he
    ·rw[hlow id h3,h6,htop,h8] at he
     have:=hs2.inj id q' h4 ⟨_,h7,by simp⟩ he
     rw[this] at h3;omega
   ·rcases hlive id' h2 with ⟨h6,h7⟩|⟨h6,_⟩
    ·rw[hlow id' h6,h3,htop,h5] at he
     have:=hs2.inj q id' ⟨_,h4,by simp⟩ h7 he
     rw[←this] at h6;omega
    ·rw[h3,h6]
  fr:=fun b hb=>⟨(hs2.fr b hb).1,fun ho=>(hs2.fr b hb).2 (hown b ho)⟩}
 refine⟨e3,rfl,rfl,hs3,hx3,?_⟩
 intro k
 show Rel e3 (getV (T.set gs (apv iv (path n) y xs) (mkFr L)) (path k)) _
 rw[getV_set]
 by_cases hk:path k=gs
 ·rw[if_pos hk]
  have h0:=hf k
  rw[hk] at h0
  rcases hcase with ⟨h3,h4⟩|⟨h3,q,lo,ex,h4,hq,h5,h6⟩
  ·subst h3
   rw[h4] at h0
   show Rel e3 iv _
   rcases hiv with rfl|rfl
   ·simp only[Rel] at h0⊢;exact h0
   ·simp only[Rel] at h0⊢;exact h0
  ·obtain⟨x,t,rfl⟩:∃x t,xs=x::t:=by
    cases xs with
    |nil=>exact absurd rfl h3
    |cons x t=>exact⟨x,t,rfl⟩
   rw[h4] at h0
   show Rel e3 (.sl (path n) 0 (wd y) (Nat.succ t.length) (Nat.succ t.length) false) _
   simp only[Rel] at h0⊢
   obtain⟨_,a,cap,hv,g1,g2,_,g4⟩:=h0
   refine⟨by unfold known;rw[htop];exact hr2,a,cap,hv,Nr _,Nt g1 g2,fun h=>Bool.noConfusion h,?_⟩
   rw[htop,h6];exact g4
 ·rw[if_neg hk]
  exact Rel.conv (n:=n) hlow himm rfl rfl _ _ (LOk_get L hLo _) (mkFr_rel hf hL k)
section
variable {P:Program}{G:Gs}{nt:Nat}{fr:T AV}{h:H}{Q:Ex→T AV→H→Prop}
theorem Sat.loopG {b:Code}{α:Type} (n:Nat) (gs:List Bool) (iv:AV) (hiv:isIv iv) (el:TypeId) (y:Ty) (X:α→List (den y)) (L:α→List (List Bool×AV)) (B:α→List (Option Blk)) (m:α→Nat) (I:α→Prop)
 (step:∀a,I a→Sat P G nt b (mkFr ((gs,apv iv (path n) y (X a))::L a)) (hpH (n+1) (B a++[some (apb el y (X a))])) (thenQ (fun fr' h'=>∃a',I a'∧m a'<m a∧Holds fr' (L a')∧LOk n (L a')∧heapL h' n=B a'∧blksOk n (B a')∧GEnd n gs iv el y (X a') fr' h') Q))
 (a0:α) (hI:I a0) (hm:m a0<4611686018427387904) (hl:Holds fr (L a0)) (hlo:LOk n (L a0)) (hn:h.next=n) (hh:heapL h n=B a0) (hbo:blksOk n (B a0)) (hg0:X a0=[]) (hv0:getV fr gs=iv):Sat P G nt (.loop b) fr h Q:=by
 intro K e a he hs hf hg hsz hp
 subst he
 refine wp_loop_rounds 4611686018427387904 ?_
 have key:∀(r:Nat) (s:α),m s<r→I s→∀(e1:Env) (a1:Act),e1.h=hpH (n+1) (B s++[some (apb el y (X s))])→St e1→Ext e e1→FrRel e1 (mkFr ((gs,apv iv (path n) y (X s))::L s)) a1.tmps→a1.tmps.size=nt→a1.defers=a.defers→
  Code.rounds P b K r a1 e1.w:=by
  intro r
  induction r with
  |zero=>intro s hlt;omega
  |succ r ih=>
   intro s hlt hIs e1 a1 he1 hs1 hx1 hf1 hsz1 hd1
   rw[rounds_succ]
   refine step s hIs _ e1 a1 he1 hs1 hf1 (hg.ext hx1) hsz1 (fun ex fr2 h2 hq=>?_)
   intro a2 e2 he2 hs2 hx2 hf2 hsz2 hd2
   cases ex with
   |normal=>
    obtain⟨s',hI',hlt',hl',hok,hh',hb',hge⟩:=hq
    subst he2
    obtain⟨e3,g1,g2,g3,g4,g5⟩:=regrow hs hs2 (hx1.trans hx2) hn hiv hf2 hl' hok hh' hb' hge
    have:=ih s' om hI' e3 a2 g2 g3 g4 g5 hsz2 (hd2.trans hd1)
    rw[g1] at this;exact this
   |exit id=>exact((hp (.exit id) fr2 h2 hq).ext hx1 hd1) a2 e2 he2 hs2 hx2 hf2 hsz2 hd2
   |ret=>exact((hp .ret fr2 h2 hq).ext hx1 hd1) a2 e2 he2 hs2 hx2 hf2 hsz2 hd2
 obtain⟨e3,g1,g2,g3,g4,g5⟩:=regrow hs hs (Ext.refl e) hn hiv hf hl hlo hh hbo (xs:=X a0) (el:=el) (y:=y) (gs:=gs) (.inl ⟨hg0,hv0⟩)
 have:=key _ a0 hm hI e3 a g2 g3 g4 g5 hsz rfl
 rw[g1] at this;exact this
end
end Go.Ev
end
noncomputable section
namespace Go.Ev
mutual
def AV.ren (f:Id→Id):AV→AV
 |.p id o=>.p (f id) o
 |.sl id o z w0 w1 w2=>.sl (f id) o z w0 w1 w2
 |.m id=>.m (f id)
 |.f w0 w1 w2=>.f w0 (AV.renL f w1) (AV.renL f w2)
 |.ifc w0 w1=>.ifc w0 (AV.ren f w1)
 |.ag w0=>.ag (AV.renL f w0)
 |.tu w0=>.tu (AV.renL f w0)
 |.i w0 w1=>.i w0 w1
 |.b w0=>.b w0
 |.s w0 w1=>.s w0 w1
 |.v w0=>.v w0
 |.em=>.em
 |.isl w0 w1=>.isl w0 w1
 |.ip w0 w1 w2=>.ip w0 w1 w2
 |.j=>.j
def AV.renL (f:Id→Id):List AV→List AV
 |[]=>[]
 |w0::w1=>AV.ren f w0::AV.renL f w1
end
def renE (f:Id→Id):List (AV×AV)→List (AV×AV)
 |[]=>[]
 |q::r=>(AV.ren f q.1,AV.ren f q.2)::renE f r
def Blk.ren (f:Id→Id):Blk→Blk
 |.cs el l fz=>.cs el (AV.renL f l) fz
 |.mp es=>.mp (renE f es)
 |.it s p=>.it s p
 |.dead=>.dead
theorem renL_get {f:Id→Id}:∀(l:List AV) (j:Nat),(AV.renL f l)[j]? =(l[j]?).map (AV.ren f)
 |[],j=>by simp[AV.renL]
 |x::l,0=>by simp[AV.renL]
 |x::l,j+1=>by
  simp only[AV.renL,List.getElem?_cons_succ]
  exact renL_get l j
theorem renL_len {f:Id→Id}:∀(l:List AV),(AV.renL f l).length=l.length
 |[]=>by simp[AV.renL]
 |x::l=>by simp only[AV.renL,Lcz,renL_len l]
theorem ren_one {f:Id→Id} (x:AV) (h:one (AV.ren f x)=true):one x=true:=by
 cases x<;>first|exact h|(simp only[AV.ren] at h;exact h)
section
variable {e e3:Env}{N:Nat}{f:Id→Id}
mutual
theorem Rel.ren (hρ:∀id,unpath id<N→e3.ρ id=e.ρ (f id)) (hi:∀b,Imm e b→Imm e3 b) (hw:e3.w=e.w) (hB:e3.F.B=e.F.B):∀(x:AV) (v:Value),avOk N x→Rel e (AV.ren f x) v→Rel e3 x v
 |.i ..,_,_,hr=>by simpa only[Rel,AV.ren] using hr
 |.b ..,_,_,hr=>by simpa only[Rel,AV.ren] using hr
 |.s ..,_,_,hr=>by simpa only[Rel,AV.ren] using hr
 |.v ..,_,_,hr=>by simpa only[Rel,AV.ren] using hr
 |.p id off,v,ha,hr=>by
  simp only[Rel,AV.ren] at hr⊢
  have hρ:=hρ id (by simpa only[avOk] using ha)
  simp only[known,hρ];exact hr
 |.sl id off sz k lo ex,v,ha,hr=>by
  simp only[Rel,AV.ren] at hr⊢
  have hρ:=hρ id (by simpa only[avOk] using ha)
  simp only[known,hρ,hw];exact hr
 |.em,_,_,hr=>by simpa only[Rel,AV.ren] using hr
 |.isl t xs,v,_,hr=>by
  simp only[Rel,AV.ren] at hr⊢
  exact relT_mono (m:=mm e) (m':=mm e3) ⟨hi,by show e.F.B≤e3.F.B;rw[hB];exact Nr _⟩ (fun b o _=>by rw[hw]) _ _ _ hr
 |.ip t x off,v,_,hr=>by
  simp only[Rel,AV.ren] at hr⊢
  obtain⟨b,o,us,hv,hm,hc,hr⟩:=hr
  exact⟨b,o,us,hv,hi b hm,fun j v hv=>by rw[hw];exact hc j v hv,relT_mono (m:=mm e) (m':=mm e3) ⟨hi,by show e.F.B≤e3.F.B;rw[hB];exact Nr _⟩ (fun b o _=>by rw[hw]) _ _ _ hr⟩
 |.f fn a b,v,ha,hr=>by
  simp only[Rel,AV.ren] at hr⊢
  simp only[avOk] at ha
  obtain⟨vs,ws,hv,h1,h2⟩:=hr
  exact⟨vs,ws,hv,RelL.ren hρ hi hw hB _ _ ha.1 h1,RelL.ren hρ hi hw hB _ _ ha.2 h2⟩
 |.ifc t x,v,ha,hr=>by
  simp only[Rel,AV.ren] at hr⊢
  simp only[avOk] at ha
  obtain⟨u,hv,hu⟩:=hr
  exact⟨u,hv,Rel.ren hρ hi hw hB _ _ ha hu⟩
 |.ag cs,v,ha,hr=>by
  simp only[Rel,AV.ren] at hr⊢
  simp only[avOk] at ha
  obtain⟨h1,vs,hv,h2⟩:=hr
  refine⟨fun c hc=>?_,vs,hv,RelL.ren hρ hi hw hB _ _ ha h2⟩
  obtain⟨j,hj⟩:=List.mem_iff_getElem?.1 hc
  exact ren_one c (h1 _ (List.mem_iff_getElem?.2 ⟨j,by rw[renL_get,hj];rfl⟩))
 |.tu cs,v,ha,hr=>by
  simp only[Rel,AV.ren] at hr⊢
  simp only[avOk] at ha
  obtain⟨vs,hv,h2⟩:=hr
  exact⟨vs,hv,RelL.ren hρ hi hw hB _ _ ha h2⟩
 |.m id,v,ha,hr=>by
  simp only[Rel,AV.ren] at hr⊢
  have hρ:=hρ id (by simpa only[avOk] using ha)
  simp only[known,hρ];exact hr
 |.j,_,_,_=>by simp[Rel]
theorem RelL.ren (hρ:∀id,unpath id<N→e3.ρ id=e.ρ (f id)) (hi:∀b,Imm e b→Imm e3 b) (hw:e3.w=e.w) (hB:e3.F.B=e.F.B):∀(xs:List AV) (vs:List Value),avOkL N xs→RelL e (AV.renL f xs) vs→RelL e3 xs vs
 |[],[],_,_=>by simp[RelL]
 |[],_::_,_,hr=>by simp[RelL,AV.renL] at hr
 |_::_,[],_,hr=>by simp[RelL,AV.renL] at hr
 |x::xs,v::vs,ha,hr=>by
  simp only[RelL,AV.renL] at hr⊢
  simp only[avOkL] at ha
  exact⟨Rel.ren hρ hi hw hB _ _ ha.1 hr.1,RelL.ren hρ hi hw hB _ _ ha.2 hr.2⟩
end
theorem EntRel.ren (hρ:∀id,unpath id<N→e3.ρ id=e.ρ (f id)) (hi:∀b,Imm e b→Imm e3 b) (hw:e3.w=e.w) (hB:e3.F.B=e.F.B):∀(es:List (AV×AV)) (ms:List MapEntry),(∀q∈es,avOk N q.1∧avOk N q.2)→EntRel e (renE f es) ms→EntRel e3 es ms
 |[],[],_,_=>trivial
 |[],_::_,_,hr=>hr.elim
 |(_,_)::_,[],_,hr=>hr.elim
 |(k,v)::es,m::ms,ha,hr=>⟨Rel.ren hρ hi hw hB _ _ (ha (k,v) (by simp)).1 hr.1,Rel.ren hρ hi hw hB _ _ (ha (k,v) (by simp)).2 hr.2.1,EntRel.ren hρ hi hw hB es ms (fun q hq=>ha q (by simp[hq])) hr.2.2⟩
theorem BlkRel.ren (hρ:∀id,unpath id<N→e3.ρ id=e.ρ (f id)) (hi:∀b,Imm e b→Imm e3 b) (hw:e3.w=e.w) (hB:e3.F.B=e.F.B){id id3:Id} (hid:e3.ρ id3=e.ρ id):∀(b:Blk),blkOk N (some b)→BlkRel e id (b.ren f)→BlkRel e3 id3 b
 |.cs el l fz,hb,h=>by
  obtain⟨c,fr,g1,g2,g3,g4⟩:=h
  simp only[BlkRel,hid,hw]
  refine⟨c,fr,g1,by rw[renL_len] at g2;exact g2,fun j x hx=>?_,g4⟩
  obtain⟨ho,v,hv,hr⟩:=g3 j (AV.ren f x) (by rw[renL_get,hx];rfl)
  exact⟨ren_one x ho,v,hv,Rel.ren hρ hi hw hB _ _ (avOkL_mem hb x (List.mem_of_getElem? hx)) hr⟩
 |.mp es,hb,h=>by
  obtain⟨ms,clock,g1,g2⟩:=h
  simp only[BlkRel,hid,hw]
  exact⟨ms,clock,g1,EntRel.ren hρ hi hw hB _ _ hb g2⟩
 |.it s pos,_,h=>by simp only[BlkRel,Blk.ren,hid,hw] at h⊢;exact h
 |.dead,_,_=>trivial
end
def from1 (n:Nat) (q:List Id) (id:Id):Id:=cd (Nat.blt (unpath id) n) id ((q[Nat.sub (unpath id) n]?).getD id)
def Fit (h:H) (f:Id→Id) (id:Id):Option Blk→Prop
 |none=>h.get id=none
 |some .dead=>∃b,h.get id=some b
 |some b=>h.get id=some (b.ren f)
def HoldsR (fr:T AV) (f:Id→Id):List (List Bool×AV)→Prop
 |[]=>True
 |q::L=>getV fr q.1=AV.ren f q.2∧HoldsR fr f L
theorem mkFr_ren {e e3:Env}{N:Nat}{f:Id→Id}{fr:T AV}{tmps:Array Value} (hρ:∀id,unpath id<N→e3.ρ id=e.ρ (f id)) (hi:∀b,Imm e b→Imm e3 b) (hw:e3.w=e.w) (hB:e3.F.B=e.F.B)
 (hf:FrRel e fr tmps):∀{L:List (List Bool×AV)},LOk N L→HoldsR fr f L→FrRel e3 (mkFr L) tmps
 |[],_,_,k=>by
  show Rel e3 (getV (.e:T AV) (path k)) _
  rw[getV_e];simp[Rel]
 |q::L,hL,hh,k=>by
  show Rel e3 (getV (T.set q.1 q.2 (mkFr L)) (path k)) _
  rw[getV_set]
  by_cases hp:path k=q.1
  ·rw[if_pos hp]
   have h0:=hf k
   rw[hp,hh.1] at h0
   exact Rel.ren hρ hi hw hB _ _ hL.1 h0
  ·rw[if_neg hp]
   exact mkFr_ren hρ hi hw hB hf hL.2 hh.2 k
section
variable {P:Program}{G:Gs}{nt:Nat}{fr:T AV}{h:H}{Q:Ex→T AV→H→Prop}
end
end Go.Ev
end
noncomputable section
namespace Go.Ev
inductive Wk (hd:H) (f:Id→Id):AV→AV→Prop where
 |same (x:AV):Wk hd f (AV.ren f x) x
 |tight (id:Id) (off sz n lo:Nat) (ex:Bool) (h:n≤lo):Wk hd f (.sl (f id) off sz n lo ex) (.sl id off sz n n false)
 |em0:Wk hd f (.v (.slice none 0 0)) .em
 |froz (x0:AV) (t:Ty) (xs:List (den t)) (h:dec hd (.sl t) [x0]=some (xs,[])):Wk hd f x0 (.isl t xs)
def WkL (hd:H) (f:Id→Id) (l0 l:List AV):Prop:=∀(j:Nat) (x:AV),l[j]? =some x→∃x0,l0[j]? =some x0∧Wk hd f x0 x
def FitB (hd h:H) (f:Id→Id) (id:Id) (b:Blk):Prop:=
 h.get (f id)=some (b.ren f)∨∃el l l0,b=.cs el l false∧h.get (f id)=some (.cs el l0 false)∧l.length≤l0.length∧(∀x∈l,one x=true)∧WkL hd f l0 l
def HasB (h:H) (id:Id):Option Blk→Prop
 |none=>h.get id=none
 |some _=>∃b,h.get id=some b
theorem reownC {e0 e2:Env}{fr2:T AV}{tmps:Array Value}{n:Nat}{q:List Id}{L:List (List Bool×AV)}{C:List (Option Blk)} (hd:H)
 (hs0:St e0) (hs2:St e2) (hx:Ext e0 e2) (hn:e0.h.next≤n) (hC:C.length=n+q.length) (hlo:1073741824≤e2.F.B)
 (hf:FrRel e2 fr2 tmps) (hL:HoldsR fr2 (from1 n q) L) (hLo:LOk (n+q.length) L)
 (hhas:∀i c,C[i]? =some c→HasB e2.h (from1 n q (path i)) c)
 (hfit:∀i b,C[i]? =some (some b)→b≠.dead→FitB hd e2.h (from1 n q) (path i) b) (hCo:blksOk (n+q.length) C)
 (hsub:∀id b,hd.get id=some b→e2.h.get id=some b) (hoff:∀i b,C[i]? =some (some b)→b≠.dead→¬live hd (from1 n q (path i)))
 (htail:∀j c,n≤j→C[j]? =some c→∃b,c=some b)
 (hinj:∀i j b c,C[i]? =some (some b)→C[j]? =some (some c)→b≠.dead→c≠.dead→from1 n q (path i)=from1 n q (path j)→i=j):
 ∃e3:Env,e3.w=e2.w∧e3.h=hpH (n+q.length) C∧St e3∧Ext e0 e3∧FrRel e3 (mkFr L) tmps:=by
 let N:=n+q.length
 let f:=from1 n q
 let e3:Env:=⟨fun id=>if unpath id<N then e2.ρ (f id) else(0,1),hpH N C,e2.w,e2.F⟩
 have hρ:∀id,unpath id<N→e3.ρ id=e2.ρ (f id):=fun id h=>if_pos h
 have hoth:∀id,¬unpath id<N→e3.ρ id=(0,1):=fun id h=>if_neg h
 have hlowf:∀id,unpath id<n→f id=id:=fun id h=>by
  show cd (Nat.blt (unpath id) n) id _=id
  rw[show Nat.blt (unpath id) n=true from Nc h];rfl
 have hlow:∀id,unpath id<n→e3.ρ id=e2.ρ id:=fun id h=>by
  rw[hρ id (by show unpath id<n+q.length;omega),hlowf id h]
 have hget:∀id,e3.h.get id=(C[unpath id]?).join:=fun id=>by
  have:=hpH_get N C (unpath id)
  rw[unpath_bij] at this;exact this
 have hgetS:∀id b,e3.h.get id=some b→C[unpath id]? =some (some b)∧unpath id<N:=fun id b h=>by
  rw[hget] at h
  cases hc:C[unpath id]? with
  |none=>rw[hc] at h;cases h
  |some c=>
   rw[hc] at h
   have hlt:=(List.getElem?_eq_some_iff.1 hc).1
   exact⟨by rw[show c=some b from h],by show unpath id<n+q.length;rw[←hC];exact hlt⟩
 have hlive0:∀id b,e3.h.get id=some b→b≠.dead→∃b',e2.h.get (f id)=some b'∧b'≠.dead:=fun id b h hdd=>by
  have:=hfit _ _ (hgetS id b h).1 hdd
  rw[unpath_bij] at this
  rcases this with h1|⟨el,l,l0,h1,h2,_⟩
  ·refine⟨_,h1,?_⟩
   cases b<;>simp_all [Blk.ren]
  ·exact⟨_,h2,by simp⟩
 have hlive:∀id,live e3.h id→live e2.h (f id):=fun id ⟨b,hb,hdd⟩=>hlive0 id b hb hdd
 have hltN:∀id,live e3.h id→unpath id<N:=fun id ⟨b,hb,_⟩=>(hgetS id b hb).2
 have hown:∀b,Own e3 b→Own e2 b:=fun b ⟨id,h1,h2⟩=>⟨f id,hlive id h1,by rw[←hρ id (hltN id h1)];exact h2⟩
 have himm:∀b,Imm e2 b→Imm e3 b:=fun b hb=>⟨hb.1,hb.2.1,fun h=>hb.2.2 (hown b h)⟩
 have hkn:∀id,known e0 id→unpath id<n:=fun id hk=>by
  obtain⟨k,h1,h2,_⟩:=hs0.kn id hk
  rw[h2,unpath_path];omega
 have hpres:∀id,unpath id<N→(∃b,e2.h.get (f id)=some b)→∃b,e3.h.get id=some b:=fun id hlt ⟨b',hb'⟩=>by
  obtain⟨c,hc⟩:∃c,C[unpath id]? =some c:=⟨_,Lq (by rw[hC];exact hlt)⟩
  have hft:=hhas _ _ hc
  rw[unpath_bij] at hft
  rw[hget,hc]
  cases c with
  |some b=>exact⟨b,rfl⟩
  |none=>
   have h0:e2.h.get (f id)=none:=hft
   rw[hb'] at h0;cases h0
 have hx3:Ext e0 e3:={
  next:=by show e0.h.next≤n+q.length;omega
  kn:=fun id hk=>by unfold known;rw[hlow id (hkn id hk)];exact hx.kn id hk
  ren:=fun id hk=>by rw[hlow id (hkn id hk)];exact hx.ren id hk
  fr:=hx.fr
  heap:=hx.heap
  keep:=hx.keep
  size:=hx.size
  own:=fun b hb ho=>hx.own b hb (hown b ho)
  pres:=fun id b hb=>by
   have hl:=hkn id (hs0.dk id b hb)
   exact hpres id (by show unpath id<n+q.length;omega) (by rw[hlowf id hl];exact hx.pres id b hb)
  newk:=fun id hk=>by
   by_cases h:unpath id<N
   ·obtain⟨c,hc⟩:∃c,C[unpath id]? =some c:=⟨_,Lq (by rw[hC];exact h)⟩
    cases c with
    |some b=>exact .inr ⟨b,by rw[hget,hc];rfl⟩
    |none=>
     have hl:unpath id<n:=by
      rcases Nat.lt_or_ge (unpath id) n with h1|h1
      ·exact h1
      ·obtain⟨b,hb⟩:=htail _ _ h1 hc
       cases hb
     have hk':known e2 id:=by unfold known at hk;rw[hlow id hl] at hk;exact hk
     rcases hx.newk id hk' with h1|⟨b,hb⟩
     ·exact .inl h1
     ·have hft:=hhas _ _ hc
      rw[unpath_bij] at hft
      have h0:e2.h.get (f id)=none:=hft
      rw[hlowf id hl,hb] at h0;cases h0
   ·unfold known at hk;rw[hoth id h] at hk;cases hk
  qt:=hx.qt}
 have hdimm:∀id,live hd id→Imm e3 (e2.ρ id).1:=fun id ⟨b,hb,hdd⟩=>by
  have hl2:live e2.h id:=⟨b,hsub id b hb,hdd⟩
  refine⟨hs2.lt hl2,fun h=>(hs2.fr _ h).2 ⟨id,hl2,rfl⟩,fun⟨id',h1,h2⟩=>?_⟩
  have hlt:=hltN id' h1
  have h3:=hlive id' h1
  rw[hρ id' hlt] at h2
  have h4:=hs2.inj _ _ h3 hl2 h2
  obtain⟨b',hb',hdd'⟩:=h1
  have:=hoff _ _ (hgetS id' b' hb').1 hdd'
  rw[unpath_bij] at this
  apply this
  show live hd (f id')
  rw[h4];exact⟨b,hb,hdd⟩
 have hwk:∀x0 x v,avOk N x→Wk hd f x0 x→Rel e2 x0 v→Rel e3 x v:=fun x0 x v ha hw hr=>by
  cases hw with
  |same x=>exact Rel.ren hρ himm rfl rfl _ _ ha hr
  |tight id off sz k lo ex h=>
   simp only[Rel] at hr⊢
   have hid:=hρ id (by simpa only[avOk] using ha)
   obtain⟨h1,a,cap,h2,h3,h4,h5,h6⟩:=hr
   simp only[known,hid]
   exact⟨h1,a,cap,h2,Nr _,Nt h3 h4,fun h=>Bool.noConfusion h,h6⟩
  |em0=>
   simp only[Rel] at hr⊢
   exact⟨none,hr.1⟩
  |froz x0 t xs h=>
   obtain⟨us,ws,g1,g2,g3⟩:=dec_rel (e2:=e3) hs2 rfl ⟨himm,Nr _⟩ hsub hdimm hlo (.sl t) [x0] xs [] [v] h (by simp only[RelL];exact⟨hr,trivial⟩)
   obtain rfl:=relL0 g3
   rw[List.append_nil] at g1
   simp only[Rel]
   rw[g1];exact g2
 have hs3:St e3:={
  kn:=fun id hk=>by
   by_cases h:unpath id<N
   ·refine⟨unpath id,h,(unpath_bij id).symm,fun hl=>?_⟩
    obtain⟨c,hc⟩:∃c,C[unpath id]? =some c:=⟨_,Lq (by rw[hC];exact h)⟩
    cases c with
    |some b=>exact⟨b,by rw[hget,hc];rfl⟩
    |none=>
     have hl2:unpath id<n:=by
      rcases Nat.lt_or_ge (unpath id) n with h1|h1
      ·exact h1
      ·obtain⟨b,hb⟩:=htail _ _ h1 hc
       cases hb
     have hk':known e2 id:=by unfold known at hk;rw[hlow id hl2] at hk;exact hk
     obtain⟨k,h1,h2,h3⟩:=hs2.kn id hk'
     have hkk:k=unpath id:=by rw[h2,unpath_path]
     obtain⟨b,hb⟩:=h3 (by rw[hkk];exact hl)
     have hft:=hhas _ _ hc
     rw[unpath_bij] at hft
     have h0:e2.h.get (f id)=none:=hft
     rw[hlowf id hl2,hb] at h0;cases h0
   ·unfold known at hk;rw[hoth id h] at hk;cases hk
  dk:=fun id b hb=>by
   obtain⟨h1,h2⟩:=hgetS id b hb
   have hft:=hhas _ _ h1
   rw[unpath_bij] at hft
   obtain⟨b',hb'⟩:=hft
   unfold known;rw[hρ id h2];exact hs2.dk (f id) b' hb'
  lo:=by
   show e2.F.lo≤n+q.length
   rw[hx.fr]
   have:=hs0.lo
   omega
  blk:=fun id b hb=>by
   by_cases hdd:b=.dead
   ·subst hdd;trivial
   ·obtain⟨g1,g2⟩:=hgetS id b hb
    have hft:=hfit _ _ g1 hdd
    rw[unpath_bij] at hft
    have hok:=blksOk_get hCo (unpath id) b (by rw[g1];rfl)
    rcases hft with hft|⟨el,l,l0,rfl,hft,hlen,hone,hw⟩
    ·exact BlkRel.ren hρ himm rfl rfl (hρ id g2) b hok (hs2.blk (f id) _ hft)
    ·obtain⟨c,frz,k1,k2,k3,k4,k5⟩:=hs2.blk (f id) _ hft
     simp only[BlkRel,hρ id g2]
     refine⟨c,frz,k1,om,fun j x hj=>?_,fun _=>k4 rfl,k5⟩
     obtain⟨x0,h0,hwx⟩:=hw j x hj
     obtain⟨_,v,hv,hr⟩:=k3 j x0 h0
     have hm:=List.mem_of_getElem? hj
     exact⟨hone x hm,v,hv,hwk x0 x v (avOkL_mem hok x hm) hwx hr⟩
  inj:=fun id id' h1 h2 he=>by
   have g1:=h1
   have g2:=h2
   obtain⟨b,hb,hdb⟩:=g1
   obtain⟨c,hc,hdc⟩:=g2
   rw[hρ id (hgetS id b hb).2,hρ id' (hgetS id' c hc).2] at he
   have hff:=hs2.inj _ _ (hlive id h1) (hlive id' h2) he
   have:=hinj (unpath id) (unpath id') b c (hgetS id b hb).1 (hgetS id' c hc).1 hdb hdc (by rw[unpath_bij,unpath_bij];exact hff)
   rw[←unpath_bij id,←unpath_bij id',this]
  fr:=fun b hb=>⟨(hs2.fr b hb).1,fun ho=>(hs2.fr b hb).2 (hown b ho)⟩}
 exact⟨e3,rfl,rfl,hs3,hx3,mkFr_ren hρ himm rfl rfl hf hLo hL⟩
def EndC (n:Nat) (L:List (List Bool×AV)) (C:List (Option Blk)) (fr:T AV) (h:H):Prop:=
 ∃(q:List Id) (hd:H),C.length=n+q.length∧HoldsR fr (from1 n q) L∧LOk (n+q.length) L∧(∀i c,C[i]? =some c→HasB h (from1 n q (path i)) c)∧
  (∀i b,C[i]? =some (some b)→b≠.dead→FitB hd h (from1 n q) (path i) b)∧blksOk (n+q.length) C∧
  (∀id b,hd.get id=some b→h.get id=some b)∧(∀i b,C[i]? =some (some b)→b≠.dead→¬live hd (from1 n q (path i)))∧
  (∀j c,n≤j→C[j]? =some c→∃b,c=some b)∧
  (∀i j b c,C[i]? =some (some b)→C[j]? =some (some c)→b≠.dead→c≠.dead→from1 n q (path i)=from1 n q (path j)→i=j)
theorem EndC.own {e0 e2:Env}{fr2:T AV}{tmps:Array Value}{n:Nat}{L:List (List Bool×AV)}{C:List (Option Blk)}
 (h:EndC n L C fr2 e2.h) (hs0:St e0) (hs2:St e2) (hx:Ext e0 e2) (hn:e0.h.next≤n) (hlo:1073741824≤e2.F.B) (hf:FrRel e2 fr2 tmps):
 ∃e3:Env,e3.w=e2.w∧e3.h=hpH C.length C∧St e3∧Ext e0 e3∧FrRel e3 (mkFr L) tmps:=by
 obtain⟨q,hd,h1,h2,h3,h4,h5,h6,h7,h8,h9,h10⟩:=h
 obtain⟨e3,g1,g2,g3⟩:=reownC hd hs0 hs2 hx hn h1 hlo hf h2 h3 h4 h5 h6 h7 h8 h9 h10
 exact⟨e3,g1,by rw[h1];exact g2,g3⟩
end Go.Ev
end
noncomputable section
namespace Go.Ev
def SatE (n:Nat) (P:Program) (G:Gs) (nt:Nat) (c:Code) (fr:T AV) (h:H) (Q:Ex→T AV→H→Prop):Prop:=
 ∀(K:Exit→Act→World→Prop) (e0 e:Env) (a0 a:Act),e0.h.next≤n→St e0→Ext e0 e→GRel G e0→a.defers=a0.defers→e.h=h→St e→FrRel e fr a.tmps→a.tmps.size=nt→
  (∀ex fr' h',Q ex fr' h'→Post nt K e0 a0 ex fr' h')→c.wp P K a e.w
section
variable {P:Program}{G:Gs}{n nt:Nat}{fr:T AV}{h:H}{Q:Ex→T AV→H→Prop}
theorem SatE.of {c:Code} (hc:Sat P G nt c fr h Q):SatE n P G nt c fr h Q:=
 fun K e0 e a0 a _ _ hx hg hd he hs hf hsz hp=>hc K e a he hs hf (hg.ext hx) hsz (fun ex fr' h' hq=>(hp ex fr' h' hq).ext hx hd)
theorem Sat.ofN {c:Code} (hn:h.next≤n) (hc:SatE n P G nt c fr h Q):Sat P G nt c fr h Q:=
 fun K e a he hs hf hg hsz hp=>hc K e e a a (by rw[he];exact hn) hs (Ext.refl e) hg rfl he hs hf hsz hp
theorem SatE.seq {x y:Code} (hx:SatE n P G nt x fr h (thenQ (fun fr h=>SatE n P G nt y fr h Q) Q)):SatE n P G nt (.seq x y) fr h Q:=by
 intro K e0 e a0 a hn h0 hx0 hg hd he hs hf hsz hp
 refine wp_seq (hx _ e0 e a0 a hn h0 hx0 hg hd he hs hf hsz (fun ex fr1 h1 hq=>?_))
 intro a1 e1 he1 hs1 hx1 hf1 hsz1 hd1
 cases ex with
 |normal=>exact(show SatE n P G nt y fr1 h1 Q from hq) K e0 e1 a0 a1 hn h0 hx1 hg hd1 he1 hs1 hf1 hsz1 hp
 |exit id=>exact hp (.exit id) fr1 h1 hq a1 e1 he1 hs1 hx1 hf1 hsz1 hd1
 |ret=>exact hp .ret fr1 h1 hq a1 e1 he1 hs1 hx1 hf1 hsz1 hd1
theorem SatE.cond {c:Operand}{x y:Code} (b:Bool) (hb:evO G c fr=.b b) (ht:b=true→SatE n P G nt x fr h Q) (hf':b=false→SatE n P G nt y fr h Q):SatE n P G nt (.cond c x y) fr h Q:=by
 intro K e0 e a0 a hn h0 hx0 hg hd he hs hf hsz hp
 have rc:a.eval c=.bool b:=by
  cases hc:od G c with
  |none=>
   have:evO G c fr=.j:=by unfold evO;rw[hc]
   rw[this] at hb;cases hb
  |some c'=>
   have:evO G c fr=Ev.ev c' fr:=by unfold evO;rw[hc]
   rw[this] at hb
   have:=od_rel hf (hg.ext hx0) hc
   rw[hb] at this
   simpa only[Rel] using this
 cases b with
 |true=>exact wp_cond_true rc (ht rfl K e0 e a0 a hn h0 hx0 hg hd he hs hf hsz hp)
 |false=>exact wp_cond_false rc (hf' rfl K e0 e a0 a hn h0 hx0 hg hd he hs hf hsz hp)
theorem SatE.block {id:Nat}{b:Code} (hb:SatE n P G nt b fr h (blkQ id Q)):SatE n P G nt (.block id b) fr h Q:=by
 intro K e0 e a0 a hn h0 hx0 hg hd he hs hf hsz hp
 refine wp_block (hb _ e0 e a0 a hn h0 hx0 hg hd he hs hf hsz (fun ex fr1 h1 hq=>?_))
 intro a1 e1 he1 hs1 hx1 hf1 hsz1 hd1
 cases ex with
 |normal=>exact hp .normal fr1 h1 hq a1 e1 he1 hs1 hx1 hf1 hsz1 hd1
 |exit j=>
  show(if j=id then K .normal a1 e1.w else K (.exit j) a1 e1.w)
  have hq:(if j=id then Q .normal fr1 h1 else Q (.exit j) fr1 h1):=hq
  by_cases hj:j=id
  ·rw[if_pos hj] at hq⊢
   exact hp .normal fr1 h1 hq a1 e1 he1 hs1 hx1 hf1 hsz1 hd1
  ·rw[if_neg hj] at hq⊢
   exact hp (.exit j) fr1 h1 hq a1 e1 he1 hs1 hx1 hf1 hsz1 hd1
 |ret=>exact hp .ret fr1 h1 hq a1 e1 he1 hs1 hx1 hf1 hsz1 hd1
theorem SatE.toC (hB:1073741824≤G.B){c:Code} (L:List (List Bool×AV)) (C:List (Option Blk)) (h0:EndC n L C fr h) (hc:SatE n P G nt c (mkFr L) (hpH C.length C) Q):SatE n P G nt c fr h Q:=by
 intro K e0 e a0 a hn hs0 hx0 hg hd he hs hf hsz hp
 subst he
 obtain⟨e3,g1,g2,g3,g4,g5⟩:=h0.own hs0 hs hx0 hn (by rw[hx0.fr,hg.1];exact hB) hf
 have:=hc K e0 e3 a0 a hn hs0 g4 hg hd g2 g3 g5 hsz hp
 rw[g1] at this;exact this
theorem SatE.loop (hB:1073741824≤G.B){b:Code}{α:Type} (L:α→List (List Bool×AV)) (C:α→List (Option Blk)) (m:α→Nat) (I:α→Prop)
 (step:∀a,I a→SatE n P G nt b (mkFr (L a)) (hpH (C a).length (C a)) (thenQ (fun fr' h'=>∃a',I a'∧m a'<m a∧EndC n (L a') (C a') fr' h') Q))
 (s0:α) (hI:I s0) (hm:m s0<4611686018427387904):SatE n P G nt (.loop b) (mkFr (L s0)) (hpH (C s0).length (C s0)) Q:=by
 intro K e0 e a0 a hn hs0 hx0 hg hd he hs hf hsz hp
 refine wp_loop_rounds 4611686018427387904 ?_
 have key:∀(r:Nat) (s:α),m s<r→I s→∀(e1:Env) (a1:Act),e1.h=hpH (C s).length (C s)→St e1→Ext e0 e1→FrRel e1 (mkFr (L s)) a1.tmps→a1.tmps.size=nt→a1.defers=a0.defers→
  Code.rounds P b K r a1 e1.w:=by
  intro r
  induction r with
  |zero=>intro s hlt;omega
  |succ r ih=>
   intro s hlt hIs e1 a1 he1 hs1 hx1 hf1 hsz1 hd1
   rw[rounds_succ]
   refine step s hIs _ e0 e1 a0 a1 hn hs0 hx1 hg hd1 he1 hs1 hf1 hsz1 (fun ex fr2 h2 hq=>?_)
   intro a2 e2 he2 hs2 hx2 hf2 hsz2 hd2
   cases ex with
   |normal=>
    obtain⟨s',hI',hlt',hl'⟩:=hq
    subst he2
    obtain⟨e3,g1,g2,g3,g4,g5⟩:=hl'.own hs0 hs2 hx2 hn (by rw[hx2.fr,hg.1];exact hB) hf2
    have:=ih s' om hI' e3 a2 g2 g3 g4 g5 hsz2 hd2
    rw[g1] at this;exact this
   |exit id=>exact hp (.exit id) fr2 h2 hq a2 e2 he2 hs2 hx2 hf2 hsz2 hd2
   |ret=>exact hp .ret fr2 h2 hq a2 e2 he2 hs2 hx2 hf2 hsz2 hd2
 exact key _ s0 hm hI e a he hs hx0 hf hsz hd
end
end Go.Ev
end
