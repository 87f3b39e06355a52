/- A part of the proof that FnRolled returns true; no condition. -/
import Derived.Test.YtmkdnjbgmflnfaaGreatDoorPg
import Derived.Test.YtmkdnjbgmflnfaaGreatDoorPi
import Derived.Test.YtmkdnjbgmflnfaaGreatDoorPa
import Derived.Test.YtmkdnjbgmflnfaaGreatDoorPh
import Derived.Shelf.Strings.Count
import Derived.Shelf.Strings.Search2
import Derived.RangeFuncFrom
set_option linter.all false
set_option maxRecDepth 100000
open List renaming length→U
open Int renaming ofNat→J,toNat→Jn
open Go.Ev
attribute [local irreducible] GC RJ KC KM cAt cOn runC stp brC bodyC cvC rsC rdC regC loopC endC skpC extC retC evJ RS.at RS.put RS.okS RS.okR RS.all RS.fst endV endVM grpA grpB grpR grpD grpO RunOps RunD bodyF resF argsFrom
noncomputable section
namespace Go.Ev
inductive Kdc where
 |sc
 |fz (t:Ty)
 |ow (c:Id)
 |fx
 |ot
inductive Spc where
 |blk (src:Id) (el:TypeId) (ks:List Kdc)
 |lv
 |dd
def cvK (hd:H) (f:Id→Id) (k:Kdc) (x:AV):Option AV:=match k with
 |.sc=>match x with
  |.i k n=>some (.i k n)
  |.b b=>some (.b b)
  |.s n l=>some (.s n l)
  |_=>none
 |.fz t=>match dec hd (.sl t) [x] with
  |some (ys,[])=>some (.isl t ys)
  |_=>none
 |.ow c=>match x with
  |.sl id off sz n lo _=>cd (idEq (f c) id) (cd (Nat.ble n lo) (some (.sl c off sz n n false)) none) none
  |.em=>some .em
  |.v (.slice none 0 0)=>some .em
  |_=>none
 |.fx=>match x with
  |.sl id off sz n lo ex=>cd (idEq (f id) id) (some (.sl id off sz n lo ex)) none
  |_=>none
 |.ot=>some x
def cvL (hd:H) (f:Id→Id) (ks:List Kdc):List AV→Option (List AV):=
 List.rec (motive:=fun _=>List AV→Option (List AV)) (fun _=>some [])
  (fun k _ ih l=>List.rec none (fun x r _=>Option.rec none (fun y=>Option.rec none (fun ys=>some (y::ys)) (ih r)) (cvK hd f k x)) l) ks
def csOf (b:Option Blk) (el:TypeId):Option (List AV):=
 Option.rec none (fun b=>Blk.rec (fun el' l fz=>cd (Nat.beq el' el) (cd fz none (some l)) none) (fun _=>none) (fun _ _=>none) none b) b
def cvS (h hd:H) (f:Id→Id) (i:Nat) (s:Spc):Option (Option Blk):=Spc.rec
 (fun src el ks=>Option.rec none (fun l0=>Option.rec none (fun l=>some (some (.cs el l false))) (cvL hd f ks l0)) (csOf (h.get src) el))
 (some (h.get (path i))) (some (some .dead)) s
def srcOf (i:Nat) (s:Spc):Id:=Spc.rec (fun src _ _=>src) (path i) (path 0) s
def srcs (sp:List Spc):Nat→List Id:=List.rec (fun _=>[]) (fun s _ ih i=>srcOf i s::ih (Nat.succ i)) sp
def T.del {α:Type} (p:List Bool):T α→T α:=
 List.rec (motive:=fun _=>T α→T α) (T.rec .e (fun l _ r _ _=>.n l none r)) (fun b _ ih=>T.rec .e (fun l x r _ _=>Bool.rec (.n l x (ih r)) (.n (ih l) x r) b)) p
theorem T.del_nil_n {α:Type} (l:T α) (x:Option α) (r:T α):T.del [] (.n l x r)=.n l none r:=rfl
theorem T.del_true_n {α:Type} (p:List Bool) (l:T α) (x:Option α) (r:T α):T.del (true::p) (.n l x r)=.n (T.del p l) x r:=rfl
theorem T.del_false_n {α:Type} (p:List Bool) (l:T α) (x:Option α) (r:T α):T.del (false::p) (.n l x r)=.n l x (T.del p r):=rfl
theorem T.del_e {α:Type} (p:List Bool):T.del p (.e:T α)=.e:=by cases p<;>rfl
theorem T.get_del {α:Type}:∀(p q:List Bool) (t:T α),T.get q (T.del p t)=if q=p then none else T.get q t
 |p,q,.e=>by rw[T.del_e,T.get_e];simp
 |[],q,.n l x r=>by
  rw[T.del_nil_n]
  cases q with
  |nil=>rfl
  |cons b q=>rw[T.get_cons_n,T.get_cons_n];simp
 |c::p,q,.n l x r=>by
  cases q with
  |nil=>cases c<;>simp[T.del_true_n,T.del_false_n,T.get_nil_n]
  |cons b q=>
   have i1:=T.get_del p q l
   have i2:=T.get_del p q r
   cases c<;>cases b<;>simp[T.del_true_n,T.del_false_n,T.get_cons_n,i1,i2]
def H.del (h:H) (id:Id):H:=⟨h.next,T.del id h.t⟩
theorem H.get_del (h:H) (id id':Id):(h.del id).get id'=if id'=id then none else h.get id':=T.get_del id id' h.t
def kill1 (i:Nat) (s:Spc) (h:H):H:=Spc.rec (fun src _ _=>h.del src) (h.del (path i)) h s
def killS (sp:List Spc):Nat→H→H:=List.rec (fun _ h=>h) (fun s _ ih i h=>kill1 i s (ih (Nat.succ i) h)) sp
def cvAll (h hd:H) (f:Id→Id) (sp:List Spc):Nat→Option (List (Option Blk)):=
 List.rec (fun _=>some []) (fun s _ ih i=>Option.rec none (fun b=>Option.rec none (fun r=>some (b::r)) (ih (Nat.succ i))) (cvS h hd f i s)) sp
def idIn (id:Id) (l:List Id):Bool:=List.rec false (fun x _ ih=>cd (idEq x id) true ih) l
def nodS (sp:List Spc):Nat→List Id→Bool:=
 List.rec (motive:=fun _=>Nat→List Id→Bool) (fun _ _=>true) (fun s _ ih i seen=>Spc.rec (motive:=fun _=>Bool) (fun src _ _=>cd (idIn src seen) false (ih (Nat.succ i) (src::seen))) (cd (idIn (path i) seen) false (ih (Nat.succ i) (path i::seen))) (ih (Nat.succ i) seen) s) sp
def hasAll (h:H) (l:List Id):Bool:=List.rec true (fun id _ ih=>Option.rec false (fun _=>ih) (h.get id)) l
def canon (sp:List Spc) (h:H):Option (List (Option Blk)):=
 cd (nodS sp 0 []) (cd (hasAll h (srcs sp 0)) (cvAll h (killS sp 0 h) (from1 0 (srcs sp 0)) sp 0) none) none
theorem srcs_length:∀(sp:List Spc) (i:Nat),(srcs sp i).length=sp.length
 |[],_=>rfl
 |_::sp,i=>congrArg Nat.succ (srcs_length sp (i+1))
theorem srcs_get:∀(sp:List Spc) (i j:Nat) (s:Spc),sp[j]? =some s→(srcs sp i)[j]? =some (srcOf (i+j) s)
 |[],_,_,_,h=>by simp at h
 |x::sp,i,0,s,h=>by
  simp only[List.getElem?_cons_zero,Oj] at h;subst h;rfl
 |x::sp,i,j+1,s,h=>by
  have:=srcs_get sp (i+1) j s (by simpa using h)
  show(srcs sp (i+1))[j]? =_
  rw[this];congr 2;omega
theorem from1_zero (q:List Id) (j:Nat) (x:Id) (h:q[j]? =some x):from1 0 q (path j)=x:=by
 show cd (Nat.blt (unpath (path j)) 0) _ ((q[Nat.sub (unpath (path j)) 0]?).getD (path j))=x
 rw[unpath_path]
 show((q[j - 0]?).getD (path j))=x
 rw[Nat.sub_zero,h];rfl
theorem idIn_mem {id:Id}:∀{l:List Id},id∈l→idIn id l=true
 |x::l,h=>by
  show cd (idEq x id) true (idIn id l)=true
  rcases List.mem_cons.1 h with rfl|h
  ·rw[idEq_eq];simp[cd]
  ·rw[idIn_mem h];cases idEq x id<;>rfl
def keptS (s:Spc):Prop:=s≠.dd
theorem nodS_notin:∀(sp:List Spc) (i:Nat) (seen:List Id),nodS sp i seen=true→∀j s,sp[j]? =some s→keptS s→srcOf (i+j) s∉seen
 |[],_,_,_,j,s,h,_=>by simp at h
 |x::sp,i,seen,h,0,s,hs,hk=>by
  simp only[List.getElem?_cons_zero,Oj] at hs;subst hs
  intro hm
  cases x with
  |dd=>exact hk rfl
  |blk src el ks=>
   have h:cd (idIn src seen) false (nodS sp (i+1) (src::seen))=true:=h
   rw[idIn_mem (show src∈seen from hm)] at h;cases h
  |lv=>
   have h:cd (idIn (path i) seen) false (nodS sp (i+1) (path i::seen))=true:=h
   rw[idIn_mem (show path i∈seen from hm)] at h;cases h
 |x::sp,i,seen,h,j+1,s,hs,hk=>by
  have key:∃seen',nodS sp (i+1) seen'=true∧∀y∈seen,y∈seen':=by
   cases x with
   |dd=>exact⟨seen,h,fun y hy=>hy⟩
   |blk src el ks=>
    have h:cd (idIn src seen) false (nodS sp (i+1) (src::seen))=true:=h
    cases hb:idIn src seen with
    |true=>rw[hb] at h;cases h
    |false=>rw[hb] at h;exact⟨_,h,fun y hy=>Loz _ hy⟩
   |lv=>
    have h:cd (idIn (path i) seen) false (nodS sp (i+1) (path i::seen))=true:=h
    cases hb:idIn (path i) seen with
    |true=>rw[hb] at h;cases h
    |false=>rw[hb] at h;exact⟨_,h,fun y hy=>Loz _ hy⟩
  obtain⟨seen',h1,h2⟩:=key
  have:=nodS_notin sp (i+1) seen' h1 j s (by simpa using hs) hk
  rw[show i+1+j=i+(j+1) by omega] at this
  exact fun hm=>this (h2 _ hm)
theorem nodS_inj:∀(sp:List Spc) (i:Nat) (seen:List Id),nodS sp i seen=true→∀j k s t,sp[j]? =some s→sp[k]? =some t→keptS s→keptS t→srcOf (i+j) s=srcOf (i+k) t→j=k
 |[],_,_,_,j,_,s,_,h,_,_,_,_=>by simp at h
 |x::sp,i,seen,h,j,k,s,t,hs,ht,hks,hkt,he=>by
  have tail:∃seen',nodS sp (i+1) seen'=true∧(keptS x→srcOf i x∈seen'):=by
   cases x with
   |dd=>exact⟨seen,h,fun hk=>absurd rfl hk⟩
   |blk src el ks=>
    have h:cd (idIn src seen) false (nodS sp (i+1) (src::seen))=true:=h
    cases hb:idIn src seen with
    |true=>rw[hb] at h;cases h
    |false=>rw[hb] at h;exact⟨_,h,fun _=>Mc ..⟩
   |lv=>
    have h:cd (idIn (path i) seen) false (nodS sp (i+1) (path i::seen))=true:=h
    cases hb:idIn (path i) seen with
    |true=>rw[hb] at h;cases h
    |false=>rw[hb] at h;exact⟨_,h,fun _=>Mc ..⟩
  obtain⟨seen',h1,h2⟩:=tail
  match j,k with
  |0,0=>rfl
  |0,k+1=>
   simp only[List.getElem?_cons_zero,Oj] at hs;subst hs
   have:=nodS_notin sp (i+1) seen' h1 k t (by simpa using ht) hkt
   rw[show i+1+k=i+(k+1) by omega,←he] at this
   exact absurd (h2 hks) this
  |j+1,0=>
   simp only[List.getElem?_cons_zero,Oj] at ht;subst ht
   have:=nodS_notin sp (i+1) seen' h1 j s (by simpa using hs) hks
   rw[show i+1+j=i+(j+1) by omega,he] at this
   exact absurd (h2 hkt) this
  |j+1,k+1=>
   have:=nodS_inj sp (i+1) seen' h1 j k s t (by simpa using hs) (by simpa using ht) hks hkt (by
    rw[show i+1+j=i+(j+1) by omega,show i+1+k=i+(k+1) by omega];exact he)
   omega
theorem hasAll_mem {h:H}:∀{l:List Id},hasAll h l=true→∀id∈l,∃b,h.get id=some b
 |x::l,hh,id,hm=>by
  have hh:(Option.rec false (fun _=>hasAll h l) (h.get x):Bool)=true:=hh
  cases hx:h.get x with
  |none=>rw[hx] at hh;cases hh
  |some b=>
   rw[hx] at hh
   rcases List.mem_cons.1 hm with rfl|hm
   ·exact⟨b,hx⟩
   ·exact hasAll_mem (l:=l) hh id hm
theorem kill1_get (i:Nat) (s:Spc) (h:H) (id:Id):(keptS s∧id=srcOf i s→(kill1 i s h).get id=none)∧(¬(keptS s∧id=srcOf i s)→(kill1 i s h).get id=h.get id):=by
 cases s with
 |blk src el ks=>
  have e:(kill1 i (.blk src el ks) h).get id=if id=src then none else h.get id:=H.get_del h src id
  refine⟨fun hh=>by rw[e,if_pos (show id=src from hh.2)],fun hh=>by rw[e,if_neg (show¬id=src from fun he=>hh ⟨(fun h=>by cases h),he⟩)]⟩
 |lv=>
  have e:(kill1 i .lv h).get id=if id=path i then none else h.get id:=H.get_del h (path i) id
  refine⟨fun hh=>by rw[e,if_pos (show id=path i from hh.2)],fun hh=>by rw[e,if_neg (show¬id=path i from fun he=>hh ⟨(fun h=>by cases h),he⟩)]⟩
 |dd=>exact⟨fun hh=>absurd rfl hh.1,fun _=>rfl⟩
theorem killS_get:∀(sp:List Spc) (i:Nat) (h:H) (id:Id),(killS sp i h).get id=none∨((killS sp i h).get id=h.get id∧∀j s,sp[j]? =some s→keptS s→id≠srcOf (i+j) s)
 |[],_,_,_=>.inr ⟨rfl,fun j s h=>by simp at h⟩
 |x::sp,i,h,id=>by
  have e:(killS (x::sp) i h).get id=(kill1 i x (killS sp (i+1) h)).get id:=rfl
  obtain⟨k1,k2⟩:=kill1_get i x (killS sp (i+1) h) id
  rw[e]
  by_cases hx:keptS x∧id=srcOf i x
  ·exact .inl (k1 hx)
  ·rw[k2 hx]
   rcases killS_get sp (i+1) h id with h1|⟨h1,h2⟩
   ·exact .inl h1
   ·refine .inr ⟨h1,fun j s hs hk=>?_⟩
    cases j with
    |zero=>
     simp only[List.getElem?_cons_zero,Oj] at hs;subst hs
     exact fun he=>hx ⟨hk,he⟩
    |succ j=>
     have:=h2 j s (by simpa using hs) hk
     rw[show i+1+j=i+(j+1) by omega] at this;exact this
theorem cvL_inv {hd:H}{f:Id→Id}:∀{ks:List Kdc}{l0 l:List AV},cvL hd f ks l0=some l→l.length=ks.length∧l.length≤l0.length∧∀(j:Nat) (y:AV),l[j]? =some y→∃k x,ks[j]? =some k∧l0[j]? =some x∧cvK hd f k x=some y
 |[],l0,l,h=>by
  obtain rfl:=Oi (show some []=some l from h)
  exact⟨rfl,Nz _,fun j y h=>by simp at h⟩
 |k::ks,[],l,h=>by cases h
 |k::ks,x::r,l,h=>by
  have h:(Option.rec none (fun y=>Option.rec none (fun ys=>some (y::ys)) (cvL hd f ks r)) (cvK hd f k x):Option (List AV))=some l:=h
  cases hk:cvK hd f k x with
  |none=>rw[hk] at h;cases h
  |some y=>
   rw[hk] at h
   have h:(Option.rec none (fun ys=>some (y::ys)) (cvL hd f ks r):Option (List AV))=some l:=h
   cases hr:cvL hd f ks r with
   |none=>rw[hr] at h;cases h
   |some ys=>
    rw[hr] at h
    obtain rfl:=Oi (show some (y::ys)=some l from h)
    obtain⟨h1,h2,h3⟩:=cvL_inv hr
    refine⟨by simp[h1],by simp;omega,fun j z hz=>?_⟩
    cases j with
    |zero=>
     simp only[List.getElem?_cons_zero,Oj] at hz;subst hz
     exact⟨k,x,rfl,rfl,hk⟩
    |succ j=>exact h3 j z (by simpa using hz)
theorem cvAll_inv {h hd:H}{f:Id→Id}:∀{sp:List Spc}{i:Nat}{C:List (Option Blk)},cvAll h hd f sp i=some C→C.length=sp.length∧∀(j:Nat) (c:Option Blk),C[j]? =some c→∃s,sp[j]? =some s∧cvS h hd f (i+j) s=some c
 |[],i,C,hc=>by
  obtain rfl:=Oi (show some []=some C from hc)
  exact⟨rfl,fun j c h=>by simp at h⟩
 |s::sp,i,C,hc=>by
  have hc:(Option.rec none (fun b=>Option.rec none (fun r=>some (b::r)) (cvAll h hd f sp (i+1))) (cvS h hd f i s):Option (List (Option Blk)))=some C:=hc
  cases hs:cvS h hd f i s with
  |none=>rw[hs] at hc;cases hc
  |some b=>
   rw[hs] at hc
   have hc:(Option.rec none (fun r=>some (b::r)) (cvAll h hd f sp (i+1)):Option (List (Option Blk)))=some C:=hc
   cases hr:cvAll h hd f sp (i+1) with
   |none=>rw[hr] at hc;cases hc
   |some r=>
    rw[hr] at hc
    obtain rfl:=Oi (show some (b::r)=some C from hc)
    obtain⟨h1,h2⟩:=cvAll_inv hr
    refine⟨by simp[h1],fun j c hj=>?_⟩
    cases j with
    |zero=>
     simp only[List.getElem?_cons_zero,Oj] at hj;subst hj
     exact⟨s,rfl,hs⟩
    |succ j=>
     obtain⟨s',g1,g2⟩:=h2 j c (by simpa using hj)
     exact⟨s',by simpa using g1,by rw[show i+(j+1)=i+1+j by omega];exact g2⟩
def othA (f:Id→Id) (N:Nat) (x:AV):Prop:=AV.ren f x=x∧one x=true∧avOk N x
theorem cvK_ok {hd:H}{f:Id→Id}{N:Nat}{k:Kdc}{x y:AV} (h:cvK hd f k x=some y) (hN:∀c,k=.ow c→unpath c<N) (hfx:k=.fx→avOk N x) (ho:k=.ot→othA f N x):Wk hd f x y∧one y=true∧avOk N y:=by
 cases k with
 |sc=>
  unfold cvK at h
  simp only at h
  split at h
  ·obtain rfl:=Oi h;exact⟨.same (.i ..),rfl,by simp only[avOk]⟩
  ·obtain rfl:=Oi h;exact⟨.same (.b ..),rfl,by simp only[avOk]⟩
  ·obtain rfl:=Oi h;exact⟨.same (.s ..),rfl,by simp only[avOk]⟩
  ·cases h
 |fz t=>
  unfold cvK at h
  simp only at h
  split at h
  ·rename_i ys hd'
   obtain rfl:=Oi h
   exact⟨.froz _ _ _ hd',rfl,by simp only[avOk]⟩
  ·cases h
 |ow c=>
  unfold cvK at h
  simp only at h
  split at h
  ·rename_i id off sz n lo ex
   obtain⟨h1,h⟩:=cd_some h
   obtain⟨h2,h⟩:=cd_some h
   obtain rfl:=Oi h
   rw[idEq_eq] at h1
   have h1:f c=id:=by simpa using h1
   subst h1
   exact⟨.tight _ _ _ _ _ _ (Nb h2),rfl,by simp only[avOk];exact hN c rfl⟩
  ·obtain rfl:=Oi h;exact⟨.same .em,rfl,by simp only[avOk]⟩
  ·obtain rfl:=Oi h;exact⟨.em0,rfl,by simp only[avOk]⟩
  ·cases h
 |fx=>
  have hfx:=hfx rfl
  unfold cvK at h
  simp only at h
  split at h
  ·rename_i id off sz n lo ex hfx2
   obtain⟨h1,h⟩:=cd_some h
   obtain rfl:=Oi h
   rw[idEq_eq] at h1
   have h1:f id=id:=by simpa using h1
   refine⟨?_,rfl,hfx2 rfl⟩
   have:=Wk.same (hd:=hd) (f:=f) (.sl id off sz n lo ex)
   simp only[AV.ren,h1] at this
   exact this
  ·cases h
 |ot=>
  obtain rfl:=Oi (show some x=some y from h)
  obtain⟨h1,h2,h3⟩:=ho rfl
  refine⟨?_,h2,h3⟩
  have:=Wk.same (hd:=hd) (f:=f) x
  rw[h1] at this
  exact this
def kdOk (N:Nat) (k:Kdc):Bool:=match k with
 |.ow c=>Nat.blt (unpath c) N
 |_=>true
def spOk (N:Nat) (s:Spc):Bool:=match s with
 |.blk _ _ ks=>ks.all (kdOk N)
 |_=>true
theorem avOkL_all {N:Nat}:∀{l:List AV},(∀x∈l,avOk N x)→avOkL N l
 |[],_=>by simp only[avOkL]
 |x::l,h=>by
  simp only[avOkL]
  exact⟨h x (Mc ..),avOkL_all fun y hy=>h y (Loz _ hy)⟩
theorem blksOk_of {N:Nat}:∀{C:List (Option Blk)},(∀(j:Nat) (c:Option Blk),C[j]? =some c→blkOk N c)→blksOk N C
 |[],_=>by simp only[blksOk]
 |c::C,h=>⟨h 0 c rfl,blksOk_of fun j c hj=>h (j+1) c (by simpa using hj)⟩
theorem csOf_inv {b:Option Blk}{el:TypeId}{l:List AV} (h0:csOf b el=some l):b=some (.cs el l false):=by
 cases b with
 |none=>cases h0
 |some b=>
  cases b with
  |cs el' l' fz=>
   obtain⟨h1,h⟩:=cd_some (show cd (Nat.beq el' el) (cd fz none (some l')) none=some l from h0)
   have h1:=Nq h1
   subst h1
   cases fz with
   |true=>cases(show(none:Option (List AV))=some l from h)
   |false=>rw[Oi (show some l'=some l from h)]
  |mp es=>cases h0
  |it s p=>cases h0
  |dead=>cases h0
def EndCq (n:Nat) (q:List Id) (L:List (List Bool×AV)) (C:List (Option Blk)) (fr:T AV) (h:H):Prop:=
 ∃(hd:H),C.length=n+q.length∧HoldsR fr (from1 n q) L∧LOk (n+q.length) L∧(∀i c,C[i]? =some c→HasB h (from1 n q (path i)) c)∧
  (∀i b,C[i]? =some (some b)→b≠.dead→FitB hd h (from1 n q) (path i) b)∧blksOk (n+q.length) C∧
  (∀id b,hd.get id=some b→h.get id=some b)∧(∀i b,C[i]? =some (some b)→b≠.dead→¬live hd (from1 n q (path i)))∧
  (∀j c,n≤j→C[j]? =some c→∃b,c=some b)∧
  (∀i j b c,C[i]? =some (some b)→C[j]? =some (some c)→b≠.dead→c≠.dead→from1 n q (path i)=from1 n q (path j)→i=j)
theorem from1_drop {n:Nat}{q:List Id} (hn:n≤q.length) (hi:∀i,i<n→q[i]? =some (path i)):from1 n (q.drop n)=from1 0 q:=by
 funext id
 show cd (Nat.blt (unpath id) n) id (((q.drop n)[unpath id - n]?).getD id)=cd (Nat.blt (unpath id) 0) id ((q[unpath id - 0]?).getD id)
 have h0:Nat.blt (unpath id) 0=false:=rfl
 rw[h0]
 show _=(q[unpath id]?).getD id
 cases hb:Nat.blt (unpath id) n with
 |true=>
  have:unpath id<n:=Nb hb
  rw[hi _ this,unpath_bij];rfl
 |false=>
  have:¬unpath id<n:=fun h=>by rw[show Nat.blt (unpath id) n=true from Nc h] at hb;cases hb
  show(((q.drop n)[unpath id - n]?).getD id)=_
  rw[List.getElem?_drop,show n+(unpath id - n)=unpath id by omega]
theorem EndCq.up {n:Nat}{q:List Id}{L:List (List Bool×AV)}{C:List (Option Blk)}{fr:T AV}{h:H} (he:EndCq 0 q L C fr h) (hn:n≤q.length) (hi:∀i,i<n→q[i]? =some (path i)):EndC n L C fr h:=by
 obtain⟨hd,h1,h2,h3,h4,h5,h6,h7,h8,h9,h10⟩:=he
 have hl:n+(q.drop n).length=0+q.length:=by simp;omega
 refine⟨q.drop n,hd,by rw[hl];exact h1,?_,by rw[hl];exact h3,?_,?_,by rw[hl];exact h6,h7,?_,fun j c _ hc=>h9 j c (Nz _) hc,?_⟩<;>rw[from1_drop hn hi]<;>assumption
theorem canon_endQ {sp:List Spc}{h:H}{C:List (Option Blk)}{L:List (List Bool×AV)}{fr:T AV} (hc:canon sp h=some C) (hok:sp.all (spOk sp.length)=true)
 (hL:HoldsR fr (from1 0 (srcs sp 0)) L) (hLo:LOk sp.length L)
 (hfx:∀(i:Nat) (src:Id) (el:TypeId) (ks:List Kdc) (l:List AV) (j:Nat) (x:AV),sp[i]? =some (.blk src el ks)→C[i]? =some (some (.cs el l false))→ks[j]? =some .fx→l[j]? =some x→avOk sp.length x)
 (hO:∀(i:Nat) (src:Id) (el:TypeId) (ks:List Kdc) (l:List AV) (j:Nat) (x:AV),sp[i]? =some (.blk src el ks)→C[i]? =some (some (.cs el l false))→ks[j]? =some .ot→l[j]? =some x→othA (from1 0 (srcs sp 0)) sp.length x)
 (hV:∀(i:Nat) (b:Blk),sp[i]? =some .lv→C[i]? =some (some b)→b.ren (from1 0 (srcs sp 0))=b∧blkOk sp.length (some b))
 (hVn:∀(i:Nat),sp[i]? =some .lv→C[i]?≠some none):EndCq 0 (srcs sp 0) L C fr h:=by
 unfold canon at hc
 obtain⟨hn,hc⟩:=cd_some hc
 obtain⟨hh,hc⟩:=cd_some hc
 obtain⟨hlen,hg⟩:=cvAll_inv hc
 have hq:(srcs sp 0).length=sp.length:=srcs_length sp 0
 have hf:∀(i:Nat) (s:Spc),sp[i]? =some s→from1 0 (srcs sp 0) (path i)=srcOf i s:=fun i s hs=>from1_zero _ _ _ (by rw[srcs_get sp 0 i s hs,Nat.zero_add])
 have hall:∀(i:Nat) (s:Spc),sp[i]? =some s→∃b,h.get (srcOf i s)=some b:=fun i s hs=>hasAll_mem hh _ (List.mem_of_getElem? (by rw[srcs_get sp 0 i s hs,Nat.zero_add]))
 have hcv:∀(i:Nat) (src:Id) (el:TypeId) (ks:List Kdc) (b:Option Blk),sp[i]? =some (.blk src el ks)→C[i]? =some b→∃l l0,b=some (.cs el l false)∧h.get src=some (.cs el l0 false)∧cvL (killS sp 0 h) (from1 0 (srcs sp 0)) ks l0=some l:=fun i src el ks b hs hb=>by
  obtain⟨s,h1,h2⟩:=hg i b hb
  rw[hs] at h1
  obtain rfl:=Oi h1
  have h2:(Option.rec none (fun l0=>Option.rec none (fun l=>some (some (.cs el l false))) (cvL (killS sp 0 h) (from1 0 (srcs sp 0)) ks l0)) (csOf (h.get src) el):Option (Option Blk))=some b:=h2
  cases h3:csOf (h.get src) el with
  |none=>rw[h3] at h2;cases h2
  |some l0=>
   rw[h3] at h2
   have h2:(Option.rec none (fun l=>some (some (.cs el l false))) (cvL (killS sp 0 h) (from1 0 (srcs sp 0)) ks l0):Option (Option Blk))=some b:=h2
   cases h4:cvL (killS sp 0 h) (from1 0 (srcs sp 0)) ks l0 with
   |none=>rw[h4] at h2;cases h2
   |some l=>
    rw[h4] at h2
    exact⟨l,l0,(Oi h2).symm,csOf_inv h3,h4⟩
 have hlv:∀(i:Nat) (b:Option Blk),sp[i]? =some .lv→C[i]? =some b→b=h.get (path i):=fun i b hs hb=>by
  obtain⟨s,h1,h2⟩:=hg i b hb
  rw[hs] at h1
  obtain rfl:=Oi h1
  have:=Oi (show some (h.get (path (0+i)))=some b from h2)
  rw[Nat.zero_add] at this;exact this.symm
 have hdd:∀(i:Nat) (b:Option Blk),sp[i]? =some .dd→C[i]? =some b→b=some .dead:=fun i b hs hb=>by
  obtain⟨s,h1,h2⟩:=hg i b hb
  rw[hs] at h1
  obtain rfl:=Oi h1
  exact(Oi (show some (some Blk.dead)=some b from h2)).symm
 have hsp:∀(i:Nat) (b:Option Blk),C[i]? =some b→∃s,sp[i]? =some s:=fun i b hb=>by obtain⟨s,h1,_⟩:=hg i b hb;exact⟨s,h1⟩
 have cell:∀(i:Nat) (src:Id) (el:TypeId) (ks:List Kdc) (l l0:List AV),sp[i]? =some (.blk src el ks)→C[i]? =some (some (.cs el l false))→cvL (killS sp 0 h) (from1 0 (srcs sp 0)) ks l0=some l→
  ∀(j:Nat) (y:AV),l[j]? =some y→∃x,l0[j]? =some x∧Wk (killS sp 0 h) (from1 0 (srcs sp 0)) x y∧one y=true∧avOk sp.length y:=fun i src el ks l l0 hs hb hcl j y hy=>by
  obtain⟨_,_,h3⟩:=cvL_inv hcl
  obtain⟨k,x,g1,g2,g3⟩:=h3 j y hy
  refine⟨x,g2,cvK_ok g3 (fun c hk=>?_) (fun hk=>?_) (fun hk=>?_)⟩
  ·subst hk
   have hs2:=List.all_eq_true.1 hok _ (List.mem_of_getElem? hs)
   have hs2:ks.all (kdOk sp.length)=true:=hs2
   have:=List.all_eq_true.1 hs2 _ (List.mem_of_getElem? g1)
   exact Nb this
  ·subst hk
   have hxy:x=y:=by
    unfold cvK at g3
    simp only at g3
    split at g3
    ·obtain⟨_,g3⟩:=cd_some g3
     exact Oi g3
    ·cases g3
   rw[hxy]
   exact hfx i src el ks l j y hs hb g1 hy
  ·subst hk
   obtain rfl:=Oi (show some x=some y from g3)
   exact hO i src el ks l j x hs hb g1 hy
 refine⟨killS sp 0 h,by rw[hlen,hq,Nat.zero_add],hL,by rw[hq,Nat.zero_add];exact hLo,?_,?_,?_,?_,?_,?_,?_⟩
 ·intro i c hcI
  obtain⟨s,hs⟩:=hsp i c hcI
  rw[hf i s hs]
  obtain⟨b',hb'⟩:=hall i s hs
  cases c with
  |some b=>exact⟨b',hb'⟩
  |none=>
   cases s with
   |blk src el ks=>obtain⟨l,l0,h1,_⟩:=hcv i src el ks _ hs hcI;cases h1
   |lv=>exact absurd hcI (hVn i hs)
   |dd=>have:=hdd i _ hs hcI;cases this
 ·intro i b hb hnd
  obtain⟨s,hs⟩:=hsp i _ hb
  have hfi:=hf i s hs
  cases s with
  |blk src el ks=>
   obtain⟨l,l0,h1,h2,h3⟩:=hcv i src el ks _ hs hb
   obtain rfl:=Oi h1
   refine .inr ⟨el,l,l0,rfl,by rw[hfi];exact h2,(cvL_inv h3).2.1,fun x hx=>?_,fun j y hy=>?_⟩
   ·obtain⟨j,hj⟩:=List.mem_iff_getElem?.1 hx
    obtain⟨_,_,_,g,_⟩:=cell i src el ks l l0 hs hb h3 j x hj
    exact g
   ·obtain⟨x,g1,g2,_⟩:=cell i src el ks l l0 hs hb h3 j y hy
    exact⟨x,g1,g2⟩
  |lv=>
   have h1:=hlv i _ hs hb
   left
   rw[hfi,(hV i b hs hb).1]
   exact h1.symm
  |dd=>have:=hdd i _ hs hb;exact absurd (Oi this) hnd
 ·rw[hq,Nat.zero_add]
  refine blksOk_of fun i c hcI=>?_
  obtain⟨s,hs⟩:=hsp i c hcI
  cases s with
  |blk src el ks=>
   obtain⟨l,l0,h1,h2,h3⟩:=hcv i src el ks _ hs hcI
   subst h1
   refine avOkL_all fun x hx=>?_
   obtain⟨j,hj⟩:=List.mem_iff_getElem?.1 hx
   obtain⟨_,_,_,_,g⟩:=cell i src el ks l l0 hs hcI h3 j x hj
   exact g
  |lv=>
   cases c with
   |none=>exact absurd hcI (hVn i hs)
   |some b=>exact(hV i b hs hcI).2
  |dd=>
   have:=hdd i _ hs hcI
   subst this
   trivial
 ·intro id b hb
  rcases killS_get sp 0 h id with h1|⟨h1,_⟩
  ·rw[h1] at hb;cases hb
  ·rw[←h1];exact hb
 ·intro i b hb hnd ⟨b',hb',_⟩
  obtain⟨s,hs⟩:=hsp i _ hb
  rw[hf i s hs] at hb'
  have hk:keptS s:=by
   intro he
   subst he
   exact hnd (Oi (hdd i _ hs hb))
  rcases killS_get sp 0 h (srcOf i s) with h1|⟨_,h1⟩
  ·rw[h1] at hb';cases hb'
  ·have:=h1 i s hs hk
   rw[Nat.zero_add] at this
   exact this rfl
 ·intro j c _ hcj
  cases c with
  |some b=>exact⟨b,rfl⟩
  |none=>
   obtain⟨s,hs⟩:=hsp j _ hcj
   cases s with
   |blk src el ks=>obtain⟨l,l0,h1,_⟩:=hcv j src el ks _ hs hcj;cases h1
   |lv=>exact absurd hcj (hVn j hs)
   |dd=>have:=hdd j _ hs hcj;cases this
 ·intro i j b c hi hj hb hc' he
  obtain⟨s,hs⟩:=hsp i _ hi
  obtain⟨t,ht⟩:=hsp j _ hj
  rw[hf i s hs,hf j t ht] at he
  refine nodS_inj sp 0 [] hn i j s t hs ht (fun e=>?_) (fun e=>?_) (by rw[Nat.zero_add,Nat.zero_add];exact he)
  ·subst e;exact hb (Oi (hdd i _ hs hi))
  ·subst e;exact hc' (Oi (hdd j _ ht hj))
theorem EndCq.zero {q:List Id}{L:List (List Bool×AV)}{C:List (Option Blk)}{fr:T AV}{h:H} (he:EndCq 0 q L C fr h):EndC 0 L C fr h:=⟨q,he⟩
end Go.Ev
end
noncomputable section
namespace Go.Proofs
def Tryz.lays138_ren:Go.Shelf.Ren:=⟨fun|138=>456|195=>578|218=>579|143=>527|219=>643|217=>730|225=>731|224=>732|267=>733|266=>790|314=>791|n=>n,fun|9=>9|3=>3|4=>4|5=>5|0=>0|46=>202|146=>690|51=>536|n=>n,fun|1=>0|n=>n⟩
theorem Tryz.lays138:Go.Proofs.Lays.n138 Tryz.prog Tryz.lays138_ren where
 mixed:=kr
 f138:=Tryz.func456.trans (congrArg some kr)
 f143:=Tryz.func527.trans (congrArg some kr)
 f195:=Tryz.func578.trans (congrArg some kr)
 f217:=Tryz.func730.trans (congrArg some kr)
 f218:=Tryz.func579.trans (congrArg some kr)
 f219:=Tryz.func643.trans (congrArg some kr)
 f224:=Tryz.func732.trans (congrArg some kr)
 f225:=Tryz.func731.trans (congrArg some kr)
 f266:=Tryz.func790.trans (congrArg some kr)
 f267:=Tryz.func733.trans (congrArg some kr)
 f314:=Tryz.func791.trans (congrArg some kr)
 t0:=Tryz.underlying0
 a0:=Tryz.isAgg0
 z0:=Tryz.sizeOf0
 v0:=Tryz.zeroValue0
 t3:=Tryz.underlying3
 a3:=Tryz.isAgg3
 z3:=Tryz.sizeOf3
 v3:=Tryz.zeroValue3
 t4:=Tryz.underlying4
 a4:=Tryz.isAgg4
 z4:=Tryz.sizeOf4
 v4:=Tryz.zeroValue4
 t5:=Tryz.underlying5
 a5:=Tryz.isAgg5
 z5:=Tryz.sizeOf5
 v5:=Tryz.zeroValue5
 t9:=Tryz.underlying9
 a9:=Tryz.isAgg9
 z9:=Tryz.sizeOf9
 v9:=Tryz.zeroValue9
 t46:=Tryz.underlying202
 a46:=Tryz.isAgg202
 z46:=Tryz.sizeOf202
 v46:=Tryz.zeroValue202
 t51:=Tryz.underlying536
 a51:=Tryz.isAgg536
 z51:=Tryz.sizeOf536
 v51:=Tryz.zeroValue536
 t146:=Tryz.underlying690
 a146:=Tryz.isAgg690
 z146:=Tryz.sizeOf690
 v146:=Tryz.zeroValue690
 g1:=kr
def Tryz.lays217_ren:Go.Shelf.Ren:=⟨fun|217=>730|266=>790|n=>n,fun|9=>9|5=>5|3=>3|n=>n,fun|n=>n⟩
theorem Tryz.lays217:Go.Proofs.Lays.n217 Tryz.prog Tryz.lays217_ren where
 mixed:=kr
 f217:=Tryz.func730.trans (congrArg some kr)
 f266:=Tryz.func790.trans (congrArg some kr)
 t3:=Tryz.underlying3
 a3:=Tryz.isAgg3
 z3:=Tryz.sizeOf3
 v3:=Tryz.zeroValue3
 t5:=Tryz.underlying5
 a5:=Tryz.isAgg5
 z5:=Tryz.sizeOf5
 v5:=Tryz.zeroValue5
 t9:=Tryz.underlying9
 a9:=Tryz.isAgg9
 z9:=Tryz.sizeOf9
 v9:=Tryz.zeroValue9
def Tryz.lays219_ren:Go.Shelf.Ren:=⟨fun|219=>643|217=>730|225=>731|224=>732|267=>733|266=>790|314=>791|n=>n,fun|9=>9|3=>3|4=>4|5=>5|46=>202|146=>690|51=>536|n=>n,fun|1=>0|n=>n⟩
theorem Tryz.lays219:Go.Proofs.Lays.n219 Tryz.prog Tryz.lays219_ren where
 mixed:=kr
 f217:=Tryz.func730.trans (congrArg some kr)
 f219:=Tryz.func643.trans (congrArg some kr)
 f224:=Tryz.func732.trans (congrArg some kr)
 f225:=Tryz.func731.trans (congrArg some kr)
 f266:=Tryz.func790.trans (congrArg some kr)
 f267:=Tryz.func733.trans (congrArg some kr)
 f314:=Tryz.func791.trans (congrArg some kr)
 t3:=Tryz.underlying3
 a3:=Tryz.isAgg3
 z3:=Tryz.sizeOf3
 v3:=Tryz.zeroValue3
 t4:=Tryz.underlying4
 a4:=Tryz.isAgg4
 z4:=Tryz.sizeOf4
 v4:=Tryz.zeroValue4
 t5:=Tryz.underlying5
 a5:=Tryz.isAgg5
 z5:=Tryz.sizeOf5
 v5:=Tryz.zeroValue5
 t9:=Tryz.underlying9
 a9:=Tryz.isAgg9
 z9:=Tryz.sizeOf9
 v9:=Tryz.zeroValue9
 t46:=Tryz.underlying202
 a46:=Tryz.isAgg202
 z46:=Tryz.sizeOf202
 v46:=Tryz.zeroValue202
 t51:=Tryz.underlying536
 a51:=Tryz.isAgg536
 z51:=Tryz.sizeOf536
 v51:=Tryz.zeroValue536
 t146:=Tryz.underlying690
 a146:=Tryz.isAgg690
 z146:=Tryz.sizeOf690
 v146:=Tryz.zeroValue690
 g1:=kr
end Go.Proofs
namespace Go.Ev
open Go.Proofs Go.Shelf Go.Sort
def preB (a b:List Nat):Bool:=
 List.rec (motive:=fun _=>List Nat→Bool) (fun _=>true) (fun x _ ih=>List.rec false (fun y ys _=>cd (Nat.beq x y) (ih ys) false)) a b
theorem preB_eq:∀(a b:List Nat),(∀c∈a,c<256)→(∀c∈b,c<256)→preB a b=(U8 a).isPrefixOf (U8 b)
 |[],b,_,_=>by simp[preB,U8]
 |x::a,[],_,_=>by simp[preB,U8]
 |x::a,y::b,ha,hb=>by
  have ih:=preB_eq a b (fun c hc=>ha c (Loz _ hc)) (fun c hc=>hb c (Loz _ hc))
  have:preB (x::a) (y::b)=cd (Nat.beq x y) (preB a b) false:=rfl
  rw[this,ih]
  have h:=u8_eq (ha x (Mc ..)) (hb y (Mc ..))
  simp only[U8,List.map_cons,List.isPrefixOf_cons_cons,h]
  cases Nat.beq x y<;>simp[cd]
def idxS (a:List Nat) (l:List Nat):Nat→Int:=
 List.rec (motive:=fun _=>Nat→Int) (fun i=>cd (preB a []) (.ofNat i) (.negSucc 0)) (fun x xs ih i=>cd (preB a (x::xs)) (.ofNat i) (ih (Nat.succ i))) l
theorem idxS_eq (a:List Nat) (ha:∀c∈a,c<256):∀(l:List Nat) (i:Nat),(∀c∈l,c<256)→idxS a l i=if Lib.index (U8 l) (U8 a)= -1 then -1 else(i:Int)+Lib.index (U8 l) (U8 a)
 |[],i,hl=>by
  have:idxS a [] i=cd (preB a []) (.ofNat i) (.negSucc 0):=rfl
  rw[this,preB_eq a [] ha hl]
  cases a<;>simp[U8,Lib.index,cd]
 |x::l,i,hl=>by
  have ih:=idxS_eq a ha l (i+1) (fun c hc=>hl c (Loz _ hc))
  have:idxS a (x::l) i=cd (preB a (x::l)) (.ofNat i) (idxS a l (i+1)):=rfl
  rw[this,ih,preB_eq a (x::l) ha hl]
  have hU:U8 (x::l)=UInt8.ofNat x::U8 l:=rfl
  rw[hU]
  have hge:=Lib.index_ge (U8 l) (U8 a)
  simp only[Lib.index]
  rcases Bool.eq_false_or_eq_true ((U8 a).isPrefixOf (UInt8.ofNat x::U8 l)) with hp|hp
  ·simp[hp,cd]
  ·simp only[hp,cd,Bool.false_eq_true,if_false,beq_iff_eq]
   split
   ·simp
   ·rw[if_neg om];push_cast;omega
theorem idxB_eq (c:Nat) (hc:c<256):∀(l:List Nat) (i:Nat),(∀c∈l,c<256)→idxB c l i=if Lib.indexByte (U8 l) (UInt8.ofNat c)= -1 then -1 else(i:Int)+Lib.indexByte (U8 l) (UInt8.ofNat c)
 |[],i,hl=>by simp[idxB,U8,Lib.indexByte]
 |x::l,i,hl=>by
  have ih:=idxB_eq c hc l (i+1) (fun c hc=>hl c (Loz _ hc))
  have:idxB c (x::l) i=cd (Nat.beq x c) (.ofNat i) (idxB c l (i+1)):=rfl
  rw[this,ih]
  have hU:U8 (x::l)=UInt8.ofNat x::U8 l:=rfl
  have hge:=Lib.indexByte_ge (U8 l) (UInt8.ofNat c)
  rw[hU]
  simp only[Lib.indexByte,u8_eq (hl x (Mc ..)) hc]
  cases Nat.beq x c with
  |true=>simp[cd]
  |false=>
   simp only[cd,Bool.false_eq_true,if_false,beq_iff_eq]
   split
   ·simp
   ·rw[if_neg om];push_cast;omega
theorem cntB_eq (c:Nat) (hc:c<256):∀(l:List Nat),(∀c∈l,c<256)→cntB c l=Lib.countByte (U8 l) (UInt8.ofNat c)
 |[],hl=>by simp[cntB,U8,Lib.countByte]
 |x::l,hl=>by
  have ih:=cntB_eq c hc l (fun c hc=>hl c (Loz _ hc))
  have:cntB c (x::l)=cd (Nat.beq x c) (Nat.succ (cntB c l)) (cntB c l):=rfl
  rw[this,ih]
  have hU:U8 (x::l)=UInt8.ofNat x::U8 l:=rfl
  rw[hU]
  unfold Lib.countByte
  rw[List.count_cons,u8_eq (hl x (Mc ..)) hc]
  cases Nat.beq x c<;>simp[cd]
theorem index_ite (x:Int):(if x= -1 then(-1:Int) else((0:Nat):Int)+x)=x:=by split<;>omega
def xIdxS (l:List AV):Option AV:=match l with
 |[.s n l,.s _ a]=>cd (Nat.ble n 1000000) (some (.i .i64 (idxS a l 0))) none
 |_=>none
def xIdxB (l:List AV):Option AV:=match l with
 |[.s _ l,.i .u8 (.ofNat c)]=>cd (Nat.blt c 256) (some (.i .i64 (idxB c l 0))) none
 |_=>none
def xCnt (l:List AV):Option AV:=match l with
 |[.s _ l,.s _ [c]]=>some (.i .i64 (.ofNat (cntB c l)))
 |_=>none
def xId (l:List AV):Option AV:=match l with
 |[x]=>some x
 |_=>none
def xFmt (l:List AV):Option AV:=match l with
 |[.i .i64 a,.i .i64 b]=>cd (cd (iEq b (J 10)) (cd (iLe (.negSucc 9223372036854775807) a) (iLe a (J 9223372036854775807)) false) false) (some (.s (U (itoaN a)) (itoaN a))) none
 |_=>none
theorem Does.of_calls {P:Program}{f:Nat}{vs:Array Value}{e:Env}{v:AV}{cv:Value} (he:∀args w,(callFunc f args).run P w=.ok (.enter f args) w)
 (hc:Calls P f vs e.w fun x w'=>x=.returned cv∧w'=e.w) (hs:St e) (hr:Rel e v cv):
 Does P f vs e.w (fun cv w'=>∃e',e'.w=w'∧e'.h=e.h∧St e'∧Ext e e'∧Rel e' v cv):=by
 refine .inr ⟨he _ _,hc.mono ?_⟩
 rintro x w' ⟨rfl,rfl⟩
 exact⟨cv,rfl,e,rfl,rfl,hs,Ext.refl e,hr⟩
def ExtOk (B:Nat) (f:Nat) (g:List AV→Option AV):Prop:=∀args v e vs,g args=some v→St e→GRel (GG B) e→RelL e args vs→
 Does PP f vs.toArray e.w (fun cv w'=>∃e',e'.w=w'∧e'.h=e.h∧St e'∧Ext e e'∧Rel e' v cv)
theorem ExOk.cons {B f:Nat}{g:List AV→Option AV}{E:Exs} (h:ExtOk B f g) (hE:ExOk B E):ExOk B ((f,g)::E):=fun q hq=>by
 rcases List.mem_cons.1 hq with rfl|hq
 ·exact h
 ·exact hE q hq
theorem maxlen_of {B:Nat}{e:Env} (hg:GRel (GG B) e):∃m:Int,e.w.cell? ⟨0,0,none⟩=some (.int .i64 m):=by
 obtain⟨m,h1⟩:=hg.2.2.1 0 rfl
 refine⟨m,?_⟩
 simp only[Rel] at h1
 obtain⟨b,o,us,hv,hi,hcs,hT⟩:=h1
 injection hv with hv;injection hv with hv;injection hv with g1 g2
 subst g1
 obtain rfl:o=0:=om
 have hT:us=[.int .i64 m]:=hT
 subst hT
 have:=hcs 0 (.int .i64 m) rfl
 exact this
theorem xIdxS_ok {B:Nat}:ExtOk B 643 xIdxS:=by
 intro args v e vs hx hs hg hr
 unfold xIdxS at hx
 split at hx
 ·rename_i n l k a
  obtain⟨u,u',rfl,h1,h2⟩:=rel_two hr
  simp only[Rel] at h1 h2
  obtain⟨⟨hn,_⟩,hl,rfl⟩:=h1
  obtain⟨_,ha,rfl⟩:=h2
  obtain⟨hb,hx⟩:=cd_some hx
  obtain rfl:=Oi hx
  have hle:=Nb hb
  obtain⟨m,hm⟩:=maxlen_of hg
  refine Does.of_calls (enters_of Tryz.func643 kr rfl) (Any.stringslite_Index Tryz.lays219 (strOf l) (strOf a) m e.w ?_ hm) hs ?_
  ·have:(strOf l).size=l.length:=by simp[strOf,ByteArray.size]
   omega
  ·simp only[Rel]
   rw[idxS_eq a ha l 0 hl,index_ite,strOf_list,strOf_list]
 ·cases hx
theorem xIdxB_ok {B:Nat}:ExtOk B 730 xIdxB:=by
 intro args v e vs hx hs hg hr
 unfold xIdxB at hx
 split at hx
 ·rename_i n l c
  obtain⟨u,u',rfl,h1,h2⟩:=rel_two hr
  simp only[Rel] at h1 h2
  obtain⟨hn,hl,rfl⟩:=h1
  subst h2
  obtain⟨hb,hx⟩:=cd_some hx
  obtain rfl:=Oi hx
  have hlt:c<256:=Nat.lt_succ_of_le (by simpa[Nat.blt] using hb)
  refine Does.of_calls (enters_of Tryz.func730 kr rfl) (Any.stringslite_IndexByte Tryz.lays217 (strOf l) (.ofNat c) e.w) hs ?_
  simp only[Rel]
  rw[idxB_eq c hlt l 0 hl,index_ite,strOf_list]
  rfl
 ·cases hx
theorem xCnt_ok {B:Nat}:ExtOk B 456 xCnt:=by
 intro args v e vs hx hs hg hr
 unfold xCnt at hx
 split at hx
 ·rename_i n l k c
  obtain⟨u,u',rfl,h1,h2⟩:=rel_two hr
  simp only[Rel] at h1 h2
  obtain⟨hn,hl,rfl⟩:=h1
  obtain⟨_,ha,rfl⟩:=h2
  obtain rfl:=Oi hx
  refine Does.of_calls (enters_of Tryz.func456 kr rfl) (Any.strings_Count_one Tryz.lays138 (strOf l) (UInt8.ofNat c) e.w) hs ?_
  simp only[Rel]
  rw[strOf_list,←cntB_eq c (ha c (Mc ..)) l hl]
  rfl
 ·cases hx
theorem value156 (x:Value) (w:World):(callFunc 734 #[x]).run Tryz.prog w=.ok (.value x) w:=by
 have h1:Tryz.f734.name≠ "runtime.NumGoroutine" :=by
  have:(Tryz.f734.name== "runtime.NumGoroutine")=false:=kr
  simpa using this
 have h2:Tryz.f734.body=none:=by rfl
 have h3:Extern.findNext Tryz.f734=none:=by rfl
 have h4:Extern.find Tryz.f734=some Extern.AbiNoEscape.same:=by rfl
 have h5:(Extern.AbiNoEscape.same #[x]).run Tryz.prog w=.ok x w:=rfl
 simp[callFunc,Tryz.func734,h1,h2,h3,h4,mark]
 rfl
theorem xId_ok {B:Nat}:ExtOk B 734 xId:=by
 intro args v e vs hx hs hg hr
 unfold xId at hx
 split at hx
 ·rename_i x
  obtain rfl:=Oi hx
  match vs,hr with
  |[u],hr=>
   simp only[RelL] at hr
   exact .inl ⟨u,e.w,value156 u e.w,e,rfl,rfl,hs,Ext.refl e,hr.1⟩
  |[],hr=>simp[RelL] at hr
  |_::_::_,hr=>simp[RelL] at hr
 ·cases hx
theorem ext_grow {e:Env} (hs:St e) (k:Nat) (os:Array Obj):St ⟨e.ρ,e.h,grow (e.w.drewN k) os,e.F⟩∧Ext e ⟨e.ρ,e.h,grow (e.w.drewN k) os,e.F⟩:=by
 have hkeep:∀b,b<e.w.heap.size→(grow (e.w.drewN k) os).heap[b]? =e.w.heap[b]? :=fun b hb=>by
  show(e.w.heap++os)[b]? =_
  rw[Array.getElem?_append_left hb]
 have hx:Ext e ⟨e.ρ,e.h,grow (e.w.drewN k) os,e.F⟩:={
  next:=Nr _
  kn:=fun _ h=>h
  ren:=fun _ _=>rfl
  fr:=rfl
  qt:=⟨rfl,rfl,rfl⟩
  heap:=by show e.w.heap.size≤(e.w.heap++os).size;simp
  keep:=fun b hb _=>hkeep b hb
  size:=fun b hb=>by simp only[bsize,hkeep b hb]
  own:=fun _ _ h=>h
  pres:=fun _ b h=>⟨b,h⟩
  newk:=fun _ h=>.inl h}
 refine⟨?_,hx⟩
 exact{
  kn:=hs.kn
  dk:=hs.dk
  lo:=hs.lo
  blk:=fun id b hb=>by
   by_cases hd:b=.dead
   ·subst hd;trivial
   ·exact BlkRel.ext hx (hs.dk id b hb) (hkeep _ (hs.lt ⟨b,hb,hd⟩)) b (hs.blk id b hb)
  inj:=hs.inj
  fr:=fun b hb=>⟨Nl (hs.fr b hb).1 hx.heap,(hs.fr b hb).2⟩}
theorem xFmt_ok {B:Nat}:ExtOk B 453 xFmt:=by
 intro args v e vs hx hs hg hr
 unfold xFmt at hx
 split at hx
 ·rename_i a b
  obtain⟨u,u',rfl,h1,h2⟩:=rel_two hr
  simp only[Rel] at h1 h2
  subst h1 h2
  obtain⟨hb,hx⟩:=cd_some hx
  obtain⟨hb,hc⟩:=cd_true hb
  obtain⟨hc,hd⟩:=cd_true hc
  obtain rfl:=Oi hx
  rw[iEq_eq] at hb
  rw[iLe_eq] at hc hd
  obtain rfl:b=10:=by simpa using hb
  have hc:(-9223372036854775808:Int)≤a:=by simpa using hc
  have hd:a≤(9223372036854775807:Int):=by simpa using hd
  refine .inr ⟨enters_of Tryz.func453 kr rfl _ _,(Any.strconv_FormatInt_10 Tryz.lays173 a hc hd e.w (tab_of hg)).mono ?_⟩
  rintro o w' ⟨rfl,k,os,rfl⟩
  obtain⟨q1,q2⟩:=ext_grow hs k os
  refine⟨_,rfl,⟨e.ρ,e.h,grow (e.w.drewN k) os,e.F⟩,rfl,rfl,q1,q2,?_⟩
  simp only[Rel]
  refine⟨⟨trivial,?_⟩,itoaN_lt a,?_⟩
  ·have:=c49_p a 10 hc hd
   have:U (α:=Nat) (itoaN a)≤21:=this
   omega
  ·rw[←itoaN_eq];rfl
 ·cases hx
def EX:Exs:=[(758,pintX),(643,xIdxS),(730,xIdxB),(456,xCnt),(734,xId),(453,xFmt)]
theorem EX_ok {B:Nat}:ExOk B EX:=ExOk.cons (fun args v e vs=>pint_ok _ (List.mem_singleton.2 rfl) args v e vs) (ExOk.cons xIdxS_ok (ExOk.cons xIdxB_ok (ExOk.cons xCnt_ok (ExOk.cons xId_ok (ExOk.cons xFmt_ok exOk0)))))
end Go.Ev
end
noncomputable section
namespace Go.Ev
open Go.Proofs
section
variable {Bn:Nat} [BOk Bn]{call:CallF}{nt rid:Nat}{ops:Array Oper}{fr fr':T AV}{h h':H}{Q:Ex→T AV→H→Prop}{x y:Code}
end
theorem ev_rem {call:CallF}{o:AOp}{fr:T AV}{h:H}{k:IntKind}{a b:Int} (hb:@Ne Int b 0) (hv:viewBin o fr=some (.rem,.i k a,.i k b)) (id:Nat):evOp call o fr h id=.ok (.i k (Int.tmod a b)) h:=by
 unfold viewBin at hv
 split at hv
 ·simp only[Oj,Prod.mk.injEq] at hv
  obtain⟨h1,h2,h3⟩:=hv
  rename_i op x' y'
  show okV _ (binA op (ev x' _) (ev y' _))=_
  rw[h1,h2,h3]
  have:binA .rem (.i k a) (.i k b)=some (.i k (Int.tmod a b)):=by
   show cd (kEq k k) (cd (iEq b (J 0)) none (some (AV.i k (Int.tmod a b)))) none=_
   have h0:iEq b (J 0)=false:=by
    cases h0:iEq b (J 0) with
    |false=>rfl
    |true=>exact absurd (ieq_t h0) hb
   rw[h0]
   cases k<;>rfl
  rw[this];rfl
 ·cases hv
section
variable {C:CJ}{base:Nat}{s:RS}{Q:T AV→H→Prop}
theorem yrm (k:Nat) (kd:IntKind) (a b:Int) (hb:@Ne Int b 0) (hr:RJ C base ((s.at C base k).put (.i kd (Int.tmod a b)) (s.at C base k).h) Q)
 (hok:s.okS C base k=true:=by kernel_rfl) (hv:viewBin (s.at C base k).op.op (s.at C base k).fr=some (.rem,.i kd a,.i kd b):=by kernel_rfl):RJ C base s Q:=RJ.step k _ _ (ev_rem hb hv _) hr hok
end
section
variable {call:CallF}{base:Nat}{ops:List AO}{fr:T AV}{h:H}{Q:T AV→H→Prop}
end
section
variable {Bn nt:Nat}{u:Us Bn}{τ:Type}{E:τ→Ex→T AV→H→Prop}{q:Cf}
end
section
variable {Bn nt:Nat}{u:Us Bn}{q:Cf}
end
section
variable {P:Program}{G:Gs}{nt:Nat}{fr:T AV}{h:H}{Q:Ex→T AV→H→Prop}
end
section
variable {Bn nt:Nat}{u:Us Bn}{τ:Type}{E:τ→Ex→T AV→H→Prop}{z:τ}{q:Cf}
end
section
variable {P:Program}{G:Gs}{nt:Nat}{fr:T AV}{h:H}{Q:Ex→T AV→H→Prop}
end
section
variable {Bn nt:Nat}{u:Us Bn}{τ:Type}{E:τ→Ex→T AV→H→Prop}{z:τ}{q:Cf}
end
section
variable {call:CallF}{base:Nat}{ops:List AO}{fr:T AV}{h:H}{Q:T AV→H→Prop}
end
end Go.Ev
end
noncomputable section
namespace Go.Ev
end Go.Ev
end
noncomputable section
namespace Go.Ev
abbrev y242:Ty:=(.pair (.int .i64) (.pair (.int .i64) (.pair (.int .i64) .str)))
abbrev y261:Ty:=(.pair .str (.pair .str (.pair (.int .i64) (.sl .str))))
abbrev y42:Ty:=(.pair (.sl y242) (.sl y261))
abbrev y637:Ty:=(.pair (.int .i64) (.pair .str (.int .i64)))
abbrev y195:Ty:=(.pair .str (.sl .str))
abbrev y346:Ty:=(.pair .bool (.pair (.int .i64) (.pair (.int .i64) (.pair (.int .i64) (.int .i64)))))
abbrev pStr:List Par:=[⟨false,.str⟩]
abbrev pInt:List Par:=[⟨false,.int .i64⟩]
end Go.Ev
end
noncomputable section
namespace Go.Ev
abbrev zIns:Ty:=(.pair (.int .i64) (.pair (.int .i64) (.pair (.int .i64) .str)))
abbrev zEntry:Ty:=(.pair .str (.pair .str (.pair (.int .i64) (.sl .str))))
abbrev zProgram:Ty:=(.pair (.sl zIns) (.sl zEntry))
abbrev zTrigger:Ty:=(.pair (.int .i64) (.pair .str (.pair (.sl .str) (.pair .bool (.pair .bool (.pair .str .str))))))
abbrev zNode:Ty:=(.pair .str (.pair (.sl .str) .str))
abbrev zLock:Ty:=(.pair (.int .i64) (.pair (.int .i64) (.pair .str (.sl .str))))
abbrev zLocks:Ty:=(.pair (.sl zLock) (.sl zLock))
abbrev zRef:Ty:=(.pair .bool (.pair .str (.sl .str)))
abbrev zGiven:Ty:=(.pair .bool .str)
abbrev zLoop:Ty:=(.pair .str (.pair (.int .i64) (.pair (.int .i64) (.pair .bool (.pair (.int .i64) (.int .i64))))))
abbrev zFrame:Ty:=(.pair (.int .i64) (.pair .bool (.pair .bool (.pair (.int .i64) (.pair (.int .i64) (.pair (.int .i64) (.pair (.int .i64) (.pair .str .str))))))))
abbrev zBind:Ty:=(.pair .str (.int .i64))
abbrev zCell:Ty:=(.pair (.int .i64) (.sl zNode))
abbrev zLocals:Ty:=(.pair (.int .i64) (.pair (.sl zBind) (.pair (.sl zCell) (.sl (.sl zBind)))))
abbrev zMachine:Ty:=(.pair (.int .i64) (.pair (.int .i64) (.pair (.sl .str) (.pair (.sl zRef) (.pair (.sl zGiven) (.pair (.sl zLoop) (.pair (.sl zFrame) (.pair zLocals (.pair .bool (.pair .bool (.pair zRef (.pair (.int .i64) (.pair (.int .i64) (.pair (.int .i64) (.pair (.int .i64) .str)))))))))))))))
abbrev zEvent:Ty:=(.pair (.int .i64) (.pair .str (.pair (.sl .str) (.pair .str (.int .i64)))))
abbrev zTrans:Ty:=(.pair (.int .i64) (.pair (.int .i64) (.sl zEvent)))
abbrev zJob:Ty:=(.pair (.int .i64) (.pair zMachine (.pair zTrans (.pair zMachine (.pair .str (.pair (.sl .str) (.pair (.sl zLock) (.pair (.int .i64) (.pair (.sl .str) .str)))))))))
abbrev zBatch:Ty:=(.pair (.int .i64) (.sl zEvent))
abbrev zWorld:Ty:=(.pair (.int .i64) (.pair zProgram (.pair (.sl zTrigger) (.pair (.sl zNode) (.pair zLocks (.pair (.sl zJob) (.pair (.int .i64) (.sl zBatch))))))))
end Go.Ev
end
noncomputable section
namespace Go.Ev
open Go.Proofs
theorem shrink {e e':Env}{n:Nat} (hs:St e) (hs':St e') (hx:Ext e e') (hh:e'.h=⟨n,e.h.t⟩):St ⟨e'.ρ,e.h,e'.w,e'.F⟩∧Ext e ⟨e'.ρ,e.h,e'.w,e'.F⟩:=by
 have hget:∀id,e'.h.get id=e.h.get id:=fun id=>by rw[hh];rfl
 have hown:∀b,Own (⟨e'.ρ,e.h,e'.w,e'.F⟩:Env) b↔Own e' b:=fun b=>by
  constructor
  ·rintro ⟨id,⟨c,h1,h2⟩,h3⟩;exact⟨id,⟨c,by rw[hget];exact h1,h2⟩,h3⟩
  ·rintro ⟨id,⟨c,h1,h2⟩,h3⟩;exact⟨id,⟨c,by rw[←hget];exact h1,h2⟩,h3⟩
 have hkk:∀id,known e' id→known e id:=fun id hk=>by
  rcases hx.newk id hk with h|⟨b,hb⟩
  ·exact h
  ·rw[hget] at hb;exact hs.dk id b hb
 have hx2:Ext e ⟨e'.ρ,e.h,e'.w,e'.F⟩:={
  next:=Nr _
  kn:=hx.kn
  ren:=hx.ren
  fr:=hx.fr
  heap:=hx.heap
  keep:=hx.keep
  size:=hx.size
  own:=fun b hb ho=>hx.own b hb ((hown b).1 ho)
  pres:=fun id b hb=>⟨b,hb⟩
  newk:=fun id hk=>.inl (hkk id hk)
  qt:=hx.qt}
 refine⟨?_,hx2⟩
 exact{
  kn:=fun id hk=>by
   obtain⟨k,h1,h2,h3⟩:=hs.kn id (hkk id hk)
   exact⟨k,h1,h2,fun hl=>h3 (by rw[←hx.fr];exact hl)⟩
  dk:=fun id b hb=>hs'.dk id b (by rw[hget];exact hb)
  lo:=by show e'.F.lo≤e.h.next;rw[hx.fr];exact hs.lo
  blk:=fun id b hb=>by
   have h0:=hs'.blk id b (by rw[hget];exact hb)
   exact BlkRel.mono (e:=e') (e':=⟨e'.ρ,e.h,e'.w,e'.F⟩) rfl rfl ⟨fun c hc=>⟨hc.1,hc.2.1,fun ho=>hc.2.2 ((hown c).1 ho)⟩,Nr _⟩ b h0
  inj:=fun id id' ⟨b,h1,h2⟩ ⟨c,h3,h4⟩ he=>hs'.inj id id' ⟨b,by rw[hget];exact h1,h2⟩ ⟨c,by rw[hget];exact h3,h4⟩ he
  fr:=fun b hb=>⟨(hs'.fr b hb).1,fun ho=>(hs'.fr b hb).2 ((hown b).1 ho)⟩}
def cloneG (args:List AV) (_:H):Option AV:=match args with
 |[.isl _ []]=>some .em
 |[.em]=>some .em
 |[.sl _ _ _ 0 0 _]=>some .em
 |_=>none
def cloneL:List Nat:=[315,199,197,119,198,356,100]
def mixT (t:FT):FT:=FT.rec .none (fun af=>.mix cloneG af) (fun g=>.ext g) (fun g=>.exth g) (fun g af=>.mix g af) t
def tblR (B:Nat) (L:List Con) (E:Exs) (f:Nat):FT:=cd (natIn f cloneL) (mixT (codeT B f)) (tblC B L E f)
section
variable {B:Nat} [BOk B]
def CloneRun (B f:Nat):Prop:=∀h:H,(∃n,evF (tblC B [] []) 3 f [.v (.slice none 0 0)] h=.ok (.v (.slice none 0 0)) ⟨n,h.t⟩)∧∀a c,∃n,evF (tblC B [] []) 3 f [.v (.slice (some a) 0 c)] h=.ok .em ⟨n,h.t⟩
theorem clone_315:CloneRun B 315:=fun h=>⟨⟨h.next,kr⟩,fun _ _=>⟨Nat.add h.next 1,kr⟩⟩
theorem clone_199:CloneRun B 199:=fun h=>⟨⟨h.next,kr⟩,fun _ _=>⟨Nat.add h.next 1,kr⟩⟩
theorem clone_197:CloneRun B 197:=fun h=>⟨⟨h.next,kr⟩,fun _ _=>⟨Nat.add h.next 1,kr⟩⟩
theorem clone_119:CloneRun B 119:=fun h=>⟨⟨h.next,kr⟩,fun _ _=>⟨Nat.add h.next 1,kr⟩⟩
theorem clone_198:CloneRun B 198:=fun h=>⟨⟨h.next,kr⟩,fun _ _=>⟨Nat.add h.next 1,kr⟩⟩
theorem clone_356:CloneRun B 356:=fun h=>⟨⟨h.next,kr⟩,fun _ _=>⟨Nat.add h.next 1,kr⟩⟩
theorem clone_100:CloneRun B 100:=fun h=>⟨⟨h.next,kr⟩,fun _ _=>⟨Nat.add h.next 1,kr⟩⟩
theorem cloneRuns:∀f,natIn f cloneL=true→CloneRun B f:=fun f h=>by
 have h:f∈cloneL:=by
  have key:∀l:List Nat,natIn f l=true→f∈l:=fun l=>by
   induction l with
   |nil=>intro h;cases h
   |cons x l ih=>
    intro h
    have h:cd (Nat.beq x f) true (natIn f l)=true:=h
    cases hb:Nat.beq x f with
    |true=>rw[Nq hb];exact Mc ..
    |false=>rw[hb] at h;exact Loz _ (ih h)
  exact key _ h
 unfold cloneL at h
 simp only[List.mem_cons,List.not_mem_nil,or_false] at h
 rcases h with rfl|rfl|rfl|rfl|rfl|rfl|rfl
 ·exact clone_315
 ·exact clone_199
 ·exact clone_197
 ·exact clone_119
 ·exact clone_198
 ·exact clone_356
 ·exact clone_100
theorem rel1 {e:Env}{a:AV}:∀{vs:List Value},RelL e [a] vs→∃x,vs=[x]∧Rel e a x
 |[x],h=>⟨x,rfl,by simp only[RelL] at h;exact h.1⟩
 |[],h=>by simp[RelL] at h
 |_::_::_,h=>by simp[RelL] at h
theorem clone_ok {f:Nat} (hf:CloneRun B f) (args:List AV) (v:AV) (e:Env) (vs:List Value) (h:cloneG args e.h=some v) (hs:St e) (hG:GRel (GG B) e) (hr:RelL e args vs):
 Does PP f vs.toArray e.w (fun cv w'=>∃e',e'.w=w'∧e'.h=e.h∧St e'∧Ext e e'∧Rel e' v cv):=by
 have key:∀x:Value,(x=.slice none 0 0∨∃a c,x=.slice (some a) 0 c)→vs=[x]→v=.em→Does PP f vs.toArray e.w (fun cv w'=>∃e',e'.w=w'∧e'.h=e.h∧St e'∧Ext e e'∧Rel e' v cv):=by
  rintro x hx rfl rfl
  rcases hx with rfl|⟨a,c,rfl⟩
  ·obtain⟨n,hn⟩:=(hf e.h).1
   refine Does.mono (evF_sound hmix (tblC_ok ok0 exOk0) 3 f _ _ _ e _ hn hs hG (by simp[RelL,Rel,nilish])) ?_
   rintro cv w' ⟨e',hw,hh,hs',hx',h4⟩
   subst hw
   obtain⟨q1,q2⟩:=shrink hs hs' hx' hh
   simp only[Rel] at h4
   exact⟨⟨e'.ρ,e.h,e'.w,e'.F⟩,rfl,rfl,q1,q2,by simp only[Rel];exact⟨none,h4.1⟩⟩
  ·obtain⟨n,hn⟩:=(hf e.h).2 a c
   refine Does.mono (evF_sound hmix (tblC_ok ok0 exOk0) 3 f _ _ _ e _ hn hs hG (by simp[RelL,Rel,nilish])) ?_
   rintro cv w' ⟨e',hw,hh,hs',hx',h4⟩
   subst hw
   obtain⟨q1,q2⟩:=shrink hs hs' hx' hh
   exact⟨⟨e'.ρ,e.h,e'.w,e'.F⟩,rfl,rfl,q1,q2,by simp only[Rel] at h4⊢;exact h4⟩
 unfold cloneG at h
 split at h
 ·rename_i t
  obtain rfl:=Oi h
  obtain⟨x,hx,hr⟩:=rel1 hr
  refine key x ?_ hx rfl
  rcases rel_isl.1 hr with ⟨_,h⟩|⟨a,c,h,_⟩
  ·exact .inl h
  ·exact .inr ⟨a,c,h⟩
 ·obtain rfl:=Oi h
  obtain⟨x,hx,hr⟩:=rel1 hr
  refine key x ?_ hx rfl
  simp only[Rel] at hr
  obtain⟨a,h⟩:=hr
  cases a with
  |none=>exact .inl h
  |some a=>exact .inr ⟨a,0,h⟩
 ·obtain rfl:=Oi h
  obtain⟨x,hx,hr⟩:=rel1 hr
  refine key x ?_ hx rfl
  simp only[Rel] at hr
  obtain⟨_,a,cap,h,_,_,_,h4⟩:=hr
  cases a with
  |some a=>exact .inr ⟨a,cap,h⟩
  |none=>
   rcases h4 with h4|⟨h4,_⟩
   ·subst h4;exact .inl h
   ·cases h4
 ·cases h
theorem mixT_cases (t:FT):(∃af,t=.code af∧mixT t=.mix cloneG af)∨(mixT t=t∧∀af,t≠.code af)∨(t=.none∧mixT t=.none):=by
 cases t with
 |code af=>exact .inl ⟨af,rfl,rfl⟩
 |none=>exact .inr (.inr ⟨rfl,rfl⟩)
 |ext g=>exact .inr (.inl ⟨rfl,fun _ h=>by cases h⟩)
 |exth g=>exact .inr (.inl ⟨rfl,fun _ h=>by cases h⟩)
 |mix g af=>exact .inr (.inl ⟨rfl,fun _ h=>by cases h⟩)
theorem tblR_cases (L:List Con) (E:Exs) (f:Nat):(natIn f cloneL=true∧∃af,codeT B f=.code af∧tblR B L E f=.mix cloneG af)∨tblR B L E f=.none∨tblR B L E f=tblC B L E f:=by
 have e0:tblR B L E f=cd (natIn f cloneL) (mixT (codeT B f)) (tblC B L E f):=rfl
 rw[e0]
 cases hn:natIn f cloneL with
 |false=>exact .inr (.inr rfl)
 |true=>
  show(true=true∧_)∨mixT (codeT B f)=.none∨mixT (codeT B f)=_
  rcases mixT_cases (codeT B f) with ⟨af,h1,h2⟩|⟨h1,h2⟩|⟨h1,h2⟩
  ·exact .inl ⟨rfl,af,h1,h2⟩
  ·cases hc:codeT B f with
   |code af=>exact absurd hc (h2 af)
   |none=>exact .inr (.inl rfl)
   |ext g=>exact absurd hc codeT_no
   |exth g=>exact absurd hc codeT_noh
   |mix g af=>exact absurd hc codeT_nom
  ·exact .inr (.inl h2)
theorem tblR_ok {L:List Con}{E:Exs} (hL:Okl B L) (hE:ExOk B E):Tbl PP (GG B) (tblR B L E) where
 code:=fun f af h=>by
  rcases tblR_cases (B:=B) L E f with ⟨_,_,_,h1⟩|h1|h1
  ·rw[h1] at h;cases h
  ·rw[h1] at h;cases h
  ·rw[h1] at h;exact(tblC_ok hL hE).code f af h
 mix:=fun f g af h=>by
  rcases tblR_cases (B:=B) L E f with ⟨hn,af',hc,h1⟩|h1|h1
  ·rw[h1] at h
   injection h with h2 h3
   subst h2 h3
   exact⟨codeT_code hc,fun args v e vs=>clone_ok (cloneRuns f hn) args v e vs⟩
  ·rw[h1] at h;cases h
  ·rw[h1] at h;exact(tblC_ok hL hE).mix f g af h
 ext:=fun f g h=>by
  rcases tblR_cases (B:=B) L E f with ⟨_,_,_,h1⟩|h1|h1
  ·rw[h1] at h;cases h
  ·rw[h1] at h;cases h
  ·rw[h1] at h;exact(tblC_ok hL hE).ext f g h
 exth:=fun f g h=>by
  rcases tblR_cases (B:=B) L E f with ⟨_,_,_,h1⟩|h1|h1
  ·rw[h1] at h;cases h
  ·rw[h1] at h;cases h
  ·rw[h1] at h;exact(tblC_ok hL hE).exth f g h
end
mutual
theorem rel_avOk {e:Env} (hs:St e):∀(x:AV) (v:Value),Rel e x v→avOk e.h.next x
 |.i ..,_,_=>by simp only[avOk]
 |.b ..,_,_=>by simp only[avOk]
 |.s ..,_,_=>by simp only[avOk]
 |.v ..,_,_=>by simp only[avOk]
 |.p id off,v,hr=>by
  simp only[Rel] at hr;simp only[avOk]
  obtain⟨k,h1,h2,_⟩:=hs.kn id hr.1
  rw[h2,unpath_path];exact h1
 |.sl id off sz k lo ex,v,hr=>by
  simp only[Rel] at hr;simp only[avOk]
  obtain⟨k,h1,h2,_⟩:=hs.kn id hr.1
  rw[h2,unpath_path];exact h1
 |.em,_,_=>by simp only[avOk]
 |.isl ..,_,_=>by simp only[avOk]
 |.ip ..,_,_=>by simp only[avOk]
 |.f fn a b,v,hr=>by
  simp only[Rel] at hr;simp only[avOk]
  obtain⟨vs,ws,_,h1,h2⟩:=hr
  exact⟨relL_avOk hs a _ h1,relL_avOk hs b _ h2⟩
 |.ifc t x,v,hr=>by
  simp only[Rel] at hr;simp only[avOk]
  obtain⟨u,_,h⟩:=hr
  exact rel_avOk hs x _ h
 |.ag cs,v,hr=>by
  simp only[Rel] at hr;simp only[avOk]
  obtain⟨_,vs,_,h⟩:=hr
  exact relL_avOk hs cs _ h
 |.tu cs,v,hr=>by
  simp only[Rel] at hr;simp only[avOk]
  obtain⟨vs,_,h⟩:=hr
  exact relL_avOk hs cs _ h
 |.m id,v,hr=>by
  simp only[Rel] at hr;simp only[avOk]
  obtain⟨k,h1,h2,_⟩:=hs.kn id hr.1
  rw[h2,unpath_path];exact h1
 |.j,_,_=>by simp only[avOk]
theorem relL_avOk {e:Env} (hs:St e):∀(xs:List AV) (vs:List Value),RelL e xs vs→avOkL e.h.next xs
 |[],_,_=>by simp only[avOkL]
 |_::_,[],hr=>by simp[RelL] at hr
 |x::xs,v::vs,hr=>by
  simp only[RelL] at hr;simp only[avOkL]
  exact⟨rel_avOk hs x v hr.1,relL_avOk hs xs vs hr.2⟩
end
theorem entRel_avOk {e:Env} (hs:St e):∀(es:List (AV×AV)) (ms:List MapEntry),EntRel e es ms→∀q∈es,avOk e.h.next q.1∧avOk e.h.next q.2
 |[],_,_,q,hq=>by cases hq
 |_::_,[],h,_,_=>h.elim
 |(k,v)::es,m::ms,h,q,hq=>by
  rcases List.mem_cons.1 hq with rfl|hq
  ·exact⟨rel_avOk hs _ _ h.1,rel_avOk hs _ _ h.2.1⟩
  ·exact entRel_avOk hs es ms h.2.2 q hq
theorem blk_avOk {e:Env} (hs:St e){id:Id}{b:Blk} (hb:e.h.get id=some b):blkOk e.h.next (some b):=by
 have:=hs.blk id b hb
 cases b with
 |cs el l fz=>
  obtain⟨c,fr,_,_,h3,_⟩:=this
  refine avOkL_all fun x hx=>?_
  obtain⟨j,hj⟩:=List.mem_iff_getElem?.1 hx
  obtain⟨_,v,_,hr⟩:=h3 j x hj
  exact rel_avOk hs x v hr
 |mp es=>obtain⟨ms,_,_,h⟩:=this;exact entRel_avOk hs es _ h
 |it s p=>trivial
 |dead=>trivial
mutual
theorem avOk_le {m n:Nat} (hmn:m≤n):∀(x:AV),avOk m x→avOk n x
 |.i ..,_=>by simp only[avOk]
 |.b ..,_=>by simp only[avOk]
 |.s ..,_=>by simp only[avOk]
 |.v ..,_=>by simp only[avOk]
 |.p ..,h=>by simp only[avOk] at h⊢;omega
 |.sl ..,h=>by simp only[avOk] at h⊢;omega
 |.em,_=>by simp only[avOk]
 |.isl ..,_=>by simp only[avOk]
 |.ip ..,_=>by simp only[avOk]
 |.f _ a b,h=>by simp only[avOk] at h⊢;exact⟨avOkL_le hmn a h.1,avOkL_le hmn b h.2⟩
 |.ifc _ x,h=>by simp only[avOk] at h⊢;exact avOk_le hmn x h
 |.ag cs,h=>by simp only[avOk] at h⊢;exact avOkL_le hmn cs h
 |.tu cs,h=>by simp only[avOk] at h⊢;exact avOkL_le hmn cs h
 |.m ..,h=>by simp only[avOk] at h⊢;omega
 |.j,_=>by simp only[avOk]
theorem avOkL_le {m n:Nat} (hmn:m≤n):∀(xs:List AV),avOkL m xs→avOkL n xs
 |[],_=>by simp only[avOkL]
 |x::xs,h=>by simp only[avOkL] at h⊢;exact⟨avOk_le hmn x h.1,avOkL_le hmn xs h.2⟩
end
mutual
theorem ren_self {f:Id→Id} (hf:∀id,f id=id):∀(x:AV),AV.ren f x=x
 |.i .. =>by simp only[AV.ren]
 |.b .. =>by simp only[AV.ren]
 |.s .. =>by simp only[AV.ren]
 |.v .. =>by simp only[AV.ren]
 |.p .. =>by simp only[AV.ren,hf]
 |.sl .. =>by simp only[AV.ren,hf]
 |.em=>by simp only[AV.ren]
 |.isl .. =>by simp only[AV.ren]
 |.ip .. =>by simp only[AV.ren]
 |.f fn a b=>by simp only[AV.ren,renL_self hf a,renL_self hf b]
 |.ifc t x=>by simp only[AV.ren,ren_self hf x]
 |.ag cs=>by simp only[AV.ren,renL_self hf cs]
 |.tu cs=>by simp only[AV.ren,renL_self hf cs]
 |.m .. =>by simp only[AV.ren,hf]
 |.j=>by simp only[AV.ren]
theorem renL_self {f:Id→Id} (hf:∀id,f id=id):∀(xs:List AV),AV.renL f xs=xs
 |[]=>by simp only[AV.renL]
 |x::xs=>by simp only[AV.renL,ren_self hf x,renL_self hf xs]
end
theorem renE_self {f:Id→Id} (hf:∀id,f id=id):∀(es:List (AV×AV)),renE f es=es
 |[]=>rfl
 |q::es=>by simp only[renE,ren_self hf,renE_self hf es]
theorem blkren_self {f:Id→Id} (hf:∀id,f id=id) (b:Blk):b.ren f=b:=by
 cases b with
 |cs el l fz=>show Blk.cs el (AV.renL f l) fz=_;rw[renL_self hf]
 |mp es=>show Blk.mp (renE f es)=_;rw[renE_self hf]
 |it s p=>rfl
 |dead=>rfl
theorem shrinkN {e e':Env} (hs:St e) (hs':St e') (hx:Ext e e') (hh:∀id,unpath id<e.h.next→e'.h.get id=e.h.get id):
 ∃e3:Env,e3.w=e'.w∧e3.h=e.h∧St e3∧Ext e e3∧∀x v,avOk e.h.next x→Rel e' x v→Rel e3 x v:=by
 let N:=e.h.next
 let f:Id→Id:=fun id=>id
 let e3:Env:=⟨fun id=>if unpath id<N then e'.ρ id else(0,1),e.h,e'.w,e'.F⟩
 have hρ:∀id,unpath id<N→e3.ρ id=e'.ρ (f id):=fun id h=>if_pos h
 have hlt:∀id b,e.h.get id=some b→unpath id<N:=fun id b hb=>by
  obtain⟨k,h1,h2,_⟩:=hs.kn id (hs.dk id b hb)
  rw[h2,unpath_path];exact h1
 have hg:∀id b,e.h.get id=some b→e'.h.get id=some b:=fun id b hb=>by rw[hh id (hlt id b hb)];exact hb
 have hlv:∀id,live e3.h id→live e'.h id:=fun id ⟨b,hb,hd⟩=>⟨b,hg id b hb,hd⟩
 have hown:∀b,Own e3 b→Own e' b:=fun b ⟨id,h1,h2⟩=>⟨id,hlv id h1,by
  obtain⟨b',hb',_⟩:=h1
  rw[←h2,hρ id (hlt id b' hb')]⟩
 have himm:∀b,Imm e' b→Imm e3 b:=fun b hb=>⟨hb.1,hb.2.1,fun h=>hb.2.2 (hown b h)⟩
 have hkl:∀id,known e id→unpath id<N:=fun id hk=>by
  obtain⟨k,h1,h2,_⟩:=hs.kn id hk
  rw[h2,unpath_path];exact h1
 have hkk:∀id,known e3 id→known e id:=fun id hk=>by
  by_cases h:unpath id<N
  ·have hk':known e' id:=by unfold known at hk⊢;rw[hρ id h] at hk;exact hk
   rcases hx.newk id hk' with h1|⟨b,hb⟩
   ·exact h1
   ·rw[hh id h] at hb;exact hs.dk id b hb
  ·unfold known at hk
   rw[show e3.ρ id=(0,1) from if_neg h] at hk;cases hk
 have hrel:∀x v,avOk N x→Rel e' x v→Rel e3 x v:=fun x v ha hr=>by
  have:=Rel.ren (e:=e') (e3:=e3) (N:=N) (f:=f) hρ himm rfl rfl x v ha (by rw[ren_self (fun _=>rfl)];exact hr)
  exact this
 refine⟨e3,rfl,rfl,?_,?_,hrel⟩
 ·exact{
   kn:=fun id hk=>by
    obtain⟨k,h1,h2,h3⟩:=hs.kn id (hkk id hk)
    exact⟨k,h1,h2,fun hl=>h3 (by rw[←hx.fr];exact hl)⟩
   dk:=fun id b hb=>by
    unfold known;rw[hρ id (hlt id b hb)];exact hs'.dk id b (hg id b hb)
   lo:=by show e'.F.lo≤e.h.next;rw[hx.fr];exact hs.lo
   blk:=fun id b hb=>by
    refine BlkRel.ren hρ himm rfl rfl (hρ id (hlt id b hb)) b (blk_avOk hs hb) ?_
    rw[blkren_self (fun _=>rfl)]
    exact hs'.blk id b (hg id b hb)
   inj:=fun id id' h1 h2 he=>by
    have g1:=h1
    have g2:=h2
    obtain⟨b,hb,_⟩:=g1
    obtain⟨c,hc,_⟩:=g2
    rw[hρ id (hlt id b hb),hρ id' (hlt id' c hc)] at he
    exact hs'.inj id id' (hlv id h1) (hlv id' h2) he
   fr:=fun b hb=>⟨(hs'.fr b hb).1,fun ho=>(hs'.fr b hb).2 (hown b ho)⟩}
 ·exact{
   next:=Nr _
   kn:=fun id hk=>by unfold known;rw[hρ id (hkl id hk)];exact hx.kn id hk
   ren:=fun id hk=>by rw[hρ id (hkl id hk)];exact hx.ren id hk
   fr:=hx.fr
   heap:=hx.heap
   keep:=hx.keep
   size:=hx.size
   own:=fun b hb ho=>hx.own b hb (hown b ho)
   pres:=fun id b hb=>⟨b,hb⟩
   newk:=fun id hk=>.inl (hkk id hk)
   qt:=hx.qt}
def At (Bn f:Nat) (h:H) (args:List AV) (v:AV) (h2:H):Prop:=
 ∀e vs,e.h=h→St e→GRel (GG Bn) e→RelL e args vs→Does PP f vs.toArray e.w (fun cv w'=>∃e',e'.w=w'∧e'.h=h2∧St e'∧Ext e e'∧Rel e' v cv)
section
variable {Bn:Nat} [BOk Bn]{f:Nat}{h h2:H}{args:List AV}{v:AV}
theorem At.ev {call:CallF} (hk:CallOK PP (GG Bn) call) (hr:call f args h=.ok v h2):At Bn f h args v h2:=fun e vs he hs hg hrel=>by
 subst he
 exact hk f args v h2 e vs hr hs hg hrel
def sameH (h h2:H):Prop:=∀id,unpath id<h.next→h2.get id=h.get id
theorem sameH_of {h h2:H} (hb:heapL h2 h.next=heapL h h.next):sameH h h2:=fun id hid=>by
 have h1:=heapL_get h2 h.next (unpath id)
 have h3:=heapL_get h h.next (unpath id)
 rw[hb,h3,if_pos hid] at h1
 rw[if_pos hid,unpath_bij] at h1
 exact(Oi h1).symm
theorem At.shrink (ha:At Bn f h args v h2) (hv:avOkB 0 v=true) (hh:sameH h h2):At Bn f h args v h:=fun e vs he hs hg hrel=>by
 subst he
 refine Does.mono (ha e vs rfl hs hg hrel) ?_
 rintro cv w' ⟨e',hw,hh2,hs',hx',hr⟩
 subst hw
 obtain⟨e3,g1,g2,g3,g4,g5⟩:=shrinkN hs hs' hx' (fun id hid=>by rw[hh2];exact hh id hid)
 refine⟨e3,g1,g2,g3,g4,g5 v cv ?_ hr⟩
 exact avOk_le (Nz _) v (avOk_of v hv)
theorem At.kill {p:Id}{b:Blk} (hb:h.get p=some b) (ha:At Bn f (h.put p .dead) args v h2):At Bn f h args v h2:=fun e vs he hs hg hrel=>by
 subst he
 have hk:=kill_st hs hb
 have hx:=kill_ext (e:=e) p
 refine Does.mono (ha ⟨e.ρ,e.h.put p .dead,e.w,e.F⟩ vs rfl hk (hg.ext hx) (RelL.ext hx _ _ hrel)) ?_
 rintro cv w' ⟨e',hw,hh2,hs',hx',hr⟩
 exact⟨e',hw,hh2,hs',hx.trans hx',hr⟩
open Classical in
def callAt (f:Nat) (h:H) (args:List AV) (v:AV) (h2:H):CallF:=fun f' args' h'=>if f'=f∧args'=args∧h'=h then .ok v h2 else .no
theorem callAt_eq:callAt f h args v h2 f args h=.ok v h2:=if_pos ⟨rfl,rfl,rfl⟩
theorem callAt_ok (ha:At Bn f h args v h2):CallOK PP (GG Bn) (callAt f h args v h2):=by
 intro f' args' r h' e vs hr hs hg hrel
 unfold callAt at hr
 split at hr
 ·rename_i hh
  obtain⟨rfl,rfl,he⟩:=hh
  injection hr with h1 h3
  subst h1 h3
  exact ha e vs he hs hg hrel
 ·cases hr
def viewC (o:AO) (fr:T AV):Option (Nat×List AV):=AOp.rec (fun _=>none) (fun _=>none) (fun _ _ _=>none) (fun _ _=>none) (fun _=>none) (fun f as_=>some (f,evs as_ fr)) (fun _ _=>none) (fun _ _ _=>none) (fun _ _=>none) (fun _ _=>none) (fun _ _ _=>none) (fun _ _=>none) (fun _ _ _ _ _=>none) (fun _ _ _=>none) (fun _ _=>none) (fun _ _ _=>none) (fun _ _=>none) (fun _ _=>none) (fun _ _=>none) (fun _=>none) o.op
section
variable {call:CallF}{base:Nat}{ops:List AO}{fr:T AV}{Q:T AV→H→Prop}
theorem RunOps.callH (k:Nat) (hok:stOk call base ops fr h k=true) (hk:Nat.blt k ops.length=true) (hw:wanted (opA ops k).g (stF call base ops fr h k)=some true)
 (hv:viewC (opA ops k) (stF call base ops fr h k)=some (f,args)) (hc:call f args (stH call base ops fr h k)=.ok v h2)
 (hr:RunOps call base (ops.drop (k+1)) (setD (opA ops k).dst v (stF call base ops fr h k)) h2 Q):RunOps call base ops fr h Q:=by
 refine RunOps.upto k hok ?_
 unfold RunOps at hr⊢
 obtain⟨fr',h',g1,g2⟩:=hr
 refine⟨fr',h',?_,g2⟩
 rw[opA_drop hk]
 show(Option.rec .no (fun c=>cd c
  (R.rec .no (fun v h'=>evOps call base (ops.drop (k+1)) (setD (opA ops k).dst v (stF call base ops fr h k)) h') (evOp call (opA ops k).op (stF call base ops fr h k) (stH call base ops fr h k) (Nat.add base (opA ops k).k)))
  (evOps call base (ops.drop (k+1)) (setD (opA ops k).dst undefA (stF call base ops fr h k)) (stH call base ops fr h k))) (wanted (opA ops k).g (stF call base ops fr h k)):FR)=_
 have hop:evOp call (opA ops k).op (stF call base ops fr h k) (stH call base ops fr h k) (Nat.add base (opA ops k).k)=.ok v h2:=by
  generalize opA ops k=o at hv⊢
  generalize stF call base ops fr h k=fr1 at hv⊢
  cases o with
  |mk dst op g kk=>
  cases op with
  |call f' as_=>
   have hv:some (f',evs as_ fr1)=some (f,args):=hv
   simp only[Oj,Prod.mk.injEq] at hv
   show call f' (evs as_ fr1) _=_
   rw[hv.1,hv.2];exact hc
  |_=>cases hv
 rw[hw,hop]
 exact g1
end
theorem atReg {nt rid:Nat}{ops:Array Oper}{fr fr2:T AV}{hh h3:H}{Q:Ex→T AV→H→Prop} (k:Nat) (ha:At Bn f h args v h2)
 (hpre:cd (stOk (callAt f h args v h2) hh.next (regL PP (GG Bn) nt ops) fr ⟨Nat.add hh.next (regN PP (GG Bn) nt ops),hh.t⟩ k) (cd (Nat.blt k (regL PP (GG Bn) nt ops).length)
  (cd (isT (wanted (opA (regL PP (GG Bn) nt ops) k).g (stF (callAt f h args v h2) hh.next (regL PP (GG Bn) nt ops) fr ⟨Nat.add hh.next (regN PP (GG Bn) nt ops),hh.t⟩ k))) true false) false) false=true)
 (hv:(viewC (opA (regL PP (GG Bn) nt ops) k) (stF (callAt f h args v h2) hh.next (regL PP (GG Bn) nt ops) fr ⟨Nat.add hh.next (regN PP (GG Bn) nt ops),hh.t⟩ k),stH (callAt f h args v h2) hh.next (regL PP (GG Bn) nt ops) fr ⟨Nat.add hh.next (regN PP (GG Bn) nt ops),hh.t⟩ k)=(some (f,args),h))
 (hr:evOps (callAt f h args v h2) hh.next ((regL PP (GG Bn) nt ops).drop (k+1)) (setD (opA (regL PP (GG Bn) nt ops) k).dst v (stF (callAt f h args v h2) hh.next (regL PP (GG Bn) nt ops) fr ⟨Nat.add hh.next (regN PP (GG Bn) nt ops),hh.t⟩ k)) h2=.ok fr2 h3)
 (hq:Q .normal fr2 h3):S Bn nt (.region rid ops false) fr hh Q:=by
 obtain⟨h4,h5⟩:=cd_true hpre
 obtain⟨h5,h6⟩:=cd_true h5
 obtain⟨h6,_⟩:=cd_true h6
 injection hv with g1 g2
 refine Sat.reg hmix (callAt_ok ha) (RunOps.callH (f:=f) (args:=args) (v:=v) (h2:=h2) k h4 h5 (isT_eq h6) g1 (by rw[g2];exact callAt_eq) (by unfold RunOps;exact⟨fr2,h3,hr,hq⟩))
end
structure CKeep (w w':World):Prop where
 size:w.heap.size≤w'.heap.size
 cells:∀(b:Nat) (c:Array Value) (el:TypeId) (fr:Nat×Nat),w.heap[b]? =some (.cells c el fr)→w'.heap[b]? =some (.cells c el fr)
theorem CKeep.cell {w w':World} (h:CKeep w w'){a:Addr}{v:Value} (hv:w.cell? a=some v):w'.cell? a=some v:=by
 obtain⟨o,ho,hc⟩:=Go.cells_of_cell hv
 cases o<;>simp only[Go.Obj.isCells,Bool.false_eq_true] at hc
 rename_i c el fr
 have:=h.cells _ _ _ _ ho
 unfold World.cell? at hv⊢
 rw[ho] at hv;rw[this];exact hv
theorem CKeep.bsize {w w':World} (h:CKeep w w') (b:Nat):bsize w b≤bsize w' b:=by
 unfold Go.Ev.bsize
 cases ho:w.heap[b]? with
 |none=>exact Nz _
 |some o=>cases o with
  |cells c el fr=>rw[h.cells _ _ _ _ ho];exact Nr _
  |_=>exact Nz _
theorem CKeep.at {w w':World} (h:CKeep w w'){b o:Nat}{us:List Value} (hc:CellsAt w b o us):CellsAt w' b o us:=fun j v hv=>h.cell (hc j v hv)
theorem relT_ck {m m':Mm}{w w':World} (hi:Mle m m') (hw:CKeep w w'):∀(t:Ty) (x:den t) (vs:List Value),relT m w t x vs→relT m' w' t x vs
 |.int _,_,_,h=>h
 |.bool,_,_,h=>h
 |.str,_,_,h=>h
 |.unit,_,_,h=>h
 |.pair a b,x,vs,h=>by
  obtain⟨us,ws,h1,h2,h3⟩:=h
  exact⟨us,ws,h1,relT_ck hi hw a _ _ h2,relT_ck hi hw b _ _ h3⟩
 |.sl t,xs,vs,h=>by
  obtain⟨v,h1,h2⟩:=h
  refine⟨v,h1,?_⟩
  rcases h2 with h2|⟨a,cap,h2,h3,h4⟩
  ·exact .inl h2
  ·obtain⟨hb,h4⟩:=h4
   refine .inr ⟨a,cap,h2,h3,Nt hb hi.2,?_⟩
   rcases h4 with h4|⟨h4,h5,h6⟩
   ·exact .inl h4
   ·refine .inr ⟨h4,hi.1 _ h5,fun i x hx=>?_⟩
    obtain⟨us,h7,h8⟩:=h6 i x hx
    exact⟨us,hw.at h7,relT_ck hi hw t _ _ h8⟩
 |.ptr t,x,vs,h=>by
  obtain⟨b,o,us,h1,h2,h3,h4⟩:=h
  exact⟨b,o,us,h1,hi.1 _ h2,hw.at h3,relT_ck hi hw t _ _ h4⟩
 |.clo f t,x,vs,h=>by
  obtain⟨ws,h1,h2⟩:=h
  exact⟨ws,h1,relT_ck hi hw t _ _ h2⟩
abbrev Env.at (e:Env) (w:World):Env:=⟨e.ρ,e.h,w,e.F⟩
section
variable {e:Env}{w:World}
theorem imm_at (hw:CKeep e.w w){b:Nat} (h:Imm e b):Imm (e.at w) b:=⟨Nl h.1 hw.size,h.2.1,h.2.2⟩
theorem mle_at (hw:CKeep e.w w):Mle (mm e) (mm (e.at w)):=⟨fun _ h=>imm_at hw h,Nr _⟩
mutual
theorem Rel.atW (hw:CKeep e.w w):∀(x:AV) (v:Value),Rel e x v→Rel (e.at w) x v
 |.i ..,_,h=>by simp only[Rel] at h⊢;exact h
 |.b ..,_,h=>by simp only[Rel] at h⊢;exact h
 |.s ..,_,h=>by simp only[Rel] at h⊢;exact h
 |.v ..,_,h=>by simp only[Rel] at h⊢;exact h
 |.p ..,_,h=>by simp only[Rel] at h⊢;exact h
 |.sl id off sz n lo ex,v,h=>by
  simp only[Rel] at h⊢
  obtain⟨h1,a,cap,h2,h3,h4,h5,h6⟩:=h
  refine⟨h1,a,cap,h2,h3,h4,h5,?_⟩
  rcases h6 with h6|⟨h6,h7⟩
  ·exact .inl h6
  ·exact .inr ⟨h6,Nt h7 (hw.bsize _)⟩
 |.em,_,h=>by simp only[Rel] at h⊢;exact h
 |.isl t xs,v,h=>by simp only[Rel] at h⊢;exact relT_ck (mle_at hw) hw (.sl t) xs [v] h
 |.ip t x off,v,h=>by
  simp only[Rel] at h⊢
  obtain⟨b,o,us,h1,h2,h3,h4⟩:=h
  exact⟨b,o,us,h1,imm_at hw h2,hw.at h3,relT_ck (mle_at hw) hw t x us h4⟩
 |.f fn a b,v,h=>by
  simp only[Rel] at h⊢
  obtain⟨vs,ws,h1,h2,h3⟩:=h
  exact⟨vs,ws,h1,RelL.atW hw a _ h2,RelL.atW hw b _ h3⟩
 |.ifc t x,v,h=>by
  simp only[Rel] at h⊢
  obtain⟨u,h1,h2⟩:=h
  exact⟨u,h1,Rel.atW hw x _ h2⟩
 |.ag cs,v,h=>by
  simp only[Rel] at h⊢
  obtain⟨h1,vs,h2,h3⟩:=h
  exact⟨h1,vs,h2,RelL.atW hw cs _ h3⟩
 |.tu cs,v,h=>by
  simp only[Rel] at h⊢
  obtain⟨vs,h2,h3⟩:=h
  exact⟨vs,h2,RelL.atW hw cs _ h3⟩
 |.m ..,_,h=>by simp only[Rel] at h⊢;exact h
 |.j,_,_=>by simp only[Rel]
theorem RelL.atW (hw:CKeep e.w w):∀(xs:List AV) (vs:List Value),RelL e xs vs→RelL (e.at w) xs vs
 |[],[],_=>by simp[RelL]
 |[],_::_,h=>by simp[RelL] at h
 |_::_,[],h=>by simp[RelL] at h
 |x::xs,v::vs,h=>by
  simp only[RelL] at h⊢
  exact⟨Rel.atW hw x v h.1,RelL.atW hw xs vs h.2⟩
end
def csOnly (h:H):Prop:=∀id b,h.get id=some b→b=.dead∨∃el l fz,b=.cs el l fz
theorem St.atW (hw:CKeep e.w w) (hc:csOnly e.h) (hs:St e):St (e.at w):={
 kn:=hs.kn
 dk:=hs.dk
 lo:=hs.lo
 blk:=fun id b hb=>by
  rcases hc id b hb with rfl|⟨el,l,fz,rfl⟩
  ·trivial
  ·obtain⟨c,fr,h1,h2,h3,h4,h5⟩:=hs.blk id _ hb
   exact⟨c,fr,hw.cells _ _ _ _ h1,h2,fun j x hx=>let⟨h6,v,h7,h8⟩:=h3 j x hx;⟨h6,v,h7,Rel.atW hw x v h8⟩,h4,h5⟩
 inj:=hs.inj
 fr:=fun b hb=>⟨Nl (hs.fr b hb).1 hw.size,(hs.fr b hb).2⟩}
theorem Ext.atW {e0:Env} (hx:Ext e0 e) (hw:CKeep e.w w) (hk:∀b,b<e0.w.heap.size→w.heap[b]? =e.w.heap[b]?) (hq:Qt e.w w):Ext e0 (e.at w):={
 next:=hx.next
 kn:=hx.kn
 ren:=hx.ren
 fr:=hx.fr
 heap:=Nt hx.heap hw.size
 keep:=fun b hb ho=>(hk b hb).trans (hx.keep b hb ho)
 size:=fun b hb=>by
  have:=hx.size b hb
  rw[←this];unfold Go.Ev.bsize;rw[show(e.at w).w.heap[b]? =e.w.heap[b]? from hk b hb]
 own:=hx.own
 pres:=hx.pres
 newk:=hx.newk
 qt:=⟨hq.1.trans hx.qt.1,hq.2.1.trans hx.qt.2.1,hq.2.2.trans hx.qt.2.2⟩}
end
variable {Bn:Nat}
abbrev pSI:List Par:=[⟨false,.str⟩,⟨false,.int .i64⟩]
abbrev pTk:List Par:=[⟨true,y637⟩,⟨false,.int .i64⟩,⟨false,.bool⟩]
abbrev yE0:Ty:=.pair (.int .i64) (.pair .str (.sl .bool))
abbrev yE1:Ty:=.pair (.int .i64) (.pair .str (.sl yE0))
abbrev yE2:Ty:=.pair (.int .i64) (.pair .str (.sl yE1))
abbrev yE3:Ty:=.pair (.int .i64) (.pair .str (.sl yE2))
abbrev y578:Ty:=(.pair (.int .i64) (.pair .str (.pair (.sl yE3) (.pair (.sl yE3) (.sl yE3)))))
abbrev y570:Ty:=(.pair (.int .i64) (.pair (.sl yE3) (.sl y578)))
abbrev y358:Ty:=(.pair .str (.pair (.sl .str) (.sl y570)))
abbrev pLn:List Par:=[⟨true,y358⟩,⟨false,.int .i64⟩]
end Go.Ev
end
