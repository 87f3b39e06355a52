/- A part of the proof that FnRolled returns true; no condition. -/
import Derived.Test.YtmkdnjbgmflnfaaGreatDoorPg
import Derived.Test.YtmkdnjbgmflnfaaGreatDoorPa
import Derived.Shelf.Strconv.Itoa4
import Derived.Shelf.Strconv.ParseIntPublic10
set_option linter.all false
set_option maxRecDepth 100000
open List renaming length→U
open Int renaming ofNat→J,toNat→Jn
noncomputable section
namespace Go.Ev
open Go.Proofs
structure CJ where
 call:CallF
 pu:Nat→Bool
 pv:Bool
 pure:∀f args h r h',pu f=true→call f args h=.ok r h'→h'=h
 pureV:pv=true→∀f args h r h',call f args h=.ok r h'→h'=h
def allL {α:Type} (p:α→Bool) (l:List α):Bool:=List.rec true (fun x _ ih=>cd (p x) ih false) l
theorem allL_mem {α:Type}{p:α→Bool}:∀{l:List α},allL p l=true→∀x∈l,p x=true
 |[],_,x,hx=>by cases hx
 |y::l,h,x,hx=>by
  obtain⟨h1,h2⟩:=cd_true (show cd (p y) (allL p l) false=true from h)
  rcases List.mem_cons.1 hx with rfl|hx
  ·exact h1
  ·exact allL_mem h2 x hx
def freeP (D:T Unit) (p:List Bool):Bool:=Option.rec true (fun _=>false) (T.get p D)
def odOk (D:T Unit) (x:Od):Bool:=Od.rec (fun p=>freeP D p) (fun _=>true) x
def gOk (D:T Unit) (g:Option (List Bool×Bool)):Bool:=Option.rec true (fun q=>freeP D q.1) g
def rdOk (D:T Unit) (o:AO):Bool:=cd (gOk D o.g) (allL (odOk D) o.op.ods) false
def okX (C:CJ) (o:AOp):Bool:=match o with
 |.call f _=>C.pu f
 |.o2 (.callv ..)=>C.pv
 |_=>false
def okJ (C:CJ) (o:AOp):Bool:=match o.cls with
 |.N=>true
 |.R=>true
 |.A=>false
 |.X=>okX C o
def pEq (p q:List Bool):Bool:=
 List.rec (motive:=fun _=>List Bool→Bool) (fun q=>List.rec true (fun _ _ _=>false) q)
  (fun b _ ih q=>List.rec false (fun c q' _=>cd (cd b c (cd c false true)) (ih q') false) q) p q
def isPick (s:List Bool) (o:AO):Bool:=match o.op with
 |.pick (.t p) _ _=>pEq p s
 |_=>false
def segOf (s:List Bool) (ops:List AO):Option (List AO×AO×List AO):=
 List.rec none (fun o r ih=>cd (isPick s o) (some ([],o,r)) (Option.rec none (fun q=>some (o::q.1,q.2.1,q.2.2)) ih)) ops
theorem segOf_eq {s:List Bool}:∀{ops:List AO}{a:List AO}{k:AO}{r:List AO},segOf s ops=some (a,k,r)→ops=a++k::r
 |[],_,_,_,h=>by cases h
 |o::ops,a,k,r,h=>by
  have h:cd (isPick s o) (some ([],o,ops)) (Option.rec none (fun q=>some (o::q.1,q.2.1,q.2.2)) (segOf s ops))=some (a,k,r):=h
  cases hp:isPick s o with
  |true=>rw[hp] at h;obtain⟨rfl,rfl,rfl⟩:=(by simpa[cd] using h:[]=a∧o=k∧ops=r);rfl
  |false=>
   rw[hp] at h
   cases hs:segOf s ops with
   |none=>rw[hs] at h;cases h
   |some q=>
    rw[hs] at h
    obtain⟨q1,q2,q3⟩:=q
    obtain⟨rfl,rfl,rfl⟩:=(by simpa[cd] using h:o::q1=a∧q2=k∧q3=r)
    rw[segOf_eq hs];rfl
def addP (d:Option (List Bool)) (D:T Unit):T Unit:=Option.rec D (fun p=>T.set p () D) d
def addL (l:List AO) (D:T Unit):T Unit:=List.rec D (fun o _ ih=>addP o.dst ih) l
def clrL (l:List AO) (fr:T AV):T AV:=List.rec fr (fun o _ ih=>setD o.dst .j ih) l
def bOf (x:AV):Option Bool:=
 @AV.casesOn (fun _=>Option Bool) x (fun _ _=>none) (fun b=>some b) (fun _ _=>none) (fun _=>none) (fun _ _=>none) (fun _ _ _ _ _ _=>none) none (fun _ _=>none) (fun _ _ _=>none) (fun _ _ _=>none) (fun _ _=>none) (fun _=>none) (fun _=>none) (fun _=>none) none
theorem bOf_eq {x:AV}{b:Bool} (h:bOf x=some b):x=.b b:=by
 cases x<;>first|(injection(show some _=some b from h) with h;rw[h])|cases h
def mrgB (b q x y:Bool):Bool:=cd q (cd b x y) (cd b y x)
abbrev JR:=Option (T AV×H×T Unit)
def runJ1 (C:CJ) (base:Nat) (ih:T AV→H→JR) (o:AO) (fr:T AV) (h:H):JR:=
 Option.rec none (fun b=>cd b (R.rec none (fun v h'=>ih (setD o.dst v fr) h') (evOp C.call o.op fr h (Nat.add base o.k))) (ih (setD o.dst undefA fr) h)) (wanted o.g fr)
def grpV (d:List Bool) (b q:Bool) (t:JR) (u:FR):Option Bool:=
 Option.rec (cd (mrgB b q false true) (FR.rec none (fun fu _=>bOf (getV fu d)) u) none) (fun t=>FR.rec none (fun fu _=>Option.rec none (fun x=>Option.rec none (fun y=>some (mrgB b q x y)) (bOf (getV fu d))) (bOf (getV t.1 d))) u) t
def grpK (C:CJ) (D:T Unit) (l:List AO):Bool:=cd (allL (rdOk D) l) (allL (fun o=>okJ C o.op) l) false
def grpQ (Rs:T Unit) (fr:T AV) (g:List Bool):Bool:=cd (freeP Rs g) (Option.rec false (fun _=>true) (bOf (getV fr g))) false
def evJ (C:CJ) (base:Nat) (n:Nat):List AO→T AV→H→T Unit→T Unit→JR:=
 Nat.rec (motive:=fun _=>List AO→T AV→H→T Unit→T Unit→JR) (fun _ _ _ _ _=>none)
  (fun _ ih ops fr h Rs D=>List.rec (some (fr,h,D)) (fun o r _=>
   cd (rdOk D o)
    (Option.rec (runJ1 C base (fun fr h=>ih r fr h Rs D) o fr h)
     (fun g=>cd (grpQ Rs fr g.1)
      (Option.rec none (fun sg=>cd (grpK C D (sg.1++[sg.2.1]))
       (Option.rec none (fun d=>Option.rec none (fun b=>
        Option.rec none (fun v=>ih sg.2.2 (T.set d (.b v) (clrL sg.1 fr)) h Rs (addL sg.1 D))
         (grpV d b g.2 (ih (sg.1++[sg.2.1]) (T.set g.1 (.b g.2) fr) h (T.set g.1 () Rs) D) (evOps C.call base (sg.1++[sg.2.1]) (T.set g.1 (.b (!g.2)) fr) h)))
        (bOf (getV fr g.1))) sg.2.1.dst) none) (segOf g.1 (o::r)))
      (runJ1 C base (fun fr h=>ih r fr h Rs D) o fr h)) o.g)
    none) ops) n
def WkD (D:T Unit) (a b:T AV):Prop:=∀p,getV a p=getV b p∨(getV a p=.j∧T.get p D≠none)
theorem WkD.refl (D:T Unit) (a:T AV):WkD D a a:=fun _=>.inl rfl
theorem freeP_none {D:T Unit}{p:List Bool} (h:freeP D p=true):T.get p D=none:=by
 unfold freeP at h
 cases hp:T.get p D with
 |none=>rfl
 |some _=>rw[hp] at h;cases h
theorem WkD.free {D:T Unit}{a b:T AV} (h:WkD D a b){p:List Bool} (hp:freeP D p=true):getV a p=getV b p:=by
 rcases h p with h|⟨_,h⟩
 ·exact h
 ·exact absurd (freeP_none hp) h
theorem WkD.set {D:T Unit}{a b:T AV} (h:WkD D a b) (d:Option (List Bool)) (v:AV):WkD D (setD d v a) (setD d v b):=fun p=>by
 rw[getV_setD,getV_setD]
 by_cases hd:d=some p
 ·rw[if_pos hd,if_pos hd];exact .inl rfl
 ·rw[if_neg hd,if_neg hd];exact h p
theorem rdOk_ev {D:T Unit}{o:AO} (h:rdOk D o=true){a b:T AV} (hw:WkD D a b):(∀x∈o.op.ods,ev x a=ev x b)∧wanted o.g a=wanted o.g b:=by
 obtain⟨h1,h2⟩:=cd_true h
 refine⟨fun x hx=>?_,?_⟩
 ·have:=allL_mem h2 x hx
  cases x with
  |t p=>exact hw.free this
  |c v=>rfl
 ·cases hg:o.g with
  |none=>rfl
  |some q=>
   rw[hg] at h1
   show isB (getV a q.1) q.2=isB (getV b q.1) q.2
   rw[hw.free h1]
section
variable {C:CJ}{base:Nat}
theorem evOps_cons (call:CallF) (o:AO) (l:List AO) (fr:T AV) (h:H):evOps call base (o::l) fr h=(Option.rec .no (fun b=>cd b
 (R.rec .no (fun v h'=>evOps call base l (setD o.dst v fr) h') (evOp call o.op fr h (Nat.add base o.k)))
 (evOps call base l (setD o.dst undefA fr) h)) (wanted o.g fr):FR):=rfl
theorem evOps_cons_ok {call:CallF}{o:AO}{l:List AO}{fr:T AV}{h:H}{fr2:T AV}{h2:H} (hr:evOps call base (o::l) fr h=.ok fr2 h2):
 (wanted o.g fr=some true∧∃v h1,evOp call o.op fr h (Nat.add base o.k)=.ok v h1∧evOps call base l (setD o.dst v fr) h1=.ok fr2 h2)∨
 (wanted o.g fr=some false∧evOps call base l (setD o.dst undefA fr) h=.ok fr2 h2):=by
 rw[evOps_cons] at hr
 cases hw:wanted o.g fr with
 |none=>rw[hw] at hr;cases hr
 |some b=>
  rw[hw] at hr
  cases b with
  |false=>exact .inr ⟨rfl,hr⟩
  |true=>
   have hr:(R.rec .no (fun v h'=>evOps call base l (setD o.dst v fr) h') (evOp call o.op fr h (Nat.add base o.k)):FR)=.ok fr2 h2:=hr
   cases he:evOp call o.op fr h (Nat.add base o.k) with
   |no=>rw[he] at hr;cases hr
   |ok v h1=>rw[he] at hr;exact .inl ⟨rfl,v,h1,rfl,hr⟩
theorem evOps_run {call:CallF}{o:AO}{l:List AO}{fr:T AV}{h h1:H}{v:AV} (hw:wanted o.g fr=some true) (he:evOp call o.op fr h (Nat.add base o.k)=.ok v h1):
 evOps call base (o::l) fr h=evOps call base l (setD o.dst v fr) h1:=by
 rw[evOps_cons,hw]
 show(R.rec .no (fun v h'=>evOps call base l (setD o.dst v fr) h') (evOp call o.op fr h (Nat.add base o.k)):FR)=_
 rw[he]
theorem evOps_skip {call:CallF}{o:AO}{l:List AO}{fr:T AV}{h:H} (hw:wanted o.g fr=some false):
 evOps call base (o::l) fr h=evOps call base l (setD o.dst undefA fr) h:=by
 rw[evOps_cons,hw];rfl
theorem evOps_wk {call:CallF}{D:T Unit}:∀{l:List AO}{fr fr0:T AV}{h:H}{fr2:T AV}{h2:H},allL (rdOk D) l=true→WkD D fr fr0→evOps call base l fr h=.ok fr2 h2→∃fr1,evOps call base l fr0 h=.ok fr1 h2∧WkD D fr2 fr1
 |[],fr,fr0,h,fr2,h2,_,hw,hr=>by
  injection(show FR.ok fr h=.ok fr2 h2 from hr) with h1 h3;subst h1;subst h3;exact⟨fr0,rfl,hw⟩
 |o::l,fr,fr0,h,fr2,h2,hd,hw,hr=>by
  obtain⟨hd1,hd2⟩:=cd_true (show cd (rdOk D o) (allL (rdOk D) l) false=true from hd)
  obtain⟨e1,e2⟩:=rdOk_ev hd1 hw
  rcases evOps_cons_ok hr with ⟨g1,v,h1,g2,g3⟩|⟨g1,g2⟩
  ·rw[evOps_run (by rw[←e2];exact g1) (by rw[←evOp_congr e1];exact g2)]
   exact evOps_wk hd2 (hw.set _ _) g3
  ·rw[evOps_skip (by rw[←e2];exact g1)]
   exact evOps_wk hd2 (hw.set _ _) g2
theorem okJ_pure {o:AOp} (ho:okJ C o=true){fr:T AV}{h h':H}{id:Nat}{v:AV} (hr:evOp C.call o fr h id=.ok v h'):h'=h:=by
 unfold okJ at ho
 cases hc:o.cls with
 |N=>exact(evOp_N hc hr).1
 |R=>exact(evOp_R hc hr).1
 |A=>rw[hc] at ho;cases ho
 |X=>
  rw[hc] at ho
  replace ho:okX C o=true:=ho
  unfold okX at ho
  split at ho
  ·exact C.pure _ _ _ _ _ ho hr
  ·rename_i f as_
   replace hr:(match Ev.ev f fr with
    |.f (.func g) first cap=>C.call g (cat first (cat (evs as_ fr) cap)) h
    |_=>.no:R)=.ok v h':=hr
   split at hr
   ·exact C.pureV ho _ _ _ _ _ hr
   ·cases hr
  ·cases ho
theorem evOps_pure:∀{l:List AO}{fr:T AV}{h:H}{fr2:T AV}{h2:H},allL (fun o=>okJ C o.op) l=true→evOps C.call base l fr h=.ok fr2 h2→h2=h
 |[],fr,h,fr2,h2,_,hr=>by injection(show FR.ok fr h=.ok fr2 h2 from hr) with h1 h3;exact h3.symm
 |o::l,fr,h,fr2,h2,ho,hr=>by
  obtain⟨o1,o2⟩:=cd_true (show cd (okJ C o.op) (allL (fun o=>okJ C o.op) l) false=true from ho)
  rcases evOps_cons_ok hr with ⟨_,v,h1,g2,g3⟩|⟨_,g2⟩
  ·rw[evOps_pure o2 g3,okJ_pure o1 g2]
  ·exact evOps_pure o2 g2
theorem evOps_dst {call:CallF}:∀{l:List AO}{fr:T AV}{h:H}{fr2:T AV}{h2:H}{p:List Bool},evOps call base l fr h=.ok fr2 h2→(∀o∈l,o.dst≠some p)→getV fr2 p=getV fr p
 |[],fr,h,fr2,h2,p,hr,_=>by injection(show FR.ok fr h=.ok fr2 h2 from hr) with h1 h3;rw[h1]
 |o::l,fr,h,fr2,h2,p,hr,hp=>by
  have hp2:∀o∈l,o.dst≠some p:=fun o ho=>hp o (by simp[ho])
  rcases evOps_cons_ok hr with ⟨_,v,h1,_,g3⟩|⟨_,g2⟩
  ·rw[evOps_dst g3 hp2,getV_setD,if_neg (hp o (by simp))]
  ·rw[evOps_dst g2 hp2,getV_setD,if_neg (hp o (by simp))]
theorem addL_mono {D:T Unit}{p:List Bool} (h:T.get p D≠none):∀(l:List AO),T.get p (addL l D)≠none
 |[]=>h
 |o::l=>by
  show T.get p (addP o.dst (addL l D))≠none
  cases o.dst with
  |none=>exact addL_mono h l
  |some q=>
   show T.get p (T.set q () (addL l D))≠none
   rw[T.get_set]
   by_cases hq:p=q
   ·rw[if_pos hq];simp
   ·rw[if_neg hq];exact addL_mono h l
theorem addL_mem {D:T Unit}{p:List Bool}:∀(l:List AO),(∃o∈l,o.dst=some p)→T.get p (addL l D)≠none
 |[],⟨_,h,_⟩=>by cases h
 |o::l,⟨o',ho,hd⟩=>by
  show T.get p (addP o.dst (addL l D))≠none
  have rest:(∃o∈l,o.dst=some p)→T.get p (addP o.dst (addL l D))≠none:=fun h=>by
   have ih:=addL_mem l h (D:=D)
   cases o.dst with
   |none=>exact ih
   |some q=>
    show T.get p (T.set q () (addL l D))≠none
    rw[T.get_set]
    by_cases hq:p=q
    ·rw[if_pos hq];simp
    ·rw[if_neg hq];exact ih
  rcases List.mem_cons.1 ho with rfl|ho
  ·rw[hd]
   show T.get p (T.set p () (addL l D))≠none
   rw[T.get_set,if_pos rfl];simp
  ·exact rest ⟨o',ho,hd⟩
theorem clrL_get {fr:T AV}{p:List Bool}:∀(l:List AO),((∃o∈l,o.dst=some p)→getV (clrL l fr) p=.j)∧((∀o∈l,o.dst≠some p)→getV (clrL l fr) p=getV fr p)
 |[]=>⟨fun⟨_,h,_⟩=>absurd h (by simp),fun _=>rfl⟩
 |o::l=>by
  have ih:=clrL_get (fr:=fr) (p:=p) l
  constructor
  ·rintro ⟨o',ho,hd⟩
   show getV (setD o.dst .j (clrL l fr)) p=.j
   rw[getV_setD]
   by_cases hq:o.dst=some p
   ·rw[if_pos hq]
   ·rw[if_neg hq]
    rcases List.mem_cons.1 ho with rfl|ho
    ·exact absurd hd hq
    ·exact ih.1 ⟨o',ho,hd⟩
  ·intro h
   show getV (setD o.dst .j (clrL l fr)) p=_
   rw[getV_setD,if_neg (h o (by simp))]
   exact ih.2 (fun o ho=>h o (by simp[ho]))
theorem evOps_app (call:CallF) (a b:List AO){fr:T AV}{h:H}{fr1:T AV}{h1:H} (hr:evOps call base a fr h=.ok fr1 h1):evOps call base (a++b) fr h=evOps call base b fr1 h1:=by
 rw[evOps_append,hr]
theorem grp_wk {D D1:T Unit}{arm:List AO}{pk:AO}{d:List Bool}{fr fr0 fr1 frX:T AV}{h h1:H}{x v:Bool} (hw:WkD D fr fr0) (hr:evOps C.call base (arm++[pk]) fr0 h=.ok fr1 h1) (hd:pk.dst=some d)
 (hx:getV frX d=.b x) (hw1:WkD D1 frX fr1) (hv:v=x):WkD (addL arm D) (T.set d (.b v) (clrL arm fr)) fr1:=fun p=>by
 subst hv
 rw[getV_set]
 by_cases hp:p=d
 ·rw[if_pos hp,hp]
  rcases hw1 d with h2|⟨h2,_⟩
  ·rw[←h2,hx];exact .inl rfl
  ·rw[hx] at h2;cases h2
 ·rw[if_neg hp]
  by_cases ha:∃o∈arm,o.dst=some p
  ·exact .inr ⟨(clrL_get arm).1 ha,addL_mem arm ha⟩
  ·have ha:∀o∈arm,o.dst≠some p:=fun o ho h=>ha ⟨o,ho,h⟩
   rw[(clrL_get arm).2 ha,evOps_dst hr (fun o ho=>by
    rcases List.mem_append.1 ho with ho|ho
    ·exact ha o ho
    ·rw[List.mem_singleton.1 ho,hd];exact fun h=>hp (Oi h).symm)]
   rcases hw p with h2|⟨h2,h3⟩
   ·exact .inl h2
   ·exact .inr ⟨h2,addL_mono h3 arm⟩
theorem runJ1_sound {D:T Unit}{ih:T AV→H→JR}{o:AO}{r:List AO}{fr fr0:T AV}{h:H}{q:T AV×H×T Unit} (hd:rdOk D o=true) (hw:WkD D fr fr0)
 (hI:∀fr h q,ih fr h=some q→∀fr0,WkD D fr fr0→∃fr1,evOps C.call base r fr0 h=.ok fr1 q.2.1∧WkD q.2.2 q.1 fr1)
 (hr:runJ1 C base ih o fr h=some q):∃fr1,evOps C.call base (o::r) fr0 h=.ok fr1 q.2.1∧WkD q.2.2 q.1 fr1:=by
 obtain⟨e1,e2⟩:=rdOk_ev hd hw
 unfold runJ1 at hr
 cases hwd:wanted o.g fr with
 |none=>rw[hwd] at hr;cases hr
 |some b=>
  rw[hwd] at hr
  cases b with
  |false=>
   rw[evOps_skip (by rw[←e2];exact hwd)]
   exact hI _ _ _ hr _ (hw.set _ _)
  |true=>
   replace hr:(R.rec none (fun v h'=>ih (setD o.dst v fr) h') (evOp C.call o.op fr h (Nat.add base o.k)):JR)=some q:=hr
   cases he:evOp C.call o.op fr h (Nat.add base o.k) with
   |no=>rw[he] at hr;cases hr
   |ok v h1=>
    rw[he] at hr
    rw[evOps_run (by rw[←e2];exact hwd) (by rw[←evOp_congr e1];exact he)]
    exact hI _ _ _ hr _ (hw.set _ _)
theorem evJ_sound:∀(n:Nat) (ops:List AO) (fr:T AV) (h:H) (Rs D:T Unit) (q:T AV×H×T Unit),evJ C base n ops fr h Rs D=some q→∀fr0,WkD D fr fr0→∃fr1,evOps C.call base ops fr0 h=.ok fr1 q.2.1∧WkD q.2.2 q.1 fr1
 |0,_,_,_,_,_,_,hr=>by cases hr
 |n+1,[],fr,h,Rs,D,q,hr=>fun fr0 hw=>by
  injection(show some (fr,h,D)=some q from hr) with hr;subst hr;exact⟨fr0,rfl,hw⟩
 |n+1,o::r,fr,h,Rs,D,q,hr=>fun fr0 hw=>by
  replace hr:cd (rdOk D o)
   (Option.rec (runJ1 C base (fun fr h=>evJ C base n r fr h Rs D) o fr h)
    (fun g=>cd (grpQ Rs fr g.1)
     (Option.rec none (fun sg=>cd (grpK C D (sg.1++[sg.2.1]))
      (Option.rec none (fun d=>Option.rec none (fun b=>
       Option.rec none (fun v=>evJ C base n sg.2.2 (T.set d (.b v) (clrL sg.1 fr)) h Rs (addL sg.1 D))
        (grpV d b g.2 (evJ C base n (sg.1++[sg.2.1]) (T.set g.1 (.b g.2) fr) h (T.set g.1 () Rs) D) (evOps C.call base (sg.1++[sg.2.1]) (T.set g.1 (.b (!g.2)) fr) h)))
       (bOf (getV fr g.1))) sg.2.1.dst) none) (segOf g.1 (o::r)))
     (runJ1 C base (fun fr h=>evJ C base n r fr h Rs D) o fr h)) o.g)
   none=some q:=hr
  cases hrd:rdOk D o with
  |false=>rw[hrd] at hr;cases hr
  |true=>
  rw[hrd] at hr
  have plain:=fun hr=>runJ1_sound (C:=C) (base:=base) (h:=h) (q:=q) (o:=o) (r:=r) (ih:=fun fr h=>evJ C base n r fr h Rs D) hrd hw (fun fr h q hq fr0 hw=>evJ_sound n r fr h Rs D q hq fr0 hw) hr
  cases hg:o.g with
  |none=>rw[hg] at hr;exact plain hr
  |some g=>
  rw[hg] at hr
  replace hr:cd (grpQ Rs fr g.1)
          (Option.rec none (fun sg=>cd (grpK C D (sg.1++[sg.2.1]))
           (Option.rec none (fun d=>Option.rec none (fun b=>
            Option.rec none (fun v=>evJ C base n sg.2.2 (T.set d (.b v) (clrL sg.1 fr)) h Rs (addL sg.1 D))
             (grpV d b g.2 (evJ C base n (sg.1++[sg.2.1]) (T.set g.1 (.b g.2) fr) h (T.set g.1 () Rs) D) (evOps C.call base (sg.1++[sg.2.1]) (T.set g.1 (.b (!g.2)) fr) h)))
            (bOf (getV fr g.1))) sg.2.1.dst) none) (segOf g.1 (o::r)))
          (runJ1 C base (fun fr h=>evJ C base n r fr h Rs D) o fr h)=some q:=hr
  cases hfp:grpQ Rs fr g.1 with
  |false=>rw[hfp] at hr;exact plain hr
  |true=>
  rw[hfp] at hr
  cases hsg:segOf g.1 (o::r) with
  |none=>rw[hsg] at hr;cases hr
  |some sg=>
  obtain⟨arm,pk,rest⟩:=sg
  rw[hsg] at hr
  replace hr:cd (grpK C D (arm++[pk]))
   (Option.rec none (fun d=>Option.rec none (fun b=>
    Option.rec none (fun v=>evJ C base n rest (T.set d (.b v) (clrL arm fr)) h Rs (addL arm D))
     (grpV d b g.2 (evJ C base n (arm++[pk]) (T.set g.1 (.b g.2) fr) h (T.set g.1 () Rs) D) (evOps C.call base (arm++[pk]) (T.set g.1 (.b (!g.2)) fr) h)))
    (bOf (getV fr g.1))) pk.dst) none=some q:=hr
  cases hk:grpK C D (arm++[pk]) with
  |false=>rw[hk] at hr;cases hr
  |true=>
  rw[hk] at hr
  obtain⟨hk1,hk2⟩:=cd_true hk
  cases hd:pk.dst with
  |none=>rw[hd] at hr;cases hr
  |some d=>
  rw[hd] at hr
  cases hb:bOf (getV fr g.1) with
  |none=>
   replace hr:(Option.rec none (fun b=>Option.rec none (fun v=>evJ C base n rest (T.set d (.b v) (clrL arm fr)) h Rs (addL arm D))
    (grpV d b g.2 (evJ C base n (arm++[pk]) (T.set g.1 (.b g.2) fr) h (T.set g.1 () Rs) D) (evOps C.call base (arm++[pk]) (T.set g.1 (.b (!g.2)) fr) h)))
    (bOf (getV fr g.1)):JR)=some q:=hr
   rw[hb] at hr;cases hr
  |some b=>
  replace hr:(Option.rec none (fun b=>Option.rec none (fun v=>evJ C base n rest (T.set d (.b v) (clrL arm fr)) h Rs (addL arm D))
              (grpV d b g.2 (evJ C base n (arm++[pk]) (T.set g.1 (.b g.2) fr) h (T.set g.1 () Rs) D) (evOps C.call base (arm++[pk]) (T.set g.1 (.b (!g.2)) fr) h)))
   (bOf (getV fr g.1)):JR)=some q:=hr
  rw[hb] at hr
  replace hr:(Option.rec none (fun v=>evJ C base n rest (T.set d (.b v) (clrL arm fr)) h Rs (addL arm D))
              (grpV d b g.2 (evJ C base n (arm++[pk]) (T.set g.1 (.b g.2) fr) h (T.set g.1 () Rs) D) (evOps C.call base (arm++[pk]) (T.set g.1 (.b (!g.2)) fr) h)):JR)=some q:=hr
  have hb:=bOf_eq hb
  unfold grpV at hr
  have unt:∀(y:Bool) (fu:T AV) (hu':H),b= !g.2→evOps C.call base (arm++[pk]) (T.set g.1 (.b (!g.2)) fr) h=.ok fu hu'→getV fu d=.b y→∀v,v=y→evJ C base n rest (T.set d (.b v) (clrL arm fr)) h Rs (addL arm D)=some q→∃fr1,evOps C.call base (o::r) fr0 h=.ok fr1 q.2.1∧WkD q.2.2 q.1 fr1:=by
   intro y fu hu' hbn hu hy v hv hr
   rw[segOf_eq hsg,show arm++pk::rest=(arm++[pk])++rest by simp]
   have hw':WkD D (T.set g.1 (.b (!g.2)) fr) fr0:=fun p=>by
    rw[getV_set]
    by_cases hp:p=g.1
    ·rw[if_pos hp,hp,←hbn,←hb];exact hw g.1
    ·rw[if_neg hp];exact hw p
   obtain⟨fr1,g1,g2⟩:=evOps_wk hk1 hw' hu
   have g1':=g1
   rw[evOps_pure hk2 g1] at g1'
   rw[evOps_app _ _ _ g1']
   exact evJ_sound n rest _ _ _ _ _ hr fr1 (grp_wk hw g1 hd hy g2 hv)
  cases ht:evJ C base n (arm++[pk]) (T.set g.1 (.b g.2) fr) h (T.set g.1 () Rs) D with
  |none=>
   rw[ht] at hr
   replace hr:(Option.rec none (fun v=>evJ C base n rest (T.set d (.b v) (clrL arm fr)) h Rs (addL arm D)) (cd (mrgB b g.2 false true) (FR.rec none (fun fu _=>bOf (getV fu d)) (evOps C.call base (arm++[pk]) (T.set g.1 (.b (!g.2)) fr) h)) none:Option Bool):JR)=some q:=hr
   cases hm:mrgB b g.2 false true with
   |false=>rw[hm] at hr;cases hr
   |true=>
    rw[hm] at hr
    have hbn:b= !g.2:=by
     generalize g.2=w at hm
     cases b<;>cases w<;>first|rfl|cases hm
    cases hu:evOps C.call base (arm++[pk]) (T.set g.1 (.b (!g.2)) fr) h with
    |no=>rw[hu] at hr;cases hr
    |ok fu hu'=>
     rw[hu] at hr
     replace hr:(Option.rec none (fun v=>evJ C base n rest (T.set d (.b v) (clrL arm fr)) h Rs (addL arm D)) (bOf (getV fu d)):JR)=some q:=hr
     cases hy:bOf (getV fu d) with
     |none=>rw[hy] at hr;cases hr
     |some y=>rw[hy] at hr;exact unt y fu hu' hbn hu (bOf_eq hy) y rfl hr
  |some t=>
  rw[ht] at hr
  cases hu:evOps C.call base (arm++[pk]) (T.set g.1 (.b (!g.2)) fr) h with
  |no=>rw[hu] at hr;cases hr
  |ok fu hu'=>
  rw[hu] at hr
  replace hr:(Option.rec none (fun v=>evJ C base n rest (T.set d (.b v) (clrL arm fr)) h Rs (addL arm D)) (Option.rec none (fun x=>Option.rec none (fun y=>some (mrgB b g.2 x y)) (bOf (getV fu d))) (bOf (getV t.1 d)):Option Bool):JR)=some q:=hr
  cases hx:bOf (getV t.1 d) with
  |none=>rw[hx] at hr;cases hr
  |some x=>
  rw[hx] at hr
  replace hr:(Option.rec none (fun v=>evJ C base n rest (T.set d (.b v) (clrL arm fr)) h Rs (addL arm D)) (Option.rec none (fun y=>some (mrgB b g.2 x y)) (bOf (getV fu d)):Option Bool):JR)=some q:=hr
  cases hy:bOf (getV fu d) with
  |none=>rw[hy] at hr;cases hr
  |some y=>
  rw[hy] at hr
  replace hr:evJ C base n rest (T.set d (.b (mrgB b g.2 x y)) (clrL arm fr)) h Rs (addL arm D)=some q:=hr
  have hx:=bOf_eq hx
  have hy:=bOf_eq hy
  rw[segOf_eq hsg,show arm++pk::rest=(arm++[pk])++rest by simp]
  by_cases hbq:b=g.2
  ·have hw':WkD D (T.set g.1 (.b g.2) fr) fr0:=fun p=>by
    rw[getV_set]
    by_cases hp:p=g.1
    ·rw[if_pos hp,hp,←hbq,←hb];exact hw g.1
    ·rw[if_neg hp];exact hw p
   obtain⟨fr1,g1,g2⟩:=evJ_sound n _ _ _ _ _ _ ht fr0 hw'
   have g1':=g1
   rw[evOps_pure hk2 g1] at g1'
   rw[evOps_app _ _ _ g1']
   exact evJ_sound n rest _ _ _ _ _ hr fr1 (grp_wk hw g1 hd hx g2 (by rw[hbq];cases g.2<;>rfl))
  ·have hbn:b= !g.2:=by cases b<;>cases hg2:g.2<;>simp_all
   rw[show(arm++[pk])++rest=o::r by rw[segOf_eq hsg];simp]
   exact unt y fu hu' hbn hu hy _ (by rw[hbn];cases g.2<;>rfl) hr
end
end Go.Ev
end
noncomputable section
namespace Go.Ev
open Go.Proofs
def viewApp (o:AOp) (fr:T AV) (h:H):Option (TypeId×Nat×Nat×AV×Option (List AV×Nat)):=match o with
 |.o2 (.app el sz by_ x y)=>some (el,sz,by_,ev x fr,elems (ev y fr) sz h)
 |_=>none
def viewBin (o:AOp) (fr:T AV):Option (BinOp×AV×AV):=match o with
 |.bin op x y=>some (op,ev x fr,ev y fr)
 |_=>none
theorem flatT_len (y:Ty) (xs:List (den y)):(flatT y xs).length=xs.length*wd y:=flat_len y xs
theorem flatT_snoc (y:Ty) (xs:List (den y)) (x:den y):flatT y (xs++[x])=flatT y xs++tc y x:=by simp[flatT]
theorem len_snoc {α:Type} (xs:List α) (x:α):(xs++[x]).length=xs.length+1:=by simp
theorem ev_grow {el sz by_ n:Nat}{l:List AV}{h:H} (hby:n*by_≤1099511627776):growA el sz by_ n l h=.ok (.sl (path h.next) 0 sz n n false) (fresh (.cs el l false) h):=by
 unfold growA roomy
 rw[show Nat.ble (Nat.mul n by_) 1099511627776=true from Nc hby];rfl
theorem ev_apn {el by_:Nat}{p:Id}{y:Ty}{xs:List (den y)}{x:den y}{h:H} (hby:(xs.length+1)*by_≤1099511627776) (hg:h.get p=some (.cs el (flatT y xs) false)):
 appendA el (wd y) by_ (.sl p 0 (wd y) xs.length xs.length false) (tc y x) 1 h=.ok (.sl (path h.next) 0 (wd y) (xs++[x]).length (xs++[x]).length false) (fresh (.cs el (flatT y (xs++[x])) false) (h.put p .dead)):=by
 show cd (Nat.beq (wd y) (wd y)) (cd (Nat.ble (Nat.add xs.length 1) xs.length) _ (match h.get p with
         |some (.cs el' l fz)=>match cut l 0 (Nat.mul xs.length (wd y)) with
          |some old=>cd false (growA el (wd y) by_ (Nat.add xs.length 1) (cat old (tc y x)) h)
           (cd (Nat.beq el el') (cd (Nat.beq 0 0) (cd fz .no (growA el (wd y) by_ (Nat.add xs.length 1) (cat old (tc y x)) (h.put p .dead))) .no) .no)
          |none=>.no
         |_=>.no)) .no=_
 have hc:cut (flatT y xs) 0 (Nat.mul xs.length (wd y))=some (flatT y xs):=by
  show cut (flatT y xs) 0 (xs.length*wd y)=_
  rw[←flatT_len];exact cut_all _
 rw[Nat.beq_refl,show Nat.ble (Nat.add xs.length 1) xs.length=false by rw[ble_nat];exact Df (by show¬(xs.length+1≤xs.length);omega),hg]
 show(match cut (flatT y xs) 0 (Nat.mul xs.length (wd y)) with
  |some old=>cd false (growA el (wd y) by_ (Nat.add xs.length 1) (cat old (tc y x)) h)
   (cd (Nat.beq el el) (cd (Nat.beq 0 0) (cd false .no (growA el (wd y) by_ (Nat.add xs.length 1) (cat old (tc y x)) (h.put p .dead))) .no) .no)
  |none=>.no)=_
 rw[hc,Nat.beq_refl]
 show growA el (wd y) by_ (xs.length+1) (cat (flatT y xs) (tc y x)) (h.put p .dead)=_
 rw[cat_eq,←flatT_snoc,←len_snoc xs x,ev_grow (by rw[len_snoc];exact hby)];rfl
theorem ev_app0 {el by_:Nat}{iv:AV} (hiv:isIv iv){p:Id}{y:Ty}{xs:List (den y)}{x:den y}{h:H} (hby:(xs.length+1)*by_≤1099511627776) (hg:h.get p=some (apb el y xs)):
 appendA el (wd y) by_ (apv iv p y xs) (tc y x) 1 h=.ok (.sl (path h.next) 0 (wd y) (xs++[x]).length (xs++[x]).length false) (fresh (.cs el (flatT y (xs++[x])) false) (h.put p .dead)):=by
 cases xs with
 |cons z t=>exact ev_apn (xs:=z::t) hby hg
 |nil=>
  have h1:appendA el (wd y) by_ iv (tc y x) 1 h=growA el (wd y) by_ 1 (tc y x) h:=by
   rcases hiv with rfl|rfl<;>rfl
  show appendA el (wd y) by_ iv (tc y x) 1 h=_
  have hput:h.put p .dead=h:=by
   show(⟨h.next,T.set p .dead h.t⟩:H)=h
   rw[T.set_self p h.t .dead hg]
  rw[h1,ev_grow (by simpa using hby),hput]
  simp[flatT]
section
variable {call:CallF}{base:Nat}{ops:List AO}{fr:T AV}{h:H}{Q:T AV→H→Prop}
theorem ev_app {o:AOp}{el sz by_:Nat}{x:AV}{cs:List AV}{n:Nat} (hv:viewApp o fr h=some (el,sz,by_,x,some (cs,n))) (id:Nat):evOp call o fr h id=appendA el sz by_ x cs n h:=by
 unfold viewApp at hv
 split at hv
 ·rename_i el' sz' by' x' y'
  simp only[Oj,Prod.mk.injEq] at hv
  obtain⟨h1,h2,h3,h4,h5⟩:=hv
  subst h1;subst h2;subst h3;subst h4
  show(match elems (ev y' fr) sz' h with
   |some (cs,k)=>appendA el' sz' by' (ev x' fr) cs k h
   |none=>.no)=_
  rw[h5]
 ·cases hv
theorem zapp (k q el by_:Nat) (iv:AV) (hiv:isIv iv) (p:Nat) (y:Ty) (xs:List (den y)) (x:den y) (hby:(xs.length+1)*by_≤1099511627776)
 (hr:RunOps call base (ops.drop (k+1)) (setD (opA ops k).dst (.sl (path q) 0 (wd y) (xs++[x]).length (xs++[x]).length false) (stF call base ops fr h k)) ⟨q+1,T.set (path q) (.cs el (flatT y (xs++[x])) false) (T.set (path p) .dead (stH call base ops fr h k).t)⟩ Q)
 (hok:stOk call base ops fr h k=true:=by kernel_rfl) (hk:Nat.blt k ops.length=true:=by kernel_rfl)
 (hw:wanted (opA ops k).g (stF call base ops fr h k)=some true:=by kernel_rfl) (hq:(stH call base ops fr h k).next=q:=by kernel_rfl)
 (hv:viewApp (opA ops k).op (stF call base ops fr h k) (stH call base ops fr h k)=some (el,wd y,by_,apv iv (path p) y xs,some (tc y x,1)):=by kernel_rfl)
 (hg:(stH call base ops fr h k).get (path p)=some (apb el y xs):=by kernel_rfl):RunOps call base ops fr h Q:=by
 refine RunOps.stepH k _ _ hok hk hw ((ev_app hv _).trans (ev_app0 hiv hby hg)) ?_
 subst hq;exact hr
theorem zapn (k q el by_:Nat) (p:Nat) (y:Ty) (xs:List (den y)) (x:den y) (hby:(xs.length+1)*by_≤1099511627776)
 (hr:RunOps call base (ops.drop (k+1)) (setD (opA ops k).dst (.sl (path q) 0 (wd y) (xs++[x]).length (xs++[x]).length false) (stF call base ops fr h k)) ⟨q+1,T.set (path q) (.cs el (flatT y (xs++[x])) false) (T.set (path p) .dead (stH call base ops fr h k).t)⟩ Q)
 (hok:stOk call base ops fr h k=true:=by kernel_rfl) (hk:Nat.blt k ops.length=true:=by kernel_rfl)
 (hw:wanted (opA ops k).g (stF call base ops fr h k)=some true:=by kernel_rfl) (hq:(stH call base ops fr h k).next=q:=by kernel_rfl)
 (hv:viewApp (opA ops k).op (stF call base ops fr h k) (stH call base ops fr h k)=some (el,wd y,by_,.sl (path p) 0 (wd y) xs.length xs.length false,some (tc y x,1)):=by kernel_rfl)
 (hg:(stH call base ops fr h k).get (path p)=some (.cs el (flatT y xs) false):=by kernel_rfl):RunOps call base ops fr h Q:=by
 refine RunOps.stepH k _ _ hok hk hw ((ev_app hv _).trans (ev_apn hby hg)) ?_
 subst hq;exact hr
end
section
variable {P:Program}{G:Gs}{nt:Nat}{fr:T AV}{h:H}{Q:Ex→T AV→H→Prop}
theorem Sat.give {c:Code} (hlo:1073741824≤G.B) (gs:List Bool) (p:Id) (el lo:Nat) (ex:Bool) (y:Ty) (xs:List (den y)) (hn:xs.length≤1073741824)
 (hv:getV fr gs=.sl p 0 (wd y) xs.length lo ex) (hg:h.get p=some (.cs el (flatT y xs) false)) (hc:Sat P G nt c (T.set gs (.isl y xs) fr) (h.put p .dead) Q):Sat P G nt c fr h Q:=by
 intro K e a he hs hf hgr hsz hp
 subst he
 let e2:Env:=⟨e.ρ,e.h.put p .dead,e.w,e.F⟩
 have hget:∀id,e2.h.get id=if id=p then some .dead else e.h.get id:=fun id=>put_get _ _ _ _
 have hlv:∀id,live e2.h id↔live e.h id∧id≠p:=fun id=>by
  constructor
  ·rintro ⟨b,hb,hd⟩
   rw[hget] at hb
   by_cases hh:id=p
   ·rw[if_pos hh] at hb;injection hb with hb;exact absurd hb.symm hd
   ·rw[if_neg hh] at hb;exact⟨⟨b,hb,hd⟩,hh⟩
  ·rintro ⟨⟨b,hb,hd⟩,hh⟩
   exact⟨b,by rw[hget,if_neg hh];exact hb,hd⟩
 have hlp:live e.h p:=⟨_,hg,by simp⟩
 have hown:∀b,Own e2 b→Own e b:=fun b ⟨id,h1,h2⟩=>⟨id,((hlv id).1 h1).1,h2⟩
 have hi:Mle (mm e) (mm e2):=⟨fun b (hb:Imm e b)=>⟨hb.1,hb.2.1,fun h=>hb.2.2 (hown b h)⟩,Nr _⟩
 have hx:Ext e e2:={
  next:=Nr _
  kn:=fun _ h=>h
  ren:=fun _ _=>rfl
  fr:=rfl
  qt:=⟨rfl,rfl,rfl⟩
  heap:=Nr _
  keep:=fun _ _ _=>rfl
  size:=fun _ _=>rfl
  own:=fun b _ h=>hown b h
  pres:=fun id b hb=>by
   rw[hget]
   by_cases hh:id=p
   ·rw[if_pos hh];exact⟨_,rfl⟩
   ·rw[if_neg hh];exact⟨b,hb⟩
  newk:=fun _ h=>.inl h}
 have hs2:St e2:={
  kn:=fun id hk=>by
   obtain⟨k,h1,h2,h3⟩:=hs.kn id hk
   exact⟨k,h1,h2,fun hl=>by obtain⟨b,hb⟩:=h3 hl;exact hx.pres id b hb⟩
  dk:=fun id b hb=>by
   rw[hget] at hb
   by_cases hh:id=p
   ·rw[hh];exact hs.dk p _ hg
   ·rw[if_neg hh] at hb;exact hs.dk id b hb
  lo:=hs.lo
  blk:=fun id b hb=>by
   rw[hget] at hb
   by_cases hh:id=p
   ·rw[if_pos hh] at hb;injection hb with hb;subst hb;trivial
   ·rw[if_neg hh] at hb
    exact BlkRel.ext hx (hs.dk id b hb) rfl b (hs.blk id b hb)
  inj:=fun id id' h1 h2 he=>hs.inj id id' ((hlv id).1 h1).1 ((hlv id').1 h2).1 he
  fr:=fun b hb=>⟨(hs.fr b hb).1,fun h=>(hs.fr b hb).2 (hown b h)⟩}
 have himp:Imm e2 (e.ρ p).1:=⟨hs.lt hlp,fun h=>(hs.fr _ h).2 ⟨p,hlp,rfl⟩,fun⟨id,h1,h2⟩=>((hlv id).1 h1).2 (hs.inj id p ((hlv id).1 h1).1 hlp h2)⟩
 let hd:H:=⟨0,T.set p (.cs el (flatT y xs) false) .e⟩
 have hhd:∀id,hd.get id=if id=p then some (.cs el (flatT y xs) false) else none:=fun id=>by
  show T.get id (T.set p _ .e)=_
  rw[T.get_set,T.get_e]
 refine hc K e2 a rfl hs2 (fun k=>?_) (hgr.ext hx) hsz (fun ex fr' h' hq=>(hp ex fr' h' hq).ext hx rfl)
 rw[getV_set]
 by_cases hk:path k=gs
 ·rw[if_pos hk]
  have h0:=hf k
  rw[hk,hv] at h0
  have:=decP_rel (e2:=e2) (hd:=hd) hs rfl hi (fun id b hb=>by
   rw[hhd] at hb
   by_cases hh:id=p
   ·rw[if_pos hh] at hb;rw[hh,hg];exact hb
   ·rw[if_neg hh] at hb;cases hb) (fun id ⟨b,hb,_⟩=>by
   rw[hhd] at hb
   by_cases hh:id=p
   ·rw[hh];exact himp
   ·rw[if_neg hh] at hb;cases hb) (by show 1073741824≤e.F.B;rw[hgr.1];exact hlo) (decP_tos (hd:=hd) (id:=p) (t:=y) (el:=el) (fz:=false) (ex:=ex) (lo:=lo) (xs:=xs) hn (by rw[hhd,if_pos rfl];rfl)) h0
  show relT (mm e2) e2.w (.sl y) xs [_]
  exact this
 ·rw[if_neg hk]
  exact Rel.ext hx _ _ (hf k)
theorem Sat.weak {c:Code} (gs:List Bool) (v v':AV) (hv:getV fr gs=v) (hw:∀(e:Env) (u:Value),Rel e v u→Rel e v' u) (hc:Sat P G nt c (T.set gs v' fr) h Q):Sat P G nt c fr h Q:=by
 intro K e a he hs hf hgr hsz hp
 refine hc K e a he hs (fun k=>?_) hgr hsz hp
 rw[getV_set]
 by_cases hk:path k=gs
 ·rw[if_pos hk]
  have h0:=hf k
  rw[hk,hv] at h0
  exact hw _ _ h0
 ·rw[if_neg hk];exact hf k
theorem Sat.giveA {c:Code} (hlo:1073741824≤G.B) (gs:List Bool) (iv:AV) (hiv:isIv iv) (p:Id) (el:Nat) (y:Ty) (xs:List (den y)) (hn:xs.length≤1073741824)
 (hv:getV fr gs=apv iv p y xs) (hg:h.get p=some (apb el y xs)) (hc:Sat P G nt c (T.set gs (.isl y xs) fr) (h.put p .dead) Q):Sat P G nt c fr h Q:=by
 cases xs with
 |cons x t=>exact Sat.give hlo gs p el _ false y (x::t) hn hv hg hc
 |nil=>
  have hput:h.put p .dead=h:=by
   show(⟨h.next,T.set p .dead h.t⟩:H)=h
   rw[T.set_self p h.t .dead hg]
  rw[hput] at hc
  refine Sat.weak gs iv (.isl y []) hv (fun e u hu=>?_) hc
  show relT (mm e) e.w (.sl y) [] [u]
  rcases hiv with rfl|rfl
  ·simp only[Rel] at hu
   obtain⟨a,hu⟩:=hu
   cases a with
   |none=>exact⟨_,rfl,.inl ⟨rfl,hu⟩⟩
   |some a=>exact⟨u,rfl,.inr ⟨a,0,hu,Nr _,Nz _,.inl rfl⟩⟩
  ·simp only[Rel] at hu
   exact⟨u,rfl,.inl ⟨rfl,hu.1⟩⟩
end
theorem gnew2 {n q:Nat}{gs:List Bool}{iv:AV}{el:TypeId}{y:Ty}{xs:List (den y)}{x:den y}{fr:T AV}{h:H} (hq:Nat.ble n q=true) (h1:getV fr gs=.sl (path q) 0 (wd y) (xs++[x]).length (xs++[x]).length false)
 (h2:h.get (path q)=some (.cs el (flatT y (xs++[x])) false)):GEnd n gs iv el y (xs++[x]) fr h:=
 .inr ⟨by simp,path q,_,false,h1,by rw[unpath_path];exact Nb hq,h2⟩
section
variable {Bn nt:Nat}{c:Code}{fr:T AV}{h:H}{Q:Ex→T AV→H→Prop}
theorem zga [BOk Bn] (gs:Nat) (iv:AV) (hiv:isIv iv) (p el:Nat) (y:Ty) (xs:List (den y)) (hn:xs.length≤1073741824) (hc:S Bn nt c (T.set (path gs) (.isl y xs) fr) (h.put (path p) .dead) Q)
 (hv:getV fr (path gs)=apv iv (path p) y xs:=by kernel_rfl) (hg:h.get (path p)=some (apb el y xs):=by kernel_rfl):S Bn nt c fr h Q:=
 Sat.giveA (BOk.lo (B:=Bn)) (path gs) iv hiv (path p) el y xs hn hv hg hc
end
theorem iv_em:isIv .em:=.inl rfl
end Go.Ev
namespace Go.Ev
open Go.Proofs
end Go.Ev
namespace Go.Ev
open Go.Proofs
section
variable {call:CallF}{base:Nat}{ops:List AO}{fr:T AV}{h:H}{Q:T AV→H→Prop}
end
end Go.Ev
namespace Go.Ev
end Go.Ev
namespace Go.Ev
open Go.Proofs
def ds0:DS:=⟨.e,⟨H0,[]⟩,[],[],[]⟩
def dsOf (x:Option DS):DS:=Option.rec ds0 (fun s=>s) x
def opD (ops:List DO) (k:Nat):DO:=Option.rec ⟨⟨none,.o2 .bad,none,0⟩,[],[]⟩ (fun x=>x) (nth ops k)
def stDk (call:CallF) (base na:Nat) (ops:List DO) (s:DS) (k:Nat):Option DS:=evD call base na (ops.take k) s
def RunD (call:CallF) (base na:Nat) (ops:List DO) (s:DS) (Q:DS→Prop):Prop:=∃s',evD call base na ops s=some s'∧Q s'
section
variable {call:CallF}{base na:Nat}{ops:List DO}{s:DS}{Q:DS→Prop}
theorem evD_append:∀(a b:List DO) (s:DS),evD call base na (a++b) s=Option.rec none (fun s=>evD call base na b s) (evD call base na a s)
 |[],b,s=>rfl
 |d::a,b,s=>by
  show(Option.rec none (evD call base na (a++b)) (stepD call base na d s):Option DS)=Option.rec none (fun s=>evD call base na b s) (Option.rec none (evD call base na a) (stepD call base na d s):Option DS)
  cases stepD call base na d s with
  |none=>rfl
  |some s'=>exact evD_append a b s'
theorem RunD.upto (k:Nat) (hok:isSomeD (stDk call base na ops s k)=true) (hr:RunD call base na (ops.drop k) (dsOf (stDk call base na ops s k)) Q):RunD call base na ops s Q:=by
 obtain⟨s',h1,h2⟩:=hr
 refine⟨s',?_,h2⟩
 have:=evD_append (call:=call) (base:=base) (na:=na) (ops.take k) (ops.drop k) s
 rw[Ly] at this
 rw[this]
 unfold stDk at hok h1
 cases hev:evD call base na (ops.take k) s with
 |none=>rw[hev] at hok;cases hok
 |some s1=>rw[hev] at h1;exact h1
theorem RunD.fin (hok:isSomeD (evD call base na ops s)=true) (hq:Q (dsOf (evD call base na ops s))):RunD call base na ops s Q:=by
 cases hev:evD call base na ops s with
 |none=>rw[hev] at hok;cases hok
 |some s'=>rw[hev] at hq;exact⟨s',hev,hq⟩
theorem opD_drop {k:Nat} (hk:Nat.blt k ops.length=true):ops.drop k=opD ops k::ops.drop (k+1):=by
 have hk:k<ops.length:=Nat.lt_of_succ_le (Nb hk)
 rw[List.drop_eq_getElem_cons hk]
 congr 1
 unfold opD
 rw[nth_eq,Lq hk]
theorem RunD.stepX (k:Nat) (v:AV) (h':H) (hok:isSomeD (stDk call base na ops s k)=true) (hk:Nat.blt k ops.length=true) (hw:wanted (opD ops k).o.g (dsOf (stDk call base na ops s k)).fr=some true)
 (hc:(opD ops k).o.op.cls=.X)
 (hv:evOp call (opD ops k).o.op (dsOf (stDk call base na ops s k)).fr (heapAt (dsOf (stDk call base na ops s k)).cur (opD ops k).ks (dsOf (stDk call base na ops s k)).mks) (Nat.add base na)=.ok v h')
 (hf:freeOf h' base (cat (opD ops k).ks (dsOf (stDk call base na ops s k)).cur.cons) na=true)
 (hr:RunD call base na (ops.drop (k+1)) (Ev.stepX (opD ops k) (dsOf (stDk call base na ops s k)) v h') Q):RunD call base na ops s Q:=by
 refine RunD.upto k hok ?_
 obtain⟨s',h1,h2⟩:=hr
 refine⟨s',?_,h2⟩
 rw[opD_drop hk]
 show(Option.rec none (evD call base na (ops.drop (k+1))) (stepD call base na (opD ops k) (dsOf (stDk call base na ops s k))):Option DS)=some s'
 have:stepD call base na (opD ops k) (dsOf (stDk call base na ops s k))=some (Ev.stepX (opD ops k) (dsOf (stDk call base na ops s k)) v h'):=by
  unfold stepD
  rw[hw,hc,hv]
  show cd (freeOf h' base (cat (opD ops k).ks (dsOf (stDk call base na ops s k)).cur.cons) na) _ none=_
  rw[hf];rfl
 rw[this];exact h1
end
section
variable {Bn:Nat}{nt rid:Nat}{ops:Array Oper}{fr:T AV}{h:H}{Q:Ex→T AV→H→Prop}
def DQ (Q:T AV→H→Prop) (s:DS):Prop:=gotA (revOnto s.old [s.cur]) s.mks s.rs=wantA s.rs∧Q s.fr (puts (selC s.cur.cons s.mks) s.cur.h)
theorem Sat.dregS {P:Program}{G:Gs}{call:CallF} (hm:P.follows .mixedOrders=true) (hk:CallOK P G call) (hd:chkD (regN P G nt ops) ops.toList (predsGo ops.toList []) (regL P G nt ops)=true)
 (hr:RunD call h.next (regN P G nt ops) (drawOf (predsGo ops.toList []) (regL P G nt ops)) ⟨fr,⟨⟨Nat.add h.next (regN P G nt ops),h.t⟩,[]⟩,[],[],[]⟩ (DQ (Q .normal))):Sat P G nt (.region rid ops true) fr h Q:=by
 obtain⟨s,h1,h2,h3⟩:=hr
 have he:evDr P G nt call ops fr h=some s:=h1
 exact Sat.dregV hm hk hd (by rw[he];rfl) (by rw[he];exact h2) (by rw[he];exact h3)
end
section
variable {call:CallF}{base na:Nat}{ops:List DO}{s:DS}{Q:T AV→H→Prop}
theorem zfd (hq:Q (dsOf (evD call base na ops s)).fr (puts (selC (dsOf (evD call base na ops s)).cur.cons (dsOf (evD call base na ops s)).mks) (dsOf (evD call base na ops s)).cur.h))
 (hok:isSomeD (evD call base na ops s)=true:=by kernel_rfl)
 (hc:gotA (revOnto (dsOf (evD call base na ops s)).old [(dsOf (evD call base na ops s)).cur]) (dsOf (evD call base na ops s)).mks (dsOf (evD call base na ops s)).rs=wantA (dsOf (evD call base na ops s)).rs:=by kernel_rfl):RunD call base na ops s (DQ Q):=RunD.fin hok ⟨hc,hq⟩
end
end Go.Ev
namespace Go.Ev
end Go.Ev
namespace Go.Ev
open Go.Proofs
end Go.Ev
namespace Go.Ev
open Go.Proofs
section
variable {call:CallF}{base na:Nat}{ops:List DO}{s:DS}{Q:DS→Prop}
theorem RunD.stepN (k:Nat) (v:AV) (hok:isSomeD (stDk call base na ops s k)=true) (hk:Nat.blt k ops.length=true) (hw:wanted (opD ops k).o.g (dsOf (stDk call base na ops s k)).fr=some true)
 (hc:(opD ops k).o.op.cls=.N)
 (hv:evOp call (opD ops k).o.op (dsOf (stDk call base na ops s k)).fr (dsOf (stDk call base na ops s k)).cur.h (Nat.add base (opD ops k).o.k)=.ok v (dsOf (stDk call base na ops s k)).cur.h)
 (hr:RunD call base na (ops.drop (k+1)) (Ev.stepV (opD ops k) (dsOf (stDk call base na ops s k)) v) Q):RunD call base na ops s Q:=by
 refine RunD.upto k hok ?_
 obtain⟨s',h1,h2⟩:=hr
 refine⟨s',?_,h2⟩
 rw[opD_drop hk]
 show(Option.rec none (evD call base na (ops.drop (k+1))) (stepD call base na (opD ops k) (dsOf (stDk call base na ops s k))):Option DS)=some s'
 have:stepD call base na (opD ops k) (dsOf (stDk call base na ops s k))=some (Ev.stepV (opD ops k) (dsOf (stDk call base na ops s k)) v):=by
  unfold stepD
  rw[hw,hc,hv];rfl
 rw[this];exact h1
end
end Go.Ev
end
noncomputable section
namespace Go.Ev
open Go.Proofs
def digF:Nat→Nat→List Nat
 |0,_=>[]
 |N+1,n=>if n=0 then[] else digF N (n / 10)++[48+n % 10]
end Go.Ev
namespace Go.Ev
open Go.Proofs
end Go.Ev
namespace Go.Ev
end Go.Ev
namespace Go.Ev
end Go.Ev
end
noncomputable section
namespace Go.Ev
open Go.Proofs
section
variable {P:Program}{G:Gs}{nt:Nat}{fr:T AV}{h:H}{Q:Ex→T AV→H→Prop}
end
end Go.Ev
namespace Go.Ev
open Go.Proofs
theorem flatT_app (y:Ty) (xs zs:List (den y)):flatT y (xs++zs)=flatT y xs++flatT y zs:=by simp[flatT]
section
variable {call:CallF}{base:Nat}{ops:List AO}{fr:T AV}{h:H}{Q:T AV→H→Prop}
end
end Go.Ev
namespace Go.Ev
end Go.Ev
end
noncomputable section
namespace Go.Proofs
def Tryz.lays173_ren:Go.Shelf.Ren:=⟨fun|173=>453|246=>570|283=>662|284=>663|285=>664|286=>665|129=>558|317=>749|318=>750|319=>751|320=>752|337=>799|338=>800|n=>n,fun|2=>2|3=>3|9=>9|4=>4|171=>620|0=>0|53=>137|37=>22|5=>5|173=>622|212=>676|51=>536|20=>20|213=>677|46=>202|232=>724|233=>725|n=>n,fun|17=>1|18=>6|19=>7|n=>n⟩
theorem Tryz.lays173:Go.Proofs.LaysM.n173 Tryz.prog Tryz.lays173_ren where
 mixed:=kr
 f129:=Tryz.func558.trans (congrArg some kr)
 f173:=Tryz.func453.trans (congrArg some kr)
 f246:=Tryz.func570.trans (congrArg some kr)
 f283:=Tryz.func662.trans (congrArg some kr)
 f284:=Tryz.func663.trans (congrArg some kr)
 f285:=Tryz.func664.trans (congrArg some kr)
 f286:=Tryz.func665.trans (congrArg some kr)
 f317:=Tryz.func749.trans (congrArg some kr)
 f318:=Tryz.func750.trans (congrArg some kr)
 f319:=Tryz.func751.trans (congrArg some kr)
 f320:=Tryz.func752.trans (congrArg some kr)
 f337:=Tryz.func799.trans (congrArg some kr)
 f338:=Tryz.func800.trans (congrArg some kr)
 t0:=Tryz.underlying0
 a0:=Tryz.isAgg0
 z0:=Tryz.sizeOf0
 v0:=Tryz.zeroValue0
 t2:=Tryz.underlying2
 a2:=Tryz.isAgg2
 z2:=Tryz.sizeOf2
 v2:=Tryz.zeroValue2
 t3:=Tryz.underlying3
 a3:=Tryz.isAgg3
 z3:=Tryz.sizeOf3
 v3:=Tryz.zeroValue3
 t4:=Tryz.underlying4
 a4:=Tryz.isAgg4
 z4:=Tryz.sizeOf4
 v4:=Tryz.zeroValue4
 t5:=Tryz.underlying5
 a5:=Tryz.isAgg5
 z5:=Tryz.sizeOf5
 v5:=Tryz.zeroValue5
 t9:=Tryz.underlying9
 a9:=Tryz.isAgg9
 z9:=Tryz.sizeOf9
 v9:=Tryz.zeroValue9
 t20:=Tryz.underlying20
 a20:=Tryz.isAgg20
 z20:=Tryz.sizeOf20
 v20:=Tryz.zeroValue20
 t37:=Tryz.underlying22
 a37:=Tryz.isAgg22
 z37:=Tryz.sizeOf22
 v37:=Tryz.zeroValue22
 t46:=Tryz.underlying202
 a46:=Tryz.isAgg202
 z46:=Tryz.sizeOf202
 v46:=Tryz.zeroValue202
 t51:=Tryz.underlying536
 a51:=Tryz.isAgg536
 z51:=Tryz.sizeOf536
 v51:=Tryz.zeroValue536
 t53:=Tryz.underlying137
 a53:=Tryz.isAgg137
 z53:=Tryz.sizeOf137
 v53:=Tryz.zeroValue137
 t171:=Tryz.underlying620
 a171:=Tryz.isAgg620
 z171:=Tryz.sizeOf620
 v171:=Tryz.zeroValue620
 t173:=Tryz.underlying622
 a173:=Tryz.isAgg622
 z173:=Tryz.sizeOf622
 v173:=Tryz.zeroValue622
 t212:=Tryz.underlying676
 a212:=Tryz.isAgg676
 z212:=Tryz.sizeOf676
 v212:=Tryz.zeroValue676
 t213:=Tryz.underlying677
 a213:=Tryz.isAgg677
 z213:=Tryz.sizeOf677
 t232:=Tryz.underlying724
 a232:=Tryz.isAgg724
 z232:=Tryz.sizeOf724
 v232:=Tryz.zeroValue724
 t233:=Tryz.underlying725
 a233:=Tryz.isAgg725
 z233:=Tryz.sizeOf725
 v233:=Tryz.zeroValue725
 g17:=kr
 g18:=kr
 g19:=kr
 i0:=kr
 i2:=kr
 i3:=kr
 i4:=kr
 i5:=kr
 i9:=kr
 i20:=kr
 i37:=kr
 i46:=kr
 i51:=kr
 i53:=kr
 i171:=kr
 i173:=kr
 i212:=kr
 i232:=kr
 i233:=kr
 m17:=kr
 m18:=kr
 m19:=kr
end Go.Proofs
namespace Go.Ev
open Go.Proofs Go.Shelf Go.Sort
abbrev nmOf {n:String}{v:Option Nat} (_:Tryz.prog.globalNamed n=v):String:=n
theorem tab_of {B:Nat}{e:Env} (hg:GRel (GG B) e):Lib.TabIs Tryz.prog e.w (nmOf Tryz.lays173.m17) .u64 Lib.pow10Tab:=by
 obtain⟨h1,h2⟩:=hg.2.1 1 ⟨powT,powX⟩ rfl
 simp only[Rel] at h1
 obtain⟨b,o,us,hv,hi,hcs,hT⟩:=h1
 injection hv with hv;injection hv with hv;injection hv with g1 g2
 subst g1
 obtain rfl:o=0:=om
 have hr:=relT_relL powT powX us hT
 have hsz:bsize e.w 1=20:=h2
 unfold bsize at hsz
 split at hsz
 ·rename_i c el fr hb
  have hn:Tryz.prog.globalNamed (nmOf Tryz.lays173.m17)=some 1:=Tryz.lays173.m17
  unfold Lib.TabIs World.var?
  rw[hn]
  show(match e.w.heap[1]? with|some (.cells cs _ _)=>some cs|_=>none)=_
  rw[hb]
  show some c=_
  congr 1
  have hus:us=(Lib.pow10Tab.map fun z=>Value.int .u64 z):=by
   have hr2:RelL e ((powL++[10000000000000000000]).map fun n:Nat=>AV.i .u64 (.ofNat n)) us:=hr
   have hall:∀(l:List Nat) (us:List Value),RelL e (l.map fun n:Nat=>AV.i .u64 (.ofNat n)) us→us=l.map fun n:Nat=>Value.int .u64 (.ofNat n):=by
    intro l
    induction l with
    |nil=>intro us h;exact relL0 h
    |cons n l ih=>
     intro us h
     cases us with
     |nil=>simp[RelL] at h
     |cons u us=>
      simp only[List.map_cons,RelL] at h
      obtain⟨ha,hb⟩:=h
      have ha:u=.int .u64 (.ofNat n):=by simpa only[Rel] using ha
      rw[ha,ih us hb];rfl
   rw[hall _ us hr2]
   rfl
  apply Array.ext
  ·rw[hsz];rfl
  ·intro i hi1 hi2
   have hlt:i<us.length:=by rw[hus];simpa using hi2
   have hu:=hcs i us[i] (Lq hlt)
   simp only[World.cell?,hb] at hu
   have hu:c[0+i]? =some us[i]:=by simpa using hu
   rw[Nat.zero_add,Aq hi1] at hu
   have:=Oi hu
   rw[this]
   simp[hus]
 ·omega
def digs (n:Nat):List Nat:=if n=0 then[48] else digF (n+1) n
theorem digF_fuel:∀(N M n:Nat),n<N→n<M→digF N n=digF M n
 |0,_,n,h,_=>absurd h (Nn _)
 |_+1,0,n,_,h=>absurd h (Nn _)
 |N+1,M+1,n,h1,h2=>by
  by_cases h0:n=0
  ·simp[digF,h0]
  ·simp only[digF,if_neg h0]
   rw[digF_fuel N M (n / 10) om om]
theorem digs_eq (n:Nat):U8 (digs n)=Lib.decDigits n:=by
 induction n using Nat.strongRecOn with
 |_ n ih=>
  rw[Lib.decDigits]
  by_cases h:n<10
  ·rw[dif_pos h]
   unfold digs
   by_cases h0:n=0
   ·subst h0;rfl
   ·have:digF n 0=[]:=by cases n<;>simp[digF]
    rw[if_neg h0]
    simp only[digF,if_neg h0,show n / 10=0 by omega,this,show n % 10=n by omega];rfl
  ·rw[dif_neg h,←ih (n / 10) om]
   unfold digs
   rw[if_neg om,if_neg om]
   simp only[digF,if_neg (show n≠0 by omega)]
   rw[show digF n (n / 10)=(if n / 10=0 then[] else digF (n / 10) (n / 10 / 10)++[48+n / 10 % 10]) from digF_fuel n (n / 10+1) (n / 10) om om]
   simp[U8]
theorem digF_lt:∀(N n:Nat),∀c∈digF N n,c<256
 |0,n,c,h=>by simp[digF] at h
 |N+1,n,c,h=>by
  simp only[digF] at h
  split at h
  ·cases h
  ·rcases List.mem_append.1 h with h|h
   ·exact digF_lt N _ c h
   ·rw[List.mem_singleton.1 h];omega
theorem digs_lt (n:Nat):∀c∈digs n,c<256:=by
 unfold digs
 split
 ·intro c h;rw[List.mem_singleton.1 h];omega
 ·exact digF_lt _ _
theorem digF_le:∀(k N n:Nat),n<10 ^ k→(digF N n).length≤k
 |_,0,n,_=>Nz _
 |0,N+1,n,h=>by
  have:n=0:=by simp at h;omega
  simp[digF,this]
 |k+1,N+1,n,h=>by
  simp only[digF]
  split
  ·exact Nz _
  ·have:=digF_le k N (n / 10) (by rw[Nat.div_lt_iff_lt_mul om,←Nat.pow_succ];exact h)
   simp only[La,Lcz,Ln];omega
def itoaN (a:Int):List Nat:=if a<0 then 45::digs a.natAbs else digs a.toNat
theorem itoaN_eq (a:Int):U8 (itoaN a)=Lib.itoa a:=by
 unfold itoaN Lib.itoa
 split
 ·simp only[U8,List.map_cons]
  rw[←digs_eq];rfl
 ·exact digs_eq _
theorem itoaN_lt (a:Int):∀c∈itoaN a,c<256:=by
 unfold itoaN
 split
 ·intro c h
  rcases List.mem_cons.1 h with rfl|h
  ·omega
  ·exact digs_lt _ c h
 ·exact digs_lt _
theorem digs_le {n:Nat} (h:n<10 ^ 20):(digs n).length≤20:=by
 unfold digs
 split
 ·simp
 ·exact digF_le 20 _ _ h
theorem itoaN_le {a:Int} (h:a.natAbs<10 ^ 20):(itoaN a).length≤21:=by
 unfold itoaN
 split
 ·have:=digs_le h;simp only[Lcz];omega
 ·have:=digs_le (n:=a.toNat) (Nat.lt_of_le_of_lt om h);omega
def c49 (a0 a1:Int):denL [⟨false,.str⟩]:=(itoaN a0,())
theorem c49_p (a0 a1:Int) (h0:@LE.le Int _ (-9223372036854775808) a0) (h1:@LE.le Int _ a0 9223372036854775807):U (α:=Nat) (c49 a0 a1).1≤21:=
 itoaN_le (Nat.lt_of_le_of_lt (show a0.natAbs≤9223372036854775808 by omega) (by decide))
end Go.Ev
namespace Go.Ev
open Go.Proofs
end Go.Ev
end
noncomputable section
namespace Go.Proofs
def Tryz.lays174_ren:Go.Shelf.Ren:=⟨fun|174=>758|247=>803|245=>804|287=>825|279=>826|280=>827|281=>828|282=>829|321=>840|322=>841|316=>842|171=>844|205=>843|243=>849|246=>570|283=>662|284=>663|285=>664|286=>665|129=>558|317=>749|318=>750|319=>751|320=>752|337=>799|338=>800|n=>n,fun|9=>9|3=>3|2=>2|75=>513|85=>683|4=>4|167=>726|5=>5|53=>137|175=>727|46=>202|168=>729|37=>22|0=>0|210=>739|21=>21|127=>605|145=>744|143=>742|171=>620|173=>622|212=>676|51=>536|20=>20|213=>677|232=>724|233=>725|80=>266|n=>n,fun|15=>8|16=>9|17=>1|18=>6|19=>7|n=>n⟩
theorem Tryz.lays174:Go.Proofs.LaysC.n174 Tryz.prog Tryz.lays174_ren where
 mixed:=kr
 f129:=Tryz.func558.trans (congrArg some kr)
 f171:=Tryz.func844.trans (congrArg some kr)
 f174:=Tryz.func758.trans (congrArg some kr)
 f205:=Tryz.func843.trans (congrArg some kr)
 f243:=Tryz.func849.trans (congrArg some kr)
 f245:=Tryz.func804.trans (congrArg some kr)
 f246:=Tryz.func570.trans (congrArg some kr)
 f247:=Tryz.func803.trans (congrArg some kr)
 f279:=Tryz.func826.trans (congrArg some kr)
 f280:=Tryz.func827.trans (congrArg some kr)
 f281:=Tryz.func828.trans (congrArg some kr)
 f282:=Tryz.func829.trans (congrArg some kr)
 f283:=Tryz.func662.trans (congrArg some kr)
 f284:=Tryz.func663.trans (congrArg some kr)
 f285:=Tryz.func664.trans (congrArg some kr)
 f286:=Tryz.func665.trans (congrArg some kr)
 f287:=Tryz.func825.trans (congrArg some kr)
 f316:=Tryz.func842.trans (congrArg some kr)
 f317:=Tryz.func749.trans (congrArg some kr)
 f318:=Tryz.func750.trans (congrArg some kr)
 f319:=Tryz.func751.trans (congrArg some kr)
 f320:=Tryz.func752.trans (congrArg some kr)
 f321:=Tryz.func840.trans (congrArg some kr)
 f322:=Tryz.func841.trans (congrArg some kr)
 f337:=Tryz.func799.trans (congrArg some kr)
 f338:=Tryz.func800.trans (congrArg some kr)
 t0:=Tryz.underlying0
 a0:=Tryz.isAgg0
 z0:=Tryz.sizeOf0
 v0:=Tryz.zeroValue0
 t2:=Tryz.underlying2
 a2:=Tryz.isAgg2
 z2:=Tryz.sizeOf2
 v2:=Tryz.zeroValue2
 t3:=Tryz.underlying3
 a3:=Tryz.isAgg3
 z3:=Tryz.sizeOf3
 v3:=Tryz.zeroValue3
 t4:=Tryz.underlying4
 a4:=Tryz.isAgg4
 z4:=Tryz.sizeOf4
 v4:=Tryz.zeroValue4
 t5:=Tryz.underlying5
 a5:=Tryz.isAgg5
 z5:=Tryz.sizeOf5
 v5:=Tryz.zeroValue5
 t9:=Tryz.underlying9
 a9:=Tryz.isAgg9
 z9:=Tryz.sizeOf9
 v9:=Tryz.zeroValue9
 t20:=Tryz.underlying20
 a20:=Tryz.isAgg20
 z20:=Tryz.sizeOf20
 v20:=Tryz.zeroValue20
 t21:=Tryz.underlying21
 a21:=Tryz.isAgg21
 z21:=Tryz.sizeOf21
 v21:=Tryz.zeroValue21
 t37:=Tryz.underlying22
 a37:=Tryz.isAgg22
 z37:=Tryz.sizeOf22
 v37:=Tryz.zeroValue22
 t46:=Tryz.underlying202
 a46:=Tryz.isAgg202
 z46:=Tryz.sizeOf202
 v46:=Tryz.zeroValue202
 t51:=Tryz.underlying536
 a51:=Tryz.isAgg536
 z51:=Tryz.sizeOf536
 v51:=Tryz.zeroValue536
 t53:=Tryz.underlying137
 a53:=Tryz.isAgg137
 z53:=Tryz.sizeOf137
 v53:=Tryz.zeroValue137
 t75:=Tryz.underlying513
 a75:=Tryz.isAgg513
 z75:=Tryz.sizeOf513
 v75:=Tryz.zeroValue513
 t85:=Tryz.underlying683
 a85:=Tryz.isAgg683
 z85:=Tryz.sizeOf683
 v85:=Tryz.zeroValue683
 t127:=Tryz.underlying605
 a127:=Tryz.isAgg605
 z127:=Tryz.sizeOf605
 v127:=Tryz.zeroValue605
 t143:=Tryz.underlying742
 a143:=Tryz.isAgg742
 z143:=Tryz.sizeOf742
 v143:=Tryz.zeroValue742
 t145:=Tryz.underlying744
 a145:=Tryz.isAgg744
 z145:=Tryz.sizeOf744
 v145:=Tryz.zeroValue744
 t167:=Tryz.underlying726
 a167:=Tryz.isAgg726
 z167:=Tryz.sizeOf726
 v167:=Tryz.zeroValue726
 t168:=Tryz.underlying729
 a168:=Tryz.isAgg729
 z168:=Tryz.sizeOf729
 v168:=Tryz.zeroValue729
 t171:=Tryz.underlying620
 a171:=Tryz.isAgg620
 z171:=Tryz.sizeOf620
 v171:=Tryz.zeroValue620
 t173:=Tryz.underlying622
 a173:=Tryz.isAgg622
 z173:=Tryz.sizeOf622
 v173:=Tryz.zeroValue622
 t175:=Tryz.underlying727
 a175:=Tryz.isAgg727
 z175:=Tryz.sizeOf727
 v175:=Tryz.zeroValue727
 t210:=Tryz.underlying739
 a210:=Tryz.isAgg739
 z210:=Tryz.sizeOf739
 v210:=Tryz.zeroValue739
 t212:=Tryz.underlying676
 a212:=Tryz.isAgg676
 z212:=Tryz.sizeOf676
 v212:=Tryz.zeroValue676
 t213:=Tryz.underlying677
 a213:=Tryz.isAgg677
 z213:=Tryz.sizeOf677
 t232:=Tryz.underlying724
 a232:=Tryz.isAgg724
 z232:=Tryz.sizeOf724
 v232:=Tryz.zeroValue724
 t233:=Tryz.underlying725
 a233:=Tryz.isAgg725
 z233:=Tryz.sizeOf725
 v233:=Tryz.zeroValue725
 g15:=kr
 g16:=kr
 g17:=kr
 g18:=kr
 g19:=kr
 t80:=Tryz.underlying266
 a80:=Tryz.isAgg266
 z80:=Tryz.sizeOf266
 v80:=Tryz.zeroValue266
 i0:=kr
 i2:=kr
 i3:=kr
 i4:=kr
 i5:=kr
 i9:=kr
 i20:=kr
 i21:=kr
 i37:=kr
 i46:=kr
 i51:=kr
 i53:=kr
 i75:=kr
 i80:=kr
 i85:=kr
 i127:=kr
 i143:=kr
 i145:=kr
 i167:=kr
 i168:=kr
 i171:=kr
 i173:=kr
 i175:=kr
 i210:=kr
 i212:=kr
 i232:=kr
 i233:=kr
 m15:=kr
 m16:=kr
 m17:=kr
 m18:=kr
 m19:=kr
 c0:=kr
 c2:=kr
 c3:=kr
 c4:=kr
 c5:=kr
 c9:=kr
 c20:=kr
 c21:=kr
 c37:=kr
 c46:=kr
 c51:=kr
 c53:=kr
 c75:=kr
 c80:=kr
 c85:=kr
 c127:=kr
 c143:=kr
 c145:=kr
 c167:=kr
 c168:=kr
 c171:=kr
 c173:=kr
 c175:=kr
 c210:=kr
 c212:=kr
 c213:=kr
 c232:=kr
 c233:=kr
end Go.Proofs
end
noncomputable section
namespace Go.Ev
open Go.Proofs
def inL (L:List Con) (f:Nat):Bool:=List.rec false (fun c _ ih=>cd (Nat.beq c.f f) true ih) L
def okR (r:R):Option AV:=R.rec none (fun v _=>some v) r
abbrev Exs:Type:=List (Nat×(List AV→Option AV))
def ExOk (B:Nat) (E:Exs):Prop:=∀q∈E,∀args v e vs,q.2 args=some v→St e→GRel (GG B) e→RelL e args vs→
 Does PP q.1 vs.toArray e.w (fun cv w'=>∃e',e'.w=w'∧e'.h=e.h∧St e'∧Ext e e'∧Rel e' v cv)
theorem exOk0 {B:Nat}:ExOk B []:=fun q h=>by cases h
def lookE (E:Exs) (f:Nat):Option (List AV→Option AV):=List.rec none (fun q _ ih=>cd (Nat.beq q.1 f) (some q.2) ih) E
theorem lookE_ok {f:Nat}{g:List AV→Option AV}:∀{E:Exs},lookE E f=some g→(f,g)∈E
 |[],h=>by cases h
 |q::E,h=>by
  have h:cd (Nat.beq q.1 f) (some q.2) (lookE E f)=some g:=h
  cases hb:Nat.beq q.1 f with
  |true=>
   rw[hb] at h
   obtain rfl:=Oi h
   obtain rfl:=Nq hb
   exact Mc ..
  |false=>rw[hb] at h;exact Loz _ (lookE_ok h)
def codeT (B:Nat) (f:Nat):FT:=match PP.funcs[f]? with
 |some fn=>cd (fn.name== "runtime.NumGoroutine") .none (match compF PP (GG B) fn with
  |some af=>.code af
  |none=>.none)
 |none=>.none
def tblC (B:Nat) (L:List Con) (E:Exs) (f:Nat):FT:=
 cd (inL L f) (.exth fun args h=>okR (callOf L f args h)) (Option.rec (codeT B f) (fun g=>.ext g) (lookE E f))
theorem codeT_code {B f:Nat}{af:AF} (h:codeT B f=.code af):∃fn,PP.funcs[f]? =some fn∧compF PP (GG B) fn=some af∧(fn.name== "runtime.NumGoroutine")=false:=by
 unfold codeT at h
 cases hf:PP.funcs[f]? with
 |none=>rw[hf] at h;cases h
 |some fn=>
  rw[hf] at h
  cases hn:(fn.name== "runtime.NumGoroutine") with
  |true=>simp only[hn,cd] at h;cases h
  |false=>
   simp only[hn,cd] at h
   cases hc:compF PP (GG B) fn with
   |none=>rw[hc] at h;cases h
   |some af'=>
    rw[hc] at h
    injection h with h
    subst h
    exact⟨fn,rfl,hc,hn⟩
theorem codeT_no {B f:Nat}{g:List AV→Option AV}:codeT B f≠.ext g:=by
 intro h
 unfold codeT at h
 cases hf:PP.funcs[f]? with
 |none=>rw[hf] at h;cases h
 |some fn=>
  rw[hf] at h
  cases hn:(fn.name== "runtime.NumGoroutine") with
  |true=>simp only[hn,cd] at h;cases h
  |false=>
   simp only[hn,cd] at h
   cases hc:compF PP (GG B) fn with
   |none=>rw[hc] at h;cases h
   |some af'=>rw[hc] at h;cases h
theorem codeT_noh {B f:Nat}{g:List AV→H→Option AV}:codeT B f≠.exth g:=by
 intro h
 unfold codeT at h
 cases hf:PP.funcs[f]? with
 |none=>rw[hf] at h;cases h
 |some fn=>
  rw[hf] at h
  cases hn:(fn.name== "runtime.NumGoroutine") with
  |true=>simp only[hn,cd] at h;cases h
  |false=>
   simp only[hn,cd] at h
   cases hc:compF PP (GG B) fn with
   |none=>rw[hc] at h;cases h
   |some af'=>rw[hc] at h;cases h
theorem tblC_cases (B:Nat) (L:List Con) (E:Exs) (f:Nat):tblC B L E f=.exth (fun args h=>okR (callOf L f args h))∨(∃g,lookE E f=some g∧tblC B L E f=.ext g)∨tblC B L E f=codeT B f:=by
 have e0:tblC B L E f=cd (inL L f) (.exth fun args h=>okR (callOf L f args h)) (Option.rec (codeT B f) (fun g=>.ext g) (lookE E f)):=rfl
 rw[e0]
 generalize codeT B f=c
 generalize inL L f=i
 cases i with
 |true=>left;rfl
 |false=>
  right
  cases hl:lookE E f with
  |none=>right;rfl
  |some g=>left;exact⟨g,rfl,rfl⟩
theorem codeT_nom {B f:Nat}{g:List AV→H→Option AV}{af:AF}:codeT B f≠.mix g af:=by
 intro h
 unfold codeT at h
 cases hf:PP.funcs[f]? with
 |none=>rw[hf] at h;cases h
 |some fn=>
  rw[hf] at h
  cases hn:(fn.name== "runtime.NumGoroutine") with
  |true=>simp only[hn,cd] at h;cases h
  |false=>
   simp only[hn,cd] at h
   cases hc:compF PP (GG B) fn with
   |none=>rw[hc] at h;cases h
   |some af'=>rw[hc] at h;cases h
theorem tblC_ok {B:Nat} [BOk B]{L:List Con}{E:Exs} (hL:Okl B L) (hE:ExOk B E):Tbl PP (GG B) (tblC B L E) where
 code:=fun f af h=>by
  rcases tblC_cases B L E f with h1|⟨g,_,h1⟩|h1
  ·rw[h1] at h;cases h
  ·rw[h1] at h;cases h
  ·rw[h1] at h;exact codeT_code h
 mix:=fun f g af h=>by
  rcases tblC_cases B L E f with h1|⟨g',h2,h1⟩|h1
  ·rw[h1] at h;cases h
  ·rw[h1] at h;cases h
  ·exact absurd (h1.symm.trans h) codeT_nom
 ext:=fun f g h args v e vs hg hs hG hr=>by
  rcases tblC_cases B L E f with h1|⟨g',h2,h1⟩|h1
  ·rw[h1] at h;cases h
  ·rw[h1] at h
   injection h with h
   subst h
   exact hE _ (lookE_ok h2) args v e vs hg hs hG hr
  ·exact absurd (h1.symm.trans h) codeT_no
 exth:=fun f g h args v e vs hg hs hG hr=>by
  rcases tblC_cases B L E f with h1|⟨g',h2,h1⟩|h1
  ·rw[h1] at h
   injection h with h
   subst h
   have hg:okR (callOf L f args e.h)=some v:=hg
   cases hcall:callOf L f args e.h with
   |no=>rw[hcall] at hg;cases hg
   |ok r h'=>
    rw[hcall] at hg
    obtain rfl:=Oi (show some r=some v from hg)
    have hp:=callOf_pure L f args e.h r h' hcall
    subst hp
    exact callOf_ok (G:=GG B) (BOk.lo (B:=B)) hL f args r e.h e vs hcall hs hG hr
  ·rw[h1] at h;cases h
  ·exact absurd (h1.symm.trans h) codeT_noh
def untup (n:Nat) (r:AV):Option (List AV):=match n with
 |1=>some [r]
 |n=>match r with
  |.tu vs=>cd (Nat.beq vs.length n) (some vs) none
  |_=>none
theorem untup_eq {n:Nat}{r:AV}{us:List AV} (h:untup n r=some us):r=tupA us:=by
 unfold untup at h
 split at h
 ·obtain rfl:=Oi h;rfl
 ·rename_i hn
  split at h
  ·rename_i vs
   obtain⟨hb,h⟩:=cd_some h
   obtain rfl:=Oi h
   have hl:=Nq hb
   match vs,hl with
   |[_],hl=>exact absurd hl.symm hn
   |[],_=>rfl
   |_::_::_,_=>rfl
  ·cases h
def runR (B:Nat) (L:List Con) (E:Exs) (n f:Nat) (ps rs:List Par) (x:denL ps):Option (denL rs):=
 R.rec none (fun r h'=>Option.rec none (fun us=>decL h' rs us) (untup rs.length r)) (evF (tblC B L E) n f (encL ps x) H0)
theorem run_kok {B:Nat} [BOk B]{L:List Con}{E:Exs} (hL:Okl B L) (hE:ExOk B E){n f:Nat}{ps rs:List Par}{x:denL ps}{y:denL rs} (hr:runR B L E n f ps rs x=some y):KOk PP (GG B) f ps rs x y:=by
 intro e vs hfr hs hg hrel
 obtain⟨he,hρ,hlo⟩:=hfr
 unfold runR at hr
 cases hev:evF (tblC B L E) n f (encL ps x) H0 with
 |no=>rw[hev] at hr;cases hr
 |ok r h'=>
  rw[hev] at hr
  have hr:(Option.rec none (fun us=>decL h' rs us) (untup rs.length r):Option (denL rs))=some y:=hr
  cases hu:untup rs.length r with
  |none=>rw[hu] at hr;cases hr
  |some us=>
   rw[hu] at hr
   have hdec:decL h' rs us=some y:=hr
   refine Does.mono (evF_sound hmix (tblC_ok hL hE) n f _ r h' e vs (by rw[he];exact hev) hs hg hrel) ?_
   rintro cv w' ⟨e',hw',hh',hs',hx',h4⟩
   subst hh'
   let e2:Env:=⟨fun _=>(0,1),⟨e'.h.next,.e⟩,e'.w,e'.F⟩
   have hno:∀id,e2.h.get id=none:=fun id=>by show T.get id .e=none;rw[T.get_e]
   have hkn:∀id,¬known e2 id:=fun id h=>by simp[known,e2] at h
   have hown:∀b,¬Own e2 b:=fun b ⟨id,⟨_,hb,_⟩,_⟩=>by rw[hno] at hb;cases hb
   have hkn0:∀id,¬known e id:=fun id h=>by unfold known at h;rw[hρ] at h;cases h
   have hno0:∀id,e.h.get id=none:=fun id=>by rw[he];exact H0_get id
   have hx2:Ext e e2:={
    next:=hx'.next
    kn:=fun id h=>absurd h (hkn0 id)
    ren:=fun id h=>absurd h (hkn0 id)
    fr:=hx'.fr
    heap:=hx'.heap
    keep:=hx'.keep
    size:=hx'.size
    own:=fun b _ h=>absurd h (hown b)
    pres:=fun id b h=>by rw[hno0] at h;cases h
    newk:=fun id h=>absurd h (hkn id)
    qt:=hx'.qt}
   have hs2:St e2:={
    kn:=fun id h=>absurd h (hkn id)
    dk:=fun id b hb=>by rw[hno] at hb;cases hb
    lo:=hs'.lo
    blk:=fun id b hb=>by rw[hno] at hb;cases hb
    inj:=fun id _ ⟨b,hb,_⟩=>by rw[hno] at hb;cases hb
    fr:=fun b hb=>⟨(hs'.fr b hb).1,hown b⟩}
   refine⟨e2,hw',hs2,hx2,?_⟩
   rw[untup_eq hu] at h4
   refine tupA_conv (decL_length hdec) (fun vs hr=>?_) h4
   exact decL_rel (e2:=e2) hs' rfl ⟨fun b (hb:Imm e' b)=>⟨hb.1,hb.2.1,hown b⟩,Nr _⟩ (fun id b hb=>hb) (fun id hl=>⟨hs'.lt hl,fun h=>(hs'.fr _ h).2 ⟨id,hl,rfl⟩,hown _⟩) (by show 1073741824≤e'.F.B;rw[hx'.fr,hg.1];exact BOk.lo (B:=B)) rs us y vs hdec hr
def eqT (t:Ty):den t→den t→Bool:=
 Ty.rec (motive:=fun t=>den t→den t→Bool) (fun _ (a b:Int)=>iEq a b) (fun a b=>cd a b (!b)) (fun(a b:List Nat)=>sEq a b) (fun _ _=>true)
   (fun _ _ ia ib x y=>cd (ia x.1 y.1) (ib x.2 y.2) false)
   (fun t ih (xs ys:List (den t))=>List.rec (motive:=fun _=>List (den t)→Bool) (fun ys=>List.rec true (fun _ _ _=>false) ys) (fun x _ k ys=>List.rec false (fun y ys _=>cd (ih x y) (k ys) false) ys) xs ys)
   (fun _ ih x y=>ih x y) (fun _ _ ih x y=>ih x y) t
theorem eqT_eq:∀(t:Ty) (x y:den t),eqT t x y=true→x=y
 |.int _,x,y,h=>by
  have h:iEq x y=true:=h
  rw[iEq_eq] at h;simpa using h
 |.bool,x,y,h=>by
  have h:cd x y (!y)=true:=h
  cases x<;>cases y<;>first|rfl|cases h
 |.str,x,y,h=>by
  have h:sEq x y=true:=h
  rw[sEq_eq] at h;simpa using h
 |.unit,_,_,_=>rfl
 |.pair a b,x,y,h=>by
  have h:cd (eqT a x.1 y.1) (eqT b x.2 y.2) false=true:=h
  obtain⟨h1,h2⟩:=cd_true h
  exact Prod.ext (eqT_eq a _ _ h1) (eqT_eq b _ _ h2)
 |.sl t,xs,ys,h=>by
  have ih:=eqT_eq t
  induction xs generalizing ys with
  |nil=>
   cases ys with
   |nil=>rfl
   |cons=>cases h
  |cons x xs ihx=>
   cases ys with
   |nil=>cases h
   |cons y ys=>
    have h:cd (eqT t x y) (eqT (.sl t) xs ys) false=true:=h
    obtain⟨h1,h2⟩:=cd_true h
    rw[ih x y h1,ihx ys h2]
 |.ptr t,x,y,h=>eqT_eq t x y h
 |.clo _ t,x,y,h=>eqT_eq t x y h
def eqDL (ps:List Par):denL ps→denL ps→Bool:=List.rec (motive:=fun ps=>denL ps→denL ps→Bool) (fun _ _=>true) (fun p _ ih x y=>cd (eqT p.t x.1 y.1) (ih x.2 y.2) false) ps
theorem eqDL_eq:∀(ps:List Par) (x y:denL ps),eqDL ps x y=true→x=y
 |[],_,_,_=>rfl
 |p::ps,x,y,h=>by
  have h:cd (eqT p.t x.1 y.1) (eqDL ps x.2 y.2) false=true:=h
  obtain⟨h1,h2⟩:=cd_true h
  exact Prod.ext (eqT_eq p.t _ _ h1) (eqDL_eq ps _ _ h2)
def lookT {ps rs:List Par} (T:List (denL ps×denL rs)) (x:denL ps):Option (denL rs):=List.rec none (fun q _ ih=>cd (eqDL ps q.1 x) (some q.2) ih) T
theorem lookT_mem {ps rs:List Par}{x:denL ps}{y:denL rs}:∀{T:List (denL ps×denL rs)},lookT T x=some y→(x,y)∈T
 |[],h=>by cases h
 |q::T,h=>by
  have h:cd (eqDL ps q.1 x) (some q.2) (lookT T x)=some y:=h
  cases hb:eqDL ps q.1 x with
  |true=>
   rw[hb] at h
   obtain rfl:=Oi h
   have:=eqDL_eq ps _ _ hb
   subst this
   exact Mc ..
  |false=>rw[hb] at h;exact Loz _ (lookT_mem h)
def tabC (f:Nat) (ps rs:List Par) (T:List (denL ps×denL rs)):Con:=⟨f,ps,rs,lookT T⟩
def runAll (B:Nat) (L:List Con) (E:Exs) (n f:Nat) (ps rs:List Par) (T:List (denL ps×denL rs)):Bool:=
 List.rec true (fun q _ ih=>cd (Option.rec false (fun y=>eqDL rs y q.2) (runR B L E n f ps rs q.1)) ih false) T
theorem runAll_mem {B:Nat}{L:List Con}{E:Exs}{n f:Nat}{ps rs:List Par}{x:denL ps}{y:denL rs}:∀{T:List (denL ps×denL rs)},runAll B L E n f ps rs T=true→(x,y)∈T→runR B L E n f ps rs x=some y
 |[],_,h=>by cases h
 |q::T,h,hm=>by
  have h:cd (Option.rec false (fun y=>eqDL rs y q.2) (runR B L E n f ps rs q.1)) (runAll B L E n f ps rs T) false=true:=h
  obtain⟨h1,h2⟩:=cd_true h
  rcases List.mem_cons.1 hm with rfl|hm
  ·cases hr:runR B L E n f ps rs x with
   |none=>rw[hr] at h1;cases h1
   |some z=>
    rw[hr] at h1
    rw[eqDL_eq rs z y h1]
  ·exact runAll_mem h2 hm
def pintR (xs:List Nat):Option AV:=match Lib.parseIntB 64 (U8 xs) with
 |.ok v=>some (.tu [.i .i64 v,.v .nilIface])
 |.range=>none
 |_=>some (.tu [.i .i64 (J 0),.ifc (Tryz.lays174_ren.t 168) .j])
def pintX (args:List AV):Option AV:=match args with
 |[.s _ xs,.i .i64 b,.i .i64 z]=>cd (cd (iEq b (J 10)) (iEq z (J 64)) false) (cd (Nat.ble xs.length 1000) (pintR xs) none) none
 |_=>none
theorem ext_below {e:Env}{w':World} (hs:St e) (hB:Go.RowKit.Below e.w.heap.size e.w w'):St ⟨e.ρ,e.h,w',e.F⟩∧Ext e ⟨e.ρ,e.h,w',e.F⟩:=by
 have hlt:∀id,live e.h id→(e.ρ id).1<e.w.heap.size:=fun id h=>hs.lt h
 have hx:Ext e ⟨e.ρ,e.h,w',e.F⟩:={
  next:=Nr _
  kn:=fun _ h=>h
  ren:=fun _ _=>rfl
  fr:=rfl
  qt:=⟨hB.os,hB.tape,hB.output⟩
  heap:=hB.size
  keep:=fun b hb _=>hB.block b hb
  size:=fun b hb=>by show bsize w' b=bsize e.w b;unfold bsize;rw[hB.block b hb]
  own:=fun _ _ h=>h
  pres:=fun _ b h=>⟨b,h⟩
  newk:=fun _ h=>.inl h}
 refine⟨?_,hx⟩
 exact{
  kn:=hs.kn
  dk:=hs.dk
  lo:=hs.lo
  blk:=fun id b hb=>by
   by_cases hd:b=.dead
   ·subst hd;trivial
   ·exact BlkRel.ext hx (hs.dk id b hb) (hB.block _ (hlt id ⟨b,hb,hd⟩)) b (hs.blk id b hb)
  inj:=hs.inj
  fr:=fun b hb=>⟨Nl (hs.fr b hb).1 hx.heap,(hs.fr b hb).2⟩}
theorem pint_ok {B:Nat}:ExOk B [(758,pintX)]:=fun q hq args v e vs hg hs hG hr=>by
 obtain rfl:=List.mem_singleton.1 hq
 replace hg:pintX args=some v:=hg
 unfold pintX at hg
 split at hg
 ·rename_i n xs b z
  obtain⟨h1,hg1⟩:=cd_some hg
  obtain⟨h1,h2⟩:=cd_true h1
  obtain⟨h3,hg2⟩:=cd_some hg1
  have hlen:=Nb h3
  rw[iEq_eq] at h1 h2
  obtain rfl:b=10:=by simpa using h1
  obtain rfl:z=64:=by simpa using h2
  match vs,hr with
  |[v1,v2,v3],hr=>
  simp only[RelL,Rel] at hr
  obtain⟨⟨⟨_,_⟩,g1,rfl⟩,rfl,rfl,_⟩:=hr
  have hsz:(strOf xs).size=xs.length:=by simp[strOf,ByteArray.size]
  have hent:∀args w,(callFunc 758 args).run PP w=.ok (.enter 758 args) w:=enters_of Tryz.func758 kr rfl
  unfold pintR at hg2
  cases hp:Lib.parseIntB 64 (U8 xs) with
  |ok n=>
   rw[hp] at hg2
   obtain rfl:=Oi hg2
   refine .inr ⟨hent _ _,(Any.strconv_ParseInt_10_at64_ok Tryz.lays174 (strOf xs) (by rw[hsz];omega) n (by rw[strOf_list];exact hp) e.w).mono ?_⟩
   rintro o w' ⟨rfl,hw⟩
   have hB:Go.RowKit.Below e.w.heap.size e.w w':=by
    rcases hw with rfl|⟨t,rfl⟩
    ·exact Go.RowKit.Below.refl _ _
    ·exact⟨rfl,rfl,rfl,by rw[Lib.bytesWorld_size];omega,fun k hk=>Lib.bytesWorld_at_old e.w _ _ k om⟩
   obtain⟨q1,q2⟩:=ext_below hs hB
   refine⟨_,rfl,⟨e.ρ,e.h,w',e.F⟩,rfl,rfl,q1,q2,?_⟩
   simp only[Rel,RelL]
   exact⟨_,rfl,rfl,⟨rfl,trivial⟩,trivial⟩
  |range=>rw[hp] at hg2;cases hg2
  |_=>
   rw[hp] at hg2
   obtain rfl:=Oi hg2
   obtain⟨_,ev,h5,h6⟩:=hG.2.2.2 8 rfl
   refine .inr ⟨hent _ _,(Any.strconv_ParseInt_10_at64_syntax Tryz.lays174 (strOf xs) (by rw[hsz];omega) (by rw[strOf_list];exact hp) ev e.w h5 h6).mono ?_⟩
   rintro o w' ⟨N,rfl,_,_,hB⟩
   obtain⟨q1,q2⟩:=ext_below hs hB
   refine⟨_,rfl,⟨e.ρ,e.h,w',e.F⟩,rfl,rfl,q1,q2,?_⟩
   simp only[Rel,RelL]
   exact⟨_,rfl,rfl,⟨_,rfl,trivial⟩,trivial⟩
 ·cases hg
end Go.Ev
end
noncomputable section
namespace Go.Ev
open Go.Proofs
section
variable {call:CallF}{base:Nat}{ops:List AO}{fr:T AV}{h:H}{Q:T AV→H→Prop}
end
end Go.Ev
namespace Go.Ev
theorem bk1 {n:Nat}{b:Option Blk} (h:blksB n [b]=true:=by kernel_rfl):blkOk n b:=(blks_of h).1
end Go.Ev
end
noncomputable section
namespace Go.Ev
open Go.Proofs
section
variable {P:Program}{G:Gs}{call:CallF}
def OpsW (P:Program) (G:Gs) (nt:Nat) (ops:Array Oper) (base:Nat) (s:Nat) (l:List AO) (fr:T AV) (h:H) (Q:T AV→H→Prop):Prop:=
 ∀(is:List Nat),is=List.range' s l.length→(∀(q:Nat) (ao:AO) (i:Nat),l[q]? =some ao→is[q]? =some i→∃o,ops[i]? =some o∧IsO P G nt ops ao o)→
  ∀(K:Exit→Act→World→Prop) (e:Env) (a:Act),e.h=h→St e→e.F.lo≤base→FrRel e fr a.tmps→GRel G e→a.tmps.size=nt→
   (∀fr' h',Q fr' h'→∀a' e',e'.h=h'→St e'→Ext e e'→FrRel e' fr' a'.tmps→a'.tmps.size=nt→a'.defers=a.defers→K .normal a' e'.w)→wpOps P ops K is a e.w
theorem OpsW.run (hk:CallOK P G call){nt:Nat}{ops:Array Oper}{base:Nat}{l:List AO}{fr:T AV}{h:H}{Q:T AV→H→Prop} (hr:RunOps call base l fr h Q) (s:Nat):OpsW P G nt ops base s l fr h Q:=by
 obtain⟨fr',h',hev,hq⟩:=hr
 intro is hlen hall K e a he hs hlo hf hg hn kq
 subst he
 exact evOps_sound hk K l is (by rw[hlen];simp) hall base fr e a fr' h' hev hs hlo hf hg hn (fun a' e' g1 g2 g3 g4 g5 g6=>kq fr' h' hq a' e' g1 g2 g3 g4 g5 g6)
theorem OpsW.app (hk:CallOK P G call){nt:Nat}{ops:Array Oper}{base:Nat}{l2:List AO}{Q:T AV→H→Prop}{fr':T AV}{h':H}{s2:Nat} (h2:OpsW P G nt ops base s2 l2 fr' h' Q):
 ∀(l:List AO) (s:Nat) (fr:T AV) (h:H),s2=s+l.length→evOps call base l fr h=.ok fr' h'→OpsW P G nt ops base s (l++l2) fr h Q
 |[],s,fr,h,hs2,hr=>by
  injection(show FR.ok fr h=.ok fr' h' from hr) with h1 h3;subst h1;subst h3
  obtain rfl:s2=s:=by simpa using hs2
  exact h2
 |ao::l,s,fr,h,hs2,hr=>by
  intro is hlen hall K e a he hs hlo hf hg hn kq
  subst he
  cases is with
  |nil=>simp[List.range'_succ] at hlen
  |cons i is=>
  obtain⟨o,ho,hi⟩:=hall 0 ao i rfl rfl
  have hrest:∀(q:Nat) (ao:AO) (i:Nat),(l++l2)[q]? =some ao→is[q]? =some i→∃o,ops[i]? =some o∧IsO P G nt ops ao o:=fun q ao i h1 h2=>hall (q+1) ao i (by simpa using h1) (by simpa using h2)
  have hlen':is=List.range' (s+1) (l++l2).length:=by
   rw[List.cons_append,Lcz,List.range'_succ] at hlen
   exact(List.cons.inj hlen).2
  have hs3:s2=s+1+l.length:=by rw[hs2,Lcz];omega
  have hr:(Option.rec .no (fun b=>cd b
   (R.rec .no (fun v h'=>evOps call base l (setD ao.dst v fr) h') (evOp call ao.op fr e.h (Nat.add base ao.k)))
   (evOps call base l (setD ao.dst undefA fr) e.h)) (wanted ao.g fr):FR)=.ok fr' h':=hr
  show(match ops[i]? with
  |none=>wpOps P ops K is a e.w
  |some o=>
   if Region.wanted o (yielded ops a.tmps) then o.wp P a e.w (wpOps P ops K is) K∨(o.asks P a e.w∧LetsOut K)
   else wpOps P ops K is (a.put o.dst undef) e.w)
  rw[ho]
  cases hw:wanted ao.g fr with
  |none=>rw[hw] at hr;cases hr
  |some b=>
   rw[hw] at hr
   have hw':=wanted_inv hi hf hn hw
   simp only[hw']
   cases b with
   |false=>
    have hr:evOps call base l (setD ao.dst undefA fr) e.h=.ok fr' h':=hr
    have hd:ao.dst=o.dst.map mkPath:=by obtain⟨k,rfl⟩:=hi;rfl
    rw[hd] at hr
    rw[if_neg (by simp)]
    exact OpsW.app hk h2 l (s+1) _ _ hs3 hr is hlen' hrest K e _ rfl hs hlo (hf.put_undef o.dst) hg (by rw[put_size];exact hn) (fun fr' h' hq a' e' h1 h2 h3 h4 h5 h6=>kq fr' h' hq a' e' h1 h2 h3 h4 h5 (by rw[h6,put_defers]))
   |true=>
    have hr:(R.rec .no (fun v h'=>evOps call base l (setD ao.dst v fr) h') (evOp call ao.op fr e.h (Nat.add base ao.k)):FR)=.ok fr' h':=hr
    rw[if_pos rfl]
    left
    cases hop:evOp call ao.op fr e.h (Nat.add base ao.k) with
    |no=>rw[hop] at hr;cases hr
    |ok v h1=>
     rw[hop] at hr
     have hr:evOps call base l (setD ao.dst v fr) h1=.ok fr' h':=hr
     obtain⟨hc,hd,hdst⟩:=op_of hi hop
     have hS:=sound_op (o:=o) hk hs (Nt hlo (Nat.le_add_right _ _)) hf hg hc hop
     refine hS _ K (fun cv e1 he1 hs1 hx1 hv1=>?_)
     subst he1
     rw[hdst] at hr
     exact OpsW.app hk h2 l (s+1) _ _ hs3 hr is hlen' hrest K e1 _ rfl hs1 (by rw[hx1.fr];exact hlo) (FrRel.put (hf.ext hx1) (fun k hk=>by rw[hn];exact hd k hk) hv1) (hg.ext hx1) (by rw[put_size];exact hn)
      (fun fr' h' hq a' e' g1 g2 g3 g4 g5 g6=>kq fr' h' hq a' e' g1 g2 (hx1.trans g3) g4 g5 (by rw[g6,put_defers]))
theorem OpsW.upto (hk:CallOK P G call){nt:Nat}{ops:Array Oper}{base:Nat}{l:List AO}{fr:T AV}{h:H}{Q:T AV→H→Prop} (k:Nat) (hok:stOk call base l fr h k=true)
 (s:Nat) (hkl:Nat.ble k l.length=true) (hr:OpsW P G nt ops base (s+k) (l.drop k) (stF call base l fr h k) (stH call base l fr h k) Q):OpsW P G nt ops base s l fr h Q:=by
 have:=OpsW.app hk hr (l.take k) s fr h (by rw[Tk,Nat.min_eq_left (Nb hkl)]) (by
  unfold stOk at hok
  unfold stF stH
  cases hev:evOps call base (l.take k) fr h with
  |no=>rw[hev] at hok;cases hok
  |ok fr1 hh=>rfl)
 rw[Ly] at this
 exact this
theorem Sat.regW (hm:P.follows .mixedOrders=true){nt rid:Nat}{ops:Array Oper}{fr:T AV}{h:H}{Q:Ex→T AV→H→Prop}
 (hr:OpsW P G nt ops h.next 0 (regL P G nt ops) fr ⟨Nat.add h.next (regN P G nt ops),h.t⟩ (Q .normal)):Sat P G nt (.region rid ops false) fr h Q:=by
 intro K e a he hs hf hg hsz hp
 subst he
 obtain⟨hlen,hnum⟩:=number_spec (ops.toList.map (compO P G nt ops)) 0
 unfold regL regN at hr
 generalize hln:number (ops.toList.map (compO P G nt ops)) 0=q at hr hlen hnum
 obtain⟨l,na⟩:=q
 simp only at hr hlen hnum
 have hlen':l.length=ops.size:=by rw[hlen];simp
 have hio:∀(i:Nat) (ao:AO),l[i]? =some ao→∃o,ops[i]? =some o∧IsO P G nt ops ao o:=by
  intro i ao hi
  obtain⟨o',k',h1,h2⟩:=hnum i ao hi
  rw[List.getElem?_map] at h1
  cases ho:ops.toList[i]? with
  |none=>rw[ho] at h1;cases h1
  |some o=>
   rw[ho] at h1
   simp only[Option.map_some,Oj] at h1
   subst h1
   exact⟨o,by simpa using ho,k',h2⟩
 refine wp_region (hr (List.range ops.size) (by rw[hlen',List.range_eq_range']) (fun q ao i h1 h2=>?_) K (e.bump na) a rfl (bump_st hs na) hs.lo (hf.ext (bump_ext e na)) (hg.ext (bump_ext e na)) hsz ?_)
 ·have hq:q<ops.size:=by rw[←hlen'];exact(List.getElem?_eq_some_iff.1 h1).1
  rw[List.getElem?_range hq] at h2
  obtain rfl:=Oi h2
  exact hio q ao h1
 ·intro fr' h' hq a' e' h1 h2 h3 h4 h5 h6
  exact hp .normal fr' h' hq a' e' h1 h2 ((bump_ext e na).trans h3) h4 h5 h6
def EndI (res:List (List Bool×Option (Option Nat))) (N:AV→H→Prop):Ex→T AV→H→Prop:=fun ex fr' h'=>(ex=.normal∨ex=.ret)∧∃us,resOf res fr' h'=some us∧N (tupA us) h'
end
section
variable {Bn:Nat}
def getU (o:Option (List AV)):List AV:=Option.rec [] (fun x=>x) o
def isSomeU (o:Option (List AV)):Bool:=Option.rec false (fun _=>true) o
end
structure RS where
 ops:List AO
 fr:T AV
 h:H
 Rs:T Unit
 D:T Unit
def RJ (C:CJ) (base:Nat) (s:RS) (Q:T AV→H→Prop):Prop:=
 ∀fr0,WkD s.D s.fr fr0→∃fr1 h1 fr2 D2,evOps C.call base s.ops fr0 s.h=.ok fr1 h1∧WkD D2 fr2 fr1∧Q fr2 h1
def jrS (x:JR):Bool:=Option.rec false (fun _=>true) x
def jrF (x:JR):T AV:=Option.rec .e (fun q=>q.1) x
def jrH (x:JR):H:=Option.rec H0 (fun q=>q.2.1) x
def jrD (x:JR):T Unit:=Option.rec .e (fun q=>q.2.2) x
def RS.all (s:RS) (C:CJ) (base:Nat):JR:=evJ C base 1000 s.ops s.fr s.h s.Rs s.D
def RS.fst (s:RS) (C:CJ) (base k:Nat):JR:=evJ C base 1000 (s.ops.take k) s.fr s.h s.Rs s.D
def RS.at (s:RS) (C:CJ) (base k:Nat):RS:=⟨s.ops.drop k,jrF (s.fst C base k),jrH (s.fst C base k),s.Rs,jrD (s.fst C base k)⟩
def RS.op (s:RS):AO:=opA s.ops 0
def RS.put (s:RS) (v:AV) (h:H):RS:=⟨s.ops.drop 1,setD s.op.dst v s.fr,h,s.Rs,s.D⟩
def isT (o:Option Bool):Bool:=Option.rec false (fun b=>b) o
def RS.okR (s:RS) (C:CJ) (base k:Nat):Bool:=cd (jrS (s.fst C base k)) (cd (Nat.blt 0 (s.at C base k).ops.length) (rdOk (s.at C base k).D (s.at C base k).op) false) false
def RS.okS (s:RS) (C:CJ) (base k:Nat):Bool:=cd (s.okR C base k) (isT (wanted (s.at C base k).op.g (s.at C base k).fr)) false
section
variable {C:CJ}{base:Nat}{s:RS}{Q:T AV→H→Prop}
theorem RJ.fin (hok:jrS (s.all C base)=true) (hq:Q (jrF (s.all C base)) (jrH (s.all C base))):RJ C base s Q:=by
 intro fr0 hw
 cases he:s.all C base with
 |none=>rw[he] at hok;cases hok
 |some q=>
  rw[he] at hq
  obtain⟨fr1,h1,h2⟩:=evJ_sound _ _ _ _ _ _ _ he fr0 hw
  exact⟨fr1,q.2.1,q.1,q.2.2,h1,h2,hq⟩
theorem RJ.upto (k:Nat) (hok:jrS (s.fst C base k)=true) (hr:RJ C base (s.at C base k) Q):RJ C base s Q:=by
 intro fr0 hw
 cases he:s.fst C base k with
 |none=>rw[he] at hok;cases hok
 |some q=>
  obtain⟨fr1,h1,h2⟩:=evJ_sound _ _ _ _ _ _ _ he fr0 hw
  unfold RS.at at hr
  rw[he] at hr
  obtain⟨fr2,h3,fr4,D4,g1,g2,g3⟩:=hr fr1 h2
  refine⟨fr2,h3,fr4,D4,?_,g2,g3⟩
  have:=evOps_app C.call (s.ops.take k) (s.ops.drop k) h1
  rw[Ly] at this
  rw[this];exact g1
theorem okR_inv {k:Nat} (h:s.okR C base k=true):jrS (s.fst C base k)=true∧(s.at C base k).ops=(s.at C base k).op::(s.at C base k).ops.drop 1∧rdOk (s.at C base k).D (s.at C base k).op=true:=by
 obtain⟨h1,h2⟩:=cd_true h
 obtain⟨h2,h3⟩:=cd_true h2
 exact⟨h1,by have:=opA_drop h2;rw[List.drop_zero] at this;exact this,h3⟩
theorem isT_eq {o:Option Bool} (h:isT o=true):o=some true:=by
 cases o with
 |none=>cases h
 |some b=>have h:b=true:=h;rw[h]
theorem okS_inv {k:Nat} (h:s.okS C base k=true):s.okR C base k=true∧wanted (s.at C base k).op.g (s.at C base k).fr=some true:=by
 obtain⟨h1,h2⟩:=cd_true h
 exact⟨h1,isT_eq h2⟩
theorem RJ.one (k:Nat) (hr:RunOps C.call base [(s.at C base k).op] (s.at C base k).fr (s.at C base k).h (fun fr' h'=>RJ C base ⟨(s.at C base k).ops.drop 1,fr',h',s.Rs,(s.at C base k).D⟩ Q)) (hok:s.okR C base k=true):RJ C base s Q:=by
 obtain⟨h1,h2,h3⟩:=okR_inv hok
 refine RJ.upto k h1 ?_
 intro fr0 hw
 obtain⟨fr',h',g1,g2⟩:=hr
 obtain⟨fr1,g3,g4⟩:=evOps_wk (l:=[(s.at C base k).op]) (D:=(s.at C base k).D) (show cd (rdOk (s.at C base k).D (s.at C base k).op) true false=true by rw[h3];rfl) hw g1
 obtain⟨fr2,h4,fr5,D5,g5,g6,g7⟩:=g2 fr1 g4
 refine⟨fr2,h4,fr5,D5,?_,g6,g7⟩
 have:=evOps_app C.call [(s.at C base k).op] ((s.at C base k).ops.drop 1) g3
 rw[h2]
 show evOps C.call base ([(s.at C base k).op]++(s.at C base k).ops.drop 1) fr0 (s.at C base k).h=_
 rw[this];exact g5
theorem RJ.step (k:Nat) (v:AV) (h':H) (hv:evOp C.call (s.at C base k).op.op (s.at C base k).fr (s.at C base k).h (Nat.add base (s.at C base k).op.k)=.ok v h') (hr:RJ C base ((s.at C base k).put v h') Q) (hok:s.okS C base k=true):RJ C base s Q:=by
 obtain⟨h1,h2⟩:=okS_inv hok
 refine RJ.one k ?_ h1
 refine⟨setD (s.at C base k).op.dst v (s.at C base k).fr,h',?_,hr⟩
 rw[evOps_run h2 hv];rfl
theorem RJ.value (k:Nat) (p:List Bool) (v v':AV) (he:v=v') (hr:RJ C base ⟨(s.at C base k).ops,T.set p v' (s.at C base k).fr,(s.at C base k).h,s.Rs,(s.at C base k).D⟩ Q) (hok:jrS (s.fst C base k)=true) (hv:T.get p (s.at C base k).fr=some v):RJ C base s Q:=by
 subst he
 refine RJ.upto k hok ?_
 rw[T.set_self p _ _ hv] at hr;exact hr
def grpA (s:RS) (g:List Bool):List AO:=Option.rec [] (fun q=>q.1++[q.2.1]) (segOf g s.ops)
def grpB (s:RS) (g:List Bool):List AO:=Option.rec [] (fun q=>q.1) (segOf g s.ops)
def grpR (s:RS) (g:List Bool):List AO:=Option.rec [] (fun q=>q.2.2) (segOf g s.ops)
def grpD (s:RS) (g:List Bool):List Bool:=Option.rec [] (fun q=>Option.rec [] (fun d=>d) q.2.1.dst) (segOf g s.ops)
def grpO (C:CJ) (s:RS) (g:List Bool):Bool:=Option.rec false (fun q=>cd (Option.rec false (fun _=>true) q.2.1.dst) (grpK C s.D (q.1++[q.2.1])) false) (segOf g s.ops)
def fbO (x:FR) (d:List Bool):Option Bool:=FR.rec none (fun fr _=>bOf (getV fr d)) x
theorem RJ.grp (k:Nat) (g:List Bool) (q b x y:Bool) (harm:b=q→RJ C base ⟨grpA (s.at C base k) g,T.set g (.b q) (s.at C base k).fr,(s.at C base k).h,T.set g () s.Rs,(s.at C base k).D⟩ (fun fr _=>getV fr (grpD (s.at C base k) g)=.b x))
 (hr:RJ C base ⟨grpR (s.at C base k) g,T.set (grpD (s.at C base k) g) (.b (mrgB b q x y)) (clrL (grpB (s.at C base k) g) (s.at C base k).fr),(s.at C base k).h,s.Rs,addL (grpB (s.at C base k) g) (s.at C base k).D⟩ Q)
 (hok:cd (jrS (s.fst C base k)) (grpO C (s.at C base k) g) false=true) (hv:T.get g (s.at C base k).fr=some (.b b))
 (hu:fbO (evOps C.call base (grpA (s.at C base k) g) (T.set g (.b (!q)) (s.at C base k).fr) (s.at C base k).h) (grpD (s.at C base k) g)=some y):RJ C base s Q:=by
 obtain⟨h1,h2⟩:=cd_true hok
 refine RJ.upto k h1 ?_
 generalize s.at C base k=s' at*
 intro fr0 hw
 unfold grpO at h2
 unfold grpA grpD at harm hu
 unfold grpR grpD grpB at hr
 cases hsg:segOf g s'.ops with
 |none=>rw[hsg] at h2;cases h2
 |some sg=>
 obtain⟨arm,pk,rest⟩:=sg
 rw[hsg] at h2 harm hu hr
 obtain⟨h3,h4⟩:=cd_true h2
 cases hd:pk.dst with
 |none=>replace h3:(Option.rec false (fun _=>true) pk.dst:Bool)=true:=h3;rw[hd] at h3;cases h3
 |some d=>
 replace harm:b=q→RJ C base ⟨arm++[pk],T.set g (.b q) s'.fr,s'.h,T.set g () s.Rs,s'.D⟩ (fun fr _=>getV fr (Option.rec [] (fun d=>d) pk.dst)=.b x):=harm
 replace hu:fbO (evOps C.call base (arm++[pk]) (T.set g (.b (!q)) s'.fr) s'.h) (Option.rec [] (fun d=>d) pk.dst)=some y:=hu
 replace hr:RJ C base ⟨rest,T.set (Option.rec [] (fun d=>d) pk.dst) (.b (mrgB b q x y)) (clrL arm s'.fr),s'.h,s.Rs,addL arm s'.D⟩ Q:=hr
 rw[hd] at harm hu hr
 obtain⟨hk1,hk2⟩:=cd_true h4
 have hb:getV s'.fr g=.b b:=by unfold getV;rw[hv]
 rw[segOf_eq hsg,show arm++pk::rest=(arm++[pk])++rest by simp]
 by_cases hbq:b=q
 ·have hw':WkD s'.D (T.set g (.b q) s'.fr) fr0:=fun p=>by
   rw[getV_set]
   by_cases hp:p=g
   ·rw[if_pos hp,hp,←hbq,←hb];exact hw g
   ·rw[if_neg hp];exact hw p
  obtain⟨fr1,h5,fr2,D2,g1,g2,g3⟩:=harm hbq fr0 hw'
  have g1':=g1
  rw[evOps_pure hk2 g1] at g1'
  rw[evOps_app _ _ _ g1']
  exact hr fr1 (grp_wk hw g1 hd g3 g2 (by rw[hbq];cases q<;>rfl))
 ·have hbn:b= !q:=by cases b<;>cases q<;>simp_all
  have hw':WkD s'.D (T.set g (.b (!q)) s'.fr) fr0:=fun p=>by
   rw[getV_set]
   by_cases hp:p=g
   ·rw[if_pos hp,hp,←hbn,←hb];exact hw g
   ·rw[if_neg hp];exact hw p
  cases hev:evOps C.call base (arm++[pk]) (T.set g (.b (!q)) s'.fr) s'.h with
  |no=>rw[hev] at hu;cases hu
  |ok fu h5=>
  rw[hev] at hu
  have hy:=bOf_eq (show bOf (getV fu d)=some y from hu)
  obtain⟨fr1,g1,g2⟩:=evOps_wk hk1 hw' hev
  have g1':=g1
  rw[evOps_pure hk2 g1] at g1'
  rw[evOps_app _ _ _ g1']
  exact hr fr1 (grp_wk hw g1 hd hy g2 (by rw[hbn];cases q<;>rfl))
theorem zo (k:Nat) (hr:RunOps C.call base [(s.at C base k).op] (s.at C base k).fr (s.at C base k).h (fun fr' h'=>RJ C base ⟨(s.at C base k).ops.drop 1,fr',h',s.Rs,(s.at C base k).D⟩ Q)) (hok:s.okR C base k=true:=by kernel_rfl):RJ C base s Q:=RJ.one k hr hok
theorem yv (k p:Nat) (v v':AV) (he:v=v') (hr:RJ C base ⟨(s.at C base k).ops,T.set (path p) v' (s.at C base k).fr,(s.at C base k).h,s.Rs,(s.at C base k).D⟩ Q) (hok:jrS (s.fst C base k)=true:=by kernel_rfl) (hv:T.get (path p) (s.at C base k).fr=some v:=by kernel_rfl):RJ C base s Q:=RJ.value k (path p) v v' he hr hok hv
theorem yg (k g:Nat) (q b x:Bool) (harm:b=q→RJ C base ⟨grpA (s.at C base k) (path g),T.set (path g) (.b q) (s.at C base k).fr,(s.at C base k).h,T.set (path g) () s.Rs,(s.at C base k).D⟩ (fun fr _=>getV fr (grpD (s.at C base k) (path g))=.b x))
 (hr:RJ C base ⟨grpR (s.at C base k) (path g),T.set (grpD (s.at C base k) (path g)) (.b (mrgB b q x (!q))) (clrL (grpB (s.at C base k) (path g)) (s.at C base k).fr),(s.at C base k).h,s.Rs,addL (grpB (s.at C base k) (path g)) (s.at C base k).D⟩ Q)
 (hok:cd (jrS (s.fst C base k)) (grpO C (s.at C base k) (path g)) false=true:=by kernel_rfl) (hv:T.get (path g) (s.at C base k).fr=some (.b b):=by kernel_rfl)
 (hu:fbO (evOps C.call base (grpA (s.at C base k) (path g)) (T.set (path g) (.b (!q)) (s.at C base k).fr) (s.at C base k).h) (grpD (s.at C base k) (path g))=some (!q):=by kernel_rfl):RJ C base s Q:=RJ.grp k (path g) q b x (!q) harm hr hok hv hu
theorem yf (hq:Q (jrF (s.all C base)) (jrH (s.all C base))) (hok:jrS (s.all C base)=true:=by kernel_rfl):RJ C base s Q:=RJ.fin hok hq
theorem ya {d:List Bool}{x:Bool} (hok:jrS (s.all C base)=true:=by kernel_rfl) (hx:getV (jrF (s.all C base)) d=.b x:=by kernel_rfl):RJ C base s (fun fr _=>getV fr d=.b x):=RJ.fin hok hx
theorem ev_ia {o:AOp}{fr:T AV}{call:CallF}{h:H}{id:Nat}{t:Ty}{xs:List (den t)}{i:Nat} (hx:i<xs.length) (hv:viewIa o fr=some (wd t,.isl t xs,i)):evOp call o fr h id=.ok (.ip t (gt t xs i) 0) h:=by
 unfold viewIa at hv
 split at hv
 ·rename_i sz x' ix
  show(match asN (ev ix fr) with
   |some i=>okV _ (indexA (.sli sz) (ev x' fr) i)
   |none=>.no:R)=_
  cases hi:asN (ev ix fr) with
  |none=>rw[hi] at hv;cases hv
  |some j=>
   rw[hi] at hv
   have hv:some (sz,ev x' fr,j)=some (wd t,AV.isl t xs,i):=hv
   simp only[Oj,Prod.mk.injEq] at hv
   obtain⟨h1,h2,h3⟩:=hv
   rw[h1,h2,h3]
   show okV _ (cd (Nat.beq (wd t) (wd t)) (Option.rec none (fun c=>some (.ip t c 0)) (nth xs i)) none)=_
   rw[Nat.beq_refl,nth_eq,gt_some hx];rfl
 ·cases hv
theorem ev_slc {o:AOp}{fr:T AV}{call:CallF}{h:H}{id:Nat}{sk:SK}{x v:AV}{lo hi mx:Option Nat} (hs:sliceA sk x lo hi mx=some v) (hv:viewSlc o fr=some (sk,x,lo,hi,mx)):evOp call o fr h id=.ok v h:=by
 unfold viewSlc at hv
 split at hv
 ·rename_i k' x' lo' hi' mx'
  show(match optN lo' fr,optN hi' fr,optN mx' fr with
   |some lo,some hi,some mx=>okV _ (sliceA k' (ev x' fr) lo hi mx)
   |_,_,_=>.no:R)=_
  split at hv
  ·rename_i a b c h1 h2 h3
   simp only[Oj,Prod.mk.injEq] at hv
   obtain⟨g1,g2,g3,g4,g5⟩:=hv
   rw[h1,h2,h3]
   show okV _ (sliceA k' (ev x' fr) a b c)=_
   rw[g1,g2,g3,g4,g5,hs];rfl
  ·cases hv
 ·cases hv
theorem yi (k:Nat) (t:Ty) (xs:List (den t)) (i:Nat) (hx:i<xs.length) (hr:RJ C base ((s.at C base k).put (.ip t (gt t xs i) 0) (s.at C base k).h) Q)
 (hok:s.okS C base k=true:=by kernel_rfl) (hv:viewIa (s.at C base k).op.op (s.at C base k).fr=some (wd t,.isl t xs,i):=by kernel_rfl):RJ C base s Q:=RJ.step k _ _ (ev_ia hx hv) hr hok
theorem yclm (k p:Nat) (con:ConM) (x0:den con.t) (x:denL con.ps) (q:den con.t×denL con.rs) (hF:con.F x0 x=some q) (hr:RJ C base ((s.at C base k).put (encR con.rs q.2) ((s.at C base k).h.put (path p) (.cs con.el (tc con.t q.1) false))) Q)
 (hok:s.okS C base k=true:=by kernel_rfl)
 (hv:evOp C.call (s.at C base k).op.op (s.at C base k).fr (s.at C base k).h (Nat.add base (s.at C base k).op.k)=finM con (path p) (s.at C base k).h (con.F x0 x):=by kernel_rfl):RJ C base s Q:=
 RJ.step k _ _ (hv.trans (by rw[hF];rfl)) hr hok
end
section
variable {P:Program}{G:Gs}{nt:Nat}{fr:T AV}{h:H}{Q:Ex→T AV→H→Prop}
theorem Sat.wk {c:Code}{Q1:Ex→T AV→H→Prop} (hc:Sat P G nt c fr h Q1) (hq:∀ex fr' h',Q1 ex fr' h'→∃D fr2,WkD D fr2 fr'∧Q ex fr2 h'):Sat P G nt c fr h Q:=by
 intro K e a he hs hf hg hsz hp
 refine hc K e a he hs hf hg hsz (fun ex fr' h' hq1=>?_)
 obtain⟨D,fr2,h1,h2⟩:=hq ex fr' h' hq1
 intro a' e' g1 g2 g3 g4 g5 g6
 refine hp ex fr2 h' h2 a' e' g1 g2 g3 (fun k=>?_) g5 g6
 rcases h1 (path k) with g|⟨g,_⟩
 ·rw[g];exact g4 k
 ·rw[g];simp[Rel]
theorem Sat.regJ (hm:P.follows .mixedOrders=true){C:CJ} (hk:CallOK P G C.call){rid:Nat}{ops:Array Oper}
 (hr:RJ C h.next ⟨regL P G nt ops,fr,⟨Nat.add h.next (regN P G nt ops),h.t⟩,.e,.e⟩ (Q .normal)):Sat P G nt (.region rid ops false) fr h Q:=by
 obtain⟨fr1,h1,fr2,D2,g1,g2,g3⟩:=hr fr (WkD.refl _ _)
 refine Sat.wk (Q1:=fun ex fr' h'=>ex=.normal∧fr'=fr1∧h'=h1) (Sat.reg hm hk ⟨fr1,h1,g1,rfl,rfl,rfl⟩) ?_
 rintro ex fr' h' ⟨rfl,rfl,rfl⟩
 exact⟨D2,fr2,g2,g3⟩
theorem Sat.dregJ (hm:P.follows .mixedOrders=true){C:CJ} (hk:CallOK P G C.call) (hp:CallPure C.call){rid:Nat}{ops:Array Oper} (hd:dregOk P G nt ops=true)
 (hr:RJ C h.next ⟨regL P G nt ops,fr,h,.e,.e⟩ (Q .normal)):Sat P G nt (.region rid ops true) fr h Q:=by
 obtain⟨fr1,h1,fr2,D2,g1,g2,g3⟩:=hr fr (WkD.refl _ _)
 refine Sat.wk (Q1:=fun ex fr' h'=>ex=.normal∧fr'=fr1∧h'=h1) (Sat.dreg hm hk hp hd ⟨fr1,h1,g1,rfl,rfl,rfl⟩) ?_
 rintro ex fr' h' ⟨rfl,rfl,rfl⟩
 exact⟨D2,fr2,g2,g3⟩
end
structure Us (Bn:Nat) where
 C:CJ
 ok:CallOK PP (GG Bn) C.call
 P:CJ
 okP:CallOK PP (GG Bn) P.call
 hp:CallPure P.call
def cjL (L:List Con):CJ:=⟨callOf L,fun _=>true,true,fun _ _ _ _ _ _ hr=>callOf_pure L _ _ _ _ _ hr,fun _ _ _ _ _ _ hr=>callOf_pure L _ _ _ _ _ hr⟩
def uL {Bn:Nat} [BOk Bn] (L:List Con) (h:Okl Bn L):Us Bn:=
 ⟨cjL L,callOf_ok (G:=GG Bn) (BOk.lo (B:=Bn)) h,cjL L,callOf_ok (G:=GG Bn) (BOk.lo (B:=Bn)) h,callOf_pure L⟩
def notM (M:List ConM) (f:Nat):Bool:=List.rec true (fun c _ ih=>cd (Nat.beq c.f f) false ih) M
theorem callM_pure {call:CallF}:∀{M:List ConM}{f:Nat}{args:List AV}{h:H},notM M f=true→callOfM M call f args h=call f args h
 |[],_,_,_,_=>rfl
 |c::M,f,args,h,hn=>by
  have hn:cd (Nat.beq c.f f) false (notM M f)=true:=hn
  show cd (Nat.beq c.f f) (callM c args h) (callOfM M call f args h)=_
  cases hb:Nat.beq c.f f with
  |true=>rw[hb] at hn;cases hn
  |false=>rw[hb] at hn;exact callM_pure hn
def uM {Bn:Nat} [BOk Bn] (M:List ConM) (L:List Con) (hM:OklM Bn M) (h:Okl Bn L):Us Bn:=
 ⟨⟨callOfM M (callOf L),notM M,false,fun f args h r h' hn hr=>by rw[callM_pure hn] at hr;exact callOf_pure L _ _ _ _ _ hr,fun h=>by cases h⟩,
   callOfM_ok (G:=GG Bn) (BOk.lo (B:=Bn)) (callOf_ok (G:=GG Bn) (BOk.lo (B:=Bn)) h) hM,cjL L,callOf_ok (G:=GG Bn) (BOk.lo (B:=Bn)) h,callOf_pure L⟩
inductive K where
 |th (c:Code)
 |bk (id:Nat)
 |un (b:Code) (r:Nat)
def kQ (Bn nt:Nat) (Q:Ex→T AV→H→Prop):List K→Ex→T AV→H→Prop
 |[]=>Q
 |.th c::ks=>thenQ (fun fr h=>S Bn nt c fr h (kQ Bn nt Q ks)) (kQ Bn nt Q ks)
 |.bk id::ks=>blkQ id (kQ Bn nt Q ks)
 |.un b r::ks=>thenQ (SatN PP (GG Bn) nt b (kQ Bn nt Q ks) r) (kQ Bn nt Q ks)
structure Cf where
 c:Code
 ks:List K
 fr:T AV
 h:H
def GC (Bn nt:Nat) (_:Us Bn){τ:Type} (E:τ→Ex→T AV→H→Prop) (q:Cf) (y:τ):Prop:=match q.c with
 |.skip=>kQ Bn nt (E y) q.ks .normal q.fr q.h
 |.exit id=>kQ Bn nt (E y) q.ks (.exit id) q.fr q.h
 |.ret=>kQ Bn nt (E y) q.ks .ret q.fr q.h
 |c=>S Bn nt c q.fr q.h (kQ Bn nt (E y) q.ks)
def popN (ks:List K) (fr:T AV) (h:H):Option Cf:=match ks with
 |.th c::ks=>some ⟨c,ks,fr,h⟩
 |.bk _::ks=>some ⟨.skip,ks,fr,h⟩
 |.un b (r+1)::ks=>some ⟨b,.un b r::ks,fr,h⟩
 |_=>none
def popX (id:Nat) (ks:List K) (fr:T AV) (h:H):Option Cf:=match ks with
 |.th _::ks=>some ⟨.exit id,ks,fr,h⟩
 |.un _ _::ks=>some ⟨.exit id,ks,fr,h⟩
 |.bk j::ks=>cd (Nat.beq id j) (some ⟨.skip,ks,fr,h⟩) (some ⟨.exit id,ks,fr,h⟩)
 |[]=>none
def popR (ks:List K) (fr:T AV) (h:H):Option Cf:=match ks with
 |_::ks=>some ⟨.ret,ks,fr,h⟩
 |[]=>none
def jrC (ks:List K) (x:JR):Option Cf:=Option.rec none (fun q=>some ⟨.skip,ks,q.1,q.2.1⟩) x
def rsOf (Bn nt:Nat) (ops:Array Oper) (fr:T AV) (h:H):RS:=⟨regL PP (GG Bn) nt ops,fr,⟨Nat.add h.next (regN PP (GG Bn) nt ops),h.t⟩,.e,.e⟩
def rdOf (Bn nt:Nat) (ops:Array Oper) (fr:T AV) (h:H):RS:=⟨regL PP (GG Bn) nt ops,fr,h,.e,.e⟩
def condC (Bn:Nat) (c:Operand) (x y:Code) (ks:List K) (fr:T AV) (h:H):Option Cf:=Option.rec none (fun b=>cd b (some ⟨x,ks,fr,h⟩) (some ⟨y,ks,fr,h⟩)) (bOf (evO (GG Bn) c fr))
def stp {Bn:Nat} (u:Us Bn) (nt:Nat) (q:Cf):Option Cf:=match q.c with
 |.seq x y=>some ⟨x,.th y::q.ks,q.fr,q.h⟩
 |.block id b=>some ⟨b,.bk id::q.ks,q.fr,q.h⟩
 |.skip=>popN q.ks q.fr q.h
 |.exit id=>popX id q.ks q.fr q.h
 |.ret=>popR q.ks q.fr q.h
 |.region _ ops false=>jrC q.ks ((rsOf Bn nt ops q.fr q.h).all u.C q.h.next)
 |.region _ ops true=>cd (dregOk PP (GG Bn) nt ops) (jrC q.ks ((rdOf Bn nt ops q.fr q.h).all u.P q.h.next)) none
 |.cond c x y=>condC Bn c x y q.ks q.fr q.h
 |_=>none
def runC {Bn:Nat} (u:Us Bn) (nt n:Nat):Cf→Option Cf:=Nat.rec (motive:=fun _=>Cf→Option Cf) (fun q=>some q) (fun _ ih q=>Option.rec none ih (stp u nt q)) n
def cfD (x:Option Cf):Cf:=Option.rec ⟨.skip,[],.e,H0⟩ (fun q=>q) x
def cfS (x:Option Cf):Bool:=Option.rec false (fun _=>true) x
def cAt {Bn:Nat} (u:Us Bn) (nt n:Nat) (q:Cf):Cf:=cfD (runC u nt n q)
def cOn {Bn:Nat} (u:Us Bn) (nt n:Nat) (q:Cf):Bool:=cfS (runC u nt n q)
theorem cdN {α:Type}{b:Bool}{x:Option α}{z:α} (h:cd b x none=some z):b=true∧x=some z:=by
 cases b with
 |true=>exact⟨rfl,h⟩
 |false=>cases h
section
variable {Bn nt:Nat}{u:Us Bn}{τ:Type}{E:τ→Ex→T AV→H→Prop}{y:τ}
theorem jrC_inv {ks:List K}{x:JR}{q':Cf} (h:jrC ks x=some q'):jrS x=true∧q'=⟨.skip,ks,jrF x,jrH x⟩:=by
 cases x with
 |none=>cases h
 |some r=>injection(show some (⟨.skip,ks,r.1,r.2.1⟩:Cf)=some q' from h) with h;exact⟨rfl,h.symm⟩
theorem GC.S {q:Cf} (hg:GC Bn nt u E q y):S Bn nt q.c q.fr q.h (kQ Bn nt (E y) q.ks):=by
 obtain⟨c,ks,fr,h⟩:=q
 cases c<;>first
  |exact Sat.skip hg
  |exact Sat.exit hg
  |exact Sat.ret hg
  |exact hg
theorem reg_of {rid:Nat}{ops:Array Oper}{fr:T AV}{h:H}{Q:Ex→T AV→H→Prop} (hr:RJ u.C h.next (rsOf Bn nt ops fr h) (Q .normal)):S Bn nt (.region rid ops false) fr h Q:=Sat.regJ hmix u.ok hr
theorem dreg_of {rid:Nat}{ops:Array Oper}{fr:T AV}{h:H}{Q:Ex→T AV→H→Prop} (hd:dregOk PP (GG Bn) nt ops=true) (hr:RJ u.P h.next (rdOf Bn nt ops fr h) (Q .normal)):S Bn nt (.region rid ops true) fr h Q:=Sat.dregJ hmix u.okP u.hp hd hr
theorem stp_ok {q q':Cf} (h:stp u nt q=some q') (hg:GC Bn nt u E q' y):GC Bn nt u E q y:=by
 obtain⟨c,ks,fr,hh⟩:=q
 unfold stp at h
 split at h
 ·rename_i x y' hc
  replace hc:c=.seq x y':=hc
  subst hc
  injection h with h;subst h
  exact Sat.seq hg.S
 ·rename_i id b hc
  replace hc:c=.block id b:=hc
  subst hc
  injection h with h;subst h
  exact Sat.block hg.S
 ·rename_i hc
  replace hc:c=.skip:=hc
  subst hc
  replace h:popN ks fr hh=some q':=h
  show kQ Bn nt (E y) ks .normal fr hh
  unfold popN at h
  split at h
  ·injection h with h;subst h;exact hg.S
  ·injection h with h;subst h;exact hg
  ·injection h with h;subst h;exact zu1 hg.S
  ·cases h
 ·rename_i id hc
  replace hc:c=.exit id:=hc
  subst hc
  replace h:popX id ks fr hh=some q':=h
  show kQ Bn nt (E y) ks (.exit id) fr hh
  unfold popX at h
  split at h
  ·injection h with h;subst h;exact hg
  ·injection h with h;subst h;exact hg
  ·rename_i j ks'
   show(if id=j then kQ Bn nt (E y) ks' .normal fr hh else kQ Bn nt (E y) ks' (.exit id) fr hh)
   cases hb:Nat.beq id j with
   |true=>rw[hb] at h;injection h with h;subst h;rw[if_pos (Nq hb)];exact hg
   |false=>rw[hb] at h;injection h with h;subst h;rw[if_neg (fun he=>by rw[he,Nat.beq_refl] at hb;cases hb)];exact hg
  ·cases h
 ·rename_i hc
  replace hc:c=.ret:=hc
  subst hc
  replace h:popR ks fr hh=some q':=h
  show kQ Bn nt (E y) ks .ret fr hh
  unfold popR at h
  split at h
  ·rename_i k ks'
   injection h with h;subst h
   cases k with
   |th c=>exact hg
   |bk id=>exact hg
   |un b r=>exact hg
  ·cases h
 ·rename_i rid ops hc
  replace hc:c=.region rid ops false:=hc
  subst hc
  obtain⟨h1,h2⟩:=jrC_inv h
  subst h2
  exact reg_of (RJ.fin h1 hg)
 ·rename_i rid ops hc
  replace hc:c=.region rid ops true:=hc
  subst hc
  obtain⟨g2,h⟩:=cdN h
  obtain⟨h1,h2⟩:=jrC_inv h
  subst h2
  exact dreg_of g2 (RJ.fin h1 hg)
 ·rename_i c' x y' hc
  replace hc:c=.cond c' x y':=hc
  subst hc
  replace h:condC Bn c' x y' ks fr hh=some q':=h
  unfold condC at h
  show S Bn nt (.cond c' x y') fr hh _
  cases hb:bOf (evO (GG Bn) c' fr) with
  |none=>rw[hb] at h;cases h
  |some b=>
   rw[hb] at h
   refine Sat.cond b (bOf_eq hb) (fun hbt=>?_) (fun hbf=>?_)
   ·subst hbt;injection(show some (⟨x,ks,fr,hh⟩:Cf)=some q' from h) with h;subst h;exact hg.S
   ·subst hbf;injection(show some (⟨y',ks,fr,hh⟩:Cf)=some q' from h) with h;subst h;exact hg.S
 ·cases h
theorem run_ok:∀(n:Nat){q:Cf},cOn u nt n q=true→GC Bn nt u E (cAt u nt n q) y→GC Bn nt u E q y
 |0,_,_,hg=>hg
 |n+1,q,ho,hg=>by
  unfold cOn at ho
  unfold cAt at hg
  have e:runC u nt (n+1) q=Option.rec none (runC u nt n) (stp u nt q):=rfl
  rw[e] at ho hg
  cases hs:stp u nt q with
  |none=>rw[hs] at ho;cases ho
  |some q'=>
   rw[hs] at ho hg
   exact stp_ok hs (run_ok n ho hg)
end
end Go.Ev
end
