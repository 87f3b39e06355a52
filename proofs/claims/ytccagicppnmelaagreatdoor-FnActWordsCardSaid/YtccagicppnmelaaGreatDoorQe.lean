/- A part of the proof that FnActWords returns true for every input and leaves its argument as it was; no condition. -/
import Derived.Test.YtccagicppnmelaaGreatDoorQd
import Derived.Test.YtccagicppnmelaaGreatDoorProg
import Derived.Test.YtccagicppnmelaaGreatDoorQa
import Derived.Shelf.Strings.Search2
import Derived.KernelRfl
import Derived.Shelf.Strconv.Itoa4
import Derived.Shelf.Strings.Cut
import Derived.Shelf.Strings.Search3
set_option linter.all false
open List renaming length→U
open Int renaming ofNat→J,toNat→Jn
noncomputable section
namespace Go.Ev
open Go.Proofs
noncomputable abbrev PP:Program:=Tryz.prog
def powL:List Nat:=[1,10,100,1000,10000,100000,1000000,10000000,100000000,1000000000,10000000000,100000000000,1000000000000,10000000000000,100000000000000,1000000000000000,10000000000000000,100000000000000000,1000000000000000000]
def powT:Ty:=powL.foldr (fun _ t=>.pair (.int .u64) t) (.int .u64)
def powX:den powT:=(1,10,100,1000,10000,100000,1000000,10000000,100000000,1000000000,10000000000,100000000000,1000000000000,10000000000000,100000000000000,1000000000000000,10000000000000000,100000000000000000,1000000000000000000,(10000000000000000000:Int))
def GG (B:Nat):Gs:=⟨fun g=>cd (Nat.beq g 1) (some ⟨powT,powX⟩) none,B,fun g=>Nat.beq g 0,fun g=>cd (Nat.beq g 2) true (Nat.beq g 3)⟩
class BOk (B:Nat):Prop where
 lo:1073741824≤B
 hi:B≤1152921504606846976
theorem hmix:PP.follows .mixedOrders=true:=kr
abbrev S (B nt:Nat) (c:Code) (fr:T AV) (h:H) (Q:Ex→T AV→H→Prop):Prop:=Sat PP (GG B) nt c fr h Q
abbrev Okl (B:Nat) (L:List Con):Prop:=∀c∈L,ConOk PP (GG B) c
variable {B:Nat}
theorem ok0:Okl B []:=fun c h=>by cases h
theorem okC {c:Con}{L:List Con} (h:ConOk PP (GG B) c) (hl:Okl B L):Okl B (c::L):=fun d hd=>by
 rcases List.mem_cons.1 hd with rfl|hd
 ·exact h
 ·exact hl d hd
def EndQ (res:List (List Bool×Option (Option Nat))) (rs:List Par) (y:denL rs):Ex→T AV→H→Prop:=
 fun ex fr' h'=>(ex=.normal∨ex=.ret)∧(∃us,resOf res fr' h'=some us∧decL h' rs us=some y)
def endV (res:List (List Bool×Option (Option Nat))) (rs:List Par) (fr:T AV) (h:H):Option (denL rs):=Option.rec none (fun us=>decL h rs us) (resOf res fr h)
end Go.Ev
end
noncomputable section
namespace Go.Ev
open Go.Proofs
variable {Bn:Nat}
def dft (t:Ty):den t:=Ty.rec (motive:=den) (fun _=>(0:Int)) false [] () (fun _ _ a b=>(a,b)) (fun _ _=>[]) (fun _ a=>a) (fun _ _ a=>a) t
def gt (t:Ty) (xs:List (den t)) (i:Nat):den t:=List.getD xs i (dft t)
def gc (l:List Nat) (i:Nat):Nat:=List.getD l i 0
theorem gt_some {t:Ty}{xs:List (den t)}{i:Nat} (h:i<xs.length):xs[i]? =some (gt t xs i):=by
 unfold gt;rw[Lw,Lq h];rfl
theorem gc_some {l:List Nat}{i:Nat} (h:i<l.length):l[i]? =some (gc l i):=by
 unfold gc;rw[Lw,Lq h];rfl
theorem lt_of_nle {n i:Nat} (h:(!iLe (J n) (J i))=true):i<n:=by
 rw[iLe_eq] at h;simp at h;omega
theorem le_of_nle {n i:Nat} (h:(!iLe (J n) (J i))=false):n≤i:=by
 rw[iLe_eq] at h;simp at h;omega
theorem eq_of_ieq {n i:Nat} (h:iEq (J n) (J i)=true):n=i:=by
 rw[iEq_eq] at h;simp at h;omega
theorem ile_t {a b:Int} (h:iLe a b=true):a≤b:=by rw[iLe_eq] at h;simpa using h
theorem ile_f {a b:Int} (h:iLe a b=false):b<a:=by rw[iLe_eq] at h;simp at h;omega
theorem ieq_t {a b:Int} (h:iEq a b=true):a=b:=by rw[iEq_eq] at h;simpa using h
theorem ieq_f {a b:Int} (h:iEq a b=false):a≠b:=by rw[iEq_eq] at h;simpa using h
theorem le_of_ile {n i:Nat} (h:iLe (J n) (J i)=true):n≤i:=by
 rw[iLe_eq] at h;simp at h;omega
theorem lt_of_ile {n i:Nat} (h:iLe (J n) (J i)=false):i<n:=by
 rw[iLe_eq] at h;simp at h;omega
theorem ne_of_ieq {n i:Nat} (h:iEq (J n) (J i)=false):n≠i:=by
 rw[iEq_eq] at h;simp at h;omega
theorem len0_ofn {s:List Nat} (h:(!sEq s [])=false):s.length=0:=by
 rw[sEq_eq] at h;simp at h;simp[h]
theorem len1_ofn {s:List Nat} (h:(!sEq s [])=true):0<s.length:=by
 rw[sEq_eq] at h;simp at h;exact List.length_pos_iff.2 h
theorem wr_id {x:Int} (h1: -9223372036854775808≤x) (h2:x≤9223372036854775807):wr .i64 x=x:=by
 cases x with
 |ofNat m=>
  show cd (Nat.ble m 9223372036854775807) (J m) _=_
  rw[Nc (by simp only[Io] at h2;omega)];rfl
 |negSucc m=>
  show cd (cd true (Nat.ble m 9223372036854775807) false) (Int.negSucc m) _=_
  rw[Nc om];rfl
theorem toNat_av {x:Int} (h:0≤x):AV.i .i64 x=.i .i64 (J x.toNat):=by
 rw[Io,Int.toNat_of_nonneg h]
theorem wr_inc {i:Nat} (h:i<9223372036854775807):AV.i .i64 (wr .i64 (J i+J 1))=.i .i64 (J (i+1)):=by
 have:wr .i64 (J i+J 1)=J (i+1):=by
  show cd (Nat.ble (i+1) 9223372036854775807) (J (i+1)) _=_
  rw[Nc om];rfl
 rw[this]
theorem wr_dec {i:Nat} (h0:0<i) (h:i<9223372036854775807):AV.i .i64 (wr .i64 (J i - J 1))=.i .i64 (J (i - 1)):=by
 have:wr .i64 (J i - J 1)=J (i - 1):=by
  have h1:J i - J 1=J (i - 1):=by simp only[Io];omega
  rw[h1]
  show cd (Nat.ble (i - 1) 9223372036854775807) (J (i - 1)) _=_
  rw[Nc om];rfl
 rw[this]
mutual
def avOkB (n:Nat):AV→Bool
 |.p id _=>Nat.blt (unpath id) n
 |.sl id _ _ _ _ _=>Nat.blt (unpath id) n
 |.m id=>Nat.blt (unpath id) n
 |.f _ a b=>avOkLB n a&&avOkLB n b
 |.ifc _ x=>avOkB n x
 |.ag cs=>avOkLB n cs
 |.tu cs=>avOkLB n cs
 |_=>true
def avOkLB (n:Nat):List AV→Bool
 |[]=>true
 |x::xs=>avOkB n x&&avOkLB n xs
end
mutual
theorem avOk_of {n:Nat}:∀(x:AV),avOkB n x=true→avOk n x
 |.p id _,h=>by simp only[avOkB] at h;simp only[avOk];exact Nat.lt_of_succ_le (Nb h)
 |.sl id _ _ _ _ _,h=>by simp only[avOkB] at h;simp only[avOk];exact Nat.lt_of_succ_le (Nb h)
 |.m id,h=>by simp only[avOkB] at h;simp only[avOk];exact Nat.lt_of_succ_le (Nb h)
 |.f _ a b,h=>by simp only[avOkB,Bool.and_eq_true] at h;simp only[avOk];exact⟨avOkL_of a h.1,avOkL_of b h.2⟩
 |.ifc _ x,h=>by simp only[avOkB] at h;simp only[avOk];exact avOk_of x h
 |.ag cs,h=>by simp only[avOkB] at h;simp only[avOk];exact avOkL_of cs h
 |.tu cs,h=>by simp only[avOkB] at h;simp only[avOk];exact avOkL_of cs h
 |.i _ _,_=>by simp only[avOk]
 |.b _,_=>by simp only[avOk]
 |.s _ _,_=>by simp only[avOk]
 |.v _,_=>by simp only[avOk]
 |.em,_=>by simp only[avOk]
 |.isl _ _,_=>by simp only[avOk]
 |.ip _ _ _,_=>by simp only[avOk]
 |.j,_=>by simp only[avOk]
theorem avOkL_of {n:Nat}:∀(xs:List AV),avOkLB n xs=true→avOkL n xs
 |[],_=>by simp only[avOkL]
 |x::xs,h=>by simp only[avOkLB,Bool.and_eq_true] at h;simp only[avOkL];exact⟨avOk_of x h.1,avOkL_of xs h.2⟩
end
def lokB (n:Nat):List (List Bool×AV)→Bool
 |[]=>true
 |q::L=>avOkB n q.2&&lokB n L
theorem lok_of {n:Nat}:∀{L:List (List Bool×AV)},lokB n L=true→LOk n L
 |[],_=>trivial
 |q::L,h=>by simp only[lokB,Bool.and_eq_true] at h;exact⟨avOk_of _ h.1,lok_of h.2⟩
def blkB (n:Nat):Option Blk→Bool
 |some (.cs _ l _)=>avOkLB n l
 |some (.mp es)=>es.all fun q=>avOkB n q.1&&avOkB n q.2
 |_=>true
def blksB (n:Nat):List (Option Blk)→Bool
 |[]=>true
 |b::bs=>blkB n b&&blksB n bs
theorem blk_of {n:Nat}:∀(b:Option Blk),blkB n b=true→blkOk n b
 |some (.cs _ l _),h=>avOkL_of l h
 |some (.mp es),h=>fun q hq=>by
  have:=List.all_eq_true.1 h q hq
  simp only[Bool.and_eq_true] at this
  exact⟨avOk_of _ this.1,avOk_of _ this.2⟩
 |some (.it _ _),_=>trivial
 |some .dead,_=>trivial
 |none,_=>trivial
theorem blks_of {n:Nat}:∀{bs:List (Option Blk)},blksB n bs=true→blksOk n bs
 |[],_=>trivial
 |b::bs,h=>by simp only[blksB,Bool.and_eq_true] at h;exact⟨blk_of b h.1,blks_of h.2⟩
inductive Out (σ β:Type) where
 |go (s:σ)
 |brk (s:σ)
 |ret (r:β)
def scan {σ β:Type} (P:σ→Out σ β):Nat→σ→Out σ β
 |0,s=>.go s
 |f+1,s=>match P s with
  |.go s'=>scan P f s'
  |.brk s'=>.brk s'
  |.ret r=>.ret r
def RoundQ {σ β:Type} (P:σ→Out σ β) (Inv:σ→Prop) (m:σ→Nat) (n:Nat) (L:σ→List (List Bool×AV)) (B:σ→List (Option Blk)) (res:Out σ β) (s:σ) (Q:Ex→T AV→H→Prop):Ex→T AV→H→Prop:=fun ex fr' h'=>match ex with
 |.normal=>∃s',P s=.go s'∧(Inv s'∧m s'<m s)∧Holds fr' (L s')∧LOk n (L s')∧heapL h' n=B s'∧blksOk n (B s')
 |.exit id=>∃s',P s=.brk s'∧(res=.brk s'→Q (.exit id) fr' h')
 |.ret=>∃r,P s=.ret r∧(res=.ret r→Q .ret fr' h')
theorem loop_scan {σ β:Type} (P:σ→Out σ β){nt:Nat}{b:Code}{fr:T AV}{h:H}{Q:Ex→T AV→H→Prop} (n:Nat) (L:σ→List (List Bool×AV)) (B:σ→List (Option Blk)) (Inv:σ→Prop) (m:σ→Nat)
 (s0:σ) (hI:Inv s0) (hm:m s0<4611686018427387904) (hl:Holds fr (L s0)) (hn:h.next=n) (hh:heapL h n=B s0)
 (step:∀s,Inv s→S Bn nt b (mkFr (L s)) (hpH n (B s)) (RoundQ P Inv m n L B (scan P (m s0+1) s0) s Q)):S Bn nt (.loop b) fr h Q:=by
 refine Sat.loop n L B m (fun s=>Inv s∧∃f,m s<f∧scan P (m s0+1) s0=scan P f s) (fun s ⟨hI,f,hf,he⟩=>?_) s0 ⟨hI,m s0+1,om,rfl⟩ hm hl hn hh
 refine Sat.mono (step s hI) (fun ex fr' h' hq=>?_)
 obtain⟨f,rfl⟩:∃f',f=f'+1:=⟨f - 1,om⟩
 cases ex with
 |normal=>
  obtain⟨s',h1,⟨g1,g2⟩,h2,h3,h4,h5⟩:=hq
  refine⟨s',⟨g1,f,om,?_⟩,g2,h2,h3,h4,h5⟩
  rw[he];simp only[scan,h1]
 |exit id=>
  obtain⟨s',h1,h2⟩:=hq
  exact h2 (by rw[he];simp only[scan,h1])
 |ret=>
  obtain⟨r,h1,h2⟩:=hq
  exact h2 (by rw[he];simp only[scan,h1])
def outE {σ β γ:Type} (g:γ) (b:σ→γ) (r:β→γ) (x:Out σ β):γ:=Out.rec (fun _=>g) b r x
theorem outB {σ β γ:Type}{g:γ}{b:σ→γ}{r:β→γ}{x:Out σ β}{s:σ} (h:x=.brk s):outE g b r x=b s:=by subst h;rfl
theorem outR {σ β γ:Type}{g:γ}{b:σ→γ}{r:β→γ}{x:Out σ β}{s:β} (h:x=.ret s):outE g b r x=r s:=by subst h;rfl
def dfR (rs:List Par):denL rs:=List.rec (motive:=denL) () (fun p _ ih=>(dft p.t,ih)) rs
theorem bd_gt {t:Ty}{xs:List (den t)}{i:Nat} (h:Bd Bn (.sl t) xs) (hi:i<xs.length):Bd Bn t (gt t xs i):=h.2 i _ (gt_some hi)
class Use (Bn:Nat) where
 L:List Con
 ok:Okl Bn L
instance use0 {Bn:Nat}:Use Bn:=⟨[],ok0⟩
section
variable {nt rid:Nat}{ops:Array Oper}{fr:T AV}{h:H}{Q:Ex→T AV→H→Prop}{x y:Code}
theorem zs (hx:S Bn nt x fr h (thenQ (fun fr h=>S Bn nt y fr h Q) Q)):S Bn nt (.seq x y) fr h Q:=Sat.seq hx
end
section
variable {call:CallF}{base:Nat}{ops:List AO}{fr:T AV}{h:H}{Q:T AV→H→Prop}
theorem zf (hq:Q (frOf (evOps call base ops fr h)) (hOf (evOps call base ops fr h))) (hok:isOkF (evOps call base ops fr h)=true:=by kernel_rfl):RunOps call base ops fr h Q:=RunOps.fin hok hq
end
end Go.Ev
end
noncomputable section
namespace Go.Ev
open Go.Proofs
variable {Bn:Nat}
theorem flat_len (t:Ty):∀(xs:List (den t)),((xs.map (tc t)).flatten).length=xs.length*wd t
 |[]=>by simp
 |x::xs=>by simp only[List.map_cons,List.flatten_cons,La,tc_len,flat_len t xs,Lc,Nat.add_mul];omega
theorem lay_app:∀(a new b c:List AV),new.length=b.length→lay (a++(b++c)) a.length new=some (a++(new++c))
 |[],[],[],c,_=>by cases c<;>rfl
 |[],x::new,y::b,c,h=>by
  have ih:=lay_app [] new b c (by simpa using h)
  show(Option.rec none (fun r=>some (x::r)) (lay (b++c) 0 new):Option (List AV))=_
  have ih:lay (b++c) 0 new=some (new++c):=ih
  rw[ih];rfl
 |[],[],y::b,c,h=>by simp at h
 |[],x::new,[],c,h=>by simp at h
 |x::a,new,b,c,h=>by
  have ih:=lay_app a new b c h
  show(Option.rec none (fun r=>some (x::r)) (lay (a++(b++c)) a.length new):Option (List AV))=_
  rw[ih];rfl
theorem tc_ok (n:Nat):∀(t:Ty) (x:den t),avOkL n (tc t x)
 |.int _,_=>by show avOkL n [.i _ _];simp[avOkL,avOk]
 |.bool,_=>by show avOkL n [.b _];simp[avOkL,avOk]
 |.str,_=>by show avOkL n [.s _ _];simp[avOkL,avOk]
 |.unit,_=>by show avOkL n [];simp[avOkL]
 |.pair a b,x=>by
  show avOkL n (catA (tc a x.1) (tc b x.2))
  rw[catA_eq]
  have:∀(xs ys:List AV),avOkL n xs→avOkL n ys→avOkL n (xs++ys):=by
   intro xs
   induction xs with
   |nil=>intro ys _ h;exact h
   |cons x xs ih=>intro ys h1 h2;simp only[List.cons_append,avOkL] at h1⊢;exact⟨h1.1,ih ys h1.2 h2⟩
  exact this _ _ (tc_ok n a _) (tc_ok n b _)
 |.sl _,_=>by show avOkL n [.isl _ _];simp[avOkL,avOk]
 |.ptr _,_=>by show avOkL n [.ip _ _ _];simp[avOkL,avOk]
 |.clo f t,x=>by
  show avOkL n [.f (.func f) [] (tc t x)]
  simp only[avOkL,avOk,and_true]
  exact⟨trivial,tc_ok n t x⟩
theorem avOkL_app {n:Nat}:∀{xs ys:List AV},avOkL n xs→avOkL n ys→avOkL n (xs++ys)
 |[],ys,_,h=>h
 |x::xs,ys,h1,h2=>by simp only[List.cons_append,avOkL] at h1⊢;exact⟨h1.1,avOkL_app h1.2 h2⟩
theorem dec_tc (hd:H):∀(t:Ty) (x:den t) (r:List AV),dec hd t (tc t x++r)=some (x,r)
 |.int k,n,r=>by
  show cd (kEq k k) (some (n,r)) none=_
  have:kEq k k=true:=by cases k<;>rfl
  rw[this];rfl
 |.bool,_,_=>rfl
 |.str,_,_=>rfl
 |.unit,_,_=>rfl
 |.pair a b,x,r=>by
  have h1:tc (.pair a b) x++r=tc a x.1++(tc b x.2++r):=by
   show catA (tc a x.1) (tc b x.2)++r=_
   rw[catA_eq,List.append_assoc]
  rw[h1,dec_pair,dec_tc hd a]
  simp only
  rw[dec_tc hd b]
 |.sl t,xs,r=>by
  show dec hd (.sl t) (.isl t xs::r)=_
  simp only[dec]
  split
  ·rfl
  ·rename_i h _;exact absurd rfl h
 |.ptr t,x,r=>by
  show dec hd (.ptr t) (.ip t x 0::r)=_
  simp only[dec]
  split
  ·rfl
  ·rename_i h _;exact absurd rfl h
 |.clo f t,x,r=>by
  show cd (Nat.beq f f) (match dec hd t (tc t x) with
   |some (x,[])=>some (x,r)
   |_=>none) none=_
  have:=dec_tc hd t x []
  rw[List.append_nil] at this
  rw[Nat.beq_refl,this];rfl
theorem decRows_tc (hd:H) (t:Ty):∀(xs:List (den t)),decRows (dec hd t) xs.length ((xs.map (tc t)).flatten)=some xs
 |[]=>rfl
 |x::xs=>by
  show decRows (dec hd t) (xs.length+1) (tc t x++(xs.map (tc t)).flatten)=_
  rw[decRows_succ,dec_tc]
  simp only
  rw[decRows_tc hd t xs]
theorem cut_all:∀(l:List AV),cut l 0 l.length=some l
 |[]=>rfl
 |x::l=>by
  show(Option.rec none (fun r=>some (x::r)) (cut l 0 l.length):Option (List AV))=_
  rw[cut_all l]
theorem decP_tos {hd:H}{id:Id}{t:Ty}{el:TypeId}{fz ex:Bool}{lo:Nat}{xs:List (den t)} (hb:xs.length≤1073741824) (hg:hd.get id=some (.cs el ((xs.map (tc t)).flatten) fz)):
 decP hd false (.sl t) (.sl id 0 (wd t) xs.length lo ex)=some xs:=by
 have h1:dec hd (.sl t) [.sl id 0 (wd t) xs.length lo ex]=some (xs,[]):=by
  cases xs with
  |nil=>rfl
  |cons x xs=>
   show cd (cd (Nat.beq (wd t) (wd t)) (Nat.ble (xs.length+1) 1073741824) false) (match blkCut (hd.get id) 0 (Nat.mul (xs.length+1) (wd t)) with
    |some l=>match decRows (dec hd t) (xs.length+1) l with
     |some xs=>some (xs,[])
     |none=>none
    |none=>none) none=_
   rw[Nat.beq_refl,ble_nat,Dt (by simpa using hb),hg]
   have hc:blkCut (some (Blk.cs el (((x::xs).map (tc t)).flatten) fz)) 0 (Nat.mul (xs.length+1) (wd t))=some (((x::xs).map (tc t)).flatten):=by
    show cut (((x::xs).map (tc t)).flatten) 0 ((xs.length+1)*wd t)=_
    have:=flat_len t (x::xs)
    rw[Lc] at this
    rw[←this];exact cut_all _
   rw[hc]
   have:=decRows_tc hd t (x::xs)
   rw[Lc] at this
   show(match decRows (dec hd t) (xs.length+1) (((x::xs).map (tc t)).flatten) with
        |some xs=>some (xs,([]:List AV))
        |none=>none)=_
   rw[this]
 simp only[decP,h1]
def viewMk (o:AOp) (fr:T AV):Option (TypeId×Nat×Nat×List AV×Nat×Nat):=match o with
 |.o2 (.mksl el sz by_ z l c)=>match asN (ev l fr),asN (ev c fr) with
  |some l,some c=>some (el,sz,by_,z,l,c)
  |_,_=>none
 |_=>none
def viewSt (o:AOp) (fr:T AV):Option (Nat×AV×Option (List AV)):=match o with
 |.st n a x=>some (n,ev a fr,(ev x fr).cells)
 |_=>none
section
variable {call:CallF}{base:Nat}{ops:List AO}{fr:T AV}{h:H}{Q:T AV→H→Prop}
theorem RunOps.stepH (k:Nat) (v:AV) (h':H) (hok:stOk call base ops fr h k=true) (hk:Nat.blt k ops.length=true) (hw:wanted (opA ops k).g (stF call base ops fr h k)=some true)
 (hv:evOp call (opA ops k).op (stF call base ops fr h k) (stH call base ops fr h k) (Nat.add base (opA ops k).k)=.ok v h')
 (hr:RunOps call base (ops.drop (k+1)) (setD (opA ops k).dst v (stF call base ops fr h k)) h' Q):RunOps call base ops fr h Q:=by
 refine RunOps.upto k hok ?_
 obtain⟨fr',h2,h1,h3⟩:=hr
 refine⟨fr',h2,?_,h3⟩
 rw[opA_drop hk]
 show(Option.rec .no (fun c=>cd c
  (R.rec .no (fun v h'=>evOps call base (ops.drop (k+1)) (setD (opA ops k).dst v (stF call base ops fr h k)) h') (evOp call (opA ops k).op (stF call base ops fr h k) (stH call base ops fr h k) (Nat.add base (opA ops k).k)))
  (evOps call base (ops.drop (k+1)) (setD (opA ops k).dst undefA (stF call base ops fr h k)) (stH call base ops fr h k))) (wanted (opA ops k).g (stF call base ops fr h k)):FR)=_
 rw[hw,hv]
 exact h1
theorem ev_mksl {o:AOp}{id el sz by_ n:Nat}{z:List AV} (hn:0<n) (hby:n*by_≤1099511627776) (hv:viewMk o fr=some (el,sz,by_,z,n,n)) (hlt:Nat.blt id h.next=true) (hfr:h.get (path id)=none):
 evOp call o fr h id=.ok (.sl (path id) 0 sz n n true) (h.put (path id) (.cs el (repl n z) false)):=by
 unfold viewMk at hv
 split at hv
 ·rename_i el' sz' by' z' l c
  split at hv
  ·rename_i l' c' h1 h2
   simp only[Oj,Prod.mk.injEq] at hv
   obtain⟨rfl,rfl,rfl,rfl,rfl,g6⟩:=hv
   show(match asN (ev l fr),asN (ev c fr) with
    |some l,some c=>cd (Nat.ble l c) (cd (roomy c by') (cd (Nat.beq c 0) (.ok .em h) (putNew id (.cs el' (repl c z') false) (fun id=>.sl id 0 sz' l c true) h)) .no) .no
    |_,_=>.no:R)=_
   rw[h1,h2,g6]
   show cd (Nat.ble l' l') (cd (roomy l' by') (cd (Nat.beq l' 0) (.ok .em h) (putNew id (.cs el' (repl l' z') false) (fun id=>.sl id 0 sz' l' l' true) h)) .no) .no=_
   have e1:Nat.ble l' l'=true:=Nc (Nr _)
   have e2:roomy l' by'=true:=Nc hby
   have e3:Nat.beq l' 0=false:=by rw[beq_nat];exact Df om
   rw[e1,e2,e3]
   show putNew id (.cs el' (repl l' z') false) (fun id=>.sl id 0 sz' l' l' true) h=_
   unfold putNew
   rw[hlt,hfr];rfl
  ·cases hv
 ·cases hv
theorem ev_st {o:AOp}{id:Id}{off i:Nat}{cs l l':List AV}{el:TypeId} (hl:lay l off cs=some l') (hv:viewSt o fr=some (len cs,.p id off,some cs)) (hg:h.get id=some (.cs el l false)):
 evOp call o fr h i=.ok undefA (h.put id (.cs el l' false)):=by
 unfold viewSt at hv
 split at hv
 ·rename_i n a x
  simp only[Oj,Prod.mk.injEq] at hv
  obtain⟨h1,h2,h3⟩:=hv
  show(Option.rec .no (fun cs=>cd (Nat.beq (len cs) n) (Option.rec .no (fun h'=>.ok undefA h') (storeAt (ev a fr) cs h)) .no) (ev x fr).cells:R)=_
  rw[h3,h2]
  show cd (Nat.beq (len cs) n) (Option.rec .no (fun h'=>.ok undefA h') (blkLay (h.get id) id off cs h):R) .no=_
  rw[h1,Nat.beq_refl,hg]
  show(Option.rec .no (fun h'=>.ok undefA h') (Option.rec none (fun l'=>some (h.put id (.cs el l' false))) (lay l off cs)):R)=_
  rw[hl]
 ·cases hv
end
def SatN (P:Program) (G:Gs) (nt:Nat) (b:Code) (Q:Ex→T AV→H→Prop) (r:Nat):T AV→H→Prop:=
 Nat.rec (motive:=fun _=>T AV→H→Prop) (fun _ _=>False) (fun _ ih fr h=>Sat P G nt b fr h (thenQ ih Q)) r
theorem Sat.unroll {P:Program}{G:Gs}{nt:Nat}{b:Code}{Q:Ex→T AV→H→Prop} (r:Nat){fr:T AV}{h:H} (hr:SatN P G nt b Q r fr h):Sat P G nt (.loop b) fr h Q:=by
 intro K e a he hs hf hg hsz hp
 refine wp_loop_rounds r ?_
 have key:∀(r:Nat) (fr:T AV) (h:H),SatN P G nt b Q r fr h→∀(e1:Env) (a1:Act),e1.h=h→St e1→FrRel e1 fr a1.tmps→GRel G e1→a1.tmps.size=nt→
  (∀ex fr' h',Q ex fr' h'→Post nt K e1 a1 ex fr' h')→Code.rounds P b K r a1 e1.w:=by
  intro r
  induction r with
  |zero=>intro fr h hF;exact hF.elim
  |succ r ih=>
   intro fr h hN e1 a1 he1 hs1 hf1 hg1 hsz1 hp1
   rw[rounds_succ]
   refine(show Sat P G nt b fr h (thenQ (SatN P G nt b Q r) Q) from hN) _ e1 a1 he1 hs1 hf1 hg1 hsz1 (fun ex fr2 h2 hq=>?_)
   intro a2 e2 he2 hs2 hx2 hf2 hsz2 hd2
   cases ex with
   |normal=>exact ih fr2 h2 hq e2 a2 he2 hs2 hf2 (hg1.ext hx2) hsz2 (fun ex fr' h' hq'=>(hp1 ex fr' h' hq').ext hx2 hd2)
   |exit id=>exact hp1 (.exit id) fr2 h2 hq a2 e2 he2 hs2 hx2 hf2 hsz2 hd2
   |ret=>exact hp1 .ret fr2 h2 hq a2 e2 he2 hs2 hx2 hf2 hsz2 hd2
 exact key r fr h hr e a he hs hf hg hsz hp
theorem zun {nt:Nat}{b:Code}{fr:T AV}{h:H}{Q:Ex→T AV→H→Prop} (r:Nat) (hr:SatN PP (GG Bn) nt b Q r fr h):S Bn nt (.loop b) fr h Q:=Sat.unroll r hr
theorem zu1 {nt:Nat}{b:Code}{fr:T AV}{h:H}{Q:Ex→T AV→H→Prop}{r:Nat} (hr:S Bn nt b fr h (thenQ (SatN PP (GG Bn) nt b Q r) Q)):SatN PP (GG Bn) nt b Q (r+1) fr h:=hr
attribute [irreducible] SatN
def hC (x:CR):H:=CR.rec H0 (fun _ _ h=>h) x
end Go.Ev
end
noncomputable section
namespace Go.Ev
open Go.Proofs
def U8 (l:List Nat):List UInt8:=l.map UInt8.ofNat
theorem strOf_list (l:List Nat):(strOf l).data.toList=U8 l:=by simp[strOf,U8]
theorem u8_eq {a b:Nat} (ha:a<256) (hb:b<256):(UInt8.ofNat a==UInt8.ofNat b)=Nat.beq a b:=by
 rw[Bool.eq_iff_iff,beq_iff_eq,Nat.beq_eq]
 constructor
 ·intro h
  have:=congrArg UInt8.toNat h
  simpa[UInt8.toNat_ofNat,Nat.mod_eq_of_lt ha,Nat.mod_eq_of_lt hb] using this
 ·intro h;rw[h]
theorem rel_two {e:Env}{x y:AV}{vs:List Value} (h:RelL e [x,y] vs):∃u v,vs=[u,v]∧Rel e x u∧Rel e y v:=by
 match vs,h with
 |[u,v],h=>simp only[RelL] at h;exact⟨u,v,rfl,h.1,h.2.1⟩
 |[],h=>simp[RelL] at h
 |[_],h=>simp[RelL] at h
 |_::_::_::_,h=>simp[RelL] at h
theorem kok_below {P:Program}{G:Gs}{f:Nat}{ps rs:List Par}{x:denL ps}{y:denL rs} (he:∀args w,(callFunc f args).run P w=.ok (.enter f args) w)
 (hc:∀e vs,RelL e (encL ps x) vs→∃cv,Calls P f vs.toArray e.w (fun o w'=>o=.returned cv∧Go.RowKit.Below e.w.heap.size e.w w')∧∀e',Rel e' (encR rs y) cv):KOk P G f ps rs x y:=fun e vs hf hs hg hr=>by
 obtain⟨cv,h1,h2⟩:=hc e vs hr
 refine .inr ⟨he _ _,h1.mono ?_⟩
 rintro o w' ⟨rfl,hB⟩
 let e':Env:=⟨e.ρ,e.h,w',e.F⟩
 have hlt:∀id,live e.h id→(e.ρ id).1<e.w.heap.size:=fun id h=>hs.lt h
 have hx:Ext e e':={
  next:=Nr _
  kn:=fun _ h=>h
  ren:=fun _ _=>rfl
  fr:=rfl
  qt:=⟨hB.os,hB.tape,hB.output⟩
  heap:=hB.size
  keep:=fun b hb _=>hB.block b hb
  size:=fun b hb=>by show bsize w' b=bsize e.w b;unfold bsize;rw[hB.block b hb]
  own:=fun _ _ h=>h
  pres:=fun _ b h=>⟨b,h⟩
  newk:=fun _ h=>.inl h}
 have hs':St e':={
  kn:=hs.kn
  dk:=hs.dk
  lo:=hs.lo
  blk:=fun id b hb=>by
   by_cases hd:b=.dead
   ·subst hd;trivial
   ·exact BlkRel.ext hx (hs.dk id b hb) (hB.block _ (hlt id ⟨b,hb,hd⟩)) b (hs.blk id b hb)
  inj:=hs.inj
  fr:=fun b hb=>⟨Nl (hs.fr b hb).1 hx.heap,(hs.fr b hb).2⟩}
 exact⟨cv,rfl,e',rfl,hs',hx,h2 e'⟩
end Go.Ev
end
noncomputable section
namespace Go.Ev
open Go.Proofs
def gotL (hs:List Bh) (mk:List Pd) (r:Rd) (js:List Nat):List (Option AV):=
 List.rec [] (fun j _ ih=>(Option.rec none (fun b=>R.rec none (fun a _=>some a) (evOp noCall r.o r.fr (heapAt b r.ks mk) 0)) (nth hs j))::ih) js
def wantL (r:Rd) (js:List Nat):List (Option AV):=List.rec [] (fun _ _ ih=>some r.v::ih) js
def gotA (hs:List Bh) (mk:List Pd) (rs:List Rd):List (List (Option AV)):=List.rec [] (fun r _ ih=>gotL hs mk r r.js::ih) rs
def wantA (rs:List Rd):List (List (Option AV)):=List.rec [] (fun r _ ih=>wantL r r.js::ih) rs
theorem chk1_got (hs:List Bh) (mk:List Pd) (r:Rd):∀(js:List Nat),gotL hs mk r js=wantL r js→chk1 hs mk r js=true
 |[],_=>rfl
 |j::js,h=>by
  injection h with h1 h2
  have ih:=chk1_got hs mk r js h2
  show(Option.rec false (fun b=>R.rec false (fun a _=>cd (sameA a r.v) (chk1 hs mk r js) false) (evOp noCall r.o r.fr (heapAt b r.ks mk) 0)) (nth hs j):Bool)=true
  cases hn:nth hs j with
  |none=>rw[hn] at h1;cases h1
  |some b=>
   rw[hn] at h1
   replace h1:(R.rec none (fun a _=>some a) (evOp noCall r.o r.fr (heapAt b r.ks mk) 0):Option AV)=some r.v:=h1
   show(R.rec false (fun a _=>cd (sameA a r.v) (chk1 hs mk r js) false) (evOp noCall r.o r.fr (heapAt b r.ks mk) 0):Bool)=true
   cases he:evOp noCall r.o r.fr (heapAt b r.ks mk) 0 with
   |no=>rw[he] at h1;cases h1
   |ok a h'=>
    rw[he] at h1
    injection h1 with h1
    show cd (sameA a r.v) (chk1 hs mk r js) false=true
    rw[h1,sameA_refl,ih];rfl
theorem chkAll_got (hs:List Bh) (mk:List Pd):∀(rs:List Rd),gotA hs mk rs=wantA rs→chkAll hs mk rs=true
 |[],_=>rfl
 |r::rs,h=>by
  injection h with h1 h2
  show cd (chk1 hs mk r r.js) (chkAll hs mk rs) false=true
  rw[chk1_got hs mk r _ h1,chkAll_got hs mk rs h2];rfl
def isSomeD (x:Option DS):Bool:=Option.rec false (fun _=>true) x
def gotD (x:Option DS):List (List (Option AV)):=Option.rec [] (fun s=>gotA (revOnto s.old [s.cur]) s.mks s.rs) x
def wantD (x:Option DS):List (List (Option AV)):=Option.rec [] (fun s=>wantA s.rs) x
def frD (x:Option DS):T AV:=Option.rec .e (fun s=>s.fr) x
def hD (x:Option DS):H:=Option.rec H0 (fun s=>puts (selC s.cur.cons s.mks) s.cur.h) x
def evDr (P:Program) (G:Gs) (nt:Nat) (call:CallF) (ops:Array Oper) (fr:T AV) (h:H):Option DS:=
 evD call h.next (regN P G nt ops) (drawOf (predsGo ops.toList []) (regL P G nt ops)) ⟨fr,⟨⟨Nat.add h.next (regN P G nt ops),h.t⟩,[]⟩,[],[],[]⟩
section
variable {P:Program}{G:Gs}{nt:Nat}{call:CallF}{fr:T AV}{h:H}{Q:Ex→T AV→H→Prop}
theorem Sat.dregV (hm:P.follows .mixedOrders=true) (hk:CallOK P G call){rid:Nat}{ops:Array Oper}
 (hd:chkD (regN P G nt ops) ops.toList (predsGo ops.toList []) (regL P G nt ops)=true)
 (hok:isSomeD (evDr P G nt call ops fr h)=true) (hc:gotD (evDr P G nt call ops fr h)=wantD (evDr P G nt call ops fr h))
 (hq:Q .normal (frD (evDr P G nt call ops fr h)) (hD (evDr P G nt call ops fr h))):Sat P G nt (.region rid ops true) fr h Q:=by
 cases hev:evDr P G nt call ops fr h with
 |none=>rw[hev] at hok;cases hok
 |some s=>
  rw[hev] at hc hq
  refine Sat.ev hm hk (ex:=.normal) (fr':=s.fr) (h':=puts (selC s.cur.cons s.mks) s.cur.h) ?_ hq
  have:compC P G nt (.region rid ops true)=if chkD (regN P G nt ops) ops.toList (predsGo ops.toList []) (regL P G nt ops) then .dreg (regN P G nt ops) (drawOf (predsGo ops.toList []) (regL P G nt ops)) else .bad:=rfl
  rw[this,if_pos hd]
  show(Option.rec .no (fun q=>.ok .normal q.1 q.2) (evDreg call (regN P G nt ops) (drawOf (predsGo ops.toList []) (regL P G nt ops)) fr h):CR)=_
  have he:evDreg call (regN P G nt ops) (drawOf (predsGo ops.toList []) (regL P G nt ops)) fr h=some (s.fr,puts (selC s.cur.cons s.mks) s.cur.h):=by
   unfold evDreg
   unfold evDr at hev
   rw[hev]
   have hc:chkAll (revOnto s.old [s.cur]) s.mks s.rs=true:=chkAll_got _ _ _ hc
   show cd (List.rec true (fun _ _ _=>chkAll (revOnto s.old [s.cur]) s.mks s.rs) s.rs) _ none=_
   cases hrs:s.rs with
   |nil=>rfl
   |cons r rs=>rw[hrs] at hc;show cd (chkAll _ _ (r::rs)) _ none=_;rw[hc];rfl
  rw[he]
end
abbrev Fs0:=Option (Nat×Nat×Bool)
def fstA (fs:Fs0) (id:Id):AV:=match fs with
 |none=>.p id 0
 |some (w,n,ex)=>.sl id 0 w n n ex
def idA (fs:Fs0) (a:AV):Option Id:=match fs,a with
 |none,.p id 0=>some id
 |some (w,n,ex),.sl id 0 w' n' lo ex'=>cd (Nat.beq w w') (cd (Nat.beq n n') (cd (Nat.beq n' lo) (cd (cd ex ex' (!ex')) (some id) none) none) none) none
 |_,_=>none
theorem idA_inv {fs:Fs0}{a:AV}{id:Id} (h:idA fs a=some id):a=fstA fs id:=by
 unfold idA at h
 split at h
 ·injection h with h;subst h;rfl
 ·rename_i w n ex id' w' n' lo ex'
  cases h1:Nat.beq w w' with
  |false=>rw[h1] at h;cases h
  |true=>
   cases h2:Nat.beq n n' with
   |false=>rw[h1,h2] at h;cases h
   |true=>
    cases h3:Nat.beq n' lo with
    |false=>rw[h1,h2,h3] at h;cases h
    |true=>
     rw[h1,h2,h3] at h
     obtain rfl:=Nq h1
     obtain rfl:=Nq h2
     obtain rfl:=Nq h3
     cases ex<;>cases ex'<;>first|(injection h with h;subst h;rfl)|cases h
 ·cases h
structure ConM where
 f:Nat
 t:Ty
 el:TypeId
 ps:List Par
 rs:List Par
 F:den t→denL ps→Option (den t×denL rs)
 fs:Fs0
def FreshM (e:Env) (el:TypeId) (t:Ty) (x0:den t):Prop:=e.h=hpH 1 [some (.cs el (tc t x0) false)]∧(∀id,id≠path 0→(e.ρ id).2=1)∧(e.ρ (path 0)).2=0∧e.F.lo=0
def KOkM (P:Program) (G:Gs) (f:Nat) (fs:Fs0) (el:TypeId) (t:Ty) (ps rs:List Par) (x0:den t) (x:denL ps) (x1:den t) (y:denL rs):Prop:=
 ∀e vs,FreshM e el t x0→St e→GRel G e→RelL e (fstA fs (path 0)::encL ps x) vs→
  Does P f vs.toArray e.w (fun cv w'=>∃e',e'.w=w'∧St e'∧Ext e e'∧e'.h.get (path 0)=some (.cs el (tc t x1) false)∧Rel e' (encR rs y) cv)
def ConMOk (P:Program) (G:Gs) (c:ConM):Prop:=wfR c.rs=true∧∀x0 x x1 y,c.F x0 x=some (x1,y)→KOkM P G c.f c.fs c.el c.t c.ps c.rs x0 x x1 y
def finM (c:ConM) (id:Id) (h:H) (o:Option (den c.t×denL c.rs)):R:=match o with
 |some q=>.ok (encR c.rs q.2) (h.put id (.cs c.el (tc c.t q.1) false))
 |none=>.no
def decM (c:ConM) (b:Option Blk):Option (den c.t):=match b with
 |some (.cs el l false)=>cd (Nat.beq el c.el) (match dec H0 c.t l with
  |some (x,[])=>some x
  |_=>none) none
 |_=>none
def callM (c:ConM) (args:List AV) (h:H):R:=match args with
 |a::rest=>match idA c.fs a with
  |some id=>match decM c (h.get id) with
   |some x0=>match decL H0 c.ps rest with
    |some x=>finM c id h (c.F x0 x)
    |none=>.no
   |none=>.no
  |none=>.no
 |_=>.no
def callOfM (M:List ConM) (call:CallF):CallF:=fun f args h=>List.rec (call f args h) (fun c _ ih=>cd (Nat.beq c.f f) (callM c args h) ih) M
theorem cells_relL {e:Env}{c:Array Value}:∀(l:List AV) (o:Nat),(∀j x,l[j]? =some x→one x=true∧∃v,c[o+j]? =some v∧Rel e x v)→∃us:List Value,RelL e l us∧∀j v,us[j]? =some v→c[o+j]? =some v
 |[],o,_=>⟨[],by simp[RelL],fun j v h=>by simp at h⟩
 |x::l,o,h=>by
  obtain⟨_,v,hv,hr⟩:=h 0 x rfl
  obtain⟨us,h1,h2⟩:=cells_relL l (o+1) (fun j y hy=>by
   have:=h (j+1) y (by simpa using hy)
   rw[show o+1+j=o+(j+1) by omega];exact this)
  refine⟨v::us,by simp only[RelL];exact⟨hr,h1⟩,fun j u hu=>?_⟩
  cases j with
  |zero=>simp at hu;subst hu;exact hv
  |succ j=>have:=h2 j u (by simpa using hu);rw[show o+(j+1)=o+1+j by omega];exact this
theorem relL_cells {e:Env}{c:Array Value}:∀(l:List AV) (us:List Value) (o:Nat),RelL e l us→(∀x∈l,one x=true)→(∀j v,us[j]? =some v→c[o+j]? =some v)→∀j x,l[j]? =some x→one x=true∧∃v,c[o+j]? =some v∧Rel e x v
 |[],_,o,_,_,_,j,x,h=>by simp at h
 |y::l,[],o,hr,_,_,j,x,h=>by simp[RelL] at hr
 |y::l,u::us,o,hr,ho,hc,j,x,h=>by
  simp only[RelL] at hr
  cases j with
  |zero=>
   simp at h;subst h
   exact⟨ho y (by simp),u,hc 0 u rfl,hr.1⟩
  |succ j=>
   have:=relL_cells l us (o+1) hr.2 (fun x hx=>ho x (by simp[hx])) (fun j v hv=>by
    have:=hc (j+1) v (by simpa using hv)
    rw[show o+1+j=o+(j+1) by omega];exact this) j x (by simpa using h)
   rw[show o+(j+1)=o+1+j by omega];exact this
theorem blk_typed {e e2:Env}{hd:H}{id id2:Id}{el:TypeId}{l:List AV}{t:Ty}{x:den t} (hs:St e) (hw:e2.w=e.w) (hi:Mle (mm e) (mm e2)) (hsub:∀id b,hd.get id=some b→e.h.get id=some b) (ho:∀id,live hd id→Imm e2 (e.ρ id).1) (hlo:1073741824≤e2.F.B)
 (hb:BlkRel e id (.cs el l false)) (hd':dec hd t l=some (x,[])) (hρ:e2.ρ id2=e.ρ id):BlkRel e2 id2 (.cs el (tc t x) false):=by
 obtain⟨c,fr,h1,h2,h3,h4,h5⟩:=hb
 obtain⟨us,hr,hc⟩:=cells_relL l _ h3
 obtain⟨us',ws,hus,hT,hws⟩:=dec_rel hs hw hi hsub ho hlo t l x [] us hd' hr
 obtain rfl:=relL0 hws
 rw[List.append_nil] at hus
 subst hus
 have hl:(tc t x).length=l.length:=by rw[tc_len,←relT_len t x us hT];exact hr.len
 simp only[BlkRel,hρ,hw]
 exact⟨c,fr,h1,by rw[hl];exact h2,relL_cells _ us _ (relT_relL t x us hT) (tc_one t x) hc,fun _=>h4 rfl,h5⟩
theorem blk_mono {e e2:Env}{id id2:Id}{el:TypeId}{t:Ty}{x:den t} (hw:e2.w=e.w) (hi:Mle (mm e) (mm e2)) (hb:BlkRel e id (.cs el (tc t x) false)) (hρ:e2.ρ id2=e.ρ id):BlkRel e2 id2 (.cs el (tc t x) false):=by
 obtain⟨c,fr,h1,h2,h3,h4,h5⟩:=hb
 obtain⟨us,hr,hc⟩:=cells_relL _ _ h3
 have hT:=relL_relT t x us hr
 have hT2:relT (mm e2) e2.w t x us:=relT_mono (w':=e2.w) hi (fun b o _=>by rw[hw]) _ _ _ hT
 simp only[BlkRel,hρ,hw]
 exact⟨c,fr,h1,h2,relL_cells _ us _ (relT_relL t x us hT2) (tc_one t x) hc,fun _=>h4 rfl,h5⟩
theorem hp1_get (b:Blk) (id:Id):(hpH 1 [some b]).get id=if id=path 0 then some b else none:=by
 have h1:=hpH_get 1 [some b] (unpath id)
 rw[unpath_bij] at h1
 rw[h1]
 by_cases h:id=path 0
 ·rw[if_pos h,h,unpath_path];rfl
 ·rw[if_neg h]
  have:unpath id≠0:=fun h0=>h (by rw[←unpath_bij id,h0])
  obtain⟨k,hk⟩:∃k,unpath id=k+1:=⟨unpath id - 1,om⟩
  rw[hk];simp
theorem put_get (h:H) (id id':Id) (b:Blk):(h.put id b).get id'=if id'=id then some b else h.get id':=by
 show T.get id' (T.set id b h.t)=_
 rw[T.get_set];rfl
section
variable {P:Program}{G:Gs}
theorem callM_ok (hlo:1073741824≤G.B){c:ConM} (hc:ConMOk P G c){args:List AV}{r:AV}{h':H}{e:Env}{vs:List Value} (hr:callM c args e.h=.ok r h') (hs:St e) (hg:GRel G e) (hrel:RelL e args vs):
 Does P c.f vs.toArray e.w (fun v w'=>∃e',e'.w=w'∧e'.h=h'∧St e'∧Ext e e'∧Rel e' r v):=by
 unfold callM at hr
 split at hr
 ·rename_i a0 rest
  split at hr
  ·rename_i id0 hid0
   obtain rfl:=idA_inv hid0
   split at hr
   ·rename_i x0 hx0
    split at hr
    rename_i x hx
    cases hF:c.F x0 x with
    |none=>rw[hF] at hr;cases hr
    |some q=>
     obtain⟨x1,y⟩:=q
     rw[hF] at hr
     injection(show R.ok (encR c.rs y) (e.h.put id0 (.cs c.el (tc c.t x1) false))=.ok r h' from hr) with hr1 hr2
     subst hr1;subst hr2
     obtain⟨l,hl,hdec⟩:∃l,e.h.get id0=some (.cs c.el l false)∧dec H0 c.t l=some (x0,[]):=by
      unfold decM at hx0
      split at hx0
      ·rename_i el l hb
       cases hbe:Nat.beq el c.el with
       |false=>rw[hbe] at hx0;cases hx0
       |true=>
        rw[hbe] at hx0
        obtain rfl:=Nq hbe
        replace hx0:(match dec H0 c.t l with
         |some (x,[])=>some x
         |_=>none)=some x0:=hx0
        split at hx0
        ·rename_i x' hd
         cases hx0
         exact⟨l,hb,hd⟩
        ·cases hx0
      ·cases hx0
     have hlive0:live e.h id0:=⟨_,hl,by simp⟩
     let F0:Fix:=⟨fun b=>e.F.f b∨(Own e b∧b≠(e.ρ id0).1),0,e.F.B⟩
     let e0:Env:=⟨fun id=>if id=path 0 then e.ρ id0 else(0,1),hpH 1 [some (.cs c.el (tc c.t x0) false)],e.w,F0⟩
     have hρ0:e0.ρ (path 0)=e.ρ id0:=by show(if path 0=path 0 then e.ρ id0 else(0,1))=e.ρ id0;rw[if_pos rfl]
     have hb0:=hs.blk id0 _ hl
     have hz:(e.ρ id0).2=0:=by obtain⟨_,_,_,_,_,_,h5⟩:=hb0;exact h5
     have hlive1:∀id,live e0.h id↔id=path 0:=fun id=>by
      constructor
      ·rintro ⟨b,hb,_⟩
       rw[show e0.h.get id=_ from hp1_get _ id] at hb
       by_cases h:id=path 0
       ·exact h
       ·rw[if_neg h] at hb;cases hb
      ·rintro rfl
       exact⟨_,by rw[show e0.h.get (path 0)=_ from hp1_get _ _,if_pos rfl],by simp⟩
     have hown0:∀b,Own e0 b↔b=(e.ρ id0).1:=fun b=>by
      constructor
      ·rintro ⟨id,h1,h2⟩
       rw[(hlive1 id).1 h1,hρ0] at h2;exact h2.symm
      ·rintro rfl;exact⟨path 0,(hlive1 _).2 rfl,by rw[hρ0]⟩
     have hownI:Own e (e.ρ id0).1:=⟨id0,hlive0,rfl⟩
     have hi0:Mle (mm e) (mm e0):=⟨fun b (hb:Imm e b)=>⟨hb.1,fun h=>Or.elim h hb.2.1 (fun h=>hb.2.2 h.1),fun h=>hb.2.2 (by rw[(hown0 b).1 h];exact hownI)⟩,Nr _⟩
     have hB:1073741824≤e0.F.B:=by show 1073741824≤e.F.B;rw[hg.1];exact hlo
     have hblk0:BlkRel e0 (path 0) (.cs c.el (tc c.t x0) false):=
      blk_typed (hd:=H0) hs rfl hi0 (fun id b hb=>by rw[H0_get] at hb;cases hb) (fun id ⟨b,hb,_⟩=>by rw[H0_get] at hb;cases hb) hB hb0 hdec hρ0
     have hs0:St e0:={
      kn:=fun id hk=>by
       by_cases h:id=path 0
       ·exact⟨0,Nat.one_pos,h,fun _=>⟨_,by rw[show e0.h.get id=_ from hp1_get _ id,if_pos h]⟩⟩
       ·have:e0.ρ id=(0,1):=if_neg h
        unfold known at hk;rw[this] at hk;cases hk
      dk:=fun id b hb=>by
       rw[show e0.h.get id=_ from hp1_get _ id] at hb
       by_cases h:id=path 0
       ·subst h;show(e0.ρ (path 0)).2=0;rw[hρ0];exact hz
       ·rw[if_neg h] at hb;cases hb
      lo:=Nz _
      blk:=fun id b hb=>by
       rw[show e0.h.get id=_ from hp1_get _ id] at hb
       by_cases h:id=path 0
       ·rw[if_pos h] at hb;cases hb;subst h;exact hblk0
       ·rw[if_neg h] at hb;cases hb
      inj:=fun id id' h1 h2 _=>by rw[(hlive1 id).1 h1,(hlive1 id').1 h2]
      fr:=fun b hb=>by
       rcases hb with hb|⟨⟨id,h1,h2⟩,hne⟩
       ·exact⟨(hs.fr b hb).1,fun h=>(hs.fr b hb).2 (by rw[(hown0 b).1 h];exact hownI)⟩
       ·exact⟨by show b<e.w.heap.size;rw[←h2];exact hs.lt h1,fun h=>hne ((hown0 b).1 h)⟩}
     have hg0:GRel G e0:=⟨hg.1,fun g q hq=>by
      obtain⟨h1,h2⟩:=hg.2.1 g q hq
      refine⟨?_,h2⟩
      simp only[Rel] at h1⊢
      obtain⟨b,o,us,hv,h3,h4,h5⟩:=h1
      exact⟨b,o,us,hv,hi0.1 b h3,h4,relT_mono hi0 (fun b o _=>rfl) _ _ _ h5⟩,fun g hq=>by
      obtain⟨m,h1⟩:=hg.2.2.1 g hq
      refine⟨m,?_⟩
      simp only[Rel] at h1⊢
      obtain⟨b,o,us,hv,h3,h4,h5⟩:=h1
      exact⟨b,o,us,hv,hi0.1 b h3,h4,relT_mono hi0 (fun b o _=>rfl) _ _ _ h5⟩,fun g hq=>let⟨h1,v,h2,h3⟩:=hg.2.2.2 g hq;⟨by simp only[Rel] at h1⊢;obtain⟨b,o,us,hv,h4,h5,h6⟩:=h1;exact⟨b,o,us,hv,hi0.1 b h4,h5,h6⟩,v,h2,h3⟩⟩
     have hrel0:RelL e0 (fstA c.fs (path 0)::encL c.ps x) vs:=by
      cases vs with
      |nil=>simp[RelL] at hrel
      |cons v vs=>
       simp only[RelL] at hrel⊢
       refine⟨?_,decL_rel (hd:=H0) (e2:=e0) hs rfl hi0 (fun id b hb=>by rw[H0_get] at hb;cases hb) (fun id ⟨b,hb,_⟩=>by rw[H0_get] at hb;cases hb) hB c.ps rest x vs hx hrel.2⟩
       have h1:=hrel.1
       cases hfs:c.fs with
       |none=>rw[hfs] at h1;simp only[fstA,Rel,known,hρ0] at h1⊢;exact h1
       |some q=>obtain⟨w,n,ex⟩:=q;rw[hfs] at h1;simp only[fstA,Rel,known,hρ0] at h1⊢;exact h1
     refine Does.mono (hc.2 x0 x x1 y hF e0 vs ⟨rfl,fun id h=>by show(if id=path 0 then e.ρ id0 else((0,1):Nat×Nat)).2=1;rw[if_neg h],by rw[hρ0];exact hz,rfl⟩ hs0 hg0 hrel0) ?_
     rintro cv w' ⟨e1,hw1,hs1,hx1,hb1,hr1⟩
     have hkn0:known e0 (path 0):=by show(e0.ρ (path 0)).2=0;rw[hρ0];exact hz
     have hρ1:e1.ρ (path 0)=e.ρ id0:=(hx1.ren _ hkn0).trans hρ0
     let e':Env:=⟨e.ρ,e.h.put id0 (.cs c.el (tc c.t x1) false),w',e.F⟩
     have hlive':∀id,live e'.h id↔live e.h id:=fun id=>by
      unfold live
      rw[show e'.h.get id=_ from put_get _ _ _ _]
      by_cases h:id=id0
      ·rw[if_pos h,h]
       exact⟨fun _=>hlive0,fun _=>⟨_,rfl,by simp⟩⟩
      ·rw[if_neg h]
     have hown':∀b,Own e' b↔Own e b:=fun b=>by
      constructor
      ·rintro ⟨id,h1,h2⟩;exact⟨id,(hlive' id).1 h1,h2⟩
      ·rintro ⟨id,h1,h2⟩;exact⟨id,(hlive' id).2 h1,h2⟩
     have hsome:∀id b,e.h.get id=some b→∃b',e'.h.get id=some b':=fun id b hb=>by
      rw[show e'.h.get id=_ from put_get _ _ _ _]
      by_cases h:id=id0
      ·rw[if_pos h];exact⟨_,rfl⟩
      ·rw[if_neg h];exact⟨b,hb⟩
     have hkeep:∀b,b<e.w.heap.size→b≠(e.ρ id0).1→w'.heap[b]? =e.w.heap[b]? :=fun b hb hne=>by
      have:=hx1.keep b hb (fun h=>hne ((hown0 b).1 h))
      rw[hw1] at this;exact this
     have hx':Ext e e':={
      next:=Nr _
      kn:=fun _ h=>h
      ren:=fun _ _=>rfl
      fr:=rfl
      qt:=by have:=hx1.qt;rw[hw1] at this;exact this
      heap:=by have:=hx1.heap;rw[hw1] at this;exact this
      keep:=fun b hb hno=>hkeep b hb (fun h=>hno (by rw[h];exact hownI))
      size:=fun b hb=>by have:=hx1.size b hb;rw[hw1] at this;exact this
      own:=fun b _ h=>(hown' b).1 h
      pres:=fun id b h=>hsome id b h
      newk:=fun _ h=>.inl h}
     have hown1:Own e1 (e.ρ id0).1:=⟨path 0,⟨_,hb1,by simp⟩,by rw[hρ1]⟩
     have hi1:Mle (mm e1) (mm e'):=⟨fun b (hb:Imm e1 b)=>by
      refine⟨by show b<w'.heap.size;rw[←hw1];exact hb.1,fun h=>hb.2.1 (by rw[hx1.fr];exact Or.inl h),fun h=>?_⟩
      have h2:=(hown' b).1 h
      by_cases hbb:b=(e.ρ id0).1
      ·exact hb.2.2 (by rw[hbb];exact hown1)
      ·exact hb.2.1 (by rw[hx1.fr];exact Or.inr ⟨h2,hbb⟩),by show e1.F.B≤e.F.B;rw[hx1.fr];exact Nr _⟩
     have hs':St e':={
      kn:=fun id hk=>by
       obtain⟨k,h1,h2,h3⟩:=hs.kn id hk
       exact⟨k,h1,h2,fun hl=>by obtain⟨b,hb⟩:=h3 hl;exact hsome id b hb⟩
      dk:=fun id b hb=>by
       rw[show e'.h.get id=_ from put_get _ _ _ _] at hb
       by_cases h:id=id0
       ·rw[h];exact hs.dk id0 _ hl
       ·rw[if_neg h] at hb;exact hs.dk id b hb
      lo:=hs.lo
      blk:=fun id b hb=>by
       rw[show e'.h.get id=_ from put_get _ _ _ _] at hb
       by_cases h:id=id0
       ·rw[if_pos h] at hb;cases hb;subst h
        exact blk_mono (e:=e1) (id:=path 0) hw1.symm hi1 (hs1.blk _ _ hb1) (by rw[hρ1])
       ·rw[if_neg h] at hb
        by_cases hd:b=.dead
        ·subst hd;trivial
        ·have hli:live e.h id:=⟨b,hb,hd⟩
         exact BlkRel.ext hx' (hs.dk id b hb) (hkeep _ (hs.lt hli) (fun heq=>h (hs.inj id id0 hli hlive0 heq))) b (hs.blk id b hb)
      inj:=fun id id' h1 h2 he=>hs.inj id id' ((hlive' id).1 h1) ((hlive' id').1 h2) he
      fr:=fun b hb=>⟨Nl (hs.fr b hb).1 hx'.heap,fun h=>(hs.fr b hb).2 ((hown' b).1 h)⟩}
     exact⟨e',rfl,rfl,hs',hx',encR_mono (e:=e1) (e2:=e') hw1.symm hi1 hc.1 hr1⟩
    cases hr
   ·cases hr
  ·cases hr
 ·cases hr
theorem callOfM_ok (hlo:1073741824≤G.B){call:CallF} (hk:CallOK P G call):∀{M:List ConM},(∀c∈M,ConMOk P G c)→CallOK P G (callOfM M call)
 |[],_=>hk
 |c::M,h=>fun f args r h' e vs hr hs hg hrel=>by
  have hr:cd (Nat.beq c.f f) (callM c args e.h) (callOfM M call f args e.h)=.ok r h':=hr
  cases hb:Nat.beq c.f f with
  |true=>
   rw[hb] at hr
   obtain rfl:=Nq hb
   exact callM_ok hlo (h c (by simp)) hr hs hg hrel
  |false=>
   rw[hb] at hr
   exact callOfM_ok hlo hk (M:=M) (fun c hc=>h c (by simp[hc])) f args r h' e vs hr hs hg hrel
end
end Go.Ev
end
noncomputable section
namespace Go.Ev
open Go.Proofs
def cut0 (h:H):H:=hpH h.next (none::List.rec [] (fun _ t _=>t) (heapL h h.next))
theorem cut0_get {h:H}{id:Id}{b:Blk} (hb:(cut0 h).get id=some b):h.get id=some b∧id≠path 0:=by
 have h1:=hpH_get h.next (none::List.rec [] (fun _ t _=>t) (heapL h h.next)) (unpath id)
 rw[unpath_bij] at h1
 have h1:(cut0 h).get id=_:=h1
 rw[hb] at h1
 have htl:∀(l:List (Option Blk)) (k:Nat),(List.rec (motive:=fun _=>List (Option Blk)) [] (fun _ t _=>t) l:List (Option Blk))[k]? =l[k+1]? :=fun l k=>by cases l<;>simp
 cases hu:unpath id with
 |zero=>rw[hu] at h1;simp at h1
 |succ k=>
  rw[hu,List.getElem?_cons_succ,htl,heapL_get] at h1
  by_cases hk:k+1<h.next
  ·rw[if_pos hk] at h1
   refine⟨?_,fun he=>by rw[he,unpath_path] at hu;cases hu⟩
   rw[show id=path (k+1) by rw[←hu,unpath_bij]]
   exact h1.symm
  ·rw[if_neg hk] at h1;simp at h1
def decB (hd:H) (el:TypeId) (t:Ty) (b:Option Blk):Option (den t):=match b with
 |some (.cs el' l false)=>cd (Nat.beq el' el) (match dec hd t l with
  |some (x,[])=>some x
  |_=>none) none
 |_=>none
theorem decB_inv {hd:H}{el:TypeId}{t:Ty}{b:Option Blk}{x:den t} (h:decB hd el t b=some x):∃l,b=some (.cs el l false)∧dec hd t l=some (x,[]):=by
 unfold decB at h
 split at h
 ·rename_i el' l
  cases hbe:Nat.beq el' el with
  |false=>rw[hbe] at h;cases h
  |true=>
   rw[hbe] at h
   obtain rfl:=Nq hbe
   replace h:(match dec hd t l with
    |some (x,[])=>some x
    |_=>none)=some x:=h
   split at h
   ·rename_i x' hd'
    cases h
    exact⟨l,rfl,hd'⟩
   ·cases h
 ·cases h
def endVM (res:List (List Bool×Option (Option Nat))) (el:TypeId) (t:Ty) (rs:List Par) (fr:T AV) (h:H):Option (den t×denL rs):=
 Option.rec none (fun x1=>Option.rec none (fun us=>Option.rec none (fun y=>some (x1,y)) (decL (cut0 h) rs us)) (resOf res fr h)) (decB (cut0 h) el t (h.get (path 0)))
def EndQM (res:List (List Bool×Option (Option Nat))) (el:TypeId) (t:Ty) (rs:List Par) (q:den t×denL rs):Ex→T AV→H→Prop:=
 fun ex fr' h'=>(ex=.normal∨ex=.ret)∧endVM res el t rs fr' h'=some q
section
variable {P:Program}{G:Gs}
theorem fn_introM (hm:P.follows .mixedOrders=true){f:Nat}{fs:Fs0}{fn:Func}{b:Code}{res:List (List Bool×Option (Option Nat))}{el:TypeId}{t:Ty}{ps rs:List Par}{x0:den t}{x:denL ps}{q:den t×denL rs}
 (hf:P.funcs[f]? =some fn) (hname:(fn.name== "runtime.NumGoroutine")=false) (hb:fn.body=some b) (hres:compResL P fn.results.toList=some res) (hle:Nat.ble (ps.length+1) fn.ntmps=true) (hwf:wfR ps=true) (hBlo:1073741824≤G.B)
 (hsat:Bd G.B t x0→BdL G.B ps x→Sat P G fn.ntmps b (argsFrom (fstA fs (path 0)::encL ps x) 0 .e) (hpH 1 [some (.cs el (tc t x0) false)]) (EndQM res el t rs q)):KOkM P G f fs el t ps rs x0 x q.1 q.2:=by
 obtain⟨x1,y⟩:=q
 intro e vs hfr hs hg hrel
 obtain⟨he,hρ,hρ0,hlo⟩:=hfr
 right
 have hname':¬fn.name= "runtime.NumGoroutine" :=by simpa using hname
 refine⟨by simp[callFunc,hf,hname',hb],?_⟩
 have hvl:=hrel.len
 rw[Lc,encL_length] at hvl
 have hle:=Nb hle
 have hget:∀id,e.h.get id=if id=path 0 then some (.cs el (tc t x0) false) else none:=fun id=>by rw[he];exact hp1_get _ id
 have hbl:=hs.blk (path 0) (.cs el (tc t x0) false) (by rw[hget,if_pos rfl])
 have hbd0:Bd e.F.B t x0:=by
  obtain⟨c,fr,h1,h2,h3,h4⟩:=hbl
  obtain⟨us,hr,_⟩:=cells_relL _ _ h3
  exact relT_bd t x0 us (relL_relT t x0 us hr)
 have hbdL:BdL e.F.B ps x:=by
  cases vs with
  |nil=>simp[RelL] at hrel
  |cons v vs=>simp only[RelL] at hrel;exact relL_bdL hwf hrel.2
 refine calls_of_wp hf hb (hsat (by rw[←hg.1];exact hbd0) (by rw[←hg.1];exact hbdL) _ e _ he hs (args_rel hrel _) hg (by simp;omega) (fun ex fr' h' hq=>?_))
 obtain⟨hex,hend⟩:=hq
 intro a' e' he' hs' hx' hf' _ hd'
 subst he'
 have hfin:a'.defers=[]∧∃v,(results fn a'.tmps).run P e'.w=.ok v e'.w∧∃v',Ending.returned v=.returned v'∧∃e2,e2.w=e'.w∧St e2∧Ext e e2∧e2.h.get (path 0)=some (.cs el (tc t x1) false)∧Rel e2 (encR rs y) v':=by
  unfold endVM at hend
  cases hdb:decB (cut0 e'.h) el t (e'.h.get (path 0)) with
  |none=>rw[hdb] at hend;cases hend
  |some x1'=>
  rw[hdb] at hend
  cases hro:resOf res fr' e'.h with
  |none=>rw[hro] at hend;cases hend
  |some us=>
  rw[hro] at hend
  cases hdec:decL (cut0 e'.h) rs us with
  |none=>
   replace hend:(Option.rec none (fun y=>some (x1',y)) (decL (cut0 e'.h) rs us):Option (den t×denL rs))=some (x1,y):=hend
   rw[hdec] at hend;cases hend
  |some y'=>
  replace hend:(Option.rec none (fun y=>some (x1',y)) (decL (cut0 e'.h) rs us):Option (den t×denL rs))=some (x1,y):=hend
  rw[hdec] at hend
  injection hend with hend
  injection hend with hx1 hy
  subst hx1;subst hy
  obtain⟨l,hl,hld⟩:=decB_inv hdb
  obtain⟨h2,cv,h3,h4⟩:=results_sound (fn:=fn) (r:=tupA us) (h':=e'.h) hs' hf' hres hro (by
   match us with
   |[_]=>rfl
   |[]=>rfl
   |_::_::_=>rfl)
  let e2:Env:=⟨fun id=>if id=path 0 then e'.ρ (path 0) else(0,1),⟨e'.h.next,T.set (path 0) (.cs el (tc t x1') false) .e⟩,e'.w,e'.F⟩
  have hg2:∀id,e2.h.get id=if id=path 0 then some (.cs el (tc t x1') false) else none:=fun id=>by
   show T.get id (T.set (path 0) _ .e)=_
   rw[T.get_set,T.get_e]
  have hρ2:e2.ρ (path 0)=e'.ρ (path 0):=by show(if path 0=path 0 then e'.ρ (path 0) else(0,1))=_;rw[if_pos rfl]
  have hρ3:∀id,id≠path 0→e2.ρ id=(0,1):=fun id h=>by show(if id=path 0 then e'.ρ (path 0) else(0,1))=_;rw[if_neg h]
  have hk0:known e (path 0):=hρ0
  have hk2:known e2 (path 0):=by unfold known;rw[hρ2];exact hx'.kn _ hk0
  have hk2':∀id,known e2 id→id=path 0:=fun id h=>by
   by_cases hh:id=path 0
   ·exact hh
   ·unfold known at h;rw[hρ3 id hh] at h;cases h
  have hke:∀id,known e id→id=path 0:=fun id h=>by
   by_cases hh:id=path 0
   ·exact hh
   ·unfold known at h;rw[hρ id hh] at h;cases h
  have hlv2:∀id,live e2.h id↔id=path 0:=fun id=>by
   constructor
   ·rintro ⟨b,hb,_⟩
    rw[hg2] at hb
    by_cases h:id=path 0
    ·exact h
    ·rw[if_neg h] at hb;cases hb
   ·rintro rfl;exact⟨_,by rw[hg2,if_pos rfl],by simp⟩
  have hlive0:live e'.h (path 0):=⟨_,hl,by simp⟩
  have hown:∀b,Own e2 b→b=(e'.ρ (path 0)).1:=fun b ⟨id,h1,h2⟩=>by rw[(hlv2 id).1 h1,hρ2] at h2;exact h2.symm
  have hownI:Own e' (e'.ρ (path 0)).1:=⟨path 0,hlive0,rfl⟩
  have hi2:Mle (mm e') (mm e2):=⟨fun b (hb:Imm e' b)=>⟨hb.1,hb.2.1,fun h=>hb.2.2 (by rw[hown b h];exact hownI)⟩,Nr _⟩
  have hBe:1073741824≤e2.F.B:=by show 1073741824≤e'.F.B;rw[hx'.fr,hg.1];exact hBlo
  have hsub:∀id b,(cut0 e'.h).get id=some b→e'.h.get id=some b:=fun id b hb=>(cut0_get hb).1
  have hoo:∀id,live (cut0 e'.h) id→Imm e2 (e'.ρ id).1:=fun id ⟨b,hb,hd⟩=>by
   obtain⟨g1,g2⟩:=cut0_get hb
   have hli:live e'.h id:=⟨b,g1,hd⟩
   refine⟨hs'.lt hli,fun h=>(hs'.fr _ h).2 ⟨id,hli,rfl⟩,fun h=>g2 (hs'.inj id (path 0) hli hlive0 (hown _ h))⟩
  have hblk2:BlkRel e2 (path 0) (.cs el (tc t x1') false):=blk_typed (hd:=cut0 e'.h) hs' rfl hi2 hsub hoo hBe (hs'.blk _ _ hl) hld hρ2
  have hnx:0<e'.h.next:=by
   have:=hx'.next
   rw[he] at this
   exact this
  have hx2:Ext e e2:={
   next:=hx'.next
   kn:=fun id h=>by rw[hke id h];exact hk2
   ren:=fun id h=>by rw[hke id h,hρ2];exact hx'.ren _ hk0
   fr:=hx'.fr
   heap:=hx'.heap
   keep:=hx'.keep
   size:=hx'.size
   own:=fun b _ h=>by
    refine⟨path 0,⟨_,by rw[hget,if_pos rfl],by simp⟩,?_⟩
    rw[hown b h,hx'.ren _ hk0]
   pres:=fun id b h=>by
    rw[hget] at h
    by_cases hh:id=path 0
    ·exact⟨_,by rw[hg2,if_pos hh]⟩
    ·rw[if_neg hh] at h;cases h
   newk:=fun id h=>.inl (by rw[hk2' id h];exact hk0)
   qt:=hx'.qt}
  have hs2:St e2:={
   kn:=fun id h=>⟨0,hnx,hk2' id h,fun _=>⟨_,by rw[hg2,if_pos (hk2' id h)]⟩⟩
   dk:=fun id b hb=>by
    rw[hg2] at hb
    by_cases hh:id=path 0
    ·rw[hh];exact hk2
    ·rw[if_neg hh] at hb;cases hb
   lo:=hs'.lo
   blk:=fun id b hb=>by
    rw[hg2] at hb
    by_cases hh:id=path 0
    ·rw[if_pos hh] at hb;cases hb;rw[hh];exact hblk2
    ·rw[if_neg hh] at hb;cases hb
   inj:=fun id id' h1 h2 _=>by rw[(hlv2 id).1 h1,(hlv2 id').1 h2]
   fr:=fun b hb=>⟨(hs'.fr b hb).1,fun h=>(hs'.fr b hb).2 (by rw[hown b h];exact hownI)⟩}
  refine⟨hd',cv,h3,cv,rfl,e2,rfl,hs2,hx2,by rw[hg2,if_pos rfl],?_⟩
  refine tupA_conv (decL_length hdec) (fun vs hr=>?_) h4
  exact decL_rel (e2:=e2) hs' rfl hi2 hsub hoo hBe rs us y' vs hdec hr
 rcases hex with rfl|rfl
 ·exact hfin
 ·exact hfin
end
variable {Bn:Nat}
abbrev OklM (B:Nat) (M:List ConM):Prop:=∀c∈M,ConMOk PP (GG B) c
theorem okM0:OklM Bn []:=fun c h=>by cases h
theorem okMC {c:ConM}{L:List ConM} (h:ConMOk PP (GG Bn) c) (hl:OklM Bn L):OklM Bn (c::L):=fun d hd=>by
 rcases List.mem_cons.1 hd with rfl|hd
 ·exact h
 ·exact hl d hd
class UseM (Bn:Nat) where
 M:List ConM
 L:List Con
 okM:OklM Bn M
 ok:Okl Bn L
abbrev UseM.call {Bn:Nat} (u:UseM Bn):CallF:=callOfM u.M (callOf u.L)
section
variable {nt rid:Nat}{ops:Array Oper}{fr:T AV}{h:H}{Q:Ex→T AV→H→Prop}{x y:Code}
end
end Go.Ev
end
noncomputable section
namespace Go.Ev
open Go.Proofs
def flatT (y:Ty) (xs:List (den y)):List AV:=(xs.map (tc y)).flatten
def apv (iv:AV) (p:Id) (y:Ty) (xs:List (den y)):AV:=List.rec iv (fun _ t _=>.sl p 0 (wd y) (Nat.succ (U t)) (Nat.succ (U t)) false) xs
def apb (el:TypeId) (y:Ty) (xs:List (den y)):Blk:=List.rec .dead (fun x t _=>.cs el (flatT y (x::t)) false) xs
def isIv (iv:AV):Prop:=iv=.em∨iv=.v (.slice none 0 0)
theorem flatT_ok (n:Nat) (y:Ty):∀(xs:List (den y)),avOkL n (flatT y xs)
 |[]=>by show avOkL n [];simp only[avOkL]
 |x::xs=>by
  show avOkL n (tc y x++flatT y xs)
  exact avOkL_app (tc_ok n y x) (flatT_ok n y xs)
section
variable {e e3:Env}{n:Nat}
mutual
theorem Rel.conv (hρ:∀id,unpath id<n→e3.ρ id=e.ρ id) (hi:∀b,Imm e b→Imm e3 b) (hw:e3.w=e.w) (hB:e3.F.B=e.F.B):∀(x:AV) (v:Value),avOk n x→Rel e x v→Rel e3 x v
 |.i ..,_,_,hr=>by simpa only[Rel] using hr
 |.b ..,_,_,hr=>by simpa only[Rel] using hr
 |.s ..,_,_,hr=>by simpa only[Rel] using hr
 |.v ..,_,_,hr=>by simpa only[Rel] using hr
 |.p id off,v,ha,hr=>by
  simp only[Rel] at hr⊢
  have hρ:=hρ id (by simpa only[avOk] using ha)
  simp only[known,hρ];exact hr
 |.sl id off sz k lo ex,v,ha,hr=>by
  simp only[Rel] at hr⊢
  have hρ:=hρ id (by simpa only[avOk] using ha)
  simp only[known,hρ,hw];exact hr
 |.em,_,_,hr=>by simpa only[Rel] using hr
 |.isl t xs,v,_,hr=>by
  simp only[Rel] at hr⊢
  exact relT_mono (m:=mm e) (m':=mm e3) ⟨hi,by show e.F.B≤e3.F.B;rw[hB];exact Nr _⟩ (fun b o _=>by rw[hw]) _ _ _ hr
 |.ip t x off,v,_,hr=>by
  simp only[Rel] at hr⊢
  obtain⟨b,o,us,hv,hm,hc,hr⟩:=hr
  exact⟨b,o,us,hv,hi b hm,fun j v hv=>by rw[hw];exact hc j v hv,relT_mono (m:=mm e) (m':=mm e3) ⟨hi,by show e.F.B≤e3.F.B;rw[hB];exact Nr _⟩ (fun b o _=>by rw[hw]) _ _ _ hr⟩
 |.f fn a b,v,ha,hr=>by
  simp only[Rel] at hr⊢
  simp only[avOk] at ha
  obtain⟨vs,ws,hv,h1,h2⟩:=hr
  exact⟨vs,ws,hv,RelL.conv hρ hi hw hB _ _ ha.1 h1,RelL.conv hρ hi hw hB _ _ ha.2 h2⟩
 |.ifc t x,v,ha,hr=>by
  simp only[Rel] at hr⊢
  simp only[avOk] at ha
  obtain⟨u,hv,hu⟩:=hr
  exact⟨u,hv,Rel.conv hρ hi hw hB _ _ ha hu⟩
 |.ag cs,v,ha,hr=>by
  simp only[Rel] at hr⊢
  simp only[avOk] at ha
  obtain⟨h1,vs,hv,h2⟩:=hr
  exact⟨h1,vs,hv,RelL.conv hρ hi hw hB _ _ ha h2⟩
 |.tu cs,v,ha,hr=>by
  simp only[Rel] at hr⊢
  simp only[avOk] at ha
  obtain⟨vs,hv,h2⟩:=hr
  exact⟨vs,hv,RelL.conv hρ hi hw hB _ _ ha h2⟩
 |.m id,v,ha,hr=>by
  simp only[Rel] at hr⊢
  have hρ:=hρ id (by simpa only[avOk] using ha)
  simp only[known,hρ];exact hr
 |.j,_,_,_=>by simp[Rel]
theorem RelL.conv (hρ:∀id,unpath id<n→e3.ρ id=e.ρ id) (hi:∀b,Imm e b→Imm e3 b) (hw:e3.w=e.w) (hB:e3.F.B=e.F.B):∀(xs:List AV) (vs:List Value),avOkL n xs→RelL e xs vs→RelL e3 xs vs
 |[],[],_,_=>by simp[RelL]
 |[],_::_,_,hr=>by simp[RelL] at hr
 |_::_,[],_,hr=>by simp[RelL] at hr
 |x::xs,v::vs,ha,hr=>by
  simp only[RelL] at hr⊢
  simp only[avOkL] at ha
  exact⟨Rel.conv hρ hi hw hB _ _ ha.1 hr.1,RelL.conv hρ hi hw hB _ _ ha.2 hr.2⟩
end
theorem EntRel.conv (hρ:∀id,unpath id<n→e3.ρ id=e.ρ id) (hi:∀b,Imm e b→Imm e3 b) (hw:e3.w=e.w) (hB:e3.F.B=e.F.B):∀(es:List (AV×AV)) (ms:List MapEntry),(∀q∈es,avOk n q.1∧avOk n q.2)→EntRel e es ms→EntRel e3 es ms
 |[],[],_,_=>trivial
 |[],_::_,_,hr=>hr.elim
 |(_,_)::_,[],_,hr=>hr.elim
 |(k,v)::es,m::ms,ha,hr=>⟨Rel.conv hρ hi hw hB _ _ (ha (k,v) (by simp)).1 hr.1,Rel.conv hρ hi hw hB _ _ (ha (k,v) (by simp)).2 hr.2.1,EntRel.conv hρ hi hw hB es ms (fun q hq=>ha q (by simp[hq])) hr.2.2⟩
theorem BlkRel.conv (hρ:∀id,unpath id<n→e3.ρ id=e.ρ id) (hi:∀b,Imm e b→Imm e3 b) (hw:e3.w=e.w) (hB:e3.F.B=e.F.B){id id3:Id} (hid:e3.ρ id3=e.ρ id):∀(b:Blk),blkOk n (some b)→BlkRel e id b→BlkRel e3 id3 b
 |.cs el l fz,hb,h=>by
  obtain⟨c,fr,g1,g2,g3,g4⟩:=h
  simp only[BlkRel,hid,hw]
  refine⟨c,fr,g1,g2,fun j x hx=>?_,g4⟩
  obtain⟨ho,v,hv,hr⟩:=g3 j x hx
  exact⟨ho,v,hv,Rel.conv hρ hi hw hB _ _ (avOkL_mem hb x (List.mem_of_getElem? hx)) hr⟩
 |.mp es,hb,h=>by
  obtain⟨ms,clock,g1,g2⟩:=h
  simp only[BlkRel,hid,hw]
  exact⟨ms,clock,g1,EntRel.conv hρ hi hw hB _ _ hb g2⟩
 |.it s pos,_,h=>by simp only[BlkRel,hid,hw] at h⊢;exact h
 |.dead,_,_=>trivial
end
theorem snoc_get (n:Nat) (bs:List (Option Blk)) (hl:bs.length=n) (b:Blk) (id:Id):(hpH (n+1) (bs++[some b])).get id=if unpath id<n then(bs[unpath id]?).join else if id=path n then some b else none:=by
 have h1:=hpH_get (n+1) (bs++[some b]) (unpath id)
 rw[unpath_bij] at h1
 rw[h1]
 by_cases h:unpath id<n
 ·rw[if_pos h,List.getElem?_append_left om]
 ·rw[if_neg h,List.getElem?_append_right om]
  by_cases h2:id=path n
  ·rw[if_pos h2,h2,unpath_path,hl,Nat.sub_self];rfl
  ·rw[if_neg h2]
   have:unpath id≠n:=fun h0=>h2 (by rw[←h0,unpath_bij])
   obtain⟨k,hk⟩:∃k,unpath id - bs.length=k+1:=⟨unpath id - bs.length - 1,om⟩
   rw[hk];simp
section
variable {P:Program}{G:Gs}{nt:Nat}{fr:T AV}{h:H}{Q:Ex→T AV→H→Prop}
end
end Go.Ev
end
noncomputable section
namespace Go.Ev
open Go.Proofs
def viewApp (o:AOp) (fr:T AV) (h:H):Option (TypeId×Nat×Nat×AV×Option (List AV×Nat)):=match o with
 |.o2 (.app el sz by_ x y)=>some (el,sz,by_,ev x fr,elems (ev y fr) sz h)
 |_=>none
def viewCvs (o:AOp) (fr:T AV):Option AV:=match o with
 |.o2 (.cvbs x)=>some (ev x fr)
 |_=>none
def viewBin (o:AOp) (fr:T AV):Option (BinOp×AV×AV):=match o with
 |.bin op x y=>some (op,ev x fr,ev y fr)
 |_=>none
theorem flatT_len (y:Ty) (xs:List (den y)):(flatT y xs).length=xs.length*wd y:=flat_len y xs
theorem flatT_snoc (y:Ty) (xs:List (den y)) (x:den y):flatT y (xs++[x])=flatT y xs++tc y x:=by simp[flatT]
theorem len_snoc {α:Type} (xs:List α) (x:α):(xs++[x]).length=xs.length+1:=by simp
theorem ev_grow {el sz by_ n:Nat}{l:List AV}{h:H} (hby:n*by_≤1099511627776):growA el sz by_ n l h=.ok (.sl (path h.next) 0 sz n n false) (fresh (.cs el l false) h):=by
 unfold growA roomy
 rw[show Nat.ble (Nat.mul n by_) 1099511627776=true from Nc hby];rfl
theorem ev_apn {el by_:Nat}{p:Id}{y:Ty}{xs:List (den y)}{x:den y}{h:H} (hby:(xs.length+1)*by_≤1099511627776) (hg:h.get p=some (.cs el (flatT y xs) false)):
 appendA el (wd y) by_ (.sl p 0 (wd y) xs.length xs.length false) (tc y x) 1 h=.ok (.sl (path h.next) 0 (wd y) (xs++[x]).length (xs++[x]).length false) (fresh (.cs el (flatT y (xs++[x])) false) (h.put p .dead)):=by
 show cd (Nat.beq (wd y) (wd y)) (cd (Nat.ble (Nat.add xs.length 1) xs.length) _ (match h.get p with
         |some (.cs el' l fz)=>match cut l 0 (Nat.mul xs.length (wd y)) with
          |some old=>cd false (growA el (wd y) by_ (Nat.add xs.length 1) (cat old (tc y x)) h)
           (cd (Nat.beq el el') (cd (Nat.beq 0 0) (cd fz .no (growA el (wd y) by_ (Nat.add xs.length 1) (cat old (tc y x)) (h.put p .dead))) .no) .no)
          |none=>.no
         |_=>.no)) .no=_
 have hc:cut (flatT y xs) 0 (Nat.mul xs.length (wd y))=some (flatT y xs):=by
  show cut (flatT y xs) 0 (xs.length*wd y)=_
  rw[←flatT_len];exact cut_all _
 rw[Nat.beq_refl,show Nat.ble (Nat.add xs.length 1) xs.length=false by rw[ble_nat];exact Df (by show¬(xs.length+1≤xs.length);omega),hg]
 show(match cut (flatT y xs) 0 (Nat.mul xs.length (wd y)) with
  |some old=>cd false (growA el (wd y) by_ (Nat.add xs.length 1) (cat old (tc y x)) h)
   (cd (Nat.beq el el) (cd (Nat.beq 0 0) (cd false .no (growA el (wd y) by_ (Nat.add xs.length 1) (cat old (tc y x)) (h.put p .dead))) .no) .no)
  |none=>.no)=_
 rw[hc,Nat.beq_refl]
 show growA el (wd y) by_ (xs.length+1) (cat (flatT y xs) (tc y x)) (h.put p .dead)=_
 rw[cat_eq,←flatT_snoc,←len_snoc xs x,ev_grow (by rw[len_snoc];exact hby)];rfl
theorem ev_app0 {el by_:Nat}{iv:AV} (hiv:isIv iv){p:Id}{y:Ty}{xs:List (den y)}{x:den y}{h:H} (hby:(xs.length+1)*by_≤1099511627776) (hg:h.get p=some (apb el y xs)):
 appendA el (wd y) by_ (apv iv p y xs) (tc y x) 1 h=.ok (.sl (path h.next) 0 (wd y) (xs++[x]).length (xs++[x]).length false) (fresh (.cs el (flatT y (xs++[x])) false) (h.put p .dead)):=by
 cases xs with
 |cons z t=>exact ev_apn (xs:=z::t) hby hg
 |nil=>
  have h1:appendA el (wd y) by_ iv (tc y x) 1 h=growA el (wd y) by_ 1 (tc y x) h:=by
   rcases hiv with rfl|rfl<;>rfl
  show appendA el (wd y) by_ iv (tc y x) 1 h=_
  have hput:h.put p .dead=h:=by
   show(⟨h.next,T.set p .dead h.t⟩:H)=h
   rw[T.set_self p h.t .dead hg]
  rw[h1,ev_grow (by simpa using hby),hput]
  simp[flatT]
section
variable {call:CallF}{base:Nat}{ops:List AO}{fr:T AV}{h:H}{Q:T AV→H→Prop}
theorem ev_app {o:AOp}{el sz by_:Nat}{x:AV}{cs:List AV}{n:Nat} (hv:viewApp o fr h=some (el,sz,by_,x,some (cs,n))) (id:Nat):evOp call o fr h id=appendA el sz by_ x cs n h:=by
 unfold viewApp at hv
 split at hv
 ·rename_i el' sz' by' x' y'
  simp only[Oj,Prod.mk.injEq] at hv
  obtain⟨h1,h2,h3,h4,h5⟩:=hv
  subst h1;subst h2;subst h3;subst h4
  show(match elems (ev y' fr) sz' h with
   |some (cs,k)=>appendA el' sz' by' (ev x' fr) cs k h
   |none=>.no)=_
  rw[h5]
 ·cases hv
theorem zapp (k q el by_:Nat) (iv:AV) (hiv:isIv iv) (p:Nat) (y:Ty) (xs:List (den y)) (x:den y) (hby:(xs.length+1)*by_≤1099511627776)
 (hr:RunOps call base (ops.drop (k+1)) (setD (opA ops k).dst (.sl (path q) 0 (wd y) (xs++[x]).length (xs++[x]).length false) (stF call base ops fr h k)) ⟨q+1,T.set (path q) (.cs el (flatT y (xs++[x])) false) (T.set (path p) .dead (stH call base ops fr h k).t)⟩ Q)
 (hok:stOk call base ops fr h k=true:=by kernel_rfl) (hk:Nat.blt k ops.length=true:=by kernel_rfl)
 (hw:wanted (opA ops k).g (stF call base ops fr h k)=some true:=by kernel_rfl) (hq:(stH call base ops fr h k).next=q:=by kernel_rfl)
 (hv:viewApp (opA ops k).op (stF call base ops fr h k) (stH call base ops fr h k)=some (el,wd y,by_,apv iv (path p) y xs,some (tc y x,1)):=by kernel_rfl)
 (hg:(stH call base ops fr h k).get (path p)=some (apb el y xs):=by kernel_rfl):RunOps call base ops fr h Q:=by
 refine RunOps.stepH k _ _ hok hk hw ((ev_app hv _).trans (ev_app0 hiv hby hg)) ?_
 subst hq;exact hr
theorem zapn (k q el by_:Nat) (p:Nat) (y:Ty) (xs:List (den y)) (x:den y) (hby:(xs.length+1)*by_≤1099511627776)
 (hr:RunOps call base (ops.drop (k+1)) (setD (opA ops k).dst (.sl (path q) 0 (wd y) (xs++[x]).length (xs++[x]).length false) (stF call base ops fr h k)) ⟨q+1,T.set (path q) (.cs el (flatT y (xs++[x])) false) (T.set (path p) .dead (stH call base ops fr h k).t)⟩ Q)
 (hok:stOk call base ops fr h k=true:=by kernel_rfl) (hk:Nat.blt k ops.length=true:=by kernel_rfl)
 (hw:wanted (opA ops k).g (stF call base ops fr h k)=some true:=by kernel_rfl) (hq:(stH call base ops fr h k).next=q:=by kernel_rfl)
 (hv:viewApp (opA ops k).op (stF call base ops fr h k) (stH call base ops fr h k)=some (el,wd y,by_,.sl (path p) 0 (wd y) xs.length xs.length false,some (tc y x,1)):=by kernel_rfl)
 (hg:(stH call base ops fr h k).get (path p)=some (.cs el (flatT y xs) false):=by kernel_rfl):RunOps call base ops fr h Q:=by
 refine RunOps.stepH k _ _ hok hk hw ((ev_app hv _).trans (ev_apn hby hg)) ?_
 subst hq;exact hr
theorem zcs (k:Nat) (xs:List Int) (hn:xs.length≤1152921504606846976)
 (hr:RunOps call base (ops.drop (k+1)) (setD (opA ops k).dst (.s (U (α:=Nat) (List.map b8 xs)) (List.map b8 xs)) (stF call base ops fr h k)) (stH call base ops fr h k) Q)
 (hok:stOk call base ops fr h k=true:=by kernel_rfl) (hk:Nat.blt k ops.length=true:=by kernel_rfl)
 (hw:wanted (opA ops k).g (stF call base ops fr h k)=some true:=by kernel_rfl)
 (hv:viewCvs (opA ops k).op (stF call base ops fr h k)=some (.isl (.int .u8) xs):=by kernel_rfl):RunOps call base ops fr h Q:=by
 refine RunOps.step k _ hok hk hw ?_ hr
 generalize (opA ops k).op=o at hv⊢
 unfold viewCvs at hv
 split at hv
 ·simp only[Oj] at hv
  rename_i x'
  show(match strB (ev x' _) _ with
   |some (n,l)=>cd (Nat.ble n 1152921504606846976) (.ok (.s n l) _) .no
   |none=>.no:R)=_
  rw[hv]
  show cd (Nat.ble xs.length 1152921504606846976) (R.ok (.s xs.length (xs.map b8)) _) R.no=_
  rw[show Nat.ble xs.length 1152921504606846976=true from Nc hn,Lm];rfl
 ·cases hv
end
section
variable {P:Program}{G:Gs}{nt:Nat}{fr:T AV}{h:H}{Q:Ex→T AV→H→Prop}
theorem Sat.give {c:Code} (hlo:1073741824≤G.B) (gs:List Bool) (p:Id) (el lo:Nat) (ex:Bool) (y:Ty) (xs:List (den y)) (hn:xs.length≤1073741824)
 (hv:getV fr gs=.sl p 0 (wd y) xs.length lo ex) (hg:h.get p=some (.cs el (flatT y xs) false)) (hc:Sat P G nt c (T.set gs (.isl y xs) fr) (h.put p .dead) Q):Sat P G nt c fr h Q:=by
 intro K e a he hs hf hgr hsz hp
 subst he
 let e2:Env:=⟨e.ρ,e.h.put p .dead,e.w,e.F⟩
 have hget:∀id,e2.h.get id=if id=p then some .dead else e.h.get id:=fun id=>put_get _ _ _ _
 have hlv:∀id,live e2.h id↔live e.h id∧id≠p:=fun id=>by
  constructor
  ·rintro ⟨b,hb,hd⟩
   rw[hget] at hb
   by_cases hh:id=p
   ·rw[if_pos hh] at hb;injection hb with hb;exact absurd hb.symm hd
   ·rw[if_neg hh] at hb;exact⟨⟨b,hb,hd⟩,hh⟩
  ·rintro ⟨⟨b,hb,hd⟩,hh⟩
   exact⟨b,by rw[hget,if_neg hh];exact hb,hd⟩
 have hlp:live e.h p:=⟨_,hg,by simp⟩
 have hown:∀b,Own e2 b→Own e b:=fun b ⟨id,h1,h2⟩=>⟨id,((hlv id).1 h1).1,h2⟩
 have hi:Mle (mm e) (mm e2):=⟨fun b (hb:Imm e b)=>⟨hb.1,hb.2.1,fun h=>hb.2.2 (hown b h)⟩,Nr _⟩
 have hx:Ext e e2:={
  next:=Nr _
  kn:=fun _ h=>h
  ren:=fun _ _=>rfl
  fr:=rfl
  qt:=⟨rfl,rfl,rfl⟩
  heap:=Nr _
  keep:=fun _ _ _=>rfl
  size:=fun _ _=>rfl
  own:=fun b _ h=>hown b h
  pres:=fun id b hb=>by
   rw[hget]
   by_cases hh:id=p
   ·rw[if_pos hh];exact⟨_,rfl⟩
   ·rw[if_neg hh];exact⟨b,hb⟩
  newk:=fun _ h=>.inl h}
 have hs2:St e2:={
  kn:=fun id hk=>by
   obtain⟨k,h1,h2,h3⟩:=hs.kn id hk
   exact⟨k,h1,h2,fun hl=>by obtain⟨b,hb⟩:=h3 hl;exact hx.pres id b hb⟩
  dk:=fun id b hb=>by
   rw[hget] at hb
   by_cases hh:id=p
   ·rw[hh];exact hs.dk p _ hg
   ·rw[if_neg hh] at hb;exact hs.dk id b hb
  lo:=hs.lo
  blk:=fun id b hb=>by
   rw[hget] at hb
   by_cases hh:id=p
   ·rw[if_pos hh] at hb;injection hb with hb;subst hb;trivial
   ·rw[if_neg hh] at hb
    exact BlkRel.ext hx (hs.dk id b hb) rfl b (hs.blk id b hb)
  inj:=fun id id' h1 h2 he=>hs.inj id id' ((hlv id).1 h1).1 ((hlv id').1 h2).1 he
  fr:=fun b hb=>⟨(hs.fr b hb).1,fun h=>(hs.fr b hb).2 (hown b h)⟩}
 have himp:Imm e2 (e.ρ p).1:=⟨hs.lt hlp,fun h=>(hs.fr _ h).2 ⟨p,hlp,rfl⟩,fun⟨id,h1,h2⟩=>((hlv id).1 h1).2 (hs.inj id p ((hlv id).1 h1).1 hlp h2)⟩
 let hd:H:=⟨0,T.set p (.cs el (flatT y xs) false) .e⟩
 have hhd:∀id,hd.get id=if id=p then some (.cs el (flatT y xs) false) else none:=fun id=>by
  show T.get id (T.set p _ .e)=_
  rw[T.get_set,T.get_e]
 refine hc K e2 a rfl hs2 (fun k=>?_) (hgr.ext hx) hsz (fun ex fr' h' hq=>(hp ex fr' h' hq).ext hx rfl)
 rw[getV_set]
 by_cases hk:path k=gs
 ·rw[if_pos hk]
  have h0:=hf k
  rw[hk,hv] at h0
  have:=decP_rel (e2:=e2) (hd:=hd) hs rfl hi (fun id b hb=>by
   rw[hhd] at hb
   by_cases hh:id=p
   ·rw[if_pos hh] at hb;rw[hh,hg];exact hb
   ·rw[if_neg hh] at hb;cases hb) (fun id ⟨b,hb,_⟩=>by
   rw[hhd] at hb
   by_cases hh:id=p
   ·rw[hh];exact himp
   ·rw[if_neg hh] at hb;cases hb) (by show 1073741824≤e.F.B;rw[hgr.1];exact hlo) (decP_tos (hd:=hd) (id:=p) (t:=y) (el:=el) (fz:=false) (ex:=ex) (lo:=lo) (xs:=xs) hn (by rw[hhd,if_pos rfl];rfl)) h0
  show relT (mm e2) e2.w (.sl y) xs [_]
  exact this
 ·rw[if_neg hk]
  exact Rel.ext hx _ _ (hf k)
theorem Sat.weak {c:Code} (gs:List Bool) (v v':AV) (hv:getV fr gs=v) (hw:∀(e:Env) (u:Value),Rel e v u→Rel e v' u) (hc:Sat P G nt c (T.set gs v' fr) h Q):Sat P G nt c fr h Q:=by
 intro K e a he hs hf hgr hsz hp
 refine hc K e a he hs (fun k=>?_) hgr hsz hp
 rw[getV_set]
 by_cases hk:path k=gs
 ·rw[if_pos hk]
  have h0:=hf k
  rw[hk,hv] at h0
  exact hw _ _ h0
 ·rw[if_neg hk];exact hf k
theorem Sat.giveA {c:Code} (hlo:1073741824≤G.B) (gs:List Bool) (iv:AV) (hiv:isIv iv) (p:Id) (el:Nat) (y:Ty) (xs:List (den y)) (hn:xs.length≤1073741824)
 (hv:getV fr gs=apv iv p y xs) (hg:h.get p=some (apb el y xs)) (hc:Sat P G nt c (T.set gs (.isl y xs) fr) (h.put p .dead) Q):Sat P G nt c fr h Q:=by
 cases xs with
 |cons x t=>exact Sat.give hlo gs p el _ false y (x::t) hn hv hg hc
 |nil=>
  have hput:h.put p .dead=h:=by
   show(⟨h.next,T.set p .dead h.t⟩:H)=h
   rw[T.set_self p h.t .dead hg]
  rw[hput] at hc
  refine Sat.weak gs iv (.isl y []) hv (fun e u hu=>?_) hc
  show relT (mm e) e.w (.sl y) [] [u]
  rcases hiv with rfl|rfl
  ·simp only[Rel] at hu
   obtain⟨a,hu⟩:=hu
   exact⟨u,rfl,.inr ⟨a,0,hu,Nr _,Nz _,.inl rfl⟩⟩
  ·simp only[Rel] at hu
   exact⟨u,rfl,.inl ⟨rfl,hu.1⟩⟩
end
section
variable {Bn nt:Nat}{c:Code}{fr:T AV}{h:H}{Q:Ex→T AV→H→Prop}
end
theorem iv_em:isIv .em:=.inl rfl
theorem iv_nil:isIv (.v (.slice none 0 0)):=.inr rfl
end Go.Ev
namespace Go.Ev
open Go.Proofs
end Go.Ev
namespace Go.Ev
open Go.Proofs
section
variable {call:CallF}{base:Nat}{ops:List AO}{fr:T AV}{h:H}{Q:T AV→H→Prop}
end
end Go.Ev
namespace Go.Ev
theorem scan_end {σ β:Type}{P:σ→Out σ β}{Inv B:σ→Prop}{R:β→Prop}{m:σ→Nat}
 (h:∀s,Inv s→(∃s',P s=.go s'∧Inv s'∧m s'<m s)∨(∃s',P s=.brk s'∧B s')∨(∃r,P s=.ret r∧R r)):
 ∀(f:Nat) (s:σ),m s<f→Inv s→(∃s',scan P f s=.brk s'∧B s')∨∃r,scan P f s=.ret r∧R r
 |0,s,hm,_=>absurd hm (Nn _)
 |f+1,s,hm,hi=>by
  rcases h s hi with ⟨s',h1,h2,h3⟩|⟨s',h1,h2⟩|⟨r,h1,h2⟩
  ·rcases scan_end h f s' om h2 with ⟨s2,g1,g2⟩|⟨r,g1,g2⟩
   ·exact .inl ⟨s2,by simp only[scan,h1];exact g1,g2⟩
   ·exact .inr ⟨r,by simp only[scan,h1];exact g1,g2⟩
  ·exact .inl ⟨s',by simp only[scan,h1],h2⟩
  ·exact .inr ⟨r,by simp only[scan,h1],h2⟩
end Go.Ev
namespace Go.Ev
open Go.Proofs
def ds0:DS:=⟨.e,⟨H0,[]⟩,[],[],[]⟩
def dsOf (x:Option DS):DS:=Option.rec ds0 (fun s=>s) x
def opD (ops:List DO) (k:Nat):DO:=Option.rec ⟨⟨none,.o2 .bad,none,0⟩,[],[]⟩ (fun x=>x) (nth ops k)
def stDk (call:CallF) (base na:Nat) (ops:List DO) (s:DS) (k:Nat):Option DS:=evD call base na (ops.take k) s
def RunD (call:CallF) (base na:Nat) (ops:List DO) (s:DS) (Q:DS→Prop):Prop:=∃s',evD call base na ops s=some s'∧Q s'
section
variable {call:CallF}{base na:Nat}{ops:List DO}{s:DS}{Q:DS→Prop}
theorem evD_append:∀(a b:List DO) (s:DS),evD call base na (a++b) s=Option.rec none (fun s=>evD call base na b s) (evD call base na a s)
 |[],b,s=>rfl
 |d::a,b,s=>by
  show(Option.rec none (evD call base na (a++b)) (stepD call base na d s):Option DS)=Option.rec none (fun s=>evD call base na b s) (Option.rec none (evD call base na a) (stepD call base na d s):Option DS)
  cases stepD call base na d s with
  |none=>rfl
  |some s'=>exact evD_append a b s'
theorem RunD.upto (k:Nat) (hok:isSomeD (stDk call base na ops s k)=true) (hr:RunD call base na (ops.drop k) (dsOf (stDk call base na ops s k)) Q):RunD call base na ops s Q:=by
 obtain⟨s',h1,h2⟩:=hr
 refine⟨s',?_,h2⟩
 have:=evD_append (call:=call) (base:=base) (na:=na) (ops.take k) (ops.drop k) s
 rw[Ly] at this
 rw[this]
 unfold stDk at hok h1
 cases hev:evD call base na (ops.take k) s with
 |none=>rw[hev] at hok;cases hok
 |some s1=>rw[hev] at h1;exact h1
theorem RunD.fin (hok:isSomeD (evD call base na ops s)=true) (hq:Q (dsOf (evD call base na ops s))):RunD call base na ops s Q:=by
 cases hev:evD call base na ops s with
 |none=>rw[hev] at hok;cases hok
 |some s'=>rw[hev] at hq;exact⟨s',hev,hq⟩
theorem opD_drop {k:Nat} (hk:Nat.blt k ops.length=true):ops.drop k=opD ops k::ops.drop (k+1):=by
 have hk:k<ops.length:=Nat.lt_of_succ_le (Nb hk)
 rw[List.drop_eq_getElem_cons hk]
 congr 1
 unfold opD
 rw[nth_eq,Lq hk]
theorem RunD.stepX (k:Nat) (v:AV) (h':H) (hok:isSomeD (stDk call base na ops s k)=true) (hk:Nat.blt k ops.length=true) (hw:wanted (opD ops k).o.g (dsOf (stDk call base na ops s k)).fr=some true)
 (hc:(opD ops k).o.op.cls=.X)
 (hv:evOp call (opD ops k).o.op (dsOf (stDk call base na ops s k)).fr (heapAt (dsOf (stDk call base na ops s k)).cur (opD ops k).ks (dsOf (stDk call base na ops s k)).mks) (Nat.add base na)=.ok v h')
 (hf:freeOf h' base (cat (opD ops k).ks (dsOf (stDk call base na ops s k)).cur.cons) na=true)
 (hr:RunD call base na (ops.drop (k+1)) (Ev.stepX (opD ops k) (dsOf (stDk call base na ops s k)) v h') Q):RunD call base na ops s Q:=by
 refine RunD.upto k hok ?_
 obtain⟨s',h1,h2⟩:=hr
 refine⟨s',?_,h2⟩
 rw[opD_drop hk]
 show(Option.rec none (evD call base na (ops.drop (k+1))) (stepD call base na (opD ops k) (dsOf (stDk call base na ops s k))):Option DS)=some s'
 have:stepD call base na (opD ops k) (dsOf (stDk call base na ops s k))=some (Ev.stepX (opD ops k) (dsOf (stDk call base na ops s k)) v h'):=by
  unfold stepD
  rw[hw,hc,hv]
  show cd (freeOf h' base (cat (opD ops k).ks (dsOf (stDk call base na ops s k)).cur.cons) na) _ none=_
  rw[hf];rfl
 rw[this];exact h1
end
section
variable {Bn:Nat}{nt rid:Nat}{ops:Array Oper}{fr:T AV}{h:H}{Q:Ex→T AV→H→Prop}
def DQ (Q:T AV→H→Prop) (s:DS):Prop:=gotA (revOnto s.old [s.cur]) s.mks s.rs=wantA s.rs∧Q s.fr (puts (selC s.cur.cons s.mks) s.cur.h)
theorem Sat.dregS {P:Program}{G:Gs}{call:CallF} (hm:P.follows .mixedOrders=true) (hk:CallOK P G call) (hd:chkD (regN P G nt ops) ops.toList (predsGo ops.toList []) (regL P G nt ops)=true)
 (hr:RunD call h.next (regN P G nt ops) (drawOf (predsGo ops.toList []) (regL P G nt ops)) ⟨fr,⟨⟨Nat.add h.next (regN P G nt ops),h.t⟩,[]⟩,[],[],[]⟩ (DQ (Q .normal))):Sat P G nt (.region rid ops true) fr h Q:=by
 obtain⟨s,h1,h2,h3⟩:=hr
 have he:evDr P G nt call ops fr h=some s:=h1
 exact Sat.dregV hm hk hd (by rw[he];rfl) (by rw[he];exact h2) (by rw[he];exact h3)
end
section
variable {call:CallF}{base na:Nat}{ops:List DO}{s:DS}{Q:T AV→H→Prop}
theorem zfd (hq:Q (dsOf (evD call base na ops s)).fr (puts (selC (dsOf (evD call base na ops s)).cur.cons (dsOf (evD call base na ops s)).mks) (dsOf (evD call base na ops s)).cur.h))
 (hok:isSomeD (evD call base na ops s)=true:=by kernel_rfl)
 (hc:gotA (revOnto (dsOf (evD call base na ops s)).old [(dsOf (evD call base na ops s)).cur]) (dsOf (evD call base na ops s)).mks (dsOf (evD call base na ops s)).rs=wantA (dsOf (evD call base na ops s)).rs:=by kernel_rfl):RunD call base na ops s (DQ Q):=RunD.fin hok ⟨hc,hq⟩
theorem zcd (k:Nat) (con:Con) (x:denL con.ps) (y:denL con.rs) (hF:con.F x=some y)
 (hr:RunD call base na (ops.drop (k+1)) (Ev.stepX (opD ops k) (dsOf (stDk call base na ops s k)) (encR con.rs y) (heapAt (dsOf (stDk call base na ops s k)).cur (opD ops k).ks (dsOf (stDk call base na ops s k)).mks)) (DQ Q))
 (hok:isSomeD (stDk call base na ops s k)=true:=by kernel_rfl) (hk:Nat.blt k ops.length=true:=by kernel_rfl) (hw:wanted (opD ops k).o.g (dsOf (stDk call base na ops s k)).fr=some true:=by kernel_rfl)
 (hc:(opD ops k).o.op.cls=.X:=by kernel_rfl)
 (hv:evOp call (opD ops k).o.op (dsOf (stDk call base na ops s k)).fr (heapAt (dsOf (stDk call base na ops s k)).cur (opD ops k).ks (dsOf (stDk call base na ops s k)).mks) (Nat.add base na)=finC con.rs (heapAt (dsOf (stDk call base na ops s k)).cur (opD ops k).ks (dsOf (stDk call base na ops s k)).mks) (con.F x):=by kernel_rfl)
 (hf:freeOf (heapAt (dsOf (stDk call base na ops s k)).cur (opD ops k).ks (dsOf (stDk call base na ops s k)).mks) base (cat (opD ops k).ks (dsOf (stDk call base na ops s k)).cur.cons) na=true:=by kernel_rfl):RunD call base na ops s (DQ Q):=
 RunD.stepX k _ _ hok hk hw hc (hv.trans (by rw[hF];rfl)) hf hr
end
end Go.Ev
namespace Go.Ev
theorem ex_pred {α:Type} (p:α→Prop):∃R:α→Prop,∀r,R r↔p r:=⟨p,fun _=>Iff.rfl⟩
end Go.Ev
namespace Go.Ev
open Go.Proofs
end Go.Ev
namespace Go.Ev
open Go.Proofs
section
variable {call:CallF}{base na:Nat}{ops:List DO}{s:DS}{Q:DS→Prop}
theorem RunD.stepN (k:Nat) (v:AV) (hok:isSomeD (stDk call base na ops s k)=true) (hk:Nat.blt k ops.length=true) (hw:wanted (opD ops k).o.g (dsOf (stDk call base na ops s k)).fr=some true)
 (hc:(opD ops k).o.op.cls=.N)
 (hv:evOp call (opD ops k).o.op (dsOf (stDk call base na ops s k)).fr (dsOf (stDk call base na ops s k)).cur.h (Nat.add base (opD ops k).o.k)=.ok v (dsOf (stDk call base na ops s k)).cur.h)
 (hr:RunD call base na (ops.drop (k+1)) (Ev.stepV (opD ops k) (dsOf (stDk call base na ops s k)) v) Q):RunD call base na ops s Q:=by
 refine RunD.upto k hok ?_
 obtain⟨s',h1,h2⟩:=hr
 refine⟨s',?_,h2⟩
 rw[opD_drop hk]
 show(Option.rec none (evD call base na (ops.drop (k+1))) (stepD call base na (opD ops k) (dsOf (stDk call base na ops s k))):Option DS)=some s'
 have:stepD call base na (opD ops k) (dsOf (stDk call base na ops s k))=some (Ev.stepV (opD ops k) (dsOf (stDk call base na ops s k)) v):=by
  unfold stepD
  rw[hw,hc,hv];rfl
 rw[this];exact h1
end
end Go.Ev
end
noncomputable section
namespace Go.Ev
open Go.Proofs
def digF:Nat→Nat→List Nat
 |0,_=>[]
 |N+1,n=>if n=0 then[] else digF N (n / 10)++[48+n % 10]
def NZ (s:List Nat):Prop:=∃i,i<s.length∧gc s i≠48
theorem NZ.pos {s:List Nat} (h:NZ s):0<U (α:=Nat) s:=by obtain⟨i,hi,_⟩:=h;omega
theorem gc_take {s:List Nat}{k i:Nat} (h:i<k):gc (s.take k) i=gc s i:=by
 unfold gc;rw[Lw,Lw,List.getElem?_take,if_pos h]
theorem gc_drop {s:List Nat}{k i:Nat}:gc (s.drop k) i=gc s (k+i):=by
 unfold gc;rw[Lw,Lw,List.getElem?_drop]
theorem NZ.cut {s:List Nat} (h:NZ s) (h48:gc s (s.length - 1)=48):NZ (List.take (s.length - 1 - 0) (List.drop 0 s)):=by
 obtain⟨i,hi,hne⟩:=h
 have hi2:i<s.length - 1:=by
  rcases Nat.lt_or_ge i (s.length - 1) with h|h
  ·exact h
  ·exfalso;apply hne;rw[show i=s.length - 1 by omega];exact h48
 refine⟨i,by simp;omega,?_⟩
 rw[gc_take om,gc_drop,Nat.zero_add];exact hne
end Go.Ev
namespace Go.Ev
open Go.Proofs
end Go.Ev
namespace Go.Ev
end Go.Ev
namespace Go.Ev
end Go.Ev
end
noncomputable section
namespace Go.Ev
open Go.Proofs
section
variable {P:Program}{G:Gs}{nt:Nat}{fr:T AV}{h:H}{Q:Ex→T AV→H→Prop}
end
end Go.Ev
namespace Go.Ev
open Go.Proofs
theorem flatT_app (y:Ty) (xs zs:List (den y)):flatT y (xs++zs)=flatT y xs++flatT y zs:=by simp[flatT]
theorem ev_apnL {el by_:Nat}{p:Id}{y:Ty}{xs zs:List (den y)}{h:H} (hz:0<zs.length) (hby:(xs.length+zs.length)*by_≤1099511627776) (hg:h.get p=some (.cs el (flatT y xs) false)):
 appendA el (wd y) by_ (.sl p 0 (wd y) xs.length xs.length false) (flatT y zs) zs.length h=.ok (.sl (path h.next) 0 (wd y) (xs++zs).length (xs++zs).length false) (fresh (.cs el (flatT y (xs++zs)) false) (h.put p .dead)):=by
 show cd (Nat.beq (wd y) (wd y)) (cd (Nat.ble (Nat.add xs.length zs.length) xs.length) _ (match h.get p with
         |some (.cs el' l fz)=>match cut l 0 (Nat.mul xs.length (wd y)) with
          |some old=>cd false (growA el (wd y) by_ (Nat.add xs.length zs.length) (cat old (flatT y zs)) h)
           (cd (Nat.beq el el') (cd (Nat.beq 0 0) (cd fz .no (growA el (wd y) by_ (Nat.add xs.length zs.length) (cat old (flatT y zs)) (h.put p .dead))) .no) .no)
          |none=>.no
         |_=>.no)) .no=_
 have hc:cut (flatT y xs) 0 (Nat.mul xs.length (wd y))=some (flatT y xs):=by
  show cut (flatT y xs) 0 (xs.length*wd y)=_
  rw[←flatT_len];exact cut_all _
 rw[Nat.beq_refl,show Nat.ble (Nat.add xs.length zs.length) xs.length=false by rw[ble_nat];exact Df (by show¬(xs.length+zs.length≤xs.length);omega),hg]
 show(match cut (flatT y xs) 0 (Nat.mul xs.length (wd y)) with
  |some old=>cd false (growA el (wd y) by_ (Nat.add xs.length zs.length) (cat old (flatT y zs)) h)
   (cd (Nat.beq el el) (cd (Nat.beq 0 0) (cd false .no (growA el (wd y) by_ (Nat.add xs.length zs.length) (cat old (flatT y zs)) (h.put p .dead))) .no) .no)
  |none=>.no)=_
 rw[hc,Nat.beq_refl]
 show growA el (wd y) by_ (xs.length+zs.length) (cat (flatT y xs) (flatT y zs)) (h.put p .dead)=_
 rw[cat_eq,←flatT_app,←La,ev_grow (by rw[La];exact hby)];rfl
theorem ev_appL {el by_:Nat}{iv:AV} (hiv:isIv iv){p:Id}{y:Ty}{xs zs:List (den y)}{h:H} (hz:0<zs.length) (hby:(xs.length+zs.length)*by_≤1099511627776) (hg:h.get p=some (apb el y xs)):
 appendA el (wd y) by_ (apv iv p y xs) (flatT y zs) zs.length h=.ok (.sl (path h.next) 0 (wd y) (xs++zs).length (xs++zs).length false) (fresh (.cs el (flatT y (xs++zs)) false) (h.put p .dead)):=by
 cases xs with
 |cons x t=>exact ev_apnL (xs:=x::t) hz hby hg
 |nil=>
  have h1:appendA el (wd y) by_ iv (flatT y zs) zs.length h=growA el (wd y) by_ zs.length (flatT y zs) h:=by
   have hb:Nat.beq zs.length 0=false:=by rw[beq_nat];exact Df om
   rcases hiv with rfl|rfl
   ·show cd (Nat.beq zs.length 0) _ _=_;rw[hb];rfl
   ·show cd (Nat.beq zs.length 0) _ _=_;rw[hb];rfl
  show appendA el (wd y) by_ iv (flatT y zs) zs.length h=_
  have hput:h.put p .dead=h:=by
   show(⟨h.next,T.set p .dead h.t⟩:H)=h
   rw[T.set_self p h.t .dead hg]
  rw[h1,ev_grow (by simpa using hby),hput]
  simp
section
variable {call:CallF}{base:Nat}{ops:List AO}{fr:T AV}{h:H}{Q:T AV→H→Prop}
theorem zapnL (k q el by_:Nat) (p:Nat) (y:Ty) (xs zs:List (den y)) (hz:0<zs.length) (hby:(xs.length+zs.length)*by_≤1099511627776)
 (hr:RunOps call base (ops.drop (k+1)) (setD (opA ops k).dst (.sl (path q) 0 (wd y) (xs++zs).length (xs++zs).length false) (stF call base ops fr h k)) ⟨q+1,T.set (path q) (.cs el (flatT y (xs++zs)) false) (T.set (path p) .dead (stH call base ops fr h k).t)⟩ Q)
 (hok:stOk call base ops fr h k=true:=by kernel_rfl) (hk:Nat.blt k ops.length=true:=by kernel_rfl)
 (hw:wanted (opA ops k).g (stF call base ops fr h k)=some true:=by kernel_rfl) (hq:(stH call base ops fr h k).next=q:=by kernel_rfl)
 (hv:viewApp (opA ops k).op (stF call base ops fr h k) (stH call base ops fr h k)=some (el,wd y,by_,.sl (path p) 0 (wd y) xs.length xs.length false,some (flatT y zs,zs.length)):=by kernel_rfl)
 (hg:(stH call base ops fr h k).get (path p)=some (.cs el (flatT y xs) false):=by kernel_rfl):RunOps call base ops fr h Q:=by
 refine RunOps.stepH k _ _ hok hk hw ((ev_app hv _).trans (ev_apnL hz hby hg)) ?_
 subst hq;exact hr
theorem flatT_u8 (xs:List Int):flatT (.int .u8) xs=xs.map (fun n=>AV.i .u8 n):=flat_u8 xs
end
end Go.Ev
namespace Go.Ev
end Go.Ev
end
noncomputable section
namespace Go.Proofs
def Tryz.lays173_ren:Go.Shelf.Ren:=⟨fun|173=>49|246=>93|283=>148|284=>149|285=>150|286=>151|129=>230|317=>229|318=>231|319=>232|320=>233|337=>346|338=>347|n=>n,fun|2=>2|3=>3|9=>9|4=>4|171=>223|0=>0|53=>97|37=>22|5=>5|173=>226|212=>326|51=>327|20=>20|213=>328|46=>150|232=>550|233=>551|n=>n,fun|17=>1|18=>4|19=>5|n=>n⟩
theorem Tryz.lays173:Go.Proofs.LaysM.n173 Tryz.prog Tryz.lays173_ren where
 mixed:=kr
 f129:=Tryz.func230.trans (congrArg some kr)
 f173:=Tryz.func49.trans (congrArg some kr)
 f246:=Tryz.func93.trans (congrArg some kr)
 f283:=Tryz.func148.trans (congrArg some kr)
 f284:=Tryz.func149.trans (congrArg some kr)
 f285:=Tryz.func150.trans (congrArg some kr)
 f286:=Tryz.func151.trans (congrArg some kr)
 f317:=Tryz.func229.trans (congrArg some kr)
 f318:=Tryz.func231.trans (congrArg some kr)
 f319:=Tryz.func232.trans (congrArg some kr)
 f320:=Tryz.func233.trans (congrArg some kr)
 f337:=Tryz.func346.trans (congrArg some kr)
 f338:=Tryz.func347.trans (congrArg some kr)
 t0:=Tryz.underlying0
 a0:=Tryz.isAgg0
 z0:=Tryz.sizeOf0
 v0:=Tryz.zeroValue0
 t2:=Tryz.underlying2
 a2:=Tryz.isAgg2
 z2:=Tryz.sizeOf2
 v2:=Tryz.zeroValue2
 t3:=Tryz.underlying3
 a3:=Tryz.isAgg3
 z3:=Tryz.sizeOf3
 v3:=Tryz.zeroValue3
 t4:=Tryz.underlying4
 a4:=Tryz.isAgg4
 z4:=Tryz.sizeOf4
 v4:=Tryz.zeroValue4
 t5:=Tryz.underlying5
 a5:=Tryz.isAgg5
 z5:=Tryz.sizeOf5
 v5:=Tryz.zeroValue5
 t9:=Tryz.underlying9
 a9:=Tryz.isAgg9
 z9:=Tryz.sizeOf9
 v9:=Tryz.zeroValue9
 t20:=Tryz.underlying20
 a20:=Tryz.isAgg20
 z20:=Tryz.sizeOf20
 v20:=Tryz.zeroValue20
 t37:=Tryz.underlying22
 a37:=Tryz.isAgg22
 z37:=Tryz.sizeOf22
 v37:=Tryz.zeroValue22
 t46:=Tryz.underlying150
 a46:=Tryz.isAgg150
 z46:=Tryz.sizeOf150
 v46:=Tryz.zeroValue150
 t51:=Tryz.underlying327
 a51:=Tryz.isAgg327
 z51:=Tryz.sizeOf327
 v51:=Tryz.zeroValue327
 t53:=Tryz.underlying97
 a53:=Tryz.isAgg97
 z53:=Tryz.sizeOf97
 v53:=Tryz.zeroValue97
 t171:=Tryz.underlying223
 a171:=Tryz.isAgg223
 z171:=Tryz.sizeOf223
 v171:=Tryz.zeroValue223
 t173:=Tryz.underlying226
 a173:=Tryz.isAgg226
 z173:=Tryz.sizeOf226
 v173:=Tryz.zeroValue226
 t212:=Tryz.underlying326
 a212:=Tryz.isAgg326
 z212:=Tryz.sizeOf326
 v212:=Tryz.zeroValue326
 t213:=Tryz.underlying328
 a213:=Tryz.isAgg328
 z213:=Tryz.sizeOf328
 t232:=Tryz.underlying550
 a232:=Tryz.isAgg550
 z232:=Tryz.sizeOf550
 v232:=Tryz.zeroValue550
 t233:=Tryz.underlying551
 a233:=Tryz.isAgg551
 z233:=Tryz.sizeOf551
 v233:=Tryz.zeroValue551
 g17:=kr
 g18:=kr
 g19:=kr
 i0:=kr
 i2:=kr
 i3:=kr
 i4:=kr
 i5:=kr
 i9:=kr
 i20:=kr
 i37:=kr
 i46:=kr
 i51:=kr
 i53:=kr
 i171:=kr
 i173:=kr
 i212:=kr
 i232:=kr
 i233:=kr
 m17:=kr
 m18:=kr
 m19:=kr
end Go.Proofs
namespace Go.Ev
open Go.Proofs Go.Shelf Go.Sort
theorem kok_grow {P:Program}{G:Gs}{f:Nat}{ps rs:List Par}{x:denL ps}{y:denL rs} (he:∀args w,(callFunc f args).run P w=.ok (.enter f args) w)
 (hc:∀e vs,GRel G e→RelL e (encL ps x) vs→∃cv,Calls P f vs.toArray e.w (fun o w'=>o=.returned cv∧∃k os,w'=grow (e.w.drewN k) os)∧∀e',Rel e' (encR rs y) cv):KOk P G f ps rs x y:=fun e vs hf hs hg hr=>by
 obtain⟨cv,h1,h2⟩:=hc e vs hg hr
 refine .inr ⟨he _ _,h1.mono ?_⟩
 rintro o w' ⟨rfl,k,os,rfl⟩
 let e':Env:=⟨e.ρ,e.h,grow (e.w.drewN k) os,e.F⟩
 have hkeep:∀b,b<e.w.heap.size→e'.w.heap[b]? =e.w.heap[b]? :=fun b hb=>by
  show(e.w.heap++os)[b]? =_
  rw[Array.getElem?_append_left hb]
 have hx:Ext e e':={
  next:=Nr _
  kn:=fun _ h=>h
  ren:=fun _ _=>rfl
  fr:=rfl
  qt:=⟨rfl,rfl,rfl⟩
  heap:=by show e.w.heap.size≤(e.w.heap++os).size;simp
  keep:=fun b hb _=>hkeep b hb
  size:=fun b hb=>by simp only[bsize,hkeep b hb]
  own:=fun _ _ h=>h
  pres:=fun _ b h=>⟨b,h⟩
  newk:=fun _ h=>.inl h}
 have hs':St e':={
  kn:=hs.kn
  dk:=hs.dk
  lo:=hs.lo
  blk:=fun id b hb=>by
   by_cases hd:b=.dead
   ·subst hd;trivial
   ·exact BlkRel.ext hx (hs.dk id b hb) (hkeep _ (hs.lt ⟨b,hb,hd⟩)) b (hs.blk id b hb)
  inj:=hs.inj
  fr:=fun b hb=>⟨Nl (hs.fr b hb).1 hx.heap,(hs.fr b hb).2⟩}
 exact⟨cv,rfl,e',rfl,hs',hx,h2 e'⟩
abbrev nmOf {n:String}{v:Option Nat} (_:Tryz.prog.globalNamed n=v):String:=n
theorem tab_of {B:Nat}{e:Env} (hg:GRel (GG B) e):Lib.TabIs Tryz.prog e.w (nmOf Tryz.lays173.m17) .u64 Lib.pow10Tab:=by
 obtain⟨h1,h2⟩:=hg.2.1 1 ⟨powT,powX⟩ rfl
 simp only[Rel] at h1
 obtain⟨b,o,us,hv,hi,hcs,hT⟩:=h1
 injection hv with hv;injection hv with hv;injection hv with g1 g2
 subst g1
 obtain rfl:o=0:=om
 have hr:=relT_relL powT powX us hT
 have hsz:bsize e.w 1=20:=h2
 unfold bsize at hsz
 split at hsz
 ·rename_i c el fr hb
  have hn:Tryz.prog.globalNamed (nmOf Tryz.lays173.m17)=some 1:=Tryz.lays173.m17
  unfold Lib.TabIs World.var?
  rw[hn]
  show(match e.w.heap[1]? with|some (.cells cs _ _)=>some cs|_=>none)=_
  rw[hb]
  show some c=_
  congr 1
  have hus:us=(Lib.pow10Tab.map fun z=>Value.int .u64 z):=by
   have hr2:RelL e ((powL++[10000000000000000000]).map fun n:Nat=>AV.i .u64 (.ofNat n)) us:=hr
   have hall:∀(l:List Nat) (us:List Value),RelL e (l.map fun n:Nat=>AV.i .u64 (.ofNat n)) us→us=l.map fun n:Nat=>Value.int .u64 (.ofNat n):=by
    intro l
    induction l with
    |nil=>intro us h;exact relL0 h
    |cons n l ih=>
     intro us h
     cases us with
     |nil=>simp[RelL] at h
     |cons u us=>
      simp only[List.map_cons,RelL] at h
      obtain⟨ha,hb⟩:=h
      have ha:u=.int .u64 (.ofNat n):=by simpa only[Rel] using ha
      rw[ha,ih us hb];rfl
   rw[hall _ us hr2]
   rfl
  apply Array.ext
  ·rw[hsz];rfl
  ·intro i hi1 hi2
   have hlt:i<us.length:=by rw[hus];simpa using hi2
   have hu:=hcs i us[i] (Lq hlt)
   simp only[World.cell?,hb] at hu
   have hu:c[0+i]? =some us[i]:=by simpa using hu
   rw[Nat.zero_add,Aq hi1] at hu
   have:=Oi hu
   rw[this]
   simp[hus]
 ·omega
def digs (n:Nat):List Nat:=if n=0 then[48] else digF (n+1) n
theorem digF_fuel:∀(N M n:Nat),n<N→n<M→digF N n=digF M n
 |0,_,n,h,_=>absurd h (Nn _)
 |_+1,0,n,_,h=>absurd h (Nn _)
 |N+1,M+1,n,h1,h2=>by
  by_cases h0:n=0
  ·simp[digF,h0]
  ·simp only[digF,if_neg h0]
   rw[digF_fuel N M (n / 10) om om]
theorem digs_eq (n:Nat):U8 (digs n)=Lib.decDigits n:=by
 induction n using Nat.strongRecOn with
 |_ n ih=>
  rw[Lib.decDigits]
  by_cases h:n<10
  ·rw[dif_pos h]
   unfold digs
   by_cases h0:n=0
   ·subst h0;rfl
   ·have:digF n 0=[]:=by cases n<;>simp[digF]
    rw[if_neg h0]
    simp only[digF,if_neg h0,show n / 10=0 by omega,this,show n % 10=n by omega];rfl
  ·rw[dif_neg h,←ih (n / 10) om]
   unfold digs
   rw[if_neg om,if_neg om]
   simp only[digF,if_neg (show n≠0 by omega)]
   rw[show digF n (n / 10)=(if n / 10=0 then[] else digF (n / 10) (n / 10 / 10)++[48+n / 10 % 10]) from digF_fuel n (n / 10+1) (n / 10) om om]
   simp[U8]
theorem digF_lt:∀(N n:Nat),∀c∈digF N n,c<256
 |0,n,c,h=>by simp[digF] at h
 |N+1,n,c,h=>by
  simp only[digF] at h
  split at h
  ·cases h
  ·rcases List.mem_append.1 h with h|h
   ·exact digF_lt N _ c h
   ·rw[List.mem_singleton.1 h];omega
theorem digs_lt (n:Nat):∀c∈digs n,c<256:=by
 unfold digs
 split
 ·intro c h;rw[List.mem_singleton.1 h];omega
 ·exact digF_lt _ _
theorem digF_le:∀(k N n:Nat),n<10 ^ k→(digF N n).length≤k
 |_,0,n,_=>Nz _
 |0,N+1,n,h=>by
  have:n=0:=by simp at h;omega
  simp[digF,this]
 |k+1,N+1,n,h=>by
  simp only[digF]
  split
  ·exact Nz _
  ·have:=digF_le k N (n / 10) (by rw[Nat.div_lt_iff_lt_mul om,←Nat.pow_succ];exact h)
   simp only[La,Lc,Ln];omega
def itoaN (a:Int):List Nat:=if a<0 then 45::digs a.natAbs else digs a.toNat
theorem itoaN_eq (a:Int):U8 (itoaN a)=Lib.itoa a:=by
 unfold itoaN Lib.itoa
 split
 ·simp only[U8,List.map_cons]
  rw[←digs_eq];rfl
 ·exact digs_eq _
theorem itoaN_lt (a:Int):∀c∈itoaN a,c<256:=by
 unfold itoaN
 split
 ·intro c h
  rcases List.mem_cons.1 h with rfl|h
  ·omega
  ·exact digs_lt _ c h
 ·exact digs_lt _
theorem digs_le {n:Nat} (h:n<10 ^ 20):(digs n).length≤20:=by
 unfold digs
 split
 ·simp
 ·exact digF_le 20 _ _ h
theorem itoaN_le {a:Int} (h:a.natAbs<10 ^ 20):(itoaN a).length≤21:=by
 unfold itoaN
 split
 ·have:=digs_le h;simp only[Lc];omega
 ·have:=digs_le (n:=a.toNat) (Nat.lt_of_le_of_lt om h);omega
def c49 (a0 a1:Int):denL [⟨false,.str⟩]:=(itoaN a0,())
open Classical in
def k49:Con:=⟨49,[⟨false,.int .i64⟩,⟨false,.int .i64⟩],[⟨false,.str⟩],fun x=>if @Eq Int x.2.1 10∧@LE.le Int _ (-9223372036854775808) x.1∧@LE.le Int _ x.1 9223372036854775807 then some (c49 x.1 x.2.1) else none⟩
theorem p49 {a0 a1:Int} (h:@Eq Int a1 10∧@LE.le Int _ (-9223372036854775808) a0∧@LE.le Int _ a0 9223372036854775807):k49.F (a0,a1,())=some (c49 a0 a1):=if_pos h
theorem c49_p (a0 a1:Int) (h0:@LE.le Int _ (-9223372036854775808) a0) (h1:@LE.le Int _ a0 9223372036854775807):U (α:=Nat) (c49 a0 a1).1≤21:=
 itoaN_le (Nat.lt_of_le_of_lt (show a0.natAbs≤9223372036854775808 by omega) (by decide))
theorem o49 {Bn:Nat} [BOk Bn]:ConOk PP (GG Bn) k49:=⟨kr,fun x y h=>by
 obtain⟨a0,a1,u⟩:=x
 by_cases hp:@Eq Int a1 10∧@LE.le Int _ (-9223372036854775808) a0∧@LE.le Int _ a0 9223372036854775807
 ·rw[p49 hp] at h
  cases h
  obtain⟨rfl,h0,h1⟩:=hp
  refine kok_grow (enters_of Tryz.func49 kr rfl) fun e vs hg hr=>?_
  obtain⟨v1,v2,rfl,r1,r2⟩:=rel_two hr
  have r1:Rel e (.i .i64 a0) v1:=r1
  have r2:Rel e (.i .i64 10) v2:=r2
  obtain rfl:=rel_i r1
  obtain rfl:=rel_i r2
  refine⟨.string ⟨(Lib.itoa a0).toArray⟩,Any.strconv_FormatInt_10 Tryz.lays173 a0 h0 h1 e.w (tab_of hg),fun e'=>?_⟩
  show Rel e' (.s (U (α:=Nat) (itoaN a0)) (itoaN a0)) _
  simp only[Rel]
  refine⟨⟨trivial,?_⟩,itoaN_lt a0,?_⟩
  ·have:=c49_p a0 10 h0 h1
   have:U (α:=Nat) (itoaN a0)≤21:=this
   omega
  ·rw[←itoaN_eq];rfl
 ·exact absurd ((if_neg hp).symm.trans h) (by simp)⟩
end Go.Ev
namespace Go.Ev
open Go.Proofs
theorem digs_pos (n:Nat):0<(digs n).length:=by
 unfold digs
 split
 ·simp
 ·rename_i h
  simp only[digF,if_neg h,La,Lc,Ln];omega
theorem c49_q (a0 a1:Int) (h0:@LE.le Int _ (-9223372036854775808) a0) (h1:@LE.le Int _ a0 9223372036854775807):U (α:=Nat) (c49 a0 a1).1≤21∧0<U (α:=Nat) (c49 a0 a1).1:=by
 refine⟨c49_p a0 a1 h0 h1,?_⟩
 show 0<(itoaN a0).length
 unfold itoaN
 split
 ·simp
 ·exact digs_pos _
end Go.Ev
end
noncomputable section
namespace Go.Proofs
def Tryz.lays144_ren:Go.Shelf.Ren:=⟨fun|144=>23|143=>51|219=>94|217=>152|225=>153|224=>154|267=>155|266=>234|314=>235|n=>n,fun|9=>9|4=>4|3=>3|5=>5|46=>150|146=>331|51=>327|n=>n,fun|1=>0|n=>n⟩
theorem Tryz.lays144:Go.Proofs.Lays.n144 Tryz.prog Tryz.lays144_ren where
 mixed:=kr
 f143:=Tryz.func51.trans (congrArg some kr)
 f144:=Tryz.func23.trans (congrArg some kr)
 f217:=Tryz.func152.trans (congrArg some kr)
 f219:=Tryz.func94.trans (congrArg some kr)
 f224:=Tryz.func154.trans (congrArg some kr)
 f225:=Tryz.func153.trans (congrArg some kr)
 f266:=Tryz.func234.trans (congrArg some kr)
 f267:=Tryz.func155.trans (congrArg some kr)
 f314:=Tryz.func235.trans (congrArg some kr)
 t3:=Tryz.underlying3
 a3:=Tryz.isAgg3
 z3:=Tryz.sizeOf3
 v3:=Tryz.zeroValue3
 t4:=Tryz.underlying4
 a4:=Tryz.isAgg4
 z4:=Tryz.sizeOf4
 v4:=Tryz.zeroValue4
 t5:=Tryz.underlying5
 a5:=Tryz.isAgg5
 z5:=Tryz.sizeOf5
 v5:=Tryz.zeroValue5
 t9:=Tryz.underlying9
 a9:=Tryz.isAgg9
 z9:=Tryz.sizeOf9
 v9:=Tryz.zeroValue9
 t46:=Tryz.underlying150
 a46:=Tryz.isAgg150
 z46:=Tryz.sizeOf150
 v46:=Tryz.zeroValue150
 t51:=Tryz.underlying327
 a51:=Tryz.isAgg327
 z51:=Tryz.sizeOf327
 v51:=Tryz.zeroValue327
 t146:=Tryz.underlying331
 a146:=Tryz.isAgg331
 z146:=Tryz.sizeOf331
 v146:=Tryz.zeroValue331
 g1:=kr
end Go.Proofs
namespace Go.Ev
open Go.Proofs Go.Shelf Go.Sort
theorem maxlen_of {B:Nat}{e:Env} (hg:GRel (GG B) e):∃m:Int,e.w.cell? ⟨0,0,none⟩=some (.int .i64 m):=by
 obtain⟨m,h1⟩:=hg.2.2.1 0 rfl
 refine⟨m,?_⟩
 simp only[Rel] at h1
 obtain⟨b,o,us,hv,hi,hcs,hT⟩:=h1
 injection hv with hv;injection hv with hv;injection hv with g1 g2
 subst g1
 obtain rfl:o=0:=om
 have hT:us=[.int .i64 m]:=hT
 subst hT
 have:=hcs 0 (.int .i64 m) rfl
 exact this
def c23 (a0 a1:List Nat):denL [⟨false,.bool⟩]:=(Lib.contains (U8 a0) (U8 a1),())
open Classical in
def k23:Con:=⟨23,[⟨false,.str⟩,⟨false,.str⟩],[⟨false,.bool⟩],fun x=>if U (α:=Nat) x.1≤4294967280 then some (c23 x.1 x.2.1) else none⟩
theorem p23 {a0 a1:List Nat} (h:U (α:=Nat) a0≤4294967280):k23.F (a0,a1,())=some (c23 a0 a1):=if_pos h
theorem o23 {Bn:Nat} [BOk Bn]:ConOk PP (GG Bn) k23:=⟨kr,fun x y h=>by
 obtain⟨a0,a1,u⟩:=x
 by_cases hp:U (α:=Nat) a0≤4294967280
 ·rw[p23 hp] at h
  cases h
  refine kok_grow (enters_of Tryz.func23 kr rfl) fun e vs hg hr=>?_
  obtain⟨v1,v2,rfl,r1,r2⟩:=rel_two hr
  have r1:Rel e (.s (U (α:=Nat) a0) a0) v1:=r1
  have r2:Rel e (.s (U (α:=Nat) a1) a1) v2:=r2
  obtain⟨_,g1,rfl⟩:=rel_s r1
  obtain⟨_,g2,rfl⟩:=rel_s r2
  obtain⟨m,hm⟩:=maxlen_of hg
  refine⟨.bool (Lib.contains (U8 a0) (U8 a1)),(Any.strings_Contains Tryz.lays144 (strOf a0) (strOf a1) m e.w (by rw[strOf_size];omega) hm).mono ?_,fun e'=>?_⟩
  ·rintro o w' ⟨rfl,rfl⟩
   refine⟨by rw[strOf_list,strOf_list],0,#[],?_⟩
   simp[grow,World.drewN]
  ·show Rel e' (.b (Lib.contains (U8 a0) (U8 a1))) _
   simp only[Rel]
 ·exact absurd ((if_neg hp).symm.trans h) (by simp)⟩
end Go.Ev
end
