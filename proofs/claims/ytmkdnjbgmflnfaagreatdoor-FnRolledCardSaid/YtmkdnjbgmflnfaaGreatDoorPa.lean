/- A part of the proof that FnRolled returns true; no condition. -/
import Derived.KernelRfl
import GoSem.Step
import Derived.Laws.World
import Derived.Laws.Rows
import Derived.Calls
import Derived.Laws.Entries
import Derived.Laws.Cells
set_option linter.all false
set_option maxRecDepth 100000
open List renaming length→U
open Int renaming ofNat→J,toNat→Jn
abbrev La:=@List.length_append
abbrev Lcz:=@List.length_cons
abbrev Ln:=@List.length_nil
abbrev Tk:=@List.length_take
abbrev Ld:=@List.length_drop
abbrev Lm:=@List.length_map
abbrev Ioz:=@Int.ofNat_eq_natCast
abbrev Oj:=@Option.some.injEq
abbrev Oi:=@Option.some.inj
abbrev Loz:=@List.mem_cons_of_mem
abbrev Mc:=@List.mem_cons_self
abbrev Nr:=@Nat.le_refl
abbrev Nb:=@Nat.le_of_ble_eq_true
abbrev Nq:=@Nat.eq_of_beq_eq_true
abbrev Nc:=@Nat.ble_eq_true_of_le
abbrev Ag:=@Array.getD_eq_getD_getElem?
abbrev Lq:=@List.getElem?_eq_getElem
abbrev Lwz:=@List.getD_eq_getElem?_getD
abbrev Aq:=@Array.getElem?_eq_getElem
abbrev Ly:=@List.take_append_drop
abbrev Lz:=@List.getElem?_eq_none
abbrev Dt:=@decide_eq_true
abbrev Df:=@decide_eq_false
abbrev Nz:=@Nat.zero_le
abbrev Nt:=@Nat.le_trans
abbrev Nn:=@Nat.not_lt_zero
abbrev Nl:=@Nat.lt_of_lt_of_le
abbrev Lj:=@List.mem_append_left
abbrev Lk:=@List.mem_append_right
abbrev J0:Int:=.ofNat 0
abbrev J1:Int:=.ofNat 1
abbrev J2:Int:=.ofNat 2
abbrev J3:Int:=.ofNat 3
abbrev J4:Int:=.ofNat 4
abbrev J5:Int:=.ofNat 5
abbrev J6:Int:=.ofNat 6
abbrev J7:Int:=.ofNat 7
abbrev J8:Int:=.ofNat 8
abbrev J9:Int:=.ofNat 9
abbrev J10:Int:=.ofNat 10
abbrev J11:Int:=.ofNat 11
abbrev J12:Int:=.ofNat 12
abbrev J13:Int:=.ofNat 13
abbrev J14:Int:=.ofNat 14
abbrev J15:Int:=.ofNat 15
abbrev J16:Int:=.ofNat 16
abbrev J17:Int:=.ofNat 17
abbrev J18:Int:=.ofNat 18
abbrev J19:Int:=.ofNat 19
abbrev J20:Int:=.ofNat 20
abbrev J21:Int:=.ofNat 21
abbrev J22:Int:=.ofNat 22
abbrev J23:Int:=.ofNat 23
abbrev J24:Int:=.ofNat 24
abbrev J25:Int:=.ofNat 25
abbrev J26:Int:=.ofNat 26
abbrev J27:Int:=.ofNat 27
abbrev J28:Int:=.ofNat 28
abbrev J29:Int:=.ofNat 29
abbrev J30:Int:=.ofNat 30
abbrev J31:Int:=.ofNat 31
abbrev J32:Int:=.ofNat 32
abbrev J33:Int:=.ofNat 33
abbrev J34:Int:=.ofNat 34
abbrev J35:Int:=.ofNat 35
abbrev J36:Int:=.ofNat 36
abbrev J37:Int:=.ofNat 37
abbrev J38:Int:=.ofNat 38
abbrev J39:Int:=.ofNat 39
abbrev J40:Int:=.ofNat 40
abbrev J41:Int:=.ofNat 41
abbrev J42:Int:=.ofNat 42
abbrev J43:Int:=.ofNat 43
abbrev J44:Int:=.ofNat 44
abbrev J45:Int:=.ofNat 45
abbrev J46:Int:=.ofNat 46
abbrev J47:Int:=.ofNat 47
abbrev J48:Int:=.ofNat 48
abbrev J49:Int:=.ofNat 49
abbrev J50:Int:=.ofNat 50
abbrev J51:Int:=.ofNat 51
abbrev J52:Int:=.ofNat 52
abbrev J54:Int:=.ofNat 54
abbrev J55:Int:=.ofNat 55
abbrev J56:Int:=.ofNat 56
theorem om {p:Prop} (h:p:=by omega):p:=h
theorem kr {α:Sort _}{a b:α} (h:a=b:=by kernel_rfl):a=b:=h
theorem fo1 {p:Prop} (h:p:=by first|omega|(simp only[Tk,Ld];omega)):p:=h
theorem fo2 {p:Prop} (h:p:=by first|assumption|omega|decide|(simp only[Ioz];omega)|(simp only[Ioz,Tk,Ld,La,Lm];omega)):p:=h
theorem fo3 {p:Prop} (h:p:=by first|omega|decide|(dsimp only;omega)|(simp only[Ioz,Tk,Ld,La,Lm];omega)):p:=h
theorem fo4 {p:Prop} (h:p:=by first|omega|(simp only[La,Lcz,Ln];omega)):p:=h
noncomputable section
namespace Go.Ev
inductive T (α:Type) where
 |e
 |n (l:T α) (x:Option α) (r:T α)
def T.get {α:Type} (p:List Bool):T α→Option α:=
 List.rec (motive:=fun _=>T α→Option α)
  (T.rec none (fun _ x _ _ _=>x))
  (fun b _ ih=>T.rec none (fun l _ r _ _=>ih (Bool.rec r l b))) p
def T.set {α:Type} (p:List Bool) (v:α):T α→T α:=
 List.rec (motive:=fun _=>T α→T α)
  (T.rec (.n .e (some v) .e) (fun l _ r _ _=>.n l (some v) r))
  (fun b _ ih=>T.rec (Bool.rec (.n .e none (ih .e)) (.n (ih .e) none .e) b) (fun l x r _ _=>Bool.rec (.n l x (ih r)) (.n (ih l) x r) b)) p
def path (k:Nat):List Bool:=
 Nat.rec (motive:=fun _=>Nat→List Bool) (fun _=>[])
  (fun _ ih k=>Bool.rec (Nat.beq (Nat.mod k 2) 1::ih (Nat.div (Nat.sub k 1) 2)) [] (Nat.beq k 0)) (Nat.succ k) k
abbrev Id:=List Bool
def cd {α:Type} (b:Bool) (x y:α):α:=Bool.rec y x b
inductive Ty where
 |int (k:IntKind)
 |bool
 |str
 |unit
 |pair (a b:Ty)
 |sl (t:Ty)
 |ptr (t:Ty)
 |clo (f:Nat) (t:Ty)
deriving DecidableEq
abbrev den (t:Ty):Type:=Ty.rec (motive:=fun _=>Type) (fun _=>Int) Bool (List Nat) Unit (fun _ _ a b=>a×b) (fun _ a=>List a) (fun _ a=>a) (fun _ _ a=>a) t
inductive AV where
 |i (k:IntKind) (n:Int)
 |b (x:Bool)
 |s (n:Nat) (l:List Nat)
 |v (x:Value)
 |p (id:Id) (off:Nat)
 |sl (id:Id) (off sz len lo:Nat) (ex:Bool)
 |em
 |isl (t:Ty) (xs:List (den t))
 |ip (t:Ty) (x:den t) (off:Nat)
 |f (fn:Fn) (first captured:List AV)
 |ifc (t:TypeId) (x:AV)
 |ag (cs:List AV)
 |tu (vs:List AV)
 |m (id:Id)
 |j
deriving Inhabited
def wd (t:Ty):Nat:=Ty.rec (motive:=fun _=>Nat) (fun _=>1) 1 1 0 (fun _ _ a b=>Nat.add a b) (fun _ _=>1) (fun _ _=>1) (fun _ _ _=>1) t
def catA (a b:List AV):List AV:=List.rec b (fun x _ r=>x::r) a
def tc (t:Ty):den t→List AV:=
 Ty.rec (motive:=fun t=>den t→List AV) (fun k n=>[.i k n]) (fun b=>[.b b]) (fun s=>[.s s.length s]) (fun _=>[])
   (fun _ _ ca cb x=>catA (ca x.1) (cb x.2)) (fun t _ xs=>[.isl t xs]) (fun t _ x=>[.ip t x 0]) (fun f _ c x=>[.f (.func f) [] (c x)]) t
def undefA:AV:=.tu []
def AV.cells (x:AV):Option (List AV):=
 @AV.casesOn (fun _=>Option (List AV)) x (fun k n=>some [.i k n]) (fun b=>some [.b b]) (fun n l=>some [.s n l]) (fun v=>some [.v v]) (fun a o=>some [.p a o]) (fun a b c d e f=>some [.sl a b c d e f]) (some [.em]) (fun a b=>some [.isl a b]) (fun a b c=>some [.ip a b c]) (fun a b c=>some [.f a b c]) (fun a b=>some [.ifc a b]) (fun cs=>some cs) (fun _=>none) (fun a=>some [.m a]) none
inductive Blk where
 |cs (el:TypeId) (l:List AV) (fz:Bool)
 |mp (es:List (AV×AV))
 |it (s:List Nat) (pos:Nat)
 |dead
structure H where
 next:Nat
 t:T Blk
def H.get (h:H) (id:Id):Option Blk:=T.get id h.t
def H.put (h:H) (id:Id) (b:Blk):H:=⟨h.next,T.set id b h.t⟩
inductive Od where
 |t (p:List Bool)
 |c (v:AV)
inductive SK where
 |str
 |sli (sz:Nat)
 |arr (n sz:Nat)
inductive NK where
 |sli|ptr|map|fn|ifc
inductive LK where
 |str|sli|map
inductive AOp2 where
 |bsl (el:TypeId) (sz len:Nat) (zero:List AV) (parts:List (Nat×Nat×Od))
 |cvsb (el:TypeId) (x:Od)
 |cvbs (x:Od)
 |cvp1 (x:Od)
 |cvp2 (u:TypeId) (sz:Nat) (x:Od)
 |mkif (t:TypeId) (x:Od)
 |mkfn (fn:Fn) (first captured:List Od)
 |mkmap
 |mksl (el:TypeId) (sz bytes:Nat) (zero:List AV) (len cap:Od)
 |fld (off:Nat) (agg:Option Nat) (x:Od)
 |lk (kd:Nat) (zero:AV) (x ix:Od) (ok:Bool)
 |mu (kd:Nat) (x k v:Od)
 |callv (f:Od) (args:List Od)
 |cap (x:Od)
 |app (el:TypeId) (sz bytes:Nat) (x y:Od)
 |appz (el:TypeId) (sz bytes:Nat) (zero:List AV) (x y:Od)
 |clr (sz:Nat) (zero:List AV) (x:Od)
 |mx (xs:List Od)
 |mn (xs:List Od)
 |usd (x:Od)
 |ust (e:TypeId) (x y:Od)
 |eqb (neg:Bool) (x y:Od)
 |eqn (neg:Bool) (k:NK) (x y:Od)
 |eqs (neg:Bool) (ks:List Nat) (x y:Od)
 |bad
inductive AOp where
 |mv (x:Od)
 |ld1 (a:Od)
 |bin (op:BinOp) (x y:Od)
 |fa (off:Nat) (x:Od)
 |nilc (x:Od)
 |call (f:Nat) (args:List Od)
 |ext (x:Od) (ix:Nat)
 |st (n:Nat) (a x:Od)
 |ldn (n:Nat) (a:Od)
 |new (el:TypeId) (zero:List AV)
 |box (el:TypeId) (n:Nat) (x:Od)
 |len (k:LK) (x:Od)
 |slc (k:SK) (x:Od) (lo hi mx:Option Od)
 |ia (k:SK) (x ix:Od)
 |ixs (x ix:Od)
 |pick (c a b:Od)
 |un (op:UnOp) (x:Od)
 |cvi (k:IntKind) (x:Od)
 |bld (zero:List AV) (parts:List (Nat×Nat×Od))
 |o2 (o:AOp2)
structure AO where
 dst:Option (List Bool)
 op:AOp
 g:Option (List Bool×Bool)
 k:Nat
structure DO where
 o:AO
 ks:List Nat
 js:List Nat
inductive AC where
 |skip
 |reg (na:Nat) (ops:List AO)
 |dreg (na:Nat) (ops:List DO)
 |seq (a b:AC)
 |cond (c:Od) (a b:AC)
 |blk (id:Nat) (b:AC)
 |loop (b:AC)
 |exit (id:Nat)
 |ret
 |rf (f:Od)
 |bad
structure AF where
 np:Nat
 res:List (List Bool×Option (Option Nat))
 body:AC
inductive Cls where
 |N|R|A|X
deriving DecidableEq,Repr
def AOp2.cls:AOp2→Cls
 |.mkif .. |.mkfn .. |.fld .. |.cap _|.eqb .. |.eqn .. |.eqs .. |.mx _|.mn _|.usd _=>.N
 |.lk .. |.cvp1 _|.cvp2 .. |.cvbs _=>.R
 |.bsl .. |.cvsb .. |.mksl .. |.mkmap=>.A
 |_=>.X
def AOp.cls:AOp→Cls
 |.mv _|.bin .. |.fa .. |.nilc _|.ext .. |.slc .. |.ia .. |.ixs .. |.pick .. |.un .. |.cvi .. |.bld .. =>.N
 |.ld1 _|.ldn .. |.len .. =>.R
 |.new .. |.box .. =>.A
 |.call .. |.st .. =>.X
 |.o2 o=>o.cls
def nth {α:Type} (l:List α):Nat→Option α:=
 List.rec (motive:=fun _=>Nat→Option α) (fun _=>none) (fun x _ ih=>Nat.rec (some x) (fun n _=>ih n)) l
def cut {α:Type} (l:List α):Nat→Nat→Option (List α):=
 List.rec (motive:=fun _=>Nat→Nat→Option (List α))
  (fun _ n=>Nat.rec (some []) (fun _ _=>none) n)
  (fun x _ ih off=>Nat.rec (motive:=fun _=>Nat→Option (List α))
   (Nat.rec (some []) (fun n _=>Option.rec none (fun r=>some (x::r)) (ih 0 n)))
   (fun o _ n=>ih o n) off) l
def lay {α:Type} (l:List α):Nat→List α→Option (List α):=
 List.rec (motive:=fun _=>Nat→List α→Option (List α))
  (fun _ new=>List.rec (some []) (fun _ _ _=>none) new)
  (fun x xs ih off=>Nat.rec (motive:=fun _=>List α→Option (List α))
   (fun new=>List.rec (some (x::xs)) (fun y ys _=>Option.rec none (fun r=>some (y::r)) (ih 0 ys)) new)
   (fun o _ new=>Option.rec none (fun r=>some (x::r)) (ih o new)) off) l
def len {α:Type} (l:List α):Nat:=List.rec 0 (fun _ _ n=>Nat.succ n) l
def iLe (a:Int):Int→Bool:=
 Int.rec (fun m=>Int.rec (fun n=>Nat.ble m n) (fun _=>false)) (fun m=>Int.rec (fun _=>true) (fun n=>Nat.ble n m)) a
def iEq (a:Int):Int→Bool:=
 Int.rec (fun m=>Int.rec (fun n=>Nat.beq m n) (fun _=>false)) (fun m=>Int.rec (fun _=>false) (fun n=>Nat.beq m n)) a
def sEq (a b:List Nat):Bool:=
 List.rec (motive:=fun _=>List Nat→Bool) (List.rec true (fun _ _ _=>false))
  (fun x _ ih=>List.rec false (fun y ys _=>cd (Nat.beq x y) (ih ys) false)) a b
def sLt (a b:List Nat):Bool:=
 List.rec (motive:=fun _=>List Nat→Bool) (List.rec false (fun _ _ _=>true))
  (fun x _ ih=>List.rec false (fun y ys _=>cd (Nat.blt x y) true (cd (Nat.beq x y) (ih ys) false))) a b
def idEq (a b:Id):Bool:=
 List.rec (motive:=fun _=>Id→Bool) (List.rec true (fun _ _ _=>false))
  (fun x _ ih=>List.rec false (fun y ys _=>cd (cd x y (!y)) (ih ys) false)) a b
def cat {α:Type} (a b:List α):List α:=List.rec b (fun x _ r=>x::r) a
def kMax (k:IntKind):Nat:=IntKind.rec 127 32767 2147483647 9223372036854775807 255 65535 4294967295 18446744073709551615 k
def kNeg (k:IntKind):Bool:=IntKind.rec true true true true false false false false k
def wr (k:IntKind) (n:Int):Int:=
 Int.rec (fun m=>cd (Nat.ble m (kMax k)) (.ofNat m) (k.wrap (.ofNat m))) (fun m=>cd (cd (kNeg k) (Nat.ble m (kMax k)) false) (.negSucc m) (k.wrap (.negSucc m))) n
def kNo (k:IntKind):Nat:=IntKind.rec 0 1 2 3 4 5 6 7 k
def kEq (a b:IntKind):Bool:=Nat.beq (kNo a) (kNo b)
def getV (fr:T AV) (p:List Bool):AV:=Option.rec .j (fun x=>x) (T.get p fr)
def ev (o:Od):T AV→AV:=Od.rec (fun p fr=>getV fr p) (fun v _=>v) o
def blkCut (b:Option Blk):Nat→Nat→Option (List AV):=
 Option.rec (fun _ _=>none) (Blk.rec (fun _ l _ off n=>cut l off n) (fun _ _ _=>none) (fun _ _ _ _=>none) (fun _ _=>none)) b
def cellsAt (a:AV):Nat→H→Option (List AV):=
 @AV.casesOn (fun _=>Nat→H→Option (List AV)) a (fun _ _ _ _=>none) (fun _ _ _=>none) (fun _ _ _ _=>none) (fun _ _ _=>none) (fun id off n h=>blkCut (h.get id) off n) (fun _ _ _ _ _ _ _ _=>none) (fun _ _=>none) (fun _ _ _ _=>none) (fun t x off n _=>cut (tc t x) off n) (fun _ _ _ _ _=>none) (fun _ _ _ _=>none) (fun _ _ _=>none) (fun _ _ _=>none) (fun _ _ _=>none) (fun _ _=>none)
def blkNth (b:Option Blk):Nat→Option AV:=
 Option.rec (fun _=>none) (Blk.rec (fun _ l _ off=>nth l off) (fun _ _=>none) (fun _ _ _=>none) (fun _=>none)) b
def cellAt (a:AV):H→Option AV:=
 @AV.casesOn (fun _=>H→Option AV) a (fun _ _ _=>none) (fun _ _=>none) (fun _ _ _=>none) (fun _ _=>none) (fun id off h=>blkNth (h.get id) off) (fun _ _ _ _ _ _ _=>none) (fun _=>none) (fun _ _ _=>none) (fun t x off _=>nth (tc t x) off) (fun _ _ _ _=>none) (fun _ _ _=>none) (fun _ _=>none) (fun _ _=>none) (fun _ _=>none) (fun _=>none)
def blkLay (b:Option Blk):Id→Nat→List AV→H→Option H:=
 Option.rec (fun _ _ _ _=>none) (Blk.rec (fun el l fz id off new h=>cd fz none (Option.rec none (fun l'=>some (h.put id (.cs el l' fz))) (lay l off new))) (fun _ _ _ _ _=>none) (fun _ _ _ _ _ _=>none) (fun _ _ _ _=>none)) b
def storeAt (a:AV):List AV→H→Option H:=
 @AV.casesOn (fun _=>List AV→H→Option H) a (fun _ _ _ _=>none) (fun _ _ _=>none) (fun _ _ _ _=>none) (fun _ _ _=>none) (fun id off new h=>blkLay (h.get id) id off new h) (fun _ _ _ _ _ _ _ _=>none) (fun _ _=>none) (fun _ _ _ _=>none) (fun _ _ _ _ _=>none) (fun _ _ _ _ _=>none) (fun _ _ _ _=>none) (fun _ _ _=>none) (fun _ _ _=>none) (fun _ _ _=>none) (fun _ _=>none)
def asN (x:AV):Option Nat:=
 @AV.casesOn (fun _=>Option Nat) x (fun _ n=>Int.rec (fun n=>some n) (fun _=>none) n) (fun _=>none) (fun _ _=>none) (fun _=>none) (fun _ _=>none) (fun _ _ _ _ _ _=>none) (none) (fun _ _=>none) (fun _ _ _=>none) (fun _ _ _=>none) (fun _ _=>none) (fun _=>none) (fun _=>none) (fun _=>none) (none)
def elems (x:AV) (sz:Nat) (h:H):Option (List AV×Nat):=match x with
 |.sl id off _ n _ _=>Option.rec none (fun l=>some (l,n)) (cellsAt (.p id off) (Nat.mul n sz) h)
 |.em=>some ([],0)
 |.v (.slice none 0 0)=>some ([],0)
 |.v (.slice (some _) 0 _)=>some ([],0)
 |.isl t xs=>cd (Nat.beq sz (wd t)) (some ((xs.map (tc t)).flatten,xs.length)) none
 |.s n l=>cd (Nat.beq sz 1) (some (l.map fun c=>.i .u8 (.ofNat c),n)) none
 |_=>none
def lenOf (k:LK) (x:AV) (h:H):Option Nat:=match k,x with
 |.sli,.sl _ _ _ n _ _=>some n
 |.sli,.em=>some 0
 |.sli,.v (.slice none 0 0)=>some 0
 |.sli,.v (.slice (some _) 0 _)=>some 0
 |.sli,.isl _ xs=>some xs.length
 |.map,.v (.map none)=>some 0
 |.str,.s n _=>some n
 |.map,.m id=>match h.get id with
  |some (.mp es)=>some es.length
  |_=>none
 |_,_=>none
def isNil (k:NK) (x:AV):Option Bool:=match k,x with
 |.sli,.v (.slice none 0 0)=>some true
 |.sli,.sl _ _ _ _ lo _=>cd (Nat.blt 0 lo) (some false) none
 |.sli,.v (.slice (some _) 0 _)=>some false
 |.sli,.isl _ (_::_)=>some false
 |.ptr,.v (.pointer none)=>some true
 |.ptr,.p .. =>some false
 |.ptr,.ip .. =>some false
 |.map,.v (.map none)=>some true
 |.map,.m _=>some false
 |.fn,.v .nilFunc=>some true
 |.fn,.f .. =>some false
 |.ifc,.v .nilIface=>some true
 |.ifc,.ifc .. =>some false
 |_,_=>none
def eqN (k:NK) (x y:AV):Option Bool:=match k,x,y with
 |.ptr,.p a i,.p b j=>cd (idEq a b) (some (Nat.beq i j)) none
 |k,x,y=>match isNil k x,isNil k y with
  |some true,some r=>some r
  |some r,some true=>some r
  |_,_=>none
def eq1 (x y:AV):Option Bool:=match x,y with
 |.i k a,.i k' b=>cd (kEq k k') (some (iEq a b)) none
 |.b x,.b y=>some (cd x y (!y))
 |.s _ x,.s _ y=>some (sEq x y)
 |_,_=>none
def eqC (k:Nat) (x y:AV):Option Bool:=
 cd (Nat.beq k 1) (match x,y with
  |.i k a,.i k' b=>cd (kEq k k') (some (iEq a b)) none
  |_,_=>none) (cd (Nat.beq k 2) (match x,y with
  |.b x,.b y=>some (cd x y (!y))
  |_,_=>none) (match x,y with
  |.s _ x,.s _ y=>some (sEq x y)
  |_,_=>none))
def eqL (ks:List Nat):List AV→List AV→Option Bool:=
 List.rec (fun xs ys=>match xs,ys with
  |[],[]=>some true
  |_,_=>none) (fun k _ ih xs ys=>match xs,ys with
  |x::xs,y::ys=>match eqC k x y,ih xs ys with
   |some a,some b=>some (cd a b false)
   |_,_=>none
  |_,_=>none) ks
def binI (op:BinOp):IntKind→Int→Int→Option AV:=
 BinOp.rec
  (fun k a b=>some (.i k (wr k (a+b))))
  (fun k a b=>some (.i k (wr k (a - b))))
  (fun k a b=>some (.i k (wr k (a*b))))
  (fun k a b=>cd (iEq b (J 0)) none (some (.i k (wr k (a.tdiv b)))))
  (fun k a b=>cd (iEq b (J 0)) none (some (.i k (a.tmod b))))
  (fun k a b=>some (.i k (k.wrap (BitVec.ofInt k.bits a&&& BitVec.ofInt k.bits b).toNat)))
  (fun k a b=>some (.i k (k.wrap (BitVec.ofInt k.bits a|||BitVec.ofInt k.bits b).toNat)))
  (fun k a b=>some (.i k (k.wrap (BitVec.ofInt k.bits a ^^^ BitVec.ofInt k.bits b).toNat)))
  (fun _ _ _=>none)
  (fun _ _ _=>none)
  (fun k a b=>some (.i k (k.wrap (BitVec.ofInt k.bits a&&& ~~~BitVec.ofInt k.bits b).toNat)))
  (fun _ a b=>some (.b (iEq a b)))
  (fun _ a b=>some (.b (!iEq a b)))
  (fun _ a b=>some (.b (!iLe b a)))
  (fun _ a b=>some (.b (iLe a b)))
  (fun _ a b=>some (.b (!iLe a b)))
  (fun _ a b=>some (.b (iLe b a))) op
def binS (op:BinOp) (n:Nat) (a:List Nat) (m:Nat) (b:List Nat):Option AV:=match op with
 |.add=>cd (Nat.ble (Nat.add n m) 1099511627776) (some (.s (Nat.add n m) (cat a b))) none
 |.eql=>some (.b (sEq a b))
 |.neq=>some (.b (!sEq a b))
 |.lss=>some (.b (sLt a b))
 |.leq=>some (.b (cd (sLt a b) true (sEq a b)))
 |.gtr=>some (.b (!cd (sLt a b) true (sEq a b)))
 |.geq=>some (.b (!sLt a b))
 |_=>none
def shI (op:BinOp) (k:IntKind) (a b:Int):Option AV:=match op,b with
 |.shl,.ofNat n=>some (.i k (k.wrap (a*2 ^ (min n k.bits))))
 |.shr,.ofNat n=>some (.i k (a.fdiv (2 ^ (min n k.bits))))
 |_,_=>none
def isSh (o:BinOp):Bool:=BinOp.rec false false false false false false false false true true false false false false false false false o
def binA (op:BinOp) (x:AV):AV→Option AV:=
 (@AV.casesOn (fun _=>BinOp→AV→Option AV) x (fun k a op y=>(@AV.casesOn (fun _=>BinOp→IntKind→Int→Option AV) y (fun k' b op k a=>cd (isSh op) (shI op k a b) (cd (kEq k k') (binI op k a b) none)) (fun _ _ _ _=>none) (fun _ _ _ _ _=>none) (fun _ _ _ _=>none) (fun _ _ _ _ _=>none) (fun _ _ _ _ _ _ _ _ _=>none) (fun _ _ _=>none) (fun _ _ _ _ _=>none) (fun _ _ _ _ _ _=>none) (fun _ _ _ _ _ _=>none) (fun _ _ _ _ _=>none) (fun _ _ _ _=>none) (fun _ _ _ _=>none) (fun _ _ _ _=>none) (fun _ _ _=>none)) op k a) (fun _ _ _=>none) (fun n a op y=>(@AV.casesOn (fun _=>BinOp→Nat→List Nat→Option AV) y (fun _ _ _ _ _=>none) (fun _ _ _ _=>none) (fun m b op n a=>binS op n a m b) (fun _ _ _ _=>none) (fun _ _ _ _ _=>none) (fun _ _ _ _ _ _ _ _ _=>none) (fun _ _ _=>none) (fun _ _ _ _ _=>none) (fun _ _ _ _ _ _=>none) (fun _ _ _ _ _ _=>none) (fun _ _ _ _ _=>none) (fun _ _ _ _=>none) (fun _ _ _ _=>none) (fun _ _ _ _=>none) (fun _ _ _=>none)) op n a) (fun _ _ _=>none) (fun _ _ _ _=>none) (fun _ _ _ _ _ _ _ _=>none) (fun _ _=>none) (fun _ _ _ _=>none) (fun _ _ _ _ _=>none) (fun _ _ _ _ _=>none) (fun _ _ _ _=>none) (fun _ _ _=>none) (fun _ _ _=>none) (fun _ _ _=>none) (fun _ _=>none)) op
def fillA (ps:List (Nat×Nat×Od)):T AV→List AV→Option (List AV):=
 List.rec (motive:=fun _=>T AV→List AV→Option (List AV)) (fun _ l=>some l)
  (fun p _ ih fr l=>Option.rec none (fun cs=>cd (Nat.beq (len cs) p.2.1) (Option.rec none (fun l'=>ih fr l') (lay l p.1 cs)) none) (ev p.2.2 fr).cells) ps
def repl (n:Nat) (z:List AV):List AV:=Nat.rec [] (fun _ r=>cat z r) n
def eqK (kd:Nat) (x y:AV):Option Bool:=match x,y with
 |.i k a,.i k' b=>cd (Nat.beq kd 0) (cd (kEq k k') (some (iEq a b)) none) none
 |.s _ x,.s _ y=>cd (Nat.beq kd 1) (some (sEq x y)) none
 |.ag xs,.ag ys=>cd (Nat.beq kd 2) (eqL [3,3] xs ys) none
 |_,_=>none
def mfind (kd:Nat) (k:AV) (es:List (AV×AV)):Option (Option AV):=
 List.rec (some none) (fun e _ ih=>match eqK kd k e.1 with
  |some true=>some (some e.2)
  |some false=>ih
  |none=>none) es
def okKey (kd:Nat) (k:AV):Bool:=cd (Nat.beq kd 2) (match k with
 |.ag [_,_]=>true
 |_=>false) true
def mfindK (kd:Nat) (k:AV) (es:List (AV×AV)):Option (Option AV):=cd (okKey kd k) (mfind kd k es) none
def mset (kd:Nat) (k v:AV) (es:List (AV×AV)):List (AV×AV):=
 List.rec [(k,v)] (fun e r ih=>match eqK kd k e.1 with
  |some true=>(k,v)::r
  |_=>e::ih) es
inductive R where
 |no
 |ok (v:AV) (h:H)
def fresh (b:Blk) (h:H):H:=⟨Nat.succ h.next,T.set (path h.next) b h.t⟩
def roomy (n by_:Nat):Bool:=Nat.ble (Nat.mul n by_) 1099511627776
def growA (el sz by_ n:Nat) (l:List AV) (h:H):R:=
 cd (roomy n by_) (.ok (.sl (path h.next) 0 sz n n false) (fresh (.cs el l false) h)) .no
def appendA (el sz by_:Nat) (x:AV) (new:List AV) (k:Nat) (h:H):R:=match x with
 |.v (.slice none 0 0)=>cd (Nat.beq k 0) (.ok (.v (.slice none 0 0)) h) (growA el sz by_ k new h)
 |.em=>cd (Nat.beq k 0) (.ok .em h) (growA el sz by_ k new h)
 |.sl id off sz' n lo ex=>
  cd (Nat.beq sz' sz)
   (cd (Nat.ble (Nat.add n k) lo)
    (Option.rec .no (fun h'=>.ok (.sl id off sz (Nat.add n k) lo ex) h') (storeAt (.p id (Nat.add off (Nat.mul n sz))) new h))
    (match h.get id with
     |some (.cs el' l fz)=>match cut l off (Nat.mul n sz) with
      |some old=>cd ex (growA el sz by_ (Nat.add n k) (cat old new) h)
       (cd (Nat.beq el el') (cd (Nat.beq off 0) (cd fz .no (growA el sz by_ (Nat.add n k) (cat old new) (h.put id .dead))) .no) .no)
      |none=>.no
     |_=>.no))
   .no
 |.isl t xs=>cd (Nat.beq k 0) (.ok (.isl t xs) h) .no
 |_=>.no
def orN (o:Option Nat) (d:Nat):Nat:=Option.rec d (fun x=>x) o
def sliceS (n:Nat) (l:List Nat) (b e:Nat):Option AV:=
 cd (Nat.ble e n) (cd (Nat.ble b e) (Option.rec none (fun l'=>some (.s (Nat.sub e b) l')) (cut l b (Nat.sub e b))) none) none
def slice2 (id:Id) (off sz cl:Nat) (ex:Bool) (b e:Nat):Option AV:=
 cd (Nat.ble e cl) (cd (Nat.ble b e) (some (.sl id (Nat.add off (Nat.mul b sz)) sz (Nat.sub e b) (Nat.sub cl b) ex)) none) none
def slice3 (id:Id) (off sz cl:Nat) (b e m:Nat):Option AV:=
 cd (Nat.ble m cl) (cd (Nat.ble e m) (cd (Nat.ble b e)
  (cd (Nat.beq m b) (some .em) (some (.sl id (Nat.add off (Nat.mul b sz)) sz (Nat.sub e b) (Nat.sub m b) true))) none) none) none
def slice0 (x:AV) (b e m:Nat):Option AV:=cd (Nat.beq b 0) (cd (Nat.beq e 0) (cd (Nat.beq m 0) (some x) none) none) none
def sliceA (k:SK) (x:AV) (lo hi mx:Option Nat):Option AV:=match k,x with
 |.str,.s n l=>match mx with
  |none=>sliceS n l (orN lo 0) (orN hi n)
  |some _=>none
 |.sli sz,.sl id off sz' n cl ex=>cd (Nat.beq sz sz') (match mx with
  |none=>slice2 id off sz cl ex (orN lo 0) (orN hi n)
  |some m=>match hi with
   |some e=>slice3 id off sz cl (orN lo 0) e m
   |none=>none) none
 |.sli _,.v (.slice none 0 0)=>slice0 (.v (.slice none 0 0)) (orN lo 0) (orN hi 0) (orN mx 0)
 |.sli _,.em=>slice0 .em (orN lo 0) (orN hi 0) (orN mx 0)
 |.sli sz,.isl t xs=>cd (Nat.beq sz (wd t)) (match mx with
  |none=>cd (Nat.ble (orN hi xs.length) xs.length) (cd (Nat.ble (orN lo 0) (orN hi xs.length)) (some (.isl t ((xs.take (orN hi xs.length)).drop (orN lo 0)))) none) none
  |some m=>match hi with
   |some e=>cd (Nat.ble m xs.length) (cd (Nat.ble e m) (cd (Nat.ble (orN lo 0) e) (cd (Nat.beq m (orN lo 0)) (some (List.rec (.isl t []) (fun _ _ _=>.em) xs)) none) none) none) none
   |none=>none) none
 |_,_=>none
def indexA (k:SK) (x:AV) (i:Nat):Option AV:=match k,x with
 |.sli sz,.sl id off _ n _ _=>cd (Nat.blt i n) (some (.p id (Nat.add off (Nat.mul i sz)))) none
 |.sli sz,.isl t xs=>cd (Nat.beq sz (wd t)) (Option.rec none (fun c=>some (.ip t c 0)) (nth xs i)) none
 |.arr n sz,.p id off=>cd (Nat.blt i n) (some (.p id (Nat.add off (Nat.mul i sz)))) none
 |.arr n sz,.ip t x off=>cd (Nat.blt i n) (some (.ip t x (Nat.add off (Nat.mul i sz)))) none
 |_,_=>none
def optN (o:Option Od) (fr:T AV):Option (Option Nat):=match o with
 |none=>some none
 |some x=>Option.rec none (fun n=>some (some n)) (asN (ev x fr))
def okV (h:H) (x:Option AV):R:=Option.rec .no (fun v=>.ok v h) x
def evs (xs:List Od) (fr:T AV):List AV:=List.rec [] (fun x _ r=>ev x fr::r) xs
def bytesOfCells (l:List AV):Option (List Nat):=
 List.rec (some []) (fun x _ ih=>match x with
  |.i .u8 (.ofNat n)=>cd (Nat.blt n 256) (Option.rec none (fun r=>some (n::r)) ih) none
  |_=>none) l
def idxB (c:Nat) (l:List Nat):Nat→Int:=
 List.rec (motive:=fun _=>Nat→Int) (fun _=>.negSucc 0) (fun x _ ih i=>cd (Nat.beq x c) (.ofNat i) (ih (Nat.succ i))) l
def cntB (c:Nat) (l:List Nat):Nat:=List.rec 0 (fun x _ n=>cd (Nat.beq x c) (Nat.succ n) n) l
def mxA (x y:AV):Option AV:=match x,y with
 |.i k a,.i _ b=>some (.i k (cd (iLe b a) a b))
 |_,_=>none
def mnA (x y:AV):Option AV:=match x,y with
 |.i k a,.i _ b=>some (.i k (cd (iLe a b) a b))
 |_,_=>none
def fold1 (f:AV→AV→Option AV) (l:List AV):Option AV:=match l with
 |[]=>none
 |x::r=>List.rec (motive:=fun _=>AV→Option AV) (fun a=>some a) (fun y _ ih a=>Option.rec none ih (f a y)) r x
abbrev CallF:=Nat→List AV→H→R
def putNew (n:Nat) (b:Blk) (v:Id→AV) (h:H):R:=
 cd (Nat.blt n h.next) (Option.rec (.ok (v (path n)) (h.put (path n) b)) (fun _=>.no) (h.get (path n))) .no
def b8 (n:Int):Nat:=Nat.mod (Jn n) 256
def bytes8c (c:AV) (ih:Option (List Nat)):Option (List Nat):=match c,ih with
 |.i .u8 n,some r=>some (b8 n::r)
 |_,_=>none
def bytes8 (l:List AV):Option (List Nat):=List.rec (some []) (fun c _ ih=>bytes8c c ih) l
def strB (x:AV) (h:H):Option (Nat×List Nat):=match x with
 |.isl (.int .u8) xs=>some (xs.length,xs.map b8)
 |.s _ _=>none
 |x=>match elems x 1 h with
  |some (cs,n)=>match bytes8 cs with
   |some l=>some (n,l)
   |none=>none
  |none=>none
def ev2 (call:CallF) (o:AOp2):T AV→H→Nat→R:=
 AOp2.rec
  (fun el sz n z ps fr h id=>match fillA ps fr (repl n z) with
   |some cs=>cd (Nat.beq n 0) (.ok .em h) (putNew id (.cs el cs false) (fun id=>.sl id 0 sz n n true) h)
   |none=>.no)
  (fun el x fr h id=>match ev x fr with
   |.s n l=>cd (Nat.beq n 0) .no (putNew id (.cs el (l.map fun c=>.i .u8 (.ofNat c)) false) (fun id=>.sl id 0 1 n n false) h)
   |_=>.no)
  (fun x fr h _=>match strB (ev x fr) h with
   |some (n,l)=>cd (Nat.ble n 1152921504606846976) (.ok (.s n l) h) .no
   |none=>.no)
  (fun x fr h _=>match ev x fr with
   |.p id off=>match h.get id with
    |some (.cs _ l _)=>cd (Nat.blt off (len l)) (.ok (.p id off) h) .no
    |_=>.no
   |_=>.no)
  (fun u sz x fr h _=>match ev x fr with
   |.p id off=>match h.get id with
    |some (.cs el l _)=>cd (Nat.beq el u) (cd (Nat.beq (Nat.mod off sz) 0) (cd (Nat.ble (Nat.add off sz) (len l)) (.ok (.p id off) h) .no) .no) .no
    |_=>.no
   |_=>.no)
  (fun t x fr h _=>.ok (.ifc t (ev x fr)) h)
  (fun fn a b fr h _=>.ok (.f fn (evs a fr) (evs b fr)) h)
  (fun _ h id=>putNew id (.mp []) (fun id=>.m id) h)
  (fun el sz by_ z l c fr h id=>match asN (ev l fr),asN (ev c fr) with
   |some l,some c=>cd (Nat.ble l c) (cd (roomy c by_) (cd (Nat.beq c 0) (.ok .em h) (putNew id (.cs el (repl c z) false) (fun id=>.sl id 0 sz l c true) h)) .no) .no
   |_,_=>.no)
  (fun off ag x fr h _=>match ev x fr,ag with
   |.ag cs,some n=>Option.rec .no (fun l=>.ok (.ag l) h) (cut cs off n)
   |.ag cs,none=>okV h (nth cs off)
   |_,_=>.no)
  (fun kd z x ix ok fr h _=>match(match ev x fr with
   |.v (.map none)=>some []
   |.m id=>match h.get id with
    |some (.mp es)=>some es
    |_=>none
   |_=>none) with
   |some es=>match mfindK kd (ev ix fr) es with
    |some r=>match Option.rec z (fun x=>x) r with
     |v=>.ok (cd ok (.tu [v,.b r.isSome]) v) h
    |none=>.no
   |none=>.no)
  (fun kd x k v fr h _=>match ev x fr with
   |.m id=>match h.get id with
    |some (.mp es)=>match mfindK kd (ev k fr) es with
     |some r=>cd (cd (Nat.beq kd 2) r.isSome false) .no (.ok undefA (h.put id (.mp (mset kd (ev k fr) (ev v fr) es))))
     |none=>.no
    |_=>.no
   |_=>.no)
  (fun f as_ fr h _=>match ev f fr with
   |.f (.func g) first cap=>call g (cat first (cat (evs as_ fr) cap)) h
   |_=>.no)
  (fun x fr h _=>match ev x fr with
   |.sl _ _ _ _ lo true=>.ok (.i .i64 (.ofNat lo)) h
   |.em=>.ok (.i .i64 (J 0)) h
   |.v (.slice none 0 0)=>.ok (.i .i64 (J 0)) h
   |_=>.no)
  (fun el sz by_ x y fr h _=>match elems (ev y fr) sz h with
   |some (cs,k)=>appendA el sz by_ (ev x fr) cs k h
   |none=>.no)
  (fun el sz by_ z x y fr h _=>match asN (ev y fr) with
   |some k=>cd (roomy k by_) (appendA el sz by_ (ev x fr) (repl k z) k h) .no
   |none=>.no)
  (fun _ z x fr h _=>match ev x fr with
   |.sl id off _ n _ _=>cd (Nat.beq n 0) (.ok undefA h) (Option.rec .no (fun h'=>.ok undefA h') (storeAt (.p id off) (repl n z) h))
   |.em=>.ok undefA h
   |.v (.slice none 0 0)=>.ok undefA h
   |_=>.no)
  (fun xs fr h _=>okV h (fold1 mxA (evs xs fr)))
  (fun xs fr h _=>okV h (fold1 mnA (evs xs fr)))
  (fun x fr h _=>match ev x fr with
   |.v (.slice none 0 0)=>.ok (.v (.pointer none)) h
   |.sl id off _ n _ _=>cd (Nat.beq n 0) .no (.ok (.p id off) h)
   |_=>.no)
  (fun e x y fr h _=>match ev y fr with
   |.i .i64 (.ofNat 0)=>match ev x fr with
    |.p _ _=>.ok (.s 0 []) h
    |.v (.pointer none)=>.ok (.s 0 []) h
    |_=>.no
   |.i .i64 (.ofNat n)=>match ev x fr with
    |.p id 0=>match h.get id with
     |some (.cs el l _)=>cd (Nat.beq el e) (match cut l 0 n with
      |some cs=>match bytesOfCells cs with
       |some bs=>cd (Nat.ble n 1099511627776) (.ok (.s n bs) (h.put id (.cs el l true))) .no
       |none=>.no
      |none=>.no) .no
     |_=>.no
    |_=>.no
   |_=>.no)
  (fun neg x y fr h _=>match ev x fr,ev y fr with
   |.b x,.b y=>.ok (.b (cd neg (!cd x y (!y)) (cd x y (!y)))) h
   |_,_=>.no)
  (fun neg k x y fr h _=>Option.rec .no (fun b=>.ok (.b (cd neg (!b) b)) h) (eqN k (ev x fr) (ev y fr)))
  (fun neg ks x y fr h _=>match ev x fr,ev y fr with
   |.ag xs,.ag ys=>Option.rec .no (fun b=>.ok (.b (cd neg (!b) b)) h) (eqL ks xs ys)
   |_,_=>.no)
  (fun _ _ _=>.no) o
def unA (op:UnOp) (x:AV):Option AV:=match op,x with
 |.neg,.i k n=>some (.i k (wr k (J 0 - n)))
 |.not,.b x=>some (.b (!x))
 |.xor,.i k n=>binI .xor k (if k.signed then -1 else k.max) n
 |_,_=>none
def faA (x:AV):Nat→H→R:=
 @AV.casesOn (fun _=>Nat→H→R) x (fun _ _ _ _=>.no) (fun _ _ _=>.no) (fun _ _ _ _=>.no) (fun _ _ _=>.no) (fun id o off h=>.ok (.p id (Nat.add o off)) h) (fun _ _ _ _ _ _ _ _=>.no) (fun _ _=>.no) (fun _ _ _ _=>.no) (fun t x o off h=>.ok (.ip t x (Nat.add o off)) h) (fun _ _ _ _ _=>.no) (fun _ _ _ _=>.no) (fun _ _ _=>.no) (fun _ _ _=>.no) (fun _ _ _=>.no) (fun _ _=>.no)
def nilA (x:AV):AV→H→R:=
 @AV.casesOn (fun _=>AV→H→R) x (fun _ _ x h=>.ok x h) (fun _ x h=>.ok x h) (fun _ _ x h=>.ok x h) (fun _ _ _=>.no) (fun _ _ x h=>.ok x h) (fun _ _ _ _ _ _ x h=>.ok x h) (fun x h=>.ok x h) (fun _ _ x h=>.ok x h) (fun _ _ _ x h=>.ok x h) (fun fn _ _ x h=>Fn.rec (fun _=>.ok x h) (fun _=>.no) (fun _ _=>.no) (fun _ _ _ _=>.no) (fun _=>.no) fn) (fun _ _ x h=>.ok x h) (fun _ x h=>.ok x h) (fun _ x h=>.ok x h) (fun _ x h=>.ok x h) (fun _ _=>.no)
def extA (x:AV):Nat→H→R:=
 @AV.casesOn (fun _=>Nat→H→R) x (fun _ _ _ _=>.no) (fun _ _ _=>.no) (fun _ _ _ _=>.no) (fun _ _ _=>.no) (fun _ _ _ _=>.no) (fun _ _ _ _ _ _ _ _=>.no) (fun _ _=>.no) (fun _ _ _ _=>.no) (fun _ _ _ _ _=>.no) (fun _ _ _ _ _=>.no) (fun _ _ _ _=>.no) (fun _ _ _=>.no) (fun vs ix h=>okV h (nth vs ix)) (fun _ _ _=>.no) (fun _ _=>.no)
def ixsA (x:AV):Nat→H→R:=
 @AV.casesOn (fun _=>Nat→H→R) x (fun _ _ _ _=>.no) (fun _ _ _=>.no) (fun _ l i h=>Option.rec .no (fun c=>.ok (.i .u8 (.ofNat c)) h) (nth l i)) (fun _ _ _=>.no) (fun _ _ _ _=>.no) (fun _ _ _ _ _ _ _ _=>.no) (fun _ _=>.no) (fun _ _ _ _=>.no) (fun _ _ _ _ _=>.no) (fun _ _ _ _ _=>.no) (fun _ _ _ _=>.no) (fun _ _ _=>.no) (fun _ _ _=>.no) (fun _ _ _=>.no) (fun _ _=>.no)
def evOp (call:CallF) (o:AOp):T AV→H→Nat→R:=
 AOp.rec
  (fun x fr h _=>.ok (ev x fr) h)
  (fun a fr h _=>okV h (cellAt (ev a fr) h))
  (fun op x y fr h _=>okV h (binA op (ev x fr) (ev y fr)))
  (fun off x fr h _=>faA (ev x fr) off h)
  (fun x fr h _=>nilA (ev x fr) (ev x fr) h)
  (fun f as_ fr h _=>call f (evs as_ fr) h)
  (fun x ix fr h _=>extA (ev x fr) ix h)
  (fun n a x fr h _=>Option.rec .no (fun cs=>cd (Nat.beq (len cs) n) (Option.rec .no (fun h'=>.ok undefA h') (storeAt (ev a fr) cs h)) .no) (ev x fr).cells)
  (fun n a fr h _=>Option.rec .no (fun l=>.ok (.ag l) h) (cellsAt (ev a fr) n h))
  (fun el z _ h id=>putNew id (.cs el z false) (fun id=>.p id 0) h)
  (fun el n x fr h id=>Option.rec .no (fun cs=>cd (Nat.beq (len cs) n) (putNew id (.cs el cs false) (fun id=>.p id 0) h) .no) (ev x fr).cells)
  (fun k x fr h _=>Option.rec .no (fun n=>.ok (.i .i64 (.ofNat n)) h) (lenOf k (ev x fr) h))
  (fun k x lo hi mx fr h _=>match optN lo fr,optN hi fr,optN mx fr with
   |some lo,some hi,some mx=>okV h (sliceA k (ev x fr) lo hi mx)
   |_,_,_=>.no)
  (fun k x ix fr h _=>match asN (ev ix fr) with
   |some i=>okV h (indexA k (ev x fr) i)
   |none=>.no)
  (fun x ix fr h _=>Option.rec .no (fun i=>ixsA (ev x fr) i h) (asN (ev ix fr)))
  (fun c a b fr h _=>match ev c fr with
   |.b x=>.ok (cd x (ev a fr) (ev b fr)) h
   |_=>.no)
  (fun op x fr h _=>okV h (unA op (ev x fr)))
  (fun k x fr h _=>match ev x fr with
   |.i _ n=>.ok (.i k (wr k n)) h
   |_=>.no)
  (fun z ps fr h _=>Option.rec .no (fun l=>.ok (.ag l) h) (fillA ps fr z))
  (fun o=>ev2 call o) o
def setD (d:Option (List Bool)) (v:AV) (fr:T AV):T AV:=Option.rec fr (fun p=>T.set p v fr) d
def isB (x:AV):Bool→Option Bool:=
 @AV.casesOn (fun _=>Bool→Option Bool) x (fun _ _ _=>some false) (fun x w=>some (cd x w (!w))) (fun _ _ _=>some false) (fun _ _=>some false) (fun _ _ _=>some false) (fun _ _ _ _ _ _ _=>some false) (fun _=>some false) (fun _ _ _=>some false) (fun _ _ _ _=>some false) (fun _ _ _ _=>some false) (fun _ _ _=>some false) (fun _ _=>some false) (fun _ _=>some false) (fun _ _=>some false) (fun _=>none)
def wanted (g:Option (List Bool×Bool)) (fr:T AV):Option Bool:=
 Option.rec (some true) (fun q=>isB (getV fr q.1) q.2) g
inductive FR where
 |no
 |ok (fr:T AV) (h:H)
def evOps (call:CallF) (base:Nat) (ops:List AO):T AV→H→FR:=
 List.rec (motive:=fun _=>T AV→H→FR) (fun fr h=>.ok fr h)
  (fun o _ ih fr h=>Option.rec .no (fun b=>cd b
   (R.rec .no (fun v h'=>ih (setD o.dst v fr) h') (evOp call o.op fr h (Nat.add base o.k)))
   (ih (setD o.dst undefA fr) h)) (wanted o.g fr)) ops
structure Pd where
 k:Nat
 id:Id
 b:Blk
structure Bh where
 h:H
 cons:List Nat
structure Rd where
 o:AOp
 fr:T AV
 v:AV
 ks:List Nat
 js:List Nat
structure DS where
 fr:T AV
 cur:Bh
 old:List Bh
 mks:List Pd
 rs:List Rd
def natIn (n:Nat) (l:List Nat):Bool:=List.rec false (fun x _ r=>cd (Nat.beq x n) true r) l
def selP (ks cons:List Nat) (l:List Pd):List Pd:=
 List.rec [] (fun x _ r=>cd (natIn x.k ks) (cd (natIn x.k cons) r (x::r)) r) l
def selC (cons:List Nat) (l:List Pd):List Pd:=
 List.rec [] (fun x _ r=>cd (natIn x.k cons) r (x::r)) l
def puts (l:List Pd) (h:H):H:=List.rec h (fun x _ r=>H.put r x.id x.b) l
def heapAt (b:Bh) (ks:List Nat) (mk:List Pd):H:=puts (selP ks b.cons mk) b.h
def freeOf (h:H) (base:Nat) (cons:List Nat) (na:Nat):Bool:=
 Nat.rec true (fun k r=>cd (natIn k cons) r (Option.rec r (fun _=>false) (h.get (path (Nat.add base k))))) na
def stepX (d:DO) (s:DS) (v:AV) (h:H):DS:=⟨setD d.o.dst v s.fr,⟨h,cat d.ks s.cur.cons⟩,s.cur::s.old,s.mks,s.rs⟩
def stepV (d:DO) (s:DS) (v:AV):DS:=⟨setD d.o.dst v s.fr,s.cur,s.old,s.mks,s.rs⟩
def stepR (d:DO) (s:DS) (v:AV):DS:=⟨setD d.o.dst v s.fr,s.cur,s.old,s.mks,List.rec s.rs (fun _ _ _=>⟨d.o.op,s.fr,v,d.ks,d.js⟩::s.rs) d.js⟩
def stepA (d:DO) (s:DS) (v:AV) (id:Id) (b:Option Blk):DS:=⟨setD d.o.dst v s.fr,s.cur,s.old,Option.rec s.mks (fun b=>⟨d.o.k,id,b⟩::s.mks) b,s.rs⟩
def clsRec {α:Type} (n r a x:α) (c:Cls):α:=Cls.rec n r a x c
def stepD (call:CallF) (base na:Nat) (d:DO) (s:DS):Option DS:=
 Option.rec none (fun b=>cd b
  (clsRec
   (R.rec none (fun v _=>some (stepV d s v)) (evOp call d.o.op s.fr s.cur.h (Nat.add base d.o.k)))
   (R.rec none (fun v _=>some (stepR d s v)) (evOp call d.o.op s.fr (heapAt s.cur d.ks s.mks) (Nat.add base d.o.k)))
   (R.rec none (fun v h=>some (stepA d s v (path (Nat.add base d.o.k)) (h.get (path (Nat.add base d.o.k))))) (evOp call d.o.op s.fr ⟨s.cur.h.next,.e⟩ (Nat.add base d.o.k)))
   (R.rec none (fun v h=>cd (freeOf h base (cat d.ks s.cur.cons) na) (some (stepX d s v h)) none) (evOp call d.o.op s.fr (heapAt s.cur d.ks s.mks) (Nat.add base na)))
   d.o.op.cls)
  (clsRec (some (stepV d s undefA)) (some (stepV d s undefA)) (some (stepV d s undefA)) (some (stepX d s undefA (heapAt s.cur d.ks s.mks))) d.o.op.cls)) (wanted d.o.g s.fr)
def evD (call:CallF) (base na:Nat) (ops:List DO):DS→Option DS:=
 List.rec (motive:=fun _=>DS→Option DS) (fun s=>some s) (fun d _ ih s=>Option.rec none ih (stepD call base na d s)) ops
def eqD0 (t:Ty):den t→den t→Bool:=
 Ty.rec (motive:=fun t=>den t→den t→Bool) (fun _ (a b:Int)=>iEq a b) (fun a b=>cd a b (!b)) (fun(a b:List Nat)=>sEq a b) (fun _ _=>true)
   (fun _ _ ia ib x y=>cd (ia x.1 y.1) (ib x.2 y.2) false)
   (fun t ih (xs ys:List (den t))=>List.rec (motive:=fun _=>List (den t)→Bool) (fun ys=>List.rec true (fun _ _ _=>false) ys) (fun x _ k ys=>List.rec false (fun y ys _=>cd (ih x y) (k ys) false) ys) xs ys)
   (fun _ ih x y=>ih x y) (fun _ _ ih x y=>ih x y) t
def castE {t t':Ty} (h:t=t') (x:den t):den t':=h▸x
def sameS (t t':Ty) (xs:List (den t)) (ys:List (den t')):Bool:=match decEq t' t with
 |.isTrue h=>eqD0 (.sl t) xs (castE (congrArg Ty.sl h) ys)
 |.isFalse _=>false
def sameP (t t':Ty) (x:den t) (y:den t'):Bool:=match decEq t' t with
 |.isTrue h=>eqD0 t x (castE h y)
 |.isFalse _=>false
def same1 (x y:AV):Bool:=match x,y with
 |.isl t xs,.isl t' ys=>sameS t t' xs ys
 |.ip t x o,.ip t' y o'=>cd (Nat.beq o o') (sameP t t' x y) false
 |.i k n,.i k' n'=>cd (kEq k k') (iEq n n') false
 |.b x,.b y=>cd x y (!y)
 |.s n x,.s m y=>cd (Nat.beq n m) (sEq x y) false
 |.p a b,.p c d=>cd (idEq a c) (Nat.beq b d) false
 |.sl a b c d e f,.sl a' b' c' d' e' f'=>cd (idEq a a') (cd (Nat.beq b b') (cd (Nat.beq c c') (cd (Nat.beq d d') (cd (Nat.beq e e') (cd f f' (!f')) false) false) false) false) false
 |.em,.em=>true
 |.m x,.m y=>idEq x y
 |.v (.pointer none),.v (.pointer none)=>true
 |.v (.slice none 0 0),.v (.slice none 0 0)=>true
 |.v (.map none),.v (.map none)=>true
 |.v .nilFunc,.v .nilFunc=>true
 |.v .nilIface,.v .nilIface=>true
 |_,_=>false
def sameL (a b:List AV):Bool:=
 List.rec (motive:=fun _=>List AV→Bool) (List.rec true (fun _ _ _=>false))
  (fun x _ ih=>List.rec false (fun y ys _=>cd (same1 x y) (ih ys) false)) a b
def sameB (x y:AV):Bool:=match x,y with
 |.ag xs,.ag ys=>sameL xs ys
 |x,y=>same1 x y
def sameA (x y:AV):Bool:=cd (sameB x y) true (@decide (x=y) (Classical.propDecidable _))
def noCall:CallF:=fun _ _ _=>.no
def chk1 (hs:List Bh) (mk:List Pd) (r:Rd) (js:List Nat):Bool:=
 List.rec true (fun j _ ih=>Option.rec false (fun b=>R.rec false (fun a _=>cd (sameA a r.v) ih false) (evOp noCall r.o r.fr (heapAt b r.ks mk) 0)) (nth hs j)) js
def chkAll (hs:List Bh) (mk:List Pd) (rs:List Rd):Bool:=
 List.rec true (fun r _ ih=>cd (chk1 hs mk r r.js) ih false) rs
def revOnto {α:Type} (l:List α):List α→List α:=List.rec (motive:=fun _=>List α→List α) (fun a=>a) (fun x _ ih a=>ih (x::a)) l
def evDreg (call:CallF) (na:Nat) (ops:List DO) (fr:T AV) (h:H):Option (T AV×H):=
 Option.rec none (fun s=>cd (List.rec true (fun _ _ _=>chkAll (revOnto s.old [s.cur]) s.mks s.rs) s.rs) (some (s.fr,puts (selC s.cur.cons s.mks) s.cur.h)) none)
  (evD call h.next na ops ⟨fr,⟨⟨Nat.add h.next na,h.t⟩,[]⟩,[],[],[]⟩)
inductive Ex where
 |normal
 |exit (id:Nat)
 |ret
inductive CR where
 |no
 |ok (e:Ex) (fr:T AV) (h:H)
def loopA (b:T AV→H→CR) (n:Nat):T AV→H→CR:=
 Nat.rec (motive:=fun _=>T AV→H→CR) (fun _ _=>.no)
  (fun _ rec fr h=>CR.rec .no (fun e fr h=>Ex.rec (rec fr h) (fun id=>.ok (.exit id) fr h) (.ok .ret fr h) e) (b fr h)) n
def manyRounds:Nat:=4611686018427387904
def evC (call:CallF) (c:AC):T AV→H→CR:=
 AC.rec
   (fun fr h=>.ok .normal fr h)
   (fun na ops fr h=>FR.rec .no (fun fr h=>.ok .normal fr h) (evOps call h.next ops fr ⟨Nat.add h.next na,h.t⟩))
   (fun na ops fr h=>Option.rec .no (fun q=>.ok .normal q.1 q.2) (evDreg call na ops fr h))
   (fun _ _ iha ihb fr h=>CR.rec .no (fun e fr h=>Ex.rec (ihb fr h) (fun id=>.ok (.exit id) fr h) (.ok .ret fr h) e) (iha fr h))
   (fun c _ _ iha ihb fr h=>match ev c fr with
    |.b x=>cd x (iha fr h) (ihb fr h)
    |_=>.no)
   (fun id _ ih fr h=>CR.rec .no (fun e fr h=>Ex.rec (.ok .normal fr h) (fun j=>cd (Nat.beq j id) (.ok .normal fr h) (.ok (.exit j) fr h)) (.ok .ret fr h) e) (ih fr h))
   (fun _ ih fr h=>loopA ih manyRounds fr h)
   (fun id fr h=>.ok (.exit id) fr h)
   (fun fr h=>.ok .ret fr h)
   (fun f fr h=>match ev f fr with
    |.f (.func g) first cap=>R.rec .no (fun _ h=>.ok .normal fr h) (call g (cat first (.f (.yield 0) [] []::cap)) h)
    |_=>.no)
   (fun _ _=>.no) c
def argsFrom (l:List AV):Nat→T AV→T AV:=
 List.rec (motive:=fun _=>Nat→T AV→T AV) (fun _ t=>t) (fun x _ ih i t=>ih (Nat.succ i) (T.set (path i) x t)) l
def resOf (l:List (List Bool×Option (Option Nat))) (fr:T AV) (h:H):Option (List AV):=
 List.rec (some []) (fun q _ ih=>match ih with
  |none=>none
  |some r=>match q.2 with
   |none=>some (getV fr q.1::r)
   |some none=>match cellAt (getV fr q.1) h with
    |some v=>some (v::r)
    |none=>none
   |some (some n)=>match cellsAt (getV fr q.1) n h with
    |some l=>some (.ag l::r)
    |none=>none) l
inductive FT where
 |none
 |code (f:AF)
 |ext (f:List AV→Option AV)
 |exth (f:List AV→H→Option AV)
 |mix (g:List AV→H→Option AV) (f:AF)
def ret1 (h:H) (vs:List AV):R:=match vs with
 |[v]=>.ok v h
 |vs=>.ok (.tu vs) h
def evF (tbl:Nat→FT) (n:Nat):CallF:=
 Nat.rec (motive:=fun _=>CallF) (fun _ _ _=>.no)
  (fun _ ih f args h=>FT.rec .no
   (fun fn=>cd (Nat.ble (len args) fn.np) (CR.rec .no (fun e fr h=>Ex.rec (Option.rec .no (ret1 h) (resOf fn.res fr h)) (fun _=>.no) (Option.rec .no (ret1 h) (resOf fn.res fr h)) e)
    (evC ih fn.body (argsFrom args 0 .e) h)) .no)
   (fun g=>Option.rec .no (fun v=>.ok v h) (g args)) (fun g=>Option.rec .no (fun v=>.ok v h) (g args h))
   (fun g fn=>Option.rec (cd (Nat.ble (len args) fn.np) (CR.rec .no (fun e fr h=>Ex.rec (Option.rec .no (ret1 h) (resOf fn.res fr h)) (fun _=>.no) (Option.rec .no (ret1 h) (resOf fn.res fr h)) e)
    (evC ih fn.body (argsFrom args 0 .e) h)) .no) (fun v=>.ok v h) (g args h)) (tbl f)) n
end Go.Ev
namespace Go.Ev
theorem T.get_nil_e {α:Type}:T.get [] (T.e:T α)=none:=rfl
theorem T.get_nil_n {α:Type} (l:T α) (x:Option α) (r:T α):T.get [] (.n l x r)=x:=rfl
theorem T.get_cons_e {α:Type} (b:Bool) (p:List Bool):T.get (b::p) (T.e:T α)=none:=rfl
theorem T.get_cons_n {α:Type} (b:Bool) (p:List Bool) (l:T α) (x:Option α) (r:T α):T.get (b::p) (.n l x r)=T.get p (if b then l else r):=by cases b<;>rfl
theorem T.set_nil_e {α:Type} (v:α):T.set [] v (T.e:T α)=.n .e (some v) .e:=rfl
theorem T.set_nil_n {α:Type} (v:α) (l:T α) (x:Option α) (r:T α):T.set [] v (.n l x r)=.n l (some v) r:=rfl
theorem T.set_true_e {α:Type} (v:α) (p:List Bool):T.set (true::p) v (T.e:T α)=.n (T.set p v .e) none .e:=rfl
theorem T.set_false_e {α:Type} (v:α) (p:List Bool):T.set (false::p) v (T.e:T α)=.n .e none (T.set p v .e):=rfl
theorem T.set_true_n {α:Type} (v:α) (p:List Bool) (l:T α) (x:Option α) (r:T α):T.set (true::p) v (.n l x r)=.n (T.set p v l) x r:=rfl
theorem T.set_false_n {α:Type} (v:α) (p:List Bool) (l:T α) (x:Option α) (r:T α):T.set (false::p) v (.n l x r)=.n l x (T.set p v r):=rfl
theorem T.get_e {α:Type} (p:List Bool):T.get p (T.e:T α)=none:=by cases p<;>rfl
theorem T.get_set {α:Type} (v:α):∀(p q:List Bool) (t:T α),T.get q (T.set p v t)=if q=p then some v else T.get q t
 |[],q,t=>by
  cases q with
  |nil=>cases t<;>simp[T.set_nil_e,T.set_nil_n,T.get_nil_n]
  |cons b q=>cases t<;>simp[T.set_nil_e,T.set_nil_n,T.get_cons_n,T.get_cons_e,T.get_e]
 |c::p,q,t=>by
  have ih:=T.get_set v p
  cases q with
  |nil=>cases t<;>cases c<;>simp[T.set_true_e,T.set_false_e,T.set_true_n,T.set_false_n,T.get_nil_n,T.get_nil_e]
  |cons b q=>
   cases t with
   |e=>
    cases c<;>cases b<;>simp[T.set_true_e,T.set_false_e,T.get_cons_n,T.get_cons_e,T.get_e,ih]
   |n l x r=>
    cases c<;>cases b<;>simp[T.set_true_n,T.set_false_n,T.get_cons_n,ih]
def pathF:Nat→Nat→List Bool
 |0,_=>[]
 |f+1,k=>if k=0 then[] else(k % 2==1)::pathF f ((k - 1) / 2)
def unpath:List Bool→Nat
 |[]=>0
 |b::p=>2*unpath p+(if b then 1 else 2)
theorem path_eq (k:Nat):path k=pathF (k+1) k:=by
 have:∀f k,Nat.rec (motive:=fun _=>Nat→List Bool) (fun _=>[])
  (fun _ ih k=>Bool.rec (Nat.beq (Nat.mod k 2) 1::ih (Nat.div (Nat.sub k 1) 2)) [] (Nat.beq k 0)) f k=pathF f k:=by
  intro f
  induction f with
  |zero=>intro k;rfl
  |succ f ih=>
   intro k
   simp only[pathF]
   by_cases hk:k=0
   ·subst hk;rfl
   ·have h0:Nat.beq k 0=false:=by
     cases h:Nat.beq k 0 with
     |false=>rfl
     |true=>exact absurd (Nq h) hk
    rw[if_neg hk]
    show(Bool.rec _ _ (Nat.beq k 0):List Bool)=_
    rw[h0]
    show Nat.beq (Nat.mod k 2) 1::_=_
    rw[ih]
    have hb:Nat.beq (Nat.mod k 2) 1=(k % 2==1):=by
     rw[Bool.eq_iff_iff,Nat.beq_eq,beq_iff_eq];exact Iff.rfl
    rw[hb];rfl
 exact this (k+1) k
theorem unpath_pathF:∀(f k:Nat),k<f→unpath (pathF f k)=k
 |0,k,h=>absurd h (Nn _)
 |f+1,k,h=>by
  simp only[pathF]
  by_cases hk:k=0
  ·subst hk;rfl
  ·rw[if_neg hk]
   simp only[unpath]
   rw[unpath_pathF f ((k - 1) / 2) om]
   by_cases hm:k % 2=1
   ·simp[hm];omega
   ·have:(k % 2==1)=false:=by simpa using hm
    rw[this];simp;omega
theorem unpath_path (k:Nat):unpath (path k)=k:=by rw[path_eq];exact unpath_pathF _ _ (Nat.lt_succ_self _)
theorem path_inj {j k:Nat} (h:path j=path k):j=k:=by rw[←unpath_path j,h,unpath_path]
theorem H.get_put (h:H) (id id':Id) (b:Blk):(h.put id b).get id'=if id'=id then some b else h.get id':=T.get_set b id id' h.t
theorem cd_eq {α:Type} (b:Bool) (x y:α):cd b x y=if b then x else y:=by cases b<;>rfl
theorem nth_eq {α:Type}:∀(l:List α) (n:Nat),nth l n=l[n]?
 |[],_=>rfl
 |x::l,0=>rfl
 |x::l,n+1=>nth_eq l n
theorem len_eq {α:Type}:∀(l:List α),len l=l.length
 |[]=>rfl
 |_::l=>congrArg Nat.succ (len_eq l)
theorem cat_eq {α:Type}:∀(a b:List α),cat a b=a++b
 |[],_=>rfl
 |x::a,b=>congrArg (List.cons x) (cat_eq a b)
theorem cut_some {α:Type}:∀(l:List α) (off n:Nat) (r:List α),cut l off n=some r→r=(l.drop off).take n∧off+n≤l.length∧r.length=n∨(n=0∧r=[])
 |[],off,0,r,h=>by
  right;exact⟨rfl,(Oi (show some []=some r from h)).symm⟩
 |[],off,n+1,r,h=>by exact absurd (show(none:Option (List α))=some r from h) (by simp)
 |x::l,0,0,r,h=>by
  right;exact⟨rfl,(Oi (show some []=some r from h)).symm⟩
 |x::l,0,n+1,r,h=>by
  have h':(Option.rec none (fun r=>some (x::r)) (cut l 0 n):Option (List α))=some r:=h
  cases hc:cut l 0 n with
  |none=>rw[hc] at h';exact absurd h' (by simp)
  |some r'=>
   rw[hc] at h'
   have e:x::r'=r:=Oi h'
   subst e
   left
   rcases cut_some l 0 n r' hc with ⟨h1,h2,h3⟩|⟨h1,h2⟩
   ·simp only[List.drop_zero] at h1⊢
    refine⟨by rw[List.take_succ_cons,←h1],by simp;omega,by simp[h3]⟩
   ·subst h1 h2
    simp
 |x::l,o+1,n,r,h=>by
  have h':cut l o n=some r:=h
  rcases cut_some l o n r h' with ⟨h1,h2,h3⟩|h
  ·exact .inl ⟨by simpa using h1,by simp;omega,h3⟩
  ·exact .inr h
theorem cut_get {α:Type}{l:List α}{off n:Nat}{r:List α} (h:cut l off n=some r):r.length=n∧∀j,j<n→r[j]? =l[off+j]? :=by
 rcases cut_some l off n r h with ⟨h1,h2,h3⟩|⟨h1,h2⟩
 ·refine⟨h3,fun j hj=>?_⟩
  rw[h1,List.getElem?_take_of_lt hj,List.getElem?_drop]
 ·subst h1 h2
  exact⟨rfl,fun j hj=>absurd hj (Nn _)⟩
theorem cut_le {α:Type}{l:List α}{off n:Nat}{r:List α} (h:cut l off n=some r) (hn:0<n):off+n≤l.length:=by
 rcases cut_some l off n r h with ⟨_,h2,_⟩|⟨h1,_⟩
 ·exact h2
 ·omega
theorem lay_some {α:Type}:∀(l:List α) (off:Nat) (new r:List α),lay l off new=some r→
 r.length=l.length∧(0<new.length→off+new.length≤l.length)∧∀j,r[j]? =if off≤j∧j<off+new.length then new[j - off]? else l[j]?
 |[],off,[],r,h=>by
  have e:[]=r:=Oi (show some []=some r from h)
  subst e
  exact⟨rfl,by simp,fun j=>by simp⟩
 |[],off,y::ys,r,h=>absurd (show(none:Option (List α))=some r from h) (by simp)
 |x::l,0,[],r,h=>by
  have e:x::l=r:=Oi (show some (x::l)=some r from h)
  subst e
  exact⟨rfl,by simp,fun j=>by simp⟩
 |x::l,0,y::ys,r,h=>by
  have h':(Option.rec none (fun r=>some (y::r)) (lay l 0 ys):Option (List α))=some r:=h
  cases hc:lay l 0 ys with
  |none=>rw[hc] at h';exact absurd h' (by simp)
  |some r'=>
   rw[hc] at h'
   have e:y::r'=r:=Oi h'
   subst e
   obtain⟨h1,h2,h3⟩:=lay_some l 0 ys r' hc
   refine⟨by simp[h1],fun _=>?_,fun j=>?_⟩
   ·cases ys with
    |nil=>simp
    |cons z zs=>have:=h2 (by simp);simp at this⊢;omega
   ·cases j with
    |zero=>simp
    |succ j=>simp[h3 j]
 |x::l,o+1,new,r,h=>by
  have h':(Option.rec none (fun r=>some (x::r)) (lay l o new):Option (List α))=some r:=h
  cases hc:lay l o new with
  |none=>rw[hc] at h';exact absurd h' (by simp)
  |some r'=>
   rw[hc] at h'
   have e:x::r'=r:=Oi h'
   subst e
   obtain⟨h1,h2,h3⟩:=lay_some l o new r' hc
   refine⟨by simp[h1],fun hn=>by have:=h2 hn;simp;omega,fun j=>?_⟩
   cases j with
   |zero=>simp
   |succ j=>
    simp only[List.getElem?_cons_succ,h3 j]
    by_cases hj:o≤j∧j<o+new.length
    ·rw[if_pos hj,if_pos om];congr 1;omega
    ·rw[if_neg hj,if_neg om]
theorem iLe_eq (a b:Int):iLe a b=decide (a≤b):=by
 cases a with
 |ofNat m=>
  cases b with
  |ofNat n=>
   show Nat.ble m n=_
   by_cases h:m≤n
   ·rw[Nc h];symm;simp;omega
   ·have:Nat.ble m n=false:=by
     cases hb:Nat.ble m n with
     |false=>rfl
     |true=>exact absurd (Nb hb) h
    rw[this];symm;simp;omega
  |negSucc n=>show false=_;symm;simp;omega
 |negSucc m=>
  cases b with
  |ofNat n=>show true=_;symm;simp;omega
  |negSucc n=>
   show Nat.ble n m=_
   by_cases h:n≤m
   ·rw[Nc h];symm;simp;omega
   ·have:Nat.ble n m=false:=by
     cases hb:Nat.ble n m with
     |false=>rfl
     |true=>exact absurd (Nb hb) h
    rw[this];symm;simp;omega
theorem beq_nat (m n:Nat):Nat.beq m n=decide (m=n):=by
 by_cases h:m=n
 ·subst h;simp
 ·have:Nat.beq m n=false:=by
   cases hb:Nat.beq m n with
   |false=>rfl
   |true=>exact absurd (Nq hb) h
  rw[this];simp[h]
theorem ble_nat (m n:Nat):Nat.ble m n=decide (m≤n):=by
 by_cases h:m≤n
 ·rw[Nc h];simp[h]
 ·have:Nat.ble m n=false:=by
   cases hb:Nat.ble m n with
   |false=>rfl
   |true=>exact absurd (Nb hb) h
  rw[this];simp[h]
theorem blt_nat (m n:Nat):Nat.blt m n=decide (m<n):=by
 show Nat.ble (m+1) n=_
 rw[ble_nat];rfl
theorem iEq_eq (a b:Int):iEq a b=decide (a=b):=by
 cases a with
 |ofNat m=>
  cases b with
  |ofNat n=>show Nat.beq m n=_;rw[beq_nat];exact decide_eq_decide.2 (by constructor<;>intro h<;>(try simp only[Ioz] at*)<;>omega)
  |negSucc n=>rfl
 |negSucc m=>
  cases b with
  |ofNat n=>rfl
  |negSucc n=>show Nat.beq m n=_;rw[beq_nat];simp
theorem sEq_eq:∀(a b:List Nat),sEq a b=decide (a=b)
 |[],[]=>rfl
 |[],_::_=>rfl
 |_::_,[]=>rfl
 |x::a,y::b=>by
  show cd (Nat.beq x y) (sEq a b) false=_
  rw[cd_eq,beq_nat,sEq_eq a b]
  by_cases h:x=y<;>simp[h]
theorem idEq_eq:∀(a b:Id),idEq a b=decide (a=b)
 |[],[]=>rfl
 |[],_::_=>rfl
 |_::_,[]=>rfl
 |x::a,y::b=>by
  show cd (cd x y (!y)) (idEq a b) false=_
  rw[cd_eq,cd_eq,idEq_eq a b]
  cases x<;>cases y<;>simp
end Go.Ev
namespace Go.Ev
structure Fix where
 f:Nat→Prop
 lo:Nat
 B:Nat
structure Env where
 ρ:Id→Nat×Nat
 h:H
 w:World
 F:Fix
def known (e:Env) (id:Id):Prop:=(e.ρ id).2=0
def live (h:H) (id:Id):Prop:=∃b,h.get id=some b∧b≠.dead
def Own (e:Env) (b:Nat):Prop:=∃id,live e.h id∧(e.ρ id).1=b
def Imm (e:Env) (b:Nat):Prop:=b<e.w.heap.size∧¬e.F.f b∧¬Own e b
def strOf (l:List Nat):ByteArray:=⟨(l.map UInt8.ofNat).toArray⟩
def nilish:Value→Prop
 |.pointer none|.slice none 0 0|.slice (some _) 0 _|.map none|.nilFunc|.nilIface|.float _ _=>True
 |_=>False
def bsize (w:World) (b:Nat):Nat:=match w.heap[b]? with
 |some (.cells c _ _)=>c.size
 |_=>0
def one:AV→Bool
 |.ag _|.tu _|.j=>false
 |_=>true
def CellsAt (w:World) (b o:Nat) (us:List Value):Prop:=∀j v,us[j]? =some v→w.cell? ⟨b,o+j,none⟩=some v
structure Mm where
 imm:Nat→Prop
 B:Nat
def Mle (m m':Mm):Prop:=(∀b,m.imm b→m'.imm b)∧m.B≤m'.B
def relT (m:Mm) (w:World):(t:Ty)→den t→List Value→Prop
 |.int k,n,vs=>vs=[.int k n]
 |.bool,b,vs=>vs=[.bool b]
 |.str,s,vs=>vs=[.string (strOf s)]∧(∀c∈(show List Nat from s),c<256)∧(show List Nat from s).length≤1152921504606846976
 |.unit,_,vs=>vs=[]
 |.pair a b,x,vs=>∃us ws,vs=us++ws∧relT m w a x.1 us∧relT m w b x.2 ws
 |.sl t,xs,vs=>∃v,vs=[v]∧(((show List (den t) from xs)=[]∧v=.slice none 0 0)∨∃a cap,v=.slice (some a) (show List (den t) from xs).length cap∧(show List (den t) from xs).length≤cap∧(show List (den t) from xs).length≤m.B∧
  ((show List (den t) from xs)=[]∨(a.spot=none∧m.imm a.block∧∀i x,(show List (den t) from xs)[i]? =some x→∃us,CellsAt w a.block (a.off+i*wd t) us∧relT m w t x us)))
 |.ptr t,x,vs=>∃b o us,vs=[.pointer (some ⟨b,o,none⟩)]∧m.imm b∧CellsAt w b o us∧relT m w t x us
 |.clo f t,x,vs=>∃ws,vs=[.func (.func f) #[] ws]∧relT m w t x ws.toList
theorem relT_mono {m m':Mm}{w w':World} (hi:Mle m m') (hw:∀b o,m.imm b→w'.cell? ⟨b,o,none⟩=w.cell? ⟨b,o,none⟩):
 ∀(t:Ty) (x:den t) (vs:List Value),relT m w t x vs→relT m' w' t x vs
 |.int _,_,_,h=>h
 |.bool,_,_,h=>h
 |.str,_,_,h=>h
 |.unit,_,_,h=>h
 |.pair a b,x,vs,h=>by
  obtain⟨us,ws,h1,h2,h3⟩:=h
  exact⟨us,ws,h1,relT_mono hi hw a _ _ h2,relT_mono hi hw b _ _ h3⟩
 |.sl t,xs,vs,h=>by
  obtain⟨v,h1,h2⟩:=h
  refine⟨v,h1,?_⟩
  rcases h2 with h2|⟨a,cap,h2,h3,h4⟩
  ·exact .inl h2
  ·obtain⟨hb,h4⟩:=h4
   refine .inr ⟨a,cap,h2,h3,Nt hb hi.2,?_⟩
   rcases h4 with h4|⟨h4,h5,h6⟩
   ·exact .inl h4
   ·refine .inr ⟨h4,hi.1 _ h5,fun i x hx=>?_⟩
    obtain⟨us,h7,h8⟩:=h6 i x hx
    exact⟨us,fun j v hv=>by rw[hw _ _ h5];exact h7 j v hv,relT_mono hi hw t _ _ h8⟩
 |.ptr t,x,vs,h=>by
  obtain⟨b,o,us,h1,h2,h3,h4⟩:=h
  exact⟨b,o,us,h1,hi.1 _ h2,fun j v hv=>by rw[hw _ _ h2];exact h3 j v hv,relT_mono hi hw t _ _ h4⟩
 |.clo f t,x,vs,h=>by
  obtain⟨ws,h1,h2⟩:=h
  exact⟨ws,h1,relT_mono hi hw t _ _ h2⟩
theorem relT_len {m:Mm}{w:World}:∀(t:Ty) (x:den t) (vs:List Value),relT m w t x vs→vs.length=wd t
 |.int _,_,_,h=>by rw[show _=_ from h];rfl
 |.bool,_,_,h=>by rw[show _=_ from h];rfl
 |.str,_,_,h=>by rw[show _=_ from h.1];rfl
 |.unit,_,_,h=>by rw[show _=_ from h];rfl
 |.pair a b,x,vs,h=>by
  obtain⟨us,ws,h1,h2,h3⟩:=h
  rw[h1,La,relT_len a _ _ h2,relT_len b _ _ h3];rfl
 |.sl t,xs,vs,h=>by obtain⟨v,h1,_⟩:=h;rw[h1];rfl
 |.ptr t,x,vs,h=>by obtain⟨b,o,us,h1,_⟩:=h;rw[h1];rfl
 |.clo f t,x,vs,h=>by obtain⟨ws,h1,_⟩:=h;rw[h1];rfl
abbrev mm (e:Env):Mm:=⟨Imm e,e.F.B⟩
mutual
def Rel (e:Env):AV→Value→Prop
 |.i k n,v=>v=.int k n
 |.b x,v=>v=.bool x
 |.s n l,v=>(n=l.length∧n≤1152921504606846976)∧(∀c∈l,c<256)∧v=.string (strOf l)
 |.v x,v=>v=x∧nilish x
 |.p id off,v=>known e id∧v=.pointer (some ⟨(e.ρ id).1,(e.ρ id).2+off,none⟩)
 |.sl id off sz n lo ex,v=>known e id∧∃a cap,v=.slice a n cap∧n≤lo∧lo≤cap∧(ex=true→cap=lo)∧
  (cap=0∨(a=some ⟨(e.ρ id).1,(e.ρ id).2+off,none⟩∧(e.ρ id).2+off+cap*sz≤bsize e.w (e.ρ id).1))
 |.em,v=>∃a,v=.slice a 0 0
 |.isl t xs,v=>relT (mm e) e.w (.sl t) xs [v]
 |.ip t x off,v=>∃b o us,v=.pointer (some ⟨b,o+off,none⟩)∧Imm e b∧CellsAt e.w b o us∧relT (mm e) e.w t x us
 |.f fn first cap,v=>∃vs ws,v=.func fn vs ws∧RelL e first vs.toList∧RelL e cap ws.toList
 |.ifc t x,v=>∃u,v=.iface t u∧Rel e x u
 |.ag cs,v=>(∀c∈cs,one c=true)∧∃vs,v=.agg vs∧RelL e cs vs.toList
 |.tu xs,v=>∃vs,v=.tuple vs∧RelL e xs vs.toList
 |.m id,v=>known e id∧v=.map (some (e.ρ id).1)
 |.j,_=>True
def RelL (e:Env):List AV→List Value→Prop
 |[],[]=>True
 |x::xs,v::vs=>Rel e x v∧RelL e xs vs
 |_,_=>False
end
def RelCells (e:Env):List AV→Nat→Nat→Prop
 |[],_,_=>True
 |x::xs,b,o=>(one x=true∧∃v,e.w.cell? ⟨b,o,none⟩=some v∧Rel e x v)∧RelCells e xs b (o+1)
def RelRows (e:Env) (sz:Nat):List (List AV)→Nat→Nat→Prop
 |[],_,_=>True
 |x::xs,b,o=>x.length=sz∧RelCells e x b o∧RelRows e sz xs b (o+sz)
theorem RelL.append' {e:Env}:∀{xs ys:List AV}{us ws:List Value},RelL e xs us→RelL e ys ws→RelL e (xs++ys) (us++ws)
 |[],ys,[],ws,_,h=>h
 |[],_,_::_,_,h,_=>by simp[RelL] at h
 |_::_,_,[],_,h,_=>by simp[RelL] at h
 |x::xs,ys,u::us,ws,h1,h2=>by
  simp only[RelL] at h1
  simp only[List.cons_append,RelL]
  exact⟨h1.1,RelL.append' h1.2 h2⟩
theorem catA_eq:∀(a b:List AV),catA a b=a++b
 |[],_=>rfl
 |x::a,b=>congrArg (List.cons x) (catA_eq a b)
theorem tc_len:∀(t:Ty) (x:den t),(tc t x).length=wd t
 |.int _,_=>rfl
 |.bool,_=>rfl
 |.str,_=>rfl
 |.unit,_=>rfl
 |.pair a b,x=>by
  show(catA (tc a x.1) (tc b x.2)).length=wd a+wd b
  rw[catA_eq,La,tc_len a,tc_len b]
 |.sl _,_=>rfl
 |.ptr _,_=>rfl
 |.clo _ _,_=>rfl
theorem tc_one:∀(t:Ty) (x:den t),∀c∈tc t x,one c=true
 |.int _,_,c,h=>by rw[List.mem_singleton.1 h];rfl
 |.bool,_,c,h=>by rw[List.mem_singleton.1 h];rfl
 |.str,_,c,h=>by rw[List.mem_singleton.1 h];rfl
 |.unit,_,c,h=>by cases h
 |.pair a b,x,c,h=>by
  have h:c∈catA (tc a x.1) (tc b x.2):=h
  rw[catA_eq,List.mem_append] at h
  rcases h with h|h
  ·exact tc_one a _ c h
  ·exact tc_one b _ c h
 |.sl _,_,c,h=>by rw[List.mem_singleton.1 h];rfl
 |.ptr _,_,c,h=>by rw[List.mem_singleton.1 h];rfl
 |.clo _ _,_,c,h=>by rw[List.mem_singleton.1 h];rfl
theorem relT_relL {e:Env}:∀(t:Ty) (x:den t) (vs:List Value),relT (mm e) e.w t x vs→RelL e (tc t x) vs
 |.int k,n,vs,h=>by
  rw[show vs=[.int k n] from h]
  show RelL e [.i k n] [.int k n]
  simp[RelL,Rel]
 |.bool,b,vs,h=>by
  rw[show vs=[.bool b] from h]
  show RelL e [.b b] [.bool b]
  simp[RelL,Rel]
 |.str,s,vs,h=>by
  obtain⟨h1,h2⟩:=h
  rw[h1]
  show RelL e [.s (U (α:=Nat) s) s] [.string (strOf s)]
  simp only[RelL,Rel,and_true,true_and];exact⟨h2.2,h2.1⟩
 |.unit,_,vs,h=>by
  rw[show vs=[] from h]
  show RelL e [] []
  simp[RelL]
 |.pair a b,x,vs,h=>by
  obtain⟨us,ws,h1,h2,h3⟩:=h
  show RelL e (catA (tc a x.1) (tc b x.2)) vs
  rw[catA_eq,h1]
  exact RelL.append' (relT_relL a _ _ h2) (relT_relL b _ _ h3)
 |.sl t,xs,vs,h=>by
  obtain⟨v,h1,h2⟩:=h
  show RelL e [.isl t xs] vs
  rw[h1]
  simp only[RelL,Rel,and_true]
  exact⟨v,rfl,h2⟩
 |.ptr t,x,vs,h=>by
  obtain⟨b,o,us,h1,h2,h3,h4⟩:=h
  show RelL e [.ip t x 0] vs
  rw[h1]
  simp only[RelL,Rel,and_true]
  exact⟨b,o,us,rfl,h2,h3,h4⟩
 |.clo f t,x,vs,h=>by
  obtain⟨ws,h1,h2⟩:=h
  show RelL e [.f (.func f) [] (tc t x)] vs
  rw[h1]
  simp only[RelL,Rel,and_true]
  exact⟨#[],ws,rfl,by simp[RelL],relT_relL t _ _ h2⟩
theorem relCells_of_relL {e:Env}{b:Nat}:∀{l:List AV}{us:List Value}{o:Nat},RelL e l us→(∀c∈l,one c=true)→CellsAt e.w b o us→RelCells e l b o
 |[],_,_,_,_,_=>by simp[RelCells]
 |x::xs,[],_,h,_,_=>by simp[RelL] at h
 |x::xs,u::us,o,h,ho,hc=>by
  simp only[RelL] at h
  simp only[RelCells]
  refine⟨⟨ho x (by simp),u,by simpa using hc 0 u (by simp),h.1⟩,relCells_of_relL h.2 (fun c h=>ho c (by simp[h])) (fun j v hv=>?_)⟩
  rw[show o+1+j=o+(j+1) by omega]
  exact hc (j+1) v (by simpa using hv)
theorem relT_cells {e:Env}{t:Ty}{x:den t}{us:List Value}{b o:Nat} (h:relT (mm e) e.w t x us) (hc:CellsAt e.w b o us):RelCells e (tc t x) b o:=
 relCells_of_relL (relT_relL t x us h) (tc_one t x) hc
theorem rel_isl {e:Env}{t:Ty}{xs:List (den t)}{v:Value}:Rel e (.isl t xs) v↔(xs=[]∧v=.slice none 0 0)∨∃a cap,v=.slice (some a) xs.length cap∧xs.length≤cap∧xs.length≤e.F.B∧
 (xs=[]∨(a.spot=none∧Imm e a.block∧∀(i:Nat) (x:den t),xs[i]? =some x→∃us,CellsAt e.w a.block (a.off+i*wd t) us∧relT (mm e) e.w t x us)):=by
 simp only[Rel]
 constructor
 ·rintro ⟨u,h1,h2⟩
  obtain rfl:v=u:=by simpa using h1
  exact h2
 ·intro h
  exact⟨v,rfl,h⟩
theorem relT_rows {e:Env}{t:Ty}{b:Nat}:∀{xs:List (den t)}{o:Nat},(∀i x,xs[i]? =some x→∃us,CellsAt e.w b (o+i*wd t) us∧relT (mm e) e.w t x us)→RelRows e (wd t) (xs.map (tc t)) b o
 |[],_,_=>by simp[RelRows]
 |x::xs,o,h=>by
  simp only[List.map_cons,RelRows]
  obtain⟨us,h1,h2⟩:=h 0 x (by simp)
  refine⟨tc_len t x,relT_cells h2 (by simpa using h1),relT_rows (fun i y hy=>?_)⟩
  obtain⟨us,h1,h2⟩:=h (i+1) y (by simpa using hy)
  refine⟨us,?_,h2⟩
  rw[show o+wd t+i*wd t=o+(i+1)*wd t by rw[Nat.add_mul];omega];exact h1
def Qt (w w':World):Prop:=w'.os=w.os∧w'.tape=w.tape∧w'.output=w.output
structure Ext (e e':Env):Prop where
 next:e.h.next≤e'.h.next
 kn:∀id,known e id→known e' id
 ren:∀id,known e id→e'.ρ id=e.ρ id
 fr:e'.F=e.F
 heap:e.w.heap.size≤e'.w.heap.size
 keep:∀b,b<e.w.heap.size→¬Own e b→e'.w.heap[b]? =e.w.heap[b]?
 size:∀b,b<e.w.heap.size→bsize e'.w b=bsize e.w b
 own:∀b,b<e.w.heap.size→Own e' b→Own e b
 pres:∀id b,e.h.get id=some b→∃b',e'.h.get id=some b'
 newk:∀id,known e' id→known e id∨∃b,e'.h.get id=some b
 qt:Qt e.w e'.w
theorem Ext.refl (e:Env):Ext e e:=⟨Nr _,fun _ h=>h,fun _ _=>rfl,rfl,Nr _,fun _ _ _=>rfl,fun _ _=>rfl,fun _ _ h=>h,fun _ b h=>⟨b,h⟩,fun _ h=>.inl h,⟨rfl,rfl,rfl⟩⟩
theorem Ext.trans {a b c:Env} (x:Ext a b) (y:Ext b c):Ext a c where
 next:=Nt x.next y.next
 kn:=fun id k=>y.kn id (x.kn id k)
 ren:=fun id k=>(y.ren id (x.kn id k)).trans (x.ren id k)
 fr:=y.fr.trans x.fr
 heap:=Nt x.heap y.heap
 keep:=fun b hb ho=>by
  rw[y.keep b (Nl hb x.heap) (fun h=>ho (x.own b hb h)),x.keep b hb ho]
 size:=fun b hb=>(y.size b (Nl hb x.heap)).trans (x.size b hb)
 own:=fun b hb h=>x.own b hb (y.own b (Nl hb x.heap) h)
 pres:=fun id b h=>let⟨b1,h1⟩:=x.pres id b h;y.pres id b1 h1
 newk:=fun id h=>by
  rcases y.newk id h with h|h
  ·rcases x.newk id h with h|⟨b,h⟩
   ·exact .inl h
   ·exact .inr (y.pres id b h)
  ·exact .inr h
 qt:=⟨y.qt.1.trans x.qt.1,y.qt.2.1.trans x.qt.2.1,y.qt.2.2.trans x.qt.2.2⟩
theorem Imm.ext {e e':Env}{b:Nat} (h:Imm e b) (x:Ext e e'):Imm e' b:=
 ⟨Nl h.1 x.heap,by rw[x.fr];exact h.2.1,fun ho=>h.2.2 (x.own b h.1 ho)⟩
theorem cell_of_heap {w w':World}{b:Nat} (h:w'.heap[b]? =w.heap[b]?) (o:Nat):w'.cell? ⟨b,o,none⟩=w.cell? ⟨b,o,none⟩:=by
 simp only[World.cell?,h]
theorem Imm.cell {e e':Env}{b:Nat} (h:Imm e b) (x:Ext e e') (o:Nat):e'.w.cell? ⟨b,o,none⟩=e.w.cell? ⟨b,o,none⟩:=
 cell_of_heap (x.keep b h.1 h.2.2) o
theorem bsize_lt {w:World}{b n:Nat} (h:n<bsize w b):b<w.heap.size:=by
 unfold bsize at h
 split at h
 ·rename_i he;exact(Array.getElem?_eq_some_iff.1 he).1
 ·omega
mutual
theorem Rel.ext {e e':Env} (x:Ext e e'):∀(a:AV) (v:Value),Rel e a v→Rel e' a v
 |.i ..,_,h=>by simpa[Rel] using h
 |.b ..,_,h=>by simpa[Rel] using h
 |.s ..,_,h=>by simpa[Rel] using h
 |.v ..,_,h=>by simpa[Rel] using h
 |.p id off,v,h=>by
  simp only[Rel] at h⊢
  exact⟨x.kn _ h.1,by rw[x.ren id h.1];exact h.2⟩
 |.sl id off sz n lo ex,v,h=>by
  simp only[Rel] at h⊢
  obtain⟨k,a,cap,hv,h1,h2,h3,h4⟩:=h
  refine⟨x.kn _ k,a,cap,hv,h1,h2,h3,?_⟩
  rcases h4 with h4|⟨h4,h5⟩
  ·exact .inl h4
  ·rw[x.ren id k]
   by_cases hb:(e.ρ id).1<e.w.heap.size
   ·exact .inr ⟨h4,by rw[x.size _ hb];exact h5⟩
   ·have:bsize e.w (e.ρ id).1=0:=by
     rcases Nat.eq_zero_or_pos (bsize e.w (e.ρ id).1) with h|h
     ·exact h
     ·exact absurd (bsize_lt h) hb
    rw[this] at h5
    exact .inr ⟨h4,om⟩
 |.em,_,h=>by simpa[Rel] using h
 |.isl t xs,v,h=>by
  simp only[Rel] at h⊢
  exact relT_mono (m:=mm e) (m':=mm e') ⟨fun b (hb:Imm e b)=>hb.ext x,by show e.F.B≤e'.F.B;rw[x.fr];exact Nr _⟩ (fun b o (hb:Imm e b)=>hb.cell x o) _ _ _ h
 |.ip t y off,v,h=>by
  simp only[Rel] at h⊢
  obtain⟨b,o,us,hv,hi,hc,hr⟩:=h
  exact⟨b,o,us,hv,hi.ext x,fun j v hv=>by rw[hi.cell x];exact hc j v hv,relT_mono (m:=mm e) (m':=mm e') ⟨fun b (hb:Imm e b)=>hb.ext x,by show e.F.B≤e'.F.B;rw[x.fr];exact Nr _⟩ (fun b o (hb:Imm e b)=>hb.cell x o) _ _ _ hr⟩
 |.f fn first cap,v,h=>by
  simp only[Rel] at h⊢
  obtain⟨vs,ws,hv,h1,h2⟩:=h
  exact⟨vs,ws,hv,RelL.ext x _ _ h1,RelL.ext x _ _ h2⟩
 |.ifc t y,v,h=>by
  simp only[Rel] at h⊢
  obtain⟨u,hv,hu⟩:=h
  exact⟨u,hv,Rel.ext x _ _ hu⟩
 |.ag cs,v,h=>by
  simp only[Rel] at h⊢
  obtain⟨h1,vs,hv,h2⟩:=h
  exact⟨h1,vs,hv,RelL.ext x _ _ h2⟩
 |.tu xs,v,h=>by
  simp only[Rel] at h⊢
  obtain⟨vs,hv,h2⟩:=h
  exact⟨vs,hv,RelL.ext x _ _ h2⟩
 |.m id,v,h=>by
  simp only[Rel] at h⊢
  exact⟨x.kn _ h.1,by rw[x.ren id h.1];exact h.2⟩
 |.j,_,h=>by simp[Rel]
theorem RelL.ext {e e':Env} (x:Ext e e'):∀(a:List AV) (v:List Value),RelL e a v→RelL e' a v
 |[],[],_=>by simp[RelL]
 |[],_::_,h=>by simp[RelL] at h
 |_::_,[],h=>by simp[RelL] at h
 |a::as_,v::vs,h=>by
  simp only[RelL] at h⊢
  exact⟨Rel.ext x _ _ h.1,RelL.ext x _ _ h.2⟩
end
def EntRel (e:Env):List (AV×AV)→List MapEntry→Prop
 |[],[]=>True
 |(k,v)::r,m::ms=>Rel e k m.key∧Rel e v m.val∧EntRel e r ms
 |_,_=>False
theorem EntRel.ext {e e':Env} (x:Ext e e'):∀(a:List (AV×AV)) (m:List MapEntry),EntRel e a m→EntRel e' a m
 |[],[],_=>trivial
 |[],_::_,h=>h.elim
 |(_,_)::_,[],h=>h.elim
 |(_,_)::_,_::_,h=>⟨Rel.ext x _ _ h.1,Rel.ext x _ _ h.2.1,EntRel.ext x _ _ h.2.2⟩
def BlkRel (e:Env) (id:Id):Blk→Prop
 |.cs el l fz=>∃c fr,e.w.heap[(e.ρ id).1]? =some (.cells c el fr)∧(e.ρ id).2+l.length≤c.size∧
  (∀j x,l[j]? =some x→one x=true∧∃v,c[(e.ρ id).2+j]? =some v∧Rel e x v)∧
  (fz=false→∀o,fr.1≤o→o<fr.2→c.size≤o)∧(e.ρ id).2=0
 |.mp es=>∃ms clock,e.w.heap[(e.ρ id).1]? =some (.map ms clock)∧EntRel e es ms.toList
 |.it s pos=>(e.ρ id).2=0∧(∀c∈s,c<256)∧e.w.heap[(e.ρ id).1]? =some (.stringIter (strOf s) pos)
 |.dead=>True
structure St (e:Env):Prop where
 kn:∀id,known e id→∃k,k<e.h.next∧id=path k∧(e.F.lo≤k→∃b,e.h.get id=some b)
 dk:∀id b,e.h.get id=some b→known e id
 lo:e.F.lo≤e.h.next
 blk:∀id b,e.h.get id=some b→BlkRel e id b
 inj:∀id id',live e.h id→live e.h id'→(e.ρ id).1=(e.ρ id').1→id=id'
 fr:∀b,e.F.f b→b<e.w.heap.size∧¬Own e b
theorem St.num {e:Env} (s:St e){id:Id}{b:Blk} (h:e.h.get id=some b):∃k,k<e.h.next∧id=path k:=
 let⟨k,hk,he,_⟩:=s.kn id (s.dk id b h);⟨k,hk,he⟩
theorem St.lt {e:Env} (s:St e){id:Id} (h:live e.h id):(e.ρ id).1<e.w.heap.size:=by
 obtain⟨b,hb,hd⟩:=h
 have:=s.blk id b hb
 cases b with
 |cs el l fz=>obtain⟨c,fr,h,_⟩:=this;exact(Array.getElem?_eq_some_iff.1 h).1
 |mp es=>obtain⟨ms,clock,h,_⟩:=this;exact(Array.getElem?_eq_some_iff.1 h).1
 |it s pos=>obtain⟨_,_,h⟩:=this;exact(Array.getElem?_eq_some_iff.1 h).1
 |dead=>exact absurd rfl hd
theorem BlkRel.ext {e e':Env} (x:Ext e e'){id:Id} (k:known e id) (hw:e'.w.heap[(e.ρ id).1]? =e.w.heap[(e.ρ id).1]?):∀b,BlkRel e id b→BlkRel e' id b
 |.cs el l fz,h=>by
  obtain⟨c,fr,h1,h2,h3,h4⟩:=h
  simp only[BlkRel,x.ren id k,hw]
  refine⟨c,fr,h1,h2,fun j y hy=>?_,h4⟩
  obtain⟨ho,v,hv,hr⟩:=h3 j y hy
  exact⟨ho,v,hv,Rel.ext x _ _ hr⟩
 |.mp es,h=>by
  obtain⟨ms,clock,h1,h2⟩:=h
  simp only[BlkRel,x.ren id k,hw]
  exact⟨ms,clock,h1,EntRel.ext x _ _ h2⟩
 |.it s pos,h=>by
  simp only[BlkRel,x.ren id k,hw] at h⊢
  exact h
 |.dead,_=>trivial
theorem Rel.one_cell {e:Env}{x:AV}{v:Value} (h:Rel e x v) (ho:one x=true):v.oneCell'=true:=by
 cases x
 case isl t xs=>rcases rel_isl.1 h with ⟨_,h⟩|⟨_,_,h,_⟩<;>(subst h;rfl)
 all_goals simp only[Rel,one] at h ho
 all_goals first
  |(subst h;rfl)
  |(obtain⟨_,_,h⟩:=h;subst h;rfl)
  |(obtain⟨h,hn⟩:=h;subst h;cases v<;>simp_all [nilish,Value.oneCell'])
  |(obtain⟨_,h⟩:=h;subst h;rfl)
  |(obtain⟨_,_,_,h,_⟩:=h;subst h;rfl)
  |(obtain⟨_,_,h,_⟩:=h;subst h;rfl)
  |(obtain⟨_,h,_⟩:=h;subst h;rfl)
  |exact h
  |(simp at ho)
end Go.Ev
namespace Go.Ev
structure Gs where
 tab:Nat→Option (Sigma den)
 B:Nat
 ints:Nat→Bool
 ifs:Nat→Bool
section
variable (P:Program) (G:Gs)
def mkPath (k:Nat):List Bool:=pathF (k+1) k
def bytesOf (s:ByteArray):List Nat:=s.data.toList.map (·.toNat)
def avOf:Value→Option AV
 |.bool x=>some (.b x)
 |.int k n=>some (.i k n)
 |.string s=>match Nat.ble s.size 1152921504606846976 with|true=>some (.s s.size (bytesOf s))|false=>none
 |.pointer none=>some (.v (.pointer none))
 |.slice none 0 0=>some (.v (.slice none 0 0))
 |.map none=>some (.v (.map none))
 |.nilFunc=>some (.v .nilFunc)
 |.nilIface=>some (.v .nilIface)
 |.float k n=>some (.v (.float k n))
 |_=>none
def avOfs:List Value→Option (List AV)
 |[]=>some []
 |v::vs=>match avOf v,avOfs vs with
  |some x,some xs=>some (x::xs)
  |_,_=>none
def avOfAny:Value→Option AV
 |.agg cs=>(avOfs cs.toList).map .ag
 |.tuple vs=>if vs.size=0 then some (.tu []) else none
 |v=>avOf v
def od:Operand→Option Od
 |.tmp t=>some (.t (mkPath t))
 |.const v=>(avOfAny v).map .c
 |.global g=>(G.tab g).map fun q=>.c (.ip q.1 q.2 0)
 |.func f=>some (.c (.f (.func f) [] []))
def ods:List Operand→Option (List Od)
 |[]=>some []
 |x::xs=>match od G x,ods xs with
  |some y,some ys=>some (y::ys)
  |_,_=>none
def odo:Option Operand→Option (Option Od)
 |none=>some none
 |some x=>(od G x).map some
def zeroOf (t:TypeId):Option (List AV):=(P.info? t).bind fun i=>i.zero.bind fun z=>avOfs z.cells.toList
def zeroAny (t:TypeId):Option AV:=(P.info? t).bind fun i=>i.zero.bind avOfAny
def sizeOf? (t:TypeId):Option Nat:=(P.info? t).map (·.size)
def bytesOf? (t:TypeId):Option Nat:=(P.info? t).map (·.bytes)
def isAggD:TypeDesc→Bool
 |.struct _|.array _ _=>true
 |_=>false
def isAgg? (t:TypeId):Option Bool:=(P.underlying t).map isAggD
def elemOf? (t:TypeId):Option TypeId:=(P.underlying t).bind fun|.slice e=>some e|_=>none
def skOf (t:TypeId):Option SK:=(P.underlying t).bind fun
 |.string=>some .str
 |.slice e=>(sizeOf? P e).map .sli
 |.array n e=>(sizeOf? P e).map (.arr n)
 |_=>none
def isIntT (t:TypeId):Bool:=match P.underlying t with
 |some (.int _)=>true
 |_=>false
def isU8 (t:TypeId):Bool:=match P.underlying t with
 |some (.int .u8)=>true
 |_=>false
def compBuiltin (b:Builtin) (ts:Array TypeId) (args:List Od):Option AOp:=
 match b,args with
 |.len,[x]=>(ts[0]?).bind fun t=>(P.underlying t).bind fun
  |.string=>some (.len .str x)
  |.slice _=>some (.len .sli x)
  |.map _ _=>some (.len .map x)
  |_=>none
 |.cap,[x]=>(ts[0]?).bind fun t=>(elemOf? P t).map fun _=>.o2 (.cap x)
 |.append,[x,y]=>(ts[0]?).bind fun t=>(ts[1]?).bind fun t'=>(elemOf? P t).bind fun e=>(sizeOf? P e).bind fun sz=>(bytesOf? P e).bind fun by_=>
  (zeroOf P e).bind fun z=>if sz=0∨by_=0∨z.length≠sz∨ts.size≠2 then none else(P.underlying t').bind fun
   |.int _=>some (.o2 (.appz e sz by_ z x y))
   |.slice _=>some (.o2 (.app e sz by_ x y))
   |.string=>if sz=1 then some (.o2 (.app e sz by_ x y)) else none
   |_=>none
 |.clear,[x]=>(ts[0]?).bind fun t=>(elemOf? P t).bind fun e=>(sizeOf? P e).bind fun sz=>(zeroOf P e).bind fun z=>if sz=0∨z.length≠sz then none else some (.o2 (.clr sz z x))
 |.max,xs=>some (.o2 (.mx xs))
 |.min,xs=>some (.o2 (.mn xs))
 |.unsafeSliceData,[x]=>some (.o2 (.usd x))
 |.unsafeString,[x,y]=>(ts[0]?).bind fun t=>(P.underlying t).bind fun
  |.pointer e=>(sizeOf? P e).bind fun sz=>if sz=1∧ts.size=2 then some (.o2 (.ust e x y)) else none
  |_=>none
 |_,_=>none
def compCall (c:Call):Option AOp:=(ods G c.args.toList).bind fun args=>
 match c.callee with
 |.value (.func f)=>some (.call f args)
 |.value (.tmp t)=>some (.o2 (.callv (.t (mkPath t)) args))
 |.builtin b=>compBuiltin P b c.argTypes args
 |_=>none
def partsOf (off:Nat→Option (Nat×Nat)):List (Nat×Operand)→Option (List (Nat×Nat×Od))
 |[]=>some []
 |(i,x)::r=>match off i,od G x,partsOf off r with
  |some (o,n),some y,some ys=>if n=0 then none else some ((o,n,y)::ys)
  |_,_,_=>none
def compConv (s d:TypeDesc) (x:Od):Option AOp:=
 match s,d with
 |.int _,.int k=>some (.cvi k x)
 |.string,.slice e=>if isU8 P e then some (.o2 (.cvsb e x)) else none
 |.slice e,.string=>if isU8 P e then some (.o2 (.cvbs x)) else none
 |.pointer t,.unsafePointer=>(sizeOf? P t).bind fun n=>if n=0 then none else some (.o2 (.cvp1 x))
 |.unsafePointer,.pointer u=>(sizeOf? P u).bind fun n=>if n=0 then none else some (.o2 (.cvp2 u n x))
 |_,_=>none
def isEq:BinOp→Option Bool
 |.eql=>some false
 |.neq=>some true
 |_=>none
def isConstO:Operand→Bool
 |.const _=>true
 |_=>false
def flatKs (P:Program):List Field→Nat→Option (List Nat)
 |[],_=>some []
 |f::fs,i=>if f.name != "_" &&Nat.beq f.offset i then(match P.underlying f.type with
  |some (.int _)=>(flatKs P fs (i+1)).map (1::·)
  |some .bool=>(flatKs P fs (i+1)).map (2::·)
  |some .string=>(flatKs P fs (i+1)).map (3::·)
  |_=>none) else none
def keyKind (t:TypeId):Option Nat:=(P.underlying t).bind fun
 |.int _=>some 0
 |.string=>some 1
 |.struct fs=>if flatKs P fs.toList 0=some [3,3]∧P.stoodInHeld t=false then some 2 else none
 |_=>none
def compOp (op:Op):Option AOp:=
 match op with
 |.move x|.assign x=>(od G x).map .mv
 |.pick c a b=>(od G c).bind fun c=>(od G a).bind fun a=>(od G b).map fun b=>.pick c a b
 |.alloc e=>(zeroOf P e).map (.new e)
 |.box e x=>(sizeOf? P e).bind fun n=>(od G x).map (.box e n)
 |.build t ps=>(zeroOf P t).bind fun z=>(P.underlying t).bind fun
  |.struct fs=>(fs.toList.mapM (fun f=>(P.info? f.type).map fun i=>(f.offset,i.size))).bind fun places=>(partsOf G (fun i=>places.toArray[i]?) ps.toList).map (.bld z)
  |.array _ e=>(sizeOf? P e).bind fun sz=>(partsOf G (fun i=>some (i*sz,sz)) ps.toList).map (.bld z)
  |_=>none
 |.buildSlice t len ps=>(elemOf? P t).bind fun e=>(sizeOf? P e).bind fun sz=>(zeroOf P e).bind fun z=>
  if sz=0∨len*sz>2 ^ 24∨z.length≠sz then none else
  (partsOf G (fun i=>some (i*sz,sz)) ps.toList).map fun l=>.o2 (.bsl e sz len z l)
 |.load t a=>(isAgg? P t).bind fun ag=>(sizeOf? P t).bind fun n=>(od G a).map fun a=>if ag then .ldn n a else .ld1 a
 |.store t a x=>(sizeOf? P t).bind fun n=>(od G a).bind fun a=>(od G x).bind fun x=>if n=0 then none else some (.st n a x)
 |.nilCheck x=>(od G x).map .nilc
 |.binOp o t x y _=>(od G x).bind fun x'=>(od G y).bind fun y'=>(P.underlying t).bind fun
  |.int _|.string=>some (.bin o x' y')
  |.bool=>(isEq o).map fun neg=>.o2 (.eqb neg x' y')
  |.slice _=>(isEq o).map fun neg=>.o2 (.eqn neg .sli x' y')
  |.pointer el=>(isEq o).bind fun neg=>(sizeOf? P el).bind fun n=>if n=0 then none else some (.o2 (.eqn neg .ptr x' y'))
  |.map _ _=>(isEq o).map fun neg=>.o2 (.eqn neg .map x' y')
  |.func _ _ _=>(isEq o).map fun neg=>.o2 (.eqn neg .fn x' y')
  |.interface _=>(isEq o).bind fun neg=>if isConstO x||isConstO y then some (.o2 (.eqn neg .ifc x' y')) else none
  |.struct fs=>(isEq o).bind fun neg=>(flatKs P fs.toList 0).bind fun ks=>if P.stoodInHeld t||P.eqGuardType P.depth t then none else some (.o2 (.eqs neg ks x' y'))
  |_=>none
 |.unOp o _ x=>(od G x).map (.un o)
 |.convert s d x=>(od G x).bind fun x=>(P.underlying s).bind fun s=>(P.underlying d).bind fun d=>compConv P s d x
 |.makeInterface t x=>(P.underlying t).bind fun
  |.interface _=>none
  |_=>(od G x).map fun x=>.o2 (.mkif t x)
 |.makeFunc fn a b=>(ods G a.toList).bind fun a=>(ods G b.toList).map fun b=>.o2 (.mkfn fn a b)
 |.slice t x l h m=>(skOf P t).bind fun k=>(od G x).bind fun x=>(odo G l).bind fun l=>(odo G h).bind fun h=>(odo G m).bind fun m=>if h.isNone&&m.isSome then none else match k with
  |.arr _ _=>none
  |k=>some (.slc k x l h m)
 |.fieldAddr t x f=>(P.underlying t).bind fun
  |.struct fs=>(fs[f]?).bind fun f=>(sizeOf? P f.type).bind fun n=>if n=0 then none else(od G x).map (.fa f.offset)
  |_=>none
 |.field t x f=>(P.underlying t).bind fun
  |.struct fs=>(fs[f]?).bind fun f=>(sizeOf? P f.type).bind fun n=>(isAgg? P f.type).bind fun ag=>(od G x).map fun x=>.o2 (.fld f.offset (if ag then some n else none) x)
  |_=>none
 |.indexAddr t x ix=>(skOf P t).bind fun k=>(od G x).bind fun x=>(od G ix).map fun ix=>.ia k x ix
 |.index t x ix=>(od G x).bind fun x=>(od G ix).bind fun ix=>(P.underlying t).bind fun
  |.string=>some (.ixs x ix)
  |_=>none
 |.extract x i=>(od G x).map fun x=>.ext x i
 |.makeMap t none=>(P.underlying t).bind fun
  |.map _ _=>some (.o2 .mkmap)
  |_=>none
 |.makeSlice t l c=>(elemOf? P t).bind fun e=>(sizeOf? P e).bind fun sz=>(bytesOf? P e).bind fun by_=>(zeroOf P e).bind fun z=>
  if sz=0∨z.length≠sz∨by_=0 then none else(od G l).bind fun l=>(od G c).map fun c=>.o2 (.mksl e sz by_ z l c)
 |.lookup t x ix ok=>(P.underlying t).bind fun
  |.map k e=>(keyKind P k).bind fun kd=>(zeroAny P e).bind fun z=>(od G x).bind fun x=>(od G ix).map fun ix=>.o2 (.lk kd z x ix ok)
  |_=>none
 |.mapUpdate t x k v=>(P.underlying t).bind fun
  |.map kt _=>(keyKind P kt).bind fun kd=>(od G x).bind fun x=>(od G k).bind fun k=>(od G v).map fun v=>.o2 (.mu kd x k v)
  |_=>none
 |.call c=>compCall P G c
 |_=>none
def compO (nt:Nat) (ops:Array Oper) (o:Oper):AO:=
 let okDst:Bool:=match o.dst with
  |none=>true
  |some d=>d<nt
 {dst:=o.dst.map mkPath,
  op:=if okDst then(compOp P G o.op).getD (.o2 .bad) else .o2 .bad,
  k:=0,
  g:=o.guard.map fun(j,b)=>(mkPath (((ops[j]?).bind (·.dst)).getD nt),b)}
def AOp2.ods:AOp2→List Od
 |.bsl _ _ _ _ ps=>ps.map (·.2.2)
 |.cvsb _ x|.cvbs x|.cvp1 x|.cvp2 _ _ x|.mkif _ x|.fld _ _ x|.cap x|.clr _ _ x|.usd x=>[x]
 |.mkfn _ a b=>a++b
 |.mkmap|.bad=>[]
 |.mksl _ _ _ _ x y|.lk _ _ x y _|.app _ _ _ x y|.appz _ _ _ _ x y|.ust _ x y|.eqb _ x y|.eqn _ _ x y|.eqs _ _ x y=>[x,y]
 |.mu _ x k v=>[x,k,v]
 |.callv f as_=>f::as_
 |.mx xs|.mn xs=>xs
def AOp.ods:AOp→List Od
 |.mv x|.ld1 x|.fa _ x|.nilc x|.ext x _|.ldn _ x|.box _ _ x|.len _ x|.un _ x|.cvi _ x=>[x]
 |.bin _ x y|.st _ x y|.ia _ x y|.ixs x y=>[x,y]
 |.call _ as_=>as_
 |.new _ _=>[]
 |.slc _ x a b c=>x::(a.toList++b.toList++c.toList)
 |.pick a b c=>[a,b,c]
 |.bld _ ps=>ps.map (·.2.2)
 |.o2 o=>o.ods
def slotOf:Od→List (List Bool)
 |.t p=>[p]
 |.c _=>[]
def AO.looks (o:AO):List (List Bool):=o.op.ods.flatMap slotOf++(match o.g with|some q=>[q.1]|none=>[])
def predM (o:Oper) (acc:List Nat):Nat:=o.after.toList.foldr (fun e s=>if Region.binds .any e then s|||(2 ^ e.on|||acc.getD e.on 0) else s) 0
def predsGo:List Oper→List Nat→List Nat
 |[],acc=>acc
 |o::r,acc=>predsGo r (acc++[predM o acc])
def bfr (P:List Nat) (i j:Nat):Bool:=(P.getD j 0).testBit i
def isX (l:List AO) (i:Nat):Bool:=match l[i]? with
 |some o=>o.op.cls==.X
 |none=>false
def isA (l:List AO) (i:Nat):Bool:=match l[i]? with
 |some o=>o.op.cls==.A
 |none=>false
def kOf (l:List AO) (i:Nat):Nat:=match l[i]? with
 |some o=>o.k
 |none=>0
def dstOf (l:List AO) (i:Nat):Option (List Bool):=match l[i]? with
 |some o=>o.dst
 |none=>none
def edgesOk (o:Oper) (i:Nat):Bool:=o.after.toList.all fun e=> !Region.binds .any e||decide (e.on<i)
def chkD (na:Nat) (ops:List Oper) (P:List Nat) (l:List AO):Bool:=
 (List.range ops.length).all (fun i=>match ops[i]? with|some o=>edgesOk o i|none=>false)&&
 (List.range l.length).all fun i=>match l[i]? with
  |none=>false
  |some o=>
   ((o.looks++o.dst.toList).all fun t=>(List.range l.length).all fun j=>i==j||dstOf l j !=some t||bfr P i j||bfr P j i)&&
   (!isX l i||(List.range l.length).all fun j=>i==j|| !isX l j||bfr P i j||bfr P j i)&&
   (!isA l i||(decide (o.k<na)&&(List.range l.length).all fun j=>i==j|| !isA l j||kOf l j !=o.k))
def cX (l:List AO) (i:Nat):Nat:=((List.range i).filter (isX l)).length
def ksOf (P:List Nat) (l:List AO) (i:Nat):List Nat:=((List.range l.length).filter fun a=>isA l a&&bfr P a i).map (kOf l)
def jsOf (P:List Nat) (l:List AO) (i:Nat):List Nat:=
 (List.range (cX l l.length+1)).filter fun j=>(List.range l.length).all fun x=> !isX l x||(if cX l x<j then !bfr P i x else !bfr P x i)
def isR (o:AO):Bool:=o.op.cls==.R
def drawOf (P:List Nat) (l:List AO):List DO:=
 l.zipIdx.map fun(o,i)=>⟨o,ksOf P l i,if isR o then(jsOf P l i).filter (fun j=>j !=cX l i) else[]⟩
def number:List AO→Nat→List AO×Nat
 |[],k=>([],k)
 |o::r,k=>
  let(r',n):=number r (if o.op.cls=.A then k+1 else k)
  ({o with k:=k}::r',n)
def compC (nt:Nat):Code→AC
 |.skip=>.skip
 |.region _ ops d=>
  let(l,na):=number (ops.toList.map (compO P G nt ops)) 0
  if !d then .reg na l else
   let P:=predsGo ops.toList []
   if chkD na ops.toList P l then .dreg na (drawOf P l) else .bad
 |.seq a b=>.seq (compC nt a) (compC nt b)
 |.cond c a b=>match od G c with
  |some x=>.cond x (compC nt a) (compC nt b)
  |none=>.bad
 |.block id b=>.blk id (compC nt b)
 |.loop b=>.loop (compC nt b)
 |.exit id=>.exit id
 |.ret=>.ret
 |_=>.bad
def compRes (r:ResultVar):Option (List Bool×Option (Option Nat)):=match r with
 |.tmp t=>some (mkPath t,none)
 |.cell a t=>(isAgg? P t).bind fun ag=>(sizeOf? P t).map fun n=>(mkPath a,some (if ag then some n else none))
def compResL:List ResultVar→Option (List (List Bool×Option (Option Nat)))
 |[]=>some []
 |r::rs=>match compRes P r,compResL rs with
  |some x,some xs=>some (x::xs)
  |_,_=>none
def compF (fn:Func):Option AF:=fn.body.bind fun b=>(compResL P fn.results.toList).map fun res=>{np:=fn.ntmps,res,body:=compC P G fn.ntmps b}
end
end Go.Ev
namespace Go.Ev
def FrRel (e:Env) (fr:T AV) (tmps:Array Value):Prop:=∀k,Rel e (getV fr (path k)) (tmps.getD k undef)
def GRel (G:Gs) (e:Env):Prop:=e.F.B=G.B∧(∀g q,G.tab g=some q→Rel e (.ip q.1 q.2 0) (.pointer (some ⟨g,0,none⟩))∧bsize e.w g=wd q.1)∧(∀g,G.ints g=true→∃m:Int,Rel e (.ip (.int .i64) m 0) (.pointer (some ⟨g,0,none⟩)))∧∀g,G.ifs g=true→Rel e (.ip .unit () 0) (.pointer (some ⟨g,0,none⟩))∧∃v,e.w.cell? ⟨g,0,none⟩=some v∧(v=.nilIface∨∃t p,v=.iface t p)
theorem FrRel.ext {e e':Env} (x:Ext e e'){fr:T AV}{tmps:Array Value} (h:FrRel e fr tmps):FrRel e' fr tmps:=fun k=>Rel.ext x _ _ (h k)
theorem imm_ptr {e:Env}{g:Nat} (h:Rel e (.ip .unit () 0) (.pointer (some ⟨g,0,none⟩))):Imm e g:=by
 simp only[Rel] at h
 obtain⟨b,o,us,hv,hi,_⟩:=h
 injection hv with hv;injection hv with hv;injection hv with g1 g2
 rw[g1];exact hi
theorem GRel.ext {G:Gs}{e e':Env} (x:Ext e e') (h:GRel G e):GRel G e':=⟨by rw[x.fr];exact h.1,fun g cs hg=>⟨Rel.ext x _ _ (h.2.1 g cs hg).1,by
 obtain⟨h1,h2⟩:=h.2.1 g cs hg
 simp only[Rel] at h1
 obtain⟨b,o,us,hv,hi,_⟩:=h1
 injection hv with hv;injection hv with hv;injection hv with g1 g2
 rw[x.size g (by rw[g1];exact hi.1),h2]⟩,fun g hg=>let⟨m,hm⟩:=h.2.2.1 g hg;⟨m,Rel.ext x _ _ hm⟩,fun g hg=>let⟨h1,v,h2,h3⟩:=h.2.2.2 g hg;⟨Rel.ext x _ _ h1,v,by rw[(imm_ptr h1).cell x];exact h2,h3⟩⟩
theorem mkPath_eq (k:Nat):mkPath k=path k:=(path_eq k).symm
theorem rel_undef (e:Env):Rel e undefA undef:=by
 simp only[undefA,undef,Rel];exact⟨#[],rfl,by simp[RelL]⟩
theorem getV_set (fr:T AV) (p q:List Bool) (v:AV):getV (T.set p v fr) q=if q=p then v else getV fr q:=by
 unfold getV
 rw[T.get_set]
 by_cases h:q=p<;>simp[h]
theorem FrRel.put {e:Env}{fr:T AV}{a:Act} (h:FrRel e fr a.tmps){d:Option Nat}{v:AV}{cv:Value} (hd:∀k,d=some k→k<a.tmps.size) (hv:Rel e v cv):
 FrRel e (setD (d.map mkPath) v fr) (a.put d cv).tmps:=by
 cases d with
 |none=>exact h
 |some d=>
  intro k
  show Rel e (getV (T.set (mkPath d) v fr) (path k)) _
  rw[getV_set,mkPath_eq]
  have hlt:=hd d rfl
  by_cases hk:k=d
  ·subst hk
   simp only[Act.put,if_true]
   rw[Ag,Array.getElem?_setIfInBounds_self_of_lt hlt]
   exact hv
  ·rw[if_neg (fun hp=>hk (path_inj hp))]
   simp only[Act.put]
   rw[Ag,Array.getElem?_setIfInBounds_ne (Ne.symm hk),←Ag]
   exact h k
theorem put_size (a:Act) (d:Option Nat) (v:Value):(a.put d v).tmps.size=a.tmps.size:=by
 cases d<;>simp[Act.put]
theorem put_defers (a:Act) (d:Option Nat) (v:Value):(a.put d v).defers=a.defers:=by
 cases d<;>rfl
theorem bytes_lt (s:ByteArray):∀c∈bytesOf s,c<256:=by
 intro c hc
 simp only[bytesOf,List.mem_map] at hc
 obtain⟨u,_,rfl⟩:=hc
 exact u.toNat_lt
theorem strOf_bytes (s:ByteArray):strOf (bytesOf s)=s:=by
 obtain⟨d⟩:=s
 simp only[strOf,bytesOf,List.map_map]
 have:(d.toList.map (UInt8.ofNat∘fun x=>x.toNat))=d.toList:=by
  conv=>rhs;rw[←List.map_id d.toList]
  apply List.map_congr_left
  intro u _
  simp
 rw[this]
theorem rel_avOf {e:Env}{v:Value}{x:AV} (h:avOf v=some x):Rel e x v∧one x=true:=by
 unfold avOf at h
 split at h<;>first
  |(simp at h;done)
  |(rename_i s
    cases hb:Nat.ble s.size 1152921504606846976 with
    |true=>
     rw[hb] at h
     simp only[Oj] at h;subst h
     refine⟨?_,rfl⟩
     simp only[Rel]
     refine⟨⟨?_,Nb hb⟩,bytes_lt _,by rw[strOf_bytes]⟩
     simp only[bytesOf,Lm];rfl
    |false=>rw[hb] at h;cases h)
  |(simp only[Oj] at h;subst h;simp[Rel,one,nilish];done)
theorem rel_avOfs {e:Env}:∀{vs:List Value}{xs:List AV},avOfs vs=some xs→RelL e xs vs∧∀x∈xs,one x=true
 |[],xs,h=>by simp only[avOfs,Oj] at h;subst h;simp[RelL]
 |v::vs,xs,h=>by
  simp only[avOfs] at h
  split at h
  ·rename_i x ys hx hy
   simp only[Oj] at h;subst h
   have h1:=rel_avOf (e:=e) hx
   have h2:=rel_avOfs (e:=e) hy
   refine⟨by simp only[RelL];exact⟨h1.1,h2.1⟩,fun z hz=>?_⟩
   rcases List.mem_cons.1 hz with rfl|hz
   ·exact h1.2
   ·exact h2.2 z hz
  ·simp at h
theorem rel_avOfAny {e:Env}{v:Value}{x:AV} (h:avOfAny v=some x):Rel e x v:=by
 unfold avOfAny at h
 split at h
 ·rename_i cs
  cases hc:avOfs cs.toList with
  |none=>simp[hc] at h
  |some l=>
   simp only[hc,Option.map_some,Oj] at h;subst h
   have:=rel_avOfs (e:=e) hc
   simp only[Rel];exact⟨this.2,cs,rfl,this.1⟩
 ·rename_i vs
  split at h
  ·rename_i hz
   simp only[Oj] at h;subst h
   simp only[Rel]
   refine⟨vs,rfl,?_⟩
   have:vs.toList=[]:=by
    have:vs=#[]:=by simpa using hz
    rw[this]
   rw[this];simp[RelL]
  ·simp at h
 ·exact(rel_avOf h).1
section
variable {G:Gs}{e:Env}{fr:T AV}{a:Act}
theorem od_rel (hf:FrRel e fr a.tmps) (hg:GRel G e){x:Operand}{y:Od} (h:od G x=some y):Rel e (ev y fr) (a.eval x):=by
 cases x with
 |tmp t=>
  simp only[od,Oj] at h;subst h
  show Rel e (getV fr (mkPath t)) _
  rw[mkPath_eq];exact hf t
 |const v=>
  simp only[od] at h
  cases hv:avOfAny v with
  |none=>simp[hv] at h
  |some z=>
   simp only[hv,Option.map_some,Oj] at h;subst h
   exact rel_avOfAny hv
 |global g=>
  simp only[od] at h
  cases hv:G.tab g with
  |none=>simp[hv] at h
  |some z=>
   simp only[hv,Option.map_some,Oj] at h;subst h
   exact(hg.2.1 g z hv).1
 |func f=>
  simp only[od,Oj] at h;subst h
  show Rel e (.f (.func f) [] []) (.func (.func f) #[] #[])
  simp only[Rel];exact⟨#[],#[],rfl,by simp[RelL],by simp[RelL]⟩
theorem ods_rel (hf:FrRel e fr a.tmps) (hg:GRel G e):∀{xs:List Operand}{ys:List Od},ods G xs=some ys→RelL e (evs ys fr) (xs.map a.eval)
 |[],ys,h=>by simp only[ods,Oj] at h;subst h;show RelL e [] [];simp[RelL]
 |x::xs,ys,h=>by
  simp only[ods] at h
  split at h
  ·rename_i y zs hy hz
   simp only[Oj] at h;subst h
   show RelL e (ev y fr::evs zs fr) (a.eval x::xs.map a.eval)
   simp only[RelL];exact⟨od_rel hf hg hy,ods_rel hf hg hz⟩
  ·simp at h
end
def OpS (P:Program) (o:Oper) (e:Env) (a:Act) (v:AV) (h':H):Prop:=
 ∀(next:Act→World→Prop) (Q:Exit→Act→World→Prop),
  (∀cv e',e'.h=h'→St e'→Ext e e'→Rel e' v cv→next (a.put o.dst cv) e'.w)→o.wp P a e.w next Q
theorem OpS.value {P:Program}{o:Oper}{e:Env}{a:Act}{v:AV}{h':H}{cv:Value}{w':World} (hr:(execOp a.eval o).run P e.w=.ok (.value cv) w')
 (ρ':Id→Nat×Nat) (hs:St ⟨ρ',h',w',e.F⟩) (hx:Ext e ⟨ρ',h',w',e.F⟩) (hv:Rel ⟨ρ',h',w',e.F⟩ v cv):OpS P o e a v h':=by
 intro next Q k
 unfold Oper.wp
 rw[hr,Oper.upon_value]
 exact k cv ⟨ρ',h',w',e.F⟩ rfl hs hx hv
theorem OpS.skip {P:Program}{o:Oper}{e:Env}{a:Act}{v:AV}{h':H}{w':World} (hr:(execOp a.eval o).run P e.w=.ok .skip w')
 (ρ':Id→Nat×Nat) (hs:St ⟨ρ',h',w',e.F⟩) (hx:Ext e ⟨ρ',h',w',e.F⟩) (hv:Rel ⟨ρ',h',w',e.F⟩ v undef):OpS P o e a v h':=by
 intro next Q k
 unfold Oper.wp
 rw[hr,Oper.upon_skip]
 exact k undef ⟨ρ',h',w',e.F⟩ rfl hs hx hv
theorem OpS.same {P:Program}{o:Oper}{e:Env}{a:Act}{v:AV}{cv:Value} (hs:St e) (hr:(execOp a.eval o).run P e.w=.ok (.value cv) e.w) (hv:Rel e v cv):OpS P o e a v e.h:=
 OpS.value hr e.ρ hs (Ext.refl _) hv
theorem okV_inv {h h':H}{x:Option AV}{v:AV} (hr:okV h x=.ok v h'):x=some v∧h'=h:=by
 cases x with
 |none=>exact absurd (show R.no=.ok v h' from hr) (by simp)
 |some y=>
  have:R.ok y h=.ok v h':=hr
  injection this with h1 h2
  subst h1 h2;exact⟨rfl,rfl⟩
theorem run_info {P:Program}{t:TypeId}{i:TypeInfo} (h:P.info? t=some i) (w:World):(typeInfo t).run P w=.ok i w:=by
 simp[typeInfo,h]
theorem run_size {P:Program}{t:TypeId}{n:Nat} (h:sizeOf? P t=some n) (w:World):(sizeOf t).run P w=.ok n w:=by
 unfold sizeOf? at h
 cases hi:P.info? t with
 |none=>simp[hi] at h
 |some i=>
  simp only[hi,Option.map_some,Oj] at h;subst h
  simp[sizeOf,run_info hi]
theorem run_isAgg {P:Program}{t:TypeId}{b:Bool} (h:isAgg? P t=some b) (w:World):(isAgg t).run P w=.ok b w:=by
 unfold isAgg? at h
 cases hi:P.underlying t with
 |none=>simp[hi] at h
 |some d=>
  simp only[hi,Option.map_some,Oj] at h;subst h
  cases d<;>simp[isAgg,run_underlying hi,isAggD]
theorem run_zero {P:Program}{t:TypeId}{z:List AV} (h:zeroOf P t=some z) (w:World):∃v,(zeroValue t).run P w=.ok v w∧avOfs v.cells.toList=some z:=by
 unfold zeroOf at h
 cases hi:P.info? t with
 |none=>simp[hi] at h
 |some i=>
  simp only[hi,Option.bind_some] at h
  cases hz:i.zero with
  |none=>simp[hz] at h
  |some v=>
   simp only[hz,Option.bind_some] at h
   exact⟨v,by simp[zeroValue,run_info hi,hz],h⟩
end Go.Ev
end
