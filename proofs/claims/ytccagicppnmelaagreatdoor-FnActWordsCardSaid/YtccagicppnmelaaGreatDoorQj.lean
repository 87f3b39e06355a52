/- A part of the proof that FnActWords returns true for every input and leaves its argument as it was; no condition. -/
import Derived.Test.YtccagicppnmelaaGreatDoorQi
import Derived.Test.YtccagicppnmelaaGreatDoorQg
import Derived.Test.YtccagicppnmelaaGreatDoorQa
set_option linter.all false
open List renaming length→U
open Int renaming ofNat→J,toNat→Jn
noncomputable section
namespace Go.Ev
open Go.Proofs
def allT {rs:List Par} (T:BT (denL qS×denL rs)) (xs:List (List Nat)):Bool:=List.rec true (fun x _ ih=>cd (inT T (x,())) ih false) xs
def allI {rs:List Par} (T:BT (denL qI×denL rs)) (xs:List Int):Bool:=List.rec true (fun x _ ih=>cd (inT T (x,())) ih false) xs
theorem allT_get {rs:List Par}{T:BT (denL qS×denL rs)}:∀{xs:List (den .str)}{i:Nat},allT T xs=true→i<xs.length→inT T (gt .str xs i,())=true
 |[],i,_,h=>absurd h (Nn _)
 |x::xs,i,h,hi=>by
  have h:cd (inT T (x,())) (allT T xs) false=true:=h
  obtain⟨h1,h2⟩:=cd_true h
  cases i with
  |zero=>exact h1
  |succ i=>exact allT_get (xs:=xs) h2 (Nat.lt_of_succ_lt_succ hi)
theorem allI_get {rs:List Par}{T:BT (denL qI×denL rs)}:∀{xs:List (den (.int .i64))}{i:Nat},allI T xs=true→i<xs.length→inT T (gt (.int .i64) xs i,())=true
 |[],i,_,h=>absurd h (Nn _)
 |x::xs,i,h,hi=>by
  have h:cd (inT T (x,())) (allI T xs) false=true:=h
  obtain⟨h1,h2⟩:=cd_true h
  cases i with
  |zero=>exact h1
  |succ i=>exact allI_get (xs:=xs) h2 (Nat.lt_of_succ_lt_succ hi)
theorem allT_drop {rs:List Par}{T:BT (denL qS×denL rs)}:∀{xs:List (List Nat)} (n:Nat),allT T xs=true→allT T (xs.drop n)=true
 |_,0,h=>by simpa using h
 |[],n+1,h=>h
 |x::xs,n+1,h=>by
  have h:cd (inT T (x,())) (allT T xs) false=true:=h
  exact allT_drop n (cd_true h).2
theorem allT_take {rs:List Par}{T:BT (denL qS×denL rs)}:∀{xs:List (List Nat)} (n:Nat),allT T xs=true→allT T (xs.take n)=true
 |_,0,h=>by rw[List.take_zero];rfl
 |[],n+1,h=>h
 |x::xs,n+1,h=>by
  have h:cd (inT T (x,())) (allT T xs) false=true:=h
  obtain⟨h1,h2⟩:=cd_true h
  show cd (inT T (x,())) (allT T (xs.take n)) false=true
  rw[h1,allT_take n h2];rfl
theorem sw_in {k:Int} (h0:@LE.le Int _ 0 k) (h1:@LE.le Int _ k 7):inT tSw (k,())=true:=by
 have:k=0∨k=1∨k=2∨k=3∨k=4∨k=5∨k=6∨k=7:=om
 rcases this with rfl|rfl|rfl|rfl|rfl|rfl|rfl|rfl<;>rfl
theorem ss_in {k:Int} (h0:@LE.le Int _ 0 k) (h1:@LE.le Int _ k 7):inT tSs (k,())=true:=by
 have:k=0∨k=1∨k=2∨k=3∨k=4∨k=5∨k=6∨k=7:=om
 rcases this with rfl|rfl|rfl|rfl|rfl|rfl|rfl|rfl<;>rfl
def inR (n:Int):Bool:=cd (iLe (.negSucc 9223372036854775807) n) (iLe n (J 9223372036854775807)) false
theorem inR_of {n:Int} (h:inR n=true):@LE.le Int _ (-9223372036854775808) n∧@LE.le Int _ n 9223372036854775807:=by
 obtain⟨h1,h2⟩:=cd_true h
 exact⟨ile_t h1,ile_t h2⟩
def allR (xs:List Int):Bool:=List.rec true (fun x _ ih=>cd (inR x) ih false) xs
theorem allR_get:∀{xs:List (den (.int .i64))}{i:Nat},allR xs=true→i<xs.length→@LE.le Int _ (-9223372036854775808) (gt (.int .i64) xs i)∧@LE.le Int _ (gt (.int .i64) xs i) 9223372036854775807
 |[],i,_,h=>absurd h (Nn _)
 |x::xs,i,h,hi=>by
  have h:cd (inR x) (allR xs) false=true:=h
  obtain⟨h1,h2⟩:=cd_true h
  cases i with
  |zero=>exact inR_of h1
  |succ i=>exact allR_get (xs:=xs) h2 (Nat.lt_of_succ_lt_succ hi)
def allLn (xs:List (List Nat)):Bool:=List.rec true (fun x _ ih=>cd (Nat.ble (U (α:=Nat) x) 1000000) ih false) xs
theorem allLn_get:∀{xs:List (den .str)}{i:Nat},allLn xs=true→i<xs.length→U (α:=Nat) (gt .str xs i)≤4294967280
 |[],i,_,h=>absurd h (Nn _)
 |x::xs,i,h,hi=>by
  have h:cd (Nat.ble (U (α:=Nat) x) 1000000) (allLn xs) false=true:=h
  obtain⟨h1,h2⟩:=cd_true h
  cases i with
  |zero=>exact Nt (Nb h1) (by decide)
  |succ i=>exact allLn_get (xs:=xs) h2 (Nat.lt_of_succ_lt_succ hi)
theorem valT_all {ps rs:List Par}{T:BT (denL ps×denL rs)} (p:denL rs→Bool) (hd:p (dfR rs)=true) (hT:T.list.all (fun q=>p q.2)=true) (x:denL ps):p (valT T x)=true:=by
 unfold valT
 cases hl:lookB T x with
 |none=>exact hd
 |some y=>exact List.all_eq_true.1 hT _ (lookB_mem hl)
theorem c30_r (x:List Nat):@LE.le Int _ (-9223372036854775808) (c30 x).1∧@LE.le Int _ (c30 x).1 9223372036854775807:=
 inR_of (valT_all (T:=tRi) (fun y=>inR y.1) kr kr (x,()))
theorem c19_l (k:Int):U (α:=Nat) (c19 k).1≤1000:=
 Nb (valT_all (T:=tSs) (fun y=>Nat.ble (U (α:=Nat) y.1) 1000) kr kr (k,()))
theorem joinN_1 (s x:List Nat):U (α:=Nat) (joinN s [x])=U (α:=Nat) x:=by
 show U (cat x (joinT s []))=_
 rw[cat_eq];show U (x++[])=_;simp
theorem joinN_2 (s x y:List Nat):U (α:=Nat) (joinN s [x,y])=U (α:=Nat) x+U (α:=Nat) s+U (α:=Nat) y:=by
 show U (cat x (cat s (cat y [])))=_
 rw[cat_eq,cat_eq,cat_eq];simp;omega
theorem allLn_1 {x:List Nat} (h:U (α:=Nat) x≤1000):allLn [x]=true:=by
 show cd (Nat.ble (U (α:=Nat) x) 1000000) true false=true
 rw[Nc om];rfl
theorem allLn_2 {x y:List Nat} (h:U (α:=Nat) x≤1000) (h':U (α:=Nat) y≤1000):allLn [x,y]=true:=by
 show cd (Nat.ble (U (α:=Nat) x) 1000000) (allLn [y]) false=true
 rw[Nc om,allLn_1 h'];rfl
def allE (xs:List (List Nat)):Bool:=List.rec true (fun x _ ih=>cd (cd (nilB x) false (Nat.ble (U (α:=Nat) x) 1000)) ih false) xs
theorem allE_get:∀{xs:List (den .str)}{i:Nat},allE xs=true→i<xs.length→0<U (α:=Nat) (gt .str xs i)∧U (α:=Nat) (gt .str xs i)≤1000
 |[],i,_,h=>absurd h (Nn _)
 |x::xs,i,h,hi=>by
  have h:cd (cd (nilB x) false (Nat.ble (U (α:=Nat) x) 1000)) (allE xs) false=true:=h
  obtain⟨h1,h2⟩:=cd_true h
  cases i with
  |zero=>
   cases hn:nilB x with
   |true=>rw[hn] at h1;cases h1
   |false=>rw[hn] at h1;exact⟨nilB_f hn,Nb h1⟩
  |succ i=>exact allE_get (xs:=xs) h2 (Nat.lt_of_succ_lt_succ hi)
theorem c158_l (x:List Nat):U (α:=Nat) (c158 x).1≤1000:=
 Nb (valT_all (T:=tPl) (fun y=>Nat.ble (U (α:=Nat) y.1) 1000) kr kr (x,()))
def allB (xs:List Int):Bool:=List.rec true (fun x _ ih=>cd (cd (iLe (J 0) x) (iLe x (J 255)) false) ih false) xs
theorem allB_get:∀{xs:List (den (.int .u8))}{i:Nat},allB xs=true→i<xs.length→@LE.le Int _ 0 (gt (.int .u8) xs i)∧@LE.le Int _ (gt (.int .u8) xs i) 255
 |[],i,_,h=>absurd h (Nn _)
 |x::xs,i,h,hi=>by
  have h:cd (cd (iLe (J 0) x) (iLe x (J 255)) false) (allB xs) false=true:=h
  obtain⟨h1,h2⟩:=cd_true h
  obtain⟨h1,h3⟩:=cd_true h1
  cases i with
  |zero=>exact⟨ile_t h1,ile_t h3⟩
  |succ i=>exact allB_get (xs:=xs) h2 (Nat.lt_of_succ_lt_succ hi)
theorem and255 (x:Int):@LE.le Int _ 0 (wr .i64 ((IntKind.u64).wrap (BitVec.ofInt (IntKind.u64).bits x&&& BitVec.ofInt (IntKind.u64).bits (J 255)).toNat))∧@LE.le Int _ (wr .i64 ((IntKind.u64).wrap (BitVec.ofInt (IntKind.u64).bits x&&& BitVec.ofInt (IntKind.u64).bits (J 255)).toNat)) 255:=by
 have h0:(BitVec.ofInt (IntKind.u64).bits x&&& BitVec.ofInt (IntKind.u64).bits (J 255)).toNat≤255:=by
  rw[BitVec.toNat_and]
  exact Nat.and_le_right
 generalize (BitVec.ofInt (IntKind.u64).bits x&&& BitVec.ofInt (IntKind.u64).bits (J 255)).toNat=n at h0
 have h1:(IntKind.u64).wrap (n:Int)=n:=by
  show((n:Int) % 18446744073709551616:Int)=n
  omega
 rw[h1,wr_id om om]
 exact⟨om,om⟩
end Go.Ev
end
noncomputable section
namespace Go.Ev
open Go.Proofs
set_option maxRecDepth 100000
variable {Bn:Nat}
abbrev tyAct:Ty:=.pair (.int .i64) (.pair (.int .i64) (.pair .str (.pair .str (.pair (.sl .str) (.pair (.sl .str) (.sl (.int .i64)))))))
abbrev qW:List Par:=[⟨false,.sl .str⟩]
abbrev qA:List Par:=[⟨true,tyAct⟩]
def tJ:List (List (List Nat)×List (List Nat)×List (List Nat)):=[([],[],[]),([[34,97,34],[49],[105,110],[34,105,110,34]],[[97],[49]],[[105,110]]),([[34,97,34],[49],[105,110],[34,105,110,34],[48]],[[97],[49]],[[105,110],[48]]),([[34,97,34],[49],[105,110],[34,105,110,34],[105,110]],[[97],[49]],[[105,110]]),([[34,97,34],[49],[105,110],[34,105,110,34,120]],[[97],[49]],[[]]),([[34,97,34],[50]],[[97],[50]],[]),([[34,97,34],[50],[105,110],[34,105,110,34]],[[97],[50]],[[105,110]]),([[34,97,34],[50],[105,110],[34,105,110,34],[48]],[[97],[50]],[[105,110],[48]]),([[34,97,34],[50],[105,110],[34,105,110,34],[105,110]],[[97],[50]],[[105,110]]),([[34,97,34],[50],[105,110],[34,105,110,34,120]],[[97],[50]],[[]]),([[34,97,34],[53]],[[97],[53]],[]),([[34,97,34],[53],[105,110],[34,105,110,34]],[[97],[53]],[[105,110]]),([[34,97,34],[53],[105,110],[34,105,110,34],[48]],[[97],[53]],[[105,110],[48]]),([[34,97,34],[53],[105,110],[34,105,110,34],[105,110]],[[97],[53]],[[105,110]]),([[34,97,34],[53],[105,110],[34,105,110,34,120]],[[97],[53]],[[]]),([[49],[49],[105,110],[34,105,110,34]],[[49],[49]],[[105,110]]),([[49],[49],[105,110],[34,105,110,34],[48]],[[49],[49]],[[105,110],[48]]),([[49],[49],[105,110],[34,105,110,34],[105,110]],[[49],[49]],[[105,110]]),([[49],[49],[105,110],[34,105,110,34,120]],[[49],[49]],[[]]),([[49],[50]],[[49],[50]],[]),([[49],[50],[105,110],[34,105,110,34]],[[49],[50]],[[105,110]]),([[49],[50],[105,110],[34,105,110,34],[48]],[[49],[50]],[[105,110],[48]]),([[49],[50],[105,110],[34,105,110,34],[105,110]],[[49],[50]],[[105,110]]),([[49],[50],[105,110],[34,105,110,34,120]],[[49],[50]],[[]]),([[49],[51]],[[49],[51]],[]),([[49],[53]],[[49],[53]],[]),([[49],[53],[105,110],[34,105,110,34]],[[49],[53]],[[105,110]]),([[49],[53],[105,110],[34,105,110,34],[48]],[[49],[53]],[[105,110],[48]]),([[49],[53],[105,110],[34,105,110,34],[105,110]],[[49],[53]],[[105,110]]),([[49],[53],[105,110],[34,105,110,34,120]],[[49],[53]],[[]]),([[50],[49],[105,110],[34,105,110,34]],[[50],[49]],[[105,110]]),([[50],[49],[105,110],[34,105,110,34],[48]],[[50],[49]],[[105,110],[48]]),([[50],[49],[105,110],[34,105,110,34],[105,110]],[[50],[49]],[[105,110]]),([[50],[49],[105,110],[34,105,110,34,120]],[[50],[49]],[[]]),([[50],[50],[105,110],[34,105,110,34]],[[50],[50]],[[105,110]]),([[50],[50],[105,110],[34,105,110,34],[48]],[[50],[50]],[[105,110],[48]]),([[50],[50],[105,110],[34,105,110,34],[105,110]],[[50],[50]],[[105,110]]),([[50],[50],[105,110],[34,105,110,34,120]],[[50],[50]],[[]]),([[50],[53],[105,110],[34,105,110,34]],[[50],[53]],[[105,110]]),([[50],[53],[105,110],[34,105,110,34],[48]],[[50],[53]],[[105,110],[48]]),([[50],[53],[105,110],[34,105,110,34],[105,110]],[[50],[53]],[[105,110]]),([[50],[53],[105,110],[34,105,110,34,120]],[[50],[53]],[[]]),([[55],[34,97,110,110,34]],[[55],[97,110,110]],[]),([[55],[34,98,111,98,34]],[[55],[98,111,98]],[]),([[55],[34,120,94,121,34]],[[55],[120,94,121]],[]),([[56],[34,97,110,110,34]],[[56],[97,110,110]],[]),([[56],[34,98,111,98,34]],[[56],[98,111,98]],[]),([[56],[34,120,94,121,34]],[[56],[120,94,121]],[]),([[105,110],[34,104,105,34]],[],[[104,105]])]
def eJ (x1 x2:List Nat) (q:List (List Nat)×List (List Nat)×List (List Nat)):denL qA:=(((1:Int),(0:Int),x1,x2,q.2.1,q.2.2,[]),())
theorem runJ (x0 x1 x2:List Nat):tJ.map (fun q=>runR Bn [k165] EX 60 106 qW qA (x0::x1::x2::q.1,()))=tJ.map (fun q=>some (eJ x1 x2 q)):=kr
def eqW (xs ys:List (List Nat)):Bool:=eqT (.sl .str) xs ys
def lookJ (T:List (List (List Nat)×List (List Nat)×List (List Nat))) (l:List (List Nat)):Option (List (List Nat)×List (List Nat)×List (List Nat)):=List.rec none (fun q _ ih=>cd (eqW q.1 l) (some q) ih) T
theorem lookJ_mem {l:List (List Nat)}{q:List (List Nat)×List (List Nat)×List (List Nat)}:∀{T},lookJ T l=some q→q∈T∧q.1=l
 |[],h=>by cases h
 |r::T,h=>by
  have h:cd (eqW r.1 l) (some r) (lookJ T l)=some q:=h
  cases hb:eqW r.1 l with
  |true=>
   rw[hb] at h
   obtain rfl:=Oi h
   exact⟨Mc ..,eqT_eq (.sl .str) _ _ hb⟩
  |false=>
   rw[hb] at h
   obtain⟨h1,h2⟩:=lookJ_mem (T:=T) h
   exact⟨Lo _ h1,h2⟩
def fJ (l:List (List Nat)):Option (denL qA):=match l with
 |_::x1::x2::r=>Option.rec none (fun q=>some (eJ x1 x2 q)) (lookJ tJ r)
 |_=>none
def inJ (l:List (List Nat)):Bool:=Option.rec false (fun _=>true) (fJ l)
def c106 (a0:List (List Nat)):denL qA:=Option.rec (dfR qA) (fun y=>y) (fJ a0)
def k106:Con:=⟨106,qW,qA,fun x=>fJ x.1⟩
theorem p106 {a0:List (List Nat)} (h:inJ a0=true):k106.F (a0,())=some (c106 a0):=by
 show fJ a0=_
 unfold inJ at h;unfold c106
 cases hl:fJ a0 with
 |none=>rw[hl] at h;cases h
 |some y=>rfl
theorem o106 [BOk Bn]:ConOk PP (GG Bn) k106:=⟨kr,fun x y h=>by
 obtain⟨l,u⟩:=x
 replace h:fJ l=some y:=h
 unfold fJ at h
 split at h
 ·rename_i x0 x1 x2 r
  cases hl:lookJ tJ r with
  |none=>rw[hl] at h;cases h
  |some q=>
   rw[hl] at h
   obtain rfl:=Oi h
   obtain⟨h1,h2⟩:=lookJ_mem hl
   subst h2
   exact run_kok (L:=[k165]) (okC o165 ok0) EX_ok (List.map_inj_left.1 (runJ x0 x1 x2) q h1)
 ·cases h⟩
end Go.Ev
end
