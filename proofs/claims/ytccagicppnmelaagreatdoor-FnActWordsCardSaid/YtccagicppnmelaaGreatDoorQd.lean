/- A part of the proof that FnActWords returns true for every input and leaves its argument as it was; no condition. -/
import Derived.Test.YtccagicppnmelaaGreatDoorQc
import Derived.Test.YtccagicppnmelaaGreatDoorQa
import Derived.LoopN
import Derived.Laws.Sem
import Derived.Lib.Bytealg
import Derived.Lib.Index
import Derived.KernelRfl
set_option linter.all false
open List renaming length→U
open Int renaming ofNat→J,toNat→Jn
noncomputable section
set_option linter.unusedVariables false
set_option linter.unusedSimpArgs false
set_option linter.all false
namespace Go.Ev
section
variable {P:Program}{G:Gs}{call:CallF}{base na nt:Nat}{opsA:Array Oper}{l:List AO}{σ:Nat→DS}{val:Nat→AV}{fr0:T AV}{e0:Env}{a0:Act}
def inS (l:List AO) (S:Nat→Bool) (κ:Nat):Prop:=∃a,S a=true∧isA l a=true∧kOf l a=κ
structure HS (l:List AO) (σ:Nat→DS) (S:Nat→Bool) (m:Nat) (h:H):Prop where
 mom:∀x,isX l x=true→(S x=true↔x<m)
 le:m≤l.length
 next:h.next=(σ m).cur.h.next
 mem:∀p∈(σ l.length).mks,inS l S p.k→p.k∉(σ m).cur.cons→h.get p.id=some p.b
 rest:∀id,(∀p∈(σ l.length).mks,inS l S p.k→p.k∉(σ m).cur.cons→p.id≠id)→h.get id=(σ m).cur.h.get id
structure Inv (G:Gs) (nt:Nat) (l:List AO) (σ:Nat→DS) (val:Nat→AV) (fr0:T AV) (e0:Env) (a0:Act) (S:Nat→Bool) (e:Env) (a:Act):Prop where
 st:St e
 ext:Ext e0 e
 gr:GRel G e
 fr:FrRel e (frS l val fr0 S l.length) a.tmps
 size:a.tmps.size=nt
 defers:a.defers=a0.defers
 hs:∃m,HS l σ S m e.h
theorem inS_add {S:Nat→Bool}{i κ:Nat} (h:inS l (addS S i) κ):inS l S κ∨(isA l i=true∧kOf l i=κ):=by
 obtain⟨a,h1,h2,h3⟩:=h
 unfold addS at h1
 by_cases ha:a=i
 ·subst ha;exact .inr ⟨h2,h3⟩
 ·rw[if_neg ha] at h1;exact .inl ⟨a,h1,h2,h3⟩
theorem inS_mono {S:Nat→Bool}{i κ:Nat} (h:inS l S κ):inS l (addS S i) κ:=by
 obtain⟨a,h1,h2,h3⟩:=h
 refine⟨a,?_,h2,h3⟩
 unfold addS
 split
 ·rfl
 ·exact h1
section
variable (r:Run call base na opsA.toList l σ val) (h00:(σ 0).fr=fr0){S:Nat→Bool} (hS:∀i,S i=true→Direct opsA.toList S i){i:Nat} (hi:i<l.length) (hn:S i=false) (hd:Direct opsA.toList S i)
include r hS hd
theorem pre_in {p:Nat} (h:bfr (predsGo opsA.toList []) p i=true):S p=true:=closed r.stat.edges hS i hd p h
include hn in
theorem not_behind {j:Nat} (hj:S j=true):bfr (predsGo opsA.toList []) i j=false:=by
 cases h:bfr (predsGo opsA.toList []) i j with
 |false=>rfl
 |true=>rw[closed r.stat.edges hS j (hS j hj) i h] at hn;cases hn
include hn hi h00 in
theorem looks_eq {o:AO} (ho:l[i]? =some o){t:List Bool} (ht:t∈o.looks):getV (frS l val fr0 S l.length) t=getV (σ i).fr t:=by
 rw[r.fr_eq fr0 h00 i (Nat.le_of_lt hi)]
 have ext:∀m,i≤m→getV (frS l val fr0 (fun j=>decide (j<i)) m) t=getV (frS l val fr0 (fun j=>decide (j<i)) i) t:=by
  intro m hm
  induction m with
  |zero=>have:i=0:=om
         subst this;rfl
  |succ m ih=>
   by_cases he:i=m+1
   ·rw[he]
   ·simp only[frS]
    rw[if_neg (by simp;omega)]
    exact ih om
 rw[←ext l.length (Nat.le_of_lt hi)]
 refine frS_agree (fun j hj hdj=>?_)
 by_cases hji:j=i
 ·subst hji;rw[hn];simp
 ·rcases r.stat.tmps i o t j ho (.inl ht) (Ne.symm hji) hdj with h|h
  ·have hlt:=r.lt h
   have:S j=false:=by
    cases hSj:S j with
    |false=>rfl
    |true=>rw[not_behind r hS hn hd hSj] at h;cases h
   rw[this];simp;omega
  ·rw[pre_in r hS hd h]
   have:=r.lt h
   simp[this]
include hn hi h00 in
theorem op_eq {o:AO} (ho:l[i]? =some o) (cl:CallF) (h:H) (id:Nat):evOp cl o.op (frS l val fr0 S l.length) h id=evOp cl o.op (σ i).fr h id:=by
 apply evOp_congr
 intro x hx
 cases x with
 |c v=>rfl
 |t p=>
  show getV _ p=getV _ p
  refine looks_eq r h00 hS hi hn hd ho ?_
  unfold AO.looks
  rw[List.mem_append]
  left
  rw[List.mem_flatMap]
  exact⟨_,hx,by simp[slotOf]⟩
include hn hi h00 in
theorem wanted_eq {o:AO} (ho:l[i]? =some o):wanted o.g (frS l val fr0 S l.length)=wanted o.g (σ i).fr:=by
 cases hg:o.g with
 |none=>rfl
 |some q=>
  show isB (getV _ q.1) q.2=isB (getV _ q.1) q.2
  rw[looks_eq r h00 hS hi hn hd ho (t:=q.1)]
  unfold AO.looks
  rw[List.mem_append]
  right
  rw[hg];simp
include hn in
theorem frame_add (hi:i<l.length){o:AO} (ho:l[i]? =some o) (q:List Bool):getV (frS l val fr0 (addS S i) l.length) q=getV (setD o.dst (val i) (frS l val fr0 S l.length)) q:=by
 have:=frS_add (l:=l) (val:=val) (fr0:=fr0) (S:=S) (i:=i) hn (fun j t hj h1 h2=>by
  by_cases hji:j=i
  ·subst hji;rw[hn] at hj;cases hj
  ·rcases r.stat.tmps i o t j ho (.inr (by rw[←dstOf_of ho];exact h1)) (Ne.symm hji) h2 with h|h
   ·rw[not_behind r hS hn hd hj] at h;cases h
   ·exact r.lt h) q l.length
 rw[this,if_pos hi,dstOf_of ho]
theorem HS.same {m:Nat}{h:H} (hh:HS l σ S m h){o:AO} (ho:l[i]? =some o) (hx:isX l i=false) (hm:(σ (i+1)).mks=(σ i).mks):HS l σ (addS S i) m h where
 mom:=fun x hxx=>by
  unfold addS
  by_cases he:x=i
  ·subst he;rw[hx] at hxx;cases hxx
  ·rw[if_neg he];exact hh.mom x hxx
 le:=hh.le
 next:=hh.next
 mem:=fun p hp hin hc=>by
  rcases inS_add hin with h1|⟨h1,h2⟩
  ·exact hh.mem p hp h1 hc
  ·exact absurd h2 (r.mk_none ho hm hp h1)
 rest:=fun id hid=>hh.rest id (fun p hp hin hc=>hid p hp (inS_mono hin) hc)
include hn in
theorem mom_X {m:Nat}{h:H} (hh:HS l σ S m h) (hx:isX l i=true):∀x,isX l x=true→(x<m↔x<i):=by
 intro x hxx
 rw[←hh.mom x hxx]
 constructor
 ·intro hSx
  by_cases he:x=i
  ·subst he;rw[hn] at hSx;cases hSx
  ·rcases r.stat.xs x i hxx hx he with h|h
   ·exact r.lt h
   ·rw[not_behind r hS hn hd hSx] at h;cases h
 ·intro hlt
  rcases r.stat.xs x i hxx hx om with h|h
  ·exact pre_in r hS hd h
  ·have:=r.lt h;omega
include hn in
theorem cons_not {m:Nat}{h:H} (hh:HS l σ S m h) (ha:isA l i=true):kOf l i∉(σ m).cur.cons:=by
 intro hc
 obtain⟨x,h1,h2,h3⟩:=r.cons_from m hh.le _ hc
 obtain⟨a,h4,h5,h6⟩:=mem_ksOf.1 h3
 have:=r.stat.as2 a i h4 ha h6
 subst this
 rw[not_behind r hS hn hd ((hh.mom x h2).2 h1)] at h5;cases h5
end
end
end Go.Ev
namespace Go.Ev
theorem chk1_inv {hs:List Bh}{mk:List Pd}{rd:Rd}:∀{js:List Nat},chk1 hs mk rd js=true→∀j∈js,∃b,hs[j]? =some b∧∃h',evOp noCall rd.o rd.fr (heapAt b rd.ks mk) 0=.ok rd.v h'
 |[],_,j,hj=>by cases hj
 |j0::js,h,j,hj=>by
  have h:(Option.rec false (fun b=>R.rec false (fun a _=>cd (sameA a rd.v) (chk1 hs mk rd js) false) (evOp noCall rd.o rd.fr (heapAt b rd.ks mk) 0)) (nth hs j0):Bool)=true:=h
  cases hn:nth hs j0 with
  |none=>rw[hn] at h;cases h
  |some b=>
   rw[hn] at h
   have h:(R.rec false (fun a _=>cd (sameA a rd.v) (chk1 hs mk rd js) false) (evOp noCall rd.o rd.fr (heapAt b rd.ks mk) 0):Bool)=true:=h
   cases hr:evOp noCall rd.o rd.fr (heapAt b rd.ks mk) 0 with
   |no=>rw[hr] at h;cases h
   |ok a h'=>
    rw[hr] at h
    obtain⟨h1,h2⟩:=cd_true (show cd (sameA a rd.v) (chk1 hs mk rd js) false=true from h)
    rcases List.mem_cons.1 hj with rfl|hj
    ·refine⟨b,by rw[←nth_eq];exact hn,h',?_⟩
     rw[hr,sameA_eq h1]
    ·exact chk1_inv h2 j hj
theorem chkAll_inv {hs:List Bh}{mk:List Pd}:∀{rs:List Rd},chkAll hs mk rs=true→∀rd∈rs,chk1 hs mk rd rd.js=true
 |[],_,rd,h=>by cases h
 |r0::rs,h,rd,hr=>by
  obtain⟨h1,h2⟩:=cd_true (show cd (chk1 hs mk r0 r0.js) (chkAll hs mk rs) false=true from h)
  rcases List.mem_cons.1 hr with rfl|hr
  ·exact h1
  ·exact chkAll_inv h2 rd hr
section
variable {P:Program}{G:Gs}{call:CallF}{base na nt:Nat}{opsA:Array Oper}{l:List AO}{σ:Nat→DS}{val:Nat→AV}{fr0:T AV}{e0:Env}{a0:Act}{Q:Exit→Act→World→Prop}
theorem step_any (hk:CallOK P G call) (r:Run call base na opsA.toList l σ val) (h00:(σ 0).fr=fr0)
 (hio:∀(i:Nat) (ao:AO),l[i]? =some ao→∃o,opsA[i]? =some o∧IsO P G nt opsA ao o) (hlo:e0.F.lo≤base) (hnx:base+na≤e0.h.next)
 (hchk:chkAll (hsOf (σ l.length)) (σ l.length).mks (σ l.length).rs=true)
 {S:Nat→Bool} (hS:∀i,S i=true→Direct opsA.toList S i){i:Nat} (hi:i<l.length) (hn:S i=false) (hd:Direct opsA.toList S i){e:Env}{a:Act}
 (inv:Inv G nt l σ val fr0 e0 a0 S e a) (K:Act→World→Prop) (hK:∀e' a',Inv G nt l σ val fr0 e0 a0 (addS S i) e' a'→K a' e'.w):wpOp P opsA Q i K a e.w:=by
 obtain⟨ao,ho⟩:=at_ hi
 obtain⟨o,hoo,hio'⟩:=hio i ao ho
 obtain⟨m,hh⟩:=inv.hs
 have hlo':e.F.lo≤base:=by rw[inv.ext.fr];exact hlo
 have hnx':base+na≤e.h.next:=Nt hnx inv.ext.next
 have hwe:=wanted_eq r h00 hS hi hn hd ho
 have hop:=op_eq r h00 hS hi hn hd ho
 have hfa:=frame_add (fr0:=fr0) r hS hn hd hi ho
 have hdst:ao.dst=o.dst.map mkPath:=by obtain⟨k,rfl⟩:=hio';rfl
 have hsi:=r.si i ao ho
 have fin:∀(e':Env) (cv:Value),St e'→Ext e e'→Rel e' (val i) cv→(∀d,o.dst=some d→d<nt)→(∃m,HS l σ (addS S i) m e'.h)→Inv G nt l σ val fr0 e0 a0 (addS S i) e' (a.put o.dst cv):=by
  intro e' cv hs' hx' hv' hdb hm'
  refine⟨hs',inv.ext.trans hx',inv.gr.ext hx',fun k=>?_,by rw[put_size];exact inv.size,by rw[put_defers];exact inv.defers,hm'⟩
  rw[hfa,hdst]
  exact FrRel.put (inv.fr.ext hx') (fun k hk=>by rw[inv.size];exact hdb k hk) hv' k
 have finSkip:val i=undefA→(∃m,HS l σ (addS S i) m e.h)→Inv G nt l σ val fr0 e0 a0 (addS S i) e (a.put o.dst undef):=by
  intro hv hm'
  refine⟨inv.st,inv.ext,inv.gr,fun k=>?_,by rw[put_size];exact inv.size,by rw[put_defers];exact inv.defers,hm'⟩
  rw[hfa,hdst,hv]
  exact inv.fr.put_undef o.dst k
 have notIn:∀κ,isA l i=true→kOf l i=κ→¬inS l S κ:=by
  rintro κ ha rfl ⟨b,h1,h2,h3⟩
  have:=r.stat.as2 b i h2 ha h3
  subst this
  rw[hn] at h1;cases h1
 have ksIn:∀κ,κ∈ksOf (predsGo opsA.toList []) l i→inS l S κ:=fun κ h=>by
  obtain⟨b,h1,h2,h3⟩:=mem_ksOf.1 h
  exact⟨b,pre_in r hS hd h2,h1,h3⟩
 have knum:∀j,j≤l.length→∀p∈(σ j).mks,p.k<na:=fun j hj p hp=>by
  obtain⟨_,b,_,h1,h2,_⟩:=r.mk_from j hj p hp
  rw[←h2];exact r.stat.as_ b h1
 have sub_at:∀j,j≤l.length→Sub (heapAt (σ m).cur (ksOf (predsGo opsA.toList []) l i) (σ j).mks) e.h:=by
  intro j hj id b hb
  by_cases hex:∃p∈(σ j).mks,p.k∈ksOf (predsGo opsA.toList []) l i∧p.k∉(σ m).cur.cons∧p.id=id
  ·obtain⟨p,hp,h1,h2,rfl⟩:=hex
   rw[r.heapAt_mem hj hp h1 h2] at hb
   obtain rfl:=Oi hb
   exact hh.mem p (r.mk_mono hj (Nr _) p hp) (ksIn _ h1) h2
  ·rw[Run.heapAt_not (fun p hp h1 h2 he=>hex ⟨p,hp,h1,h2,he⟩)] at hb
   rw[hh.rest id]
   ·exact hb
   ·rintro p hp h1 h2 rfl
    rw[(r.mk_from _ (Nr _) p hp).1,r.free m hh.le p.k (knum _ (Nr _) p hp) h2] at hb
    cases hb
 unfold wpOp
 rw[hoo]
 simp only[]
 generalize hs1:σ (i+1)=s1 at hsi
 generalize hv1:val i=v1 at hsi
 cases hsi with
 |skip hw hc=>
  have hc:ao.op.cls≠.X:=hc
  have hw:wanted ao.g (σ i).fr=some false:=hw
  rw[←hwe] at hw
  rw[wanted_inv hio' inv.fr inv.size hw,if_neg (by simp)]
  have hx:isX l i=false:=by
   cases h:isX l i with
   |false=>rfl
   |true=>exact absurd ((isX_of ho).1 h) hc
  exact hK _ _ (finSkip hv1 ⟨m,HS.same r hS hd hh ho hx (by rw[hs1];rfl)⟩)
 |skipX hw hc=>
  have hc:ao.op.cls=.X:=hc
  have hw:wanted ao.g (σ i).fr=some false:=hw
  rw[←hwe] at hw
  rw[wanted_inv hio' inv.fr inv.size hw,if_neg (by simp)]
  have hx:isX l i=true:=(isX_of ho).2 hc
  have hmx:=mom_X r hS hn hd hh hx
  have hcur:(σ m).cur=(σ i).cur:=r.cur_eq hh.le (Nat.le_of_lt hi) hmx
  refine hK _ _ (finSkip hv1 ⟨i+1,?_⟩)
  have hc1:(σ (i+1)).cur=⟨heapAt (σ i).cur (ksOf (predsGo opsA.toList []) l i) (σ i).mks,cat (ksOf (predsGo opsA.toList []) l i) (σ i).cur.cons⟩:=by rw[hs1];rfl
  refine⟨?_,hi,?_,?_,?_⟩
  ·intro x hxx
   unfold addS
   by_cases he:x=i
   ·subst he;simp
   ·rw[if_neg he,hh.mom x hxx,hmx x hxx];omega
  ·rw[hc1,hh.next,hcur]
   exact(puts_next _ _).symm
  ·intro p hp hin hcs
   rw[hc1,cat_eq] at hcs
   rcases inS_add hin with h1|⟨h1,_⟩
   ·exact hh.mem p hp h1 (by rw[hcur];exact fun h=>hcs (Lk _ h))
   ·rw[isA_of ho] at h1;rw[show ao.op.cls=.X from hc] at h1;cases h1
  ·intro id hid
   rw[hc1]
   show e.h.get id=(heapAt (σ i).cur _ (σ i).mks).get id
   by_cases hex:∃p∈(σ i).mks,p.k∈ksOf (predsGo opsA.toList []) l i∧p.k∉(σ i).cur.cons∧p.id=id
   ·obtain⟨p,hp,h1,h2,rfl⟩:=hex
    rw[r.heapAt_mem (Nat.le_of_lt hi) hp h1 h2]
    exact hh.mem p (r.mk_mono (Nat.le_of_lt hi) (Nr _) p hp) (ksIn _ h1) (by rw[hcur];exact h2)
   ·rw[Run.heapAt_not (fun p hp h1 h2 he=>hex ⟨p,hp,h1,h2,he⟩),←hcur]
    refine hh.rest id (fun p hp hin hcs he=>?_)
    by_cases hpk:p.k∈ksOf (predsGo opsA.toList []) l i
    ·obtain⟨b,h1,h2,h3⟩:=mem_ksOf.1 hpk
     exact hex ⟨p,r.mk_at (Nat.le_of_lt hi) hp h1 h3 (r.lt h2),hpk,by rw[←hcur];exact hcs,he⟩
    ·refine hid p hp (inS_mono hin) ?_ he
     rw[hc1,cat_eq]
     intro h
     rcases List.mem_append.1 h with h|h
     ·exact hpk h
     ·exact hcs (by rw[hcur];exact h)
 |N v1 h' hw hc hr=>
  have hc:ao.op.cls=.N:=hc
  have hw:wanted ao.g (σ i).fr=some true:=hw
  rw[←hwe] at hw
  rw[wanted_inv hio' inv.fr inv.size hw,if_pos rfl]
  left
  have hr2:evOp call ao.op (frS l val fr0 S l.length) e.h (base+ao.k)=.ok v1 e.h:=by
   rw[hop];exact(evOp_N hc hr).2 _ _ _
  obtain⟨hcp,hdb,_⟩:=op_of hio' hr2
  have hx:isX l i=false:=by
   cases h:isX l i with
   |false=>rfl
   |true=>rw[(isX_of ho).1 h] at hc;cases hc
  refine sound_op (o:=o) hk inv.st (Nt hlo' (Nat.le_add_right _ _)) inv.fr inv.gr hcp hr2 _ _ (fun cv e' he' hs' hx' hv'=>?_)
  exact hK _ _ (fin e' cv hs' hx' (by rw[hv1];exact hv') hdb ⟨m,by rw[he'];exact HS.same r hS hd hh ho hx (by rw[hs1];rfl)⟩)
 |R v1 h' hw hc hr=>
  have hc:ao.op.cls=.R:=hc
  have hw:wanted ao.g (σ i).fr=some true:=hw
  rw[←hwe] at hw
  rw[wanted_inv hio' inv.fr inv.size hw,if_pos rfl]
  left
  have hr:evOp call ao.op (σ i).fr (heapAt (σ i).cur (ksOf (predsGo opsA.toList []) l i) (σ i).mks) (base+ao.k)=.ok v1 h':=hr
  have hr2:evOp call ao.op (frS l val fr0 S l.length) e.h (base+ao.k)=.ok v1 e.h:=by
   rw[hop]
   by_cases hcx:cX l m=cX l i
   ·have hcur:(σ m).cur=(σ i).cur:=r.cur_eq hh.le (Nat.le_of_lt hi) (fun x hxx=>by rw[←cX_lt hxx,←cX_lt hxx,hcx])
    rw[←hcur] at hr
    exact(evOp_R hc hr).2 _ _ _ (sub_at i (Nat.le_of_lt hi))
   ·have hjs:cX l m∈(doOf (predsGo opsA.toList []) l ao i).js:=by
     unfold doOf isR
     have:(ao.op.cls==Cls.R)=true:=by rw[show ao.op.cls=.R from hc];rfl
     simp only[this,if_true]
     rw[List.mem_filter]
     refine⟨?_,by simpa using hcx⟩
     unfold jsOf
     rw[List.mem_filter]
     refine⟨List.mem_range.2 (Nat.lt_succ_of_le (cX_mono l hh.le)),?_⟩
     rw[List.all_eq_true]
     intro x hx
     cases hxx:isX l x with
     |false=>rfl
     |true=>
      simp only[Bool.not_true,Bool.false_or]
      by_cases hxm:x<m
      ·rw[if_pos ((cX_lt hxx).2 hxm),not_behind r hS hn hd ((hh.mom x hxx).2 hxm)];rfl
      ·rw[if_neg (fun h=>hxm ((cX_lt hxx).1 h))]
       cases hb:bfr (predsGo opsA.toList []) x i with
       |false=>rfl
       |true=>exact absurd ((hh.mom x hxx).1 (pre_in r hS hd hb)) hxm
    have hrec:(⟨ao.op,(σ i).fr,v1,ksOf (predsGo opsA.toList []) l i,(doOf (predsGo opsA.toList []) l ao i).js⟩:Rd)∈(σ l.length).rs:=by
     refine r.rs_mono (show i+1≤l.length from hi) (Nr _) _ ?_
     rw[hs1]
     show _∈(List.rec (σ i).rs (fun _ _ _=>(⟨ao.op,(σ i).fr,v1,ksOf (predsGo opsA.toList []) l i,(doOf (predsGo opsA.toList []) l ao i).js⟩:Rd)::(σ i).rs) (doOf (predsGo opsA.toList []) l ao i).js:List Rd)
     cases hj:(doOf (predsGo opsA.toList []) l ao i).js with
     |nil=>rw[hj] at hjs;cases hjs
     |cons j js=>exact Mc ..
    obtain⟨b,hb,h2,hr3⟩:=chk1_inv (chkAll_inv hchk _ hrec) _ hjs
    rw[(r.hist _ (Nr _)).2 m hh.le] at hb
    obtain rfl:=Oi hb
    exact(evOp_R hc hr3).2 _ _ _ (sub_at _ (Nr _))
  obtain⟨hcp,hdb,_⟩:=op_of hio' hr2
  have hx:isX l i=false:=by
   cases h:isX l i with
   |false=>rfl
   |true=>rw[(isX_of ho).1 h] at hc;cases hc
  refine sound_op (o:=o) hk inv.st (Nt hlo' (Nat.le_add_right _ _)) inv.fr inv.gr hcp hr2 _ _ (fun cv e' he' hs' hx' hv'=>?_)
  exact hK _ _ (fin e' cv hs' hx' (by rw[hv1];exact hv') hdb ⟨m,by rw[he'];exact HS.same r hS hd hh ho hx (by rw[hs1];rfl)⟩)
 |A v1 h' hw hc hr=>
  have hc:ao.op.cls=.A:=hc
  have hw:wanted ao.g (σ i).fr=some true:=hw
  rw[←hwe] at hw
  rw[wanted_inv hio' inv.fr inv.size hw,if_pos rfl]
  left
  have hr:evOp call ao.op (σ i).fr ⟨(σ i).cur.h.next,.e⟩ (base+ao.k)=.ok v1 h':=hr
  have hA:isA l i=true:=(isA_of ho).2 hc
  have hk1:kOf l i=ao.k:=kOf_of ho
  have hkna:ao.k<na:=by rw[←hk1];exact r.stat.as_ i hA
  have hcn:ao.k∉(σ m).cur.cons:=by rw[←hk1];exact cons_not r hS hn hd hh hA
  have notP:∀p∈(σ l.length).mks,inS l S p.k→p.id≠path (base+ao.k):=fun p hp hin he=>by
   rw[(r.mk_from _ (Nr _) p hp).1] at he
   have:p.k=ao.k:=by have:=path_inj he;omega
   rw[this] at hin
   exact notIn _ hA hk1 hin
  have hfree:e.h.get (path (base+ao.k))=none:=by
   rw[hh.rest _ (fun p hp hin _=>notP p hp hin)]
   exact r.free m hh.le ao.k hkna hcn
  have hr2:evOp call ao.op (frS l val fr0 S l.length) e.h (base+ao.k)=.ok v1 (mkH e.h (base+ao.k) (h'.get (path (base+ao.k)))):=by
   rw[hop];exact evOp_A hc hr call e.h om hfree
  obtain⟨hcp,hdb,_⟩:=op_of hio' hr2
  have hx:isX l i=false:=by
   cases h:isX l i with
   |false=>rfl
   |true=>rw[(isX_of ho).1 h] at hc;cases hc
  refine sound_op (o:=o) hk inv.st (Nt hlo' (Nat.le_add_right _ _)) inv.fr inv.gr hcp hr2 _ _ (fun cv e' he' hs' hx' hv'=>?_)
  refine hK _ _ (fin e' cv hs' hx' (by rw[hv1];exact hv') hdb ⟨m,?_⟩)
  rw[he']
  have hmk1:(σ (i+1)).mks=(Option.rec (σ i).mks (fun b=>(⟨ao.k,path (base+ao.k),b⟩:Pd)::(σ i).mks) (h'.get (path (base+ao.k))):List Pd):=by rw[hs1];rfl
  cases hg:h'.get (path (base+ao.k)) with
  |none=>
   rw[hg] at hmk1
   exact HS.same r hS hd hh ho hx hmk1
  |some b=>
   rw[hg] at hmk1
   have hnew:(⟨ao.k,path (base+ao.k),b⟩:Pd)∈(σ l.length).mks:=by
    refine r.mk_mono (show i+1≤l.length from hi) (Nr _) _ ?_
    rw[hmk1];exact Mc ..
   have hin':inS l (addS S i) ao.k:=⟨i,by simp[addS],hA,hk1⟩
   refine⟨?_,hh.le,hh.next,?_,?_⟩
   ·intro x hxx
    unfold addS
    by_cases he:x=i
    ·subst he;rw[hx] at hxx;cases hxx
    ·rw[if_neg he];exact hh.mom x hxx
   ·intro p hp hin hcs
    show(e.h.put (path (base+ao.k)) b).get p.id=some p.b
    rw[H.get_put]
    rcases inS_add hin with h1|⟨_,h1⟩
    ·rw[if_neg (notP p hp h1)]
     exact hh.mem p hp h1 hcs
    ·have:=r.mk_unique _ (Nr _) p hp _ hnew (by rw[←h1];exact hk1)
     subst this
     rw[if_pos rfl]
   ·intro id hid
    show(e.h.put (path (base+ao.k)) b).get id=_
    rw[H.get_put,if_neg (fun he=>hid _ hnew hin' hcn he.symm)]
    exact hh.rest id (fun p hp hin hcs=>hid p hp (inS_mono hin) hcs)
 |X v1 h' hw hc hr hf=>
  have hc:ao.op.cls=.X:=hc
  have hw:wanted ao.g (σ i).fr=some true:=hw
  rw[←hwe] at hw
  rw[wanted_inv hio' inv.fr inv.size hw,if_pos rfl]
  left
  have hr:evOp call ao.op (σ i).fr (heapAt (σ i).cur (ksOf (predsGo opsA.toList []) l i) (σ i).mks) (base+na)=.ok v1 h':=hr
  have hx:isX l i=true:=(isX_of ho).2 hc
  have hmx:=mom_X r hS hn hd hh hx
  have hcur:(σ m).cur=(σ i).cur:=r.cur_eq hh.le (Nat.le_of_lt hi) hmx
  have hr2:evOp call ao.op (frS l val fr0 S l.length) (heapAt (σ i).cur (ksOf (predsGo opsA.toList []) l i) (σ i).mks) (base+na)=.ok v1 h':=by rw[hop];exact hr
  obtain⟨hcp,hdb,_⟩:=op_of hio' hr2
  let inB:Nat→Bool:=fun κ=>(List.range l.length).any fun b=>S b&&isA l b&&(kOf l b==κ)
  have inB_iff:∀κ,inB κ=true↔inS l S κ:=fun κ=>by
   simp only[inB,List.any_eq_true,List.mem_range,Bool.and_eq_true,beq_iff_eq]
   constructor
   ·rintro ⟨b,_,⟨h1,h2⟩,h3⟩;exact⟨b,h1,h2,h3⟩
   ·rintro ⟨b,h1,h2,h3⟩;exact⟨b,isA_lt h2,⟨h1,h2⟩,h3⟩
  let X:List Pd:=(σ l.length).mks.filter fun p=>inB p.k&&(!natIn p.k (σ i).cur.cons&& !natIn p.k (ksOf (predsGo opsA.toList []) l i))
  have memX:∀p,p∈X↔p∈(σ l.length).mks∧inS l S p.k∧p.k∉(σ i).cur.cons∧p.k∉ksOf (predsGo opsA.toList []) l i:=fun p=>by
   simp only[X,List.mem_filter,Bool.and_eq_true,inB_iff,Bool.not_eq_true',←Bool.not_eq_true,natIn_iff]
  have uniqX:∀p∈X,∀q∈X,q.id=p.id→q.b=p.b:=fun p hp q hq he=>by
   have hp:=((memX p).1 hp).1
   have hq:=((memX q).1 hq).1
   rw[(r.mk_from _ (Nr _) p hp).1,(r.mk_from _ (Nr _) q hq).1] at he
   have:=path_inj he
   rw[r.mk_unique _ (Nr _) q hq p hp om]
  have hpart:Part e.h (heapAt (σ i).cur (ksOf (predsGo opsA.toList []) l i) (σ i).mks) X (base+na):={
   next:=by rw[hh.next,hcur];exact puts_next _ _
   out:=fun p hp=>by
    obtain⟨h1,h2,h3,h4⟩:=(memX p).1 hp
    have hpid:=(r.mk_from _ (Nr _) p h1).1
    have hpn:=knum _ (Nr _) p h1
    refine⟨hh.mem p h1 h2 (by rw[hcur];exact h3),?_,base+p.k,om,hpid⟩
    rw[Run.heapAt_not,hpid]
    ·exact r.free i (Nat.le_of_lt hi) p.k hpn h3
    ·intro q hq hq1 hq2 he
     rw[(r.mk_from i (Nat.le_of_lt hi) q hq).1,hpid] at he
     have:q.k=p.k:=by have:=path_inj he;omega
     rw[this] at hq1;exact h4 hq1
   rest:=fun id hid=>by
    by_cases hex:∃p∈(σ i).mks,p.k∈ksOf (predsGo opsA.toList []) l i∧p.k∉(σ i).cur.cons∧p.id=id
    ·obtain⟨p,hp,h1,h2,rfl⟩:=hex
     rw[r.heapAt_mem (Nat.le_of_lt hi) hp h1 h2]
     exact(hh.mem p (r.mk_mono (Nat.le_of_lt hi) (Nr _) p hp) (ksIn _ h1) (by rw[hcur];exact h2)).symm
    ·rw[Run.heapAt_not (fun p hp h1 h2 he=>hex ⟨p,hp,h1,h2,he⟩),←hcur]
     refine(hh.rest id (fun p hp hin hcs he=>?_)).symm
     by_cases hpk:p.k∈ksOf (predsGo opsA.toList []) l i
     ·obtain⟨b,h1,h2,h3⟩:=mem_ksOf.1 hpk
      exact hex ⟨p,r.mk_at (Nat.le_of_lt hi) hp h1 h3 (r.lt h2),hpk,by rw[←hcur];exact hcs,he⟩
     ·exact hid p ((memX p).2 ⟨hp,hin,by rw[←hcur];exact hcs,hpk⟩) he
   lo:=hnx'}
  have hOp:OpS P o e a v1 (puts X h'):=OpS.framed (lo:=base+na) inv.st (Nt hlo' (Nat.le_add_right _ _)) hpart uniqX (fun e1 he1 hw1 hlo1 hB1 hs1' hrel=>by
   rw[←he1] at hr2
   exact sound_op (o:=o) hk hs1' (by rw[hlo1];exact Nr _) (fun k=>hrel _ _ (inv.fr k)) ⟨hB1.trans inv.gr.1,fun g cs hg=>⟨hrel _ _ (inv.gr.2.1 g cs hg).1,by rw[hw1];exact(inv.gr.2.1 g cs hg).2⟩,fun g hg=>let⟨m,hm⟩:=inv.gr.2.2.1 g hg;⟨m,hrel _ _ hm⟩,fun g hg=>let⟨h1,v,h2,h3⟩:=inv.gr.2.2.2 g hg;⟨hrel _ _ h1,v,by rw[hw1];exact h2,h3⟩⟩ hcp hr2)
  refine hOp _ _ (fun cv e' he' hs' hx' hv'=>?_)
  refine hK _ _ (fin e' cv hs' hx' (by rw[hv1];exact hv') hdb ⟨i+1,?_⟩)
  rw[he']
  have hc1:(σ (i+1)).cur=⟨h',cat (ksOf (predsGo opsA.toList []) l i) (σ i).cur.cons⟩:=by rw[hs1];rfl
  refine⟨?_,hi,?_,?_,?_⟩
  ·intro x hxx
   unfold addS
   by_cases he:x=i
   ·subst he;simp
   ·rw[if_neg he,hh.mom x hxx,hmx x hxx];omega
  ·rw[hc1,puts_next]
  ·intro p hp hin hcs
   rw[hc1,cat_eq] at hcs
   rcases inS_add hin with h1|⟨h1,_⟩
   ·have hpX:p∈X:=(memX p).2 ⟨hp,h1,fun h=>hcs (Lk _ h),fun h=>hcs (Lj _ h)⟩
    exact puts_mem hpX (uniqX p hpX)
   ·rw[isA_of ho] at h1;rw[show ao.op.cls=.X from hc] at h1;cases h1
  ·intro id hid
   rw[hc1]
   refine puts_not (fun p hpX=>?_)
   obtain⟨h1,h2,h3,h4⟩:=(memX p).1 hpX
   refine hid p h1 (inS_mono h2) ?_
   rw[hc1,cat_eq]
   intro h
   rcases List.mem_append.1 h with h|h
   ·exact h4 h
   ·exact h3 h
theorem ready_iff {listed:Array Bool}{i:Nat}:i∈Region.ready .any opsA listed↔i<opsA.size∧listed.getD i true=false∧∀o,opsA[i]? =some o→∀e∈o.after.toList,Region.binds .any e=true→listed.getD e.on false=true:=by
 unfold Region.ready
 rw[List.mem_filter,List.mem_range]
 constructor
 ·rintro ⟨h1,h2⟩
  rw[Bool.and_eq_true] at h2
  refine⟨h1,by simpa using h2.1,fun o ho e he hb=>?_⟩
  have h3:=h2.2
  rw[ho] at h3
  simp only[Option.map_some,Option.getD_some] at h3
  rw[Array.all_eq_true'] at h3
  have:=h3 e (by simpa using he)
  rw[Bool.or_eq_true] at this
  rcases this with h|h
  ·rw[hb] at h;cases h
  ·exact h
 ·rintro ⟨h1,h2,h3⟩
  refine⟨h1,?_⟩
  rw[Bool.and_eq_true]
  refine⟨by simpa using h2,?_⟩
  obtain⟨o,ho⟩:∃o,opsA[i]? =some o:=⟨_,Aq h1⟩
  rw[ho]
  simp only[Option.map_some,Option.getD_some]
  rw[Array.all_eq_true']
  intro e he
  cases hb:Region.binds .any e with
  |false=>rfl
  |true=>simp[h3 o ho e (by simpa using he) hb]
end
end Go.Ev
namespace Go.Ev
section
variable {P:Program}{G:Gs}{call:CallF}{base na nt:Nat}{opsA:Array Oper}{l:List AO}{σ:Nat→DS}{val:Nat→AV}{fr0:T AV}{e0:Env}{a0:Act}{Q:Exit→Act→World→Prop}
def undone (listed:Array Bool):Nat:=listed.toList.countP (fun b=> !b)
theorem undone_set {listed:Array Bool}{i:Nat} (h:i<listed.size) (hf:listed[i]? =some false):undone (listed.setIfInBounds i true)+1=undone listed:=by
 unfold undone
 have hl:i<listed.toList.length:=by simpa using h
 have hg:listed.toList[i]? =some false:=by simpa using hf
 have e1:(listed.setIfInBounds i true).toList=listed.toList.set i true:=by simp
 rw[e1]
 generalize listed.toList=L at hl hg
 clear e1 hf h
 induction L generalizing i with
 |nil=>simp at hl
 |cons x L ih=>
  cases i with
  |zero=>
   simp only[List.getElem?_cons_zero,Oj] at hg
   subst hg
   simp[List.countP_cons]
  |succ i=>
   have:=ih (i:=i) (by simpa using hl) (by simpa using hg)
   simp only[List.set_cons_succ,List.countP_cons]
   omega
theorem undone_zero {listed:Array Bool} (h:undone listed=0){i:Nat} (hi:i<listed.size):listed.getD i true=true:=by
 unfold undone at h
 rw[List.countP_eq_zero] at h
 rw[Ag,Aq hi]
 have:=h listed[i] (by simp)
 simpa using this
def doneOf (listed:Array Bool):Nat→Bool:=fun i=>listed.getD i false
theorem doneOf_set {listed:Array Bool}{i:Nat} (h:i<listed.size):doneOf (listed.setIfInBounds i true)=addS (doneOf listed) i:=by
 funext j
 unfold doneOf addS
 rw[Ag]
 by_cases hj:j=i
 ·subst hj;rw[if_pos rfl,Array.getElem?_setIfInBounds_self_of_lt h];rfl
 ·rw[if_neg hj,Array.getElem?_setIfInBounds_ne (Ne.symm hj),←Ag]
theorem any_sound (hk:CallOK P G call) (r:Run call base na opsA.toList l σ val) (h00:(σ 0).fr=fr0)
 (hio:∀(i:Nat) (ao:AO),l[i]? =some ao→∃o,opsA[i]? =some o∧IsO P G nt opsA ao o) (hlo:e0.F.lo≤base) (hnx:base+na≤e0.h.next)
 (hchk:chkAll (hsOf (σ l.length)) (σ l.length).mks (σ l.length).rs=true)
 (hQ:∀S e a,(∀i,i<l.length→S i=true)→Inv G nt l σ val fr0 e0 a0 S e a→Q .normal a e.w):
 ∀(fuel:Nat) (listed:Array Bool) (e:Env) (a:Act),listed.size=l.length→undone listed=fuel→(∀i,doneOf listed i=true→Direct opsA.toList (doneOf listed) i)→
  Inv G nt l σ val fr0 e0 a0 (doneOf listed) e a→wpAny P .any opsA Q fuel listed a e.w:=by
 have hsz:opsA.size=l.length:=by rw[r.stat.len];simp
 intro fuel
 induction fuel with
 |zero=>
  intro listed e a hl hu hS inv
  have all:∀i,i<l.length→listed.getD i true=true:=fun i hi=>undone_zero hu om
  refine⟨?_,hQ _ e a (fun i hi=>?_) inv⟩
  ·rw[List.eq_nil_iff_forall_not_mem]
   intro i hi
   obtain⟨h1,h2,_⟩:=ready_iff.1 hi
   rw[all i om] at h2;cases h2
  ·have:=all i hi
   unfold doneOf
   rw[Ag,Aq om] at this⊢
   exact this
 |succ fuel ih=>
  intro listed e a hl hu hS inv
  refine⟨fun hnil=>?_,fun i hi=>?_⟩
  ·
   refine hQ _ e a ?_ inv
   intro i
   induction i using Nat.strongRecOn with
   |_ i ihi=>
    intro hi
    cases hdn:doneOf listed i with
    |true=>rfl
    |false=>
     exfalso
     have:i∈Region.ready .any opsA listed:=by
      rw[ready_iff]
      refine⟨om,?_,fun o ho e' he' hb=>?_⟩
      ·unfold doneOf at hdn
       rw[Ag,Aq om] at hdn⊢
       exact hdn
      ·have hlt:=edge_lt r.stat.edges (i:=i) (o:=o) (by simpa using ho) he' hb
       exact ihi e'.on hlt om
     rw[hnil] at this;cases this
  ·obtain⟨h1,h2,h3⟩:=ready_iff.1 hi
   have hil:i<l.length:=om
   have hils:i<listed.size:=om
   have hf:listed[i]? =some false:=by
    rw[Ag,Aq hils] at h2
    rw[Aq hils]
    simpa using h2
   have hn:doneOf listed i=false:=by
    unfold doneOf
    rw[Ag,hf];rfl
   have hd:Direct opsA.toList (doneOf listed) i:=fun o e' ho he' hb=>h3 o (by simpa using ho) e' he' hb
   refine step_any hk r h00 hio hlo hnx hchk hS hil hn hd inv _ (fun e' a' inv'=>?_)
   rw[←doneOf_set hils] at inv'
   refine ih _ e' a' (by simpa using hl) ?_ ?_ inv'
   ·have:=undone_set hils hf;omega
   ·intro j hj o e2 ho he2 hb
    rw[doneOf_set hils] at hj⊢
    have key:doneOf listed e2.on=true:=by
     unfold addS at hj
     by_cases hji:j=i
     ·subst hji;exact hd o e2 ho he2 hb
     ·rw[if_neg hji] at hj;exact hS j hj o e2 ho he2 hb
    unfold addS
    split
    ·rfl
    ·exact key
theorem dreg_sound (hm:P.follows .mixedOrders=true) (hk:CallOK P G call) (hlen:l.length=opsA.size) (hcd:chkD na opsA.toList (predsGo opsA.toList []) l=true)
 (hio:∀(i:Nat) (ao:AO),l[i]? =some ao→∃o,opsA[i]? =some o∧IsO P G nt opsA ao o)
 {rid:Nat}{e:Env}{a:Act}{fr fr':T AV}{h':H} (hr:evDreg call na (drawOf (predsGo opsA.toList []) l) fr e.h=some (fr',h')) (hs:St e) (hf:FrRel e fr a.tmps) (hg:GRel G e) (hsz:a.tmps.size=nt)
 (kq:∀a' e',e'.h=h'→St e'→Ext e e'→FrRel e' fr' a'.tmps→a'.tmps.size=nt→a'.defers=a.defers→Q .normal a' e'.w):(Code.region rid opsA true).wp P Q a e.w:=by
 unfold evDreg at hr
 cases hev:evD call e.h.next na (drawOf (predsGo opsA.toList []) l) ⟨fr,⟨⟨Nat.add e.h.next na,e.h.t⟩,[]⟩,[],[],[]⟩ with
 |none=>rw[hev] at hr;cases hr
 |some s=>
  rw[hev] at hr
  have hr:cd (List.rec true (fun _ _ _=>chkAll (revOnto s.old [s.cur]) s.mks s.rs) s.rs) (some (s.fr,puts (selC s.cur.cons s.mks) s.cur.h)) none=some (fr',h'):=hr
  have hchk:chkAll (hsOf s) s.mks s.rs=true:=by
   cases hrs:s.rs with
   |nil=>rfl
   |cons x xs=>
    rw[hrs] at hr
    have hr:cd (chkAll (revOnto s.old [s.cur]) s.mks (x::xs)) (some (s.fr,puts (selC s.cur.cons s.mks) s.cur.h)) none=some (fr',h'):=hr
    cases hc:chkAll (revOnto s.old [s.cur]) s.mks (x::xs) with
    |false=>rw[hc] at hr;cases hr
    |true=>exact hc
  have hres:s.fr=fr'∧puts (selC s.cur.cons s.mks) s.cur.h=h':=by
   generalize (List.rec true (fun _ _ _=>chkAll (revOnto s.old [s.cur]) s.mks s.rs) s.rs:Bool)=b at hr
   cases b with
   |false=>cases hr
   |true=>
    have:=Oi (show some (s.fr,puts (selC s.cur.cons s.mks) s.cur.h)=some (fr',h') from hr)
    exact⟨congrArg Prod.fst this,congrArg Prod.snd this⟩
  obtain⟨rfl,rfl⟩:=hres
  obtain⟨σ,val,hσ0,hσn,hsi⟩:=evD_states hev
  have hlD:(drawOf (predsGo opsA.toList []) l).length=l.length:=by simp[drawOf]
  rw[hlD] at hσn
  have run:Run call e.h.next na opsA.toList l σ val:={
   stat:=chkD_stat (by simpa using hlen) hcd
   si:=fun i o ho=>hsi i _ (drawOf_get ho)
   mk0:=by rw[hσ0]
   cons0:=by rw[hσ0]
   old0:=by rw[hσ0]
   free0:=fun k hk=>by
    rw[hσ0]
    show e.h.get (path (e.h.next+k))=none
    cases hgk:e.h.get (path (e.h.next+k)) with
    |none=>rfl
    |some b=>
     obtain⟨k',h1,h2⟩:=hs.num hgk
     have:=path_inj h2
     omega}
  let w1:World:={e.w with drawn:=e.w.drawn+1}
  let e0:Env:=⟨e.ρ,⟨e.h.next+na,e.h.t⟩,w1,e.F⟩
  have st0:St e0:=heap_st (bump_st hs na) (w':=w1) rfl ⟨rfl,rfl,rfl⟩
  have ext0:Ext e e0:=(bump_ext e na).trans (heap_ext (e:=e.bump na) (w':=w1) rfl ⟨rfl,rfl,rfl⟩)
  refine wp_region_any hm (any_sound (e0:=e0) (a0:=a) (base:=e.h.next) (fr0:=fr) hk run (by rw[hσ0]) hio hs.lo (Nr _) (by rw[hσn];exact hchk) ?_ opsA.size (Array.replicate opsA.size false) e0 a (by simp[hlen]) ?_ ?_ ?_)
  ·intro S e' a' hall inv
   obtain⟨m,hh⟩:=inv.hs
   have hcur:(σ m).cur=s.cur:=by
    rw[←hσn]
    refine run.cur_eq hh.le (Nr _) (fun x hx=>?_)
    have hlt:=isX_lt hx
    rw[←hh.mom x hx]
    exact⟨fun _=>hlt,fun _=>hall x hlt⟩
   have hsame:Same e'.h (puts (selC s.cur.cons s.mks) s.cur.h):=by
    refine⟨by rw[puts_next,hh.next,hcur],fun id=>?_⟩
    have inAll:∀p∈(σ l.length).mks,inS l S p.k:=fun p hp=>by
     obtain⟨_,b,h1,h2,h3,_⟩:=run.mk_from _ (Nr _) p hp
     exact⟨b,hall b h1,h2,h3⟩
    by_cases hex:∃p∈selC s.cur.cons s.mks,p.id=id
    ·obtain⟨p,hp,rfl⟩:=hex
     have hp':=mem_selC.1 hp
     rw[←hσn] at hp'
     rw[puts_mem hp,hh.mem p hp'.1 (inAll p hp'.1) (by rw[hcur,←hσn];exact hp'.2)]
     intro q hq he
     have hq':=mem_selC.1 hq
     rw[←hσn] at hq'
     rw[(run.mk_from _ (Nr _) p hp'.1).1,(run.mk_from _ (Nr _) q hq'.1).1] at he
     have:=path_inj he
     rw[run.mk_unique _ (Nr _) q hq'.1 p hp'.1 om]
    ·rw[puts_not (fun p hp he=>hex ⟨p,hp,he⟩),hh.rest id,hcur]
     intro p hp _ hc he
     rw[hσn] at hp;rw[hcur] at hc
     exact hex ⟨p,mem_selC.2 ⟨hp,hc⟩,he⟩
   refine kq a' ⟨e'.ρ,puts (selC s.cur.cons s.mks) s.cur.h,e'.w,e'.F⟩ rfl (hsame.st inv.st) ((ext0.trans inv.ext).trans hsame.ext) (fun k=>?_) inv.size inv.defers
   have hfr:getV s.fr (path k)=getV (frS l val fr S l.length) (path k):=by
    rw[←hσn,run.fr_eq fr (by rw[hσ0]) _ (Nr _)]
    exact frS_agree (fun j hj _=>by rw[hall j hj];simpa using hj)
   rw[hfr]
   exact Rel.ext hsame.ext _ _ (inv.fr k)
  ·unfold undone
   rw[Array.toList_replicate]
   generalize opsA.size=n
   induction n with
   |zero=>rfl
   |succ n ih=>rw[List.replicate_succ,List.countP_cons];simp[ih]
  ·intro i hi
   unfold doneOf at hi
   rw[Ag] at hi
   exfalso
   by_cases h:i<opsA.size
   ·rw[Array.getElem?_replicate,if_pos h] at hi;cases hi
   ·rw[Array.getElem?_replicate,if_neg h] at hi;cases hi
  ·have hS0:doneOf (Array.replicate opsA.size false)=fun _=>false:=by
    funext i
    unfold doneOf
    rw[Ag,Array.getElem?_replicate]
    split<;>rfl
   rw[hS0]
   have hfr0:∀m,frS l val fr (fun _=>false) m=fr:=by
    intro m
    induction m with
    |zero=>rfl
    |succ m ih=>simp only[frS];rw[if_neg (by simp)];exact ih
   refine⟨st0,Ext.refl _,hg.ext ext0,by rw[hfr0];exact hf.ext ext0,hsz,rfl,0,?_⟩
   refine⟨fun x _=>by simp,Nz _,by rw[hσ0];rfl,?_,?_⟩
   ·rintro p _ ⟨b,hb,_⟩;cases hb
   ·intro id _;rw[hσ0];rfl
end
end Go.Ev
end
noncomputable section
set_option linter.unusedVariables false
set_option linter.unusedSimpArgs false
set_option linter.all false
namespace Go.Ev
section
variable {P:Program}{G:Gs}{call:CallF}
theorem number_spec:∀(L:List AO) (k:Nat),(number L k).1.length=L.length∧∀(q:Nat) (ao:AO),(number L k).1[q]? =some ao→∃o k',L[q]? =some o∧ao={o with k:=k'}
 |[],k=>⟨rfl,fun q ao h=>by simp[number] at h⟩
 |o::r,k=>by
  obtain⟨h1,h2⟩:=number_spec r (if o.op.cls=.A then k+1 else k)
  refine⟨by simp[number,h1],fun q ao h=>?_⟩
  cases q with
  |zero=>
   simp only[number,List.getElem?_cons_zero,Oj] at h
   exact⟨o,k,rfl,h.symm⟩
  |succ q=>
   obtain⟨o',k',h3,h4⟩:=h2 q ao (by simpa[number] using h)
   exact⟨o',k',by simpa using h3,h4⟩
def exOf:Ex→Exit
 |.normal=>.normal
 |.exit id=>.exit id
 |.ret=>.ret
def Post (nt:Nat) (Q:Exit→Act→World→Prop) (e:Env) (a:Act) (ex:Ex) (fr':T AV) (h':H):Prop:=
 ∀a' e',e'.h=h'→St e'→Ext e e'→FrRel e' fr' a'.tmps→a'.tmps.size=nt→a'.defers=a.defers→Q (exOf ex) a' e'.w
theorem Post.ext {nt:Nat}{Q:Exit→Act→World→Prop}{e e1:Env}{a a1:Act}{ex:Ex}{fr':T AV}{h':H} (h:Post nt Q e a ex fr' h') (x:Ext e e1) (hd:a1.defers=a.defers):Post nt Q e1 a1 ex fr' h':=
 fun a' e' h1 h2 h3 h4 h5 h6=>h a' e' h1 h2 (x.trans h3) h4 h5 (h6.trans hd)
theorem loop_sound {nt:Nat}{c:Code}{b:AC}{Q:Exit→Act→World→Prop}
 (hb:∀(Q:Exit→Act→World→Prop) (fr:T AV) (e:Env) (a:Act) (ex:Ex) (fr':T AV) (h':H),evC call b fr e.h=.ok ex fr' h'→St e→FrRel e fr a.tmps→GRel G e→a.tmps.size=nt→Post nt Q e a ex fr' h'→c.wp P Q a e.w):
 ∀(n:Nat) (fr:T AV) (e:Env) (a:Act) (ex:Ex) (fr':T AV) (h':H),
  loopA (evC call b) n fr e.h=.ok ex fr' h'→
  St e→FrRel e fr a.tmps→GRel G e→a.tmps.size=nt→Post nt Q e a ex fr' h'→Code.rounds P c Q n a e.w:=by
 intro n
 induction n with
 |zero=>intro fr e a ex fr' h' hr;cases hr
 |succ n ih=>
  intro fr e a ex fr' h' hr hs hf hg hsz kq
  rw[rounds_succ]
  have hr:(CR.rec .no (fun e fr h=>Ex.rec (loopA (evC call b) n fr h) (fun id=>.ok (.exit id) fr h) (.ok .ret fr h) e) (evC call b fr e.h):CR)=.ok ex fr' h':=hr
  cases hev:evC call b fr e.h with
  |no=>rw[hev] at hr;cases hr
  |ok ex1 fr1 h1=>
   rw[hev] at hr
   refine hb _ fr e a ex1 fr1 h1 hev hs hf hg hsz (fun a1 e1 he1 hs1 hx1 hf1 hsz1 hd1=>?_)
   subst he1
   cases ex1 with
   |normal=>exact ih fr1 e1 a1 ex fr' h' hr hs1 hf1 (hg.ext hx1) hsz1 (kq.ext hx1 hd1)
   |exit id=>
    injection(show CR.ok (.exit id) fr1 e1.h=.ok ex fr' h' from hr) with g1 g2 g3
    subst g1 g2
    exact kq a1 e1 g3 hs1 hx1 hf1 hsz1 hd1
   |ret=>
    injection(show CR.ok .ret fr1 e1.h=.ok ex fr' h' from hr) with g1 g2 g3
    subst g1 g2
    exact kq a1 e1 g3 hs1 hx1 hf1 hsz1 hd1
theorem evC_sound (hm:P.follows .mixedOrders=true) (hk:CallOK P G call){nt:Nat}:∀(c:Code) (Q:Exit→Act→World→Prop) (fr:T AV) (e:Env) (a:Act) (ex:Ex) (fr':T AV) (h':H),
 evC call (compC P G nt c) fr e.h=.ok ex fr' h'→St e→FrRel e fr a.tmps→GRel G e→a.tmps.size=nt→Post nt Q e a ex fr' h'→c.wp P Q a e.w:=by
 intro c
 induction c with
 |skip=>
  intro Q fr e a ex fr' h' hr hs hf hg hsz kq
  injection(show CR.ok .normal fr e.h=.ok ex fr' h' from hr) with g1 g2 g3
  subst g1 g2
  exact wp_skip (kq a e g3 hs (Ext.refl e) hf hsz rfl)
 |exit id=>
  intro Q fr e a ex fr' h' hr hs hf hg hsz kq
  injection(show CR.ok (.exit id) fr e.h=.ok ex fr' h' from hr) with g1 g2 g3
  subst g1 g2
  exact wp_exit (kq a e g3 hs (Ext.refl e) hf hsz rfl)
 |ret=>
  intro Q fr e a ex fr' h' hr hs hf hg hsz kq
  injection(show CR.ok .ret fr e.h=.ok ex fr' h' from hr) with g1 g2 g3
  subst g1 g2
  exact wp_ret (kq a e g3 hs (Ext.refl e) hf hsz rfl)
 |region rid ops d=>
  intro Q fr e a ex fr' h' hr hs hf hg hsz kq
  simp only[compC] at hr
  obtain⟨hlen,hnum⟩:=number_spec (ops.toList.map (compO P G nt ops)) 0
  generalize hln:number (ops.toList.map (compO P G nt ops)) 0=q at hr hlen hnum
  obtain⟨l,na⟩:=q
  simp only at hr hlen hnum
  have hlen':l.length=ops.size:=by rw[hlen];simp
  have hio:∀(i:Nat) (ao:AO),l[i]? =some ao→∃o,ops[i]? =some o∧IsO P G nt ops ao o:=by
   intro i ao hi
   obtain⟨o',k',h1,h2⟩:=hnum i ao hi
   rw[List.getElem?_map] at h1
   cases ho:ops.toList[i]? with
   |none=>rw[ho] at h1;cases h1
   |some o=>
    rw[ho] at h1
    simp only[Option.map_some,Oj] at h1
    subst h1
    exact⟨o,by simpa using ho,k',h2⟩
  cases d with
  |false=>
   have hr:(FR.rec .no (fun fr h=>.ok .normal fr h) (evOps call e.h.next l fr ⟨Nat.add e.h.next na,e.h.t⟩):CR)=.ok ex fr' h':=hr
   cases hev:evOps call e.h.next l fr ⟨Nat.add e.h.next na,e.h.t⟩ with
   |no=>rw[hev] at hr;cases hr
   |ok fr1 h1=>
    rw[hev] at hr
    injection(show CR.ok .normal fr1 h1=.ok ex fr' h' from hr) with g1 g2 g3
    subst g1 g2 g3
    refine wp_region (evOps_sound hk Q l (List.range ops.size) (by simp[hlen']) (fun q ao i h1 h2=>?_) e.h.next fr (e.bump na) a fr1 h1 hev (bump_st hs na) hs.lo (hf.ext (bump_ext e na)) (hg.ext (bump_ext e na)) hsz ?_)
    ·have hq:q<ops.size:=by rw[←hlen'];exact(List.getElem?_eq_some_iff.1 h1).1
     rw[List.getElem?_range hq] at h2
     obtain rfl:=Oi h2
     exact hio q ao h1
    ·intro a' e' h1 h2 h3 h4 h5 h6
     exact kq a' e' h1 h2 ((bump_ext e na).trans h3) h4 h5 h6
  |true=>
   simp only[Bool.not_true,Bool.false_eq_true,if_false] at hr
   by_cases hcd:chkD na ops.toList (predsGo ops.toList []) l=true
   ·rw[if_pos hcd] at hr
    have hr:(Option.rec .no (fun q=>.ok .normal q.1 q.2) (evDreg call na (drawOf (predsGo ops.toList []) l) fr e.h):CR)=.ok ex fr' h':=hr
    cases hev:evDreg call na (drawOf (predsGo ops.toList []) l) fr e.h with
    |none=>rw[hev] at hr;cases hr
    |some q=>
     rw[hev] at hr
     injection(show CR.ok .normal q.1 q.2=.ok ex fr' h' from hr) with g1 g2 g3
     subst g1 g2 g3
     exact dreg_sound hm hk hlen' hcd hio (fr':=q.1) (h':=q.2) hev hs hf hg hsz kq
   ·rw[if_neg hcd] at hr;cases hr
 |seq x y ihx ihy=>
  intro Q fr e a ex fr' h' hr hs hf hg hsz kq
  have hr:(CR.rec .no (fun e fr h=>Ex.rec (evC call (compC P G nt y) fr h) (fun id=>.ok (.exit id) fr h) (.ok .ret fr h) e) (evC call (compC P G nt x) fr e.h):CR)=.ok ex fr' h':=hr
  cases hev:evC call (compC P G nt x) fr e.h with
  |no=>rw[hev] at hr;cases hr
  |ok ex1 fr1 h1=>
   rw[hev] at hr
   refine wp_seq (ihx _ fr e a ex1 fr1 h1 hev hs hf hg hsz (fun a1 e1 he1 hs1 hx1 hf1 hsz1 hd1=>?_))
   subst he1
   cases ex1 with
   |normal=>exact ihy Q fr1 e1 a1 ex fr' h' hr hs1 hf1 (hg.ext hx1) hsz1 (kq.ext hx1 hd1)
   |exit id=>
    injection(show CR.ok (.exit id) fr1 e1.h=.ok ex fr' h' from hr) with g1 g2 g3
    subst g1 g2
    exact kq a1 e1 g3 hs1 hx1 hf1 hsz1 hd1
   |ret=>
    injection(show CR.ok .ret fr1 e1.h=.ok ex fr' h' from hr) with g1 g2 g3
    subst g1 g2
    exact kq a1 e1 g3 hs1 hx1 hf1 hsz1 hd1
 |cond c x y ihx ihy=>
  intro Q fr e a ex fr' h' hr hs hf hg hsz kq
  simp only[compC] at hr
  cases hc:od G c with
  |none=>rw[hc] at hr;cases hr
  |some c'=>
   rw[hc] at hr
   have rc:=od_rel hf hg hc
   have hr:(match ev c' fr with
    |.b t=>cd t (evC call (compC P G nt x) fr e.h) (evC call (compC P G nt y) fr e.h)
    |_=>.no:CR)=.ok ex fr' h':=hr
   generalize ev c' fr=u at hr rc
   cases u with
   |b t=>
    simp only[Rel] at rc
    cases t with
    |true=>exact wp_cond_true rc (ihx Q fr e a ex fr' h' hr hs hf hg hsz kq)
    |false=>exact wp_cond_false rc (ihy Q fr e a ex fr' h' hr hs hf hg hsz kq)
   |_=>cases hr
 |block id b ih=>
  intro Q fr e a ex fr' h' hr hs hf hg hsz kq
  have hr:(CR.rec .no (fun e fr h=>Ex.rec (.ok .normal fr h) (fun j=>cd (Nat.beq j id) (.ok .normal fr h) (.ok (.exit j) fr h)) (.ok .ret fr h) e) (evC call (compC P G nt b) fr e.h):CR)=.ok ex fr' h':=hr
  cases hev:evC call (compC P G nt b) fr e.h with
  |no=>rw[hev] at hr;cases hr
  |ok ex1 fr1 h1=>
   rw[hev] at hr
   refine wp_block (ih _ fr e a ex1 fr1 h1 hev hs hf hg hsz (fun a1 e1 he1 hs1 hx1 hf1 hsz1 hd1=>?_))
   subst he1
   cases ex1 with
   |normal=>
    injection(show CR.ok .normal fr1 e1.h=.ok ex fr' h' from hr) with g1 g2 g3
    subst g1 g2
    exact kq a1 e1 g3 hs1 hx1 hf1 hsz1 hd1
   |exit j=>
    have hr:cd (Nat.beq j id) (.ok .normal fr1 e1.h) (.ok (.exit j) fr1 e1.h)=CR.ok ex fr' h':=hr
    show(if j=id then Q .normal a1 e1.w else Q (.exit j) a1 e1.w)
    cases hj:Nat.beq j id with
    |true=>
     rw[hj] at hr
     rw[if_pos (Nq hj)]
     injection(show CR.ok .normal fr1 e1.h=.ok ex fr' h' from hr) with g1 g2 g3
     subst g1 g2
     exact kq a1 e1 g3 hs1 hx1 hf1 hsz1 hd1
    |false=>
     rw[hj] at hr
     rw[if_neg (fun h=>by rw[h,Nat.beq_refl] at hj;cases hj)]
     injection(show CR.ok (.exit j) fr1 e1.h=.ok ex fr' h' from hr) with g1 g2 g3
     subst g1 g2
     exact kq a1 e1 g3 hs1 hx1 hf1 hsz1 hd1
   |ret=>
    injection(show CR.ok .ret fr1 e1.h=.ok ex fr' h' from hr) with g1 g2 g3
    subst g1 g2
    exact kq a1 e1 g3 hs1 hx1 hf1 hsz1 hd1
 |loop b ih=>
  intro Q fr e a ex fr' h' hr hs hf hg hsz kq
  exact wp_loop_rounds manyRounds (loop_sound ih manyRounds fr e a ex fr' h' hr hs hf hg hsz kq)
 |rangeFunc f ps x y=>
  intro Q fr e a ex fr' h' hr
  cases hr
 |_=>
  intro Q fr e a ex fr' h' hr
  cases hr
end
end Go.Ev
namespace Go.Ev
section
variable {P:Program}{G:Gs}
theorem argsFrom_get:∀(l:List AV) (i:Nat) (t:T AV) (k:Nat),getV (argsFrom l i t) (path k)=if i≤k∧k<i+l.length then l.getD (k - i) undefA else getV t (path k)
 |[],i,t,k=>by
  rw[if_neg (by simp)];rfl
 |x::l,i,t,k=>by
  have ih:=argsFrom_get l (i+1) (T.set (path i) x t) k
  have:argsFrom (x::l) i t=argsFrom l (i+1) (T.set (path i) x t):=rfl
  rw[this,ih,getV_set]
  by_cases h1:i+1≤k∧k<i+1+l.length
  ·rw[if_pos h1,if_pos (by simp only[Lc];omega)]
   have:k - i=(k - (i+1))+1:=om
   rw[this]
   simp
  ·rw[if_neg h1]
   by_cases h2:k=i
   ·subst h2
    rw[if_pos rfl,if_pos (by simp only[Lc];omega)]
    simp
   ·rw[if_neg (fun h=>h2 (path_inj h)),if_neg (by simp only[Lc];omega)]
theorem getV_e (p:List Bool):getV (T.e:T AV) p=.j:=by unfold getV;rw[T.get_e]
theorem args_rel {e:Env}{args:List AV}{vs:List Value} (h:RelL e args vs) (n:Nat):FrRel e (argsFrom args 0 .e) (vs.toArray++Array.replicate n undef):=by
 intro k
 rw[argsFrom_get,getV_e]
 have hl:=h.len
 by_cases hk:k<args.length
 ·rw[if_pos om,Ag,Array.getElem?_append_left (by simp;omega)]
  simp only[Nat.sub_zero]
  obtain⟨x,hx⟩:∃x,args[k]? =some x:=⟨_,Lq hk⟩
  obtain⟨v,hv,hr⟩:=h.get hx
  rw[Lw,hx]
  simp only[List.getElem?_toArray,hv,Option.getD_some]
  exact hr
 ·rw[if_neg om,Ag,Array.getElem?_append_right (by simp;omega),Array.getElem?_replicate]
  split<;>simp[Rel]
def resV (tmps:Array Value):ResultVar→Sem Value
 |.tmp t=>pure (tmps.getD t undef)
 |.cell a t=>do loadVar t (←asAddr (tmps.getD a undef))
theorem resL_sound {e:Env}{tmps:Array Value} (hs:St e){fr:T AV} (hf:FrRel e fr tmps):∀{rs:List ResultVar}{res:List (List Bool×Option (Option Nat))}{vs:List AV},
 compResL P rs=some res→resOf res fr e.h=some vs→∃cvs:List Value,(rs.mapM (resV tmps)).run P e.w=.ok cvs e.w∧RelL e vs cvs
 |[],res,vs,hc,hr=>by
  simp only[compResL,Oj] at hc;subst hc
  obtain rfl:=Oi (show some []=some vs from hr)
  exact⟨[],by simp,by simp[RelL]⟩
 |r::rs,res,vs,hc,hr=>by
  simp only[compResL] at hc
  split at hc
  ·rename_i x xs hx hxs
   simp only[Oj] at hc;subst hc
   have hr:(match resOf xs fr e.h with
    |none=>none
    |some r=>match x.2 with
     |none=>some (getV fr x.1::r)
     |some none=>match cellAt (getV fr x.1) e.h with
      |some v=>some (v::r)
      |none=>none
     |some (some n)=>match cellsAt (getV fr x.1) n e.h with
      |some l=>some (.ag l::r)
      |none=>none:Option (List AV))=some vs:=hr
   cases hrest:resOf xs fr e.h with
   |none=>rw[hrest] at hr;cases hr
   |some us=>
    rw[hrest] at hr
    obtain⟨cvs,h1,h2⟩:=resL_sound hs hf hxs hrest
    have fin:∀(u:AV) (cv:Value),(resV tmps r).run P e.w=.ok cv e.w→Rel e u cv→vs=u::us→∃cvs:List Value,((r::rs).mapM (resV tmps)).run P e.w=.ok cvs e.w∧RelL e vs cvs:=by
     intro u cv g1 g2 g3
     refine⟨cv::cvs,?_,by rw[g3];simp only[RelL];exact⟨g2,h2⟩⟩
     rw[List.mapM_cons]
     simp only[Sem.run_bind,g1,Result.andThen_ok,h1,Sem.run_pure]
    cases r with
    |tmp t=>
     simp only[compRes,Oj] at hx;subst hx
     obtain rfl:=Oi (show some (getV fr (mkPath t)::us)=some vs from hr)
     refine fin _ (tmps.getD t undef) (by simp[resV]) ?_ rfl
     rw[mkPath_eq];exact hf t
    |cell a t=>
     simp only[compRes] at hx
     obtain⟨ag,hag,hx⟩:=bind_inv hx
     obtain⟨n,hn,rfl⟩:=map_inv hx
     have rx:=hf a
     rw[←mkPath_eq] at rx
     cases ag with
     |false=>
      simp only[Bool.false_eq_true,if_false] at hr
      split at hr
      ·rename_i v hv
       obtain rfl:=Oi hr
       obtain⟨ad,u,hcv,hu,hru,_⟩:=ptr_cell hs rx hv
       refine fin _ u ?_ hru rfl
       simp[resV,asAddr,hcv,loadVar,run_isAgg hag,hu]
      ·cases hr
     |true=>
      simp only[if_true] at hr
      split at hr
      ·rename_i l hl
       obtain rfl:=Oi hr
       rcases Nat.eq_zero_or_pos n with hz|hz
       ·subst hz
        have hl0:l=[]:=by
         rcases cellsAt_inv hl with ⟨_,_,_,_,_,_,_,hcut⟩|⟨_,_,_,_,hcut⟩<;>exact List.eq_nil_of_length_eq_zero (cut_get hcut).1
        subst hl0
        have hcv:∃ad,tmps.getD a undef=.pointer (some ad):=by
         rcases cellsAt_inv hl with ⟨i,off,_,_,_,hx,_⟩|⟨ty,ty2,off,hx,_⟩
         ·rw[hx] at rx;exact⟨_,(rel_p rx).2⟩
         ·rw[hx] at rx;simp only[Rel] at rx;obtain⟨b,o',us,h,_⟩:=rx;exact⟨_,h⟩
        obtain⟨ad,hcv⟩:=hcv
        refine fin _ (.agg #[]) ?_ (by simp only[Rel];exact⟨by simp,#[],rfl,by simp[RelL]⟩) rfl
        simp[resV,asAddr,hcv,loadVar,run_isAgg hag,run_size hn,loadCells,loadCellsFrom]
       ·obtain⟨b,o',hcv,hlen,hcell⟩:=ptr_cells hs rx hl hz
        obtain⟨ws,hrel,hvl,hvs⟩:=relL_of l (fun j=>e.w.cell? ⟨b,o'+j,none⟩) (fun j y hy=>(hcell j y hy).2)
        have hone:∀c∈l,one c=true:=fun c hc=>by
         obtain⟨j,hj⟩:=List.mem_iff_getElem?.1 hc
         exact(hcell j c hj).1
        refine fin _ (.agg ws.toArray) ?_ (by simp only[Rel];exact⟨hone,ws.toArray,rfl,hrel⟩) rfl
        have hrun:=run_loadCells_at (P:=P) b o' ws hvs
        rw[hvl,hlen] at hrun
        simp[resV,asAddr,hcv,loadVar,run_isAgg hag,run_size hn,hrun]
      ·cases hr
  ·cases hc
theorem results_sound {e:Env}{fn:Func}{tmps:Array Value} (hs:St e){fr:T AV} (hf:FrRel e fr tmps){res:List (List Bool×Option (Option Nat))}{vs:List AV}{r:AV}{h':H}
 (hc:compResL P fn.results.toList=some res) (hr:resOf res fr e.h=some vs) (h1:ret1 e.h vs=.ok r h'):h'=e.h∧∃cv,(results fn tmps).run P e.w=.ok cv e.w∧Rel e r cv:=by
 obtain⟨cvs,h2,h3⟩:=resL_sound hs hf hc hr
 have hm:(fn.results.mapM (resV tmps)).run P e.w=.ok cvs.toArray e.w:=by
  rw[Array.mapM_eq_mapM_toList]
  simp only[map_eq_pure_bind,Sem.run_bind]
  rw[h2]
  simp
 have hres:(results fn tmps).run P e.w=.ok (if h:cvs.toArray.size=1 then cvs.toArray[0] else .tuple cvs.toArray) e.w:=by
  unfold results
  rw[Sem.run_bind]
  have:∀f g:ResultVar→Sem Value,f=g→(fn.results.mapM f).run P e.w=(fn.results.mapM g).run P e.w:=fun f g h=>by rw[h]
  refine(congrArg (fun x=>Result.andThen x _) ((this _ _ ?_).trans hm)).trans ?_
  ·funext r;cases r<;>rfl
  ·simp
 unfold ret1 at h1
 split at h1
 ·rename_i v
  injection h1 with g1 g2
  subst g1
  refine⟨g2.symm,?_⟩
  have hl:=h3.len
  obtain⟨cv,rfl⟩:∃cv,cvs=[cv]:=by
   match cvs,hl with
   |[cv],_=>exact⟨cv,rfl⟩
   |[],h=>simp at h
   |_::_::_,h=>simp at h
  simp only[RelL] at h3
  exact⟨cv,by rw[hres];rfl,h3.1⟩
 ·rename_i hne
  injection h1 with g1 g2
  subst g1
  refine⟨g2.symm,.tuple cvs.toArray,?_,by simp only[Rel];exact⟨cvs.toArray,rfl,h3⟩⟩
  rw[hres,dif_neg]
  intro h
  have hlen:=h3.len
  simp only[List.size_toArray] at h
  have hl1:vs.length=1:=hlen.symm.trans h
  match vs,hne,hl1 with
  |[v],hne,_=>exact hne v rfl
structure Tbl (P:Program) (G:Gs) (tbl:Nat→FT):Prop where
 code:∀f af,tbl f=.code af→∃fn,P.funcs[f]? =some fn∧compF P G fn=some af∧(fn.name== "runtime.NumGoroutine")=false
 ext:∀f g,tbl f=.ext g→∀args v e vs,g args=some v→St e→GRel G e→RelL e args vs→
  Does P f vs.toArray e.w (fun cv w'=>∃e',e'.w=w'∧e'.h=e.h∧St e'∧Ext e e'∧Rel e' v cv)
 exth:∀f g,tbl f=.exth g→∀args v e vs,g args e.h=some v→St e→GRel G e→RelL e args vs→
  Does P f vs.toArray e.w (fun cv w'=>∃e',e'.w=w'∧e'.h=e.h∧St e'∧Ext e e'∧Rel e' v cv)
theorem evF_sound (hm:P.follows .mixedOrders=true){tbl:Nat→FT} (ht:Tbl P G tbl):∀n,CallOK P G (evF tbl n):=by
 intro n
 induction n with
 |zero=>intro f args r h' e vs hr;cases hr
 |succ n ih=>
  intro f args r h' e vs hr hs hg hrel
  have hr:(FT.rec .no
   (fun fn=>cd (Nat.ble (len args) fn.np) (CR.rec .no (fun e fr h=>Ex.rec (Option.rec .no (ret1 h) (resOf fn.res fr h)) (fun _=>.no) (Option.rec .no (ret1 h) (resOf fn.res fr h)) e)
    (evC (evF tbl n) fn.body (argsFrom args 0 .e) e.h)) .no)
   (fun g=>Option.rec .no (fun v=>.ok v e.h) (g args)) (fun g=>Option.rec .no (fun v=>.ok v e.h) (g args e.h)) (tbl f):R)=.ok r h':=hr
  cases htf:tbl f with
  |none=>rw[htf] at hr;cases hr
  |ext g=>
   rw[htf] at hr
   have hr:(Option.rec .no (fun v=>.ok v e.h) (g args):R)=.ok r h':=hr
   cases hga:g args with
   |none=>rw[hga] at hr;cases hr
   |some v=>
    rw[hga] at hr
    injection(show R.ok v e.h=.ok r h' from hr) with g1 g2
    subst g1 g2
    exact ht.ext f g htf args v e vs hga hs hg hrel
  |exth g=>
   rw[htf] at hr
   have hr:(Option.rec .no (fun v=>.ok v e.h) (g args e.h):R)=.ok r h':=hr
   cases hga:g args e.h with
   |none=>rw[hga] at hr;cases hr
   |some v=>
    rw[hga] at hr
    injection(show R.ok v e.h=.ok r h' from hr) with g1 g2
    subst g1 g2
    exact ht.exth f g htf args v e vs hga hs hg hrel
  |code af=>
   rw[htf] at hr
   obtain⟨fn,hfn,hcf,hname⟩:=ht.code f af htf
   unfold compF at hcf
   obtain⟨b,hb,hcf⟩:=bind_inv hcf
   obtain⟨res,hres,rfl⟩:=map_inv hcf
   have hr:cd (Nat.ble (len args) fn.ntmps) (CR.rec .no (fun e fr h=>Ex.rec (Option.rec .no (ret1 h) (resOf res fr h)) (fun _=>.no) (Option.rec .no (ret1 h) (resOf res fr h)) e)
    (evC (evF tbl n) (compC P G fn.ntmps b) (argsFrom args 0 .e) e.h)) .no=R.ok r h':=hr
   cases hle:Nat.ble (len args) fn.ntmps with
   |false=>rw[hle] at hr;cases hr
   |true=>
    rw[hle] at hr
    have hle:=Nb hle
    rw[len_eq] at hle
    have hlv:=hrel.len
    have hr:(CR.rec .no (fun e fr h=>Ex.rec (Option.rec .no (ret1 h) (resOf res fr h)) (fun _=>.no) (Option.rec .no (ret1 h) (resOf res fr h)) e)
     (evC (evF tbl n) (compC P G fn.ntmps b) (argsFrom args 0 .e) e.h):R)=.ok r h':=hr
    cases hev:evC (evF tbl n) (compC P G fn.ntmps b) (argsFrom args 0 .e) e.h with
    |no=>rw[hev] at hr;cases hr
    |ok ex fr' h1=>
     rw[hev] at hr
     right
     have hname':¬fn.name= "runtime.NumGoroutine" :=by simpa using hname
     refine⟨by simp[callFunc,hfn,hname',hb],?_⟩
     refine calls_of_wp hfn hb (evC_sound hm ih b _ _ e _ ex fr' h1 hev hs (args_rel hrel _) hg (by simp;omega) (fun a' e' he' hs' hx' hf' _ hd'=>?_))
     subst he'
     have key:(Option.rec .no (ret1 e'.h) (resOf res fr' e'.h):R)=.ok r h'→a'.defers=[]∧∃v,(results fn a'.tmps).run P e'.w=.ok v e'.w∧∃v',Ending.returned v=.returned v'∧∃e2,e2.w=e'.w∧e2.h=h'∧St e2∧Ext e e2∧Rel e2 r v':=by
      intro hr
      cases hro:resOf res fr' e'.h with
      |none=>rw[hro] at hr;cases hr
      |some us=>
       rw[hro] at hr
       obtain⟨h2,cv,h3,h4⟩:=results_sound (fn:=fn) hs' hf' hres hro (show ret1 e'.h us=.ok r h' from hr)
       exact⟨hd',cv,h3,cv,rfl,e',rfl,h2.symm,hs',hx',h4⟩
     cases ex with
     |normal=>exact key hr
     |exit id=>cases hr
     |ret=>exact key hr
end
end Go.Ev
end
noncomputable section
namespace Go.Ev
theorem RelL.split {e:Env}:∀{xs ys:List AV}{vs:List Value},RelL e (xs++ys) vs→∃us ws,vs=us++ws∧RelL e xs us∧RelL e ys ws
 |[],ys,vs,h=>⟨[],vs,rfl,by simp[RelL],h⟩
 |x::xs,ys,[],h=>by simp[RelL] at h
 |x::xs,ys,v::vs,h=>by
  simp only[List.cons_append,RelL] at h
  obtain⟨us,ws,h1,h2,h3⟩:=RelL.split h.2
  exact⟨v::us,ws,by rw[h1];rfl,by simp only[RelL];exact⟨h.1,h2⟩,h3⟩
theorem relL1 {e:Env}{x:AV}{vs:List Value} (h:RelL e [x] vs):∃v,vs=[v]∧Rel e x v:=by
 match vs,h with
 |[v],h=>simp only[RelL] at h;exact⟨v,rfl,h.1⟩
 |[],h=>simp[RelL] at h
 |_::_::_,h=>simp[RelL] at h
theorem relL0 {e:Env}{vs:List Value} (h:RelL e [] vs):vs=[]:=by
 cases vs with
 |nil=>rfl
 |cons=>simp[RelL] at h
theorem relL_relT {e:Env}:∀(t:Ty) (x:den t) (vs:List Value),RelL e (tc t x) vs→relT (mm e) e.w t x vs
 |.int k,n,vs,h=>by
  obtain⟨v,rfl,g⟩:=relL1 (show RelL e [.i k n] vs from h)
  simp only[Rel] at g
  subst g;exact rfl
 |.bool,b,vs,h=>by
  obtain⟨v,rfl,g⟩:=relL1 (show RelL e [.b b] vs from h)
  simp only[Rel] at g
  subst g;exact rfl
 |.str,s,vs,h=>by
  obtain⟨v,rfl,g⟩:=relL1 (show RelL e [.s (U (α:=Nat) s) s] vs from h)
  simp only[Rel] at g
  obtain⟨⟨_,hB⟩,h1,rfl⟩:=g
  exact⟨rfl,h1,om⟩
 |.unit,_,vs,h=>relL0 (show RelL e [] vs from h)
 |.pair a b,x,vs,h=>by
  have h:RelL e (catA (tc a x.1) (tc b x.2)) vs:=h
  rw[catA_eq] at h
  obtain⟨us,ws,h1,h2,h3⟩:=RelL.split h
  exact⟨us,ws,h1,relL_relT a _ _ h2,relL_relT b _ _ h3⟩
 |.sl t,xs,vs,h=>by
  obtain⟨v,rfl,g⟩:=relL1 (show RelL e [.isl t xs] vs from h)
  simp only[Rel] at g
  exact g
 |.ptr t,x,vs,h=>by
  obtain⟨v,rfl,g⟩:=relL1 (show RelL e [.ip t x 0] vs from h)
  simp only[Rel] at g
  obtain⟨b,o,us,rfl,h2,h3,h4⟩:=g
  exact⟨b,o,us,rfl,h2,h3,h4⟩
 |.clo f t,x,vs,h=>by
  obtain⟨v,rfl,g⟩:=relL1 (show RelL e [.f (.func f) [] (tc t x)] vs from h)
  simp only[Rel] at g
  obtain⟨us,ws,rfl,h1,h2⟩:=g
  have:us=#[]:=by
   have:=relL0 h1
   simpa using this
  subst this
  exact⟨ws,rfl,relL_relT t _ _ h2⟩
def H0:H:=⟨0,.e⟩
def castD {t t':Ty} (h:t=t') (x:den t):den t':=h▸x
def decRows {α:Type} (d:List AV→Option (α×List AV)) (n:Nat):List AV→Option (List α):=
 Nat.rec (fun _=>some []) (fun _ ih cs=>match d cs with
  |some q=>match ih q.2 with
   |some r=>some (q.1::r)
   |none=>none
  |none=>none) n
theorem decRows_succ {α:Type} (d:List AV→Option (α×List AV)) (n:Nat) (cs:List AV):decRows d (n+1) cs=(match d cs with
 |some q=>match decRows d n q.2 with
  |some r=>some (q.1::r)
  |none=>none
 |none=>none):=rfl
def dec (hd:H) (t:Ty):List AV→Option (den t×List AV):=
 Ty.rec (motive:=fun t=>List AV→Option (den t×List AV))
   (fun k cs=>match cs with
    |.i k' n::r=>cd (kEq k' k) (some (n,r)) none
    |_=>none)
   (fun cs=>match cs with
    |.b x::r=>some (x,r)
    |_=>none)
   (fun cs=>match cs with
    |.s _ l::r=>some (l,r)
    |_=>none)
   (fun cs=>some ((),cs))
   (fun _ _ da db cs=>match da cs with
    |some q=>match db q.2 with
     |some q'=>some ((q.1,q'.1),q'.2)
     |none=>none
    |none=>none)
   (fun t dt cs=>match cs with
    |.isl t' xs::r=>match decEq t' t with
     |isTrue h=>some (castD (congrArg Ty.sl h) xs,r)
     |isFalse _=>none
    |.v (.slice none 0 0)::r=>some ([],r)
    |.em::r=>some ([],r)
    |.sl id off sz n _ _::r=>match n with
     |0=>some ([],r)
     |n+1=>cd (cd (Nat.beq sz (wd t)) (Nat.ble (n+1) 1073741824) false) (match blkCut (hd.get id) off (Nat.mul (n+1) sz) with
      |some l=>match decRows dt (n+1) l with
       |some xs=>some (xs,r)
       |none=>none
      |none=>none) none
    |_=>none)
   (fun t dt cs=>match cs with
    |.ip t' x 0::r=>match decEq t' t with
     |isTrue h=>some (castD (t:=t') (t':=t) h x,r)
     |isFalse _=>none
    |.p id off::r=>match blkCut (hd.get id) off (wd t) with
     |some l=>match dt l with
      |some (x,[])=>some (x,r)
      |_=>none
     |none=>none
    |_=>none)
   (fun f t dt cs=>match cs with
    |.f (.func g) [] caps::r=>cd (Nat.beq g f) (match dt caps with
     |some (x,[])=>some (x,r)
     |_=>none) none
    |_=>none) t
theorem dec_pair (hd:H) (a b:Ty) (cs:List AV):dec hd (.pair a b) cs=(match dec hd a cs with
 |some q=>match dec hd b q.2 with
  |some q'=>some ((q.1,q'.1),q'.2)
  |none=>none
 |none=>none):=rfl
theorem kEq_true {a b:IntKind} (h:kEq a b=true):a=b:=by
 cases a<;>cases b<;>first|rfl|(exact absurd h (by decide))
theorem cellsAt_take {w:World}{b o:Nat}{us ws:List Value} (h:CellsAt w b o (us++ws)):CellsAt w b o us∧CellsAt w b (o+us.length) ws:=by
 constructor
 ·intro j v hj
  exact h j v (by rw[List.getElem?_append_left (List.getElem?_eq_some_iff.1 hj).1];exact hj)
 ·intro j v hj
  have:=h (us.length+j) v (by rw[List.getElem?_append_right om];simpa using hj)
  rw[Nat.add_assoc];exact this
section
variable {e e2:Env}{hd:H}
theorem decRows_rel {t:Ty}{d:List AV→Option (den t×List AV)}
 (ih:∀(cs:List AV) (x:den t) (r:List AV) (vs:List Value),d cs=some (x,r)→RelL e cs vs→∃us ws,vs=us++ws∧relT (mm e2) e2.w t x us∧RelL e r ws) (hw:e2.w=e.w):
 ∀(n:Nat) (cs:List AV) (xs:List (den t)) (vs:List Value) (b o:Nat),decRows d n cs=some xs→RelL e cs vs→CellsAt e.w b o vs→
  xs.length=n∧∀(i:Nat) (x:den t),xs[i]? =some x→∃us,CellsAt e2.w b (o+i*wd t) us∧relT (mm e2) e2.w t x us
 |0,cs,xs,vs,b,o,h,_,_=>by
  obtain rfl:=Oi (show some []=some xs from h)
  exact⟨rfl,fun i x hx=>by simp at hx⟩
 |n+1,cs,xs,vs,b,o,h,hr,hc=>by
  rw[decRows_succ] at h
  cases hq:d cs with
  |none=>rw[hq] at h;cases h
  |some q=>
   rw[hq] at h
   simp only at h
   cases hr':decRows d n q.2 with
   |none=>rw[hr'] at h;cases h
   |some r=>
    rw[hr'] at h
    obtain rfl:=Oi h
    obtain⟨us,ws,rfl,h1,h2⟩:=ih cs q.1 q.2 vs hq hr
    obtain⟨c1,c2⟩:=cellsAt_take hc
    have hlen:=relT_len t _ _ h1
    obtain⟨g1,g2⟩:=decRows_rel ih hw n q.2 r ws b (o+wd t) hr' h2 (by rw[←hlen];exact c2)
    refine⟨by simp[g1],fun i x hx=>?_⟩
    cases i with
    |zero=>
     simp only[List.getElem?_cons_zero,Oj] at hx;subst hx
     exact⟨us,by rw[hw];simpa using c1,h1⟩
    |succ i=>
     obtain⟨us',k1,k2⟩:=g2 i x (by simpa using hx)
     refine⟨us',?_,k2⟩
     rw[show o+(i+1)*wd t=o+wd t+i*wd t by rw[Nat.add_mul];omega];exact k1
theorem castD_rel {m:Mm}{w:World}{t t':Ty} (h:t=t'){x:den t}{vs:List Value} (hr:relT m w t x vs):relT m w t' (castD h x) vs:=by
 subst h;exact hr
theorem blkCut_rel (hs:St e) (hsub:∀id b,hd.get id=some b→e.h.get id=some b){id:Id}{off n:Nat}{l:List AV} (h:blkCut (hd.get id) off n=some l) (hn:0<n):
 live hd id∧∃vs,RelL e l vs∧CellsAt e.w (e.ρ id).1 ((e.ρ id).2+off) vs:=by
 cases hb:hd.get id with
 |none=>rw[hb] at h;cases h
 |some b=>
  rw[hb] at h
  cases b with
  |cs el l0 fz=>
   refine⟨⟨_,hb,by simp⟩,?_⟩
   have h:cut l0 off n=some l:=h
   have hc:cellsAt (.p id off) n e.h=some l:=by
    show blkCut (e.h.get id) off n=some l
    rw[hsub _ _ hb];exact h
   obtain⟨c,fr,h1,h2,h3,_⟩:=hs.blk id _ (hsub _ _ hb)
   obtain⟨hl,hg⟩:=cut_get h
   obtain⟨vs,r1,r2,r3⟩:=relL_of (e:=e) l (fun j=>e.w.cell? ⟨(e.ρ id).1,(e.ρ id).2+off+j,none⟩) (fun j y hy=>by
    have hj:j<n:=by rw[←hl];exact(List.getElem?_eq_some_iff.1 hy).1
    rw[hg j hj] at hy
    obtain⟨ho,u,hu,hru⟩:=h3 _ _ hy
    refine⟨u,?_,hru⟩
    rw[cell_of_row _ _ _ _ _ _ h1,←hu];congr 1;omega)
   exact⟨vs,r1,r3⟩
  |mp es=>cases h
  |it s p=>cases h
  |dead=>cases h
theorem dec_rel (hs:St e) (hw:e2.w=e.w) (hi:Mle (mm e) (mm e2)) (hsub:∀id b,hd.get id=some b→e.h.get id=some b) (ho:∀id,live hd id→Imm e2 (e.ρ id).1) (hlo:1073741824≤e2.F.B):
 ∀(t:Ty) (cs:List AV) (x:den t) (r:List AV) (vs:List Value),dec hd t cs=some (x,r)→RelL e cs vs→∃us ws,vs=us++ws∧relT (mm e2) e2.w t x us∧RelL e r ws:=by
 have cons1:∀{x:AV}{r:List AV}{vs:List Value},RelL e (x::r) vs→∃v ws,vs=[v]++ws∧Rel e x v∧RelL e r ws:=by
  intro x r vs h
  cases vs with
  |nil=>simp[RelL] at h
  |cons v ws=>simp only[RelL] at h;exact⟨v,ws,rfl,h.1,h.2⟩
 intro t
 induction t with
 |int k=>
  intro cs x r vs h hr
  simp only[dec] at h
  split at h
  ·rename_i k' n r'
   obtain⟨h1,h2⟩:=cd_some h
   obtain rfl:=kEq_true h1
   cases h2
   obtain⟨v,ws,rfl,g1,g2⟩:=cons1 hr
   simp only[Rel] at g1
   subst g1
   exact⟨_,ws,rfl,rfl,g2⟩
  ·cases h
 |bool=>
  intro cs x r vs h hr
  simp only[dec] at h
  split at h
  ·cases h
   obtain⟨v,ws,rfl,g1,g2⟩:=cons1 hr
   simp only[Rel] at g1
   subst g1
   exact⟨_,ws,rfl,rfl,g2⟩
  ·cases h
 |str=>
  intro cs x r vs h hr
  simp only[dec] at h
  split at h
  ·cases h
   obtain⟨v,ws,rfl,g1,g2⟩:=cons1 hr
   simp only[Rel] at g1
   obtain⟨⟨_,hB⟩,g3,rfl⟩:=g1
   exact⟨_,ws,rfl,⟨rfl,g3,(show U (α:=Nat) x≤1152921504606846976 by omega)⟩,g2⟩
  ·cases h
 |unit=>
  intro cs x r vs h hr
  cases h
  exact⟨[],vs,rfl,rfl,hr⟩
 |pair a b iha ihb=>
  intro cs x r vs h hr
  rw[dec_pair] at h
  cases hq:dec hd a cs with
  |none=>rw[hq] at h;cases h
  |some q=>
   rw[hq] at h
   simp only at h
   cases hq':dec hd b q.2 with
   |none=>rw[hq'] at h;cases h
   |some q'=>
    rw[hq'] at h
    cases h
    obtain⟨us,ws,rfl,h1,h2⟩:=iha cs q.1 q.2 vs hq hr
    obtain⟨us',ws',rfl,h3,h4⟩:=ihb q.2 q'.1 q'.2 ws hq' h2
    exact⟨us++us',ws',by simp,⟨us,us',rfl,h1,h3⟩,h4⟩
 |sl t ih=>
  intro cs x r vs h hr
  simp only[dec] at h
  split at h
  ·rename_i t' xs r'
   split at h
   ·rename_i ht _
    cases h
    obtain⟨v,ws,rfl,g1,g2⟩:=cons1 hr
    simp only[Rel] at g1
    exact⟨[v],ws,rfl,castD_rel (congrArg Ty.sl ht) (relT_mono (w':=e2.w) hi (fun b o _=>by rw[hw]) _ _ _ g1),g2⟩
   ·cases h
  ·cases h
   obtain⟨v,ws,rfl,g1,g2⟩:=cons1 hr
   simp only[Rel] at g1
   exact⟨[v],ws,rfl,⟨v,rfl,.inl ⟨rfl,g1.1⟩⟩,g2⟩
  ·cases h
   obtain⟨v,ws,rfl,g1,g2⟩:=cons1 hr
   simp only[Rel] at g1
   obtain⟨a,rfl⟩:=g1
   exact⟨_,ws,rfl,⟨_,rfl,.inr ⟨a,0,rfl,Nr _,Nz _,.inl rfl⟩⟩,g2⟩
  ·rename_i id off sz n lo ex r'
   obtain⟨v,ws,rfl,g1,g2⟩:=cons1 hr
   simp only[Rel] at g1
   obtain⟨kn,a,cap,rfl,h1,h2,h3,h4⟩:=g1
   split at h
   ·cases h
    exact⟨_,ws,rfl,⟨_,rfl,.inr ⟨a,cap,rfl,Nz _,Nz _,.inl rfl⟩⟩,g2⟩
   ·rename_i n
    obtain⟨hz,h⟩:=cd_some h
    obtain⟨hz,hB⟩:=cd_true hz
    have hB:=ble_true hB
    obtain rfl:=beq_true hz
    split at h
    ·rename_i l hl
     split at h
     ·rename_i xs' hxs
      cases h
      have hcap:cap≠0:=om
      obtain⟨rfl,_⟩:=h4.resolve_left hcap
      rcases Nat.eq_zero_or_pos (wd t) with h0|h0
      ·
       have hl0:l=[]:=by
        cases hb:hd.get id with
        |none=>rw[hb] at hl;cases hl
        |some b=>
         rw[hb] at hl
         cases b with
         |cs el l0 fz=>
          have:=(cut_get (show cut l0 off (Nat.mul (n+1) (wd t))=some l from hl)).1
          rw[h0] at this
          exact List.eq_nil_of_length_eq_zero (by simpa using this)
         |mp es=>cases hl
         |it s p=>cases hl
         |dead=>cases hl
       have hlive:live hd id:=by
        cases hb:hd.get id with
        |none=>rw[hb] at hl;cases hl
        |some b=>exact⟨b,hb,fun hd'=>by rw[hd'] at hb;rw[hb] at hl;cases hl⟩
       subst hl0
       obtain⟨k1,k2⟩:=decRows_rel (t:=t) ih hw (n+1) [] x [] (e.ρ id).1 ((e.ρ id).2+off) hxs (by simp[RelL]) (fun j v hv=>by simp at hv)
       refine⟨_,ws,rfl,⟨_,rfl,.inr ⟨⟨(e.ρ id).1,(e.ρ id).2+off,none⟩,cap,by rw[k1],by rw[k1];omega,by rw[k1];exact Nt hB hlo,.inr ⟨rfl,ho id hlive,k2⟩⟩⟩,g2⟩
      ·obtain⟨hlive,us,k3,k4⟩:=blkCut_rel hs hsub hl (by show 0<(n+1)*wd t;exact Nat.mul_pos om h0)
       obtain⟨k1,k2⟩:=decRows_rel (t:=t) ih hw (n+1) l x us (e.ρ id).1 ((e.ρ id).2+off) hxs k3 k4
       refine⟨_,ws,rfl,⟨_,rfl,.inr ⟨⟨(e.ρ id).1,(e.ρ id).2+off,none⟩,cap,by rw[k1],by rw[k1];omega,by rw[k1];exact Nt hB hlo,.inr ⟨rfl,ho id hlive,k2⟩⟩⟩,g2⟩
     ·cases h
    ·cases h
  ·cases h
 |ptr t ih=>
  intro cs x r vs h hr
  simp only[dec] at h
  split at h
  ·rename_i t' y r'
   split at h
   ·rename_i ht _
    cases h
    obtain⟨v,ws,rfl,g1,g2⟩:=cons1 hr
    simp only[Rel] at g1
    obtain⟨b,o,us,rfl,g3,g4,g5⟩:=g1
    exact⟨_,ws,rfl,⟨b,o,us,rfl,hi.1 _ g3,fun j v hv=>by rw[hw];exact g4 j v hv,castD_rel ht (relT_mono (w':=e2.w) hi (fun b o _=>by rw[hw]) _ _ _ g5)⟩,g2⟩
   ·cases h
  ·rename_i id off r'
   obtain⟨v,ws,rfl,g1,g2⟩:=cons1 hr
   simp only[Rel] at g1
   obtain⟨kn,rfl⟩:=g1
   split at h
   ·rename_i l hl
    split at h
    ·rename_i y hy
     cases h
     rcases Nat.eq_zero_or_pos (wd t) with h0|h0
     ·have hlive:live hd id:=by
       cases hb:hd.get id with
       |none=>rw[hb] at hl;cases hl
       |some b=>exact⟨b,hb,fun hd'=>by rw[hd'] at hb;rw[hb] at hl;cases hl⟩
      have hl0:l=[]:=by
       cases hb:hd.get id with
       |none=>rw[hb] at hl;cases hl
       |some b=>
        rw[hb] at hl
        cases b with
        |cs el l0 fz=>
         have:=(cut_get (show cut l0 off (wd t)=some l from hl)).1
         exact List.eq_nil_of_length_eq_zero (by rw[this,h0])
        |mp es=>cases hl
        |it s p=>cases hl
        |dead=>cases hl
      subst hl0
      obtain⟨us,ws',h1,h2,h3⟩:=ih [] x [] [] hy (by simp[RelL])
      have:us=[]:=by cases us with|nil=>rfl|cons=>cases h1
      subst this
      exact⟨_,ws,rfl,⟨_,_,[],rfl,ho id hlive,fun j v hv=>by simp at hv,h2⟩,g2⟩
     ·obtain⟨hlive,us,k3,k4⟩:=blkCut_rel hs hsub hl h0
      obtain⟨us',ws',h1,h2,h3⟩:=ih l x [] us hy k3
      obtain rfl:=relL0 h3
      rw[List.append_nil] at h1
      subst h1
      exact⟨_,ws,rfl,⟨_,_,us,rfl,ho id hlive,by rw[hw];exact k4,h2⟩,g2⟩
    ·cases h
   ·cases h
  ·cases h
 |clo f t ih=>
  intro cs x r vs h hr
  simp only[dec] at h
  split at h
  ·rename_i g caps r'
   obtain⟨hz,h⟩:=cd_some h
   obtain rfl:=beq_true hz
   obtain⟨v,ws,rfl,g1,g2⟩:=cons1 hr
   simp only[Rel] at g1
   obtain⟨us,ws',rfl,h1,h2⟩:=g1
   have hus:us=#[]:=by have:=relL0 h1;simpa using this
   subst hus
   split at h
   ·rename_i y hy
    cases h
    obtain⟨us',ws'',h3,h4,h5⟩:=ih caps x [] _ hy h2
    obtain rfl:=relL0 h5
    rw[List.append_nil] at h3
    exact⟨_,ws,rfl,⟨ws',rfl,by rw[h3];exact h4⟩,g2⟩
   ·cases h
  ·cases h
end
end Go.Ev
end
noncomputable section
namespace Go.Ev
structure Par where
 ag:Bool
 t:Ty
abbrev denL (ps:List Par):Type:=List.rec (motive:=fun _=>Type) Unit (fun p _ r=>den p.t×r) ps
def headA (l:List AV):AV:=List.rec .j (fun x _ _=>x) l
def encP (ag:Bool) (t:Ty) (x:den t):AV:=cd ag (.ag (tc t x)) (headA (tc t x))
def encL (ps:List Par):denL ps→List AV:=
 List.rec (motive:=fun ps=>denL ps→List AV) (fun _=>[]) (fun p _ ih x=>encP p.ag p.t x.1::ih x.2) ps
def tupA (vs:List AV):AV:=match vs with
 |[v]=>v
 |vs=>.tu vs
def encR (rs:List Par) (y:denL rs):AV:=tupA (encL rs y)
def decP (hd:H) (ag:Bool) (t:Ty) (x:AV):Option (den t):=
 match(match ag,x with
  |true,.ag cs=>dec hd t cs
  |true,_=>none
  |false,x=>dec hd t [x]) with
 |some (y,[])=>some y
 |_=>none
def decL (hd:H) (ps:List Par):List AV→Option (denL ps):=
 List.rec (motive:=fun ps=>List AV→Option (denL ps)) (fun xs=>match xs with|[]=>some ()|_=>none)
  (fun p _ ih xs=>match xs with
   |x::r=>match decP hd p.ag p.t x with
    |some y=>match ih r with
     |some ys=>some (y,ys)
     |none=>none
    |none=>none
   |[]=>none) ps
def relP (e:Env) (ag:Bool) (t:Ty) (x:den t) (v:Value):Prop:=match ag with
 |true=>∃vs,v=.agg vs∧relT (mm e) e.w t x vs.toList
 |false=>relT (mm e) e.w t x [v]
theorem tc_single {t:Ty}{x:den t} (h:wd t=1):tc t x=[headA (tc t x)]:=by
 have:=tc_len t x
 rw[h] at this
 match tc t x,this with
 |[y],_=>rfl
 |[],h=>simp at h
 |_::_::_,h=>simp at h
theorem relP_rel {e:Env}{ag:Bool}{t:Ty}{x:den t}{v:Value} (h:relP e ag t x v):Rel e (encP ag t x) v:=by
 cases ag with
 |true=>
  obtain⟨vs,rfl,h⟩:=h
  show Rel e (.ag (tc t x)) _
  simp only[Rel]
  exact⟨tc_one t x,vs,rfl,relT_relL t x _ h⟩
 |false=>
  have h:relT (mm e) e.w t x [v]:=h
  have hl:=relT_len t x _ h
  have:=relT_relL t x _ h
  rw[tc_single (by simpa using hl.symm)] at this
  show Rel e (headA (tc t x)) v
  simp only[RelL] at this
  exact this.1
theorem rel_relP {e:Env}{ag:Bool}{t:Ty}{x:den t}{v:Value} (hw:ag=false→wd t=1) (h:Rel e (encP ag t x) v):relP e ag t x v:=by
 cases ag with
 |true=>
  have h':Rel e (.ag (tc t x)) v:=h
  simp only[Rel] at h'
  obtain⟨_,vs,hv,h2⟩:=h'
  exact⟨vs,hv,relL_relT t x _ h2⟩
 |false=>
  have h:Rel e (headA (tc t x)) v:=h
  show relT (mm e) e.w t x [v]
  refine relL_relT t x _ ?_
  rw[tc_single (hw rfl)]
  simp only[RelL];exact⟨h,trivial⟩
section
variable {e e2:Env}{hd:H}
theorem decP_rel (hs:St e) (hw:e2.w=e.w) (hi:Mle (mm e) (mm e2)) (hsub:∀id b,hd.get id=some b→e.h.get id=some b) (ho:∀id,live hd id→Imm e2 (e.ρ id).1) (hlo:1073741824≤e2.F.B)
 {ag:Bool}{t:Ty}{x:AV}{y:den t}{v:Value} (h:decP hd ag t x=some y) (hr:Rel e x v):relP e2 ag t y v:=by
 unfold decP at h
 split at h
 ·rename_i y' hq
  cases h
  cases ag with
  |true=>
   cases x<;>simp only[reduceCtorEq] at hq
   rename_i cs
   simp only[Rel] at hr
   obtain⟨_,vs,rfl,hr⟩:=hr
   obtain⟨us,ws,h1,h2,h3⟩:=dec_rel hs hw hi hsub ho hlo t cs _ _ _ hq hr
   obtain rfl:=relL0 h3
   rw[List.append_nil] at h1
   exact⟨vs,rfl,by rw[h1];exact h2⟩
  |false=>
   have hq:dec hd t [x]=some (y,[]):=hq
   obtain⟨us,ws,h1,h2,h3⟩:=dec_rel hs hw hi hsub ho hlo t [x] _ _ [v] hq (by simp only[RelL];exact⟨hr,trivial⟩)
   obtain rfl:=relL0 h3
   rw[List.append_nil] at h1
   show relT _ _ t y [v]
   rw[h1];exact h2
 ·cases h
theorem decL_cons (hd:H) (p:Par) (ps:List Par) (x:AV) (r:List AV):decL hd (p::ps) (x::r)=(match decP hd p.ag p.t x with
        |some y=>match decL hd ps r with
         |some ys=>some (y,ys)
         |none=>none
        |none=>none):=rfl
theorem decL_nil (hd:H) (p:Par) (ps:List Par):decL hd (p::ps) []=none:=rfl
theorem encL_cons (p:Par) (ps:List Par) (x:denL (p::ps)):encL (p::ps) x=encP p.ag p.t x.1::encL ps x.2:=rfl
theorem decL_rel (hs:St e) (hw:e2.w=e.w) (hi:Mle (mm e) (mm e2)) (hsub:∀id b,hd.get id=some b→e.h.get id=some b) (ho:∀id,live hd id→Imm e2 (e.ρ id).1) (hlo:1073741824≤e2.F.B):
 ∀(ps:List Par) (xs:List AV) (y:denL ps) (vs:List Value),decL hd ps xs=some y→RelL e xs vs→RelL e2 (encL ps y) vs
 |[],xs,y,vs,h,hr=>by
  cases xs with
  |nil=>obtain rfl:=relL0 hr;show RelL e2 [] [];simp[RelL]
  |cons=>cases h
 |p::ps,[],y,vs,h,_=>by rw[decL_nil] at h;cases h
 |p::ps,x::xs,y,vs,h,hr=>by
  rw[decL_cons] at h
  cases vs with
  |nil=>simp[RelL] at hr
  |cons v vs=>
   simp only[RelL] at hr
   split at h
   ·rename_i y1 hy
    split at h
    ·rename_i ys hys
     cases h
     rw[encL_cons]
     simp only[RelL]
     exact⟨relP_rel (decP_rel hs hw hi hsub ho hlo hy hr.1),decL_rel hs hw hi hsub ho hlo ps xs ys vs hys hr.2⟩
    ·cases h
   ·cases h
end
def flatB (t:Ty):Bool:=Ty.rec (fun _=>true) true true true (fun _ _ x y=>cd x y false) (fun _ _=>false) (fun _ _=>false) (fun _ _ _=>false) t
def scal1 (t:Ty):Bool:=Ty.rec (fun _=>true) true true false (fun _ _ _ _=>false) (fun _ _=>false) (fun _ _=>false) (fun _ _ _=>false) t
def scalR (rs:List Par):Bool:=List.rec true (fun p _ ih=>cd (cd p.ag (flatB p.t) (scal1 p.t)) ih false) rs
theorem relT_flat {m m':Mm}{w w':World}:∀(t:Ty) (x:den t) (vs:List Value),flatB t=true→relT m w t x vs→relT m' w' t x vs
 |.int _,_,_,_,h=>h
 |.bool,_,_,_,h=>h
 |.str,_,_,_,h=>h
 |.unit,_,_,_,h=>h
 |.pair a b,x,vs,hf,h=>by
  have hf:cd (flatB a) (flatB b) false=true:=hf
  cases ha:flatB a with
  |false=>rw[ha] at hf;cases hf
  |true=>
   rw[ha] at hf
   obtain⟨us,ws,h1,h2,h3⟩:=h
   exact⟨us,ws,h1,relT_flat a _ _ ha h2,relT_flat b _ _ hf h3⟩
 |.sl _,_,_,hf,_=>by cases hf
 |.ptr _,_,_,hf,_=>by cases hf
 |.clo _ _,_,_,hf,_=>by cases hf
def Fresh (e:Env):Prop:=e.h=H0∧(∀id,(e.ρ id).2=1)∧e.F.lo=0
def KOk (P:Program) (G:Gs) (f:Nat) (ps rs:List Par) (x:denL ps) (y:denL rs):Prop:=
 ∀e vs,Fresh e→St e→GRel G e→RelL e (encL ps x) vs→Does P f vs.toArray e.w (fun cv w'=>∃e',e'.w=w'∧St e'∧Ext e e'∧Rel e' (encR rs y) cv)
structure Con where
 f:Nat
 ps:List Par
 rs:List Par
 F:denL ps→Option (denL rs)
def wfR:List Par→Bool
 |[]=>true
 |p::ps=>(p.ag||Nat.beq (wd p.t) 1)&&wfR ps
def ConOk (P:Program) (G:Gs) (c:Con):Prop:=wfR c.rs=true∧∀x y,c.F x=some y→KOk P G c.f c.ps c.rs x y
def finC (rs:List Par) (h:H) (o:Option (denL rs)):R:=match o with
 |some y=>.ok (encR rs y) h
 |none=>.no
def callC (c:Con) (args:List AV) (h:H):R:=match decL H0 c.ps args with
 |some x=>finC c.rs h (c.F x)
 |none=>match decL h c.ps args with
  |some x=>cd (scalR c.rs) (finC c.rs h (c.F x)) .no
  |none=>.no
def callOf (L:List Con):CallF:=fun f args h=>List.rec .no (fun c _ ih=>cd (Nat.beq c.f f) (callC c args h) ih) L
theorem enc_mono {e e2:Env} (hw:e2.w=e.w) (hi:Mle (mm e) (mm e2)):∀{rs:List Par}{y:denL rs}{vs:List Value},wfR rs=true→RelL e (encL rs y) vs→RelL e2 (encL rs y) vs
 |[],y,vs,_,h=>by obtain rfl:=relL0 (show RelL e [] vs from h);show RelL e2 [] [];simp[RelL]
 |p::ps,y,vs,hwf,h=>by
  rw[encL_cons] at h⊢
  simp only[wfR,Bool.and_eq_true,Bool.or_eq_true] at hwf
  cases vs with
  |nil=>simp[RelL] at h
  |cons v vs=>
   simp only[RelL] at h⊢
   refine⟨?_,enc_mono hw hi hwf.2 h.2⟩
   have hp:=rel_relP (ag:=p.ag) (t:=p.t) (x:=y.1) (fun ha=>by
    rcases hwf.1 with h|h
    ·rw[ha] at h;cases h
    ·exact Nq h) h.1
   refine relP_rel ?_
   cases hag:p.ag with
   |true=>rw[hag] at hp;obtain⟨us,h1,h2⟩:=hp;exact⟨us,h1,relT_mono (w':=e2.w) hi (fun b o _=>by rw[hw]) _ _ _ h2⟩
   |false=>rw[hag] at hp;exact relT_mono (w':=e2.w) hi (fun b o _=>by rw[hw]) _ _ _ hp
theorem tupA_mono {e e2:Env}{vs:List AV}{v:Value} (hm:∀us,RelL e vs us→RelL e2 vs us) (h:Rel e (tupA vs) v):Rel e2 (tupA vs) v:=by
 match vs with
 |[x]=>
  have:=hm [v] (by simp only[RelL];exact⟨h,trivial⟩)
  simp only[RelL] at this;exact this.1
 |[]=>
  replace h:Rel e (.tu []) v:=h
  show Rel e2 (.tu []) v
  simp only[Rel] at h⊢
  obtain⟨us,hv,h2⟩:=h
  exact⟨us,hv,hm _ h2⟩
 |x::y::r=>
  replace h:Rel e (.tu (x::y::r)) v:=h
  show Rel e2 (.tu (x::y::r)) v
  simp only[Rel] at h⊢
  obtain⟨us,hv,h2⟩:=h
  exact⟨us,hv,hm _ h2⟩
theorem encR_mono {e e2:Env} (hw:e2.w=e.w) (hi:Mle (mm e) (mm e2)){rs:List Par}{y:denL rs}{v:Value} (hwf:wfR rs=true) (h:Rel e (encR rs y) v):Rel e2 (encR rs y) v:=
 tupA_mono (fun _=>enc_mono hw hi hwf) h
theorem scal_mono {e e2:Env}:∀{rs:List Par}{y:denL rs}{vs:List Value},scalR rs=true→RelL e (encL rs y) vs→RelL e2 (encL rs y) vs
 |[],y,vs,_,h=>by obtain rfl:=relL0 (show RelL e [] vs from h);show RelL e2 [] [];simp[RelL]
 |⟨ag,t⟩::ps,y,vs,hs,h=>by
  rw[encL_cons] at h⊢
  have hs:cd (cd ag (flatB t) (scal1 t)) (scalR ps) false=true:=hs
  cases vs with
  |nil=>simp[RelL] at h
  |cons v vs=>
   simp only[RelL] at h⊢
   cases ag with
   |true=>
    have hs:cd (flatB t) (scalR ps) false=true:=hs
    cases hf:flatB t with
    |false=>rw[hf] at hs;cases hs
    |true=>
     rw[hf] at hs
     refine⟨?_,scal_mono (show scalR ps=true from hs) h.2⟩
     have h1:Rel e (.ag (tc t y.1)) v:=h.1
     show Rel e2 (.ag (tc t y.1)) v
     simp only[Rel] at h1⊢
     obtain⟨g1,us,g2,g3⟩:=h1
     exact⟨g1,us,g2,relT_relL t y.1 us.toList (relT_flat t y.1 us.toList hf (relL_relT t y.1 us.toList g3))⟩
   |false=>
    have hs:cd (scal1 t) (scalR ps) false=true:=hs
    cases t with
    |int k=>
     refine⟨?_,scal_mono (show scalR ps=true from hs) h.2⟩
     have h1:Rel e (.i k y.1) v:=h.1
     show Rel e2 (.i k y.1) v
     simpa only[Rel] using h1
    |bool=>
     refine⟨?_,scal_mono (show scalR ps=true from hs) h.2⟩
     have h1:Rel e (.b y.1) v:=h.1
     show Rel e2 (.b y.1) v
     simpa only[Rel] using h1
    |str=>
     refine⟨?_,scal_mono (show scalR ps=true from hs) h.2⟩
     have h1:Rel e (.s (U (α:=Nat) y.1) y.1) v:=h.1
     show Rel e2 (.s (U (α:=Nat) y.1) y.1) v
     simpa only[Rel] using h1
    |unit=>cases hs
    |pair a b=>cases hs
    |sl t=>cases hs
    |ptr t=>cases hs
    |clo f t=>cases hs
theorem H0_get (id:Id):H0.get id=none:=by show T.get id .e=none;rw[T.get_e]
section
variable {P:Program}{G:Gs}
theorem Does.mono {f:FuncId}{args:Array Value}{w:World}{R R':Value→World→Prop} (h:Does P f args w R) (hi:∀v w',R v w'→R' v w'):Does P f args w R':=by
 rcases h with ⟨v,w',h1,h2⟩|⟨h1,h2⟩
 ·exact .inl ⟨v,w',h1,hi v w' h2⟩
 ·exact .inr ⟨h1,h2.mono (fun _ w' ⟨v,he,hR⟩=>⟨v,he,hi v w' hR⟩)⟩
theorem call_core {f:Nat}{ps rs:List Par}{x:denL ps}{y:denL rs}{e:Env}{vs:List Value} (hs:St e) (hg:GRel G e) (hk:KOk P G f ps rs x y)
 (F:Nat→Prop) (hF:∀b,F b→b<e.w.heap.size) (hF2:∀b,Imm e b→¬F b)
 (hrel:RelL ⟨fun _=>(0,1),H0,e.w,⟨F,0,e.F.B⟩⟩ (encL ps x) vs)
 (hfin:∀(e1:Env) (cv:Value),St e1→Ext ⟨fun _=>(0,1),H0,e.w,⟨F,0,e.F.B⟩⟩ e1→Rel e1 (encR rs y) cv→Rel ⟨e.ρ,e.h,e1.w,e.F⟩ (encR rs y) cv):
 Does P f vs.toArray e.w (fun cv w'=>∃e',e'.w=w'∧e'.h=e.h∧St e'∧Ext e e'∧Rel e' (encR rs y) cv):=by
 let e0:Env:=⟨fun _=>(0,1),H0,e.w,⟨F,0,e.F.B⟩⟩
 have hno:∀id,e0.h.get id=none:=H0_get
 have hkn:∀id,¬known e0 id:=fun id h=>by simp[known,e0] at h
 have hown0:∀b,¬Own e0 b:=fun b ⟨id,⟨_,hb,_⟩,_⟩=>by rw[hno] at hb;cases hb
 have hs0:St e0:={
  kn:=fun id h=>absurd h (hkn id)
  dk:=fun id b hb=>by rw[hno] at hb;cases hb
  lo:=Nr 0
  blk:=fun id b hb=>by rw[hno] at hb;cases hb
  inj:=fun id _ ⟨b,hb,_⟩=>by rw[hno] at hb;cases hb
  fr:=fun b hb=>⟨hF b hb,hown0 b⟩}
 have hi0:Mle (mm e) (mm e0):=⟨fun b (hb:Imm e b)=>⟨hb.1,hF2 b hb,hown0 b⟩,Nr _⟩
 have hg0:GRel G e0:=⟨hg.1,fun g q hq=>by
  obtain⟨h1,h2⟩:=hg.2.1 g q hq
  refine⟨?_,h2⟩
  simp only[Rel] at h1⊢
  obtain⟨b,o,us,hv,h3,h4,h5⟩:=h1
  exact⟨b,o,us,hv,hi0.1 b h3,h4,relT_mono hi0 (fun b o _=>rfl) _ _ _ h5⟩,fun g hq=>by
  obtain⟨m,h1⟩:=hg.2.2.1 g hq
  refine⟨m,?_⟩
  simp only[Rel] at h1⊢
  obtain⟨b,o,us,hv,h3,h4,h5⟩:=h1
  exact⟨b,o,us,hv,hi0.1 b h3,h4,relT_mono hi0 (fun b o _=>rfl) _ _ _ h5⟩,fun g hq=>let⟨h1,v,h2,h3⟩:=hg.2.2.2 g hq;⟨by simp only[Rel] at h1⊢;obtain⟨b,o,us,hv,h4,h5,h6⟩:=h1;exact⟨b,o,us,hv,hi0.1 b h4,h5,h6⟩,v,h2,h3⟩⟩
 refine Does.mono (hk e0 vs ⟨rfl,fun _=>rfl,rfl⟩ hs0 hg0 hrel) ?_
 rintro cv w' ⟨e1,hw1,hs1,hx1,hr1⟩
 have hlt:∀id,live e.h id→(e.ρ id).1<e.w.heap.size:=fun id h=>hs.lt h
 let e':Env:=⟨e.ρ,e.h,w',e.F⟩
 have hkeep:∀b,b<e.w.heap.size→w'.heap[b]? =e.w.heap[b]? :=fun b hb=>by
  have:=hx1.keep b hb (hown0 b)
  rw[hw1] at this;exact this
 have hx:Ext e e':={
  next:=Nr _
  kn:=fun _ h=>h
  ren:=fun _ _=>rfl
  fr:=rfl
  qt:=by have:=hx1.qt;rw[hw1] at this;exact this
  heap:=by have:=hx1.heap;rw[hw1] at this;exact this
  keep:=fun b hb _=>hkeep b hb
  size:=fun b hb=>by have:=hx1.size b hb;rw[hw1] at this;exact this
  own:=fun _ _ h=>h
  pres:=fun _ b h=>⟨b,h⟩
  newk:=fun _ h=>.inl h}
 have hs':St e':={
  kn:=hs.kn
  dk:=hs.dk
  lo:=hs.lo
  blk:=fun id b hb=>by
   by_cases hd:b=.dead
   ·subst hd;trivial
   ·exact BlkRel.ext hx (hs.dk id b hb) (hkeep _ (hlt id ⟨b,hb,hd⟩)) b (hs.blk id b hb)
  inj:=hs.inj
  fr:=fun b hb=>⟨Nl (hs.fr b hb).1 hx.heap,(hs.fr b hb).2⟩}
 refine⟨e',rfl,rfl,hs',hx,?_⟩
 have:=hfin e1 cv hs1 hx1 hr1
 rw[hw1] at this
 exact this
theorem finC_inv {rs:List Par}{h h':H}{o:Option (denL rs)}{v:AV} (hr:finC rs h o=.ok v h'):∃y,o=some y∧v=encR rs y∧h'=h:=by
 unfold finC at hr
 split at hr
 ·rename_i y
  injection hr with h1 h2
  exact⟨y,rfl,h1.symm,h2.symm⟩
 ·cases hr
theorem callC_ok (hlo:1073741824≤G.B){c:Con} (hc:ConOk P G c){args:List AV}{r:AV}{h':H}{e:Env}{vs:List Value} (hr:callC c args e.h=.ok r h') (hs:St e) (hg:GRel G e) (hrel:RelL e args vs):
 Does P c.f vs.toArray e.w (fun v w'=>∃e',e'.w=w'∧e'.h=h'∧St e'∧Ext e e'∧Rel e' r v):=by
 unfold callC at hr
 split at hr
 ·rename_i x hx
  obtain⟨y,hy,rfl,rfl⟩:=finC_inv hr
  have hown0:∀(F:Fix) b,¬Own ⟨fun _=>(0,1),H0,e.w,F⟩ b:=fun F b ⟨id,⟨_,hb,_⟩,_⟩=>by rw[H0_get] at hb;cases hb
  refine call_core hs hg (hc.2 x y hy) (fun b=>e.F.f b∨Own e b) (fun b hb=>Or.elim hb (fun h=>(hs.fr b h).1) (fun⟨id,hl,he⟩=>he▸hs.lt hl)) (fun b hb h=>Or.elim h hb.2.1 hb.2.2) ?_ ?_
  ·refine decL_rel (e2:=⟨fun _=>(0,1),H0,e.w,⟨fun b=>e.F.f b∨Own e b,0,e.F.B⟩⟩) hs rfl ⟨fun b (hb:Imm e b)=>⟨hb.1,fun h=>Or.elim h hb.2.1 hb.2.2,hown0 _ b⟩,Nr _⟩ (fun id b hb=>?_) (fun id ⟨b,hb,_⟩=>?_) (by show 1073741824≤e.F.B;rw[hg.1];exact hlo) c.ps args x vs hx hrel
   ·rw[H0_get] at hb;cases hb
   ·rw[H0_get] at hb;cases hb
  ·intro e1 cv hs1 hx1 hr1
   refine encR_mono (e:=e1) (e2:=⟨e.ρ,e.h,e1.w,e.F⟩) rfl ⟨fun b (hb:Imm e1 b)=>⟨hb.1,fun h=>?_,fun h=>?_⟩,by show e1.F.B≤e.F.B;rw[hx1.fr];exact Nr _⟩ hc.1 hr1
   ·exact hb.2.1 (by rw[hx1.fr];exact Or.inl h)
   ·exact hb.2.1 (by rw[hx1.fr];exact Or.inr h)
 ·split at hr
  ·rename_i x hx
   cases hsc:scalR c.rs with
   |false=>rw[hsc] at hr;cases hr
   |true=>
    rw[hsc] at hr
    obtain⟨y,hy,rfl,rfl⟩:=finC_inv (show finC c.rs e.h (c.F x)=.ok r h' from hr)
    have hown0:∀(F:Fix) b,¬Own ⟨fun _=>(0,1),H0,e.w,F⟩ b:=fun F b ⟨id,⟨_,hb,_⟩,_⟩=>by rw[H0_get] at hb;cases hb
    refine call_core hs hg (hc.2 x y hy) e.F.f (fun b hb=>(hs.fr b hb).1) (fun b hb=>hb.2.1) ?_ ?_
    ·refine decL_rel (e2:=⟨fun _=>(0,1),H0,e.w,⟨e.F.f,0,e.F.B⟩⟩) hs rfl ⟨fun b (hb:Imm e b)=>⟨hb.1,hb.2.1,hown0 _ b⟩,Nr _⟩ (fun id b hb=>hb) (fun id hl=>⟨hs.lt hl,fun h=>(hs.fr _ h).2 ⟨id,hl,rfl⟩,hown0 _ _⟩) (by show 1073741824≤e.F.B;rw[hg.1];exact hlo) c.ps args x vs hx hrel
    ·intro e1 cv hs1 hx1 hr1
     exact tupA_mono (fun _=>scal_mono hsc) hr1
  ·cases hr
theorem callOf_ok (hlo:1073741824≤G.B):∀{L:List Con},(∀c∈L,ConOk P G c)→CallOK P G (callOf L)
 |[],_=>fun f args r h' e vs hr=>by cases hr
 |c::L,h=>fun f args r h' e vs hr hs hg hrel=>by
  have hr:cd (Nat.beq c.f f) (callC c args e.h) (callOf L f args e.h)=.ok r h':=hr
  cases hb:Nat.beq c.f f with
  |true=>
   rw[hb] at hr
   obtain rfl:=Nq hb
   exact callC_ok hlo (h c (by simp)) hr hs hg hrel
  |false=>
   rw[hb] at hr
   exact callOf_ok hlo (L:=L) (fun c hc=>h c (by simp[hc])) f args r h' e vs hr hs hg hrel
end
end Go.Ev
end
noncomputable section
namespace Go.Ev
def mkFr (L:List (List Bool×AV)):T AV:=List.rec .e (fun q _ t=>T.set q.1 q.2 t) L
def hpT (bs:List (Option Blk)):Nat→T Blk:=
 List.rec (motive:=fun _=>Nat→T Blk) (fun _=>.e) (fun b _ ih k=>Option.rec (ih (Nat.succ k)) (fun b=>T.set (path k) b (ih (Nat.succ k))) b) bs
def hpH (n:Nat) (bs:List (Option Blk)):H:=⟨n,hpT bs 0⟩
def heapL (h:H) (n:Nat):List (Option Blk):=Nat.rec (motive:=fun _=>Nat→List (Option Blk)) (fun _=>[]) (fun _ ih k=>h.get (path k)::ih (Nat.succ k)) n 0
mutual
def avOk (n:Nat):AV→Prop
 |.p id _=>unpath id<n
 |.sl id _ _ _ _ _=>unpath id<n
 |.m id=>unpath id<n
 |.f _ a b=>avOkL n a∧avOkL n b
 |.ifc _ x=>avOk n x
 |.ag cs=>avOkL n cs
 |.tu cs=>avOkL n cs
 |_=>True
def avOkL (n:Nat):List AV→Prop
 |[]=>True
 |x::xs=>avOk n x∧avOkL n xs
end
def blkOk (n:Nat):Option Blk→Prop
 |some (.cs _ l _)=>avOkL n l
 |some (.mp es)=>∀q∈es,avOk n q.1∧avOk n q.2
 |_=>True
def blksOk (n:Nat):List (Option Blk)→Prop
 |[]=>True
 |b::bs=>blkOk n b∧blksOk n bs
def Holds (fr:T AV):List (List Bool×AV)→Prop
 |[]=>True
 |q::L=>getV fr q.1=q.2∧Holds fr L
def LOk (n:Nat):List (List Bool×AV)→Prop
 |[]=>True
 |q::L=>avOk n q.2∧LOk n L
theorem avOkL_mem {n:Nat}:∀{l:List AV},avOkL n l→∀x∈l,avOk n x
 |[],_,x,h=>by cases h
 |y::l,h,x,hx=>by
  simp only[avOkL] at h
  rcases List.mem_cons.1 hx with rfl|hx
  ·exact h.1
  ·exact avOkL_mem h.2 x hx
theorem unpath_bij:∀(l:List Bool),path (unpath l)=l
 |[]=>rfl
 |b::l=>by
  have ih:=unpath_bij l
  rw[path_eq] at ih⊢
  have hf:∀(f k:Nat),k<f→pathF f k=path k:=by
   intro f
   induction f with
   |zero=>intro k h;omega
   |succ f ih=>
    intro k h
    rw[path_eq]
    simp only[pathF]
    by_cases hk:k=0
    ·simp[hk]
    ·simp only[hk,if_false]
     congr 1
     rw[ih _ om]
     rw[path_eq]
     have:∀(a b c:Nat),c<a→c<b→pathF a c=pathF b c:=by
      intro a
      induction a with
      |zero=>intro b c h;omega
      |succ a iha=>
       intro b c h1 h2
       cases b with
       |zero=>omega
       |succ b=>
        simp only[pathF]
        by_cases hc:c=0
        ·simp[hc]
        ·simp only[hc,if_false];rw[iha b _ om om]
     exact this _ _ _ om om
  have hu:unpath (b::l)=2*unpath l+(if b then 1 else 2):=rfl
  rw[hu]
  have hne:2*unpath l+(if b then 1 else 2)≠0:=by cases b<;>simp
  simp only[pathF,hne,if_false]
  have hd:(2*unpath l+(if b then 1 else 2) - 1) / 2=unpath l:=by cases b<;>simp<;>omega
  rw[hd,hf _ _ (by cases b<;>simp<;>omega)]
  rw[path_eq,ih]
  cases b<;>simp<;>omega
theorem getV_mkFr {fr:T AV}:∀{L:List (List Bool×AV)},Holds fr L→∀p,getV (mkFr L) p=.j∨getV (mkFr L) p=getV fr p
 |[],_,p=>.inl (getV_e p)
 |q::L,h,p=>by
  have h1:getV (mkFr (q::L)) p=getV (T.set q.1 q.2 (mkFr L)) p:=rfl
  rw[h1,getV_set]
  by_cases hp:p=q.1
  ·rw[if_pos hp,hp];exact .inr h.1.symm
  ·rw[if_neg hp];exact getV_mkFr h.2 p
theorem mkFr_rel {e:Env}{fr:T AV}{tmps:Array Value}{L:List (List Bool×AV)} (hf:FrRel e fr tmps) (h:Holds fr L):FrRel e (mkFr L) tmps:=by
 intro k
 rcases getV_mkFr h (path k) with h|h
 ·rw[h];simp[Rel]
 ·rw[h];exact hf k
theorem hpT_get:∀(bs:List (Option Blk)) (k j:Nat),T.get (path j) (hpT bs k)=if k≤j then(bs[j - k]?).join else none
 |[],k,j=>by
  show T.get (path j) .e=_
  rw[T.get_e];simp
 |b::bs,k,j=>by
  have ih:=hpT_get bs (k+1) j
  cases b with
  |none=>
   show T.get (path j) (hpT bs (k+1))=_
   rw[ih]
   by_cases h:k+1≤j
   ·rw[if_pos h,if_pos om,show j - k=(j - (k+1))+1 by omega];simp
   ·rw[if_neg h]
    by_cases h2:k≤j
    ·rw[if_pos h2,show j - k=0 by omega];simp
    ·rw[if_neg h2]
  |some b=>
   show T.get (path j) (T.set (path k) b (hpT bs (k+1)))=_
   rw[T.get_set,ih]
   by_cases h0:j=k
   ·subst h0;simp
   ·rw[if_neg (fun h=>h0 (path_inj h))]
    by_cases h:k+1≤j
    ·rw[if_pos h,if_pos om,show j - k=(j - (k+1))+1 by omega];simp
    ·rw[if_neg h,if_neg om]
theorem hpH_get (n:Nat) (bs:List (Option Blk)) (j:Nat):(hpH n bs).get (path j)=(bs[j]?).join:=by
 show T.get (path j) (hpT bs 0)=_
 rw[hpT_get];simp
theorem heapL_get (h:H) (n:Nat):∀j,(heapL h n)[j]? =if j<n then some (h.get (path j)) else none:=by
 have:∀n k j,(Nat.rec (motive:=fun _=>Nat→List (Option Blk)) (fun _=>[]) (fun _ ih k=>h.get (path k)::ih (Nat.succ k)) n k:List (Option Blk))[j]? =if j<n then some (h.get (path (k+j))) else none:=by
  intro n
  induction n with
  |zero=>intro k j;show([]:List (Option Blk))[j]? =_;simp
  |succ n ih=>
   intro k j
   cases j with
   |zero=>simp
   |succ j=>
    show(Nat.rec (motive:=fun _=>Nat→List (Option Blk)) (fun _=>[]) (fun _ ih k=>h.get (path k)::ih (Nat.succ k)) n (k+1):List (Option Blk))[j]? =_
    rw[ih]
    by_cases hj:j<n
    ·rw[if_pos hj,if_pos om];congr 3;omega
    ·rw[if_neg hj,if_neg om]
 intro j
 have:=this n 0 j
 rw[Nat.zero_add] at this
 exact this
def cutE (e:Env) (n:Nat) (h:H):Env:=⟨fun id=>if unpath id<n then e.ρ id else(0,1),h,e.w,e.F⟩
section
variable {e:Env}{n:Nat}{h:H}
theorem cutE_live (hh:∀id b,h.get id=some b→unpath id<n∧e.h.get id=some b){id:Id} (hl:live (cutE e n h).h id):live e.h id∧unpath id<n:=by
 obtain⟨b,hb,hd⟩:=hl
 obtain⟨h1,h2⟩:=hh id b hb
 exact⟨⟨b,h2,hd⟩,h1⟩
theorem cutE_own (hh:∀id b,h.get id=some b→unpath id<n∧e.h.get id=some b){b:Nat} (ho:Own (cutE e n h) b):Own e b:=by
 obtain⟨id,hl,he⟩:=ho
 obtain⟨h1,h2⟩:=cutE_live hh hl
 refine⟨id,h1,?_⟩
 have:(cutE e n h).ρ id=e.ρ id:=if_pos h2
 rw[this] at he;exact he
theorem cutE_imm (hh:∀id b,h.get id=some b→unpath id<n∧e.h.get id=some b){b:Nat} (hi:Imm e b):Imm (cutE e n h) b:=⟨hi.1,hi.2.1,fun ho=>hi.2.2 (cutE_own hh ho)⟩
mutual
theorem Rel.cutE (hh:∀id b,h.get id=some b→unpath id<n∧e.h.get id=some b):∀(x:AV) (v:Value),avOk n x→Rel e x v→Rel (Ev.cutE e n h) x v
 |.i ..,_,_,hr=>by simpa only[Rel] using hr
 |.b ..,_,_,hr=>by simpa only[Rel] using hr
 |.s ..,_,_,hr=>by simpa only[Rel] using hr
 |.v ..,_,_,hr=>by simpa only[Rel] using hr
 |.p id off,v,ha,hr=>by
  simp only[Rel] at hr⊢
  have hρ:(Ev.cutE e n h).ρ id=e.ρ id:=if_pos (by simpa only[avOk] using ha)
  simp only[known,hρ];exact hr
 |.sl id off sz k lo ex,v,ha,hr=>by
  simp only[Rel] at hr⊢
  have hρ:(Ev.cutE e n h).ρ id=e.ρ id:=if_pos (by simpa only[avOk] using ha)
  simp only[known,hρ];exact hr
 |.em,_,_,hr=>by simpa only[Rel] using hr
 |.isl t xs,v,_,hr=>by
  simp only[Rel] at hr⊢
  exact relT_mono (m:=mm e) (m':=mm (Ev.cutE e n h)) ⟨fun b (hb:Imm e b)=>cutE_imm hh hb,Nr _⟩ (fun b o _=>rfl) _ _ _ hr
 |.ip t x off,v,_,hr=>by
  simp only[Rel] at hr⊢
  obtain⟨b,o,us,hv,hm,hc,hr⟩:=hr
  exact⟨b,o,us,hv,cutE_imm hh hm,hc,relT_mono (m:=mm e) (m':=mm (Ev.cutE e n h)) ⟨fun b (hb:Imm e b)=>cutE_imm hh hb,Nr _⟩ (fun b o _=>rfl) _ _ _ hr⟩
 |.f fn a b,v,ha,hr=>by
  simp only[Rel] at hr⊢
  simp only[avOk] at ha
  obtain⟨vs,ws,hv,h1,h2⟩:=hr
  exact⟨vs,ws,hv,RelL.cutE hh _ _ ha.1 h1,RelL.cutE hh _ _ ha.2 h2⟩
 |.ifc t x,v,ha,hr=>by
  simp only[Rel] at hr⊢
  simp only[avOk] at ha
  obtain⟨u,hv,hu⟩:=hr
  exact⟨u,hv,Rel.cutE hh _ _ ha hu⟩
 |.ag cs,v,ha,hr=>by
  simp only[Rel] at hr⊢
  simp only[avOk] at ha
  obtain⟨h1,vs,hv,h2⟩:=hr
  exact⟨h1,vs,hv,RelL.cutE hh _ _ ha h2⟩
 |.tu cs,v,ha,hr=>by
  simp only[Rel] at hr⊢
  simp only[avOk] at ha
  obtain⟨vs,hv,h2⟩:=hr
  exact⟨vs,hv,RelL.cutE hh _ _ ha h2⟩
 |.m id,v,ha,hr=>by
  simp only[Rel] at hr⊢
  have hρ:(Ev.cutE e n h).ρ id=e.ρ id:=if_pos (by simpa only[avOk] using ha)
  simp only[known,hρ];exact hr
 |.j,_,_,_=>by simp[Rel]
theorem RelL.cutE (hh:∀id b,h.get id=some b→unpath id<n∧e.h.get id=some b):∀(xs:List AV) (vs:List Value),avOkL n xs→RelL e xs vs→RelL (Ev.cutE e n h) xs vs
 |[],[],_,_=>by simp[RelL]
 |[],_::_,_,hr=>by simp[RelL] at hr
 |_::_,[],_,hr=>by simp[RelL] at hr
 |x::xs,v::vs,ha,hr=>by
  simp only[RelL] at hr⊢
  simp only[avOkL] at ha
  exact⟨Rel.cutE hh _ _ ha.1 hr.1,RelL.cutE hh _ _ ha.2 hr.2⟩
end
theorem EntRel.cutE (hh:∀id b,h.get id=some b→unpath id<n∧e.h.get id=some b):∀(es:List (AV×AV)) (ms:List MapEntry),(∀q∈es,avOk n q.1∧avOk n q.2)→EntRel e es ms→EntRel (Ev.cutE e n h) es ms
 |[],[],_,_=>trivial
 |[],_::_,_,hr=>hr.elim
 |(_,_)::_,[],_,hr=>hr.elim
 |(k,v)::es,m::ms,ha,hr=>⟨Rel.cutE hh _ _ (ha (k,v) (by simp)).1 hr.1,Rel.cutE hh _ _ (ha (k,v) (by simp)).2 hr.2.1,EntRel.cutE hh es ms (fun q hq=>ha q (by simp[hq])) hr.2.2⟩
theorem cutE_st (hs:St e) (hh:∀id b,h.get id=some b→unpath id<n∧e.h.get id=some b) (hh2:∀id b,e.h.get id=some b→unpath id<n→h.get id=some b) (hn:h.next=n) (hlo:e.F.lo≤n)
 (hb:∀id b,h.get id=some b→blkOk n (some b)):St (cutE e n h) where
 kn:=fun id hk=>by
  by_cases hlt:unpath id<n
  ·have hρ:(cutE e n h).ρ id=e.ρ id:=if_pos hlt
   have hk':known e id:=by unfold known at hk;rw[hρ] at hk;exact hk
   obtain⟨k,hk1,he,hp⟩:=hs.kn id hk'
   have hu:unpath id=k:=by rw[he,unpath_path]
   refine⟨k,by show k<h.next;omega,he,fun hl=>?_⟩
   obtain⟨b,hb⟩:=hp hl
   exact⟨b,hh2 id b hb hlt⟩
  ·have hρ:(cutE e n h).ρ id=(0,1):=if_neg hlt
   unfold known at hk;rw[hρ] at hk;cases hk
 dk:=fun id b hb=>by
  obtain⟨h1,h2⟩:=hh id b hb
  have hρ:(cutE e n h).ρ id=e.ρ id:=if_pos h1
  unfold known;rw[hρ];exact hs.dk id b h2
 lo:=by show e.F.lo≤h.next;omega
 blk:=fun id b hg=>by
  obtain⟨h1,h2⟩:=hh id b hg
  have hρ:(cutE e n h).ρ id=e.ρ id:=if_pos h1
  have hbo:=hb id b hg
  have:=hs.blk id b h2
  cases b with
  |cs el l fz=>
   obtain⟨c,fr,g1,g2,g3,g4⟩:=this
   simp only[BlkRel,hρ]
   refine⟨c,fr,g1,g2,fun j x hx=>?_,g4⟩
   obtain⟨ho,v,hv,hr⟩:=g3 j x hx
   exact⟨ho,v,hv,Rel.cutE hh _ _ (avOkL_mem hbo x (List.mem_of_getElem? hx)) hr⟩
  |mp es=>
   obtain⟨ms,clock,g1,g2⟩:=this
   simp only[BlkRel,hρ]
   exact⟨ms,clock,g1,EntRel.cutE hh _ _ hbo g2⟩
  |it s pos=>simp only[BlkRel,hρ] at this⊢;exact this
  |dead=>trivial
 inj:=fun id id' hl hl' he=>by
  obtain⟨h1,h2⟩:=cutE_live hh hl
  obtain⟨h3,h4⟩:=cutE_live hh hl'
  have hρ:(cutE e n h).ρ id=e.ρ id:=if_pos h2
  have hρ':(cutE e n h).ρ id'=e.ρ id':=if_pos h4
  rw[hρ,hρ'] at he
  exact hs.inj id id' h1 h3 he
 fr:=fun b hb=>⟨(hs.fr b hb).1,fun ho=>(hs.fr b hb).2 (cutE_own hh ho)⟩
theorem cutE_ext {e1:Env} (hs1:St e1) (hx:Ext e1 e) (hh:∀id b,h.get id=some b→unpath id<n∧e.h.get id=some b) (hh2:∀id b,e.h.get id=some b→unpath id<n→h.get id=some b)
 (hs:St e) (hn:h.next=n) (hn1:e1.h.next=n):Ext e1 (cutE e n h):=by
 have hlt:∀id,known e1 id→unpath id<n:=fun id hk=>by
  obtain⟨k,hk1,he,_⟩:=hs1.kn id hk
  rw[he,unpath_path];omega
 exact{
  next:=by show e1.h.next≤h.next;omega
  kn:=fun id hk=>by
   have hρ:(cutE e n h).ρ id=e.ρ id:=if_pos (hlt id hk)
   unfold known;rw[hρ];exact hx.kn id hk
  ren:=fun id hk=>by
   have hρ:(cutE e n h).ρ id=e.ρ id:=if_pos (hlt id hk)
   rw[hρ];exact hx.ren id hk
  fr:=hx.fr
  heap:=hx.heap
  keep:=hx.keep
  size:=hx.size
  own:=fun b hb ho=>hx.own b hb (cutE_own hh ho)
  pres:=fun id b hb=>by
   obtain⟨b',hb'⟩:=hx.pres id b hb
   exact⟨b',hh2 id b' hb' (hlt id (hs1.dk id b hb))⟩
  newk:=fun id hk=>by
   by_cases hl:unpath id<n
   ·have hρ:(cutE e n h).ρ id=e.ρ id:=if_pos hl
    have hk':known e id:=by unfold known at hk;rw[hρ] at hk;exact hk
    rcases hx.newk id hk' with h|⟨b,hb⟩
    ·exact .inl h
    ·exact .inr ⟨b,hh2 id b hb hl⟩
   ·have hρ:(cutE e n h).ρ id=(0,1):=if_neg hl
    unfold known at hk;rw[hρ] at hk;cases hk
  qt:=hx.qt}
end
end Go.Ev
end
noncomputable section
namespace Go.Ev
def Sat (P:Program) (G:Gs) (nt:Nat) (c:Code) (fr:T AV) (h:H) (Q:Ex→T AV→H→Prop):Prop:=
 ∀(K:Exit→Act→World→Prop) (e:Env) (a:Act),e.h=h→St e→FrRel e fr a.tmps→GRel G e→a.tmps.size=nt→
  (∀ex fr' h',Q ex fr' h'→Post nt K e a ex fr' h')→c.wp P K a e.w
def thenQ (N:T AV→H→Prop) (Q:Ex→T AV→H→Prop):Ex→T AV→H→Prop:=fun ex fr h=>match ex with
 |.normal=>N fr h
 |.exit id=>Q (.exit id) fr h
 |.ret=>Q .ret fr h
def blkQ (id:Nat) (Q:Ex→T AV→H→Prop):Ex→T AV→H→Prop:=fun ex fr h=>match ex with
 |.normal=>Q .normal fr h
 |.exit j=>if j=id then Q .normal fr h else Q (.exit j) fr h
 |.ret=>Q .ret fr h
def evO (G:Gs) (c:Operand) (fr:T AV):AV:=Option.rec .j (fun x=>ev x fr) (od G c)
section
variable {P:Program}{G:Gs}{nt:Nat}{call:CallF}{fr:T AV}{h:H}{Q:Ex→T AV→H→Prop}
theorem Sat.ev (hm:P.follows .mixedOrders=true) (hk:CallOK P G call){c:Code}{ex:Ex}{fr':T AV}{h':H} (hr:evC call (compC P G nt c) fr h=.ok ex fr' h') (hq:Q ex fr' h'):Sat P G nt c fr h Q:=by
 intro K e a he hs hf hg hsz hp
 subst he
 exact evC_sound hm hk c K fr e a ex fr' h' hr hs hf hg hsz (hp _ _ _ hq)
theorem Sat.mono {c:Code}{Q':Ex→T AV→H→Prop} (h1:Sat P G nt c fr h Q) (h2:∀ex fr h,Q ex fr h→Q' ex fr h):Sat P G nt c fr h Q':=
 fun K e a he hs hf hg hsz hp=>h1 K e a he hs hf hg hsz (fun ex fr' h' hq=>hp ex fr' h' (h2 ex fr' h' hq))
theorem Sat.skip (hq:Q .normal fr h):Sat P G nt .skip fr h Q:=
 fun K e a he hs hf hg hsz hp=>wp_skip (hp .normal fr h hq a e he hs (Ext.refl e) hf hsz rfl)
theorem Sat.exit {id:Nat} (hq:Q (.exit id) fr h):Sat P G nt (.exit id) fr h Q:=
 fun K e a he hs hf hg hsz hp=>wp_exit (hp (.exit id) fr h hq a e he hs (Ext.refl e) hf hsz rfl)
theorem Sat.ret (hq:Q .ret fr h):Sat P G nt .ret fr h Q:=
 fun K e a he hs hf hg hsz hp=>wp_ret (hp .ret fr h hq a e he hs (Ext.refl e) hf hsz rfl)
theorem Sat.seq {x y:Code} (hx:Sat P G nt x fr h (thenQ (fun fr h=>Sat P G nt y fr h Q) Q)):Sat P G nt (.seq x y) fr h Q:=by
 intro K e a he hs hf hg hsz hp
 refine wp_seq (hx _ e a he hs hf hg hsz (fun ex fr1 h1 hq=>?_))
 intro a1 e1 he1 hs1 hx1 hf1 hsz1 hd1
 cases ex with
 |normal=>exact(show Sat P G nt y fr1 h1 Q from hq) K e1 a1 he1 hs1 hf1 (hg.ext hx1) hsz1 (fun ex fr' h' hq'=>(hp ex fr' h' hq').ext hx1 hd1)
 |exit id=>exact hp (.exit id) fr1 h1 hq a1 e1 he1 hs1 hx1 hf1 hsz1 hd1
 |ret=>exact hp .ret fr1 h1 hq a1 e1 he1 hs1 hx1 hf1 hsz1 hd1
theorem Sat.cond {c:Operand}{x y:Code} (b:Bool) (hb:evO G c fr=.b b) (ht:b=true→Sat P G nt x fr h Q) (hf':b=false→Sat P G nt y fr h Q):Sat P G nt (.cond c x y) fr h Q:=by
 intro K e a he hs hf hg hsz hp
 have rc:a.eval c=.bool b:=by
  cases hc:od G c with
  |none=>
   have:evO G c fr=.j:=by unfold evO;rw[hc]
   rw[this] at hb;cases hb
  |some c'=>
   have:evO G c fr=Ev.ev c' fr:=by unfold evO;rw[hc]
   rw[this] at hb
   have:=od_rel hf hg hc
   rw[hb] at this
   simpa only[Rel] using this
 cases b with
 |true=>exact wp_cond_true rc (ht rfl K e a he hs hf hg hsz hp)
 |false=>exact wp_cond_false rc (hf' rfl K e a he hs hf hg hsz hp)
theorem Sat.block {id:Nat}{b:Code} (hb:Sat P G nt b fr h (blkQ id Q)):Sat P G nt (.block id b) fr h Q:=by
 intro K e a he hs hf hg hsz hp
 refine wp_block (hb _ e a he hs hf hg hsz (fun ex fr1 h1 hq=>?_))
 intro a1 e1 he1 hs1 hx1 hf1 hsz1 hd1
 cases ex with
 |normal=>exact hp .normal fr1 h1 hq a1 e1 he1 hs1 hx1 hf1 hsz1 hd1
 |exit j=>
  show(if j=id then K .normal a1 e1.w else K (.exit j) a1 e1.w)
  have hq:(if j=id then Q .normal fr1 h1 else Q (.exit j) fr1 h1):=hq
  by_cases hj:j=id
  ·rw[if_pos hj] at hq⊢
   exact hp .normal fr1 h1 hq a1 e1 he1 hs1 hx1 hf1 hsz1 hd1
  ·rw[if_neg hj] at hq⊢
   exact hp (.exit j) fr1 h1 hq a1 e1 he1 hs1 hx1 hf1 hsz1 hd1
 |ret=>exact hp .ret fr1 h1 hq a1 e1 he1 hs1 hx1 hf1 hsz1 hd1
theorem Sat.keepL {c:Code} (L:List (List Bool×AV)) (hl:Holds fr L) (hc:Sat P G nt c (mkFr L) h Q):Sat P G nt c fr h Q:=
 fun K e a he hs hf hg hsz hp=>hc K e a he hs (mkFr_rel hf hl) hg hsz hp
theorem hpH_same {n:Nat}{bs:List (Option Blk)}{h:H} (hb:heapL h n=bs) (id:Id):(unpath id<n→(hpH n bs).get id=h.get id)∧(∀b,(hpH n bs).get id=some b→unpath id<n):=by
 have hid:=unpath_bij id
 have hg:=heapL_get h n (unpath id)
 rw[hb] at hg
 constructor
 ·intro hlt
  rw[←hid,hpH_get,hg,if_pos hlt];rfl
 ·intro b h1
  rw[←hid,hpH_get,hg] at h1
  by_cases hlt:unpath id<n
  ·exact hlt
  ·rw[if_neg hlt] at h1;cases h1
theorem blksOk_get {n:Nat}:∀{bs:List (Option Blk)},blksOk n bs→∀(j:Nat) (b:Blk),(bs[j]?).join=some b→blkOk n (some b)
 |[],_,j,b,h=>by simp at h
 |x::bs,hb,0,b,h=>by
  simp only[List.getElem?_cons_zero,Option.join_some] at h;subst h;exact hb.1
 |x::bs,hb,j+1,b,h=>blksOk_get hb.2 j b (by simpa using h)
theorem Sat.heap {c:Code} (n:Nat) (bs:List (Option Blk)) (hn:h.next=n) (hb:heapL h n=bs) (hc:Sat P G nt c fr (hpH n bs) Q):Sat P G nt c fr h Q:=by
 intro K e a he hs hf hg hsz hp
 subst he
 have hget:∀id,(hpH n bs).get id=e.h.get id:=fun id=>by
  obtain⟨h1,h2⟩:=hpH_same hb id
  by_cases hlt:unpath id<n
  ·exact h1 hlt
  ·cases h3:(hpH n bs).get id with
   |some b=>exact absurd (h2 b h3) hlt
   |none=>
    cases h4:e.h.get id with
    |none=>rfl
    |some b=>
     obtain⟨k,hk,hk2,_⟩:=hs.kn id (hs.dk id b h4)
     rw[hk2,unpath_path] at hlt;omega
 let e2:Env:=⟨e.ρ,hpH n bs,e.w,e.F⟩
 have hlive:∀id,live e2.h id↔live e.h id:=fun id=>by unfold live;rw[show e2.h.get id=e.h.get id from hget id]
 have hown:∀b,Own e2 b↔Own e b:=fun b=>by
  constructor
  ·rintro ⟨id,h1,h2⟩;exact⟨id,(hlive id).1 h1,h2⟩
  ·rintro ⟨id,h1,h2⟩;exact⟨id,(hlive id).2 h1,h2⟩
 have himm:∀b,Imm e b→Imm e2 b:=fun b hb=>⟨hb.1,hb.2.1,fun ho=>hb.2.2 ((hown b).1 ho)⟩
 have x0:Ext e e2:={
  next:=by show e.h.next≤n;omega
  kn:=fun _ h=>h
  ren:=fun _ _=>rfl
  fr:=rfl
  heap:=Nr _
  keep:=fun _ _ _=>rfl
  size:=fun _ _=>rfl
  own:=fun b _ ho=>(hown b).1 ho
  pres:=fun id b hb=>⟨b,by rw[show e2.h.get id=e.h.get id from hget id];exact hb⟩
  newk:=fun _ h=>.inl h
  qt:=⟨rfl,rfl,rfl⟩}
 have hs2:St e2:={
  kn:=fun id hk=>by
   obtain⟨k,h1,h2,h3⟩:=hs.kn id hk
   refine⟨k,by show k<n;omega,h2,fun hl=>?_⟩
   rw[show e2.h.get id=e.h.get id from hget id];exact h3 hl
  dk:=fun id b hb=>hs.dk id b (by rw[←hget id];exact hb)
  lo:=by show e.F.lo≤n;rw[←hn];exact hs.lo
  blk:=fun id b hb=>BlkRel.ext x0 (hs.dk id b (by rw[←hget id];exact hb)) rfl b (hs.blk id b (by rw[←hget id];exact hb))
  inj:=fun id id' h1 h2 he=>hs.inj id id' ((hlive id).1 h1) ((hlive id').1 h2) he
  fr:=fun b hb=>⟨(hs.fr b hb).1,fun ho=>(hs.fr b hb).2 ((hown b).1 ho)⟩}
 exact hc K e2 a rfl hs2 (hf.ext x0) (hg.ext x0) hsz (fun ex fr' h' hq=>(hp ex fr' h' hq).ext x0 rfl)
theorem Sat.loop {b:Code}{α:Type} (n:Nat) (L:α→List (List Bool×AV)) (B:α→List (Option Blk)) (m:α→Nat) (I:α→Prop)
 (step:∀a,I a→Sat P G nt b (mkFr (L a)) (hpH n (B a)) (thenQ (fun fr' h'=>∃a',I a'∧m a'<m a∧Holds fr' (L a')∧LOk n (L a')∧heapL h' n=B a'∧blksOk n (B a')) Q))
 (a0:α) (hI:I a0) (hm:m a0<4611686018427387904) (hl:Holds fr (L a0)) (hn:h.next=n) (hh:heapL h n=B a0):Sat P G nt (.loop b) fr h Q:=by
 refine Sat.keepL (L a0) hl (Sat.heap n (B a0) hn hh ?_)
 intro K e a he hs hf hg hsz hp
 refine wp_loop_rounds 4611686018427387904 ?_
 have key:∀(r:Nat) (s:α),m s<r→I s→∀(e1:Env) (a1:Act),e1.h=hpH n (B s)→St e1→FrRel e1 (mkFr (L s)) a1.tmps→GRel G e1→a1.tmps.size=nt→
  (∀ex fr' h',Q ex fr' h'→Post nt K e1 a1 ex fr' h')→Code.rounds P b K r a1 e1.w:=by
  intro r
  induction r with
  |zero=>intro s hlt;omega
  |succ r ih=>
   intro s hlt hIs e1 a1 he1 hs1 hf1 hg1 hsz1 hp1
   rw[rounds_succ]
   refine step s hIs _ e1 a1 he1 hs1 hf1 hg1 hsz1 (fun ex fr2 h2 hq=>?_)
   intro a2 e2 he2 hs2 hx2 hf2 hsz2 hd2
   cases ex with
   |normal=>
    obtain⟨s',hI',hlt',hl',hok,hh',hb'⟩:=hq
    subst he2
    have hh1:∀id b,(hpH n (B s')).get id=some b→unpath id<n∧e2.h.get id=some b:=fun id b hb=>by
     obtain⟨g1,g2⟩:=hpH_same hh' id
     have:=g2 b hb
     exact⟨this,by rw[←g1 this];exact hb⟩
    have hh2:∀id b,e2.h.get id=some b→unpath id<n→(hpH n (B s')).get id=some b:=fun id b hb hlt=>by
     rw[(hpH_same hh' id).1 hlt];exact hb
    have hn1:e1.h.next=n:=by rw[he1];rfl
    have hlo:e2.F.lo≤n:=by
     rw[hx2.fr,←hn1];exact hs1.lo
    have hst:=cutE_st hs2 hh1 hh2 rfl hlo (fun id b hb=>by
     have:=hpH_get n (B s') (unpath id)
     rw[unpath_bij,hb] at this
     exact blksOk_get hb' _ b this.symm)
    have hxt:=cutE_ext hs1 hx2 hh1 hh2 hs2 (n:=n) rfl hn1
    have hfr:FrRel (cutE e2 n (hpH n (B s'))) (mkFr (L s')) a2.tmps:=by
     intro k
     have h0:=mkFr_rel hf2 hl' k
     have hav:avOk n (getV (mkFr (L s')) (path k)):=by
      have:∀L,LOk n L→∀p,avOk n (getV (mkFr L) p):=by
       intro L
       induction L with
       |nil=>intro _ p;show avOk n (getV (.e:T AV) p);rw[getV_e];simp[avOk]
       |cons q L ih=>
        intro hL p
        show avOk n (getV (T.set q.1 q.2 (mkFr L)) p)
        rw[getV_set]
        by_cases hp:p=q.1
        ·rw[if_pos hp];exact hL.1
        ·rw[if_neg hp];exact ih hL.2 p
      exact this _ hok _
     exact Rel.cutE hh1 _ _ hav h0
    exact ih s' om hI' (cutE e2 n (hpH n (B s'))) a2 rfl hst hfr (hg1.ext hxt) hsz2 (fun ex fr' h' hq'=>(hp1 ex fr' h' hq').ext hxt hd2)
   |exit id=>exact hp1 (.exit id) fr2 h2 hq a2 e2 he2 hs2 hx2 hf2 hsz2 hd2
   |ret=>exact hp1 .ret fr2 h2 hq a2 e2 he2 hs2 hx2 hf2 hsz2 hd2
 exact key _ a0 hm hI e a he hs hf hg hsz hp
def regL (P:Program) (G:Gs) (nt:Nat) (ops:Array Oper):List AO:=(number (ops.toList.map (compO P G nt ops)) 0).1
def regN (P:Program) (G:Gs) (nt:Nat) (ops:Array Oper):Nat:=(number (ops.toList.map (compO P G nt ops)) 0).2
def RunOps (call:CallF) (base:Nat) (ops:List AO) (fr:T AV) (h:H) (Q:T AV→H→Prop):Prop:=∃fr' h',evOps call base ops fr h=.ok fr' h'∧Q fr' h'
theorem Sat.reg (hm:P.follows .mixedOrders=true) (hk:CallOK P G call){rid:Nat}{ops:Array Oper}
 (hr:RunOps call h.next (regL P G nt ops) fr ⟨Nat.add h.next (regN P G nt ops),h.t⟩ (Q .normal)):Sat P G nt (.region rid ops false) fr h Q:=by
 obtain⟨fr',h',hr,hq⟩:=hr
 refine Sat.ev hm hk (ex:=.normal) (fr':=fr') (h':=h') ?_ hq
 have:compC P G nt (.region rid ops false)=.reg (regN P G nt ops) (regL P G nt ops):=rfl
 rw[this]
 show(FR.rec .no (fun fr h=>.ok .normal fr h) (evOps call h.next (regL P G nt ops) fr ⟨Nat.add h.next (regN P G nt ops),h.t⟩):CR)=_
 rw[hr]
def CallPure (call:CallF):Prop:=∀f args h r h',call f args h=.ok r h'→h'=h
theorem callOf_pure:∀(L:List Con),CallPure (callOf L)
 |[],f,args,h,r,h',hr=>by cases hr
 |c::L,f,args,h,r,h',hr=>by
  have hr:cd (Nat.beq c.f f) (callC c args h) (callOf L f args h)=.ok r h':=hr
  cases hb:Nat.beq c.f f with
  |true=>
   rw[hb] at hr
   have hr:callC c args h=.ok r h':=hr
   unfold callC at hr
   split at hr
   ·exact(finC_inv hr).choose_spec.2.2
   ·split at hr
    ·cases hs:scalR c.rs with
     |true=>rw[hs] at hr;exact(finC_inv (show finC c.rs h _=.ok r h' from hr)).choose_spec.2.2
     |false=>rw[hs] at hr;cases hr
    ·cases hr
  |false=>rw[hb] at hr;exact callOf_pure L f args h r h' hr
def isCallO (o:AOp):Bool:=match o with
 |.call .. =>true
 |.o2 (.callv ..)=>true
 |_=>false
def okD (o:AOp):Bool:=match o.cls with
 |.N=>true
 |.R=>true
 |.A=>false
 |.X=>isCallO o
def nX (ops:List DO):Nat:=List.rec 0 (fun d _ ih=>match d.o.op.cls with|.X=>Nat.succ ih|_=>ih) ops
def jsOkD (n:Nat) (ops:List DO):Bool:=ops.all fun d=>okD d.o.op&&d.js.all fun j=>Nat.ble j n
theorem callO_pure (hp:CallPure call){o:AOp} (ho:isCallO o=true){id:Nat}{v:AV}{h':H} (hr:evOp call o fr h id=.ok v h'):h'=h:=by
 unfold isCallO at ho
 split at ho
 ·exact hp _ _ _ _ _ hr
 ·rename_i f as_
  have hr:(match Ev.ev f fr with
   |.f (.func g) first cap=>call g (cat first (cat (evs as_ fr) cap)) h
   |_=>.no:R)=.ok v h':=hr
  split at hr
  ·exact hp _ _ _ _ _ hr
  ·cases hr
 ·cases ho
theorem callO_id {o:AOp} (ho:isCallO o=true) (id id':Nat):evOp call o fr h id=evOp call o fr h id':=by
 unfold isCallO at ho
 split at ho
 ·rfl
 ·rfl
 ·cases ho
theorem Sub.refl' (h:H):Sub h h:=by
 unfold Sub;exact fun _ _ h=>h
structure DInv (h:H) (n:Nat) (s:DS):Prop where
 cur:s.cur.h=h
 old:∀b∈s.old,b.h=h
 len:s.old.length=n
 mks:s.mks=[]
 rs:∀r∈s.rs,∀(call2:CallF) (id2:Nat),evOp call2 r.o r.fr h id2=.ok r.v h
theorem DInv.stepX {h:H}{n:Nat}{s:DS} (hi:DInv h n s) (d:DO) (v:AV):DInv h (n+1) (stepX d s v h) where
 cur:=rfl
 old:=fun b hb=>by
  rcases List.mem_cons.1 (show b∈s.cur::s.old from hb) with hb|hb
  ·rw[hb];exact hi.cur
  ·exact hi.old b hb
 len:=by show s.old.length+1=n+1;rw[hi.len]
 mks:=hi.mks
 rs:=hi.rs
theorem puts_nil (h:H):puts [] h=h:=rfl
theorem selP_nil (a b:List Nat):selP a b []=[]:=rfl
theorem evD_seq (hp:CallPure call) (base:Nat) (h:H):∀(ops:List DO) (s:DS) (n:Nat) (fr':T AV) (h':H),(∀d∈ops,okD d.o.op=true)→DInv h n s→
 evOps call base (ops.map (·.o)) s.fr h=.ok fr' h'→h'=h∧∃s',evD call base 0 ops s=some s'∧s'.fr=fr'∧DInv h (n+nX ops) s'∧∀r∈s'.rs,r∈s.rs∨∃d∈ops,r.js=d.js
 |[],s,n,fr',h',_,hi,hr=>by
  injection(show FR.ok s.fr h=.ok fr' h' from hr) with h1 h2
  exact⟨h2.symm,s,rfl,h1,hi,fun r hr=>.inl hr⟩
 |d::ops,s,n,fr',h',hok,hi,hr=>by
  have hok1:=hok d (by simp)
  have hok2:∀d∈ops,okD d.o.op=true:=fun d hd=>hok d (by simp[hd])
  have hr:(Option.rec .no (fun b=>cd b
   (R.rec .no (fun v h'=>evOps call base (ops.map (·.o)) (setD d.o.dst v s.fr) h') (evOp call d.o.op s.fr h (Nat.add base d.o.k)))
   (evOps call base (ops.map (·.o)) (setD d.o.dst undefA s.fr) h)) (wanted d.o.g s.fr):FR)=.ok fr' h':=hr
  cases hw:wanted d.o.g s.fr with
  |none=>rw[hw] at hr;cases hr
  |some b=>
   rw[hw] at hr
   have hstep:evD call base 0 (d::ops) s=Option.rec none (evD call base 0 ops) (stepD call base 0 d s):=rfl
   have hsd:stepD call base 0 d s=(Option.rec none (fun b=>cd b
    (clsRec
     (R.rec none (fun v _=>some (stepV d s v)) (evOp call d.o.op s.fr s.cur.h (Nat.add base d.o.k)))
     (R.rec none (fun v _=>some (stepR d s v)) (evOp call d.o.op s.fr (heapAt s.cur d.ks s.mks) (Nat.add base d.o.k)))
     (R.rec none (fun v h=>some (stepA d s v (path (Nat.add base d.o.k)) (h.get (path (Nat.add base d.o.k))))) (evOp call d.o.op s.fr ⟨s.cur.h.next,.e⟩ (Nat.add base d.o.k)))
     (R.rec none (fun v h=>cd (freeOf h base (cat d.ks s.cur.cons) 0) (some (stepX d s v h)) none) (evOp call d.o.op s.fr (heapAt s.cur d.ks s.mks) (Nat.add base 0)))
     d.o.op.cls)
    (clsRec (some (stepV d s undefA)) (some (stepV d s undefA)) (some (stepV d s undefA)) (some (stepX d s undefA (heapAt s.cur d.ks s.mks))) d.o.op.cls)) (wanted d.o.g s.fr)):=rfl
   have hheap:heapAt s.cur d.ks s.mks=h:=by
    unfold heapAt;rw[hi.mks,selP_nil,puts_nil,hi.cur]
   rw[hw,hheap,hi.cur] at hsd
   have fin:∀(s2:DS) (m:Nat),s2.fr=s2.fr→DInv h m s2→(n+nX (d::ops)=m+nX ops)→(∀r∈s2.rs,r∈s.rs∨r.js=d.js)→stepD call base 0 d s=some s2→
    evOps call base (ops.map (·.o)) s2.fr h=.ok fr' h'→h'=h∧∃s',evD call base 0 (d::ops) s=some s'∧s'.fr=fr'∧DInv h (n+nX (d::ops)) s'∧∀r∈s'.rs,r∈s.rs∨∃d'∈d::ops,r.js=d'.js:=by
    intro s2 m _ hi2 hm hrs hs2 hr2
    obtain⟨g1,s',g2,g3,g4,g5⟩:=evD_seq hp base h ops s2 m fr' h' hok2 hi2 hr2
    refine⟨g1,s',by rw[hstep,hs2];exact g2,g3,by rw[hm];exact g4,fun r hr=>?_⟩
    rcases g5 r hr with g5|⟨d',g5,g6⟩
    ·rcases hrs r g5 with g5|g5
     ·exact .inl g5
     ·exact .inr ⟨d,by simp,g5⟩
    ·exact .inr ⟨d',by simp[g5],g6⟩
   have hnX:nX (d::ops)=(match d.o.op.cls with|.X=>Nat.succ (nX ops)|_=>nX ops):=rfl
   cases b with
   |false=>
    have hr:evOps call base (ops.map (·.o)) (setD d.o.dst undefA s.fr) h=.ok fr' h':=hr
    cases hc:d.o.op.cls with
    |N=>rw[hc] at hsd hnX;exact fin (stepV d s undefA) n rfl ⟨hi.cur,hi.old,hi.len,hi.mks,hi.rs⟩ (by rw[hnX]) (fun r hr=>.inl hr) hsd hr
    |R=>rw[hc] at hsd hnX;exact fin (stepV d s undefA) n rfl ⟨hi.cur,hi.old,hi.len,hi.mks,hi.rs⟩ (by rw[hnX]) (fun r hr=>.inl hr) hsd hr
    |A=>rw[hc] at hsd hnX;exact fin (stepV d s undefA) n rfl ⟨hi.cur,hi.old,hi.len,hi.mks,hi.rs⟩ (by rw[hnX]) (fun r hr=>.inl hr) hsd hr
    |X=>
     rw[hc] at hsd hnX
     exact fin (stepX d s undefA h) (n+1) rfl (hi.stepX d _) (by rw[hnX];show n+(nX ops+1)=_;omega) (fun r hr=>.inl hr) hsd hr
   |true=>
    have hr:(R.rec .no (fun v h'=>evOps call base (ops.map (·.o)) (setD d.o.dst v s.fr) h') (evOp call d.o.op s.fr h (Nat.add base d.o.k)):FR)=.ok fr' h':=hr
    cases hev:evOp call d.o.op s.fr h (Nat.add base d.o.k) with
    |no=>rw[hev] at hr;cases hr
    |ok v h1=>
     rw[hev] at hr
     have hr2:evOps call base (ops.map (·.o)) (setD d.o.dst v s.fr) h1=.ok fr' h':=hr
     clear hr
     cases hc:d.o.op.cls with
     |N=>
      obtain⟨rfl,_⟩:=evOp_N hc hev
      rw[hc,hev] at hsd;rw[hc] at hnX
      exact fin (stepV d s v) n rfl ⟨hi.cur,hi.old,hi.len,hi.mks,hi.rs⟩ (by rw[hnX]) (fun r hr=>.inl hr) hsd hr2
     |R=>
      obtain⟨rfl,hall⟩:=evOp_R hc hev
      rw[hc,hev] at hsd;rw[hc] at hnX
      have hs3:stepD call base 0 d s=some (stepR d s v):=hsd
      refine fin (stepR d s v) n rfl ⟨hi.cur,hi.old,hi.len,hi.mks,?_⟩ (by rw[hnX]) ?_ hs3 hr2
      ·intro r hr call2 id2
       have hmem:r∈(List.rec s.rs (fun _ _ _=>⟨d.o.op,s.fr,v,d.ks,d.js⟩::s.rs) d.js:List Rd):=hr
       cases hjs:d.js with
       |nil=>rw[hjs] at hmem;exact hi.rs r hmem call2 id2
       |cons j js=>
        rw[hjs] at hmem
        rcases List.mem_cons.1 hmem with rfl|hmem
        ·exact hall call2 _ id2 (Sub.refl' _)
        ·exact hi.rs r hmem call2 id2
      ·intro r hr
       have hmem:r∈(List.rec s.rs (fun _ _ _=>⟨d.o.op,s.fr,v,d.ks,d.js⟩::s.rs) d.js:List Rd):=hr
       cases hjs:d.js with
       |nil=>rw[hjs] at hmem;exact .inl hmem
       |cons j js=>
        rw[hjs] at hmem
        rcases List.mem_cons.1 hmem with rfl|hmem
        ·exact .inr rfl
        ·exact .inl hmem
     |A=>unfold okD at hok1;rw[hc] at hok1;cases hok1
     |X=>
      have hco:isCallO d.o.op=true:=by unfold okD at hok1;rw[hc] at hok1;exact hok1
      obtain rfl:=callO_pure hp hco hev
      rw[callO_id hco (Nat.add base 0) (Nat.add base d.o.k)] at hsd
      rw[hc,hev] at hsd;rw[hc] at hnX
      have hs3:stepD call base 0 d s=some (stepX d s v h1):=hsd
      exact fin (stepX d s v h1) (n+1) rfl (hi.stepX d _) (by rw[hnX];show n+(nX ops+1)=_;omega) (fun r hr=>.inl hr) hs3 hr2
theorem chk_all (mk:List Pd) (hmk:mk=[]) (h:H) (hs:List Bh) (hhs:∀b∈hs,b.h=h):∀(rs:List Rd),(∀r∈rs,(∀(call2:CallF) (id2:Nat),evOp call2 r.o r.fr h id2=.ok r.v h)∧∀j∈r.js,j<hs.length)→chkAll hs mk rs=true
 |[],_=>rfl
 |r::rs,hr=>by
  have ih:=chk_all mk hmk h hs hhs rs (fun r h=>hr r (by simp[h]))
  show cd (chk1 hs mk r r.js) (chkAll hs mk rs) false=true
  rw[ih]
  have:∀js:List Nat,(∀j∈js,j<hs.length)→chk1 hs mk r js=true:=by
   intro js
   induction js with
   |nil=>intro _;rfl
   |cons j js ihj=>
    intro hj
    show(Option.rec false (fun b=>R.rec false (fun a _=>cd (sameA a r.v) (chk1 hs mk r js) false) (evOp noCall r.o r.fr (heapAt b r.ks mk) 0)) (nth hs j):Bool)=true
    have hlt:=hj j (by simp)
    rw[nth_eq,Lq hlt]
    have hb:heapAt hs[j] r.ks mk=h:=by unfold heapAt;rw[hmk,selP_nil,puts_nil,hhs _ (List.getElem_mem hlt)]
    show(R.rec false (fun a _=>cd (sameA a r.v) (chk1 hs mk r js) false) (evOp noCall r.o r.fr (heapAt hs[j] r.ks mk) 0):Bool)=true
    rw[hb,(hr r (by simp)).1 noCall 0]
    show cd (sameA r.v r.v) (chk1 hs mk r js) false=true
    rw[sameA_refl,ihj (fun j h=>hj j (by simp[h]))];rfl
  rw[this r.js (hr r (by simp)).2];rfl
theorem dreg_seq (hp:CallPure call){ops:List DO} (hj:jsOkD (nX ops) ops=true){fr':T AV}{h':H} (hr:evOps call h.next (ops.map (·.o)) fr h=.ok fr' h'):
 h'=h∧evDreg call 0 ops fr h=some (fr',h):=by
 have hj':∀d∈ops,okD d.o.op=true∧∀j∈d.js,j≤nX ops:=fun d hd=>by
  have:=List.all_eq_true.1 hj d hd
  simp only[Bool.and_eq_true] at this
  exact⟨this.1,fun j hj=>Nb (List.all_eq_true.1 this.2 j hj)⟩
 have hh:(⟨Nat.add h.next 0,h.t⟩:H)=h:=rfl
 obtain⟨h1,s,h2,h3,h4,h5⟩:=evD_seq hp h.next h ops ⟨fr,⟨h,[]⟩,[],[],[]⟩ 0 fr' h' (fun d hd=>(hj' d hd).1) (DInv.mk rfl (fun b hb=>absurd hb (by simp)) rfl rfl (fun r hr=>absurd hr (by simp))) hr
 refine⟨h1,?_⟩
 unfold evDreg
 rw[hh,h2]
 show cd (List.rec true (fun _ _ _=>chkAll (revOnto s.old [s.cur]) s.mks s.rs) s.rs) (some (s.fr,puts (selC s.cur.cons s.mks) s.cur.h)) none=_
 have hchk:chkAll (revOnto s.old [s.cur]) s.mks s.rs=true:=by
  refine chk_all s.mks h4.mks h _ (fun b hb=>?_) s.rs (fun r hr=>⟨h4.rs r hr,fun j hj=>?_⟩)
  ·rw[revOnto_eq] at hb
   rcases List.mem_append.1 hb with hb|hb
   ·exact h4.old b (List.mem_reverse.1 hb)
   ·rw[List.mem_singleton.1 hb];exact h4.cur
  ·rw[revOnto_eq,La,List.length_reverse,h4.len]
   rcases h5 r hr with h|⟨d,hd,he⟩
   ·cases h
   ·rw[he] at hj
    have:=(hj' d hd).2 j hj
    show j<0+nX ops+1
    omega
 have hsel:puts (selC s.cur.cons s.mks) s.cur.h=h:=by rw[h4.mks,h4.cur];rfl
 rw[hsel,h3]
 cases hrs:s.rs with
 |nil=>rfl
 |cons r rs=>rw[hrs] at hchk;show cd (chkAll _ _ (r::rs)) _ _=_;rw[hchk];rfl
theorem draw_o (Pm:List Nat) (l:List AO):(drawOf Pm l).map (·.o)=l:=by
 unfold drawOf
 rw[List.map_map]
 have:((fun d:DO=>d.o)∘fun(q:AO×Nat)=>(⟨q.1,ksOf Pm l q.2,if isR q.1 then(jsOf Pm l q.2).filter (fun j=>j !=cX l q.2) else[]⟩:DO))=Prod.fst:=rfl
 show List.map _ _=_
 rw[this];simp
def dregOk (P:Program) (G:Gs) (nt:Nat) (ops:Array Oper):Bool:=
 cd (Nat.beq (regN P G nt ops) 0) (cd (chkD (regN P G nt ops) ops.toList (predsGo ops.toList []) (regL P G nt ops)) (jsOkD (nX (drawOf (predsGo ops.toList []) (regL P G nt ops))) (drawOf (predsGo ops.toList []) (regL P G nt ops))) false) false
theorem Sat.dreg (hm:P.follows .mixedOrders=true) (hk:CallOK P G call) (hp:CallPure call){rid:Nat}{ops:Array Oper} (hd:dregOk P G nt ops=true)
 (hr:RunOps call h.next (regL P G nt ops) fr h (Q .normal)):Sat P G nt (.region rid ops true) fr h Q:=by
 obtain⟨fr',h',hr,hq⟩:=hr
 unfold dregOk at hd
 obtain⟨h1,hd⟩:=cd_true hd
 obtain⟨h2,h3⟩:=cd_true hd
 have h1:=Nq h1
 obtain⟨rfl,h4⟩:=dreg_seq hp h3 (by rw[draw_o];exact hr)
 refine Sat.ev hm hk (ex:=.normal) (fr':=fr') (h':=h') ?_ hq
 have:compC P G nt (.region rid ops true)=if chkD (regN P G nt ops) ops.toList (predsGo ops.toList []) (regL P G nt ops) then .dreg (regN P G nt ops) (drawOf (predsGo ops.toList []) (regL P G nt ops)) else .bad:=rfl
 rw[this,if_pos h2,h1]
 show(Option.rec .no (fun q=>.ok .normal q.1 q.2) (evDreg call 0 (drawOf (predsGo ops.toList []) (regL P G nt ops)) fr h'):CR)=_
 rw[h4]
end
end Go.Ev
end
noncomputable section
namespace Go.Ev
def isOkF (x:FR):Bool:=FR.rec false (fun _ _=>true) x
def frOf (x:FR):T AV:=FR.rec .e (fun fr _=>fr) x
def hOf (x:FR):H:=FR.rec H0 (fun _ h=>h) x
theorem T.set_self {α:Type}:∀(p:List Bool) (t:T α) (v:α),T.get p t=some v→T.set p v t=t
 |[],t,v,h=>by
  cases t with
  |e=>cases h
  |n l x r=>rw[T.get_nil_n] at h;subst h;rfl
 |b::p,t,v,h=>by
  cases t with
  |e=>rw[T.get_cons_e] at h;cases h
  |n l x r=>
   rw[T.get_cons_n] at h
   cases b with
   |true=>rw[T.set_true_n,T.set_self p l v (by simpa using h)]
   |false=>rw[T.set_false_n,T.set_self p r v (by simpa using h)]
def stF (call:CallF) (base:Nat) (ops:List AO) (fr:T AV) (h:H) (k:Nat):T AV:=frOf (evOps call base (ops.take k) fr h)
def stH (call:CallF) (base:Nat) (ops:List AO) (fr:T AV) (h:H) (k:Nat):H:=hOf (evOps call base (ops.take k) fr h)
def stOk (call:CallF) (base:Nat) (ops:List AO) (fr:T AV) (h:H) (k:Nat):Bool:=isOkF (evOps call base (ops.take k) fr h)
def opA (ops:List AO) (k:Nat):AO:=Option.rec ⟨none,.o2 .bad,none,0⟩ (fun x=>x) (nth ops k)
def viewIa (o:AOp) (fr:T AV):Option (Nat×AV×Nat):=match o with
 |.ia (.sli sz) x ix=>Option.rec none (fun i=>some (sz,ev x fr,i)) (asN (ev ix fr))
 |_=>none
def viewIxs (o:AOp) (fr:T AV):Option (AV×Nat):=match o with
 |.ixs x ix=>Option.rec none (fun i=>some (ev x fr,i)) (asN (ev ix fr))
 |_=>none
def viewSlc (o:AOp) (fr:T AV):Option (SK×AV×Option Nat×Option Nat×Option Nat):=match o with
 |.slc k x lo hi mx=>match optN lo fr,optN hi fr,optN mx fr with
  |some lo,some hi,some mx=>some (k,ev x fr,lo,hi,mx)
  |_,_,_=>none
 |_=>none
section
variable {call:CallF}{base:Nat}{ops:List AO}{fr:T AV}{h:H}{Q:T AV→H→Prop}
theorem evOps_append:∀(a b:List AO) (fr:T AV) (h:H),evOps call base (a++b) fr h=FR.rec .no (fun fr h=>evOps call base b fr h) (evOps call base a fr h)
 |[],b,fr,h=>rfl
 |o::a,b,fr,h=>by
  show(Option.rec .no (fun c=>cd c
   (R.rec .no (fun v h'=>evOps call base (a++b) (setD o.dst v fr) h') (evOp call o.op fr h (Nat.add base o.k)))
   (evOps call base (a++b) (setD o.dst undefA fr) h)) (wanted o.g fr):FR)=FR.rec .no (fun fr h=>evOps call base b fr h) (Option.rec .no (fun c=>cd c
   (R.rec .no (fun v h'=>evOps call base a (setD o.dst v fr) h') (evOp call o.op fr h (Nat.add base o.k)))
   (evOps call base a (setD o.dst undefA fr) h)) (wanted o.g fr):FR)
  cases wanted o.g fr with
  |none=>rfl
  |some c=>
   cases c with
   |false=>exact evOps_append a b _ _
   |true=>
    show(R.rec .no (fun v h'=>evOps call base (a++b) (setD o.dst v fr) h') (evOp call o.op fr h (Nat.add base o.k)):FR)=FR.rec .no (fun fr h=>evOps call base b fr h) (R.rec .no (fun v h'=>evOps call base a (setD o.dst v fr) h') (evOp call o.op fr h (Nat.add base o.k)):FR)
    cases evOp call o.op fr h (Nat.add base o.k) with
    |no=>rfl
    |ok v h'=>exact evOps_append a b _ _
theorem RunOps.fin (hok:isOkF (evOps call base ops fr h)=true) (hq:Q (frOf (evOps call base ops fr h)) (hOf (evOps call base ops fr h))):RunOps call base ops fr h Q:=by
 cases hev:evOps call base ops fr h with
 |no=>rw[hev] at hok;cases hok
 |ok fr' h'=>rw[hev] at hq;exact⟨fr',h',hev,hq⟩
theorem RunOps.upto (k:Nat) (hok:stOk call base ops fr h k=true) (hr:RunOps call base (ops.drop k) (stF call base ops fr h k) (stH call base ops fr h k) Q):RunOps call base ops fr h Q:=by
 obtain⟨fr',h',h1,h2⟩:=hr
 refine⟨fr',h',?_,h2⟩
 have:=evOps_append (call:=call) (base:=base) (ops.take k) (ops.drop k) fr h
 rw[Ly] at this
 rw[this]
 unfold stOk at hok
 unfold stF stH at h1
 cases hev:evOps call base (ops.take k) fr h with
 |no=>rw[hev] at hok;cases hok
 |ok fr1 hh=>rw[hev] at h1;exact h1
theorem RunOps.split (k:Nat) (p:List Bool) (b:Bool) (hok:stOk call base ops fr h k=true) (hv:T.get p (stF call base ops fr h k)=some (.b b))
 (ht:b=true→RunOps call base (ops.drop k) (T.set p (.b true) (stF call base ops fr h k)) (stH call base ops fr h k) Q)
 (hf:b=false→RunOps call base (ops.drop k) (T.set p (.b false) (stF call base ops fr h k)) (stH call base ops fr h k) Q):RunOps call base ops fr h Q:=by
 refine RunOps.upto k hok ?_
 cases b with
 |true=>have:=ht rfl;rw[T.set_self p _ _ hv] at this;exact this
 |false=>have:=hf rfl;rw[T.set_self p _ _ hv] at this;exact this
theorem RunOps.value (k:Nat) (p:List Bool) (v v':AV) (hok:stOk call base ops fr h k=true) (hv:T.get p (stF call base ops fr h k)=some v) (he:v=v')
 (hr:RunOps call base (ops.drop k) (T.set p v' (stF call base ops fr h k)) (stH call base ops fr h k) Q):RunOps call base ops fr h Q:=by
 subst he
 refine RunOps.upto k hok ?_
 rw[T.set_self p _ _ hv] at hr;exact hr
theorem opA_drop {k:Nat} (hk:Nat.blt k ops.length=true):ops.drop k=opA ops k::ops.drop (k+1):=by
 have hk:k<ops.length:=Nat.lt_of_succ_le (Nb hk)
 rw[List.drop_eq_getElem_cons hk]
 congr 1
 unfold opA
 rw[nth_eq,Lq hk]
theorem RunOps.step (k:Nat) (v:AV) (hok:stOk call base ops fr h k=true) (hk:Nat.blt k ops.length=true) (hw:wanted (opA ops k).g (stF call base ops fr h k)=some true)
 (hv:evOp call (opA ops k).op (stF call base ops fr h k) (stH call base ops fr h k) (Nat.add base (opA ops k).k)=.ok v (stH call base ops fr h k))
 (hr:RunOps call base (ops.drop (k+1)) (setD (opA ops k).dst v (stF call base ops fr h k)) (stH call base ops fr h k) Q):RunOps call base ops fr h Q:=by
 refine RunOps.upto k hok ?_
 obtain⟨fr',h',h1,h2⟩:=hr
 refine⟨fr',h',?_,h2⟩
 rw[opA_drop hk]
 show(Option.rec .no (fun c=>cd c
  (R.rec .no (fun v h'=>evOps call base (ops.drop (k+1)) (setD (opA ops k).dst v (stF call base ops fr h k)) h') (evOp call (opA ops k).op (stF call base ops fr h k) (stH call base ops fr h k) (Nat.add base (opA ops k).k)))
  (evOps call base (ops.drop (k+1)) (setD (opA ops k).dst undefA (stF call base ops fr h k)) (stH call base ops fr h k))) (wanted (opA ops k).g (stF call base ops fr h k)):FR)=_
 rw[hw,hv]
 exact h1
theorem RunOps.ia (k:Nat){t:Ty} (xs:List (den t)) (i:Nat) (x:den t) (hx:xs[i]? =some x) (hok:stOk call base ops fr h k=true) (hk:Nat.blt k ops.length=true)
 (hw:wanted (opA ops k).g (stF call base ops fr h k)=some true) (hv:viewIa (opA ops k).op (stF call base ops fr h k)=some (wd t,.isl t xs,i))
 (hr:RunOps call base (ops.drop (k+1)) (setD (opA ops k).dst (.ip t x 0) (stF call base ops fr h k)) (stH call base ops fr h k) Q):RunOps call base ops fr h Q:=by
 refine RunOps.step k (.ip t x 0) hok hk hw ?_ hr
 generalize (opA ops k).op=o at hv⊢
 generalize stF call base ops fr h k=fr at hv⊢
 unfold viewIa at hv
 split at hv
 ·rename_i sz x' ix
  show(match asN (ev ix fr) with
   |some i=>okV _ (indexA (.sli sz) (ev x' fr) i)
   |none=>.no:R)=_
  cases hi:asN (ev ix fr) with
  |none=>rw[hi] at hv;cases hv
  |some j=>
   rw[hi] at hv
   have hv:some (sz,ev x' fr,j)=some (wd t,AV.isl t xs,i):=hv
   simp only[Oj,Prod.mk.injEq] at hv
   obtain⟨h1,h2,h3⟩:=hv
   rw[h1,h2,h3]
   show okV _ (cd (Nat.beq (wd t) (wd t)) (Option.rec none (fun c=>some (.ip t c 0)) (nth xs i)) none)=_
   rw[Nat.beq_refl,nth_eq,hx];rfl
 ·cases hv
theorem RunOps.ixs (k:Nat) (n:Nat) (l:List Nat) (i:Nat) (c:Nat) (hx:l[i]? =some c) (hok:stOk call base ops fr h k=true) (hk:Nat.blt k ops.length=true)
 (hw:wanted (opA ops k).g (stF call base ops fr h k)=some true) (hv:viewIxs (opA ops k).op (stF call base ops fr h k)=some (.s n l,i))
 (hr:RunOps call base (ops.drop (k+1)) (setD (opA ops k).dst (.i .u8 (.ofNat c)) (stF call base ops fr h k)) (stH call base ops fr h k) Q):RunOps call base ops fr h Q:=by
 refine RunOps.step k (.i .u8 (.ofNat c)) hok hk hw ?_ hr
 generalize (opA ops k).op=o at hv⊢
 generalize stF call base ops fr h k=fr at hv⊢
 unfold viewIxs at hv
 split at hv
 ·rename_i x' ix
  show(Option.rec .no (fun i=>ixsA (ev x' fr) i _) (asN (ev ix fr)):R)=_
  cases hi:asN (ev ix fr) with
  |none=>rw[hi] at hv;cases hv
  |some j=>
   rw[hi] at hv
   have hv:some (ev x' fr,j)=some (AV.s n l,i):=hv
   simp only[Oj,Prod.mk.injEq] at hv
   obtain⟨h2,h3⟩:=hv
   show ixsA (ev x' fr) j _=_
   rw[h2,h3]
   show(Option.rec .no (fun c=>.ok (.i .u8 (.ofNat c)) _) (nth l i):R)=_
   rw[nth_eq,hx]
 ·cases hv
theorem RunOps.slc (k:Nat) (v:AV) (sk:SK) (x:AV) (lo hi mx:Option Nat) (hok:stOk call base ops fr h k=true) (hk:Nat.blt k ops.length=true)
 (hw:wanted (opA ops k).g (stF call base ops fr h k)=some true) (hv:viewSlc (opA ops k).op (stF call base ops fr h k)=some (sk,x,lo,hi,mx)) (hs:sliceA sk x lo hi mx=some v)
 (hr:RunOps call base (ops.drop (k+1)) (setD (opA ops k).dst v (stF call base ops fr h k)) (stH call base ops fr h k) Q):RunOps call base ops fr h Q:=by
 refine RunOps.step k v hok hk hw ?_ hr
 generalize (opA ops k).op=o at hv⊢
 generalize stF call base ops fr h k=fr at hv⊢
 unfold viewSlc at hv
 split at hv
 ·rename_i k' x' lo' hi' mx'
  show(match optN lo' fr,optN hi' fr,optN mx' fr with
   |some lo,some hi,some mx=>okV _ (sliceA k' (ev x' fr) lo hi mx)
   |_,_,_=>.no:R)=_
  split at hv
  ·rename_i a b c h1 h2 h3
   simp only[Oj,Prod.mk.injEq] at hv
   obtain⟨g1,g2,g3,g4,g5⟩:=hv
   rw[g1,g2,g3,g4,g5]
   show okV _ (sliceA sk x lo hi mx)=_
   rw[hs];rfl
  ·cases hv
 ·cases hv
end
theorem sliceA_isl {t:Ty}{xs:List (den t)}{lo hi:Option Nat} (h1:orN hi xs.length≤xs.length) (h2:orN lo 0≤orN hi xs.length):
 sliceA (.sli (wd t)) (.isl t xs) lo hi none=some (.isl t ((xs.take (orN hi xs.length)).drop (orN lo 0))):=by
 show cd (Nat.beq (wd t) (wd t)) (cd (Nat.ble (orN hi xs.length) xs.length) (cd (Nat.ble (orN lo 0) (orN hi xs.length)) _ none) none) none=_
 rw[Nat.beq_refl,ble_nat,ble_nat,Dt h1,Dt h2];rfl
theorem sliceA_str {n:Nat}{l:List Nat}{lo hi:Option Nat} (hn:n=l.length) (h1:orN hi n≤n) (h2:orN lo 0≤orN hi n):
 sliceA .str (.s n l) lo hi none=some (.s (orN hi n - orN lo 0) ((l.drop (orN lo 0)).take (orN hi n - orN lo 0))):=by
 show cd (Nat.ble (orN hi n) n) (cd (Nat.ble (orN lo 0) (orN hi n)) (Option.rec none (fun l'=>some (AV.s (Nat.sub (orN hi n) (orN lo 0)) l')) (cut l (orN lo 0) (Nat.sub (orN hi n) (orN lo 0)))) none) none=_
 rw[ble_nat,ble_nat,Dt h1,Dt h2]
 have hcut:∀(l:List Nat) (b k:Nat),b+k≤l.length→cut l b k=some ((l.drop b).take k):=by
  intro l
  induction l with
  |nil=>intro b k h;obtain rfl:b=0:=by simp at h;omega
        obtain rfl:k=0:=by simp at h;omega
        rfl
  |cons x l ih=>
   intro b k h
   cases b with
   |succ b=>exact(ih b k (by simp at h;omega)).trans (by simp)
   |zero=>
    cases k with
    |zero=>rfl
    |succ k=>
     have:=ih 0 k (by simp at h⊢;omega)
     show(Option.rec none (fun r=>some (x::r)) (cut l 0 k):Option (List Nat))=_
     rw[this];simp
 show(Option.rec none (fun l'=>some (AV.s (Nat.sub (orN hi n) (orN lo 0)) l')) (cut l (orN lo 0) (Nat.sub (orN hi n) (orN lo 0))):Option AV)=_
 rw[hcut l _ _ (by show orN lo 0+(orN hi n - orN lo 0)≤_;omega)];rfl
section
variable {P:Program}{G:Gs}
theorem tupA_conv {e e2:Env}{us us':List AV}{v:Value} (hl:us.length=us'.length) (hm:∀vs,RelL e us vs→RelL e2 us' vs) (h:Rel e (tupA us) v):Rel e2 (tupA us') v:=by
 match us,us',hl with
 |[x],[y],_=>
  have:=hm [v] (by simp only[RelL];exact⟨h,trivial⟩)
  simp only[RelL] at this;exact this.1
 |[],[],_=>
  replace h:Rel e (.tu []) v:=h
  show Rel e2 (.tu []) v
  simp only[Rel] at h⊢
  obtain⟨vs,hv,h2⟩:=h
  exact⟨vs,hv,hm _ h2⟩
 |x::y::r,x'::y'::r',_=>
  replace h:Rel e (.tu (x::y::r)) v:=h
  show Rel e2 (.tu (x'::y'::r')) v
  simp only[Rel] at h⊢
  obtain⟨vs,hv,h2⟩:=h
  exact⟨vs,hv,hm _ h2⟩
 |[],_::_,h=>simp at h
 |_::_,[],h=>simp at h
 |[_],_::_::_,h=>simp at h
 |_::_::_,[_],h=>simp at h
theorem decL_length {hd:H}:∀{ps:List Par}{xs:List AV}{y:denL ps},decL hd ps xs=some y→xs.length=(encL ps y).length
 |[],xs,y,h=>by
  cases xs with
  |nil=>rfl
  |cons=>cases h
 |p::ps,[],y,h=>by rw[decL_nil] at h;cases h
 |p::ps,x::xs,y,h=>by
  rw[decL_cons] at h
  split at h
  ·split at h
   ·rename_i ys hys
    cases h
    rw[encL_cons,Lc,Lc,decL_length hys]
   ·cases h
  ·cases h
theorem encL_length:∀{ps:List Par}{x:denL ps},(encL ps x).length=ps.length
 |[],_=>rfl
 |p::ps,x=>by rw[encL_cons,Lc,Lc,encL_length]
def Bd (B:Nat):(t:Ty)→den t→Prop
 |.str,s=>(show List Nat from s).length≤1152921504606846976
 |.pair a b,x=>Bd B a x.1∧Bd B b x.2
 |.sl t,xs=>(show List (den t) from xs).length≤B∧∀(i:Nat) (x:den t),(show List (den t) from xs)[i]? =some x→Bd B t x
 |.ptr t,x=>Bd B t x
 |.clo _ t,x=>Bd B t x
 |_,_=>True
def BdL (B:Nat):(ps:List Par)→denL ps→Prop
 |[],_=>True
 |p::ps,x=>Bd B p.t x.1∧BdL B ps x.2
theorem relT_bd {m:Mm}{w:World}:∀(t:Ty) (x:den t) (vs:List Value),relT m w t x vs→Bd m.B t x
 |.int _,_,_,_=>trivial
 |.bool,_,_,_=>trivial
 |.str,_,_,h=>h.2.2
 |.unit,_,_,_=>trivial
 |.pair a b,x,vs,h=>by
  obtain⟨us,ws,_,h2,h3⟩:=h
  exact⟨relT_bd a _ _ h2,relT_bd b _ _ h3⟩
 |.sl t,xs,vs,h=>by
  obtain⟨v,_,h2⟩:=h
  rcases h2 with ⟨h2,_⟩|⟨a,cap,_,_,hB,h4⟩
  ·have h2:(xs:List (den t))=[]:=h2
   subst h2
   exact⟨Nz _,fun i x hx=>by
    have:([]:List (den t))[i]? =some x:=hx
    simp at this⟩
  ·refine⟨hB,fun i x hx=>?_⟩
   rcases h4 with h4|⟨_,_,h6⟩
   ·have h4:(xs:List (den t))=[]:=h4
    subst h4
    have:([]:List (den t))[i]? =some x:=hx
    simp at this
   ·obtain⟨us,_,h8⟩:=h6 i x hx
    exact relT_bd t x us h8
 |.ptr t,x,vs,h=>by
  obtain⟨b,o,us,_,_,_,h4⟩:=h
  exact relT_bd t x us h4
 |.clo f t,x,vs,h=>by
  obtain⟨ws,_,h2⟩:=h
  exact relT_bd t x _ h2
theorem relL_bdL {e:Env}:∀{ps:List Par}{x:denL ps}{vs:List Value},wfR ps=true→RelL e (encL ps x) vs→BdL e.F.B ps x
 |[],_,_,_,_=>trivial
 |p::ps,x,vs,hwf,h=>by
  rw[encL_cons] at h
  simp only[wfR,Bool.and_eq_true,Bool.or_eq_true] at hwf
  cases vs with
  |nil=>simp[RelL] at h
  |cons v vs=>
   simp only[RelL] at h
   refine⟨?_,relL_bdL hwf.2 h.2⟩
   have hp:=rel_relP (ag:=p.ag) (t:=p.t) (x:=x.1) (fun ha=>by
    rcases hwf.1 with h|h
    ·rw[ha] at h;cases h
    ·exact Nq h) h.1
   cases hag:p.ag with
   |true=>rw[hag] at hp;obtain⟨us,h1,h2⟩:=hp;exact relT_bd _ _ _ h2
   |false=>rw[hag] at hp;exact relT_bd _ _ _ hp
theorem fn_intro (hm:P.follows .mixedOrders=true){f:Nat}{fn:Func}{b:Code}{res:List (List Bool×Option (Option Nat))}{ps rs:List Par}{x:denL ps}{y:denL rs}
 (hf:P.funcs[f]? =some fn) (hname:(fn.name== "runtime.NumGoroutine")=false) (hb:fn.body=some b) (hres:compResL P fn.results.toList=some res) (hle:Nat.ble ps.length fn.ntmps=true) (hwf:wfR ps=true) (hBlo:1073741824≤G.B)
 (hsat:BdL G.B ps x→Sat P G fn.ntmps b (argsFrom (encL ps x) 0 .e) H0 (fun ex fr' h'=>(ex=.normal∨ex=.ret)∧(∃us,resOf res fr' h'=some us∧decL h' rs us=some y))):KOk P G f ps rs x y:=by
 intro e vs hfr hs hg hrel
 obtain⟨he,hρ,hlo⟩:=hfr
 right
 have hname':¬fn.name= "runtime.NumGoroutine" :=by simpa using hname
 refine⟨by simp[callFunc,hf,hname',hb],?_⟩
 have hvl:=hrel.len
 rw[encL_length] at hvl
 have hle:=Nb hle
 refine calls_of_wp hf hb (hsat (by rw[←hg.1];exact relL_bdL hwf hrel) _ e _ he hs (args_rel hrel _) hg (by simp;omega) (fun ex fr' h' hq=>?_))
 obtain⟨hex,us,hro,hdec⟩:=hq
 intro a' e' he' hs' hx' hf' _ hd'
 subst he'
 have hfin:a'.defers=[]∧∃v,(results fn a'.tmps).run P e'.w=.ok v e'.w∧∃v',Ending.returned v=.returned v'∧∃e2,e2.w=e'.w∧St e2∧Ext e e2∧Rel e2 (encR rs y) v':=by
  obtain⟨h2,cv,h3,h4⟩:=results_sound (fn:=fn) (r:=tupA us) (h':=e'.h) hs' hf' hres hro (by
   match us with
   |[_]=>rfl
   |[]=>rfl
   |_::_::_=>rfl)
  let e2:Env:=⟨fun _=>(0,1),⟨e'.h.next,.e⟩,e'.w,e'.F⟩
  have hno:∀id,e2.h.get id=none:=fun id=>by show T.get id .e=none;rw[T.get_e]
  have hkn:∀id,¬known e2 id:=fun id h=>by simp[known,e2] at h
  have hown:∀b,¬Own e2 b:=fun b ⟨id,⟨_,hb,_⟩,_⟩=>by rw[hno] at hb;cases hb
  have hkn0:∀id,¬known e id:=fun id h=>by unfold known at h;rw[hρ] at h;cases h
  have hno0:∀id,e.h.get id=none:=fun id=>by rw[he];exact H0_get id
  have hown0:∀b,¬Own e b:=fun b ⟨id,⟨_,hb,_⟩,_⟩=>by rw[hno0] at hb;cases hb
  have hx2:Ext e e2:={
   next:=hx'.next
   kn:=fun id h=>absurd h (hkn0 id)
   ren:=fun id h=>absurd h (hkn0 id)
   fr:=hx'.fr
   heap:=hx'.heap
   keep:=hx'.keep
   size:=hx'.size
   own:=fun b _ h=>absurd h (hown b)
   pres:=fun id b h=>by rw[hno0] at h;cases h
   newk:=fun id h=>absurd h (hkn id)
   qt:=hx'.qt}
  have hs2:St e2:={
   kn:=fun id h=>absurd h (hkn id)
   dk:=fun id b hb=>by rw[hno] at hb;cases hb
   lo:=hs'.lo
   blk:=fun id b hb=>by rw[hno] at hb;cases hb
   inj:=fun id _ ⟨b,hb,_⟩=>by rw[hno] at hb;cases hb
   fr:=fun b hb=>⟨(hs'.fr b hb).1,hown b⟩}
  refine⟨hd',cv,h3,cv,rfl,e2,rfl,hs2,hx2,?_⟩
  refine tupA_conv (decL_length hdec) (fun vs hr=>?_) h4
  exact decL_rel (e2:=e2) hs' rfl ⟨fun b (hb:Imm e' b)=>⟨hb.1,hb.2.1,hown b⟩,Nr _⟩ (fun id b hb=>hb) (fun id hl=>⟨hs'.lt hl,fun h=>(hs'.fr _ h).2 ⟨id,hl,rfl⟩,hown _⟩) (by show 1073741824≤e'.F.B;rw[hx'.fr,hg.1];exact hBlo) rs us y vs hdec hr
 rcases hex with rfl|rfl
 ·exact hfin
 ·exact hfin
end
end Go.Ev
end
