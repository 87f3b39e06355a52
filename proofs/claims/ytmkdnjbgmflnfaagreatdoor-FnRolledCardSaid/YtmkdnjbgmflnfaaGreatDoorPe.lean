/- A part of the proof that FnRolled returns true; no condition. -/
import Derived.Test.YtmkdnjbgmflnfaaGreatDoorPd
import Derived.Orders
import Derived.Test.YtmkdnjbgmflnfaaGreatDoorPa
import Derived.LoopN
import Derived.Laws.Sem
import Derived.Lib.Bytealg
import Derived.Lib.Index
set_option linter.all false
set_option maxRecDepth 100000
open List renaming length→U
open Int renaming ofNat→J,toNat→Jn
noncomputable section
namespace Go.Ev
theorem natIn_iff {n:Nat}:∀{l:List Nat},natIn n l=true↔n∈l
 |[]=>⟨fun h=>(by cases h),fun h=>(by cases h)⟩
 |x::l=>by
  show cd (Nat.beq x n) true (natIn n l)=true↔_
  rw[List.mem_cons]
  cases hb:Nat.beq x n with
  |true=>exact⟨fun _=>.inl (Nq hb).symm,fun _=>rfl⟩
  |false=>
   refine⟨fun h=>.inr (natIn_iff.1 h),fun h=>?_⟩
   rcases h with rfl|h
   ·rw[Nat.beq_refl] at hb;cases hb
   ·exact natIn_iff.2 h
theorem mem_selP {ks cons:List Nat}{p:Pd}:∀{l:List Pd},p∈selP ks cons l↔p∈l∧p.k∈ks∧p.k∉cons
 |[]=>⟨fun h=>(by cases h),fun h=>(by cases h.1)⟩
 |x::l=>by
  have ih:=mem_selP (ks:=ks) (cons:=cons) (p:=p) (l:=l)
  show p∈cd (natIn x.k ks) (cd (natIn x.k cons) (selP ks cons l) (x::selP ks cons l)) (selP ks cons l)↔_
  cases h1:natIn x.k ks with
  |false=>
   show p∈selP ks cons l↔_
   rw[ih,List.mem_cons]
   refine⟨fun h=>⟨.inr h.1,h.2⟩,fun h=>⟨?_,h.2⟩⟩
   rcases h.1 with rfl|h3
   ·rw[natIn_iff.2 h.2.1] at h1;cases h1
   ·exact h3
  |true=>
   cases h2:natIn x.k cons with
   |true=>
    show p∈selP ks cons l↔_
    rw[ih,List.mem_cons]
    refine⟨fun h=>⟨.inr h.1,h.2⟩,fun h=>⟨?_,h.2⟩⟩
    rcases h.1 with rfl|h3
    ·exact absurd (natIn_iff.1 h2) h.2.2
    ·exact h3
   |false=>
    show p∈x::selP ks cons l↔_
    rw[List.mem_cons,ih,List.mem_cons]
    refine⟨fun h=>?_,fun h=>?_⟩
    ·rcases h with rfl|h
     ·exact⟨.inl rfl,natIn_iff.1 h1,fun h=>by rw[natIn_iff.2 h] at h2;cases h2⟩
     ·exact⟨.inr h.1,h.2⟩
    ·rcases h.1 with h3|h3
     ·exact .inl h3
     ·exact .inr ⟨h3,h.2⟩
theorem mem_selC {cons:List Nat}{p:Pd}:∀{l:List Pd},p∈selC cons l↔p∈l∧p.k∉cons
 |[]=>⟨fun h=>(by cases h),fun h=>(by cases h.1)⟩
 |x::l=>by
  have ih:=mem_selC (cons:=cons) (p:=p) (l:=l)
  show p∈cd (natIn x.k cons) (selC cons l) (x::selC cons l)↔_
  cases h2:natIn x.k cons with
  |true=>
   show p∈selC cons l↔_
   rw[ih,List.mem_cons]
   refine⟨fun h=>⟨.inr h.1,h.2⟩,fun h=>⟨?_,h.2⟩⟩
   rcases h.1 with rfl|h3
   ·exact absurd (natIn_iff.1 h2) h.2
   ·exact h3
  |false=>
   show p∈x::selC cons l↔_
   rw[List.mem_cons,ih,List.mem_cons]
   refine⟨fun h=>?_,fun h=>?_⟩
   ·rcases h with rfl|h
    ·exact⟨.inl rfl,fun h=>by rw[natIn_iff.2 h] at h2;cases h2⟩
    ·exact⟨.inr h.1,h.2⟩
   ·rcases h.1 with h3|h3
    ·exact .inl h3
    ·exact .inr ⟨h3,h.2⟩
theorem freeOf_inv {h:H}{base:Nat}{cons:List Nat}:∀{na:Nat},freeOf h base cons na=true→∀k,k<na→k∉cons→h.get (path (base+k))=none
 |0,_,k,hk,_=>absurd hk (Nn _)
 |na+1,hf,k,hk,hc=>by
  have hf:cd (natIn na cons) (freeOf h base cons na) (Option.rec (freeOf h base cons na) (fun _=>false) (h.get (path (Nat.add base na))))=true:=hf
  cases hn:natIn na cons with
  |true=>
   rw[hn] at hf
   have hf:freeOf h base cons na=true:=hf
   by_cases he:k=na
   ·subst he;exact absurd (natIn_iff.1 hn) hc
   ·exact freeOf_inv hf k om hc
  |false=>
   rw[hn] at hf
   have hf:(Option.rec (freeOf h base cons na) (fun _=>false) (h.get (path (Nat.add base na))):Bool)=true:=hf
   cases hg:h.get (path (Nat.add base na)) with
   |some b=>rw[hg] at hf;cases hf
   |none=>
    rw[hg] at hf
    have hf:freeOf h base cons na=true:=hf
    by_cases he:k=na
    ·subst he;exact hg
    ·exact freeOf_inv hf k om hc
inductive SI (call:CallF) (base na:Nat) (d:DO) (s:DS):DS→AV→Prop
 |skip:wanted d.o.g s.fr=some false→d.o.op.cls≠.X→SI call base na d s (stepV d s undefA) undefA
 |skipX:wanted d.o.g s.fr=some false→d.o.op.cls=.X→SI call base na d s (stepX d s undefA (heapAt s.cur d.ks s.mks)) undefA
 |N (v:AV) (h':H):wanted d.o.g s.fr=some true→d.o.op.cls=.N→evOp call d.o.op s.fr s.cur.h (base+d.o.k)=.ok v h'→SI call base na d s (stepV d s v) v
 |R (v:AV) (h':H):wanted d.o.g s.fr=some true→d.o.op.cls=.R→evOp call d.o.op s.fr (heapAt s.cur d.ks s.mks) (base+d.o.k)=.ok v h'→SI call base na d s (stepR d s v) v
 |A (v:AV) (h':H):wanted d.o.g s.fr=some true→d.o.op.cls=.A→evOp call d.o.op s.fr ⟨s.cur.h.next,.e⟩ (base+d.o.k)=.ok v h'→
    SI call base na d s (stepA d s v (path (base+d.o.k)) (h'.get (path (base+d.o.k)))) v
 |X (v:AV) (h':H):wanted d.o.g s.fr=some true→d.o.op.cls=.X→evOp call d.o.op s.fr (heapAt s.cur d.ks s.mks) (base+na)=.ok v h'→
    freeOf h' base (cat d.ks s.cur.cons) na=true→SI call base na d s (stepX d s v h') v
theorem stepD_inv {call:CallF}{base na:Nat}{d:DO}{s s':DS} (h:stepD call base na d s=some s'):∃v,SI call base na d s s' v:=by
 unfold stepD at h
 cases hw:wanted d.o.g s.fr with
 |none=>rw[hw] at h;cases h
 |some b=>
  rw[hw] at h
  cases b with
  |false=>
   cases hc:d.o.op.cls with
   |X=>
    rw[hc] at h
    have h:some (stepX d s undefA (heapAt s.cur d.ks s.mks))=some s':=h
    obtain rfl:=Oi h
    exact⟨_,.skipX hw hc⟩
   |_=>
    rw[hc] at h
    have h:some (stepV d s undefA)=some s':=h
    obtain rfl:=Oi h
    exact⟨_,.skip hw (by rw[hc];simp)⟩
  |true=>
   cases hc:d.o.op.cls with
   |N=>
    rw[hc] at h
    have h:(R.rec none (fun v _=>some (stepV d s v)) (evOp call d.o.op s.fr s.cur.h (Nat.add base d.o.k)):Option DS)=some s':=h
    cases hr:evOp call d.o.op s.fr s.cur.h (Nat.add base d.o.k) with
    |no=>rw[hr] at h;cases h
    |ok v h'=>
     rw[hr] at h
     have h:some (stepV d s v)=some s':=h
     obtain rfl:=Oi h
     exact⟨_,.N v h' hw hc hr⟩
   |R=>
    rw[hc] at h
    have h:(R.rec none (fun v _=>some (stepR d s v)) (evOp call d.o.op s.fr (heapAt s.cur d.ks s.mks) (Nat.add base d.o.k)):Option DS)=some s':=h
    cases hr:evOp call d.o.op s.fr (heapAt s.cur d.ks s.mks) (Nat.add base d.o.k) with
    |no=>rw[hr] at h;cases h
    |ok v h'=>
     rw[hr] at h
     have h:some (stepR d s v)=some s':=h
     obtain rfl:=Oi h
     exact⟨_,.R v h' hw hc hr⟩
   |A=>
    rw[hc] at h
    have h:(R.rec none (fun v h=>some (stepA d s v (path (Nat.add base d.o.k)) (h.get (path (Nat.add base d.o.k))))) (evOp call d.o.op s.fr ⟨s.cur.h.next,.e⟩ (Nat.add base d.o.k)):Option DS)=some s':=h
    cases hr:evOp call d.o.op s.fr ⟨s.cur.h.next,.e⟩ (Nat.add base d.o.k) with
    |no=>rw[hr] at h;cases h
    |ok v h'=>
     rw[hr] at h
     have h:some (stepA d s v (path (Nat.add base d.o.k)) (h'.get (path (Nat.add base d.o.k))))=some s':=h
     obtain rfl:=Oi h
     exact⟨_,.A v h' hw hc hr⟩
   |X=>
    rw[hc] at h
    have h:(R.rec none (fun v h=>cd (freeOf h base (cat d.ks s.cur.cons) na) (some (stepX d s v h)) none) (evOp call d.o.op s.fr (heapAt s.cur d.ks s.mks) (Nat.add base na)):Option DS)=some s':=h
    cases hr:evOp call d.o.op s.fr (heapAt s.cur d.ks s.mks) (Nat.add base na) with
    |no=>rw[hr] at h;cases h
    |ok v h'=>
     rw[hr] at h
     have h:cd (freeOf h' base (cat d.ks s.cur.cons) na) (some (stepX d s v h')) none=some s':=h
     cases hf:freeOf h' base (cat d.ks s.cur.cons) na with
     |false=>rw[hf] at h;cases h
     |true=>
      rw[hf] at h
      have h:some (stepX d s v h')=some s':=h
      obtain rfl:=Oi h
      exact⟨_,.X v h' hw hc hr hf⟩
theorem evD_states {call:CallF}{base na:Nat}:∀{D:List DO}{s s':DS},evD call base na D s=some s'→
 ∃(σ:Nat→DS) (val:Nat→AV),σ 0=s∧σ D.length=s'∧∀i d,D[i]? =some d→SI call base na d (σ i) (σ (i+1)) (val i)
 |[],s,s',h=>by
  obtain rfl:=Oi (show some s=some s' from h)
  exact⟨fun _=>s,fun _=>undefA,rfl,rfl,fun i d hd=>by simp at hd⟩
 |d::D,s,s',h=>by
  have h:(Option.rec none (evD call base na D) (stepD call base na d s):Option DS)=some s':=h
  cases hs:stepD call base na d s with
  |none=>rw[hs] at h;cases h
  |some s1=>
   rw[hs] at h
   obtain⟨σ,val,h1,h2,h3⟩:=evD_states (show evD call base na D s1=some s' from h)
   obtain⟨v,hv⟩:=stepD_inv hs
   refine⟨fun i=>match i with|0=>s|i+1=>σ i,fun i=>match i with|0=>v|i+1=>val i,rfl,h2,fun i q hq=>?_⟩
   cases i with
   |zero=>
    simp only[List.getElem?_cons_zero,Oj] at hq
    subst hq
    show SI call base na d s (σ 0) v
    rw[h1];exact hv
   |succ i=>exact h3 i q (by simpa using hq)
end Go.Ev
namespace Go.Ev
theorem predM_bit {o:Oper}{acc:List Nat}{p:Nat} (h:(predM o acc).testBit p=true):
 ∃e∈o.after.toList,Region.binds .any e=true∧(p=e.on∨(acc.getD e.on 0).testBit p=true):=by
 unfold predM at h
 generalize o.after.toList=L at h⊢
 induction L with
 |nil=>simp at h
 |cons e L ih=>
  simp only[List.foldr_cons] at h
  by_cases hb:Region.binds .any e=true
  ·rw[if_pos hb,Nat.testBit_or,Bool.or_eq_true] at h
   rcases h with h|h
   ·obtain⟨e',h1,h2⟩:=ih h
    exact⟨e',Loz _ h1,h2⟩
   ·refine⟨e,Mc ..,hb,?_⟩
    rw[Nat.testBit_or,Bool.or_eq_true] at h
    rcases h with h|h
    ·left
     rw[Nat.testBit_two_pow] at h
     exact(of_decide_eq_true h).symm
    ·exact .inr h
  ·rw[if_neg hb] at h
   obtain⟨e',h1,h2⟩:=ih h
   exact⟨e',Loz _ h1,h2⟩
theorem predsGo_spec:∀(ops:List Oper) (acc:List Nat),∃X,predsGo ops acc=acc++X∧X.length=ops.length∧
 ∀i o,ops[i]? =some o→(predsGo ops acc).getD (acc.length+i) 0=predM o ((predsGo ops acc).take (acc.length+i))
 |[],acc=>⟨[],by simp[predsGo],rfl,fun i o h=>by simp at h⟩
 |o::r,acc=>by
  obtain⟨X,h1,h2,h3⟩:=predsGo_spec r (acc++[predM o acc])
  have hd:predsGo (o::r) acc=predsGo r (acc++[predM o acc]):=rfl
  refine⟨predM o acc::X,by rw[hd,h1];simp,by simp[h2],fun i q hq=>?_⟩
  rw[hd]
  cases i with
  |zero=>
   simp only[List.getElem?_cons_zero,Oj] at hq
   subst hq
   rw[h1]
   simp
  |succ i=>
   have:=h3 i q (by simpa using hq)
   simp only[La,Lcz,Ln] at this
   rw[show acc.length+(i+1)=acc.length+(0+1)+i by omega]
   exact this
theorem preds_at {ops:List Oper}{i:Nat}{o:Oper} (h:ops[i]? =some o):(predsGo ops []).getD i 0=predM o ((predsGo ops []).take i):=by
 obtain⟨X,_,_,h3⟩:=predsGo_spec ops []
 simpa using h3 i o h
theorem preds_out {ops:List Oper}{i:Nat} (h:ops.length≤i):(predsGo ops []).getD i 0=0:=by
 obtain⟨X,h1,h2,_⟩:=predsGo_spec ops []
 rw[h1]
 simp only[List.nil_append]
 rw[Lwz,Lz om]
 rfl
theorem edge_lt {ops:List Oper} (he:∀i o,ops[i]? =some o→edgesOk o i=true){i:Nat}{o:Oper} (h:ops[i]? =some o){e} (hm:e∈o.after.toList) (hb:Region.binds .any e=true):e.on<i:=by
 have:=he i o h
 simp only[edgesOk,List.all_eq_true,Bool.or_eq_true,Bool.not_eq_true',decide_eq_true_eq] at this
 rcases this e hm with h|h
 ·rw[hb] at h;cases h
 ·exact h
theorem take_getD {l:List Nat}{i j:Nat} (h:j<i):(l.take i).getD j 0=l.getD j 0:=by
 rw[Lwz,Lwz,List.getElem?_take,if_pos h]
theorem bfr_edge {ops:List Oper} (he:∀i o,ops[i]? =some o→edgesOk o i=true){p i:Nat} (h:bfr (predsGo ops []) p i=true):
 ∃o e,ops[i]? =some o∧e∈o.after.toList∧Region.binds .any e=true∧e.on<i∧(p=e.on∨bfr (predsGo ops []) p e.on=true):=by
 unfold bfr at h
 cases ho:ops[i]? with
 |none=>
  rw[preds_out (List.getElem?_eq_none_iff.1 ho)] at h
  simp at h
 |some o=>
  rw[preds_at ho] at h
  obtain⟨e,h1,h2,h3⟩:=predM_bit h
  have hlt:=edge_lt he ho h1 h2
  refine⟨o,e,rfl,h1,h2,hlt,?_⟩
  rcases h3 with h3|h3
  ·exact .inl h3
  ·rw[take_getD hlt] at h3;exact .inr h3
theorem bfr_lt {ops:List Oper} (he:∀i o,ops[i]? =some o→edgesOk o i=true):∀(i p:Nat),bfr (predsGo ops []) p i=true→p<i:=by
 intro i
 induction i using Nat.strongRecOn with
 |_ i ih=>
  intro p h
  obtain⟨o,e,_,_,_,hlt,h⟩:=bfr_edge he h
  rcases h with rfl|h
  ·exact hlt
  ·exact Nat.lt_trans (ih _ hlt p h) hlt
def Direct (ops:List Oper) (S:Nat→Bool) (i:Nat):Prop:=∀o e,ops[i]? =some o→e∈o.after.toList→Region.binds .any e=true→S e.on=true
theorem closed {ops:List Oper} (he:∀i o,ops[i]? =some o→edgesOk o i=true){S:Nat→Bool} (hS:∀i,S i=true→Direct ops S i):
 ∀(i:Nat),Direct ops S i→∀p,bfr (predsGo ops []) p i=true→S p=true:=by
 intro i
 induction i using Nat.strongRecOn with
 |_ i ih=>
  intro hd p h
  obtain⟨o,e,ho,hm,hb,hlt,h⟩:=bfr_edge he h
  have:=hd o e ho hm hb
  rcases h with rfl|h
  ·exact this
  ·exact ih _ hlt (hS _ this) p h
structure Stat (na:Nat) (ops:List Oper) (l:List AO):Prop where
 len:l.length=ops.length
 edges:∀i o,ops[i]? =some o→edgesOk o i=true
 tmps:∀i o t j,l[i]? =some o→t∈o.looks∨o.dst=some t→i≠j→dstOf l j=some t→bfr (predsGo ops []) i j=true∨bfr (predsGo ops []) j i=true
 xs:∀i j,isX l i=true→isX l j=true→i≠j→bfr (predsGo ops []) i j=true∨bfr (predsGo ops []) j i=true
 as_:∀i,isA l i=true→kOf l i<na
 as2:∀i j,isA l i=true→isA l j=true→kOf l i=kOf l j→i=j
theorem isX_lt {l:List AO}{i:Nat} (h:isX l i=true):i<l.length:=by
 unfold isX at h
 cases hl:l[i]? with
 |none=>rw[hl] at h;cases h
 |some o=>exact(List.getElem?_eq_some_iff.1 hl).1
theorem isA_lt {l:List AO}{i:Nat} (h:isA l i=true):i<l.length:=by
 unfold isA at h
 cases hl:l[i]? with
 |none=>rw[hl] at h;cases h
 |some o=>exact(List.getElem?_eq_some_iff.1 hl).1
theorem dstOf_lt {l:List AO}{i:Nat}{t:List Bool} (h:dstOf l i=some t):i<l.length:=by
 unfold dstOf at h
 cases hl:l[i]? with
 |none=>rw[hl] at h;cases h
 |some o=>exact(List.getElem?_eq_some_iff.1 hl).1
theorem chkD_stat {na:Nat}{ops:List Oper}{l:List AO} (hlen:l.length=ops.length) (h:chkD na ops (predsGo ops []) l=true):Stat na ops l:=by
 unfold chkD at h
 rw[Bool.and_eq_true,List.all_eq_true,List.all_eq_true] at h
 obtain⟨h1,h2⟩:=h
 have e1:∀i o,ops[i]? =some o→edgesOk o i=true:=fun i o ho=>by
  have:=h1 i (List.mem_range.2 (List.getElem?_eq_some_iff.1 ho).1)
  rw[ho] at this;exact this
 have e2:∀i o,l[i]? =some o→_:=fun i o (ho:l[i]? =some o)=>by
  have:=h2 i (List.mem_range.2 (List.getElem?_eq_some_iff.1 ho).1)
  rw[ho] at this
  simp only[Bool.and_eq_true] at this
  exact this
 have ex:∀i,isX l i=true→∃o,l[i]? =some o:=fun i hi=>⟨_,Lq (isX_lt hi)⟩
 have ea:∀i,isA l i=true→∃o,l[i]? =some o:=fun i hi=>⟨_,Lq (isA_lt hi)⟩
 refine⟨hlen,e1,?_,?_,?_,?_⟩
 ·intro i o t j ho ht hij hd
  have h3:=(e2 i o ho).1.1
  rw[List.all_eq_true] at h3
  have h4:=h3 t (by
   rw[List.mem_append]
   rcases ht with ht|ht
   ·exact .inl ht
   ·exact .inr (by rw[ht];simp))
  rw[List.all_eq_true] at h4
  have h5:=h4 j (List.mem_range.2 (dstOf_lt hd))
  simp only[Bool.or_eq_true,beq_iff_eq,bne_iff_ne,ne_eq] at h5
  rcases h5 with ((h5|h5)|h5)|h5
  ·exact absurd h5 hij
  ·exact absurd hd h5
  ·exact .inl h5
  ·exact .inr h5
 ·intro i j hi hj hij
  obtain⟨o,ho⟩:=ex i hi
  have h3:=(e2 i o ho).1.2
  rw[hi] at h3
  simp only[Bool.not_true,Bool.false_or,List.all_eq_true] at h3
  have h5:=h3 j (List.mem_range.2 (isX_lt hj))
  rw[hj] at h5
  simp only[Bool.not_true,Bool.or_false,Bool.or_eq_true,beq_iff_eq] at h5
  rcases h5 with (h5|h5)|h5
  ·exact absurd h5 hij
  ·exact .inl h5
  ·exact .inr h5
 ·intro i hi
  obtain⟨o,ho⟩:=ea i hi
  have h3:=(e2 i o ho).2
  rw[hi] at h3
  simp only[Bool.not_true,Bool.false_or,Bool.and_eq_true,decide_eq_true_eq] at h3
  have:kOf l i=o.k:=by unfold kOf;rw[ho]
  rw[this];exact h3.1
 ·intro i j hi hj hk
  obtain⟨o,ho⟩:=ea i hi
  have h3:=(e2 i o ho).2
  rw[hi] at h3
  simp only[Bool.not_true,Bool.false_or,Bool.and_eq_true,List.all_eq_true] at h3
  have h5:=h3.2 j (List.mem_range.2 (isA_lt hj))
  rw[hj] at h5
  simp only[Bool.not_true,Bool.or_false,Bool.or_eq_true,beq_iff_eq,bne_iff_ne,ne_eq] at h5
  have:kOf l i=o.k:=by unfold kOf;rw[ho]
  rcases h5 with h5|h5
  ·exact h5
  ·exact absurd (hk.symm.trans this) h5
theorem cX_succ (l:List AO) (i:Nat):cX l (i+1)=cX l i+(if isX l i=true then 1 else 0):=by
 unfold cX
 rw[List.range_succ,List.filter_append,La]
 by_cases h:isX l i=true
 ·rw[if_pos h];simp[h]
 ·rw[if_neg h]
  have:isX l i=false:=by simpa using h
  simp[this]
theorem cX_mono (l:List AO){i j:Nat} (h:i≤j):cX l i≤cX l j:=by
 induction j with
 |zero=>simp only[Nat.le_zero] at h;subst h;exact Nr _
 |succ j ih=>
  by_cases he:i=j+1
  ·subst he;exact Nr _
  ·rw[cX_succ];exact Nt (ih om) (Nat.le_add_right _ _)
theorem cX_lt {l:List AO}{x m:Nat} (hx:isX l x=true):cX l x<cX l m↔x<m:=by
 constructor
 ·intro h
  by_cases hm:x<m
  ·exact hm
  ·exact absurd (cX_mono l (Nat.le_of_not_lt hm)) om
 ·intro h
  have h1:=cX_mono l (show x+1≤m from h)
  rw[cX_succ,if_pos hx] at h1
  omega
def frS (l:List AO) (val:Nat→AV) (fr0:T AV) (S:Nat→Bool):Nat→T AV
 |0=>fr0
 |m+1=>if S m=true then setD (dstOf l m) (val m) (frS l val fr0 S m) else frS l val fr0 S m
theorem getV_setD (d:Option (List Bool)) (v:AV) (fr:T AV) (q:List Bool):getV (setD d v fr) q=if d=some q then v else getV fr q:=by
 cases d with
 |none=>simp;rfl
 |some p=>
  show getV (T.set p v fr) q=_
  rw[getV_set]
  by_cases h:q=p
  ·rw[if_pos h,if_pos (by rw[h])]
  ·rw[if_neg h,if_neg (fun he=>h (Oi he).symm)]
theorem frS_agree {l:List AO}{val:Nat→AV}{fr0:T AV}{S S':Nat→Bool}{t:List Bool}:∀{m:Nat},(∀j,j<m→dstOf l j=some t→S j=S' j)→getV (frS l val fr0 S m) t=getV (frS l val fr0 S' m) t
 |0,_=>rfl
 |m+1,h=>by
  have ih:=frS_agree (l:=l) (val:=val) (fr0:=fr0) (S:=S) (S':=S') (t:=t) (m:=m) (fun j hj=>h j (Nat.lt_succ_of_lt hj))
  simp only[frS]
  by_cases hd:dstOf l m=some t
  ·rw[h m (Nat.lt_succ_self m) hd]
   split
   ·rw[getV_setD,getV_setD,if_pos hd,if_pos hd]
   ·exact ih
  ·have:∀(S:Nat→Bool),getV (if S m=true then setD (dstOf l m) (val m) (frS l val fr0 S m) else frS l val fr0 S m) t=getV (frS l val fr0 S m) t:=by
    intro S;split
    ·rw[getV_setD,if_neg hd]
    ·rfl
   rw[this,this];exact ih
def addS (S:Nat→Bool) (i:Nat):Nat→Bool:=fun j=>if j=i then true else S j
theorem frS_add {l:List AO}{val:Nat→AV}{fr0:T AV}{S:Nat→Bool}{i:Nat} (hi:S i=false) (hlast:∀j t,S j=true→dstOf l i=some t→dstOf l j=some t→j<i) (q:List Bool):
 ∀m,getV (frS l val fr0 (addS S i) m) q=if i<m then getV (setD (dstOf l i) (val i) (frS l val fr0 S m)) q else getV (frS l val fr0 S m) q
 |0=>by rw[if_neg (Nn _)];rfl
 |m+1=>by
  have ih:=frS_add (l:=l) (val:=val) (fr0:=fr0) hi hlast q m
  simp only[frS]
  by_cases hm:m=i
  ·subst hm
   rw[if_neg (Nat.lt_irrefl _)] at ih
   rw[if_pos (Nat.lt_succ_self _)]
   have h1:addS S m m=true:=if_pos rfl
   rw[if_pos h1,if_neg (by rw[hi];simp)]
   rw[getV_setD,getV_setD,ih]
  ·have h1:addS S i m=S m:=if_neg hm
   rw[h1]
   by_cases hlt:i<m
   ·rw[if_pos hlt] at ih
    rw[if_pos (by omega:i<m+1)]
    by_cases hS:S m=true
    ·rw[if_pos hS,if_pos hS,getV_setD,ih,getV_setD,getV_setD,getV_setD]
     by_cases hd:dstOf l m=some q
     ·rw[if_pos hd]
      by_cases hd2:dstOf l i=some q
      ·have:=hlast m q hS hd2 hd;omega
      ·rw[if_neg hd2,if_pos hd]
     ·rw[if_neg hd,if_neg hd]
    ·rw[if_neg hS,if_neg hS];exact ih
   ·rw[if_neg hlt] at ih
    rw[if_neg (by omega:¬i<m+1)]
    by_cases hS:S m=true
    ·rw[if_pos hS,if_pos hS,getV_setD,getV_setD,ih]
    ·rw[if_neg hS,if_neg hS];exact ih
end Go.Ev
namespace Go.Ev
section
variable {call:CallF}{base na:Nat}{d:DO}{s s':DS}{v:AV}
theorem SI.fr (h:SI call base na d s s' v):s'.fr=setD d.o.dst v s.fr:=by cases h<;>rfl
theorem SI.cur (h:SI call base na d s s' v) (hc:d.o.op.cls≠.X):s'.cur=s.cur∧s'.old=s.old:=by
 cases h<;>first|exact⟨rfl,rfl⟩|(rename_i hx;exact absurd hx hc)|(rename_i hx _ _;exact absurd hx hc)
theorem SI.curX (h:SI call base na d s s' v) (hc:d.o.op.cls=.X):s'.old=s.cur::s.old∧s'.cur.cons=d.ks++s.cur.cons:=by
 cases h with
 |skip _ hx=>exact absurd hc hx
 |skipX _ _=>exact⟨rfl,cat_eq _ _⟩
 |N _ _ _ hx _=>rw[hx] at hc;cases hc
 |R _ _ _ hx _=>rw[hx] at hc;cases hc
 |A _ _ _ hx _=>rw[hx] at hc;cases hc
 |X _ _ _ _ _ _=>exact⟨rfl,cat_eq _ _⟩
theorem SI.mk (h:SI call base na d s s' v):s'.mks=s.mks∨(d.o.op.cls=.A∧∃b,s'.mks=⟨d.o.k,path (base+d.o.k),b⟩::s.mks):=by
 cases h with
 |skip=>exact .inl rfl
 |skipX=>exact .inl rfl
 |N=>exact .inl rfl
 |R=>exact .inl rfl
 |A v h' hw hc hr=>
  cases hg:h'.get (path (base+d.o.k)) with
  |none=>exact .inl rfl
  |some b=>exact .inr ⟨hc,b,rfl⟩
 |X=>exact .inl rfl
theorem SI.rs (h:SI call base na d s s' v):∀r∈s.rs,r∈s'.rs:=by
 cases h with
 |R v h' hw hc hr=>
  intro r hr
  show r∈(List.rec s.rs (fun _ _ _=>⟨d.o.op,s.fr,v,d.ks,d.js⟩::s.rs) d.js:List Rd)
  cases d.js with
  |nil=>exact hr
  |cons j js=>exact Loz _ hr
 |_=>exact fun _ hr=>hr
end
theorem revOnto_eq {α:Type}:∀(l a:List α),revOnto l a=l.reverse++a
 |[],a=>rfl
 |x::l,a=>by
  show revOnto l (x::a)=_
  rw[revOnto_eq l];simp
def hsOf (s:DS):List Bh:=revOnto s.old [s.cur]
def doOf (Pm:List Nat) (l:List AO) (o:AO) (i:Nat):DO:=⟨o,ksOf Pm l i,if isR o then(jsOf Pm l i).filter (fun j=>j !=cX l i) else[]⟩
theorem drawOf_get {Pm:List Nat}{l:List AO}{i:Nat}{o:AO} (h:l[i]? =some o):(drawOf Pm l)[i]? =some (doOf Pm l o i):=by
 unfold drawOf
 rw[List.getElem?_map,List.getElem?_zipIdx,h]
 simp[doOf]
section
variable {call:CallF}{base na:Nat}{ops:List Oper}{l:List AO}{σ:Nat→DS}{val:Nat→AV}
structure Run (call:CallF) (base na:Nat) (ops:List Oper) (l:List AO) (σ:Nat→DS) (val:Nat→AV):Prop where
 stat:Stat na ops l
 si:∀i o,l[i]? =some o→SI call base na (doOf (predsGo ops []) l o i) (σ i) (σ (i+1)) (val i)
 mk0:(σ 0).mks=[]
 cons0:(σ 0).cur.cons=[]
 old0:(σ 0).old=[]
 free0:∀k,k<na→(σ 0).cur.h.get (path (base+k))=none
theorem at_ {i:Nat} (h:i<l.length):∃o,l[i]? =some o:=⟨_,Lq h⟩
theorem isX_of {i:Nat}{o:AO} (h:l[i]? =some o):isX l i=true↔o.op.cls=.X:=by unfold isX;rw[h];simp
theorem isA_of {i:Nat}{o:AO} (h:l[i]? =some o):isA l i=true↔o.op.cls=.A:=by unfold isA;rw[h];simp
theorem kOf_of {i:Nat}{o:AO} (h:l[i]? =some o):kOf l i=o.k:=by unfold kOf;rw[h]
theorem dstOf_of {i:Nat}{o:AO} (h:l[i]? =some o):dstOf l i=o.dst:=by unfold dstOf;rw[h]
theorem mem_ksOf {Pm:List Nat}{i κ:Nat}:κ∈ksOf Pm l i↔∃a,isA l a=true∧bfr Pm a i=true∧kOf l a=κ:=by
 unfold ksOf
 simp only[List.mem_map,List.mem_filter,List.mem_range,Bool.and_eq_true]
 constructor
 ·rintro ⟨a,⟨_,h1,h2⟩,h3⟩;exact⟨a,h1,h2,h3⟩
 ·rintro ⟨a,h1,h2,h3⟩;exact⟨a,⟨isA_lt h1,h1,h2⟩,h3⟩
namespace Run
variable (r:Run call base na ops l σ val)
include r
theorem lt {p i:Nat} (h:bfr (predsGo ops []) p i=true):p<i:=bfr_lt r.stat.edges i p h
theorem fr_eq (fr0:T AV) (h0:(σ 0).fr=fr0):∀i,i≤l.length→(σ i).fr=frS l val fr0 (fun j=>decide (j<i)) i:=by
 have gen:∀i,i≤l.length→∀(S:Nat→Bool),(∀j,j<i→S j=true)→(σ i).fr=frS l val fr0 S i:=by
  intro i
  induction i with
  |zero=>intro _ S _;exact h0
  |succ i ih=>
   intro hi S hS
   obtain⟨o,ho⟩:=at_ (show i<l.length from hi)
   have h1:=(r.si i o ho).fr
   simp only[frS]
   rw[if_pos (hS i (Nat.lt_succ_self i)),h1,ih om S (fun j hj=>hS j om),dstOf_of ho]
   rfl
 intro i hi
 exact gen i hi _ (fun j hj=>by simpa using hj)
theorem mk_mono {i j:Nat} (h:i≤j) (hj:j≤l.length):∀p∈(σ i).mks,p∈(σ j).mks:=by
 induction j with
 |zero=>simp only[Nat.le_zero] at h;subst h;exact fun _ h=>h
 |succ j ih=>
  by_cases he:i=j+1
  ·subst he;exact fun _ h=>h
  ·intro p hp
   have hp:=ih om om p hp
   obtain⟨o,ho⟩:=at_ (show j<l.length from hj)
   rcases(r.si j o ho).mk with h1|⟨_,b,h1⟩
   ·rw[h1];exact hp
   ·rw[h1];exact Loz _ hp
theorem rs_mono {i j:Nat} (h:i≤j) (hj:j≤l.length):∀p∈(σ i).rs,p∈(σ j).rs:=by
 induction j with
 |zero=>simp only[Nat.le_zero] at h;subst h;exact fun _ h=>h
 |succ j ih=>
  by_cases he:i=j+1
  ·subst he;exact fun _ h=>h
  ·intro p hp
   obtain⟨o,ho⟩:=at_ (show j<l.length from hj)
   exact(r.si j o ho).rs p (ih om om p hp)
theorem mk_from:∀i,i≤l.length→∀p∈(σ i).mks,p.id=path (base+p.k)∧∃a,a<i∧isA l a=true∧kOf l a=p.k∧p∈(σ (a+1)).mks:=by
 intro i
 induction i with
 |zero=>intro _ p hp;rw[r.mk0] at hp;cases hp
 |succ i ih=>
  intro hi p hp
  obtain⟨o,ho⟩:=at_ (show i<l.length from hi)
  have old:p∈(σ i).mks→p.id=path (base+p.k)∧∃a,a<i+1∧isA l a=true∧kOf l a=p.k∧p∈(σ (a+1)).mks:=fun hp=>by
   obtain⟨h1,a,h2,h3⟩:=ih om p hp
   exact⟨h1,a,om,h3⟩
  rcases(r.si i o ho).mk with h1|⟨hc,b,h1⟩
  ·rw[h1] at hp;exact old hp
  ·have hp':=hp
   rw[h1] at hp
   rcases List.mem_cons.1 hp with rfl|hp
   ·exact⟨rfl,i,Nat.lt_succ_self i,(isA_of ho).2 hc,kOf_of ho,hp'⟩
   ·exact old hp
theorem mk_unique:∀i,i≤l.length→∀p∈(σ i).mks,∀q∈(σ i).mks,p.k=q.k→p=q:=by
 intro i
 induction i with
 |zero=>intro _ p hp;rw[r.mk0] at hp;cases hp
 |succ i ih=>
  intro hi p hp q hq hk
  obtain⟨o,ho⟩:=at_ (show i<l.length from hi)
  rcases(r.si i o ho).mk with h1|⟨hc,b,h1⟩
  ·rw[h1] at hp hq;exact ih om p hp q hq hk
  ·have no:∀q∈(σ i).mks,q.k≠o.k:=fun q hq he=>by
    obtain⟨_,a,h2,h3,h4,_⟩:=r.mk_from i om q hq
    have:=r.stat.as2 a i h3 ((isA_of ho).2 hc) (by rw[h4,kOf_of ho];exact he)
    omega
   rw[h1] at hp hq
   rcases List.mem_cons.1 hp with rfl|hp<;>rcases List.mem_cons.1 hq with rfl|hq
   ·rfl
   ·exact absurd hk.symm (no q hq)
   ·exact absurd hk (no p hp)
   ·exact ih om p hp q hq hk
theorem mk_at {i:Nat} (hi:i≤l.length){p:Pd} (hp:p∈(σ l.length).mks){a:Nat} (ha:isA l a=true) (hk:kOf l a=p.k) (hlt:a<i):p∈(σ i).mks:=by
 obtain⟨_,a',_,h3,h4,h5⟩:=r.mk_from _ (Nr _) p hp
 have:=r.stat.as2 a a' ha h3 (hk.trans h4.symm)
 subst this
 exact r.mk_mono hlt hi p h5
theorem mk_none {i:Nat}{o:AO} (ho:l[i]? =some o) (h:(σ (i+1)).mks=(σ i).mks){p:Pd} (hp:p∈(σ l.length).mks) (ha:isA l i=true):kOf l i≠p.k:=by
 intro hk
 have hi:=(List.getElem?_eq_some_iff.1 ho).1
 have h1:=r.mk_at hi hp ha hk (Nat.lt_succ_self i)
 rw[h] at h1
 obtain⟨_,a',h2,h3,h4,_⟩:=r.mk_from i (Nat.le_of_lt hi) p h1
 have:=r.stat.as2 i a' ha h3 (hk.trans h4.symm)
 omega
theorem cons_from:∀i,i≤l.length→∀κ∈(σ i).cur.cons,∃x,x<i∧isX l x=true∧κ∈ksOf (predsGo ops []) l x:=by
 intro i
 induction i with
 |zero=>intro _ κ h;rw[r.cons0] at h;cases h
 |succ i ih=>
  intro hi κ h
  obtain⟨o,ho⟩:=at_ (show i<l.length from hi)
  by_cases hc:o.op.cls=.X
  ·rw[((r.si i o ho).curX hc).2] at h
   rcases List.mem_append.1 h with h|h
   ·exact⟨i,Nat.lt_succ_self i,(isX_of ho).2 hc,h⟩
   ·obtain⟨x,h1,h2⟩:=ih om κ h
    exact⟨x,om,h2⟩
  ·rw[((r.si i o ho).cur hc).1] at h
   obtain⟨x,h1,h2⟩:=ih om κ h
   exact⟨x,om,h2⟩
theorem heapAt_mem {i:Nat} (hi:i≤l.length){b:Bh}{ks:List Nat}{p:Pd} (hp:p∈(σ i).mks) (hk:p.k∈ks) (hc:p.k∉b.cons):(heapAt b ks (σ i).mks).get p.id=some p.b:=by
 unfold heapAt
 refine puts_mem (mem_selP.2 ⟨hp,hk,hc⟩) (fun q hq he=>?_)
 have hq:=(mem_selP.1 hq).1
 have h1:=(r.mk_from i hi p hp).1
 have h2:=(r.mk_from i hi q hq).1
 have:base+q.k=base+p.k:=path_inj (by rw[←h1,←h2];exact he)
 rw[r.mk_unique i hi q hq p hp om]
omit r in
theorem heapAt_not {mk:List Pd}{b:Bh}{ks:List Nat}{id:Id} (h:∀p∈mk,p.k∈ks→p.k∉b.cons→p.id≠id):(heapAt b ks mk).get id=b.h.get id:=by
 unfold heapAt
 exact puts_not (fun p hp=>let⟨h1,h2,h3⟩:=mem_selP.1 hp;h p h1 h2 h3)
theorem free:∀i,i≤l.length→∀k,k<na→k∉(σ i).cur.cons→(σ i).cur.h.get (path (base+k))=none:=by
 intro i
 induction i with
 |zero=>intro _ k hk _;exact r.free0 k hk
 |succ i ih=>
  intro hi k hk hn
  obtain⟨o,ho⟩:=at_ (show i<l.length from hi)
  have hsi:=r.si i o ho
  by_cases hc:o.op.cls=.X
  ·have hcons:=(hsi.curX hc).2
   generalize hs1:σ (i+1)=s1 at hsi hn hcons⊢
   generalize val i=v1 at hsi
   cases hsi with
   |skip _ hx=>exact absurd hc hx
   |N _ _ _ hx _=>exact absurd (show o.op.cls=_ from hx) (by rw[hc];simp)
   |R _ _ _ hx _=>exact absurd (show o.op.cls=_ from hx) (by rw[hc];simp)
   |A _ _ _ hx _=>exact absurd (show o.op.cls=_ from hx) (by rw[hc];simp)
   |skipX hw _=>
    show(heapAt (σ i).cur _ (σ i).mks).get _=none
    rw[hcons] at hn
    rw[heapAt_not]
    ·exact ih om k hk (fun h=>hn (Lk _ h))
    ·intro p hp hpk _ he
     rw[(r.mk_from i om p hp).1] at he
     have:p.k=k:=by have:=path_inj he;omega
     subst this
     exact hn (Lj _ hpk)
   |X v h' hw _ hr hf=>
    have hf:=freeOf_inv hf k hk
    rw[cat_eq] at hf
    rw[hcons] at hn
    exact hf hn
  ·rw[(hsi.cur hc).1] at hn⊢
   exact ih om k hk hn
theorem cur_const {m i:Nat} (hmi:m≤i) (hi:i≤l.length) (hx:∀x,m≤x→x<i→isX l x=false):(σ i).cur=(σ m).cur:=by
 induction i with
 |zero=>simp only[Nat.le_zero] at hmi;subst hmi;rfl
 |succ i ih=>
  by_cases he:m=i+1
  ·subst he;rfl
  ·obtain⟨o,ho⟩:=at_ (show i<l.length from hi)
   have hc:o.op.cls≠.X:=fun h=>by
    have:=hx i om (Nat.lt_succ_self i)
    rw[(isX_of ho).2 h] at this;cases this
   rw[((r.si i o ho).cur hc).1]
   exact ih om om (fun x h1 h2=>hx x h1 om)
theorem cur_eq {m i:Nat} (hm:m≤l.length) (hi:i≤l.length) (hx:∀x,isX l x=true→(x<m↔x<i)):(σ m).cur=(σ i).cur:=by
 have no:∀(m i:Nat),(∀x,isX l x=true→(x<m↔x<i))→∀x,m≤x→x<i→isX l x=false:=by
  intro m i hx x h1 h2
  cases h:isX l x with
  |false=>rfl
  |true=>have:=(hx x h).2 h2;omega
 rcases Nat.le_total m i with h|h
 ·exact(r.cur_const h hi (no m i hx)).symm
 ·exact r.cur_const h hm (no i m (fun x h=>(hx x h).symm))
theorem hist:∀i,i≤l.length→(hsOf (σ i)).length=cX l i+1∧∀m,m≤i→(hsOf (σ i))[cX l m]? =some (σ m).cur:=by
 intro i
 induction i with
 |zero=>
  intro _
  have h0:hsOf (σ 0)=[(σ 0).cur]:=by unfold hsOf;rw[r.old0];rfl
  have c0:cX l 0=0:=rfl
  refine⟨by rw[h0,c0];rfl,fun m hm=>?_⟩
  have:m=0:=om
  subst this
  rw[h0,c0];rfl
 |succ i ih=>
  intro hi
  obtain⟨h1,h2⟩:=ih om
  obtain⟨o,ho⟩:=at_ (show i<l.length from hi)
  by_cases hc:o.op.cls=.X
  ·have hh:hsOf (σ (i+1))=hsOf (σ i)++[(σ (i+1)).cur]:=by
    unfold hsOf
    rw[((r.si i o ho).curX hc).1,revOnto_eq,revOnto_eq]
    simp
   have hcx:cX l (i+1)=cX l i+1:=by rw[cX_succ,if_pos ((isX_of ho).2 hc)]
   refine⟨by rw[hh,hcx];simp[h1],fun m hm=>?_⟩
   by_cases he:m=i+1
   ·subst he
    rw[hh,hcx,List.getElem?_append_right om,h1]
    simp
   ·have:=cX_mono l (show m≤i by omega)
    rw[hh,List.getElem?_append_left om]
    exact h2 m om
  ·have hnx:isX l i=false:=by
    cases h:isX l i with
    |false=>rfl
    |true=>exact absurd ((isX_of ho).1 h) hc
   have hh:hsOf (σ (i+1))=hsOf (σ i):=by
    unfold hsOf
    rw[((r.si i o ho).cur hc).1,((r.si i o ho).cur hc).2]
   have hcx:cX l (i+1)=cX l i:=by rw[cX_succ,hnx];rfl
   refine⟨by rw[hh,hcx];exact h1,fun m hm=>?_⟩
   by_cases he:m=i+1
   ·subst he
    rw[hh,hcx,((r.si i o ho).cur hc).1]
    exact h2 i (Nr _)
   ·rw[hh];exact h2 m om
end Run
end
end Go.Ev
end
noncomputable section
namespace Go.Ev
section
variable {P:Program}{G:Gs}{call:CallF}{base na nt:Nat}{opsA:Array Oper}{l:List AO}{σ:Nat→DS}{val:Nat→AV}{fr0:T AV}{e0:Env}{a0:Act}
def inS (l:List AO) (S:Nat→Bool) (κ:Nat):Prop:=∃a,S a=true∧isA l a=true∧kOf l a=κ
structure HS (l:List AO) (σ:Nat→DS) (S:Nat→Bool) (m:Nat) (h:H):Prop where
 mom:∀x,isX l x=true→(S x=true↔x<m)
 le:m≤l.length
 next:h.next=(σ m).cur.h.next
 mem:∀p∈(σ l.length).mks,inS l S p.k→p.k∉(σ m).cur.cons→h.get p.id=some p.b
 rest:∀id,(∀p∈(σ l.length).mks,inS l S p.k→p.k∉(σ m).cur.cons→p.id≠id)→h.get id=(σ m).cur.h.get id
structure Inv (G:Gs) (nt:Nat) (l:List AO) (σ:Nat→DS) (val:Nat→AV) (fr0:T AV) (e0:Env) (a0:Act) (S:Nat→Bool) (e:Env) (a:Act):Prop where
 st:St e
 ext:Ext e0 e
 gr:GRel G e
 fr:FrRel e (frS l val fr0 S l.length) a.tmps
 size:a.tmps.size=nt
 defers:a.defers=a0.defers
 hs:∃m,HS l σ S m e.h
theorem inS_add {S:Nat→Bool}{i κ:Nat} (h:inS l (addS S i) κ):inS l S κ∨(isA l i=true∧kOf l i=κ):=by
 obtain⟨a,h1,h2,h3⟩:=h
 unfold addS at h1
 by_cases ha:a=i
 ·subst ha;exact .inr ⟨h2,h3⟩
 ·rw[if_neg ha] at h1;exact .inl ⟨a,h1,h2,h3⟩
theorem inS_mono {S:Nat→Bool}{i κ:Nat} (h:inS l S κ):inS l (addS S i) κ:=by
 obtain⟨a,h1,h2,h3⟩:=h
 refine⟨a,?_,h2,h3⟩
 unfold addS
 split
 ·rfl
 ·exact h1
section
variable (r:Run call base na opsA.toList l σ val) (h00:(σ 0).fr=fr0){S:Nat→Bool} (hS:∀i,S i=true→Direct opsA.toList S i){i:Nat} (hi:i<l.length) (hn:S i=false) (hd:Direct opsA.toList S i)
include r hS hd
theorem pre_in {p:Nat} (h:bfr (predsGo opsA.toList []) p i=true):S p=true:=closed r.stat.edges hS i hd p h
include hn in
theorem not_behind {j:Nat} (hj:S j=true):bfr (predsGo opsA.toList []) i j=false:=by
 cases h:bfr (predsGo opsA.toList []) i j with
 |false=>rfl
 |true=>rw[closed r.stat.edges hS j (hS j hj) i h] at hn;cases hn
include hn hi h00 in
theorem looks_eq {o:AO} (ho:l[i]? =some o){t:List Bool} (ht:t∈o.looks):getV (frS l val fr0 S l.length) t=getV (σ i).fr t:=by
 rw[r.fr_eq fr0 h00 i (Nat.le_of_lt hi)]
 have ext:∀m,i≤m→getV (frS l val fr0 (fun j=>decide (j<i)) m) t=getV (frS l val fr0 (fun j=>decide (j<i)) i) t:=by
  intro m hm
  induction m with
  |zero=>have:i=0:=om
         subst this;rfl
  |succ m ih=>
   by_cases he:i=m+1
   ·rw[he]
   ·simp only[frS]
    rw[if_neg (by simp;omega)]
    exact ih om
 rw[←ext l.length (Nat.le_of_lt hi)]
 refine frS_agree (fun j hj hdj=>?_)
 by_cases hji:j=i
 ·subst hji;rw[hn];simp
 ·rcases r.stat.tmps i o t j ho (.inl ht) (Ne.symm hji) hdj with h|h
  ·have hlt:=r.lt h
   have:S j=false:=by
    cases hSj:S j with
    |false=>rfl
    |true=>rw[not_behind r hS hn hd hSj] at h;cases h
   rw[this];simp;omega
  ·rw[pre_in r hS hd h]
   have:=r.lt h
   simp[this]
include hn hi h00 in
theorem op_eq {o:AO} (ho:l[i]? =some o) (cl:CallF) (h:H) (id:Nat):evOp cl o.op (frS l val fr0 S l.length) h id=evOp cl o.op (σ i).fr h id:=by
 apply evOp_congr
 intro x hx
 cases x with
 |c v=>rfl
 |t p=>
  show getV _ p=getV _ p
  refine looks_eq r h00 hS hi hn hd ho ?_
  unfold AO.looks
  rw[List.mem_append]
  left
  rw[List.mem_flatMap]
  exact⟨_,hx,by simp[slotOf]⟩
include hn hi h00 in
theorem wanted_eq {o:AO} (ho:l[i]? =some o):wanted o.g (frS l val fr0 S l.length)=wanted o.g (σ i).fr:=by
 cases hg:o.g with
 |none=>rfl
 |some q=>
  show isB (getV _ q.1) q.2=isB (getV _ q.1) q.2
  rw[looks_eq r h00 hS hi hn hd ho (t:=q.1)]
  unfold AO.looks
  rw[List.mem_append]
  right
  rw[hg];simp
include hn in
theorem frame_add (hi:i<l.length){o:AO} (ho:l[i]? =some o) (q:List Bool):getV (frS l val fr0 (addS S i) l.length) q=getV (setD o.dst (val i) (frS l val fr0 S l.length)) q:=by
 have:=frS_add (l:=l) (val:=val) (fr0:=fr0) (S:=S) (i:=i) hn (fun j t hj h1 h2=>by
  by_cases hji:j=i
  ·subst hji;rw[hn] at hj;cases hj
  ·rcases r.stat.tmps i o t j ho (.inr (by rw[←dstOf_of ho];exact h1)) (Ne.symm hji) h2 with h|h
   ·rw[not_behind r hS hn hd hj] at h;cases h
   ·exact r.lt h) q l.length
 rw[this,if_pos hi,dstOf_of ho]
theorem HS.same {m:Nat}{h:H} (hh:HS l σ S m h){o:AO} (ho:l[i]? =some o) (hx:isX l i=false) (hm:(σ (i+1)).mks=(σ i).mks):HS l σ (addS S i) m h where
 mom:=fun x hxx=>by
  unfold addS
  by_cases he:x=i
  ·subst he;rw[hx] at hxx;cases hxx
  ·rw[if_neg he];exact hh.mom x hxx
 le:=hh.le
 next:=hh.next
 mem:=fun p hp hin hc=>by
  rcases inS_add hin with h1|⟨h1,h2⟩
  ·exact hh.mem p hp h1 hc
  ·exact absurd h2 (r.mk_none ho hm hp h1)
 rest:=fun id hid=>hh.rest id (fun p hp hin hc=>hid p hp (inS_mono hin) hc)
include hn in
theorem mom_X {m:Nat}{h:H} (hh:HS l σ S m h) (hx:isX l i=true):∀x,isX l x=true→(x<m↔x<i):=by
 intro x hxx
 rw[←hh.mom x hxx]
 constructor
 ·intro hSx
  by_cases he:x=i
  ·subst he;rw[hn] at hSx;cases hSx
  ·rcases r.stat.xs x i hxx hx he with h|h
   ·exact r.lt h
   ·rw[not_behind r hS hn hd hSx] at h;cases h
 ·intro hlt
  rcases r.stat.xs x i hxx hx om with h|h
  ·exact pre_in r hS hd h
  ·have:=r.lt h;omega
include hn in
theorem cons_not {m:Nat}{h:H} (hh:HS l σ S m h) (ha:isA l i=true):kOf l i∉(σ m).cur.cons:=by
 intro hc
 obtain⟨x,h1,h2,h3⟩:=r.cons_from m hh.le _ hc
 obtain⟨a,h4,h5,h6⟩:=mem_ksOf.1 h3
 have:=r.stat.as2 a i h4 ha h6
 subst this
 rw[not_behind r hS hn hd ((hh.mom x h2).2 h1)] at h5;cases h5
end
end
end Go.Ev
namespace Go.Ev
theorem chk1_inv {hs:List Bh}{mk:List Pd}{rd:Rd}:∀{js:List Nat},chk1 hs mk rd js=true→∀j∈js,∃b,hs[j]? =some b∧∃h',evOp noCall rd.o rd.fr (heapAt b rd.ks mk) 0=.ok rd.v h'
 |[],_,j,hj=>by cases hj
 |j0::js,h,j,hj=>by
  have h:(Option.rec false (fun b=>R.rec false (fun a _=>cd (sameA a rd.v) (chk1 hs mk rd js) false) (evOp noCall rd.o rd.fr (heapAt b rd.ks mk) 0)) (nth hs j0):Bool)=true:=h
  cases hn:nth hs j0 with
  |none=>rw[hn] at h;cases h
  |some b=>
   rw[hn] at h
   have h:(R.rec false (fun a _=>cd (sameA a rd.v) (chk1 hs mk rd js) false) (evOp noCall rd.o rd.fr (heapAt b rd.ks mk) 0):Bool)=true:=h
   cases hr:evOp noCall rd.o rd.fr (heapAt b rd.ks mk) 0 with
   |no=>rw[hr] at h;cases h
   |ok a h'=>
    rw[hr] at h
    obtain⟨h1,h2⟩:=cd_true (show cd (sameA a rd.v) (chk1 hs mk rd js) false=true from h)
    rcases List.mem_cons.1 hj with rfl|hj
    ·refine⟨b,by rw[←nth_eq];exact hn,h',?_⟩
     rw[hr,sameA_eq h1]
    ·exact chk1_inv h2 j hj
theorem chkAll_inv {hs:List Bh}{mk:List Pd}:∀{rs:List Rd},chkAll hs mk rs=true→∀rd∈rs,chk1 hs mk rd rd.js=true
 |[],_,rd,h=>by cases h
 |r0::rs,h,rd,hr=>by
  obtain⟨h1,h2⟩:=cd_true (show cd (chk1 hs mk r0 r0.js) (chkAll hs mk rs) false=true from h)
  rcases List.mem_cons.1 hr with rfl|hr
  ·exact h1
  ·exact chkAll_inv h2 rd hr
section
variable {P:Program}{G:Gs}{call:CallF}{base na nt:Nat}{opsA:Array Oper}{l:List AO}{σ:Nat→DS}{val:Nat→AV}{fr0:T AV}{e0:Env}{a0:Act}{Q:Exit→Act→World→Prop}
theorem step_any (hk:CallOK P G call) (r:Run call base na opsA.toList l σ val) (h00:(σ 0).fr=fr0)
 (hio:∀(i:Nat) (ao:AO),l[i]? =some ao→∃o,opsA[i]? =some o∧IsO P G nt opsA ao o) (hlo:e0.F.lo≤base) (hnx:base+na≤e0.h.next)
 (hchk:chkAll (hsOf (σ l.length)) (σ l.length).mks (σ l.length).rs=true)
 {S:Nat→Bool} (hS:∀i,S i=true→Direct opsA.toList S i){i:Nat} (hi:i<l.length) (hn:S i=false) (hd:Direct opsA.toList S i){e:Env}{a:Act}
 (inv:Inv G nt l σ val fr0 e0 a0 S e a) (K:Act→World→Prop) (hK:∀e' a',Inv G nt l σ val fr0 e0 a0 (addS S i) e' a'→K a' e'.w):wpOp P opsA Q i K a e.w:=by
 obtain⟨ao,ho⟩:=at_ hi
 obtain⟨o,hoo,hio'⟩:=hio i ao ho
 obtain⟨m,hh⟩:=inv.hs
 have hlo':e.F.lo≤base:=by rw[inv.ext.fr];exact hlo
 have hnx':base+na≤e.h.next:=Nt hnx inv.ext.next
 have hwe:=wanted_eq r h00 hS hi hn hd ho
 have hop:=op_eq r h00 hS hi hn hd ho
 have hfa:=frame_add (fr0:=fr0) r hS hn hd hi ho
 have hdst:ao.dst=o.dst.map mkPath:=by obtain⟨k,rfl⟩:=hio';rfl
 have hsi:=r.si i ao ho
 have fin:∀(e':Env) (cv:Value),St e'→Ext e e'→Rel e' (val i) cv→(∀d,o.dst=some d→d<nt)→(∃m,HS l σ (addS S i) m e'.h)→Inv G nt l σ val fr0 e0 a0 (addS S i) e' (a.put o.dst cv):=by
  intro e' cv hs' hx' hv' hdb hm'
  refine⟨hs',inv.ext.trans hx',inv.gr.ext hx',fun k=>?_,by rw[put_size];exact inv.size,by rw[put_defers];exact inv.defers,hm'⟩
  rw[hfa,hdst]
  exact FrRel.put (inv.fr.ext hx') (fun k hk=>by rw[inv.size];exact hdb k hk) hv' k
 have finSkip:val i=undefA→(∃m,HS l σ (addS S i) m e.h)→Inv G nt l σ val fr0 e0 a0 (addS S i) e (a.put o.dst undef):=by
  intro hv hm'
  refine⟨inv.st,inv.ext,inv.gr,fun k=>?_,by rw[put_size];exact inv.size,by rw[put_defers];exact inv.defers,hm'⟩
  rw[hfa,hdst,hv]
  exact inv.fr.put_undef o.dst k
 have notIn:∀κ,isA l i=true→kOf l i=κ→¬inS l S κ:=by
  rintro κ ha rfl ⟨b,h1,h2,h3⟩
  have:=r.stat.as2 b i h2 ha h3
  subst this
  rw[hn] at h1;cases h1
 have ksIn:∀κ,κ∈ksOf (predsGo opsA.toList []) l i→inS l S κ:=fun κ h=>by
  obtain⟨b,h1,h2,h3⟩:=mem_ksOf.1 h
  exact⟨b,pre_in r hS hd h2,h1,h3⟩
 have knum:∀j,j≤l.length→∀p∈(σ j).mks,p.k<na:=fun j hj p hp=>by
  obtain⟨_,b,_,h1,h2,_⟩:=r.mk_from j hj p hp
  rw[←h2];exact r.stat.as_ b h1
 have sub_at:∀j,j≤l.length→Sub (heapAt (σ m).cur (ksOf (predsGo opsA.toList []) l i) (σ j).mks) e.h:=by
  intro j hj id b hb
  by_cases hex:∃p∈(σ j).mks,p.k∈ksOf (predsGo opsA.toList []) l i∧p.k∉(σ m).cur.cons∧p.id=id
  ·obtain⟨p,hp,h1,h2,rfl⟩:=hex
   rw[r.heapAt_mem hj hp h1 h2] at hb
   obtain rfl:=Oi hb
   exact hh.mem p (r.mk_mono hj (Nr _) p hp) (ksIn _ h1) h2
  ·rw[Run.heapAt_not (fun p hp h1 h2 he=>hex ⟨p,hp,h1,h2,he⟩)] at hb
   rw[hh.rest id]
   ·exact hb
   ·rintro p hp h1 h2 rfl
    rw[(r.mk_from _ (Nr _) p hp).1,r.free m hh.le p.k (knum _ (Nr _) p hp) h2] at hb
    cases hb
 unfold wpOp
 rw[hoo]
 simp only[]
 generalize hs1:σ (i+1)=s1 at hsi
 generalize hv1:val i=v1 at hsi
 cases hsi with
 |skip hw hc=>
  have hc:ao.op.cls≠.X:=hc
  have hw:wanted ao.g (σ i).fr=some false:=hw
  rw[←hwe] at hw
  rw[wanted_inv hio' inv.fr inv.size hw,if_neg (by simp)]
  have hx:isX l i=false:=by
   cases h:isX l i with
   |false=>rfl
   |true=>exact absurd ((isX_of ho).1 h) hc
  exact hK _ _ (finSkip hv1 ⟨m,HS.same r hS hd hh ho hx (by rw[hs1];rfl)⟩)
 |skipX hw hc=>
  have hc:ao.op.cls=.X:=hc
  have hw:wanted ao.g (σ i).fr=some false:=hw
  rw[←hwe] at hw
  rw[wanted_inv hio' inv.fr inv.size hw,if_neg (by simp)]
  have hx:isX l i=true:=(isX_of ho).2 hc
  have hmx:=mom_X r hS hn hd hh hx
  have hcur:(σ m).cur=(σ i).cur:=r.cur_eq hh.le (Nat.le_of_lt hi) hmx
  refine hK _ _ (finSkip hv1 ⟨i+1,?_⟩)
  have hc1:(σ (i+1)).cur=⟨heapAt (σ i).cur (ksOf (predsGo opsA.toList []) l i) (σ i).mks,cat (ksOf (predsGo opsA.toList []) l i) (σ i).cur.cons⟩:=by rw[hs1];rfl
  refine⟨?_,hi,?_,?_,?_⟩
  ·intro x hxx
   unfold addS
   by_cases he:x=i
   ·subst he;simp
   ·rw[if_neg he,hh.mom x hxx,hmx x hxx];omega
  ·rw[hc1,hh.next,hcur]
   exact(puts_next _ _).symm
  ·intro p hp hin hcs
   rw[hc1,cat_eq] at hcs
   rcases inS_add hin with h1|⟨h1,_⟩
   ·exact hh.mem p hp h1 (by rw[hcur];exact fun h=>hcs (Lk _ h))
   ·rw[isA_of ho] at h1;rw[show ao.op.cls=.X from hc] at h1;cases h1
  ·intro id hid
   rw[hc1]
   show e.h.get id=(heapAt (σ i).cur _ (σ i).mks).get id
   by_cases hex:∃p∈(σ i).mks,p.k∈ksOf (predsGo opsA.toList []) l i∧p.k∉(σ i).cur.cons∧p.id=id
   ·obtain⟨p,hp,h1,h2,rfl⟩:=hex
    rw[r.heapAt_mem (Nat.le_of_lt hi) hp h1 h2]
    exact hh.mem p (r.mk_mono (Nat.le_of_lt hi) (Nr _) p hp) (ksIn _ h1) (by rw[hcur];exact h2)
   ·rw[Run.heapAt_not (fun p hp h1 h2 he=>hex ⟨p,hp,h1,h2,he⟩),←hcur]
    refine hh.rest id (fun p hp hin hcs he=>?_)
    by_cases hpk:p.k∈ksOf (predsGo opsA.toList []) l i
    ·obtain⟨b,h1,h2,h3⟩:=mem_ksOf.1 hpk
     exact hex ⟨p,r.mk_at (Nat.le_of_lt hi) hp h1 h3 (r.lt h2),hpk,by rw[←hcur];exact hcs,he⟩
    ·refine hid p hp (inS_mono hin) ?_ he
     rw[hc1,cat_eq]
     intro h
     rcases List.mem_append.1 h with h|h
     ·exact hpk h
     ·exact hcs (by rw[hcur];exact h)
 |N v1 h' hw hc hr=>
  have hc:ao.op.cls=.N:=hc
  have hw:wanted ao.g (σ i).fr=some true:=hw
  rw[←hwe] at hw
  rw[wanted_inv hio' inv.fr inv.size hw,if_pos rfl]
  left
  have hr2:evOp call ao.op (frS l val fr0 S l.length) e.h (base+ao.k)=.ok v1 e.h:=by
   rw[hop];exact(evOp_N hc hr).2 _ _ _
  obtain⟨hcp,hdb,_⟩:=op_of hio' hr2
  have hx:isX l i=false:=by
   cases h:isX l i with
   |false=>rfl
   |true=>rw[(isX_of ho).1 h] at hc;cases hc
  refine sound_op (o:=o) hk inv.st (Nt hlo' (Nat.le_add_right _ _)) inv.fr inv.gr hcp hr2 _ _ (fun cv e' he' hs' hx' hv'=>?_)
  exact hK _ _ (fin e' cv hs' hx' (by rw[hv1];exact hv') hdb ⟨m,by rw[he'];exact HS.same r hS hd hh ho hx (by rw[hs1];rfl)⟩)
 |R v1 h' hw hc hr=>
  have hc:ao.op.cls=.R:=hc
  have hw:wanted ao.g (σ i).fr=some true:=hw
  rw[←hwe] at hw
  rw[wanted_inv hio' inv.fr inv.size hw,if_pos rfl]
  left
  have hr:evOp call ao.op (σ i).fr (heapAt (σ i).cur (ksOf (predsGo opsA.toList []) l i) (σ i).mks) (base+ao.k)=.ok v1 h':=hr
  have hr2:evOp call ao.op (frS l val fr0 S l.length) e.h (base+ao.k)=.ok v1 e.h:=by
   rw[hop]
   by_cases hcx:cX l m=cX l i
   ·have hcur:(σ m).cur=(σ i).cur:=r.cur_eq hh.le (Nat.le_of_lt hi) (fun x hxx=>by rw[←cX_lt hxx,←cX_lt hxx,hcx])
    rw[←hcur] at hr
    exact(evOp_R hc hr).2 _ _ _ (sub_at i (Nat.le_of_lt hi))
   ·have hjs:cX l m∈(doOf (predsGo opsA.toList []) l ao i).js:=by
     unfold doOf isR
     have:(ao.op.cls==Cls.R)=true:=by rw[show ao.op.cls=.R from hc];rfl
     simp only[this,if_true]
     rw[List.mem_filter]
     refine⟨?_,by simpa using hcx⟩
     unfold jsOf
     rw[List.mem_filter]
     refine⟨List.mem_range.2 (Nat.lt_succ_of_le (cX_mono l hh.le)),?_⟩
     rw[List.all_eq_true]
     intro x hx
     cases hxx:isX l x with
     |false=>rfl
     |true=>
      simp only[Bool.not_true,Bool.false_or]
      by_cases hxm:x<m
      ·rw[if_pos ((cX_lt hxx).2 hxm),not_behind r hS hn hd ((hh.mom x hxx).2 hxm)];rfl
      ·rw[if_neg (fun h=>hxm ((cX_lt hxx).1 h))]
       cases hb:bfr (predsGo opsA.toList []) x i with
       |false=>rfl
       |true=>exact absurd ((hh.mom x hxx).1 (pre_in r hS hd hb)) hxm
    have hrec:(⟨ao.op,(σ i).fr,v1,ksOf (predsGo opsA.toList []) l i,(doOf (predsGo opsA.toList []) l ao i).js⟩:Rd)∈(σ l.length).rs:=by
     refine r.rs_mono (show i+1≤l.length from hi) (Nr _) _ ?_
     rw[hs1]
     show _∈(List.rec (σ i).rs (fun _ _ _=>(⟨ao.op,(σ i).fr,v1,ksOf (predsGo opsA.toList []) l i,(doOf (predsGo opsA.toList []) l ao i).js⟩:Rd)::(σ i).rs) (doOf (predsGo opsA.toList []) l ao i).js:List Rd)
     cases hj:(doOf (predsGo opsA.toList []) l ao i).js with
     |nil=>rw[hj] at hjs;cases hjs
     |cons j js=>exact Mc ..
    obtain⟨b,hb,h2,hr3⟩:=chk1_inv (chkAll_inv hchk _ hrec) _ hjs
    rw[(r.hist _ (Nr _)).2 m hh.le] at hb
    obtain rfl:=Oi hb
    exact(evOp_R hc hr3).2 _ _ _ (sub_at _ (Nr _))
  obtain⟨hcp,hdb,_⟩:=op_of hio' hr2
  have hx:isX l i=false:=by
   cases h:isX l i with
   |false=>rfl
   |true=>rw[(isX_of ho).1 h] at hc;cases hc
  refine sound_op (o:=o) hk inv.st (Nt hlo' (Nat.le_add_right _ _)) inv.fr inv.gr hcp hr2 _ _ (fun cv e' he' hs' hx' hv'=>?_)
  exact hK _ _ (fin e' cv hs' hx' (by rw[hv1];exact hv') hdb ⟨m,by rw[he'];exact HS.same r hS hd hh ho hx (by rw[hs1];rfl)⟩)
 |A v1 h' hw hc hr=>
  have hc:ao.op.cls=.A:=hc
  have hw:wanted ao.g (σ i).fr=some true:=hw
  rw[←hwe] at hw
  rw[wanted_inv hio' inv.fr inv.size hw,if_pos rfl]
  left
  have hr:evOp call ao.op (σ i).fr ⟨(σ i).cur.h.next,.e⟩ (base+ao.k)=.ok v1 h':=hr
  have hA:isA l i=true:=(isA_of ho).2 hc
  have hk1:kOf l i=ao.k:=kOf_of ho
  have hkna:ao.k<na:=by rw[←hk1];exact r.stat.as_ i hA
  have hcn:ao.k∉(σ m).cur.cons:=by rw[←hk1];exact cons_not r hS hn hd hh hA
  have notP:∀p∈(σ l.length).mks,inS l S p.k→p.id≠path (base+ao.k):=fun p hp hin he=>by
   rw[(r.mk_from _ (Nr _) p hp).1] at he
   have:p.k=ao.k:=by have:=path_inj he;omega
   rw[this] at hin
   exact notIn _ hA hk1 hin
  have hfree:e.h.get (path (base+ao.k))=none:=by
   rw[hh.rest _ (fun p hp hin _=>notP p hp hin)]
   exact r.free m hh.le ao.k hkna hcn
  have hr2:evOp call ao.op (frS l val fr0 S l.length) e.h (base+ao.k)=.ok v1 (mkH e.h (base+ao.k) (h'.get (path (base+ao.k)))):=by
   rw[hop];exact evOp_A hc hr call e.h om hfree
  obtain⟨hcp,hdb,_⟩:=op_of hio' hr2
  have hx:isX l i=false:=by
   cases h:isX l i with
   |false=>rfl
   |true=>rw[(isX_of ho).1 h] at hc;cases hc
  refine sound_op (o:=o) hk inv.st (Nt hlo' (Nat.le_add_right _ _)) inv.fr inv.gr hcp hr2 _ _ (fun cv e' he' hs' hx' hv'=>?_)
  refine hK _ _ (fin e' cv hs' hx' (by rw[hv1];exact hv') hdb ⟨m,?_⟩)
  rw[he']
  have hmk1:(σ (i+1)).mks=(Option.rec (σ i).mks (fun b=>(⟨ao.k,path (base+ao.k),b⟩:Pd)::(σ i).mks) (h'.get (path (base+ao.k))):List Pd):=by rw[hs1];rfl
  cases hg:h'.get (path (base+ao.k)) with
  |none=>
   rw[hg] at hmk1
   exact HS.same r hS hd hh ho hx hmk1
  |some b=>
   rw[hg] at hmk1
   have hnew:(⟨ao.k,path (base+ao.k),b⟩:Pd)∈(σ l.length).mks:=by
    refine r.mk_mono (show i+1≤l.length from hi) (Nr _) _ ?_
    rw[hmk1];exact Mc ..
   have hin':inS l (addS S i) ao.k:=⟨i,by simp[addS],hA,hk1⟩
   refine⟨?_,hh.le,hh.next,?_,?_⟩
   ·intro x hxx
    unfold addS
    by_cases he:x=i
    ·subst he;rw[hx] at hxx;cases hxx
    ·rw[if_neg he];exact hh.mom x hxx
   ·intro p hp hin hcs
    show(e.h.put (path (base+ao.k)) b).get p.id=some p.b
    rw[H.get_put]
    rcases inS_add hin with h1|⟨_,h1⟩
    ·rw[if_neg (notP p hp h1)]
     exact hh.mem p hp h1 hcs
    ·have:=r.mk_unique _ (Nr _) p hp _ hnew (by rw[←h1];exact hk1)
     subst this
     rw[if_pos rfl]
   ·intro id hid
    show(e.h.put (path (base+ao.k)) b).get id=_
    rw[H.get_put,if_neg (fun he=>hid _ hnew hin' hcn he.symm)]
    exact hh.rest id (fun p hp hin hcs=>hid p hp (inS_mono hin) hcs)
 |X v1 h' hw hc hr hf=>
  have hc:ao.op.cls=.X:=hc
  have hw:wanted ao.g (σ i).fr=some true:=hw
  rw[←hwe] at hw
  rw[wanted_inv hio' inv.fr inv.size hw,if_pos rfl]
  left
  have hr:evOp call ao.op (σ i).fr (heapAt (σ i).cur (ksOf (predsGo opsA.toList []) l i) (σ i).mks) (base+na)=.ok v1 h':=hr
  have hx:isX l i=true:=(isX_of ho).2 hc
  have hmx:=mom_X r hS hn hd hh hx
  have hcur:(σ m).cur=(σ i).cur:=r.cur_eq hh.le (Nat.le_of_lt hi) hmx
  have hr2:evOp call ao.op (frS l val fr0 S l.length) (heapAt (σ i).cur (ksOf (predsGo opsA.toList []) l i) (σ i).mks) (base+na)=.ok v1 h':=by rw[hop];exact hr
  obtain⟨hcp,hdb,_⟩:=op_of hio' hr2
  let inB:Nat→Bool:=fun κ=>(List.range l.length).any fun b=>S b&&isA l b&&(kOf l b==κ)
  have inB_iff:∀κ,inB κ=true↔inS l S κ:=fun κ=>by
   simp only[inB,List.any_eq_true,List.mem_range,Bool.and_eq_true,beq_iff_eq]
   constructor
   ·rintro ⟨b,_,⟨h1,h2⟩,h3⟩;exact⟨b,h1,h2,h3⟩
   ·rintro ⟨b,h1,h2,h3⟩;exact⟨b,isA_lt h2,⟨h1,h2⟩,h3⟩
  let X:List Pd:=(σ l.length).mks.filter fun p=>inB p.k&&(!natIn p.k (σ i).cur.cons&& !natIn p.k (ksOf (predsGo opsA.toList []) l i))
  have memX:∀p,p∈X↔p∈(σ l.length).mks∧inS l S p.k∧p.k∉(σ i).cur.cons∧p.k∉ksOf (predsGo opsA.toList []) l i:=fun p=>by
   simp only[X,List.mem_filter,Bool.and_eq_true,inB_iff,Bool.not_eq_true',←Bool.not_eq_true,natIn_iff]
  have uniqX:∀p∈X,∀q∈X,q.id=p.id→q.b=p.b:=fun p hp q hq he=>by
   have hp:=((memX p).1 hp).1
   have hq:=((memX q).1 hq).1
   rw[(r.mk_from _ (Nr _) p hp).1,(r.mk_from _ (Nr _) q hq).1] at he
   have:=path_inj he
   rw[r.mk_unique _ (Nr _) q hq p hp om]
  have hpart:Part e.h (heapAt (σ i).cur (ksOf (predsGo opsA.toList []) l i) (σ i).mks) X (base+na):={
   next:=by rw[hh.next,hcur];exact puts_next _ _
   out:=fun p hp=>by
    obtain⟨h1,h2,h3,h4⟩:=(memX p).1 hp
    have hpid:=(r.mk_from _ (Nr _) p h1).1
    have hpn:=knum _ (Nr _) p h1
    refine⟨hh.mem p h1 h2 (by rw[hcur];exact h3),?_,base+p.k,om,hpid⟩
    rw[Run.heapAt_not,hpid]
    ·exact r.free i (Nat.le_of_lt hi) p.k hpn h3
    ·intro q hq hq1 hq2 he
     rw[(r.mk_from i (Nat.le_of_lt hi) q hq).1,hpid] at he
     have:q.k=p.k:=by have:=path_inj he;omega
     rw[this] at hq1;exact h4 hq1
   rest:=fun id hid=>by
    by_cases hex:∃p∈(σ i).mks,p.k∈ksOf (predsGo opsA.toList []) l i∧p.k∉(σ i).cur.cons∧p.id=id
    ·obtain⟨p,hp,h1,h2,rfl⟩:=hex
     rw[r.heapAt_mem (Nat.le_of_lt hi) hp h1 h2]
     exact(hh.mem p (r.mk_mono (Nat.le_of_lt hi) (Nr _) p hp) (ksIn _ h1) (by rw[hcur];exact h2)).symm
    ·rw[Run.heapAt_not (fun p hp h1 h2 he=>hex ⟨p,hp,h1,h2,he⟩),←hcur]
     refine(hh.rest id (fun p hp hin hcs he=>?_)).symm
     by_cases hpk:p.k∈ksOf (predsGo opsA.toList []) l i
     ·obtain⟨b,h1,h2,h3⟩:=mem_ksOf.1 hpk
      exact hex ⟨p,r.mk_at (Nat.le_of_lt hi) hp h1 h3 (r.lt h2),hpk,by rw[←hcur];exact hcs,he⟩
     ·exact hid p ((memX p).2 ⟨hp,hin,by rw[←hcur];exact hcs,hpk⟩) he
   lo:=hnx'}
  have hOp:OpS P o e a v1 (puts X h'):=OpS.framed (lo:=base+na) inv.st (Nt hlo' (Nat.le_add_right _ _)) hpart uniqX (fun e1 he1 hw1 hlo1 hB1 hs1' hrel=>by
   rw[←he1] at hr2
   exact sound_op (o:=o) hk hs1' (by rw[hlo1];exact Nr _) (fun k=>hrel _ _ (inv.fr k)) ⟨hB1.trans inv.gr.1,fun g cs hg=>⟨hrel _ _ (inv.gr.2.1 g cs hg).1,by rw[hw1];exact(inv.gr.2.1 g cs hg).2⟩,fun g hg=>let⟨m,hm⟩:=inv.gr.2.2.1 g hg;⟨m,hrel _ _ hm⟩,fun g hg=>let⟨h1,v,h2,h3⟩:=inv.gr.2.2.2 g hg;⟨hrel _ _ h1,v,by rw[hw1];exact h2,h3⟩⟩ hcp hr2)
  refine hOp _ _ (fun cv e' he' hs' hx' hv'=>?_)
  refine hK _ _ (fin e' cv hs' hx' (by rw[hv1];exact hv') hdb ⟨i+1,?_⟩)
  rw[he']
  have hc1:(σ (i+1)).cur=⟨h',cat (ksOf (predsGo opsA.toList []) l i) (σ i).cur.cons⟩:=by rw[hs1];rfl
  refine⟨?_,hi,?_,?_,?_⟩
  ·intro x hxx
   unfold addS
   by_cases he:x=i
   ·subst he;simp
   ·rw[if_neg he,hh.mom x hxx,hmx x hxx];omega
  ·rw[hc1,puts_next]
  ·intro p hp hin hcs
   rw[hc1,cat_eq] at hcs
   rcases inS_add hin with h1|⟨h1,_⟩
   ·have hpX:p∈X:=(memX p).2 ⟨hp,h1,fun h=>hcs (Lk _ h),fun h=>hcs (Lj _ h)⟩
    exact puts_mem hpX (uniqX p hpX)
   ·rw[isA_of ho] at h1;rw[show ao.op.cls=.X from hc] at h1;cases h1
  ·intro id hid
   rw[hc1]
   refine puts_not (fun p hpX=>?_)
   obtain⟨h1,h2,h3,h4⟩:=(memX p).1 hpX
   refine hid p h1 (inS_mono h2) ?_
   rw[hc1,cat_eq]
   intro h
   rcases List.mem_append.1 h with h|h
   ·exact h4 h
   ·exact h3 h
theorem ready_iff {listed:Array Bool}{i:Nat}:i∈Region.ready .any opsA listed↔i<opsA.size∧listed.getD i true=false∧∀o,opsA[i]? =some o→∀e∈o.after.toList,Region.binds .any e=true→listed.getD e.on false=true:=by
 unfold Region.ready
 rw[List.mem_filter,List.mem_range]
 constructor
 ·rintro ⟨h1,h2⟩
  rw[Bool.and_eq_true] at h2
  refine⟨h1,by simpa using h2.1,fun o ho e he hb=>?_⟩
  have h3:=h2.2
  rw[ho] at h3
  simp only[Option.map_some,Option.getD_some] at h3
  rw[Array.all_eq_true'] at h3
  have:=h3 e (by simpa using he)
  rw[Bool.or_eq_true] at this
  rcases this with h|h
  ·rw[hb] at h;cases h
  ·exact h
 ·rintro ⟨h1,h2,h3⟩
  refine⟨h1,?_⟩
  rw[Bool.and_eq_true]
  refine⟨by simpa using h2,?_⟩
  obtain⟨o,ho⟩:∃o,opsA[i]? =some o:=⟨_,Aq h1⟩
  rw[ho]
  simp only[Option.map_some,Option.getD_some]
  rw[Array.all_eq_true']
  intro e he
  cases hb:Region.binds .any e with
  |false=>rfl
  |true=>simp[h3 o ho e (by simpa using he) hb]
end
end Go.Ev
namespace Go.Ev
section
variable {P:Program}{G:Gs}{call:CallF}{base na nt:Nat}{opsA:Array Oper}{l:List AO}{σ:Nat→DS}{val:Nat→AV}{fr0:T AV}{e0:Env}{a0:Act}{Q:Exit→Act→World→Prop}
def undone (listed:Array Bool):Nat:=listed.toList.countP (fun b=> !b)
theorem undone_set {listed:Array Bool}{i:Nat} (h:i<listed.size) (hf:listed[i]? =some false):undone (listed.setIfInBounds i true)+1=undone listed:=by
 unfold undone
 have hl:i<listed.toList.length:=by simpa using h
 have hg:listed.toList[i]? =some false:=by simpa using hf
 have e1:(listed.setIfInBounds i true).toList=listed.toList.set i true:=by simp
 rw[e1]
 generalize listed.toList=L at hl hg
 clear e1 hf h
 induction L generalizing i with
 |nil=>simp at hl
 |cons x L ih=>
  cases i with
  |zero=>
   simp only[List.getElem?_cons_zero,Oj] at hg
   subst hg
   simp[List.countP_cons]
  |succ i=>
   have:=ih (i:=i) (by simpa using hl) (by simpa using hg)
   simp only[List.set_cons_succ,List.countP_cons]
   omega
theorem undone_zero {listed:Array Bool} (h:undone listed=0){i:Nat} (hi:i<listed.size):listed.getD i true=true:=by
 unfold undone at h
 rw[List.countP_eq_zero] at h
 rw[Ag,Aq hi]
 have:=h listed[i] (by simp)
 simpa using this
def doneOf (listed:Array Bool):Nat→Bool:=fun i=>listed.getD i false
theorem doneOf_set {listed:Array Bool}{i:Nat} (h:i<listed.size):doneOf (listed.setIfInBounds i true)=addS (doneOf listed) i:=by
 funext j
 unfold doneOf addS
 rw[Ag]
 by_cases hj:j=i
 ·subst hj;rw[if_pos rfl,Array.getElem?_setIfInBounds_self_of_lt h];rfl
 ·rw[if_neg hj,Array.getElem?_setIfInBounds_ne (Ne.symm hj),←Ag]
theorem any_sound (hk:CallOK P G call) (r:Run call base na opsA.toList l σ val) (h00:(σ 0).fr=fr0)
 (hio:∀(i:Nat) (ao:AO),l[i]? =some ao→∃o,opsA[i]? =some o∧IsO P G nt opsA ao o) (hlo:e0.F.lo≤base) (hnx:base+na≤e0.h.next)
 (hchk:chkAll (hsOf (σ l.length)) (σ l.length).mks (σ l.length).rs=true)
 (hQ:∀S e a,(∀i,i<l.length→S i=true)→Inv G nt l σ val fr0 e0 a0 S e a→Q .normal a e.w):
 ∀(fuel:Nat) (listed:Array Bool) (e:Env) (a:Act),listed.size=l.length→undone listed=fuel→(∀i,doneOf listed i=true→Direct opsA.toList (doneOf listed) i)→
  Inv G nt l σ val fr0 e0 a0 (doneOf listed) e a→wpAny P .any opsA Q fuel listed a e.w:=by
 have hsz:opsA.size=l.length:=by rw[r.stat.len];simp
 intro fuel
 induction fuel with
 |zero=>
  intro listed e a hl hu hS inv
  have all:∀i,i<l.length→listed.getD i true=true:=fun i hi=>undone_zero hu om
  refine⟨?_,hQ _ e a (fun i hi=>?_) inv⟩
  ·rw[List.eq_nil_iff_forall_not_mem]
   intro i hi
   obtain⟨h1,h2,_⟩:=ready_iff.1 hi
   rw[all i om] at h2;cases h2
  ·have:=all i hi
   unfold doneOf
   rw[Ag,Aq om] at this⊢
   exact this
 |succ fuel ih=>
  intro listed e a hl hu hS inv
  refine⟨fun hnil=>?_,fun i hi=>?_⟩
  ·
   refine hQ _ e a ?_ inv
   intro i
   induction i using Nat.strongRecOn with
   |_ i ihi=>
    intro hi
    cases hdn:doneOf listed i with
    |true=>rfl
    |false=>
     exfalso
     have:i∈Region.ready .any opsA listed:=by
      rw[ready_iff]
      refine⟨om,?_,fun o ho e' he' hb=>?_⟩
      ·unfold doneOf at hdn
       rw[Ag,Aq om] at hdn⊢
       exact hdn
      ·have hlt:=edge_lt r.stat.edges (i:=i) (o:=o) (by simpa using ho) he' hb
       exact ihi e'.on hlt om
     rw[hnil] at this;cases this
  ·obtain⟨h1,h2,h3⟩:=ready_iff.1 hi
   have hil:i<l.length:=om
   have hils:i<listed.size:=om
   have hf:listed[i]? =some false:=by
    rw[Ag,Aq hils] at h2
    rw[Aq hils]
    simpa using h2
   have hn:doneOf listed i=false:=by
    unfold doneOf
    rw[Ag,hf];rfl
   have hd:Direct opsA.toList (doneOf listed) i:=fun o e' ho he' hb=>h3 o (by simpa using ho) e' he' hb
   refine step_any hk r h00 hio hlo hnx hchk hS hil hn hd inv _ (fun e' a' inv'=>?_)
   rw[←doneOf_set hils] at inv'
   refine ih _ e' a' (by simpa using hl) ?_ ?_ inv'
   ·have:=undone_set hils hf;omega
   ·intro j hj o e2 ho he2 hb
    rw[doneOf_set hils] at hj⊢
    have key:doneOf listed e2.on=true:=by
     unfold addS at hj
     by_cases hji:j=i
     ·subst hji;exact hd o e2 ho he2 hb
     ·rw[if_neg hji] at hj;exact hS j hj o e2 ho he2 hb
    unfold addS
    split
    ·rfl
    ·exact key
theorem dreg_sound (hm:P.follows .mixedOrders=true) (hk:CallOK P G call) (hlen:l.length=opsA.size) (hcd:chkD na opsA.toList (predsGo opsA.toList []) l=true)
 (hio:∀(i:Nat) (ao:AO),l[i]? =some ao→∃o,opsA[i]? =some o∧IsO P G nt opsA ao o)
 {rid:Nat}{e:Env}{a:Act}{fr fr':T AV}{h':H} (hr:evDreg call na (drawOf (predsGo opsA.toList []) l) fr e.h=some (fr',h')) (hs:St e) (hf:FrRel e fr a.tmps) (hg:GRel G e) (hsz:a.tmps.size=nt)
 (kq:∀a' e',e'.h=h'→St e'→Ext e e'→FrRel e' fr' a'.tmps→a'.tmps.size=nt→a'.defers=a.defers→Q .normal a' e'.w):(Code.region rid opsA true).wp P Q a e.w:=by
 unfold evDreg at hr
 cases hev:evD call e.h.next na (drawOf (predsGo opsA.toList []) l) ⟨fr,⟨⟨Nat.add e.h.next na,e.h.t⟩,[]⟩,[],[],[]⟩ with
 |none=>rw[hev] at hr;cases hr
 |some s=>
  rw[hev] at hr
  have hr:cd (List.rec true (fun _ _ _=>chkAll (revOnto s.old [s.cur]) s.mks s.rs) s.rs) (some (s.fr,puts (selC s.cur.cons s.mks) s.cur.h)) none=some (fr',h'):=hr
  have hchk:chkAll (hsOf s) s.mks s.rs=true:=by
   cases hrs:s.rs with
   |nil=>rfl
   |cons x xs=>
    rw[hrs] at hr
    have hr:cd (chkAll (revOnto s.old [s.cur]) s.mks (x::xs)) (some (s.fr,puts (selC s.cur.cons s.mks) s.cur.h)) none=some (fr',h'):=hr
    cases hc:chkAll (revOnto s.old [s.cur]) s.mks (x::xs) with
    |false=>rw[hc] at hr;cases hr
    |true=>exact hc
  have hres:s.fr=fr'∧puts (selC s.cur.cons s.mks) s.cur.h=h':=by
   generalize (List.rec true (fun _ _ _=>chkAll (revOnto s.old [s.cur]) s.mks s.rs) s.rs:Bool)=b at hr
   cases b with
   |false=>cases hr
   |true=>
    have:=Oi (show some (s.fr,puts (selC s.cur.cons s.mks) s.cur.h)=some (fr',h') from hr)
    exact⟨congrArg Prod.fst this,congrArg Prod.snd this⟩
  obtain⟨rfl,rfl⟩:=hres
  obtain⟨σ,val,hσ0,hσn,hsi⟩:=evD_states hev
  have hlD:(drawOf (predsGo opsA.toList []) l).length=l.length:=by simp[drawOf]
  rw[hlD] at hσn
  have run:Run call e.h.next na opsA.toList l σ val:={
   stat:=chkD_stat (by simpa using hlen) hcd
   si:=fun i o ho=>hsi i _ (drawOf_get ho)
   mk0:=by rw[hσ0]
   cons0:=by rw[hσ0]
   old0:=by rw[hσ0]
   free0:=fun k hk=>by
    rw[hσ0]
    show e.h.get (path (e.h.next+k))=none
    cases hgk:e.h.get (path (e.h.next+k)) with
    |none=>rfl
    |some b=>
     obtain⟨k',h1,h2⟩:=hs.num hgk
     have:=path_inj h2
     omega}
  let w1:World:={e.w with drawn:=e.w.drawn+1}
  let e0:Env:=⟨e.ρ,⟨e.h.next+na,e.h.t⟩,w1,e.F⟩
  have st0:St e0:=heap_st (bump_st hs na) (w':=w1) rfl ⟨rfl,rfl,rfl⟩
  have ext0:Ext e e0:=(bump_ext e na).trans (heap_ext (e:=e.bump na) (w':=w1) rfl ⟨rfl,rfl,rfl⟩)
  refine wp_region_any hm (any_sound (e0:=e0) (a0:=a) (base:=e.h.next) (fr0:=fr) hk run (by rw[hσ0]) hio hs.lo (Nr _) (by rw[hσn];exact hchk) ?_ opsA.size (Array.replicate opsA.size false) e0 a (by simp[hlen]) ?_ ?_ ?_)
  ·intro S e' a' hall inv
   obtain⟨m,hh⟩:=inv.hs
   have hcur:(σ m).cur=s.cur:=by
    rw[←hσn]
    refine run.cur_eq hh.le (Nr _) (fun x hx=>?_)
    have hlt:=isX_lt hx
    rw[←hh.mom x hx]
    exact⟨fun _=>hlt,fun _=>hall x hlt⟩
   have hsame:Same e'.h (puts (selC s.cur.cons s.mks) s.cur.h):=by
    refine⟨by rw[puts_next,hh.next,hcur],fun id=>?_⟩
    have inAll:∀p∈(σ l.length).mks,inS l S p.k:=fun p hp=>by
     obtain⟨_,b,h1,h2,h3,_⟩:=run.mk_from _ (Nr _) p hp
     exact⟨b,hall b h1,h2,h3⟩
    by_cases hex:∃p∈selC s.cur.cons s.mks,p.id=id
    ·obtain⟨p,hp,rfl⟩:=hex
     have hp':=mem_selC.1 hp
     rw[←hσn] at hp'
     rw[puts_mem hp,hh.mem p hp'.1 (inAll p hp'.1) (by rw[hcur,←hσn];exact hp'.2)]
     intro q hq he
     have hq':=mem_selC.1 hq
     rw[←hσn] at hq'
     rw[(run.mk_from _ (Nr _) p hp'.1).1,(run.mk_from _ (Nr _) q hq'.1).1] at he
     have:=path_inj he
     rw[run.mk_unique _ (Nr _) q hq'.1 p hp'.1 om]
    ·rw[puts_not (fun p hp he=>hex ⟨p,hp,he⟩),hh.rest id,hcur]
     intro p hp _ hc he
     rw[hσn] at hp;rw[hcur] at hc
     exact hex ⟨p,mem_selC.2 ⟨hp,hc⟩,he⟩
   refine kq a' ⟨e'.ρ,puts (selC s.cur.cons s.mks) s.cur.h,e'.w,e'.F⟩ rfl (hsame.st inv.st) ((ext0.trans inv.ext).trans hsame.ext) (fun k=>?_) inv.size inv.defers
   have hfr:getV s.fr (path k)=getV (frS l val fr S l.length) (path k):=by
    rw[←hσn,run.fr_eq fr (by rw[hσ0]) _ (Nr _)]
    exact frS_agree (fun j hj _=>by rw[hall j hj];simpa using hj)
   rw[hfr]
   exact Rel.ext hsame.ext _ _ (inv.fr k)
  ·unfold undone
   rw[Array.toList_replicate]
   generalize opsA.size=n
   induction n with
   |zero=>rfl
   |succ n ih=>rw[List.replicate_succ,List.countP_cons];simp[ih]
  ·intro i hi
   unfold doneOf at hi
   rw[Ag] at hi
   exfalso
   by_cases h:i<opsA.size
   ·rw[Array.getElem?_replicate,if_pos h] at hi;cases hi
   ·rw[Array.getElem?_replicate,if_neg h] at hi;cases hi
  ·have hS0:doneOf (Array.replicate opsA.size false)=fun _=>false:=by
    funext i
    unfold doneOf
    rw[Ag,Array.getElem?_replicate]
    split<;>rfl
   rw[hS0]
   have hfr0:∀m,frS l val fr (fun _=>false) m=fr:=by
    intro m
    induction m with
    |zero=>rfl
    |succ m ih=>simp only[frS];rw[if_neg (by simp)];exact ih
   refine⟨st0,Ext.refl _,hg.ext ext0,by rw[hfr0];exact hf.ext ext0,hsz,rfl,0,?_⟩
   refine⟨fun x _=>by simp,Nz _,by rw[hσ0];rfl,?_,?_⟩
   ·rintro p _ ⟨b,hb,_⟩;cases hb
   ·intro id _;rw[hσ0];rfl
end
end Go.Ev
end
noncomputable section
namespace Go.Ev
section
variable {P:Program}{G:Gs}{call:CallF}
theorem number_spec:∀(L:List AO) (k:Nat),(number L k).1.length=L.length∧∀(q:Nat) (ao:AO),(number L k).1[q]? =some ao→∃o k',L[q]? =some o∧ao={o with k:=k'}
 |[],k=>⟨rfl,fun q ao h=>by simp[number] at h⟩
 |o::r,k=>by
  obtain⟨h1,h2⟩:=number_spec r (if o.op.cls=.A then k+1 else k)
  refine⟨by simp[number,h1],fun q ao h=>?_⟩
  cases q with
  |zero=>
   simp only[number,List.getElem?_cons_zero,Oj] at h
   exact⟨o,k,rfl,h.symm⟩
  |succ q=>
   obtain⟨o',k',h3,h4⟩:=h2 q ao (by simpa[number] using h)
   exact⟨o',k',by simpa using h3,h4⟩
def exOf:Ex→Exit
 |.normal=>.normal
 |.exit id=>.exit id
 |.ret=>.ret
def Post (nt:Nat) (Q:Exit→Act→World→Prop) (e:Env) (a:Act) (ex:Ex) (fr':T AV) (h':H):Prop:=
 ∀a' e',e'.h=h'→St e'→Ext e e'→FrRel e' fr' a'.tmps→a'.tmps.size=nt→a'.defers=a.defers→Q (exOf ex) a' e'.w
theorem Post.ext {nt:Nat}{Q:Exit→Act→World→Prop}{e e1:Env}{a a1:Act}{ex:Ex}{fr':T AV}{h':H} (h:Post nt Q e a ex fr' h') (x:Ext e e1) (hd:a1.defers=a.defers):Post nt Q e1 a1 ex fr' h':=
 fun a' e' h1 h2 h3 h4 h5 h6=>h a' e' h1 h2 (x.trans h3) h4 h5 (h6.trans hd)
theorem loop_sound {nt:Nat}{c:Code}{b:AC}{Q:Exit→Act→World→Prop}
 (hb:∀(Q:Exit→Act→World→Prop) (fr:T AV) (e:Env) (a:Act) (ex:Ex) (fr':T AV) (h':H),evC call b fr e.h=.ok ex fr' h'→St e→FrRel e fr a.tmps→GRel G e→a.tmps.size=nt→Post nt Q e a ex fr' h'→c.wp P Q a e.w):
 ∀(n:Nat) (fr:T AV) (e:Env) (a:Act) (ex:Ex) (fr':T AV) (h':H),
  loopA (evC call b) n fr e.h=.ok ex fr' h'→
  St e→FrRel e fr a.tmps→GRel G e→a.tmps.size=nt→Post nt Q e a ex fr' h'→Code.rounds P c Q n a e.w:=by
 intro n
 induction n with
 |zero=>intro fr e a ex fr' h' hr;cases hr
 |succ n ih=>
  intro fr e a ex fr' h' hr hs hf hg hsz kq
  rw[rounds_succ]
  have hr:(CR.rec .no (fun e fr h=>Ex.rec (loopA (evC call b) n fr h) (fun id=>.ok (.exit id) fr h) (.ok .ret fr h) e) (evC call b fr e.h):CR)=.ok ex fr' h':=hr
  cases hev:evC call b fr e.h with
  |no=>rw[hev] at hr;cases hr
  |ok ex1 fr1 h1=>
   rw[hev] at hr
   refine hb _ fr e a ex1 fr1 h1 hev hs hf hg hsz (fun a1 e1 he1 hs1 hx1 hf1 hsz1 hd1=>?_)
   subst he1
   cases ex1 with
   |normal=>exact ih fr1 e1 a1 ex fr' h' hr hs1 hf1 (hg.ext hx1) hsz1 (kq.ext hx1 hd1)
   |exit id=>
    injection(show CR.ok (.exit id) fr1 e1.h=.ok ex fr' h' from hr) with g1 g2 g3
    subst g1 g2
    exact kq a1 e1 g3 hs1 hx1 hf1 hsz1 hd1
   |ret=>
    injection(show CR.ok .ret fr1 e1.h=.ok ex fr' h' from hr) with g1 g2 g3
    subst g1 g2
    exact kq a1 e1 g3 hs1 hx1 hf1 hsz1 hd1
theorem evC_sound (hm:P.follows .mixedOrders=true) (hk:CallOK P G call){nt:Nat}:∀(c:Code) (Q:Exit→Act→World→Prop) (fr:T AV) (e:Env) (a:Act) (ex:Ex) (fr':T AV) (h':H),
 evC call (compC P G nt c) fr e.h=.ok ex fr' h'→St e→FrRel e fr a.tmps→GRel G e→a.tmps.size=nt→Post nt Q e a ex fr' h'→c.wp P Q a e.w:=by
 intro c
 induction c with
 |skip=>
  intro Q fr e a ex fr' h' hr hs hf hg hsz kq
  injection(show CR.ok .normal fr e.h=.ok ex fr' h' from hr) with g1 g2 g3
  subst g1 g2
  exact wp_skip (kq a e g3 hs (Ext.refl e) hf hsz rfl)
 |exit id=>
  intro Q fr e a ex fr' h' hr hs hf hg hsz kq
  injection(show CR.ok (.exit id) fr e.h=.ok ex fr' h' from hr) with g1 g2 g3
  subst g1 g2
  exact wp_exit (kq a e g3 hs (Ext.refl e) hf hsz rfl)
 |ret=>
  intro Q fr e a ex fr' h' hr hs hf hg hsz kq
  injection(show CR.ok .ret fr e.h=.ok ex fr' h' from hr) with g1 g2 g3
  subst g1 g2
  exact wp_ret (kq a e g3 hs (Ext.refl e) hf hsz rfl)
 |region rid ops d=>
  intro Q fr e a ex fr' h' hr hs hf hg hsz kq
  simp only[compC] at hr
  obtain⟨hlen,hnum⟩:=number_spec (ops.toList.map (compO P G nt ops)) 0
  generalize hln:number (ops.toList.map (compO P G nt ops)) 0=q at hr hlen hnum
  obtain⟨l,na⟩:=q
  simp only at hr hlen hnum
  have hlen':l.length=ops.size:=by rw[hlen];simp
  have hio:∀(i:Nat) (ao:AO),l[i]? =some ao→∃o,ops[i]? =some o∧IsO P G nt ops ao o:=by
   intro i ao hi
   obtain⟨o',k',h1,h2⟩:=hnum i ao hi
   rw[List.getElem?_map] at h1
   cases ho:ops.toList[i]? with
   |none=>rw[ho] at h1;cases h1
   |some o=>
    rw[ho] at h1
    simp only[Option.map_some,Oj] at h1
    subst h1
    exact⟨o,by simpa using ho,k',h2⟩
  cases d with
  |false=>
   have hr:(FR.rec .no (fun fr h=>.ok .normal fr h) (evOps call e.h.next l fr ⟨Nat.add e.h.next na,e.h.t⟩):CR)=.ok ex fr' h':=hr
   cases hev:evOps call e.h.next l fr ⟨Nat.add e.h.next na,e.h.t⟩ with
   |no=>rw[hev] at hr;cases hr
   |ok fr1 h1=>
    rw[hev] at hr
    injection(show CR.ok .normal fr1 h1=.ok ex fr' h' from hr) with g1 g2 g3
    subst g1 g2 g3
    refine wp_region (evOps_sound hk Q l (List.range ops.size) (by simp[hlen']) (fun q ao i h1 h2=>?_) e.h.next fr (e.bump na) a fr1 h1 hev (bump_st hs na) hs.lo (hf.ext (bump_ext e na)) (hg.ext (bump_ext e na)) hsz ?_)
    ·have hq:q<ops.size:=by rw[←hlen'];exact(List.getElem?_eq_some_iff.1 h1).1
     rw[List.getElem?_range hq] at h2
     obtain rfl:=Oi h2
     exact hio q ao h1
    ·intro a' e' h1 h2 h3 h4 h5 h6
     exact kq a' e' h1 h2 ((bump_ext e na).trans h3) h4 h5 h6
  |true=>
   simp only[Bool.not_true,Bool.false_eq_true,if_false] at hr
   by_cases hcd:chkD na ops.toList (predsGo ops.toList []) l=true
   ·rw[if_pos hcd] at hr
    have hr:(Option.rec .no (fun q=>.ok .normal q.1 q.2) (evDreg call na (drawOf (predsGo ops.toList []) l) fr e.h):CR)=.ok ex fr' h':=hr
    cases hev:evDreg call na (drawOf (predsGo ops.toList []) l) fr e.h with
    |none=>rw[hev] at hr;cases hr
    |some q=>
     rw[hev] at hr
     injection(show CR.ok .normal q.1 q.2=.ok ex fr' h' from hr) with g1 g2 g3
     subst g1 g2 g3
     exact dreg_sound hm hk hlen' hcd hio (fr':=q.1) (h':=q.2) hev hs hf hg hsz kq
   ·rw[if_neg hcd] at hr;cases hr
 |seq x y ihx ihy=>
  intro Q fr e a ex fr' h' hr hs hf hg hsz kq
  have hr:(CR.rec .no (fun e fr h=>Ex.rec (evC call (compC P G nt y) fr h) (fun id=>.ok (.exit id) fr h) (.ok .ret fr h) e) (evC call (compC P G nt x) fr e.h):CR)=.ok ex fr' h':=hr
  cases hev:evC call (compC P G nt x) fr e.h with
  |no=>rw[hev] at hr;cases hr
  |ok ex1 fr1 h1=>
   rw[hev] at hr
   refine wp_seq (ihx _ fr e a ex1 fr1 h1 hev hs hf hg hsz (fun a1 e1 he1 hs1 hx1 hf1 hsz1 hd1=>?_))
   subst he1
   cases ex1 with
   |normal=>exact ihy Q fr1 e1 a1 ex fr' h' hr hs1 hf1 (hg.ext hx1) hsz1 (kq.ext hx1 hd1)
   |exit id=>
    injection(show CR.ok (.exit id) fr1 e1.h=.ok ex fr' h' from hr) with g1 g2 g3
    subst g1 g2
    exact kq a1 e1 g3 hs1 hx1 hf1 hsz1 hd1
   |ret=>
    injection(show CR.ok .ret fr1 e1.h=.ok ex fr' h' from hr) with g1 g2 g3
    subst g1 g2
    exact kq a1 e1 g3 hs1 hx1 hf1 hsz1 hd1
 |cond c x y ihx ihy=>
  intro Q fr e a ex fr' h' hr hs hf hg hsz kq
  simp only[compC] at hr
  cases hc:od G c with
  |none=>rw[hc] at hr;cases hr
  |some c'=>
   rw[hc] at hr
   have rc:=od_rel hf hg hc
   have hr:(match ev c' fr with
    |.b t=>cd t (evC call (compC P G nt x) fr e.h) (evC call (compC P G nt y) fr e.h)
    |_=>.no:CR)=.ok ex fr' h':=hr
   generalize ev c' fr=u at hr rc
   cases u with
   |b t=>
    simp only[Rel] at rc
    cases t with
    |true=>exact wp_cond_true rc (ihx Q fr e a ex fr' h' hr hs hf hg hsz kq)
    |false=>exact wp_cond_false rc (ihy Q fr e a ex fr' h' hr hs hf hg hsz kq)
   |_=>cases hr
 |block id b ih=>
  intro Q fr e a ex fr' h' hr hs hf hg hsz kq
  have hr:(CR.rec .no (fun e fr h=>Ex.rec (.ok .normal fr h) (fun j=>cd (Nat.beq j id) (.ok .normal fr h) (.ok (.exit j) fr h)) (.ok .ret fr h) e) (evC call (compC P G nt b) fr e.h):CR)=.ok ex fr' h':=hr
  cases hev:evC call (compC P G nt b) fr e.h with
  |no=>rw[hev] at hr;cases hr
  |ok ex1 fr1 h1=>
   rw[hev] at hr
   refine wp_block (ih _ fr e a ex1 fr1 h1 hev hs hf hg hsz (fun a1 e1 he1 hs1 hx1 hf1 hsz1 hd1=>?_))
   subst he1
   cases ex1 with
   |normal=>
    injection(show CR.ok .normal fr1 e1.h=.ok ex fr' h' from hr) with g1 g2 g3
    subst g1 g2
    exact kq a1 e1 g3 hs1 hx1 hf1 hsz1 hd1
   |exit j=>
    have hr:cd (Nat.beq j id) (.ok .normal fr1 e1.h) (.ok (.exit j) fr1 e1.h)=CR.ok ex fr' h':=hr
    show(if j=id then Q .normal a1 e1.w else Q (.exit j) a1 e1.w)
    cases hj:Nat.beq j id with
    |true=>
     rw[hj] at hr
     rw[if_pos (Nq hj)]
     injection(show CR.ok .normal fr1 e1.h=.ok ex fr' h' from hr) with g1 g2 g3
     subst g1 g2
     exact kq a1 e1 g3 hs1 hx1 hf1 hsz1 hd1
    |false=>
     rw[hj] at hr
     rw[if_neg (fun h=>by rw[h,Nat.beq_refl] at hj;cases hj)]
     injection(show CR.ok (.exit j) fr1 e1.h=.ok ex fr' h' from hr) with g1 g2 g3
     subst g1 g2
     exact kq a1 e1 g3 hs1 hx1 hf1 hsz1 hd1
   |ret=>
    injection(show CR.ok .ret fr1 e1.h=.ok ex fr' h' from hr) with g1 g2 g3
    subst g1 g2
    exact kq a1 e1 g3 hs1 hx1 hf1 hsz1 hd1
 |loop b ih=>
  intro Q fr e a ex fr' h' hr hs hf hg hsz kq
  exact wp_loop_rounds manyRounds (loop_sound ih manyRounds fr e a ex fr' h' hr hs hf hg hsz kq)
 |rangeFunc f ps x y=>
  intro Q fr e a ex fr' h' hr
  cases hr
 |_=>
  intro Q fr e a ex fr' h' hr
  cases hr
end
end Go.Ev
namespace Go.Ev
section
variable {P:Program}{G:Gs}
theorem argsFrom_get:∀(l:List AV) (i:Nat) (t:T AV) (k:Nat),getV (argsFrom l i t) (path k)=if i≤k∧k<i+l.length then l.getD (k - i) undefA else getV t (path k)
 |[],i,t,k=>by
  rw[if_neg (by simp)];rfl
 |x::l,i,t,k=>by
  have ih:=argsFrom_get l (i+1) (T.set (path i) x t) k
  have:argsFrom (x::l) i t=argsFrom l (i+1) (T.set (path i) x t):=rfl
  rw[this,ih,getV_set]
  by_cases h1:i+1≤k∧k<i+1+l.length
  ·rw[if_pos h1,if_pos (by simp only[Lcz];omega)]
   have:k - i=(k - (i+1))+1:=om
   rw[this]
   simp
  ·rw[if_neg h1]
   by_cases h2:k=i
   ·subst h2
    rw[if_pos rfl,if_pos (by simp only[Lcz];omega)]
    simp
   ·rw[if_neg (fun h=>h2 (path_inj h)),if_neg (by simp only[Lcz];omega)]
theorem getV_e (p:List Bool):getV (T.e:T AV) p=.j:=by unfold getV;rw[T.get_e]
theorem args_rel {e:Env}{args:List AV}{vs:List Value} (h:RelL e args vs) (n:Nat):FrRel e (argsFrom args 0 .e) (vs.toArray++Array.replicate n undef):=by
 intro k
 rw[argsFrom_get,getV_e]
 have hl:=h.len
 by_cases hk:k<args.length
 ·rw[if_pos om,Ag,Array.getElem?_append_left (by simp;omega)]
  simp only[Nat.sub_zero]
  obtain⟨x,hx⟩:∃x,args[k]? =some x:=⟨_,Lq hk⟩
  obtain⟨v,hv,hr⟩:=h.get hx
  rw[Lwz,hx]
  simp only[List.getElem?_toArray,hv,Option.getD_some]
  exact hr
 ·rw[if_neg om,Ag,Array.getElem?_append_right (by simp;omega),Array.getElem?_replicate]
  split<;>simp[Rel]
def resV (tmps:Array Value):ResultVar→Sem Value
 |.tmp t=>pure (tmps.getD t undef)
 |.cell a t=>do loadVar t (←asAddr (tmps.getD a undef))
theorem resL_sound {e:Env}{tmps:Array Value} (hs:St e){fr:T AV} (hf:FrRel e fr tmps):∀{rs:List ResultVar}{res:List (List Bool×Option (Option Nat))}{vs:List AV},
 compResL P rs=some res→resOf res fr e.h=some vs→∃cvs:List Value,(rs.mapM (resV tmps)).run P e.w=.ok cvs e.w∧RelL e vs cvs
 |[],res,vs,hc,hr=>by
  simp only[compResL,Oj] at hc;subst hc
  obtain rfl:=Oi (show some []=some vs from hr)
  exact⟨[],by simp,by simp[RelL]⟩
 |r::rs,res,vs,hc,hr=>by
  simp only[compResL] at hc
  split at hc
  ·rename_i x xs hx hxs
   simp only[Oj] at hc;subst hc
   have hr:(match resOf xs fr e.h with
    |none=>none
    |some r=>match x.2 with
     |none=>some (getV fr x.1::r)
     |some none=>match cellAt (getV fr x.1) e.h with
      |some v=>some (v::r)
      |none=>none
     |some (some n)=>match cellsAt (getV fr x.1) n e.h with
      |some l=>some (.ag l::r)
      |none=>none:Option (List AV))=some vs:=hr
   cases hrest:resOf xs fr e.h with
   |none=>rw[hrest] at hr;cases hr
   |some us=>
    rw[hrest] at hr
    obtain⟨cvs,h1,h2⟩:=resL_sound hs hf hxs hrest
    have fin:∀(u:AV) (cv:Value),(resV tmps r).run P e.w=.ok cv e.w→Rel e u cv→vs=u::us→∃cvs:List Value,((r::rs).mapM (resV tmps)).run P e.w=.ok cvs e.w∧RelL e vs cvs:=by
     intro u cv g1 g2 g3
     refine⟨cv::cvs,?_,by rw[g3];simp only[RelL];exact⟨g2,h2⟩⟩
     rw[List.mapM_cons]
     simp only[Sem.run_bind,g1,Result.andThen_ok,h1,Sem.run_pure]
    cases r with
    |tmp t=>
     simp only[compRes,Oj] at hx;subst hx
     obtain rfl:=Oi (show some (getV fr (mkPath t)::us)=some vs from hr)
     refine fin _ (tmps.getD t undef) (by simp[resV]) ?_ rfl
     rw[mkPath_eq];exact hf t
    |cell a t=>
     simp only[compRes] at hx
     obtain⟨ag,hag,hx⟩:=bind_inv hx
     obtain⟨n,hn,rfl⟩:=map_inv hx
     have rx:=hf a
     rw[←mkPath_eq] at rx
     cases ag with
     |false=>
      simp only[Bool.false_eq_true,if_false] at hr
      split at hr
      ·rename_i v hv
       obtain rfl:=Oi hr
       obtain⟨ad,u,hcv,hu,hru,_⟩:=ptr_cell hs rx hv
       refine fin _ u ?_ hru rfl
       simp[resV,asAddr,hcv,loadVar,run_isAgg hag,hu]
      ·cases hr
     |true=>
      simp only[if_true] at hr
      split at hr
      ·rename_i l hl
       obtain rfl:=Oi hr
       rcases Nat.eq_zero_or_pos n with hz|hz
       ·subst hz
        have hl0:l=[]:=by
         rcases cellsAt_inv hl with ⟨_,_,_,_,_,_,_,hcut⟩|⟨_,_,_,_,hcut⟩<;>exact List.eq_nil_of_length_eq_zero (cut_get hcut).1
        subst hl0
        have hcv:∃ad,tmps.getD a undef=.pointer (some ad):=by
         rcases cellsAt_inv hl with ⟨i,off,_,_,_,hx,_⟩|⟨ty,ty2,off,hx,_⟩
         ·rw[hx] at rx;exact⟨_,(rel_p rx).2⟩
         ·rw[hx] at rx;simp only[Rel] at rx;obtain⟨b,o',us,h,_⟩:=rx;exact⟨_,h⟩
        obtain⟨ad,hcv⟩:=hcv
        refine fin _ (.agg #[]) ?_ (by simp only[Rel];exact⟨by simp,#[],rfl,by simp[RelL]⟩) rfl
        simp[resV,asAddr,hcv,loadVar,run_isAgg hag,run_size hn,loadCells,loadCellsFrom]
       ·obtain⟨b,o',hcv,hlen,hcell⟩:=ptr_cells hs rx hl hz
        obtain⟨ws,hrel,hvl,hvs⟩:=relL_of l (fun j=>e.w.cell? ⟨b,o'+j,none⟩) (fun j y hy=>(hcell j y hy).2)
        have hone:∀c∈l,one c=true:=fun c hc=>by
         obtain⟨j,hj⟩:=List.mem_iff_getElem?.1 hc
         exact(hcell j c hj).1
        refine fin _ (.agg ws.toArray) ?_ (by simp only[Rel];exact⟨hone,ws.toArray,rfl,hrel⟩) rfl
        have hrun:=run_loadCells_at (P:=P) b o' ws hvs
        rw[hvl,hlen] at hrun
        simp[resV,asAddr,hcv,loadVar,run_isAgg hag,run_size hn,hrun]
      ·cases hr
  ·cases hc
theorem results_sound {e:Env}{fn:Func}{tmps:Array Value} (hs:St e){fr:T AV} (hf:FrRel e fr tmps){res:List (List Bool×Option (Option Nat))}{vs:List AV}{r:AV}{h':H}
 (hc:compResL P fn.results.toList=some res) (hr:resOf res fr e.h=some vs) (h1:ret1 e.h vs=.ok r h'):h'=e.h∧∃cv,(results fn tmps).run P e.w=.ok cv e.w∧Rel e r cv:=by
 obtain⟨cvs,h2,h3⟩:=resL_sound hs hf hc hr
 have hm:(fn.results.mapM (resV tmps)).run P e.w=.ok cvs.toArray e.w:=by
  rw[Array.mapM_eq_mapM_toList]
  simp only[map_eq_pure_bind,Sem.run_bind]
  rw[h2]
  simp
 have hres:(results fn tmps).run P e.w=.ok (if h:cvs.toArray.size=1 then cvs.toArray[0] else .tuple cvs.toArray) e.w:=by
  unfold results
  rw[Sem.run_bind]
  have:∀f g:ResultVar→Sem Value,f=g→(fn.results.mapM f).run P e.w=(fn.results.mapM g).run P e.w:=fun f g h=>by rw[h]
  refine(congrArg (fun x=>Result.andThen x _) ((this _ _ ?_).trans hm)).trans ?_
  ·funext r;cases r<;>rfl
  ·simp
 unfold ret1 at h1
 split at h1
 ·rename_i v
  injection h1 with g1 g2
  subst g1
  refine⟨g2.symm,?_⟩
  have hl:=h3.len
  obtain⟨cv,rfl⟩:∃cv,cvs=[cv]:=by
   match cvs,hl with
   |[cv],_=>exact⟨cv,rfl⟩
   |[],h=>simp at h
   |_::_::_,h=>simp at h
  simp only[RelL] at h3
  exact⟨cv,by rw[hres];rfl,h3.1⟩
 ·rename_i hne
  injection h1 with g1 g2
  subst g1
  refine⟨g2.symm,.tuple cvs.toArray,?_,by simp only[Rel];exact⟨cvs.toArray,rfl,h3⟩⟩
  rw[hres,dif_neg]
  intro h
  have hlen:=h3.len
  simp only[List.size_toArray] at h
  have hl1:vs.length=1:=hlen.symm.trans h
  match vs,hne,hl1 with
  |[v],hne,_=>exact hne v rfl
structure Tbl (P:Program) (G:Gs) (tbl:Nat→FT):Prop where
 code:∀f af,tbl f=.code af→∃fn,P.funcs[f]? =some fn∧compF P G fn=some af∧(fn.name== "runtime.NumGoroutine")=false
 ext:∀f g,tbl f=.ext g→∀args v e vs,g args=some v→St e→GRel G e→RelL e args vs→
  Does P f vs.toArray e.w (fun cv w'=>∃e',e'.w=w'∧e'.h=e.h∧St e'∧Ext e e'∧Rel e' v cv)
 exth:∀f g,tbl f=.exth g→∀args v e vs,g args e.h=some v→St e→GRel G e→RelL e args vs→
  Does P f vs.toArray e.w (fun cv w'=>∃e',e'.w=w'∧e'.h=e.h∧St e'∧Ext e e'∧Rel e' v cv)
 mix:∀f g af,tbl f=.mix g af→(∃fn,P.funcs[f]? =some fn∧compF P G fn=some af∧(fn.name== "runtime.NumGoroutine")=false)∧∀args v e vs,g args e.h=some v→St e→GRel G e→RelL e args vs→
  Does P f vs.toArray e.w (fun cv w'=>∃e',e'.w=w'∧e'.h=e.h∧St e'∧Ext e e'∧Rel e' v cv)
theorem evF_code (hm:P.follows .mixedOrders=true){call:CallF} (ih:CallOK P G call){f:Nat}{af:AF} (hc:∃fn,P.funcs[f]? =some fn∧compF P G fn=some af∧(fn.name== "runtime.NumGoroutine")=false)
 {args:List AV}{r:AV}{h':H}{e:Env}{vs:List Value}
 (hr:cd (Nat.ble (len args) af.np) (CR.rec .no (fun e fr h=>Ex.rec (Option.rec .no (ret1 h) (resOf af.res fr h)) (fun _=>.no) (Option.rec .no (ret1 h) (resOf af.res fr h)) e)
    (evC call af.body (argsFrom args 0 .e) e.h)) .no=R.ok r h') (hs:St e) (hg:GRel G e) (hrel:RelL e args vs):
 Does P f vs.toArray e.w (fun cv w'=>∃e',e'.w=w'∧e'.h=h'∧St e'∧Ext e e'∧Rel e' r cv):=by
 obtain⟨fn,hfn,hcf,hname⟩:=hc
 unfold compF at hcf
 obtain⟨b,hb,hcf⟩:=bind_inv hcf
 obtain⟨res,hres,rfl⟩:=map_inv hcf
 have hr:cd (Nat.ble (len args) fn.ntmps) (CR.rec .no (fun e fr h=>Ex.rec (Option.rec .no (ret1 h) (resOf res fr h)) (fun _=>.no) (Option.rec .no (ret1 h) (resOf res fr h)) e)
  (evC (call) (compC P G fn.ntmps b) (argsFrom args 0 .e) e.h)) .no=R.ok r h':=hr
 cases hle:Nat.ble (len args) fn.ntmps with
 |false=>rw[hle] at hr;cases hr
 |true=>
  rw[hle] at hr
  have hle:=Nb hle
  rw[len_eq] at hle
  have hlv:=hrel.len
  have hr:(CR.rec .no (fun e fr h=>Ex.rec (Option.rec .no (ret1 h) (resOf res fr h)) (fun _=>.no) (Option.rec .no (ret1 h) (resOf res fr h)) e)
   (evC (call) (compC P G fn.ntmps b) (argsFrom args 0 .e) e.h):R)=.ok r h':=hr
  cases hev:evC (call) (compC P G fn.ntmps b) (argsFrom args 0 .e) e.h with
  |no=>rw[hev] at hr;cases hr
  |ok ex fr' h1=>
   rw[hev] at hr
   right
   have hname':¬fn.name= "runtime.NumGoroutine" :=by simpa using hname
   refine⟨by simp[callFunc,hfn,hname',hb],?_⟩
   refine calls_of_wp hfn hb (evC_sound hm ih b _ _ e _ ex fr' h1 hev hs (args_rel hrel _) hg (by simp;omega) (fun a' e' he' hs' hx' hf' _ hd'=>?_))
   subst he'
   have key:(Option.rec .no (ret1 e'.h) (resOf res fr' e'.h):R)=.ok r h'→a'.defers=[]∧∃v,(results fn a'.tmps).run P e'.w=.ok v e'.w∧∃v',Ending.returned v=.returned v'∧∃e2,e2.w=e'.w∧e2.h=h'∧St e2∧Ext e e2∧Rel e2 r v':=by
    intro hr
    cases hro:resOf res fr' e'.h with
    |none=>rw[hro] at hr;cases hr
    |some us=>
     rw[hro] at hr
     obtain⟨h2,cv,h3,h4⟩:=results_sound (fn:=fn) hs' hf' hres hro (show ret1 e'.h us=.ok r h' from hr)
     exact⟨hd',cv,h3,cv,rfl,e',rfl,h2.symm,hs',hx',h4⟩
   cases ex with
   |normal=>exact key hr
   |exit id=>cases hr
   |ret=>exact key hr
theorem evF_sound (hm:P.follows .mixedOrders=true){tbl:Nat→FT} (ht:Tbl P G tbl):∀n,CallOK P G (evF tbl n):=by
 intro n
 induction n with
 |zero=>intro f args r h' e vs hr;cases hr
 |succ n ih=>
  intro f args r h' e vs hr hs hg hrel
  have hr:(FT.rec .no
   (fun fn=>cd (Nat.ble (len args) fn.np) (CR.rec .no (fun e fr h=>Ex.rec (Option.rec .no (ret1 h) (resOf fn.res fr h)) (fun _=>.no) (Option.rec .no (ret1 h) (resOf fn.res fr h)) e)
    (evC (evF tbl n) fn.body (argsFrom args 0 .e) e.h)) .no)
   (fun g=>Option.rec .no (fun v=>.ok v e.h) (g args)) (fun g=>Option.rec .no (fun v=>.ok v e.h) (g args e.h))
   (fun g fn=>Option.rec (cd (Nat.ble (len args) fn.np) (CR.rec .no (fun e fr h=>Ex.rec (Option.rec .no (ret1 h) (resOf fn.res fr h)) (fun _=>.no) (Option.rec .no (ret1 h) (resOf fn.res fr h)) e)
    (evC (evF tbl n) fn.body (argsFrom args 0 .e) e.h)) .no) (fun v=>.ok v e.h) (g args e.h)) (tbl f):R)=.ok r h':=hr
  cases htf:tbl f with
  |none=>rw[htf] at hr;cases hr
  |ext g=>
   rw[htf] at hr
   have hr:(Option.rec .no (fun v=>.ok v e.h) (g args):R)=.ok r h':=hr
   cases hga:g args with
   |none=>rw[hga] at hr;cases hr
   |some v=>
    rw[hga] at hr
    injection(show R.ok v e.h=.ok r h' from hr) with g1 g2
    subst g1 g2
    exact ht.ext f g htf args v e vs hga hs hg hrel
  |exth g=>
   rw[htf] at hr
   have hr:(Option.rec .no (fun v=>.ok v e.h) (g args e.h):R)=.ok r h':=hr
   cases hga:g args e.h with
   |none=>rw[hga] at hr;cases hr
   |some v=>
    rw[hga] at hr
    injection(show R.ok v e.h=.ok r h' from hr) with g1 g2
    subst g1 g2
    exact ht.exth f g htf args v e vs hga hs hg hrel
  |code af=>
   rw[htf] at hr
   exact evF_code hm ih (ht.code f af htf) hr hs hg hrel
  |mix g af=>
   rw[htf] at hr
   replace hr:(Option.rec (cd (Nat.ble (len args) af.np) (CR.rec .no (fun e fr h=>Ex.rec (Option.rec .no (ret1 h) (resOf af.res fr h)) (fun _=>.no) (Option.rec .no (ret1 h) (resOf af.res fr h)) e)
    (evC (evF tbl n) af.body (argsFrom args 0 .e) e.h)) .no) (fun v=>.ok v e.h) (g args e.h):R)=.ok r h':=hr
   cases hga:g args e.h with
   |none=>
    rw[hga] at hr
    exact evF_code hm ih (ht.mix f g af htf).1 hr hs hg hrel
   |some v=>
    rw[hga] at hr
    injection(show R.ok v e.h=.ok r h' from hr) with g1 g2
    subst g1 g2
    exact(ht.mix f g af htf).2 args v e vs hga hs hg hrel
end
end Go.Ev
end
