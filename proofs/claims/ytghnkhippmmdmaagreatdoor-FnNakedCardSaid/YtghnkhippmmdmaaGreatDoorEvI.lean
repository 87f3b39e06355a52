/- Regions that draw their order: the run in the text's order, as states. -/
import Derived.Test.YtghnkhippmmdmaaGreatDoorEvH
import Derived.Orders
set_option linter.unusedVariables false
set_option linter.unusedSimpArgs false
set_option linter.all false

namespace Go.Ev

/-! Membership -/

theorem natIn_iff {n : Nat} : ∀ {l : List Nat}, natIn n l = true ↔ n ∈ l
  | [] => ⟨fun h => (by cases h), fun h => (by cases h)⟩
  | x :: l => by
    show cd (Nat.beq x n) true (natIn n l) = true ↔ _
    rw [List.mem_cons]
    cases hb : Nat.beq x n with
    | true => exact ⟨fun _ => .inl (Nat.eq_of_beq_eq_true hb).symm, fun _ => rfl⟩
    | false =>
      refine ⟨fun h => .inr (natIn_iff.1 h), fun h => ?_⟩
      rcases h with rfl | h
      · rw [Nat.beq_refl] at hb; cases hb
      · exact natIn_iff.2 h

theorem mem_selP {ks cons : List Nat} {p : Pd} : ∀ {l : List Pd}, p ∈ selP ks cons l ↔ p ∈ l ∧ p.k ∈ ks ∧ p.k ∉ cons
  | [] => ⟨fun h => (by cases h), fun h => (by cases h.1)⟩
  | x :: l => by
    have ih := mem_selP (ks := ks) (cons := cons) (p := p) (l := l)
    show p ∈ cd (natIn x.k ks) (cd (natIn x.k cons) (selP ks cons l) (x :: selP ks cons l)) (selP ks cons l) ↔ _
    cases h1 : natIn x.k ks with
    | false =>
      show p ∈ selP ks cons l ↔ _
      rw [ih, List.mem_cons]
      refine ⟨fun h => ⟨.inr h.1, h.2⟩, fun h => ⟨?_, h.2⟩⟩
      rcases h.1 with rfl | h3
      · rw [natIn_iff.2 h.2.1] at h1; cases h1
      · exact h3
    | true =>
      cases h2 : natIn x.k cons with
      | true =>
        show p ∈ selP ks cons l ↔ _
        rw [ih, List.mem_cons]
        refine ⟨fun h => ⟨.inr h.1, h.2⟩, fun h => ⟨?_, h.2⟩⟩
        rcases h.1 with rfl | h3
        · exact absurd (natIn_iff.1 h2) h.2.2
        · exact h3
      | false =>
        show p ∈ x :: selP ks cons l ↔ _
        rw [List.mem_cons, ih, List.mem_cons]
        refine ⟨fun h => ?_, fun h => ?_⟩
        · rcases h with rfl | h
          · exact ⟨.inl rfl, natIn_iff.1 h1, fun h => by rw [natIn_iff.2 h] at h2; cases h2⟩
          · exact ⟨.inr h.1, h.2⟩
        · rcases h.1 with h3 | h3
          · exact .inl h3
          · exact .inr ⟨h3, h.2⟩

theorem mem_selC {cons : List Nat} {p : Pd} : ∀ {l : List Pd}, p ∈ selC cons l ↔ p ∈ l ∧ p.k ∉ cons
  | [] => ⟨fun h => (by cases h), fun h => (by cases h.1)⟩
  | x :: l => by
    have ih := mem_selC (cons := cons) (p := p) (l := l)
    show p ∈ cd (natIn x.k cons) (selC cons l) (x :: selC cons l) ↔ _
    cases h2 : natIn x.k cons with
    | true =>
      show p ∈ selC cons l ↔ _
      rw [ih, List.mem_cons]
      refine ⟨fun h => ⟨.inr h.1, h.2⟩, fun h => ⟨?_, h.2⟩⟩
      rcases h.1 with rfl | h3
      · exact absurd (natIn_iff.1 h2) h.2
      · exact h3
    | false =>
      show p ∈ x :: selC cons l ↔ _
      rw [List.mem_cons, ih, List.mem_cons]
      refine ⟨fun h => ?_, fun h => ?_⟩
      · rcases h with rfl | h
        · exact ⟨.inl rfl, fun h => by rw [natIn_iff.2 h] at h2; cases h2⟩
        · exact ⟨.inr h.1, h.2⟩
      · rcases h.1 with h3 | h3
        · exact .inl h3
        · exact .inr ⟨h3, h.2⟩

theorem freeOf_inv {h : H} {base : Nat} {cons : List Nat} : ∀ {na : Nat}, freeOf h base cons na = true → ∀ k, k < na → k ∉ cons → h.get (path (base + k)) = none
  | 0, _, k, hk, _ => absurd hk (Nat.not_lt_zero _)
  | na + 1, hf, k, hk, hc => by
    have hf : cd (natIn na cons) (freeOf h base cons na) (Option.rec (freeOf h base cons na) (fun _ => false) (h.get (path (Nat.add base na)))) = true := hf
    cases hn : natIn na cons with
    | true =>
      rw [hn] at hf
      have hf : freeOf h base cons na = true := hf
      by_cases he : k = na
      · subst he; exact absurd (natIn_iff.1 hn) hc
      · exact freeOf_inv hf k (by omega) hc
    | false =>
      rw [hn] at hf
      have hf : (Option.rec (freeOf h base cons na) (fun _ => false) (h.get (path (Nat.add base na))) : Bool) = true := hf
      cases hg : h.get (path (Nat.add base na)) with
      | some b => rw [hg] at hf; cases hf
      | none =>
        rw [hg] at hf
        have hf : freeOf h base cons na = true := hf
        by_cases he : k = na
        · subst he; exact hg
        · exact freeOf_inv hf k (by omega) hc

/-! A step of the run in the text's order -/

inductive SI (call : CallF) (base na : Nat) (d : DO) (s : DS) : DS → AV → Prop
  | skip : wanted d.o.g s.fr = some false → d.o.op.cls ≠ .X → SI call base na d s (stepV d s undefA) undefA
  | skipX : wanted d.o.g s.fr = some false → d.o.op.cls = .X → SI call base na d s (stepX d s undefA (heapAt s.cur d.ks s.mks)) undefA
  | N (v : AV) (h' : H) : wanted d.o.g s.fr = some true → d.o.op.cls = .N → evOp call d.o.op s.fr s.cur.h (base + d.o.k) = .ok v h' → SI call base na d s (stepV d s v) v
  | R (v : AV) (h' : H) : wanted d.o.g s.fr = some true → d.o.op.cls = .R → evOp call d.o.op s.fr (heapAt s.cur d.ks s.mks) (base + d.o.k) = .ok v h' → SI call base na d s (stepR d s v) v
  | A (v : AV) (h' : H) : wanted d.o.g s.fr = some true → d.o.op.cls = .A → evOp call d.o.op s.fr ⟨s.cur.h.next, .e⟩ (base + d.o.k) = .ok v h' →
      SI call base na d s (stepA d s v (path (base + d.o.k)) (h'.get (path (base + d.o.k)))) v
  | X (v : AV) (h' : H) : wanted d.o.g s.fr = some true → d.o.op.cls = .X → evOp call d.o.op s.fr (heapAt s.cur d.ks s.mks) (base + na) = .ok v h' →
      freeOf h' base (cat d.ks s.cur.cons) na = true → SI call base na d s (stepX d s v h') v

theorem stepD_inv {call : CallF} {base na : Nat} {d : DO} {s s' : DS} (h : stepD call base na d s = some s') : ∃ v, SI call base na d s s' v := by
  unfold stepD at h
  cases hw : wanted d.o.g s.fr with
  | none => rw [hw] at h; cases h
  | some b =>
    rw [hw] at h
    cases b with
    | false =>
      cases hc : d.o.op.cls with
      | X =>
        rw [hc] at h
        have h : some (stepX d s undefA (heapAt s.cur d.ks s.mks)) = some s' := h
        obtain rfl := Option.some.inj h
        exact ⟨_, .skipX hw hc⟩
      | _ =>
        rw [hc] at h
        have h : some (stepV d s undefA) = some s' := h
        obtain rfl := Option.some.inj h
        exact ⟨_, .skip hw (by rw [hc]; simp)⟩
    | true =>
      cases hc : d.o.op.cls with
      | N =>
        rw [hc] at h
        have h : (R.rec none (fun v _ => some (stepV d s v)) (evOp call d.o.op s.fr s.cur.h (Nat.add base d.o.k)) : Option DS) = some s' := h
        cases hr : evOp call d.o.op s.fr s.cur.h (Nat.add base d.o.k) with
        | no => rw [hr] at h; cases h
        | ok v h' =>
          rw [hr] at h
          have h : some (stepV d s v) = some s' := h
          obtain rfl := Option.some.inj h
          exact ⟨_, .N v h' hw hc hr⟩
      | R =>
        rw [hc] at h
        have h : (R.rec none (fun v _ => some (stepR d s v)) (evOp call d.o.op s.fr (heapAt s.cur d.ks s.mks) (Nat.add base d.o.k)) : Option DS) = some s' := h
        cases hr : evOp call d.o.op s.fr (heapAt s.cur d.ks s.mks) (Nat.add base d.o.k) with
        | no => rw [hr] at h; cases h
        | ok v h' =>
          rw [hr] at h
          have h : some (stepR d s v) = some s' := h
          obtain rfl := Option.some.inj h
          exact ⟨_, .R v h' hw hc hr⟩
      | A =>
        rw [hc] at h
        have h : (R.rec none (fun v h => some (stepA d s v (path (Nat.add base d.o.k)) (h.get (path (Nat.add base d.o.k))))) (evOp call d.o.op s.fr ⟨s.cur.h.next, .e⟩ (Nat.add base d.o.k)) : Option DS) = some s' := h
        cases hr : evOp call d.o.op s.fr ⟨s.cur.h.next, .e⟩ (Nat.add base d.o.k) with
        | no => rw [hr] at h; cases h
        | ok v h' =>
          rw [hr] at h
          have h : some (stepA d s v (path (Nat.add base d.o.k)) (h'.get (path (Nat.add base d.o.k)))) = some s' := h
          obtain rfl := Option.some.inj h
          exact ⟨_, .A v h' hw hc hr⟩
      | X =>
        rw [hc] at h
        have h : (R.rec none (fun v h => cd (freeOf h base (cat d.ks s.cur.cons) na) (some (stepX d s v h)) none) (evOp call d.o.op s.fr (heapAt s.cur d.ks s.mks) (Nat.add base na)) : Option DS) = some s' := h
        cases hr : evOp call d.o.op s.fr (heapAt s.cur d.ks s.mks) (Nat.add base na) with
        | no => rw [hr] at h; cases h
        | ok v h' =>
          rw [hr] at h
          have h : cd (freeOf h' base (cat d.ks s.cur.cons) na) (some (stepX d s v h')) none = some s' := h
          cases hf : freeOf h' base (cat d.ks s.cur.cons) na with
          | false => rw [hf] at h; cases h
          | true =>
            rw [hf] at h
            have h : some (stepX d s v h') = some s' := h
            obtain rfl := Option.some.inj h
            exact ⟨_, .X v h' hw hc hr hf⟩

/-- The run, as states and values. -/
theorem evD_states {call : CallF} {base na : Nat} : ∀ {D : List DO} {s s' : DS}, evD call base na D s = some s' →
    ∃ (σ : Nat → DS) (val : Nat → AV), σ 0 = s ∧ σ D.length = s' ∧ ∀ i d, D[i]? = some d → SI call base na d (σ i) (σ (i + 1)) (val i)
  | [], s, s', h => by
    obtain rfl := Option.some.inj (show some s = some s' from h)
    exact ⟨fun _ => s, fun _ => undefA, rfl, rfl, fun i d hd => by simp at hd⟩
  | d :: D, s, s', h => by
    have h : (Option.rec none (evD call base na D) (stepD call base na d s) : Option DS) = some s' := h
    cases hs : stepD call base na d s with
    | none => rw [hs] at h; cases h
    | some s1 =>
      rw [hs] at h
      obtain ⟨σ, val, h1, h2, h3⟩ := evD_states (show evD call base na D s1 = some s' from h)
      obtain ⟨v, hv⟩ := stepD_inv hs
      refine ⟨fun i => match i with | 0 => s | i + 1 => σ i, fun i => match i with | 0 => v | i + 1 => val i, rfl, h2, fun i q hq => ?_⟩
      cases i with
      | zero =>
        simp only [List.getElem?_cons_zero, Option.some.injEq] at hq
        subst hq
        show SI call base na d s (σ 0) v
        rw [h1]; exact hv
      | succ i => exact h3 i q (by simpa using hq)

end Go.Ev

/- Regions that draw their order: what is static. -/
namespace Go.Ev

/-! What is ordered before what -/

theorem predM_bit {o : Oper} {acc : List Nat} {p : Nat} (h : (predM o acc).testBit p = true) :
    ∃ e ∈ o.after.toList, Region.binds .any e = true ∧ (p = e.on ∨ (acc.getD e.on 0).testBit p = true) := by
  unfold predM at h
  generalize o.after.toList = L at h ⊢
  induction L with
  | nil => simp at h
  | cons e L ih =>
    simp only [List.foldr_cons] at h
    by_cases hb : Region.binds .any e = true
    · rw [if_pos hb, Nat.testBit_or, Bool.or_eq_true] at h
      rcases h with h | h
      · obtain ⟨e', h1, h2⟩ := ih h
        exact ⟨e', List.mem_cons_of_mem _ h1, h2⟩
      · refine ⟨e, List.mem_cons_self .., hb, ?_⟩
        rw [Nat.testBit_or, Bool.or_eq_true] at h
        rcases h with h | h
        · left
          rw [Nat.testBit_two_pow] at h
          exact (of_decide_eq_true h).symm
        · exact .inr h
    · rw [if_neg hb] at h
      obtain ⟨e', h1, h2⟩ := ih h
      exact ⟨e', List.mem_cons_of_mem _ h1, h2⟩

theorem predsGo_spec : ∀ (ops : List Oper) (acc : List Nat), ∃ X, predsGo ops acc = acc ++ X ∧ X.length = ops.length ∧
    ∀ i o, ops[i]? = some o → (predsGo ops acc).getD (acc.length + i) 0 = predM o ((predsGo ops acc).take (acc.length + i))
  | [], acc => ⟨[], by simp [predsGo], rfl, fun i o h => by simp at h⟩
  | o :: r, acc => by
    obtain ⟨X, h1, h2, h3⟩ := predsGo_spec r (acc ++ [predM o acc])
    have hd : predsGo (o :: r) acc = predsGo r (acc ++ [predM o acc]) := rfl
    refine ⟨predM o acc :: X, by rw [hd, h1]; simp, by simp [h2], fun i q hq => ?_⟩
    rw [hd]
    cases i with
    | zero =>
      simp only [List.getElem?_cons_zero, Option.some.injEq] at hq
      subst hq
      rw [h1]
      simp
    | succ i =>
      have := h3 i q (by simpa using hq)
      simp only [List.length_append, List.length_cons, List.length_nil] at this
      rw [show acc.length + (i + 1) = acc.length + (0 + 1) + i by omega]
      exact this

theorem preds_at {ops : List Oper} {i : Nat} {o : Oper} (h : ops[i]? = some o) : (predsGo ops []).getD i 0 = predM o ((predsGo ops []).take i) := by
  obtain ⟨X, _, _, h3⟩ := predsGo_spec ops []
  simpa using h3 i o h

theorem preds_out {ops : List Oper} {i : Nat} (h : ops.length ≤ i) : (predsGo ops []).getD i 0 = 0 := by
  obtain ⟨X, h1, h2, _⟩ := predsGo_spec ops []
  rw [h1]
  simp only [List.nil_append]
  rw [List.getD_eq_getElem?_getD, List.getElem?_eq_none (by omega)]
  rfl

theorem edge_lt {ops : List Oper} (he : ∀ i o, ops[i]? = some o → edgesOk o i = true) {i : Nat} {o : Oper} (h : ops[i]? = some o) {e} (hm : e ∈ o.after.toList) (hb : Region.binds .any e = true) : e.on < i := by
  have := he i o h
  simp only [edgesOk, List.all_eq_true, Bool.or_eq_true, Bool.not_eq_true', decide_eq_true_eq] at this
  rcases this e hm with h | h
  · rw [hb] at h; cases h
  · exact h

theorem take_getD {l : List Nat} {i j : Nat} (h : j < i) : (l.take i).getD j 0 = l.getD j 0 := by
  rw [List.getD_eq_getElem?_getD, List.getD_eq_getElem?_getD, List.getElem?_take, if_pos h]

theorem bfr_edge {ops : List Oper} (he : ∀ i o, ops[i]? = some o → edgesOk o i = true) {p i : Nat} (h : bfr (predsGo ops []) p i = true) :
    ∃ o e, ops[i]? = some o ∧ e ∈ o.after.toList ∧ Region.binds .any e = true ∧ e.on < i ∧ (p = e.on ∨ bfr (predsGo ops []) p e.on = true) := by
  unfold bfr at h
  cases ho : ops[i]? with
  | none =>
    rw [preds_out (List.getElem?_eq_none_iff.1 ho)] at h
    simp at h
  | some o =>
    rw [preds_at ho] at h
    obtain ⟨e, h1, h2, h3⟩ := predM_bit h
    have hlt := edge_lt he ho h1 h2
    refine ⟨o, e, rfl, h1, h2, hlt, ?_⟩
    rcases h3 with h3 | h3
    · exact .inl h3
    · rw [take_getD hlt] at h3; exact .inr h3

theorem bfr_lt {ops : List Oper} (he : ∀ i o, ops[i]? = some o → edgesOk o i = true) : ∀ (i p : Nat), bfr (predsGo ops []) p i = true → p < i := by
  intro i
  induction i using Nat.strongRecOn with
  | _ i ih =>
    intro p h
    obtain ⟨o, e, _, _, _, hlt, h⟩ := bfr_edge he h
    rcases h with rfl | h
    · exact hlt
    · exact Nat.lt_trans (ih _ hlt p h) hlt

/-- All that an operation is directly ordered behind is done. -/
def Direct (ops : List Oper) (S : Nat → Bool) (i : Nat) : Prop := ∀ o e, ops[i]? = some o → e ∈ o.after.toList → Region.binds .any e = true → S e.on = true

theorem closed {ops : List Oper} (he : ∀ i o, ops[i]? = some o → edgesOk o i = true) {S : Nat → Bool} (hS : ∀ i, S i = true → Direct ops S i) :
    ∀ (i : Nat), Direct ops S i → ∀ p, bfr (predsGo ops []) p i = true → S p = true := by
  intro i
  induction i using Nat.strongRecOn with
  | _ i ih =>
    intro hd p h
    obtain ⟨o, e, ho, hm, hb, hlt, h⟩ := bfr_edge he h
    have := hd o e ho hm hb
    rcases h with rfl | h
    · exact this
    · exact ih _ hlt (hS _ this) p h

/-! What the check says -/

structure Stat (na : Nat) (ops : List Oper) (l : List AO) : Prop where
  len : l.length = ops.length
  edges : ∀ i o, ops[i]? = some o → edgesOk o i = true
  tmps : ∀ i o t j, l[i]? = some o → t ∈ o.looks ∨ o.dst = some t → i ≠ j → dstOf l j = some t → bfr (predsGo ops []) i j = true ∨ bfr (predsGo ops []) j i = true
  xs : ∀ i j, isX l i = true → isX l j = true → i ≠ j → bfr (predsGo ops []) i j = true ∨ bfr (predsGo ops []) j i = true
  as_ : ∀ i, isA l i = true → kOf l i < na
  as2 : ∀ i j, isA l i = true → isA l j = true → kOf l i = kOf l j → i = j

theorem isX_lt {l : List AO} {i : Nat} (h : isX l i = true) : i < l.length := by
  unfold isX at h
  cases hl : l[i]? with
  | none => rw [hl] at h; cases h
  | some o => exact (List.getElem?_eq_some_iff.1 hl).1
theorem isA_lt {l : List AO} {i : Nat} (h : isA l i = true) : i < l.length := by
  unfold isA at h
  cases hl : l[i]? with
  | none => rw [hl] at h; cases h
  | some o => exact (List.getElem?_eq_some_iff.1 hl).1
theorem dstOf_lt {l : List AO} {i : Nat} {t : List Bool} (h : dstOf l i = some t) : i < l.length := by
  unfold dstOf at h
  cases hl : l[i]? with
  | none => rw [hl] at h; cases h
  | some o => exact (List.getElem?_eq_some_iff.1 hl).1

theorem chkD_stat {na : Nat} {ops : List Oper} {l : List AO} (hlen : l.length = ops.length) (h : chkD na ops (predsGo ops []) l = true) : Stat na ops l := by
  unfold chkD at h
  rw [Bool.and_eq_true, List.all_eq_true, List.all_eq_true] at h
  obtain ⟨h1, h2⟩ := h
  have e1 : ∀ i o, ops[i]? = some o → edgesOk o i = true := fun i o ho => by
    have := h1 i (List.mem_range.2 (List.getElem?_eq_some_iff.1 ho).1)
    rw [ho] at this; exact this
  have e2 : ∀ i o, l[i]? = some o → _ := fun i o (ho : l[i]? = some o) => by
    have := h2 i (List.mem_range.2 (List.getElem?_eq_some_iff.1 ho).1)
    rw [ho] at this
    simp only [Bool.and_eq_true] at this
    exact this
  have ex : ∀ i, isX l i = true → ∃ o, l[i]? = some o := fun i hi => ⟨_, List.getElem?_eq_getElem (isX_lt hi)⟩
  have ea : ∀ i, isA l i = true → ∃ o, l[i]? = some o := fun i hi => ⟨_, List.getElem?_eq_getElem (isA_lt hi)⟩
  refine ⟨hlen, e1, ?_, ?_, ?_, ?_⟩
  · intro i o t j ho ht hij hd
    have h3 := (e2 i o ho).1.1
    rw [List.all_eq_true] at h3
    have h4 := h3 t (by
      rw [List.mem_append]
      rcases ht with ht | ht
      · exact .inl ht
      · exact .inr (by rw [ht]; simp))
    rw [List.all_eq_true] at h4
    have h5 := h4 j (List.mem_range.2 (dstOf_lt hd))
    simp only [Bool.or_eq_true, beq_iff_eq, bne_iff_ne, ne_eq] at h5
    rcases h5 with ((h5 | h5) | h5) | h5
    · exact absurd h5 hij
    · exact absurd hd h5
    · exact .inl h5
    · exact .inr h5
  · intro i j hi hj hij
    obtain ⟨o, ho⟩ := ex i hi
    have h3 := (e2 i o ho).1.2
    rw [hi] at h3
    simp only [Bool.not_true, Bool.false_or, List.all_eq_true] at h3
    have h5 := h3 j (List.mem_range.2 (isX_lt hj))
    rw [hj] at h5
    simp only [Bool.not_true, Bool.or_false, Bool.or_eq_true, beq_iff_eq] at h5
    rcases h5 with (h5 | h5) | h5
    · exact absurd h5 hij
    · exact .inl h5
    · exact .inr h5
  · intro i hi
    obtain ⟨o, ho⟩ := ea i hi
    have h3 := (e2 i o ho).2
    rw [hi] at h3
    simp only [Bool.not_true, Bool.false_or, Bool.and_eq_true, decide_eq_true_eq] at h3
    have : kOf l i = o.k := by unfold kOf; rw [ho]
    rw [this]; exact h3.1
  · intro i j hi hj hk
    obtain ⟨o, ho⟩ := ea i hi
    have h3 := (e2 i o ho).2
    rw [hi] at h3
    simp only [Bool.not_true, Bool.false_or, Bool.and_eq_true, List.all_eq_true] at h3
    have h5 := h3.2 j (List.mem_range.2 (isA_lt hj))
    rw [hj] at h5
    simp only [Bool.not_true, Bool.or_false, Bool.or_eq_true, beq_iff_eq, bne_iff_ne, ne_eq] at h5
    have : kOf l i = o.k := by unfold kOf; rw [ho]
    rcases h5 with h5 | h5
    · exact h5
    · exact absurd (hk.symm.trans this) h5

/-! Counting those that may do anything -/

theorem cX_succ (l : List AO) (i : Nat) : cX l (i + 1) = cX l i + (if isX l i = true then 1 else 0) := by
  unfold cX
  rw [List.range_succ, List.filter_append, List.length_append]
  by_cases h : isX l i = true
  · rw [if_pos h]; simp [h]
  · rw [if_neg h]
    have : isX l i = false := by simpa using h
    simp [this]

theorem cX_mono (l : List AO) {i j : Nat} (h : i ≤ j) : cX l i ≤ cX l j := by
  induction j with
  | zero => simp only [Nat.le_zero] at h; subst h; exact Nat.le_refl _
  | succ j ih =>
    by_cases he : i = j + 1
    · subst he; exact Nat.le_refl _
    · rw [cX_succ]; exact Nat.le_trans (ih (by omega)) (Nat.le_add_right _ _)

theorem cX_lt {l : List AO} {x m : Nat} (hx : isX l x = true) : cX l x < cX l m ↔ x < m := by
  constructor
  · intro h
    by_cases hm : x < m
    · exact hm
    · exact absurd (cX_mono l (Nat.le_of_not_lt hm)) (by omega)
  · intro h
    have h1 := cX_mono l (show x + 1 ≤ m from h)
    rw [cX_succ, if_pos hx] at h1
    omega

/-! Frames -/

noncomputable def frS (l : List AO) (val : Nat → AV) (fr0 : T AV) (S : Nat → Bool) : Nat → T AV
  | 0 => fr0
  | m + 1 => if S m = true then setD (dstOf l m) (val m) (frS l val fr0 S m) else frS l val fr0 S m

theorem getV_setD (d : Option (List Bool)) (v : AV) (fr : T AV) (q : List Bool) : getV (setD d v fr) q = if d = some q then v else getV fr q := by
  cases d with
  | none => simp; rfl
  | some p =>
    show getV (T.set p v fr) q = _
    rw [getV_set]
    by_cases h : q = p
    · rw [if_pos h, if_pos (by rw [h])]
    · rw [if_neg h, if_neg (fun he => h (Option.some.inj he).symm)]

theorem frS_agree {l : List AO} {val : Nat → AV} {fr0 : T AV} {S S' : Nat → Bool} {t : List Bool} : ∀ {m : Nat}, (∀ j, j < m → dstOf l j = some t → S j = S' j) → getV (frS l val fr0 S m) t = getV (frS l val fr0 S' m) t
  | 0, _ => rfl
  | m + 1, h => by
    have ih := frS_agree (l := l) (val := val) (fr0 := fr0) (S := S) (S' := S') (t := t) (m := m) (fun j hj => h j (Nat.lt_succ_of_lt hj))
    simp only [frS]
    by_cases hd : dstOf l m = some t
    · rw [h m (Nat.lt_succ_self m) hd]
      split
      · rw [getV_setD, getV_setD, if_pos hd, if_pos hd]
      · exact ih
    · have : ∀ (S : Nat → Bool), getV (if S m = true then setD (dstOf l m) (val m) (frS l val fr0 S m) else frS l val fr0 S m) t = getV (frS l val fr0 S m) t := by
        intro S; split
        · rw [getV_setD, if_neg hd]
        · rfl
      rw [this, this]; exact ih

/-- With one operation more. -/
def addS (S : Nat → Bool) (i : Nat) : Nat → Bool := fun j => if j = i then true else S j

theorem frS_add {l : List AO} {val : Nat → AV} {fr0 : T AV} {S : Nat → Bool} {i : Nat} (hi : S i = false) (hlast : ∀ j t, S j = true → dstOf l i = some t → dstOf l j = some t → j < i) (q : List Bool) :
    ∀ m, getV (frS l val fr0 (addS S i) m) q = if i < m then getV (setD (dstOf l i) (val i) (frS l val fr0 S m)) q else getV (frS l val fr0 S m) q
  | 0 => by rw [if_neg (Nat.not_lt_zero _)]; rfl
  | m + 1 => by
    have ih := frS_add (l := l) (val := val) (fr0 := fr0) hi hlast q m
    simp only [frS]
    by_cases hm : m = i
    · subst hm
      rw [if_neg (Nat.lt_irrefl _)] at ih
      rw [if_pos (Nat.lt_succ_self _)]
      have h1 : addS S m m = true := if_pos rfl
      rw [if_pos h1, if_neg (by rw [hi]; simp)]
      rw [getV_setD, getV_setD, ih]
    · have h1 : addS S i m = S m := if_neg hm
      rw [h1]
      by_cases hlt : i < m
      · rw [if_pos hlt] at ih
        rw [if_pos (by omega : i < m + 1)]
        by_cases hS : S m = true
        · rw [if_pos hS, if_pos hS, getV_setD, ih, getV_setD, getV_setD, getV_setD]
          by_cases hd : dstOf l m = some q
          · rw [if_pos hd]
            by_cases hd2 : dstOf l i = some q
            · have := hlast m q hS hd2 hd; omega
            · rw [if_neg hd2, if_pos hd]
          · rw [if_neg hd, if_neg hd]
        · rw [if_neg hS, if_neg hS]; exact ih
      · rw [if_neg hlt] at ih
        rw [if_neg (by omega : ¬ i < m + 1)]
        by_cases hS : S m = true
        · rw [if_pos hS, if_pos hS, getV_setD, getV_setD, ih]
        · rw [if_neg hS, if_neg hS]; exact ih

end Go.Ev

/- Regions that draw their order: the states of the run, and every order. -/
namespace Go.Ev

section
variable {call : CallF} {base na : Nat} {d : DO} {s s' : DS} {v : AV}

theorem SI.fr (h : SI call base na d s s' v) : s'.fr = setD d.o.dst v s.fr := by cases h <;> rfl
theorem SI.cur (h : SI call base na d s s' v) (hc : d.o.op.cls ≠ .X) : s'.cur = s.cur ∧ s'.old = s.old := by
  cases h <;> first | exact ⟨rfl, rfl⟩ | (rename_i hx; exact absurd hx hc) | (rename_i hx _ _; exact absurd hx hc)
theorem SI.curX (h : SI call base na d s s' v) (hc : d.o.op.cls = .X) : s'.old = s.cur :: s.old ∧ s'.cur.cons = d.ks ++ s.cur.cons := by
  cases h with
  | skip _ hx => exact absurd hc hx
  | skipX _ _ => exact ⟨rfl, cat_eq _ _⟩
  | N _ _ _ hx _ => rw [hx] at hc; cases hc
  | R _ _ _ hx _ => rw [hx] at hc; cases hc
  | A _ _ _ hx _ => rw [hx] at hc; cases hc
  | X _ _ _ _ _ _ => exact ⟨rfl, cat_eq _ _⟩
theorem SI.mk (h : SI call base na d s s' v) : s'.mks = s.mks ∨ (d.o.op.cls = .A ∧ ∃ b, s'.mks = ⟨d.o.k, path (base + d.o.k), b⟩ :: s.mks) := by
  cases h with
  | skip => exact .inl rfl
  | skipX => exact .inl rfl
  | N => exact .inl rfl
  | R => exact .inl rfl
  | A v h' hw hc hr =>
    cases hg : h'.get (path (base + d.o.k)) with
    | none => exact .inl rfl
    | some b => exact .inr ⟨hc, b, rfl⟩
  | X => exact .inl rfl
theorem SI.rs (h : SI call base na d s s' v) : ∀ r ∈ s.rs, r ∈ s'.rs := by
  cases h with
  | R v h' hw hc hr =>
    intro r hr
    show r ∈ (List.rec s.rs (fun _ _ _ => ⟨d.o.op, s.fr, v, d.ks, d.js⟩ :: s.rs) d.js : List Rd)
    cases d.js with
    | nil => exact hr
    | cons j js => exact List.mem_cons_of_mem _ hr
  | _ => exact fun _ hr => hr
end

theorem revOnto_eq {α : Type} : ∀ (l a : List α), revOnto l a = l.reverse ++ a
  | [], a => rfl
  | x :: l, a => by
    show revOnto l (x :: a) = _
    rw [revOnto_eq l]; simp

/-- The heaps of all moments. -/
noncomputable def hsOf (s : DS) : List Bh := revOnto s.old [s.cur]

/-- What the compiler lays for an operation. -/
def doOf (Pm : List Nat) (l : List AO) (o : AO) (i : Nat) : DO := ⟨o, ksOf Pm l i, if isR o then (jsOf Pm l i).filter (fun j => j != cX l i) else []⟩

theorem drawOf_get {Pm : List Nat} {l : List AO} {i : Nat} {o : AO} (h : l[i]? = some o) : (drawOf Pm l)[i]? = some (doOf Pm l o i) := by
  unfold drawOf
  rw [List.getElem?_map, List.getElem?_zipIdx, h]
  simp [doOf]

section
variable {call : CallF} {base na : Nat} {ops : List Oper} {l : List AO} {σ : Nat → DS} {val : Nat → AV}

/-- A run in the text's order. -/
structure Run (call : CallF) (base na : Nat) (ops : List Oper) (l : List AO) (σ : Nat → DS) (val : Nat → AV) : Prop where
  stat : Stat na ops l
  si : ∀ i o, l[i]? = some o → SI call base na (doOf (predsGo ops []) l o i) (σ i) (σ (i + 1)) (val i)
  mk0 : (σ 0).mks = []
  cons0 : (σ 0).cur.cons = []
  old0 : (σ 0).old = []
  free0 : ∀ k, k < na → (σ 0).cur.h.get (path (base + k)) = none

theorem at_ {i : Nat} (h : i < l.length) : ∃ o, l[i]? = some o := ⟨_, List.getElem?_eq_getElem h⟩

theorem isX_of {i : Nat} {o : AO} (h : l[i]? = some o) : isX l i = true ↔ o.op.cls = .X := by unfold isX; rw [h]; simp
theorem isA_of {i : Nat} {o : AO} (h : l[i]? = some o) : isA l i = true ↔ o.op.cls = .A := by unfold isA; rw [h]; simp
theorem kOf_of {i : Nat} {o : AO} (h : l[i]? = some o) : kOf l i = o.k := by unfold kOf; rw [h]
theorem dstOf_of {i : Nat} {o : AO} (h : l[i]? = some o) : dstOf l i = o.dst := by unfold dstOf; rw [h]

theorem mem_ksOf {Pm : List Nat} {i κ : Nat} : κ ∈ ksOf Pm l i ↔ ∃ a, isA l a = true ∧ bfr Pm a i = true ∧ kOf l a = κ := by
  unfold ksOf
  simp only [List.mem_map, List.mem_filter, List.mem_range, Bool.and_eq_true]
  constructor
  · rintro ⟨a, ⟨_, h1, h2⟩, h3⟩; exact ⟨a, h1, h2, h3⟩
  · rintro ⟨a, h1, h2, h3⟩; exact ⟨a, ⟨isA_lt h1, h1, h2⟩, h3⟩

namespace Run
variable (r : Run call base na ops l σ val)
include r

theorem lt {p i : Nat} (h : bfr (predsGo ops []) p i = true) : p < i := bfr_lt r.stat.edges i p h

theorem fr_eq (fr0 : T AV) (h0 : (σ 0).fr = fr0) : ∀ i, i ≤ l.length → (σ i).fr = frS l val fr0 (fun j => decide (j < i)) i := by
  have gen : ∀ i, i ≤ l.length → ∀ (S : Nat → Bool), (∀ j, j < i → S j = true) → (σ i).fr = frS l val fr0 S i := by
    intro i
    induction i with
    | zero => intro _ S _; exact h0
    | succ i ih =>
      intro hi S hS
      obtain ⟨o, ho⟩ := at_ (show i < l.length from hi)
      have h1 := (r.si i o ho).fr
      simp only [frS]
      rw [if_pos (hS i (Nat.lt_succ_self i)), h1, ih (by omega) S (fun j hj => hS j (by omega)), dstOf_of ho]
      rfl
  intro i hi
  exact gen i hi _ (fun j hj => by simpa using hj)

theorem mk_mono {i j : Nat} (h : i ≤ j) (hj : j ≤ l.length) : ∀ p ∈ (σ i).mks, p ∈ (σ j).mks := by
  induction j with
  | zero => simp only [Nat.le_zero] at h; subst h; exact fun _ h => h
  | succ j ih =>
    by_cases he : i = j + 1
    · subst he; exact fun _ h => h
    · intro p hp
      have hp := ih (by omega) (by omega) p hp
      obtain ⟨o, ho⟩ := at_ (show j < l.length from hj)
      rcases (r.si j o ho).mk with h1 | ⟨_, b, h1⟩
      · rw [h1]; exact hp
      · rw [h1]; exact List.mem_cons_of_mem _ hp

theorem rs_mono {i j : Nat} (h : i ≤ j) (hj : j ≤ l.length) : ∀ p ∈ (σ i).rs, p ∈ (σ j).rs := by
  induction j with
  | zero => simp only [Nat.le_zero] at h; subst h; exact fun _ h => h
  | succ j ih =>
    by_cases he : i = j + 1
    · subst he; exact fun _ h => h
    · intro p hp
      obtain ⟨o, ho⟩ := at_ (show j < l.length from hj)
      exact (r.si j o ho).rs p (ih (by omega) (by omega) p hp)

/-- Where a block was made. -/
theorem mk_from : ∀ i, i ≤ l.length → ∀ p ∈ (σ i).mks, p.id = path (base + p.k) ∧ ∃ a, a < i ∧ isA l a = true ∧ kOf l a = p.k ∧ p ∈ (σ (a + 1)).mks := by
  intro i
  induction i with
  | zero => intro _ p hp; rw [r.mk0] at hp; cases hp
  | succ i ih =>
    intro hi p hp
    obtain ⟨o, ho⟩ := at_ (show i < l.length from hi)
    have old : p ∈ (σ i).mks → p.id = path (base + p.k) ∧ ∃ a, a < i + 1 ∧ isA l a = true ∧ kOf l a = p.k ∧ p ∈ (σ (a + 1)).mks := fun hp => by
      obtain ⟨h1, a, h2, h3⟩ := ih (by omega) p hp
      exact ⟨h1, a, by omega, h3⟩
    rcases (r.si i o ho).mk with h1 | ⟨hc, b, h1⟩
    · rw [h1] at hp; exact old hp
    · have hp' := hp
      rw [h1] at hp
      rcases List.mem_cons.1 hp with rfl | hp
      · exact ⟨rfl, i, Nat.lt_succ_self i, (isA_of ho).2 hc, kOf_of ho, hp'⟩
      · exact old hp

theorem mk_unique : ∀ i, i ≤ l.length → ∀ p ∈ (σ i).mks, ∀ q ∈ (σ i).mks, p.k = q.k → p = q := by
  intro i
  induction i with
  | zero => intro _ p hp; rw [r.mk0] at hp; cases hp
  | succ i ih =>
    intro hi p hp q hq hk
    obtain ⟨o, ho⟩ := at_ (show i < l.length from hi)
    rcases (r.si i o ho).mk with h1 | ⟨hc, b, h1⟩
    · rw [h1] at hp hq; exact ih (by omega) p hp q hq hk
    · have no : ∀ q ∈ (σ i).mks, q.k ≠ o.k := fun q hq he => by
        obtain ⟨_, a, h2, h3, h4, _⟩ := r.mk_from i (by omega) q hq
        have := r.stat.as2 a i h3 ((isA_of ho).2 hc) (by rw [h4, kOf_of ho]; exact he)
        omega
      rw [h1] at hp hq
      rcases List.mem_cons.1 hp with rfl | hp <;> rcases List.mem_cons.1 hq with rfl | hq
      · rfl
      · exact absurd hk.symm (no q hq)
      · exact absurd hk (no p hp)
      · exact ih (by omega) p hp q hq hk

/-- A block of a making that stands before a place is there at that place. -/
theorem mk_at {i : Nat} (hi : i ≤ l.length) {p : Pd} (hp : p ∈ (σ l.length).mks) {a : Nat} (ha : isA l a = true) (hk : kOf l a = p.k) (hlt : a < i) : p ∈ (σ i).mks := by
  obtain ⟨_, a', _, h3, h4, h5⟩ := r.mk_from _ (Nat.le_refl _) p hp
  have := r.stat.as2 a a' ha h3 (hk.trans h4.symm)
  subst this
  exact r.mk_mono hlt hi p h5

/-- Where nothing was made there is no block. -/
theorem mk_none {i : Nat} {o : AO} (ho : l[i]? = some o) (h : (σ (i + 1)).mks = (σ i).mks) {p : Pd} (hp : p ∈ (σ l.length).mks) (ha : isA l i = true) : kOf l i ≠ p.k := by
  intro hk
  have hi := (List.getElem?_eq_some_iff.1 ho).1
  have h1 := r.mk_at hi hp ha hk (Nat.lt_succ_self i)
  rw [h] at h1
  obtain ⟨_, a', h2, h3, h4, _⟩ := r.mk_from i (Nat.le_of_lt hi) p h1
  have := r.stat.as2 i a' ha h3 (hk.trans h4.symm)
  omega

theorem cons_from : ∀ i, i ≤ l.length → ∀ κ ∈ (σ i).cur.cons, ∃ x, x < i ∧ isX l x = true ∧ κ ∈ ksOf (predsGo ops []) l x := by
  intro i
  induction i with
  | zero => intro _ κ h; rw [r.cons0] at h; cases h
  | succ i ih =>
    intro hi κ h
    obtain ⟨o, ho⟩ := at_ (show i < l.length from hi)
    by_cases hc : o.op.cls = .X
    · rw [((r.si i o ho).curX hc).2] at h
      rcases List.mem_append.1 h with h | h
      · exact ⟨i, Nat.lt_succ_self i, (isX_of ho).2 hc, h⟩
      · obtain ⟨x, h1, h2⟩ := ih (by omega) κ h
        exact ⟨x, by omega, h2⟩
    · rw [((r.si i o ho).cur hc).1] at h
      obtain ⟨x, h1, h2⟩ := ih (by omega) κ h
      exact ⟨x, by omega, h2⟩

/-- What a heap at a moment has. -/
theorem heapAt_mem {i : Nat} (hi : i ≤ l.length) {b : Bh} {ks : List Nat} {p : Pd} (hp : p ∈ (σ i).mks) (hk : p.k ∈ ks) (hc : p.k ∉ b.cons) : (heapAt b ks (σ i).mks).get p.id = some p.b := by
  unfold heapAt
  refine puts_mem (mem_selP.2 ⟨hp, hk, hc⟩) (fun q hq he => ?_)
  have hq := (mem_selP.1 hq).1
  have h1 := (r.mk_from i hi p hp).1
  have h2 := (r.mk_from i hi q hq).1
  have : base + q.k = base + p.k := path_inj (by rw [← h1, ← h2]; exact he)
  rw [r.mk_unique i hi q hq p hp (by omega)]

omit r in
theorem heapAt_not {mk : List Pd} {b : Bh} {ks : List Nat} {id : Id} (h : ∀ p ∈ mk, p.k ∈ ks → p.k ∉ b.cons → p.id ≠ id) : (heapAt b ks mk).get id = b.h.get id := by
  unfold heapAt
  exact puts_not (fun p hp => let ⟨h1, h2, h3⟩ := mem_selP.1 hp; h p h1 h2 h3)

theorem free : ∀ i, i ≤ l.length → ∀ k, k < na → k ∉ (σ i).cur.cons → (σ i).cur.h.get (path (base + k)) = none := by
  intro i
  induction i with
  | zero => intro _ k hk _; exact r.free0 k hk
  | succ i ih =>
    intro hi k hk hn
    obtain ⟨o, ho⟩ := at_ (show i < l.length from hi)
    have hsi := r.si i o ho
    by_cases hc : o.op.cls = .X
    · have hcons := (hsi.curX hc).2
      generalize hs1 : σ (i + 1) = s1 at hsi hn hcons ⊢
      generalize val i = v1 at hsi
      cases hsi with
      | skip _ hx => exact absurd hc hx
      | N _ _ _ hx _ => exact absurd (show o.op.cls = _ from hx) (by rw [hc]; simp)
      | R _ _ _ hx _ => exact absurd (show o.op.cls = _ from hx) (by rw [hc]; simp)
      | A _ _ _ hx _ => exact absurd (show o.op.cls = _ from hx) (by rw [hc]; simp)
      | skipX hw _ =>
        show (heapAt (σ i).cur _ (σ i).mks).get _ = none
        rw [hcons] at hn
        rw [heapAt_not]
        · exact ih (by omega) k hk (fun h => hn (List.mem_append_right _ h))
        · intro p hp hpk _ he
          rw [(r.mk_from i (by omega) p hp).1] at he
          have : p.k = k := by have := path_inj he; omega
          subst this
          exact hn (List.mem_append_left _ hpk)
      | X v h' hw _ hr hf =>
        have hf := freeOf_inv hf k hk
        rw [cat_eq] at hf
        rw [hcons] at hn
        exact hf hn
    · rw [(hsi.cur hc).1] at hn ⊢
      exact ih (by omega) k hk hn

theorem cur_const {m i : Nat} (hmi : m ≤ i) (hi : i ≤ l.length) (hx : ∀ x, m ≤ x → x < i → isX l x = false) : (σ i).cur = (σ m).cur := by
  induction i with
  | zero => simp only [Nat.le_zero] at hmi; subst hmi; rfl
  | succ i ih =>
    by_cases he : m = i + 1
    · subst he; rfl
    · obtain ⟨o, ho⟩ := at_ (show i < l.length from hi)
      have hc : o.op.cls ≠ .X := fun h => by
        have := hx i (by omega) (Nat.lt_succ_self i)
        rw [(isX_of ho).2 h] at this; cases this
      rw [((r.si i o ho).cur hc).1]
      exact ih (by omega) (by omega) (fun x h1 h2 => hx x h1 (by omega))

theorem cur_eq {m i : Nat} (hm : m ≤ l.length) (hi : i ≤ l.length) (hx : ∀ x, isX l x = true → (x < m ↔ x < i)) : (σ m).cur = (σ i).cur := by
  have no : ∀ (m i : Nat), (∀ x, isX l x = true → (x < m ↔ x < i)) → ∀ x, m ≤ x → x < i → isX l x = false := by
    intro m i hx x h1 h2
    cases h : isX l x with
    | false => rfl
    | true => have := (hx x h).2 h2; omega
  rcases Nat.le_total m i with h | h
  · exact (r.cur_const h hi (no m i hx)).symm
  · exact r.cur_const h hm (no i m (fun x h => (hx x h).symm))

theorem hist : ∀ i, i ≤ l.length → (hsOf (σ i)).length = cX l i + 1 ∧ ∀ m, m ≤ i → (hsOf (σ i))[cX l m]? = some (σ m).cur := by
  intro i
  induction i with
  | zero =>
    intro _
    have h0 : hsOf (σ 0) = [(σ 0).cur] := by unfold hsOf; rw [r.old0]; rfl
    have c0 : cX l 0 = 0 := rfl
    refine ⟨by rw [h0, c0]; rfl, fun m hm => ?_⟩
    have : m = 0 := by omega
    subst this
    rw [h0, c0]; rfl
  | succ i ih =>
    intro hi
    obtain ⟨h1, h2⟩ := ih (by omega)
    obtain ⟨o, ho⟩ := at_ (show i < l.length from hi)
    by_cases hc : o.op.cls = .X
    · have hh : hsOf (σ (i + 1)) = hsOf (σ i) ++ [(σ (i + 1)).cur] := by
        unfold hsOf
        rw [((r.si i o ho).curX hc).1, revOnto_eq, revOnto_eq]
        simp
      have hcx : cX l (i + 1) = cX l i + 1 := by rw [cX_succ, if_pos ((isX_of ho).2 hc)]
      refine ⟨by rw [hh, hcx]; simp [h1], fun m hm => ?_⟩
      by_cases he : m = i + 1
      · subst he
        rw [hh, hcx, List.getElem?_append_right (by omega), h1]
        simp
      · have := cX_mono l (show m ≤ i by omega)
        rw [hh, List.getElem?_append_left (by omega)]
        exact h2 m (by omega)
    · have hnx : isX l i = false := by
        cases h : isX l i with
        | false => rfl
        | true => exact absurd ((isX_of ho).1 h) hc
      have hh : hsOf (σ (i + 1)) = hsOf (σ i) := by
        unfold hsOf
        rw [((r.si i o ho).cur hc).1, ((r.si i o ho).cur hc).2]
      have hcx : cX l (i + 1) = cX l i := by rw [cX_succ, hnx]; rfl
      refine ⟨by rw [hh, hcx]; exact h1, fun m hm => ?_⟩
      by_cases he : m = i + 1
      · subst he
        rw [hh, hcx, ((r.si i o ho).cur hc).1]
        exact h2 i (Nat.le_refl _)
      · rw [hh]; exact h2 m (by omega)

end Run
end

end Go.Ev
