/- Tables of what was run, and that they may be looked up. -/
import Derived.Test.YtghnkhippmmdmaaGreatDoorEvTb
set_option linter.unusedVariables false
set_option linter.unusedSimpArgs false
set_option linter.all false

namespace Go.Ev
open Go.Proofs

theorem all_nil {α : Type} {Q : α → Prop} : ∀ x ∈ ([] : List α), Q x := fun _ h => by cases h
theorem all_cons {α : Type} {Q : α → Prop} {a : α} {l : List α} (h : Q a) (hl : ∀ x ∈ l, Q x) : ∀ x ∈ a :: l, Q x := fun x hx => by
  rcases List.mem_cons.1 hx with rfl | hx
  · exact h
  · exact hl x hx

structure Ent where
  n : Nat
  l : List Nat
  at_ : List (Nat × AV)

noncomputable def findN (l : List (Nat × AV)) (k : Nat) : Option AV := List.rec none (fun p _ r => cd (Nat.beq p.1 k) (some p.2) r) l
noncomputable def findL (t : List Ent) (s : List Nat) (k : Nat) : Option AV := List.rec none (fun q _ r => cd (sEq q.l s) (findN q.at_ k) r) t

theorem findN_mem : ∀ {l : List (Nat × AV)} {k : Nat} {v : AV}, findN l k = some v → (k, v) ∈ l
  | [], k, v, h => by cases h
  | (j, u) :: l, k, v, h => by
    have h2 : cd (Nat.beq j k) (some u) (findN l k) = some v := h
    cases hb : Nat.beq j k with
    | true =>
      rw [hb] at h2
      obtain rfl := Nat.eq_of_beq_eq_true hb
      obtain rfl := Option.some.inj (show some u = some v from h2)
      exact List.mem_cons_self ..
    | false => rw [hb] at h2; exact List.mem_cons_of_mem _ (findN_mem h2)

theorem sEq_true : ∀ {a b : List Nat}, sEq a b = true → a = b
  | [], [], _ => rfl
  | [], _ :: _, h => by cases h
  | _ :: _, [], h => by cases h
  | x :: a, y :: b, h => by
    have h2 : cd (Nat.beq x y) (sEq a b) false = true := h
    cases hb : Nat.beq x y with
    | true => rw [hb] at h2; rw [Nat.eq_of_beq_eq_true hb, sEq_true h2]
    | false => rw [hb] at h2; cases h2

theorem findL_mem : ∀ {t : List Ent} {s : List Nat} {k : Nat} {v : AV}, findL t s k = some v → ∃ q ∈ t, q.l = s ∧ (k, v) ∈ q.at_
  | [], _, _, _, h => by cases h
  | q :: t, s, k, v, h => by
    have h2 : cd (sEq q.l s) (findN q.at_ k) (findL t s k) = some v := h
    cases hb : sEq q.l s with
    | true => rw [hb] at h2; exact ⟨q, List.mem_cons_self .., sEq_true hb, findN_mem h2⟩
    | false =>
      rw [hb] at h2
      obtain ⟨q', h3, h4⟩ := findL_mem h2
      exact ⟨q', List.mem_cons_of_mem _ h3, h4⟩

/-- A function of a string and a number. -/
noncomputable def xSN (t : List Ent) (args : List AV) : Option AV := match args with
  | [.s _ l, .i .i64 (.ofNat k)] => findL t l k
  | _ => none
/-- A function of a string: its values stand at 0. -/
noncomputable def xS (t : List Ent) (args : List AV) : Option AV := match args with
  | [.s _ l] => findL t l 0
  | _ => none

def SN (tbl : Nat → FT) (f : Nat) (q : Ent) : Prop := q.n = q.l.length ∧ ∀ p ∈ q.at_, runF tbl 200 f [.s q.n q.l, .i .i64 (.ofNat p.1)] = some p.2
def S1 (tbl : Nat → FT) (f : Nat) (q : Ent) : Prop := q.n = q.l.length ∧ ∀ p ∈ q.at_, runF tbl 200 f [.s q.n q.l] = some p.2

theorem xSN_sound {m : Int} {tbl : Nat → FT} (ht : Tbl Tryz.prog (Gm m) tbl) {f : Nat} {t : List Ent} (h : ∀ q ∈ t, SN tbl f q) :
    ∀ args v, xSN t args = some v → ∀ e vs, St e → GRel (Gm m) e → RelL e args vs → Does Tryz.prog f vs.toArray e.w (fun cv w' => ∃ e', e'.w = w' ∧ e'.h = e.h ∧ St e' ∧ Ext e e' ∧ Rel e' v cv) := by
  intro args v hx e vs hs hg hr
  unfold xSN at hx
  split at hx
  · rename_i n l k
    obtain ⟨q, hq, rfl, hk⟩ := findL_mem hx
    obtain ⟨h1, h2⟩ := h q hq
    have hn : n = q.n := by
      obtain ⟨_, _, _, hr1, _⟩ := rel2 hr
      simp only [Rel] at hr1
      rw [h1]; exact hr1.1
    subst hn
    exact runF_sound ht (by rfl) (h2 _ hk) e vs hs hg hr
  · cases hx

theorem xS_sound {m : Int} {tbl : Nat → FT} (ht : Tbl Tryz.prog (Gm m) tbl) {f : Nat} {t : List Ent} (h : ∀ q ∈ t, S1 tbl f q) :
    ∀ args v, xS t args = some v → ∀ e vs, St e → GRel (Gm m) e → RelL e args vs → Does Tryz.prog f vs.toArray e.w (fun cv w' => ∃ e', e'.w = w' ∧ e'.h = e.h ∧ St e' ∧ Ext e e' ∧ Rel e' v cv) := by
  intro args v hx e vs hs hg hr
  unfold xS at hx
  split at hx
  · rename_i n l
    obtain ⟨q, hq, rfl, hk⟩ := findL_mem hx
    obtain ⟨h1, h2⟩ := h q hq
    have hn : n = q.n := by
      match vs, hr with
      | [u], hr =>
        simp only [RelL, Rel] at hr
        rw [h1]; exact hr.1.1
      | [], hr => simp [RelL] at hr
      | _ :: _ :: _, hr => simp [RelL] at hr
    subst hn
    exact runF_sound ht (by rfl) (h2 _ hk) e vs hs hg hr
  · cases hx
end Go.Ev
