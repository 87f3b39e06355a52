/- The drawn numbers of FnNaked: a8At at three. -/
import Derived.Test.YtghnkhippmmdmaaGreatDoorEvNk
set_option linter.unusedVariables false
set_option linter.unusedSimpArgs false
set_option linter.all false

namespace Go.Ev
open Go.Proofs
set_option maxRecDepth 100000

def by1 (c : Nat) : List AV := [.i .u8 (.ofNat c)]

theorem wr_nat (n : Nat) (h : n ≤ 9223372036854775807) : wr .i64 (.ofNat n) = .ofNat n := by
  show cd (Nat.ble n 9223372036854775807) (Int.ofNat n) _ = _
  rw [Nat.ble_eq_true_of_le h]; rfl

/-- What is told of three numbers. -/
noncomputable def at3 (a b : Nat) (i m : Int) : R → H → Prop := fun r h => r = .ok (.i .i64 (Int.tmod (wr .i64 (wr .i64 (wr .i64 (wr .i64 (.ofNat a) * .ofNat 31) + wr .i64 (.ofNat b)) + wr .i64 (Int.tdiv i m))) (.ofNat 3))) h

theorem at_nil0 (n : Nat) (h : H) : evF tblL (n + 1) 4 [.isl 1 [], I 0, I 3] h = .ok (I 0) h := by kernel_rfl
theorem at_nil1 (n : Nat) (h : H) : evF tblL (n + 1) 4 [.isl 1 [], I 1, I 3] h = .ok (I 1) h := by kernel_rfl
theorem at_one0 (n : Nat) (h : H) (a : Nat) : evF tblL (n + 1) 4 [.isl 1 [by1 a], I 0, I 3] h =
    .ok (.i .i64 (Int.tmod (wr .i64 (wr .i64 (wr .i64 (wr .i64 (.ofNat a) * .ofNat 31) + wr .i64 (.ofNat a)) + wr .i64 (.ofNat 0))) (.ofNat 3))) h := by kernel_rfl
theorem at_one1 (n : Nat) (h : H) (a : Nat) : evF tblL (n + 1) 4 [.isl 1 [by1 a], I 1, I 3] h =
    .ok (.i .i64 (Int.tmod (wr .i64 (wr .i64 (wr .i64 (wr .i64 (.ofNat a) * .ofNat 31) + wr .i64 (.ofNat a)) + wr .i64 (.ofNat 1))) (.ofNat 3))) h := by kernel_rfl
theorem at_two0 (n : Nat) (h : H) (a b : Nat) : evF tblL (n + 1) 4 [.isl 1 [by1 a, by1 b], I 0, I 3] h =
    .ok (.i .i64 (Int.tmod (wr .i64 (wr .i64 (wr .i64 (wr .i64 (.ofNat a) * .ofNat 31) + wr .i64 (.ofNat b)) + wr .i64 (.ofNat 0))) (.ofNat 3))) h := by kernel_rfl
theorem at_two1 (n : Nat) (h : H) (a b : Nat) : evF tblL (n + 1) 4 [.isl 1 [by1 a, by1 b], I 1, I 3] h =
    .ok (.i .i64 (Int.tmod (wr .i64 (wr .i64 (wr .i64 (wr .i64 (.ofNat b) * .ofNat 31) + wr .i64 (.ofNat a)) + wr .i64 (.ofNat 0))) (.ofNat 3))) h := by kernel_rfl
theorem at_more0 (n : Nat) (h : H) (a b c : Nat) (r : List (List AV)) : evF tblL (n + 1) 4 [.isl 1 (by1 a :: by1 b :: by1 c :: r), I 0, I 3] h =
    .ok (.i .i64 (Int.tmod (wr .i64 (wr .i64 (wr .i64 (wr .i64 (.ofNat a) * .ofNat 31) + wr .i64 (.ofNat b)) + wr .i64 (Int.tdiv (.ofNat 0) (.ofNat (r.length + 3))))) (.ofNat 3))) h := by kernel_rfl
theorem at_more1 (n : Nat) (h : H) (a b c : Nat) (r : List (List AV)) : evF tblL (n + 1) 4 [.isl 1 (by1 a :: by1 b :: by1 c :: r), I 1, I 3] h =
    .ok (.i .i64 (Int.tmod (wr .i64 (wr .i64 (wr .i64 (wr .i64 (.ofNat b) * .ofNat 31) + wr .i64 (.ofNat c)) + wr .i64 (Int.tdiv (.ofNat 1) (.ofNat (r.length + 3))))) (.ofNat 3))) h := by kernel_rfl

/-- A number that is told is below three. -/
theorem low3 (a b k : Nat) (ha : a < 256) (hb : b < 256) (hk : k < 2) :
    ∃ v, v < 3 ∧ (Int.tmod (wr .i64 (wr .i64 (wr .i64 (wr .i64 (.ofNat a) * .ofNat 31) + wr .i64 (.ofNat b)) + wr .i64 (.ofNat k))) (.ofNat 3)) = .ofNat v := by
  rw [wr_nat a (by omega), wr_nat b (by omega), wr_nat k (by omega)]
  have h1 : (Int.ofNat a * Int.ofNat 31 : Int) = .ofNat (a * 31) := rfl
  rw [h1, wr_nat (a * 31) (by omega)]
  have h2 : (Int.ofNat (a * 31) + Int.ofNat b : Int) = .ofNat (a * 31 + b) := rfl
  rw [h2, wr_nat (a * 31 + b) (by omega)]
  have h3 : (Int.ofNat (a * 31 + b) + Int.ofNat k : Int) = .ofNat (a * 31 + b + k) := rfl
  rw [h3, wr_nat (a * 31 + b + k) (by omega)]
  exact ⟨(a * 31 + b + k) % 3, Nat.mod_lt _ (by omega), rfl⟩

theorem at_any (l : List Nat) (hl : ∀ c ∈ l, c < 256) (i : Nat) (hi : i < 2) : ∃ v, v < 3 ∧ ∀ n h, evF tblL (n + 1) 4 [.isl 1 (l.map by1), I i, I 3] h = .ok (I v) h := by
  have hi2 : i = 0 ∨ i = 1 := by omega
  match l, hl with
  | [], _ =>
    rcases hi2 with rfl | rfl
    · exact ⟨0, by omega, fun n h => at_nil0 n h⟩
    · exact ⟨1, by omega, fun n h => at_nil1 n h⟩
  | [a], hl =>
    have ha := hl a (by simp)
    rcases hi2 with rfl | rfl
    · obtain ⟨v, h1, h2⟩ := low3 a a 0 ha ha (by omega)
      exact ⟨v, h1, fun n h => (at_one0 n h a).trans (by rw [h2]; rfl)⟩
    · obtain ⟨v, h1, h2⟩ := low3 a a 1 ha ha (by omega)
      exact ⟨v, h1, fun n h => (at_one1 n h a).trans (by rw [h2]; rfl)⟩
  | [a, b], hl =>
    have ha := hl a (by simp)
    have hb := hl b (by simp)
    rcases hi2 with rfl | rfl
    · obtain ⟨v, h1, h2⟩ := low3 a b 0 ha hb (by omega)
      exact ⟨v, h1, fun n h => (at_two0 n h a b).trans (by rw [h2]; rfl)⟩
    · obtain ⟨v, h1, h2⟩ := low3 b a 0 hb ha (by omega)
      exact ⟨v, h1, fun n h => (at_two1 n h a b).trans (by rw [h2]; rfl)⟩
  | a :: b :: c :: r, hl =>
    have ha := hl a (by simp)
    have hb := hl b (by simp)
    have hc := hl c (by simp)
    rcases hi2 with rfl | rfl
    · obtain ⟨v, h1, h2⟩ := low3 a b 0 ha hb (by omega)
      refine ⟨v, h1, fun n h => (at_more0 n h a b c (r.map by1)).trans ?_⟩
      have : Int.tdiv (.ofNat 0) (.ofNat ((r.map by1).length + 3)) = .ofNat 0 := by
        show Int.ofNat (0 / ((r.map by1).length + 3)) = _
        rw [Nat.zero_div]
      rw [this, h2]; rfl
    · obtain ⟨v, h1, h2⟩ := low3 b c 0 hb hc (by omega)
      refine ⟨v, h1, fun n h => (at_more1 n h a b c (r.map by1)).trans ?_⟩
      have : Int.tdiv (.ofNat 1) (.ofNat ((r.map by1).length + 3)) = .ofNat 0 := by
        show Int.ofNat (1 / ((r.map by1).length + 3)) = _
        rw [Nat.div_eq_of_lt (by omega)]
      rw [this, h2]; rfl
end Go.Ev
