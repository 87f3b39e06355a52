/- FnNaked returns true in every world in which the package-level variables that it reads are laid. -/
import Derived.Test.YtghnkhippmmdmaaGreatDoorEvNa
import Derived.Test.YtghnkhippmmdmaaGreatDoorEvNln
import Derived.Test.YtghnkhippmmdmaaGreatDoorEvNl00
import Derived.Test.YtghnkhippmmdmaaGreatDoorEvNl01
import Derived.Test.YtghnkhippmmdmaaGreatDoorEvNl02
import Derived.Test.YtghnkhippmmdmaaGreatDoorEvNl10
import Derived.Test.YtghnkhippmmdmaaGreatDoorEvNl11
import Derived.Test.YtghnkhippmmdmaaGreatDoorEvNl12
import Derived.Test.YtghnkhippmmdmaaGreatDoorEvNl20
import Derived.Test.YtghnkhippmmdmaaGreatDoorEvNl21
import Derived.Test.YtghnkhippmmdmaaGreatDoorEvNl22
set_option linter.unusedVariables false
set_option linter.unusedSimpArgs false
set_option linter.all false

namespace Go.Ev
open Go.Proofs
set_option maxRecDepth 100000

theorem last_any (v0 v1 : Nat) (h0 : v0 < 3) (h1 : v1 < 3) (r : List (List AV)) : isT (outR (nkLast (evF tblL 199) v0 v1 (.isl 1 r))) = true := by
  rcases v0 with _ | _ | _ | v0
  · rcases v1 with _ | _ | _ | v1
    · exact congrFun last00 r
    · exact congrFun last01 r
    · exact congrFun last02 r
    · omega
  · rcases v1 with _ | _ | _ | v1
    · exact congrFun last10 r
    · exact congrFun last11 r
    · exact congrFun last12 r
    · omega
  · rcases v1 with _ | _ | _ | v1
    · exact congrFun last20 r
    · exact congrFun last21 r
    · exact congrFun last22 r
    · omega
  · omega

theorem ev3 (r : List (List AV)) : evF tblL 200 3 [.isl 1 r] ⟨0, .e⟩ = outR (evC (evF tblL 199) f3.body (argsFrom [.isl 1 r] 0 .e) ⟨0, .e⟩) := by kernel_rfl

theorem nk_true (l : List Nat) (hl : ∀ c ∈ l, c < 256) : ∃ h', evF tblL 200 3 [.isl 1 (l.map by1)] ⟨0, .e⟩ = .ok (.b true) h' := by
  rw [ev3]
  cases hb : Nat.ble (l.map by1).length 1048576 with
  | false =>
    rw [nk_body, evC_seq, nk_A, thenC_ok, evC_seq, evC_seq, nk_Br, thenC_ok, nk_Bc, hb]
    exact ⟨_, rfl⟩
  | true =>
    obtain ⟨v0, h0, hc0⟩ := at_any l hl 0 (by omega)
    obtain ⟨v1, h1, hc1⟩ := at_any l hl 1 (by omega)
    rw [nk_run hb h0 h1 (hc0 198) (hc1 198)]
    exact isT_true (last_any v0 v1 h0 h1 _)

theorem nk_nil : ∃ h', evF tblL 200 3 [nS] ⟨0, .e⟩ = .ok (.b true) h' := isT_true last_nil

theorem enters3 : ∀ args w, (callFunc 3 args).run Tryz.prog w = .ok (.enter 3 args) w := enters_of Tryz.func3 (by kernel_rfl) rfl

/-- A world as an environment that owns nothing. -/
def env0 (w : World) : Env := ⟨fun _ => (0, 1), ⟨0, .e⟩, w, ⟨fun _ => False, 0⟩⟩

theorem env0_get (w : World) (id : Id) : (env0 w).h.get id = none := by show T.get id .e = none; rw [T.get_e]
theorem env0_own (w : World) (b : Nat) : ¬ Own (env0 w) b := fun ⟨id, ⟨_, hb, _⟩, _⟩ => by rw [env0_get] at hb; cases hb
theorem env0_imm (w : World) (b : Nat) (h : b < w.heap.size) : Imm (env0 w) b := ⟨h, fun h => h, env0_own w b⟩
theorem env0_st (w : World) : St (env0 w) := {
  kn := fun id h => by simp [known, env0] at h
  dk := fun id b hb => by rw [env0_get] at hb; cases hb
  lo := Nat.le_refl 0
  blk := fun id b hb => by rw [env0_get] at hb; cases hb
  inj := fun id _ ⟨b, hb, _⟩ => by rw [env0_get] at hb; cases hb
  fr := fun b hb => hb.elim }

/-- The run, in a world. -/
theorem calls3 {w : World} {m : Int} {x : AV} {v : Value} (hx : ∃ h', evF tblL 200 3 [x] ⟨0, .e⟩ = .ok (.b true) h') (hg : GRel (Gm m) (env0 w)) (hr : Rel (env0 w) x v) :
    Calls Tryz.prog 3 #[v] w fun e w' => e = .returned (.bool true) ∧ w.heap.size ≤ w'.heap.size ∧ (∀ b, b < w.heap.size → w'.heap[b]? = w.heap[b]?) ∧ Qt w w' := by
  obtain ⟨h', hev⟩ := hx
  have hd := evF_sound (by kernel_rfl) (tblL_ok m) 200 3 [x] (.b true) h' (env0 w) [v] hev (env0_st w) hg (by simp only [RelL]; exact ⟨hr, trivial⟩)
  rcases hd with ⟨u, w', h1, _⟩ | ⟨_, h2⟩
  · have := enters3 [v].toArray w
    have h1 : (callFunc 3 [v].toArray).run Tryz.prog w = .ok (.value u) w' := h1
    rw [this] at h1
    cases h1
  · refine h2.mono ?_
    rintro e w' ⟨cv, rfl, e', rfl, _, _, hext, hrel⟩
    simp only [Rel] at hrel
    subst hrel
    exact ⟨rfl, hext.heap, fun b hb => hext.keep b hb (env0_own w b), hext.qt⟩
end Go.Ev
