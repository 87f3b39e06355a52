/- The program's externs: what the evaluator takes from the library's contracts, and the globals. -/
import Derived.Test.YtghnkhippmmdmaaGreatDoorEvK
import Derived.Test.YtghnkhippmmdmaaGreatDoorProg
import Derived.Shelf.Strings.Search2
import Derived.Shelf.Strings.Count
import Derived.KernelRfl
set_option linter.unusedVariables false
set_option linter.unusedSimpArgs false
set_option linter.all false

namespace Go.Proofs
def Tryz.lays217_ren : Go.Shelf.Ren := ⟨fun | 217 => 144 | 266 => 198 | n => n, fun | 9 => 9 | 5 => 5 | 3 => 3 | n => n, fun | n => n⟩
theorem Tryz.lays217 : Go.Proofs.Lays.n217 Tryz.prog Tryz.lays217_ren := {
  mixed := by kernel_rfl
  f217 := Tryz.func144.trans (congrArg some (by kernel_rfl))
  f266 := Tryz.func198.trans (congrArg some (by kernel_rfl))
  t3 := Tryz.underlying3
  a3 := Tryz.isAgg3
  z3 := Tryz.sizeOf3
  v3 := Tryz.zeroValue3
  t5 := Tryz.underlying5
  a5 := Tryz.isAgg5
  z5 := Tryz.sizeOf5
  v5 := Tryz.zeroValue5
  t9 := Tryz.underlying9
  a9 := Tryz.isAgg9
  z9 := Tryz.sizeOf9
  v9 := Tryz.zeroValue9 }
def Tryz.lays219_ren : Go.Shelf.Ren := ⟨fun | 219 => 89 | 217 => 144 | 225 => 145 | 224 => 146 | 267 => 147 | 266 => 198 | 314 => 199 | n => n, fun | 9 => 9 | 3 => 3 | 4 => 4 | 5 => 5 | 46 => 220 | 146 => 269 | 51 => 268 | n => n, fun | 1 => 0 | n => n⟩
theorem Tryz.lays219 : Go.Proofs.Lays.n219 Tryz.prog Tryz.lays219_ren := {
  mixed := by kernel_rfl
  f217 := Tryz.func144.trans (congrArg some (by kernel_rfl))
  f219 := Tryz.func89.trans (congrArg some (by kernel_rfl))
  f224 := Tryz.func146.trans (congrArg some (by kernel_rfl))
  f225 := Tryz.func145.trans (congrArg some (by kernel_rfl))
  f266 := Tryz.func198.trans (congrArg some (by kernel_rfl))
  f267 := Tryz.func147.trans (congrArg some (by kernel_rfl))
  f314 := Tryz.func199.trans (congrArg some (by kernel_rfl))
  t3 := Tryz.underlying3
  a3 := Tryz.isAgg3
  z3 := Tryz.sizeOf3
  v3 := Tryz.zeroValue3
  t4 := Tryz.underlying4
  a4 := Tryz.isAgg4
  z4 := Tryz.sizeOf4
  v4 := Tryz.zeroValue4
  t5 := Tryz.underlying5
  a5 := Tryz.isAgg5
  z5 := Tryz.sizeOf5
  v5 := Tryz.zeroValue5
  t9 := Tryz.underlying9
  a9 := Tryz.isAgg9
  z9 := Tryz.sizeOf9
  v9 := Tryz.zeroValue9
  t46 := Tryz.underlying220
  a46 := Tryz.isAgg220
  z46 := Tryz.sizeOf220
  v46 := Tryz.zeroValue220
  t51 := Tryz.underlying268
  a51 := Tryz.isAgg268
  z51 := Tryz.sizeOf268
  v51 := Tryz.zeroValue268
  t146 := Tryz.underlying269
  a146 := Tryz.isAgg269
  z146 := Tryz.sizeOf269
  v146 := Tryz.zeroValue269
  g1 := by kernel_rfl }
def Tryz.lays138_ren : Go.Shelf.Ren := ⟨fun | 138 => 186 | 195 => 249 | 218 => 250 | 143 => 60 | 219 => 89 | 217 => 144 | 225 => 145 | 224 => 146 | 267 => 147 | 266 => 198 | 314 => 199 | n => n, fun | 9 => 9 | 3 => 3 | 4 => 4 | 5 => 5 | 0 => 0 | 46 => 220 | 146 => 269 | 51 => 268 | n => n, fun | 1 => 0 | n => n⟩
theorem Tryz.lays138 : Go.Proofs.Lays.n138 Tryz.prog Tryz.lays138_ren := {
  mixed := by kernel_rfl
  f138 := Tryz.func186.trans (congrArg some (by kernel_rfl))
  f143 := Tryz.func60.trans (congrArg some (by kernel_rfl))
  f195 := Tryz.func249.trans (congrArg some (by kernel_rfl))
  f217 := Tryz.func144.trans (congrArg some (by kernel_rfl))
  f218 := Tryz.func250.trans (congrArg some (by kernel_rfl))
  f219 := Tryz.func89.trans (congrArg some (by kernel_rfl))
  f224 := Tryz.func146.trans (congrArg some (by kernel_rfl))
  f225 := Tryz.func145.trans (congrArg some (by kernel_rfl))
  f266 := Tryz.func198.trans (congrArg some (by kernel_rfl))
  f267 := Tryz.func147.trans (congrArg some (by kernel_rfl))
  f314 := Tryz.func199.trans (congrArg some (by kernel_rfl))
  t0 := Tryz.underlying0
  a0 := Tryz.isAgg0
  z0 := Tryz.sizeOf0
  v0 := Tryz.zeroValue0
  t3 := Tryz.underlying3
  a3 := Tryz.isAgg3
  z3 := Tryz.sizeOf3
  v3 := Tryz.zeroValue3
  t4 := Tryz.underlying4
  a4 := Tryz.isAgg4
  z4 := Tryz.sizeOf4
  v4 := Tryz.zeroValue4
  t5 := Tryz.underlying5
  a5 := Tryz.isAgg5
  z5 := Tryz.sizeOf5
  v5 := Tryz.zeroValue5
  t9 := Tryz.underlying9
  a9 := Tryz.isAgg9
  z9 := Tryz.sizeOf9
  v9 := Tryz.zeroValue9
  t46 := Tryz.underlying220
  a46 := Tryz.isAgg220
  z46 := Tryz.sizeOf220
  v46 := Tryz.zeroValue220
  t51 := Tryz.underlying268
  a51 := Tryz.isAgg268
  z51 := Tryz.sizeOf268
  v51 := Tryz.zeroValue268
  t146 := Tryz.underlying269
  a146 := Tryz.isAgg269
  z146 := Tryz.sizeOf269
  v146 := Tryz.zeroValue269
  g1 := by kernel_rfl }
end Go.Proofs
namespace Go.Ev
open Go.Proofs Go.Shelf

/-- The powers of ten. -/
def powC : List AV := [1, 10, 100, 1000, 10000, 100000, 1000000, 10000000, 100000000, 1000000000, 10000000000, 100000000000, 1000000000000, 10000000000000, 100000000000000, 1000000000000000, 10000000000000000, 100000000000000000, 1000000000000000000, 10000000000000000000].map fun n : Nat => AV.i .u64 (.ofNat n)

/-- What the package-level variables read as: internal/bytealg.MaxLen holds some integer, internal/strconv.uint64pow10 the powers of ten. -/
noncomputable def Gm (m : Int) (g : Nat) : Option (List AV) := cd (Nat.beq g 0) (some [.i .i64 m]) (cd (Nat.beq g 1) (some powC) none)

theorem Gm_plain (m : Int) : ∀ g cs, Gm m g = some cs → cs.all plain = true := by
  intro g cs h
  unfold Gm at h
  cases hb : Nat.beq g 0 with
  | true => rw [hb] at h; obtain rfl := Option.some.inj (show some [AV.i .i64 m] = some cs from h); rfl
  | false =>
    rw [hb] at h
    have h : cd (Nat.beq g 1) (some powC) none = some cs := h
    cases hb1 : Nat.beq g 1 with
    | true => rw [hb1] at h; obtain rfl := Option.some.inj (show some powC = some cs from h); rfl
    | false => rw [hb1] at h; cases h

theorem enters89 : ∀ args w, (callFunc 89 args).run Tryz.prog w = .ok (.enter 89 args) w := enters_of Tryz.func89 (by kernel_rfl) rfl
theorem enters144 : ∀ args w, (callFunc 144 args).run Tryz.prog w = .ok (.enter 144 args) w := enters_of Tryz.func144 (by kernel_rfl) rfl
theorem enters186 : ∀ args w, (callFunc 186 args).run Tryz.prog w = .ok (.enter 186 args) w := enters_of Tryz.func186 (by kernel_rfl) rfl

theorem value77 (x : Value) (w : World) : (callFunc 77 #[x]).run Tryz.prog w = .ok (.value x) w := by
  have h1 : Tryz.f77.name ≠ "runtime.NumGoroutine" := by
    have : (Tryz.f77.name == "runtime.NumGoroutine") = false := by kernel_rfl
    simpa using this
  have h2 : Tryz.f77.body = none := by rfl
  have h3 : Extern.findNext Tryz.f77 = none := by rfl
  have h4 : Extern.find Tryz.f77 = some Extern.AbiNoEscape.same := by rfl
  have h5 : (Extern.AbiNoEscape.same #[x]).run Tryz.prog w = .ok x w := rfl
  simp [callFunc, Tryz.func77, h1, h2, h3, h4, mark]
  rfl

/-- A compiled function is what the compiler gives. -/
def GoodF (q : Nat × AF) : Prop := ∃ fn, Tryz.prog.funcs[q.1]? = some fn ∧ (∀ m, compF Tryz.prog (Gm m) fn = some q.2) ∧ (fn.name == "runtime.NumGoroutine") = false

noncomputable def build (l : List (Nat × AF)) : T FT := List.rec .e (fun q _ t => T.set (path q.1) (.code q.2) t) l

theorem build_get : ∀ (l : List (Nat × AF)) (f : Nat) (x : FT), T.get (path f) (build l) = some x → ∃ a, (f, a) ∈ l ∧ x = .code a
  | [], f, x, h => by
    have h : T.get (path f) (T.e : T FT) = some x := h
    rw [T.get_e] at h; cases h
  | (k, a) :: l, f, x, h => by
    have h2 : T.get (path f) (T.set (path k) (.code a) (build l)) = some x := h
    rw [T.get_set] at h2
    split at h2
    · rename_i he
      obtain rfl := path_inj he
      exact ⟨a, List.mem_cons_self .., (Option.some.inj h2).symm⟩
    · obtain ⟨b, hb, hx⟩ := build_get l f x h2
      exact ⟨b, List.mem_cons_of_mem _ hb, hx⟩

theorem good_nil : ∀ q ∈ ([] : List (Nat × AF)), GoodF q := fun q h => by cases h
theorem good_cons {q : Nat × AF} {l : List (Nat × AF)} (h : GoodF q) (hl : ∀ x ∈ l, GoodF x) : ∀ x ∈ q :: l, GoodF x := fun x hx => by
  rcases List.mem_cons.1 hx with rfl | hx
  · exact h
  · exact hl x hx
theorem good_app {a b : List (Nat × AF)} (ha : ∀ q ∈ a, GoodF q) (hb : ∀ q ∈ b, GoodF q) : ∀ q ∈ a ++ b, GoodF q := fun x hx => (List.mem_append.1 hx).elim (ha x) (hb x)

/-- The table of the compiled functions. -/
theorem tbl_build {tree : T FT} {l : List (Nat × AF)} (ht : tree = build l) (hl : ∀ q ∈ l, GoodF q) (m : Int) : Tbl Tryz.prog (Gm m) (fun f => Option.rec .none (fun x => x) (T.get (path f) tree)) where
  code := fun f af h => by
    subst ht
    cases hg : T.get (path f) (build l) with
    | none => rw [hg] at h; cases h
    | some x =>
      rw [hg] at h
      obtain ⟨a, ha, rfl⟩ := build_get l f x hg
      have h : FT.code a = FT.code af := h
      injection h with h
      subst h
      obtain ⟨fn, h1, h2, h3⟩ := hl _ ha
      exact ⟨fn, h1, h2 m, h3⟩
  ext := fun f g h => by
    subst ht
    cases hg : T.get (path f) (build l) with
    | none => rw [hg] at h; cases h
    | some x =>
      rw [hg] at h
      obtain ⟨a, ha, rfl⟩ := build_get l f x hg
      cases h
  exth := fun f g h => by
    subst ht
    cases hg : T.get (path f) (build l) with
    | none => rw [hg] at h; cases h
    | some x =>
      rw [hg] at h
      obtain ⟨a, ha, rfl⟩ := build_get l f x hg
      cases h

end Go.Ev
