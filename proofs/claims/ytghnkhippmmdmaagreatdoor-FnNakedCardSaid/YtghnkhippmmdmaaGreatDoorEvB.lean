/- Soundness of the operations that leave memory alone: moves, picks, loads, addresses. -/
import Derived.Test.YtghnkhippmmdmaaGreatDoorEvA
import Derived.Laws.Slices
import Derived.Laws.Strings
import Derived.Sort.Walk0
set_option linter.unusedVariables false
set_option linter.unusedSimpArgs false

namespace Go.Ev
section
variable {P : Program} {G : Nat → Option (List AV)} {o : Oper} {e : Env} {a : Act} {fr : T AV} {call : CallF} {id : Nat} {ao : AOp} {v : AV} {h' : H}

theorem map_inv {α β : Type} {f : α → β} {x : Option α} {y : β} (h : x.map f = some y) : ∃ z, x = some z ∧ f z = y := by
  cases x with
  | none => simp at h
  | some z => exact ⟨z, rfl, by simpa using h⟩
theorem bind_inv {α β : Type} {f : α → Option β} {x : Option α} {y : β} (h : x.bind f = some y) : ∃ z, x = some z ∧ f z = some y := by
  cases x with
  | none => simp at h
  | some z => exact ⟨z, rfl, by simpa using h⟩

theorem sound_mv {x : Operand} (hs : St e) (hf : FrRel e fr a.tmps) (hg : GRel G e) (ho : o.op = .move x ∨ o.op = .assign x)
    (hc : (od G x).map AOp.mv = some ao) (hr : evOp call ao fr e.h id = .ok v h') : OpS P o e a v h' := by
  obtain ⟨y, hy, rfl⟩ := map_inv hc
  have h1 : R.ok (ev y fr) e.h = .ok v h' := hr
  injection h1 with h1 h2; subst h1 h2
  refine OpS.same hs ?_ (od_rel hf hg hy)
  rcases ho with ho | ho <;> simp [execOp, ho]

theorem rel_b {x : Bool} {cv : Value} (h : Rel e (.b x) cv) : cv = .bool x := by simpa [Rel] using h
theorem rel_i {k : IntKind} {n : Int} {cv : Value} (h : Rel e (.i k n) cv) : cv = .int k n := by simpa [Rel] using h
theorem rel_s {n : Nat} {l : List Nat} {cv : Value} (h : Rel e (.s n l) cv) : n = l.length ∧ (∀ c ∈ l, c < 256) ∧ cv = .string (strOf l) := by simpa [Rel] using h
theorem rel_p {i : Id} {off : Nat} {cv : Value} (h : Rel e (.p i off) cv) : known e i ∧ cv = .pointer (some ⟨(e.ρ i).1, (e.ρ i).2 + off, none⟩) := by simpa [Rel] using h

theorem sound_pick {c x y : Operand} (hs : St e) (hf : FrRel e fr a.tmps) (hg : GRel G e) (ho : o.op = .pick c x y)
    (hc : compOp P G (.pick c x y) = some ao) (hr : evOp call ao fr e.h id = .ok v h') : OpS P o e a v h' := by
  simp only [compOp] at hc
  obtain ⟨c', hc', hc⟩ := bind_inv hc
  obtain ⟨x', hx', hc⟩ := bind_inv hc
  obtain ⟨y', hy', rfl⟩ := map_inv hc
  have hr : (match ev c' fr with | .b b => .ok (cd b (ev x' fr) (ev y' fr)) e.h | _ => .no : R) = .ok v h' := hr
  have rc := od_rel hf hg hc'
  split at hr
  · rename_i b hb
    injection hr with h1 h2; subst h1 h2
    rw [hb] at rc
    have rc := rel_b rc
    refine OpS.same hs (cv := if b then a.eval x else a.eval y) ?_ ?_
    · cases b <;> simp [execOp, ho, rc, asBool]
    · cases b
      · exact od_rel hf hg hy'
      · exact od_rel hf hg hx'
  · exact absurd hr (by simp)

theorem cellAt_inv {x : AV} {h : H} {v : AV} (hr : cellAt x h = some v) :
    (∃ i off el l fz, x = .p i off ∧ h.get i = some (.cs el l fz) ∧ l[off]? = some v) ∨ (∃ cs off, x = .ip cs off ∧ cs[off]? = some v) := by
  cases x with
  | p i off =>
    have hr : blkNth (h.get i) off = some v := hr
    cases hb : h.get i with
    | none => rw [hb] at hr; exact absurd (show (none : Option AV) = some v from hr) (by simp)
    | some b =>
      rw [hb] at hr
      cases b with
      | cs el l fz =>
        have hr : nth l off = some v := hr
        rw [nth_eq] at hr
        exact .inl ⟨i, off, el, l, fz, rfl, hb, hr⟩
      | mp es => exact absurd (show (none : Option AV) = some v from hr) (by simp)
      | it s p => exact absurd (show (none : Option AV) = some v from hr) (by simp)
      | dead => exact absurd (show (none : Option AV) = some v from hr) (by simp)
  | ip cs off =>
    have hr : nth cs off = some v := hr
    rw [nth_eq] at hr
    exact .inr ⟨cs, off, rfl, hr⟩
  | _ => exact absurd (show (none : Option AV) = some v from hr) (by simp)

theorem cellsAt_inv {x : AV} {h : H} {n : Nat} {r : List AV} (hr : cellsAt x n h = some r) :
    (∃ i off el l fz, x = .p i off ∧ h.get i = some (.cs el l fz) ∧ cut l off n = some r) ∨ (∃ cs off, x = .ip cs off ∧ cut cs off n = some r) := by
  cases x with
  | p i off =>
    have hr : blkCut (h.get i) off n = some r := hr
    cases hb : h.get i with
    | none => rw [hb] at hr; exact absurd (show (none : Option (List AV)) = some r from hr) (by simp)
    | some b =>
      rw [hb] at hr
      cases b with
      | cs el l fz => exact .inl ⟨i, off, el, l, fz, rfl, hb, hr⟩
      | mp es => exact absurd (show (none : Option (List AV)) = some r from hr) (by simp)
      | it s p => exact absurd (show (none : Option (List AV)) = some r from hr) (by simp)
      | dead => exact absurd (show (none : Option (List AV)) = some r from hr) (by simp)
  | ip cs off => exact .inr ⟨cs, off, rfl, hr⟩
  | _ => exact absurd (show (none : Option (List AV)) = some r from hr) (by simp)

theorem RelCells.get : ∀ {cs : List AV} {b o' j : Nat} {x : AV}, RelCells e cs b o' → cs[j]? = some x → one x = true ∧ ∃ u, e.w.cell? ⟨b, o' + j, none⟩ = some u ∧ Rel e x u
  | [], _, _, _, _, _, h => by simp at h
  | y :: ys, b, o', 0, x, hr, h => by
    simp only [RelCells] at hr
    simp only [List.getElem?_cons_zero, Option.some.injEq] at h; subst h
    exact hr.1
  | y :: ys, b, o', j + 1, x, hr, h => by
    simp only [RelCells] at hr
    have := RelCells.get hr.2 (by simpa using h)
    rw [show o' + (j + 1) = o' + 1 + j by omega]; exact this

/-- What stands behind a pointer. -/
theorem ptr_cells {x : AV} {cv : Value} (hs : St e) (hx : Rel e x cv) {n : Nat} {r : List AV} (hr : cellsAt x n e.h = some r) (hn : 0 < n) :
    ∃ b o', cv = .pointer (some ⟨b, o', none⟩) ∧ r.length = n ∧ ∀ j y, r[j]? = some y → one y = true ∧ ∃ u, e.w.cell? ⟨b, o' + j, none⟩ = some u ∧ Rel e y u := by
  rcases cellsAt_inv hr with ⟨i, off, el, l, fz, rfl, hb, hcut⟩ | ⟨cs, off, rfl, hcut⟩
  · obtain ⟨_, rfl⟩ := rel_p hx
    obtain ⟨hl, hg⟩ := cut_get hcut
    refine ⟨_, _, rfl, hl, fun j y hy => ?_⟩
    have hj : j < n := by rw [← hl]; exact (List.getElem?_eq_some_iff.1 hy).1
    rw [hg j hj] at hy
    obtain ⟨c, fz', h1, h2, h3, _⟩ := hs.blk i _ hb
    obtain ⟨ho, u, hu, hru⟩ := h3 _ _ hy
    refine ⟨ho, u, ?_, hru⟩
    rw [cell_of_row _ _ _ _ _ _ h1, ← hu]; congr 1; omega
  · simp only [Rel] at hx
    obtain ⟨b, o', rfl, _, hrc⟩ := hx
    obtain ⟨hl, hg⟩ := cut_get hcut
    refine ⟨_, _, rfl, hl, fun j y hy => ?_⟩
    have hj : j < n := by rw [← hl]; exact (List.getElem?_eq_some_iff.1 hy).1
    rw [hg j hj] at hy
    have := RelCells.get hrc hy
    rw [← Nat.add_assoc] at this; exact this

theorem ptr_cell {x : AV} {cv : Value} (hs : St e) (hx : Rel e x cv) {r : AV} (hr : cellAt x e.h = some r) :
    ∃ ad u, cv = .pointer (some ad) ∧ e.w.cell? ad = some u ∧ Rel e r u ∧ one r = true := by
  rcases cellAt_inv hr with ⟨i, off, el, l, fz, rfl, hb, hl⟩ | ⟨cs, off, rfl, hl⟩
  · obtain ⟨_, rfl⟩ := rel_p hx
    obtain ⟨c, fz', h1, h2, h3, _⟩ := hs.blk i _ hb
    obtain ⟨ho, u, hu, hru⟩ := h3 _ _ hl
    exact ⟨_, u, rfl, by rw [cell_of_row _ _ _ _ _ _ h1]; exact hu, hru, ho⟩
  · simp only [Rel] at hx
    obtain ⟨b, o', rfl, _, hrc⟩ := hx
    obtain ⟨ho, u, hu, hru⟩ := RelCells.get hrc hl
    exact ⟨_, u, rfl, hu, hru, ho⟩

/-- Values that stand for the cells of an address on. -/
theorem relL_of : ∀ (r : List AV) (f : Nat → Option Value), (∀ j y, r[j]? = some y → ∃ u, f j = some u ∧ Rel e y u) →
    ∃ vs : List Value, RelL e r vs ∧ vs.length = r.length ∧ ∀ j u, vs[j]? = some u → f j = some u
  | [], f, _ => ⟨[], by simp [RelL], rfl, by simp⟩
  | y :: r, f, h => by
    obtain ⟨u, hu, hr⟩ := h 0 y (by simp)
    obtain ⟨vs, h1, h2, h3⟩ := relL_of r (fun j => f (j + 1)) (fun j z hz => h (j + 1) z (by simpa using hz))
    refine ⟨u :: vs, by simp only [RelL]; exact ⟨hr, h1⟩, by simp [h2], fun j w hw => ?_⟩
    cases j with
    | zero => simp only [List.getElem?_cons_zero, Option.some.injEq] at hw; subst hw; exact hu
    | succ j => exact h3 j w (by simpa using hw)

theorem Addr.add_none (b o' n : Nat) : (⟨b, o', none⟩ : Addr).add n = ⟨b, o' + n, none⟩ := by
  unfold Addr.add; split
  · rename_i h; subst h; rfl
  · rfl

theorem run_loadCells_at {P : Program} {w : World} (b o' : Nat) (vs : List Value) (h : ∀ j u, vs[j]? = some u → w.cell? ⟨b, o' + j, none⟩ = some u) :
    (loadCells ⟨b, o', none⟩ vs.length).run P w = .ok vs.toArray w :=
  run_loadCells_list _ _ vs (fun j u hu => by rw [Addr.add_none]; exact h j u hu)

theorem sound_load {t : TypeId} {x : Operand} (hs : St e) (hf : FrRel e fr a.tmps) (hg : GRel G e) (ho : o.op = .load t x)
    (hc : compOp P G (.load t x) = some ao) (hr : evOp call ao fr e.h id = .ok v h') : OpS P o e a v h' := by
  simp only [compOp] at hc
  obtain ⟨ag, hag, hc⟩ := bind_inv hc
  obtain ⟨n, hn, hc⟩ := bind_inv hc
  obtain ⟨y, hy, hc⟩ := map_inv hc
  have rx := od_rel hf hg hy
  cases ag with
  | false =>
    simp only [Bool.false_eq_true, if_false] at hc; subst hc
    have hr : okV e.h (cellAt (ev y fr) e.h) = .ok v h' := hr
    obtain ⟨hq, rfl⟩ := okV_inv hr
    obtain ⟨ad, u, hcv, hu, hru, _⟩ := ptr_cell hs rx hq
    refine OpS.same hs (cv := u) ?_ hru
    simp [execOp, ho, Instr.loadAt, hcv, Instr.sureAddr, loadVar, run_isAgg hag, hu]
  | true =>
    simp only [if_true] at hc; subst hc
    have hr : (Option.rec .no (fun l => .ok (.ag l) e.h) (cellsAt (ev y fr) n e.h) : R) = .ok v h' := hr
    cases hl : cellsAt (ev y fr) n e.h with
    | none => rw [hl] at hr; exact absurd (show R.no = .ok v h' from hr) (by simp)
    | some l =>
      rw [hl] at hr
      have hr : R.ok (.ag l) e.h = .ok v h' := hr
      injection hr with h1 h2; subst h1 h2
      rcases Nat.eq_zero_or_pos n with hz | hz
      · subst hz
        -- no cell at all
        have hl0 : l = [] := by
          rcases cellsAt_inv hl with ⟨_, _, _, _, _, _, _, hcut⟩ | ⟨_, _, _, hcut⟩ <;> exact List.eq_nil_of_length_eq_zero (cut_get hcut).1
        subst hl0
        have hcv : ∃ ad, a.eval x = .pointer (some ad) := by
          rcases cellsAt_inv hl with ⟨i, off, _, _, _, hx, _⟩ | ⟨cs, off, hx, _⟩
          · rw [hx] at rx; exact ⟨_, (rel_p rx).2⟩
          · rw [hx] at rx; simp only [Rel] at rx; obtain ⟨b, o', h, _⟩ := rx; exact ⟨_, h⟩
        obtain ⟨ad, hcv⟩ := hcv
        refine OpS.same hs (cv := .agg #[]) ?_ (by simp only [Rel]; exact ⟨by simp, #[], rfl, by simp [RelL]⟩)
        simp [execOp, ho, Instr.loadAt, hcv, Instr.sureAddr, loadVar, run_isAgg hag, run_size hn, loadCells, loadCellsFrom]
      · obtain ⟨b, o', hcv, hlen, hcell⟩ := ptr_cells hs rx hl hz
        obtain ⟨vs, hrel, hvl, hvs⟩ := relL_of l (fun j => e.w.cell? ⟨b, o' + j, none⟩) (fun j y hy => (hcell j y hy).2)
        have hone : ∀ c ∈ l, one c = true := fun c hc => by
          obtain ⟨j, hj⟩ := List.mem_iff_getElem?.1 hc
          exact (hcell j c hj).1
        refine OpS.same hs (cv := .agg vs.toArray) ?_ (by simp only [Rel]; exact ⟨hone, vs.toArray, rfl, hrel⟩)
        have hrun := run_loadCells_at (P := P) b o' vs hvs
        rw [hvl, hlen] at hrun
        simp [execOp, ho, Instr.loadAt, hcv, Instr.sureAddr, loadVar, run_isAgg hag, run_size hn, hrun]
end
end Go.Ev

/- Soundness of more operations that leave memory alone: numbers, strings, addresses of parts. -/
namespace Go.Ev

theorem wrap_in (k : IntKind) (n : Int) (h : k.min ≤ n ∧ n ≤ k.max) : k.wrap n = n := by
  cases k <;> simp only [IntKind.min, IntKind.max, IntKind.wrap, IntKind.bits, IntKind.signed, if_true, Bool.false_eq_true, if_false, Bool.true_and, Bool.false_and, ge_iff_le, decide_eq_true_eq] at * <;>
    first
    | omega
    | (split <;> rename_i hd <;> simp at hd <;> omega)

theorem kMax_eq (k : IntKind) : ((kMax k : Nat) : Int) = k.max := by
  cases k <;> rfl
theorem kNeg_eq (k : IntKind) : kNeg k = k.signed := by cases k <;> rfl
theorem min_eq (k : IntKind) : k.min = if k.signed then -k.max - 1 else 0 := by cases k <;> rfl

theorem wr_eq (k : IntKind) (n : Int) : wr k n = k.wrap n := by
  cases n with
  | ofNat m =>
    show cd (Nat.ble m (kMax k)) (Int.ofNat m) (k.wrap (.ofNat m)) = _
    rw [cd_eq, ble_nat]
    by_cases h : m ≤ kMax k
    · simp only [h, decide_true, if_true]
      symm; apply wrap_in
      have := kMax_eq k
      rw [min_eq]
      constructor
      · split
        · simp only [Int.ofNat_eq_natCast]; omega
        · simp
      · simp only [Int.ofNat_eq_natCast]; omega
    · simp [h]
  | negSucc m =>
    show cd (cd (kNeg k) (Nat.ble m (kMax k)) false) (Int.negSucc m) (k.wrap (.negSucc m)) = _
    rw [cd_eq, cd_eq, ble_nat, kNeg_eq]
    by_cases hs : k.signed = true
    · simp only [hs, if_true]
      by_cases h : m ≤ kMax k
      · simp only [h, decide_true, if_true]
        symm; apply wrap_in
        have := kMax_eq k
        rw [min_eq, if_pos hs]
        omega
      · simp [h]
    · simp [hs]

theorem kEq_eq (a b : IntKind) : kEq a b = decide (a = b) := by cases a <;> cases b <;> rfl

section
variable {P : Program} {G : Nat → Option (List AV)} {o : Oper} {e : Env} {a : Act} {fr : T AV} {call : CallF} {id : Nat} {ao : AOp} {v : AV} {h' : H}

theorem sound_nilc {x : Operand} (hs : St e) (hf : FrRel e fr a.tmps) (hg : GRel G e) (ho : o.op = .nilCheck x)
    (hc : compOp P G (.nilCheck x) = some ao) (hr : evOp call ao fr e.h id = .ok v h') : OpS P o e a v h' := by
  simp only [compOp] at hc
  obtain ⟨y, hy, rfl⟩ := map_inv hc
  have hr : nilA (ev y fr) (ev y fr) e.h = .ok v h' := hr
  have rx := od_rel hf hg hy
  have key : ∀ (cv : Value), a.eval x = cv → (match cv with | .pointer none | .nilIface | .nilFunc => False | .func (.method _) _ _ => False | _ => True) → Rel e v cv → e.h = h' → OpS P o e a v h' := by
    intro cv hcv hm hrel hh
    subst hh
    refine OpS.same hs (cv := cv) ?_ hrel
    simp only [execOp, ho, hcv]
    cases cv with
    | pointer p => cases p with
      | none => exact absurd hm (by simp)
      | some p => simp
    | func fn f c => cases fn with
      | method n => exact absurd hm (by simp)
      | _ => simp
    | nilIface => exact absurd hm (by simp)
    | nilFunc => exact absurd hm (by simp)
    | _ => simp
  generalize hw : ev y fr = x' at hr rx
  cases x' with
  | i k n => injection hr with h1 h2; subst h1; exact key _ (rel_i rx) (by simp) (by rw [← rel_i rx]; exact rx) h2
  | b n => injection hr with h1 h2; subst h1; exact key _ (rel_b rx) (by simp) (by rw [← rel_b rx]; exact rx) h2
  | s n l => injection hr with h1 h2; subst h1; exact key _ (rel_s rx).2.2 (by simp) (by rw [← (rel_s rx).2.2]; exact rx) h2
  | v n => exact absurd (show R.no = .ok v h' from hr) (by simp)
  | p i off => injection hr with h1 h2; subst h1; exact key _ (rel_p rx).2 (by simp) (by rw [← (rel_p rx).2]; exact rx) h2
  | sl i off sz n lo ex =>
    injection hr with h1 h2; subst h1
    have rx' := rx; simp only [Rel] at rx'
    obtain ⟨_, ad, cap, hv, _⟩ := rx'
    exact key _ hv (by simp) (by rw [← hv]; exact rx) h2
  | em =>
    injection hr with h1 h2; subst h1
    have rx' := rx; simp only [Rel] at rx'
    obtain ⟨ad, hv⟩ := rx'
    exact key _ hv (by simp) (by rw [← hv]; exact rx) h2
  | isl sz xs =>
    injection hr with h1 h2; subst h1
    have rx' := rx; simp only [Rel] at rx'
    obtain ⟨ad, cap, hv, _⟩ := rx'
    exact key _ hv (by simp) (by rw [← hv]; exact rx) h2
  | ip cs off =>
    injection hr with h1 h2; subst h1
    have rx' := rx; simp only [Rel] at rx'
    obtain ⟨b, o', hv, _⟩ := rx'
    exact key _ hv (by simp) (by rw [← hv]; exact rx) h2
  | f fn first cap =>
    cases fn with
    | func g =>
      injection hr with h1 h2; subst h1
      have rx' := rx; simp only [Rel] at rx'
      obtain ⟨vs, ws, hv, _⟩ := rx'
      exact key _ hv (by simp) (by rw [← hv]; exact rx) h2
    | _ => exact absurd (show R.no = .ok v h' from hr) (by simp)
  | ifc t z =>
    injection hr with h1 h2; subst h1
    have rx' := rx; simp only [Rel] at rx'
    obtain ⟨u, hv, _⟩ := rx'
    exact key _ hv (by simp) (by rw [← hv]; exact rx) h2
  | ag cs =>
    injection hr with h1 h2; subst h1
    have rx' := rx; simp only [Rel] at rx'
    obtain ⟨_, vs, hv, _⟩ := rx'
    exact key _ hv (by simp) (by rw [← hv]; exact rx) h2
  | tu cs =>
    injection hr with h1 h2; subst h1
    have rx' := rx; simp only [Rel] at rx'
    obtain ⟨vs, hv, _⟩ := rx'
    exact key _ hv (by simp) (by rw [← hv]; exact rx) h2
  | m i =>
    injection hr with h1 h2; subst h1
    have rx' := rx; simp only [Rel] at rx'
    exact key _ rx'.2 (by simp) (by rw [← rx'.2]; exact rx) h2
  | j => exact absurd (show R.no = .ok v h' from hr) (by simp)

theorem sound_fa {t : TypeId} {x : Operand} {f : Nat} (hs : St e) (hf : FrRel e fr a.tmps) (hg : GRel G e) (ho : o.op = .fieldAddr t x f)
    (hc : compOp P G (.fieldAddr t x f) = some ao) (hr : evOp call ao fr e.h id = .ok v h') : OpS P o e a v h' := by
  simp only [compOp] at hc
  obtain ⟨d, hd, hc⟩ := bind_inv hc
  split at hc
  · rename_i fs
    obtain ⟨fl, hfl, hc⟩ := bind_inv hc
    obtain ⟨n, hn, hc⟩ := bind_inv hc
    split at hc
    · simp at hc
    · rename_i hn0
      obtain ⟨y, hy, rfl⟩ := map_inv hc
      have hr : faA (ev y fr) fl.offset e.h = .ok v h' := hr
      have rx := od_rel hf hg hy
      have hplace : ∀ b off', (fieldPlace ⟨b, off', none⟩ fl).run P e.w = .ok ⟨b, off' + fl.offset, none⟩ e.w := by
        intro b off'
        simp [fieldPlace, run_size hn, hn0, Addr.add_none]
      generalize hw : ev y fr = x' at hr rx
      cases x' with
      | p i off =>
        injection hr with h1 h2; subst h1 h2
        obtain ⟨k, rx⟩ := rel_p rx
        refine OpS.same hs (cv := .pointer (some ⟨(e.ρ i).1, (e.ρ i).2 + off + fl.offset, none⟩)) ?_ (by simp only [Rel]; exact ⟨k, by rw [Nat.add_assoc]; rfl⟩)
        simp [execOp, ho, Instr.fieldAt, run_underlying hd, hfl, rx, Instr.sureAddr, hplace]
      | ip cs off =>
        injection hr with h1 h2; subst h1 h2
        simp only [Rel] at rx
        obtain ⟨b, o', rx, hi, hcs⟩ := rx
        refine OpS.same hs (cv := .pointer (some ⟨b, o' + off + fl.offset, none⟩)) ?_ (by simp only [Rel]; exact ⟨b, o', by rw [Nat.add_assoc]; rfl, hi, hcs⟩)
        simp [execOp, ho, Instr.fieldAt, run_underlying hd, hfl, rx, Instr.sureAddr, hplace]
      | _ => exact absurd (show R.no = .ok v h' from hr) (by simp)
  · simp at hc

theorem RelL.get : ∀ {xs : List AV} {vs : List Value} {j : Nat} {x : AV}, RelL e xs vs → xs[j]? = some x → ∃ u, vs[j]? = some u ∧ Rel e x u
  | [], _, _, _, _, h => by simp at h
  | y :: ys, [], _, _, hr, _ => by simp [RelL] at hr
  | y :: ys, u :: us, 0, x, hr, h => by
    simp only [RelL] at hr
    simp only [List.getElem?_cons_zero, Option.some.injEq] at h; subst h
    exact ⟨u, rfl, hr.1⟩
  | y :: ys, u :: us, j + 1, x, hr, h => by
    simp only [RelL] at hr
    simpa using RelL.get hr.2 (by simpa using h)

theorem RelL.len : ∀ {xs : List AV} {vs : List Value}, RelL e xs vs → vs.length = xs.length
  | [], [], _ => rfl
  | [], _ :: _, h => by simp [RelL] at h
  | _ :: _, [], h => by simp [RelL] at h
  | _ :: _, _ :: _, h => by simp only [RelL] at h; simp [RelL.len h.2]

theorem sound_ext {x : Operand} {i : Nat} (hs : St e) (hf : FrRel e fr a.tmps) (hg : GRel G e) (ho : o.op = .extract x i)
    (hc : compOp P G (.extract x i) = some ao) (hr : evOp call ao fr e.h id = .ok v h') : OpS P o e a v h' := by
  simp only [compOp] at hc
  obtain ⟨y, hy, rfl⟩ := map_inv hc
  have hr : extA (ev y fr) i e.h = .ok v h' := hr
  have rx := od_rel hf hg hy
  generalize hw : ev y fr = x' at hr rx
  cases x' with
  | tu vs =>
    have hr : okV e.h (nth vs i) = .ok v h' := hr
    obtain ⟨hq, rfl⟩ := okV_inv hr
    rw [nth_eq] at hq
    simp only [Rel] at rx
    obtain ⟨us, hv, hl⟩ := rx
    obtain ⟨u, hu, hru⟩ := RelL.get hl hq
    refine OpS.same hs (cv := u) ?_ hru
    have hu' : us[i]? = some u := by simpa using hu
    simp [execOp, ho, Instr.extract, hv, hu']
  | _ => exact absurd (show R.no = .ok v h' from hr) (by simp)

theorem asN_inv {x : AV} {n : Nat} (h : asN x = some n) : ∃ k, x = .i k (.ofNat n) := by
  cases x with
  | i k m =>
    cases m with
    | ofNat m => exact ⟨k, by rw [Option.some.inj (show some m = some n from h)]⟩
    | negSucc m => exact absurd (show (none : Option Nat) = some n from h) (by simp)
  | _ => exact absurd (show (none : Option Nat) = some n from h) (by simp)

theorem RelRows.get : ∀ {xs : List (List AV)} {sz b o' j : Nat} {c : List AV}, RelRows e sz xs b o' → xs[j]? = some c → c.length = sz ∧ RelCells e c b (o' + j * sz)
  | [], _, _, _, _, _, _, h => by simp at h
  | y :: ys, sz, b, o', 0, c, hr, h => by
    simp only [RelRows] at hr
    simp only [List.getElem?_cons_zero, Option.some.injEq] at h; subst h
    exact ⟨hr.1, by simpa using hr.2.1⟩
  | y :: ys, sz, b, o', j + 1, c, hr, h => by
    simp only [RelRows] at hr
    have := RelRows.get hr.2.2 (by simpa using h)
    rw [show o' + (j + 1) * sz = o' + sz + j * sz by rw [Nat.add_mul]; omega]; exact this

theorem run_indexAt_slice {t el : TypeId} {sz n cap i : Nat} {ad : Addr} {k : IntKind} {w : World} (hd : P.underlying t = some (.slice el)) (hsz : sizeOf? P el = some sz) (hlt : i < n) :
    (Instr.indexAt t (.slice (some ad) n cap) (.int k (.ofNat i))).run P w = .ok (.pointer (some (ad.add (i * sz)))) w := by
  have h1 : (0 : Int) ≤ Int.ofNat i ∧ Int.ofNat i < (n : Int) := by simp only [Int.ofNat_eq_natCast]; omega
  simp only [Instr.indexAt, asIntOf, Sem.run_bind, Sem.run_pure, Result.andThen_ok, run_underlying hd, run_size hsz, h1, and_self, if_true]
  simp [run_size hsz]

theorem run_indexAt_array {t el : TypeId} {sz n i : Nat} {ad : Addr} {k : IntKind} {w : World} (hd : P.underlying t = some (.array n el)) (hsz : sizeOf? P el = some sz) (hlt : i < n) :
    (Instr.indexAt t (.pointer (some ad)) (.int k (.ofNat i))).run P w = .ok (.pointer (some (ad.add (i * sz)))) w := by
  have h1 : (0 : Int) ≤ Int.ofNat i ∧ Int.ofNat i < (n : Int) := by simp only [Int.ofNat_eq_natCast]; omega
  simp only [Instr.indexAt, asIntOf, Sem.run_bind, Sem.run_pure, Result.andThen_ok, run_underlying hd, run_size hsz, Instr.sureAddr, h1, and_self, if_true]
  simp [run_size hsz]

theorem sound_ia {t : TypeId} {x ix : Operand} (hs : St e) (hf : FrRel e fr a.tmps) (hg : GRel G e) (ho : o.op = .indexAddr t x ix)
    (hc : compOp P G (.indexAddr t x ix) = some ao) (hr : evOp call ao fr e.h id = .ok v h') : OpS P o e a v h' := by
  simp only [compOp] at hc
  obtain ⟨k, hk, hc⟩ := bind_inv hc
  obtain ⟨y, hy, hc⟩ := bind_inv hc
  obtain ⟨iy, hiy, rfl⟩ := map_inv hc
  have hr : (match asN (ev iy fr) with | some i => okV e.h (indexA k (ev y fr) i) | none => .no : R) = .ok v h' := hr
  have rx := od_rel hf hg hy
  have ri := od_rel hf hg hiy
  split at hr
  · rename_i i hi
    obtain ⟨kk, hi⟩ := asN_inv hi
    rw [hi] at ri
    have ri := rel_i ri
    obtain ⟨hq, rfl⟩ := okV_inv hr
    unfold skOf at hk
    obtain ⟨d, hd, hk⟩ := bind_inv hk
    generalize hw : ev y fr = x' at hq rx
    split at hk
    · simp only [Option.some.injEq] at hk; subst hk
      cases x' <;> simp [indexA] at hq
    · rename_i el
      obtain ⟨sz, hsz, rfl⟩ := map_inv hk
      cases x' with
      | sl i' off sz' n lo ex =>
        have hq : cd (Nat.blt i n) (some (AV.p i' (Nat.add off (Nat.mul i sz)))) none = some v := hq
        rw [cd_eq, blt_nat] at hq
        by_cases hlt : i < n
        · simp only [hlt, decide_true, if_true, Option.some.injEq] at hq; subst hq
          simp only [Rel] at rx
          obtain ⟨kn, ad, cap, hv, h1, h2, h3, h4⟩ := rx
          rcases h4 with h4 | ⟨h4, h5⟩
          · omega
          · subst h4
            refine OpS.same hs (cv := .pointer (some ⟨(e.ρ i').1, (e.ρ i').2 + off + i * sz, none⟩)) ?_ (by simp only [Rel]; exact ⟨kn, by rw [Nat.add_assoc]; rfl⟩)
            simp only [execOp, ho, ri, hv, Sem.run_bind, run_indexAt_slice hd hsz hlt, Result.andThen_ok, Sem.run_pure, Addr.add_none]
        · simp [hlt] at hq
      | isl sz' xs =>
        have hq : cd (Nat.beq sz sz') (Option.rec none (fun c => some (AV.ip c 0)) (nth xs i) : Option AV) none = some v := hq
        rw [nth_eq, cd_eq, beq_nat] at hq
        by_cases hze : sz = sz'
        case neg => simp [hze] at hq
        subst hze
        simp only [decide_true, if_true] at hq
        cases hx : xs[i]? with
        | none => rw [hx] at hq; exact absurd (show (none : Option AV) = some v from hq) (by simp)
        | some c =>
          rw [hx] at hq
          have hq : some (AV.ip c 0) = some v := hq
          simp only [Option.some.injEq] at hq; subst hq
          simp only [Rel] at rx
          obtain ⟨ad, cap, hv, h1, h2⟩ := rx
          have hlt : i < xs.length := (List.getElem?_eq_some_iff.1 hx).1
          rcases h2 with h2 | ⟨hsp, hi2, hrw⟩
          · subst h2; simp at hlt
          · obtain ⟨hcl, hcs⟩ := RelRows.get hrw hx
            have had : ad = ⟨ad.block, ad.off, none⟩ := by cases ad; simp_all
            refine OpS.same hs (cv := .pointer (some ⟨ad.block, ad.off + i * sz, none⟩)) ?_ (by simp only [Rel]; exact ⟨ad.block, ad.off + i * sz, rfl, hi2, hcs⟩)
            rw [had] at hv
            simp only [execOp, ho, ri, hv, Sem.run_bind, run_indexAt_slice hd hsz hlt, Result.andThen_ok, Sem.run_pure, Addr.add_none]
      | _ => exact absurd (show (none : Option AV) = some v from hq) (by simp)
    · rename_i n el
      obtain ⟨sz, hsz, rfl⟩ := map_inv hk
      cases x' with
      | p i' off =>
        have hq : cd (Nat.blt i n) (some (AV.p i' (Nat.add off (Nat.mul i sz)))) none = some v := hq
        rw [cd_eq, blt_nat] at hq
        by_cases hlt : i < n
        · simp only [hlt, decide_true, if_true, Option.some.injEq] at hq; subst hq
          obtain ⟨kn, rx⟩ := rel_p rx
          refine OpS.same hs (cv := .pointer (some ⟨(e.ρ i').1, (e.ρ i').2 + off + i * sz, none⟩)) ?_ (by simp only [Rel]; exact ⟨kn, by rw [Nat.add_assoc]; rfl⟩)
          simp only [execOp, ho, ri, rx, Sem.run_bind, run_indexAt_array hd hsz hlt, Result.andThen_ok, Sem.run_pure, Addr.add_none]
        · simp [hlt] at hq
      | ip cs off =>
        have hq : cd (Nat.blt i n) (some (AV.ip cs (Nat.add off (Nat.mul i sz)))) none = some v := hq
        rw [cd_eq, blt_nat] at hq
        by_cases hlt : i < n
        · simp only [hlt, decide_true, if_true, Option.some.injEq] at hq; subst hq
          simp only [Rel] at rx
          obtain ⟨b, o', rx, hi2, hcs⟩ := rx
          refine OpS.same hs (cv := .pointer (some ⟨b, o' + off + i * sz, none⟩)) ?_ (by simp only [Rel]; exact ⟨b, o', by rw [Nat.add_assoc]; rfl, hi2, hcs⟩)
          simp only [execOp, ho, ri, rx, Sem.run_bind, run_indexAt_array hd hsz hlt, Result.andThen_ok, Sem.run_pure, Addr.add_none]
        · simp [hlt] at hq
      | _ => exact absurd (show (none : Option AV) = some v from hq) (by simp)
    · simp at hk
  · exact absurd hr (by simp)
end
end Go.Ev

/- Soundness of numbers and strings. -/
namespace Go.Ev

theorem toNat_ofNat {c : Nat} (h : c < 256) : (UInt8.ofNat c).toNat = c := by simp [UInt8.toNat_ofNat']; omega

theorem strOf_size (l : List Nat) : (strOf l).size = l.length := by simp [strOf, ByteArray.size]

theorem strOf_toList (l : List Nat) : (strOf l).toList = l.map UInt8.ofNat := by
  rw [ByteArray.toList_eq]; simp [strOf]

theorem ofNat_inj {c d : Nat} (hc : c < 256) (hd : d < 256) (h : UInt8.ofNat c = UInt8.ofNat d) : c = d := by
  have : (UInt8.ofNat c).toNat = (UInt8.ofNat d).toNat := by rw [h]
  simp [UInt8.toNat_ofNat'] at this; omega

theorem map_ofNat_inj : ∀ {l m : List Nat}, (∀ c ∈ l, c < 256) → (∀ c ∈ m, c < 256) → l.map UInt8.ofNat = m.map UInt8.ofNat → l = m
  | [], [], _, _, _ => rfl
  | [], _ :: _, _, _, h => by simp at h
  | _ :: _, [], _, _, h => by simp at h
  | c :: l, d :: m, hl, hm, h => by
    simp only [List.map_cons, List.cons.injEq] at h
    rw [ofNat_inj (hl c (by simp)) (hm d (by simp)) h.1, map_ofNat_inj (fun c hc => hl c (by simp [hc])) (fun c hc => hm c (by simp [hc])) h.2]

theorem strOf_eq_iff {l m : List Nat} (hl : ∀ c ∈ l, c < 256) (hm : ∀ c ∈ m, c < 256) : ((strOf l).toList == (strOf m).toList) = decide (l = m) := by
  rw [strOf_toList, strOf_toList]
  by_cases h : l = m
  · subst h; simp
  · have : ¬ l.map UInt8.ofNat = m.map UInt8.ofNat := fun hh => h (map_ofNat_inj hl hm hh)
    simp [h, this]

theorem strOf_lt : ∀ {l m : List Nat}, (∀ c ∈ l, c < 256) → (∀ c ∈ m, c < 256) → Op.bytesLess (l.map UInt8.ofNat) (m.map UInt8.ofNat) = sLt l m
  | [], [], _, _ => rfl
  | [], _ :: _, _, _ => rfl
  | _ :: _, [], _, _ => rfl
  | c :: l, d :: m, hl, hm => by
    have hc := hl c (by simp)
    have hd := hm d (by simp)
    have ih := strOf_lt (l := l) (m := m) (fun c hc => hl c (by simp [hc])) (fun c hc => hm c (by simp [hc]))
    show (decide (UInt8.ofNat c < UInt8.ofNat d) || (UInt8.ofNat c == UInt8.ofNat d && Op.bytesLess (l.map UInt8.ofNat) (m.map UInt8.ofNat))) = cd (Nat.blt c d) true (cd (Nat.beq c d) (sLt l m) false)
    rw [cd_eq, cd_eq, beq_nat, blt_nat, ih]
    have h1 : (UInt8.ofNat c < UInt8.ofNat d) ↔ c < d := by
      rw [UInt8.lt_iff_toNat_lt, toNat_ofNat hc, toNat_ofNat hd]
    have h2 : (UInt8.ofNat c == UInt8.ofNat d) = decide (c = d) := by
      by_cases h : c = d
      · subst h; simp
      · have : ¬ UInt8.ofNat c = UInt8.ofNat d := fun hh => h (ofNat_inj hc hd hh)
        simp [h, this]
    rw [h2]
    by_cases hlt : c < d <;> by_cases heq : c = d <;> simp [h1, hlt, heq]

theorem strOf_append (l m : List Nat) : strOf l ++ strOf m = strOf (l ++ m) := by
  apply ByteArray.ext
  simp [strOf]

theorem strOf_extract (l : List Nat) (b n : Nat) (h : b + n ≤ l.length) : (strOf l).extract b (b + n) = strOf ((l.drop b).take n) := by
  apply ByteArray.ext
  simp only [strOf, ByteArray.data_extract]
  apply Array.ext'
  simp [List.map_take, List.map_drop]

theorem strOf_get (l : List Nat) (i : Nat) : (strOf l)[i]? = (l[i]?).map UInt8.ofNat := by
  by_cases h : i < l.length
  · rw [getElem?_pos _ _ (by rw [strOf_size]; exact h)]
    simp [strOf, ByteArray.getElem_eq_getElem_data, List.getElem?_eq_getElem h]
  · rw [getElem?_neg _ _ (by rw [strOf_size]; exact h)]
    simp [List.getElem?_eq_none (Nat.le_of_not_lt h)]

section
variable {P : Program} {G : Nat → Option (List AV)} {o : Oper} {e : Env} {a : Act} {fr : T AV} {call : CallF} {id : Nat} {ao : AOp} {v : AV} {h' : H}

theorem sound_index {t : TypeId} {x ix : Operand} (hs : St e) (hf : FrRel e fr a.tmps) (hg : GRel G e) (ho : o.op = .index t x ix)
    (hc : compOp P G (.index t x ix) = some ao) (hr : evOp call ao fr e.h id = .ok v h') : OpS P o e a v h' := by
  simp only [compOp] at hc
  obtain ⟨y, hy, hc⟩ := bind_inv hc
  obtain ⟨iy, hiy, hc⟩ := bind_inv hc
  obtain ⟨d, hd, hc⟩ := bind_inv hc
  have rx := od_rel hf hg hy
  have ri := od_rel hf hg hiy
  split at hc
  · simp only [Option.some.injEq] at hc; subst hc
    have hr : (Option.rec .no (fun i => ixsA (ev y fr) i e.h) (asN (ev iy fr)) : R) = .ok v h' := hr
    cases hi : asN (ev iy fr) with
    | none => rw [hi] at hr; exact absurd (show R.no = .ok v h' from hr) (by simp)
    | some i =>
      rw [hi] at hr
      have hr : ixsA (ev y fr) i e.h = .ok v h' := hr
      obtain ⟨kk, hi⟩ := asN_inv hi
      rw [hi] at ri
      have ri := rel_i ri
      generalize hw : ev y fr = x' at hr rx
      cases x' with
      | s n l =>
        have hr : (Option.rec .no (fun c => .ok (.i .u8 (.ofNat c)) e.h) (nth l i) : R) = .ok v h' := hr
        rw [nth_eq] at hr
        cases hl : l[i]? with
        | none => rw [hl] at hr; exact absurd (show R.no = .ok v h' from hr) (by simp)
        | some c =>
          rw [hl] at hr
          have hr : R.ok (.i .u8 (.ofNat c)) e.h = .ok v h' := hr
          injection hr with h1 h2; subst h1 h2
          obtain ⟨_, h256, rx⟩ := rel_s rx
          refine OpS.same hs (cv := .int .u8 (.ofNat c)) ?_ (by simp [Rel])
          have hc : c < 256 := h256 c (List.mem_of_getElem? hl)
          have hget : (strOf l)[i]? = some (UInt8.ofNat c) := by rw [strOf_get, hl]; rfl
          simp [execOp, ho, Instr.index, run_underlying hd, ri, asIntOf, rx, hget, toNat_ofNat hc]
      | _ => exact absurd (show R.no = .ok v h' from hr) (by simp)
  · simp at hc

theorem sound_cvi {s d : TypeId} {x : Operand} {k ks : IntKind} {y : Od} (hs : St e) (hf : FrRel e fr a.tmps) (hg : GRel G e) (ho : o.op = .convert s d x)
    (hy : od G x = some y) (hS : P.underlying s = some (.int ks)) (hD : P.underlying d = some (.int k)) (hr : evOp call (.cvi k y) fr e.h id = .ok v h') : OpS P o e a v h' := by
  have hr : (match ev y fr with | .i _ n => .ok (.i k (wr k n)) e.h | _ => .no : R) = .ok v h' := hr
  have rx := od_rel hf hg hy
  split at hr
  · rename_i k' n hn
    rw [hn] at rx
    have rx := rel_i rx
    injection hr with h1 h2; subst h1 h2
    refine OpS.same hs (cv := .int k (k.wrap n)) ?_ (by simp [Rel, wr_eq])
    simp [execOp, ho, convert, run_underlying hS, run_underlying hD, rx, Conv.intToInt]
  · exact absurd hr (by simp)

theorem sound_un {op : UnOp} {t : TypeId} {x : Operand} (hs : St e) (hf : FrRel e fr a.tmps) (hg : GRel G e) (ho : o.op = .unOp op t x)
    (hc : compOp P G (.unOp op t x) = some ao) (hr : evOp call ao fr e.h id = .ok v h') : OpS P o e a v h' := by
  simp only [compOp] at hc
  obtain ⟨y, hy, rfl⟩ := map_inv hc
  have hr : okV e.h (unA op (ev y fr)) = .ok v h' := hr
  have rx := od_rel hf hg hy
  obtain ⟨hq, rfl⟩ := okV_inv hr
  generalize ev y fr = x' at hq rx
  cases op <;> cases x' <;> (try (cases hq; done))
  · rename_i k n
    have rx := rel_i rx
    obtain rfl := Option.some.inj (show some _ = some v from hq)
    refine OpS.same hs (cv := .int k (k.wrap (0 - n))) ?_ (by simp only [Rel, wr_eq]; rfl)
    simp [execOp, ho, Op.unary, rx, Op.intArith]
  · rename_i k n
    have rx := rel_i rx
    have hq : some (AV.i k (k.wrap (BitVec.ofInt k.bits (if k.signed then -1 else k.max) ^^^ BitVec.ofInt k.bits n).toNat)) = some v := hq
    simp only [Option.some.injEq] at hq; subst hq
    refine OpS.same hs (cv := .int k (k.wrap (BitVec.ofInt k.bits (if k.signed then -1 else k.max) ^^^ BitVec.ofInt k.bits n).toNat)) ?_ (by simp [Rel])
    simp [execOp, ho, Op.unary, rx, Op.intBits]
  · rename_i b
    have rx := rel_b rx
    obtain rfl := Option.some.inj (show some _ = some v from hq)
    refine OpS.same hs (cv := .bool (!b)) ?_ (by simp [Rel])
    simp [execOp, ho, Op.unary, rx]

theorem run_eqGuard_int (op : BinOp) (t : TypeId) (x y : Operand) (k k' : IntKind) (m n : Int) (w : World) : (eqGuard op t x y (.int k m) (.int k' n)).run P w = .ok () w := by
  unfold eqGuard; split <;> simp
theorem run_eqGuard_str (op : BinOp) (t : TypeId) (x y : Operand) (m n : ByteArray) (w : World) : (eqGuard op t x y (.string m) (.string n)).run P w = .ok () w := by
  unfold eqGuard; split <;> simp
theorem run_eqGuard_bool (op : BinOp) (t : TypeId) (x y : Operand) (m n : Bool) (w : World) : (eqGuard op t x y (.bool m) (.bool n)).run P w = .ok () w := by
  unfold eqGuard; split <;> simp

theorem run_binI (op : BinOp) (t : TypeId) (k : IntKind) (m n : Int) (r : AV) (hsh : isSh op = false) (h : binI op k m n = some r) (w : World) :
    ∃ cv, (binOp op t (.int k m) (.int k n)).run P w = .ok cv w ∧ ∀ e, Rel e r cv := by
  cases op with
  | add => obtain rfl := Option.some.inj (show some _ = some r from h); exact ⟨.int k (k.wrap (m + n)), by simp [binOp, Op.intArith], fun e => by simp [Rel, wr_eq]⟩
  | sub => obtain rfl := Option.some.inj (show some _ = some r from h); exact ⟨.int k (k.wrap (m - n)), by simp [binOp, Op.intArith], fun e => by simp [Rel, wr_eq]⟩
  | mul => obtain rfl := Option.some.inj (show some _ = some r from h); exact ⟨.int k (k.wrap (m * n)), by simp [binOp, Op.intArith], fun e => by simp [Rel, wr_eq]⟩
  | quo =>
    have h : cd (iEq n (.ofNat 0)) none (some (AV.i k (wr k (m.tdiv n)))) = some r := h
    rw [cd_eq, iEq_eq] at h
    by_cases hn : n = 0
    · subst hn; simp at h
    · have hn' : ¬ n = Int.ofNat 0 := hn
      simp only [hn', decide_false, Bool.false_eq_true, if_false, Option.some.injEq] at h; subst h
      exact ⟨.int k (k.wrap (m.tdiv n)), by simp [binOp, Op.intDiv, hn], fun e => by simp [Rel, wr_eq]⟩
  | rem =>
    have h : cd (iEq n (.ofNat 0)) none (some (AV.i k (m.tmod n))) = some r := h
    rw [cd_eq, iEq_eq] at h
    by_cases hn : n = 0
    · subst hn; simp at h
    · have hn' : ¬ n = Int.ofNat 0 := hn
      simp only [hn', decide_false, Bool.false_eq_true, if_false, Option.some.injEq] at h; subst h
      exact ⟨.int k (m.tmod n), by simp [binOp, Op.intDiv, hn], fun e => by simp [Rel]⟩
  | and => obtain rfl := Option.some.inj (show some _ = some r from h); exact ⟨_, by simp only [binOp, ne_eq, not_true_eq_false, if_false, Op.intBits, Sem.run_pure]; rfl, fun e => by simp [Rel]⟩
  | or => obtain rfl := Option.some.inj (show some _ = some r from h); exact ⟨_, by simp only [binOp, ne_eq, not_true_eq_false, if_false, Op.intBits, Sem.run_pure]; rfl, fun e => by simp [Rel]⟩
  | xor => obtain rfl := Option.some.inj (show some _ = some r from h); exact ⟨_, by simp only [binOp, ne_eq, not_true_eq_false, if_false, Op.intBits, Sem.run_pure]; rfl, fun e => by simp [Rel]⟩
  | andNot => obtain rfl := Option.some.inj (show some _ = some r from h); exact ⟨_, by simp only [binOp, ne_eq, not_true_eq_false, if_false, Op.intBits, Sem.run_pure]; rfl, fun e => by simp [Rel]⟩
  | shl => exact absurd hsh (by decide)
  | shr => exact absurd hsh (by decide)
  | eql => obtain rfl := Option.some.inj (show some _ = some r from h); exact ⟨.bool (m == n), by simp [binOp, Op.intCmp], fun e => by simp only [Rel, iEq_eq]; rfl⟩
  | neq => obtain rfl := Option.some.inj (show some _ = some r from h); exact ⟨.bool (m != n), by simp [binOp, Op.intCmp], fun e => by simp only [Rel, iEq_eq]; rfl⟩
  | lss => obtain rfl := Option.some.inj (show some _ = some r from h); exact ⟨.bool (m < n), by simp [binOp, Op.intCmp], fun e => by simp only [Rel, iLe_eq]; congr 1; by_cases h : m < n <;> simp [h] <;> omega⟩
  | leq => obtain rfl := Option.some.inj (show some _ = some r from h); exact ⟨.bool (m ≤ n), by simp [binOp, Op.intCmp], fun e => by simp only [Rel, iLe_eq]⟩
  | gtr => obtain rfl := Option.some.inj (show some _ = some r from h); exact ⟨.bool (m > n), by simp [binOp, Op.intCmp], fun e => by simp only [Rel, iLe_eq]; congr 1; by_cases h : m > n <;> simp [h] <;> omega⟩
  | geq => obtain rfl := Option.some.inj (show some _ = some r from h); exact ⟨.bool (m ≥ n), by simp [binOp, Op.intCmp], fun e => by simp only [Rel, iLe_eq]⟩
end
end Go.Ev
