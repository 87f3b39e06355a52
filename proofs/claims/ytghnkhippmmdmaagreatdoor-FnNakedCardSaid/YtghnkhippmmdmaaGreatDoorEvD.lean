/- Soundness of stores and of what makes blocks. -/
import Derived.Test.YtghnkhippmmdmaaGreatDoorEvC
import Derived.Lib.UnsafeStr
import Derived.Lib.Builder
set_option linter.unusedVariables false
set_option linter.unusedSimpArgs false

namespace Go.Ev
section
variable {P : Program} {G : Nat → Option (List AV)} {o : Oper} {e : Env} {a : Act} {fr : T AV} {call : CallF} {id : Nat} {ao : AOp} {v : AV} {h' : H}

theorem sound_store {t : TypeId} {x y : Operand} (hs : St e) (hf : FrRel e fr a.tmps) (hg : GRel G e) (ho : o.op = .store t x y)
    (hc : compOp P G (.store t x y) = some ao) (hr : evOp call ao fr e.h id = .ok v h') : OpS P o e a v h' := by
  simp only [compOp] at hc
  obtain ⟨n, hn, hc⟩ := bind_inv hc
  obtain ⟨x', hx, hc⟩ := bind_inv hc
  obtain ⟨y', hy, hc⟩ := bind_inv hc
  split at hc
  · cases hc
  rename_i hn0
  obtain rfl := Option.some.inj hc
  have hr : (Option.rec .no (fun cs => cd (Nat.beq (len cs) n) (Option.rec .no (fun h' => .ok undefA h') (storeAt (ev x' fr) cs e.h)) .no) (ev y' fr).cells : R) = .ok v h' := hr
  have rx := od_rel hf hg hx
  have ry := od_rel hf hg hy
  cases hcs : (ev y' fr).cells with
  | none => rw [hcs] at hr; cases hr
  | some cs =>
    rw [hcs] at hr
    have hr : cd (Nat.beq (len cs) n) (Option.rec .no (fun h' => .ok undefA h') (storeAt (ev x' fr) cs e.h) : R) .no = .ok v h' := hr
    rw [cd_eq, beq_nat, len_eq] at hr
    by_cases hln : cs.length = n
    case neg => rw [decide_eq_false hln] at hr; cases hr
    rw [decide_eq_true hln] at hr
    cases hst : storeAt (ev x' fr) cs e.h with
    | none => rw [hst] at hr; cases hr
    | some h2 =>
      rw [hst] at hr
      have hr : R.ok undefA h2 = .ok v h' := hr
      injection hr with h1 h3; subst h1 h3
      obtain ⟨hrel, hone⟩ := cells_rel ry hcs
      have hcl : (a.eval y).cells.size = n := by
        have := hrel.len; simp at this; omega
      have hne : cs ≠ [] := by
        intro h; subst h; exact hn0 hln.symm
      obtain ⟨ad, w', hcv, hrun, hst', hx'⟩ := store_both (P := P) hs rx hrel hone hst hne
      refine OpS.skip (w' := w') ?_ e.ρ hst' hx' (rel_undef _)
      simp [execOp, ho, Instr.storeAt, hcv, Instr.sureAddr, storeVar, run_size hn, hcl, hrun]

theorem putNew_inv {n : Nat} {b : Blk} {f : Id → AV} {h : H} (hr : putNew n b f h = .ok v h') : n < h.next ∧ h.get (path n) = none ∧ v = f (path n) ∧ h' = h.put (path n) b := by
  have hr : cd (Nat.blt n h.next) (Option.rec (.ok (f (path n)) (h.put (path n) b)) (fun _ => .no) (h.get (path n)) : R) .no = .ok v h' := hr
  rw [cd_eq, blt_nat] at hr
  by_cases hn : n < h.next
  case neg => rw [decide_eq_false hn] at hr; cases hr
  rw [decide_eq_true hn] at hr
  cases hg : h.get (path n) with
  | some _ => rw [hg] at hr; cases hr
  | none =>
    rw [hg] at hr
    have hr : R.ok (f (path n)) (h.put (path n) b) = .ok v h' := hr
    injection hr with h1 h2
    exact ⟨hn, rfl, h1.symm, h2.symm⟩

theorem alloc_known (e : Env) (n : Nat) (ob : Obj) (b : Blk) : known (e.alloc n ob b) (path n) := by
  show (if path n = path n then (e.w.heap.size, 0) else e.ρ (path n)).2 = 0
  rw [if_pos rfl]

theorem alloc_rel_p (e : Env) (n : Nat) (ob : Obj) (b : Blk) : Rel (e.alloc n ob b) (.p (path n) 0) (.pointer (some ⟨e.w.heap.size, 0, none⟩)) := by
  simp only [Rel]
  refine ⟨alloc_known e n ob b, ?_⟩
  have hr : (e.alloc n ob b).ρ (path n) = (e.w.heap.size, 0) := if_pos rfl
  rw [hr]

theorem sound_new {t : TypeId} (hs : St e) (hlo : e.F.lo ≤ id) (ho : o.op = .alloc t)
    (hc : compOp P G (.alloc t) = some ao) (hr : evOp call ao fr e.h id = .ok v h') : OpS P o e a v h' := by
  simp only [compOp] at hc
  obtain ⟨z, hz, rfl⟩ := map_inv hc
  obtain ⟨hn, hf0, rfl, rfl⟩ := putNew_inv (show putNew id (.cs t z false) (fun id => .p id 0) e.h = .ok v h' from hr)
  have hf := aside_none hs hlo hf0
  obtain ⟨zv, hrun, hzs⟩ := run_zero hz e.w
  obtain ⟨hrel, hone⟩ := rel_avOfs (e := e) hzs
  have hb := alloc_cells hs hf t hrel hone zv.cells (by have := hrel.len; simp at this; omega) (fun j u hu => by simpa using hu)
  refine OpS.value (cv := .pointer (some ⟨e.w.heap.size, 0, none⟩)) (w' := e.w.alloc (.cells zv.cells t)) ?_ _ (alloc_st hs hn hf _ _ hb) (alloc_ext hs hf _ _) (alloc_rel_p e id _ _)
  simp [execOp, ho, Instr.alloc, hrun, newVar, newRow]

theorem sound_box {t : TypeId} {x : Operand} (hs : St e) (hlo : e.F.lo ≤ id) (hf : FrRel e fr a.tmps) (hg : GRel G e) (ho : o.op = .box t x)
    (hc : compOp P G (.box t x) = some ao) (hr : evOp call ao fr e.h id = .ok v h') : OpS P o e a v h' := by
  simp only [compOp] at hc
  obtain ⟨n, hn, hc⟩ := bind_inv hc
  obtain ⟨x', hx, rfl⟩ := map_inv hc
  have rx := od_rel hf hg hx
  have hr : (Option.rec .no (fun cs => cd (Nat.beq (len cs) n) (putNew id (.cs t cs false) (fun id => .p id 0) e.h) .no) (ev x' fr).cells : R) = .ok v h' := hr
  cases hcs : (ev x' fr).cells with
  | none => rw [hcs] at hr; cases hr
  | some cs =>
    rw [hcs] at hr
    have hr : cd (Nat.beq (len cs) n) (putNew id (.cs t cs false) (fun id => .p id 0) e.h) .no = .ok v h' := hr
    rw [cd_eq, beq_nat, len_eq] at hr
    by_cases hln : cs.length = n
    case neg => rw [decide_eq_false hln] at hr; cases hr
    rw [decide_eq_true hln, if_pos rfl] at hr
    obtain ⟨hn', hf0, rfl, rfl⟩ := putNew_inv hr
    have hf' := aside_none hs hlo hf0
    obtain ⟨hrel, hone⟩ := cells_rel rx hcs
    have hb := alloc_cells hs hf' t hrel hone (a.eval x).cells (by have := hrel.len; simp at this; omega) (fun j u hu => by simpa using hu)
    refine OpS.value (cv := .pointer (some ⟨e.w.heap.size, 0, none⟩)) (w' := e.w.alloc (.cells (a.eval x).cells t)) ?_ _ (alloc_st hs hn' hf' _ _ hb) (alloc_ext hs hf' _ _) (alloc_rel_p e id _ _)
    simp [execOp, ho, Instr.box, newVar, newRow]

end
end Go.Ev

/- Soundness of literals: structs, arrays, slices. -/
namespace Go.Ev

theorem zip_lay (off : Nat) : ∀ (vs : List Value) (k : Nat) (c : Array Value), (vs.zipIdx k).foldl (fun cs (x : Value × Nat) => cs.setIfInBounds (off + x.2) x.1) c = layA c (off + k) vs
  | [], _, _ => rfl
  | v :: vs, k, c => by
    simp only [List.zipIdx_cons, List.foldl_cons, layA]
    rw [zip_lay off vs (k + 1)]
    rfl

section
variable {P : Program} {G : Nat → Option (List AV)} {o : Oper} {e : Env} {a : Act} {fr : T AV} {call : CallF} {id : Nat} {ao : AOp} {v : AV} {h' : H}

theorem lay_rel {l l' new : List AV} {c : Array Value} {vs : List Value} {off : Nat} (hl : RelL e l c.toList) (hn : RelL e new vs) (h : lay l off new = some l') (hle : off + new.length ≤ l.length) : RelL e l' (layA c off vs).toList := by
  obtain ⟨h1, h2, h3⟩ := lay_some _ _ _ _ h
  have hlen := hl.len
  have hnl := hn.len
  simp only [Array.length_toList] at hlen
  obtain ⟨us, r1, r2, r3⟩ := relL_of (e := e) l' (fun j => (layA c off vs)[j]?) (fun j y hy => by
    rw [h3 j] at hy
    show ∃ u, (layA c off vs)[j]? = some u ∧ Rel e y u
    rw [layA_get vs c off j (by omega)]
    by_cases hin : off ≤ j ∧ j < off + new.length
    · rw [if_pos hin] at hy
      rw [if_pos (by omega)]
      exact hn.get hy
    · rw [if_neg hin] at hy
      rw [if_neg (by omega)]
      simpa using hl.get hy)
  have : us = (layA c off vs).toList := by
    apply List.ext_getElem?
    intro j
    by_cases hj : j < us.length
    · rw [List.getElem?_eq_getElem hj]
      have := r3 j _ (List.getElem?_eq_getElem hj)
      simpa using this.symm
    · rw [List.getElem?_eq_none (by omega), List.getElem?_eq_none]
      simp only [Array.length_toList, layA_size]; omega
  rw [← this]; exact r1

theorem lay_one {l l' new : List AV} {off : Nat} (h : lay l off new = some l') (h1 : ∀ x ∈ l, one x = true) (h2 : ∀ x ∈ new, one x = true) : ∀ x ∈ l', one x = true := by
  obtain ⟨_, _, h3⟩ := lay_some _ _ _ _ h
  intro x hx
  obtain ⟨j, hj⟩ := List.mem_iff_getElem?.1 hx
  rw [h3 j] at hj
  split at hj
  · exact h2 x (List.mem_of_getElem? hj)
  · exact h1 x (List.mem_of_getElem? hj)

theorem lay_nil {l l' : List AV} {off : Nat} (h : lay l off [] = some l') : l' = l := by
  obtain ⟨_, _, h3⟩ := lay_some _ _ _ _ h
  apply List.ext_getElem?
  intro j
  rw [h3 j, if_neg (by simp)]

theorem fill_rel (hf : FrRel e fr a.tmps) (hg : GRel G e) (place : Nat → Option (Nat × Nat)) : ∀ (ps : List (Nat × Operand)) (ps' : List (Nat × Nat × Od)), partsOf G place ps = some ps' →
    ∀ (l l' : List AV) (c : Array Value), RelL e l c.toList → (∀ x ∈ l, one x = true) → fillA ps' fr l = some l' →
    ∃ c', Instr.fill place c (ps.map fun (i, x) => (i, a.eval x)) = some c' ∧ RelL e l' c'.toList ∧ c'.size = c.size ∧ ∀ x ∈ l', one x = true
  | [], ps', hp, l, l', c, hl, ho, h => by
    simp only [partsOf, Option.some.injEq] at hp; subst hp
    obtain rfl := Option.some.inj (show some l = some l' from h)
    exact ⟨c, rfl, hl, rfl, ho⟩
  | (i, x) :: ps, ps', hp, l, l', c, hl, ho, h => by
    simp only [partsOf] at hp
    split at hp
    · rename_i off n y ys hpl hy hys
      split at hp
      · cases hp
      rename_i hn0
      simp only [Option.some.injEq] at hp; subst hp
      have ry := od_rel hf hg hy
      have h : (Option.rec none (fun cs => cd (Nat.beq (len cs) n) (Option.rec none (fun l' => fillA ys fr l') (lay l off cs)) none) (ev y fr).cells : Option (List AV)) = some l' := h
      cases hcs : (ev y fr).cells with
      | none => rw [hcs] at h; cases h
      | some cs =>
        rw [hcs] at h
        obtain ⟨h1, h⟩ := cd_some (show cd (Nat.beq (len cs) n) _ none = some l' from h)
        have h1 := beq_true h1
        rw [len_eq] at h1
        cases hlay : lay l off cs with
        | none => rw [hlay] at h; cases h
        | some l1 =>
          rw [hlay] at h
          have h : fillA ys fr l1 = some l' := h
          obtain ⟨hcr, hco⟩ := cells_rel ry hcs
          have hcl : (a.eval x).cells.size = n := by have := hcr.len; simp at this; omega
          have hsz : c.size = l.length := by have := hl.len; simpa using this
          have hfit : off + n ≤ c.size ∨ n = 0 := by
            obtain ⟨_, hh, _⟩ := lay_some _ _ _ _ hlay
            rcases Nat.eq_zero_or_pos n with h0 | h0
            · exact .inr h0
            · exact .inl (by have := hh (by omega); omega)
          have hfold : (a.eval x).cells.zipIdx.foldl (fun cs (q : Value × Nat) => cs.setIfInBounds (off + q.2) q.1) c = layA c off (a.eval x).cells.toList := by
            rw [← Array.foldl_toList, Array.toList_zipIdx, zip_lay]
            rfl
          by_cases hle : off + n ≤ c.size
          · have hrel1 := lay_rel hl hcr hlay (by omega)
            obtain ⟨c', hc', hr', hs', ho'⟩ := fill_rel hf hg place ps ys hys l1 l' _ hrel1 (lay_one hlay ho hco) h
            refine ⟨c', ?_, hr', by rw [hs', layA_size], ho'⟩
            simp only [List.map_cons, Instr.fill, hpl]
            have hcond : ((decide ((a.eval x).cells.size ≠ n)) || decide (off + (a.eval x).cells.size > c.size)) = false := by
              rw [hcl]; simp; omega
            rw [hcond]
            simp only [Bool.false_eq_true, if_false]
            rw [← hc']
            exact congrArg (fun z => Instr.fill place z _) hfold
          · exact absurd (hfit.resolve_right hn0) hle
    · cases hp

theorem zero_inv {t : TypeId} {z : List AV} (h : zeroOf P t = some z) : ∃ i zv, P.info? t = some i ∧ i.zero = some zv ∧ avOfs zv.cells.toList = some z := by
  unfold zeroOf at h
  obtain ⟨i, hi, h⟩ := bind_inv h
  obtain ⟨zv, hz, h⟩ := bind_inv h
  exact ⟨i, zv, hi, hz, h⟩

theorem sound_bld {t : TypeId} {ps : Array (Nat × Operand)} {z : List AV} {ps' : List (Nat × Nat × Od)} {place : Nat → Option (Nat × Nat)} (hs : St e) (hf : FrRel e fr a.tmps) (hg : GRel G e) (ho : o.op = .build t ps)
    (hz : zeroOf P t = some z) (hp : partsOf G place ps.toList = some ps')
    (hb : ∀ zv : Value, (∃ i, P.info? t = some i ∧ i.zero = some zv) → ∀ l, P.built t l = Instr.fill place zv.cells l)
    (hr : evOp call (.bld z ps') fr e.h id = .ok v h') : OpS P o e a v h' := by
  have hr : (Option.rec .no (fun l => .ok (.ag l) e.h) (fillA ps' fr z) : R) = .ok v h' := hr
  cases hfl : fillA ps' fr z with
  | none => rw [hfl] at hr; cases hr
  | some l =>
    rw [hfl] at hr
    have hr : R.ok (.ag l) e.h = .ok v h' := hr
    injection hr with h1 h2; subst h1 h2
    obtain ⟨i, zv, hi, hzv, hzs⟩ := zero_inv hz
    obtain ⟨hzr, hzo⟩ := rel_avOfs (e := e) hzs
    obtain ⟨c', hc', hr', _, ho'⟩ := fill_rel hf hg place _ _ hp z l zv.cells hzr hzo hfl
    refine OpS.same hs (cv := .agg c') ?_ (by simp only [Rel]; exact ⟨ho', c', rfl, hr'⟩)
    have hrun := run_build (P := P) e.w t (ps.map fun (i, x) => (i, a.eval x)) c' (by rw [hb zv ⟨i, hi, hzv⟩, Array.toList_map]; exact hc')
    simp [execOp, ho, hrun]

theorem sound_build {t : TypeId} {ps : Array (Nat × Operand)} (hs : St e) (hf : FrRel e fr a.tmps) (hg : GRel G e) (ho : o.op = .build t ps)
    (hc : compOp P G (.build t ps) = some ao) (hr : evOp call ao fr e.h id = .ok v h') : OpS P o e a v h' := by
  simp only [compOp] at hc
  obtain ⟨z, hz, hc⟩ := bind_inv hc
  obtain ⟨d, hd, hc⟩ := bind_inv hc
  split at hc
  · rename_i fs
    obtain ⟨places, hpl, hc⟩ := bind_inv hc
    obtain ⟨ps', hp, rfl⟩ := map_inv hc
    refine sound_bld hs hf hg ho hz hp (fun zv ⟨i, hi, hzv⟩ l => ?_) hr
    simp only [Program.built, hi, hd, hzv, hpl]
  · rename_i n el
    obtain ⟨sz, hsz, hc⟩ := bind_inv hc
    obtain ⟨ps', hp, rfl⟩ := map_inv hc
    obtain ⟨ie, hie, rfl⟩ := map_inv hsz
    refine sound_bld hs hf hg ho hz hp (fun zv ⟨i, hi, hzv⟩ l => ?_) hr
    simp only [Program.built, hi, hd, hzv, hie]
  · cases hc

/-- Many zeros. -/
theorem repl_len (z : List AV) : ∀ n, (repl n z).length = n * z.length
  | 0 => by show ([] : List AV).length = _; simp
  | n + 1 => by
    show (cat z (repl n z)).length = _
    rw [cat_eq, List.length_append, repl_len z n, Nat.add_mul]; omega

theorem repl_mem (z : List AV) : ∀ n x, x ∈ repl n z → x ∈ z
  | 0, x, h => by have h : x ∈ ([] : List AV) := h; simp at h
  | n + 1, x, h => by
    have h : x ∈ cat z (repl n z) := h
    rw [cat_eq, List.mem_append] at h
    exact h.elim id (repl_mem z n x)

theorem RelL.append : ∀ {xs ys : List AV} {vs ws : List Value}, RelL e xs vs → RelL e ys ws → RelL e (xs ++ ys) (vs ++ ws)
  | [], ys, [], ws, _, h => h
  | [], _, _ :: _, _, h, _ => by simp [RelL] at h
  | _ :: _, _, [], _, h, _ => by simp [RelL] at h
  | x :: xs, ys, v :: vs, ws, h, h' => by
    simp only [RelL, List.cons_append] at h ⊢
    exact ⟨h.1, RelL.append h.2 h'⟩

def rep (n : Nat) (vs : List Value) : List Value := match n with
  | 0 => []
  | n + 1 => vs ++ rep n vs

theorem rep_len (z : List Value) : ∀ n, (rep n z).length = n * z.length
  | 0 => by simp [rep]
  | n + 1 => by rw [rep, List.length_append, rep_len z n, Nat.add_mul]; omega

theorem rep_get (z : List Value) (hz : 0 < z.length) : ∀ n j, j < n * z.length → (rep n z)[j]? = z[j % z.length]?
  | 0, j, h => by simp at h
  | n + 1, j, h => by
    rw [rep]
    by_cases hj : j < z.length
    · rw [List.getElem?_append_left hj, Nat.mod_eq_of_lt hj]
    · rw [List.getElem?_append_right (by omega), rep_get z hz n _ (by rw [Nat.add_mul] at h; omega), ← Nat.mod_eq_sub_mod (by omega)]

theorem repl_rel {z : List AV} {zs : List Value} (h : RelL e z zs) : ∀ n, RelL e (repl n z) (rep n zs)
  | 0 => by show RelL e [] []; simp [RelL]
  | n + 1 => by
    show RelL e (cat z (repl n z)) _
    rw [cat_eq]; exact RelL.append h (repl_rel h n)

theorem rep_array (z : Array Value) (n k : Nat) (hz : 0 < z.size) (hk : k = n * z.size) : ((Array.range k).map (fun i => z[i % z.size]!)).toList = rep n z.toList := by
  apply List.ext_getElem?
  intro j
  by_cases hj : j < k
  · rw [rep_get z.toList (by simpa using hz) n j (by simpa using hk ▸ hj)]
    have : j % z.size < z.size := Nat.mod_lt _ hz
    simp [hj, this]
  · rw [List.getElem?_eq_none (by simpa using hj), List.getElem?_eq_none (by rw [rep_len]; simp; omega)]

/-- A slice over a whole new block. -/
theorem alloc_rel_sl (e : Env) (n : Nat) (c : Array Value) (el : TypeId) (b : Blk) (sz len cap : Nat) (ex : Bool) (h1 : len ≤ cap) (lo : Nat) (hlo : len ≤ lo) (hlo2 : lo ≤ cap) (hex : ex = true → cap = lo) (h2 : cap * sz ≤ c.size) :
    Rel (e.alloc n (.cells c el) b) (.sl (path n) 0 sz len lo ex) (.slice (some ⟨e.w.heap.size, 0, none⟩) len cap) := by
  have hr : (e.alloc n (.cells c el) b).ρ (path n) = (e.w.heap.size, 0) := if_pos rfl
  simp only [Rel]
  refine ⟨alloc_known e n _ b, _, _, rfl, hlo, hlo2, hex, .inr ?_⟩
  rw [hr]
  refine ⟨rfl, ?_⟩
  have : bsize (e.alloc n (.cells c el) b).w e.w.heap.size = c.size := by
    show bsize (e.w.alloc (.cells c el)) e.w.heap.size = _
    unfold bsize
    rw [heap_alloc_new]
  simp only [this]; omega

theorem elem_inv {t el : TypeId} (h : elemOf? P t = some el) : P.underlying t = some (.slice el) := by
  unfold elemOf? at h
  obtain ⟨d, hd, h⟩ := bind_inv h
  split at h
  · cases h; exact hd
  · cases h

/-- A new block that the abstract does not know. -/
theorem drop_ext (e : Env) (ob : Obj) : Ext e ⟨e.ρ, e.h, e.w.alloc ob, e.F⟩ :=
  ⟨Nat.le_refl _, fun _ h => h, fun _ _ => rfl, rfl, by simp, fun b hb _ => heap_alloc_old _ _ _ hb, fun b hb => bsize_congr (heap_alloc_old _ _ _ hb), fun _ _ h => h, fun _ b h => ⟨b, h⟩, fun _ h => .inl h, ⟨rfl, rfl, rfl⟩⟩
theorem drop_st {e : Env} (hs : St e) (ob : Obj) : St ⟨e.ρ, e.h, e.w.alloc ob, e.F⟩ where
  kn := hs.kn
  dk := hs.dk
  lo := hs.lo
  blk := fun id b hb => by
    by_cases hd : b = .dead
    · subst hd; trivial
    · exact BlkRel.ext (drop_ext e ob) (hs.dk id b hb) (heap_alloc_old _ _ _ (hs.lt ⟨b, hb, hd⟩)) b (hs.blk id b hb)
  inj := hs.inj
  fr := fun b hb => ⟨by have := (hs.fr b hb).1; simp; omega, (hs.fr b hb).2⟩

theorem sound_bsl {t : TypeId} {n : Nat} {ps : Array (Nat × Operand)} (hs : St e) (hlo : e.F.lo ≤ id) (hf : FrRel e fr a.tmps) (hg : GRel G e) (ho : o.op = .buildSlice t n ps)
    (hc : compOp P G (.buildSlice t n ps) = some ao) (hr : evOp call ao fr e.h id = .ok v h') : OpS P o e a v h' := by
  simp only [compOp] at hc
  obtain ⟨el, hel, hc⟩ := bind_inv hc
  obtain ⟨sz, hsz, hc⟩ := bind_inv hc
  obtain ⟨z, hz, hc⟩ := bind_inv hc
  split at hc
  · cases hc
  rename_i hn
  obtain ⟨ps', hp, rfl⟩ := map_inv hc
  have hu := elem_inv hel
  obtain ⟨i, zv, hi, hzv, hzs⟩ := zero_inv hz
  obtain ⟨hzr, hzo⟩ := rel_avOfs (e := e) hzs
  have hzl : zv.cells.size = sz := by have := hzr.len; simp at this; omega
  have hr : (match fillA ps' fr (repl n z) with
      | some cs => cd (Nat.beq n 0) (.ok .em e.h) (putNew id (.cs el cs false) (fun id => .sl id 0 sz n n true) e.h)
      | none => .no : R) = .ok v h' := hr
  split at hr
  · rename_i cs hfl
    obtain ⟨c', hc', hr', hcs', ho'⟩ := fill_rel hf hg (fun i => some (i * sz, sz)) _ _ hp (repl n z) cs ((Array.range (n * sz)).map (fun i => zv.cells[i % zv.cells.size]!))
      (by rw [rep_array zv.cells n _ (by omega) (by rw [hzl])]; exact repl_rel hzr n) (fun x hx => hzo x (repl_mem z n x hx)) hfl
    have hlim : ¬ (n * sz > 16777216) := by omega
    have hinfo : ∀ w, (typeInfo el).run P w = .ok i w := fun w => run_info hi w
    have hne : n * sz = 0 ↔ n = 0 := by
      constructor
      · intro h; rcases Nat.mul_eq_zero.1 h with h | h
        · exact h
        · omega
      · intro h; subst h; simp
    have hrun : (execOp a.eval o).run P e.w = .ok (.value (.slice (some ⟨e.w.heap.size, 0, none⟩) n n)) (e.w.alloc (.cells c' el)) := by
      by_cases h0 : n = 0
      · subst h0
        have hc0 : Instr.fill (fun i => some (i * sz, sz)) #[] (ps.map fun (i, x) => (i, a.eval x)).toList = some c' := by
          rw [Array.toList_map]
          have hz0 : (Array.range (0 * sz)).map (fun i => zv.cells[i % zv.cells.size]!) = #[] := by rw [Nat.zero_mul, show Array.range 0 = #[] from rfl]; simp
          rw [hz0] at hc'
          exact hc'
        have h00 : Array.range 0 = #[] := rfl
        simp [execOp, ho, Instr.buildSlice, run_underlying hu, run_size hsz, newRow, h00]
        rw [Array.toList_map] at hc0
        rw [hc0]
        simp
      · have hc0 : Instr.fill (fun i => some (i * sz, sz)) ((Array.range (n * sz)).map (fun i => zv.cells[i % zv.cells.size]!)) (ps.map fun (i, x) => (i, a.eval x)).toList = some c' := by
          rw [Array.toList_map]; exact hc'
        have hn0 : ¬ (n * sz = 0) := fun h => h0 (hne.1 h)
        simp only [execOp, ho, Instr.buildSlice, Sem.run_bind, run_underlying hu, run_size hsz, Result.andThen_ok, if_neg hlim, if_neg hn0, zeroValue, hinfo, hzv, newRow]
        have hc2 : Instr.fill (fun i => some (i * sz, sz)) (Array.map (fun x => zv.cells[x % zv.cells.size]!) (Array.range (n * sz))) (List.map (fun x => (x.fst, a.eval x.snd)) ps.toList) = some c' := hc'
        simp [hlim, hn0, hinfo, hzv]
        rw [hc2]
        simp
    rw [cd_eq, beq_nat] at hr
    by_cases h0 : n = 0
    · rw [decide_eq_true h0, if_pos rfl] at hr
      injection hr with h1 h2; subst h1 h2
      refine OpS.value hrun e.ρ (drop_st hs _) (drop_ext e _) ?_
      simp only [Rel]; exact ⟨_, by rw [h0]⟩
    · rw [decide_eq_false h0] at hr
      obtain ⟨hn', hf0, rfl, rfl⟩ := putNew_inv (by simpa using hr)
      have hf' := aside_none hs hlo hf0
      have hcl : cs.length = c'.size := by have := hr'.len; simpa using this.symm
      have hsz' : c'.size = n * sz := by rw [hcs']; simp
      have hb := alloc_cells hs hf' el hr' ho' c' (by omega) (fun j u hu => by simpa using hu)
      exact OpS.value hrun _ (alloc_st hs hn' hf' _ _ hb) (alloc_ext hs hf' _ _) (alloc_rel_sl e id c' el _ sz n n true (Nat.le_refl _) n (Nat.le_refl _) (Nat.le_refl _) (fun _ => rfl) (by omega))
  · cases hr
end
end Go.Ev

/- Soundness of builtins without append; of maps; of unsafe pointers. -/
namespace Go.Ev
section
variable {P : Program} {G : Nat → Option (List AV)} {o : Oper} {e : Env} {a : Act} {fr : T AV} {call : CallF} {id : Nat} {ao : AOp} {v : AV} {h' : H}

theorem run_exec_builtin {c : Call} {b : Builtin} (ho : o.op = .call c) (hb : c.callee = .builtin b) (w : World) :
    (execOp a.eval o).run P w = (builtin b c.argTypes o.type (c.args.map fun | .const _ => true | _ => false) (c.args.map a.eval)).run P w := by
  simp [execOp, ho, resolve, hb, invoke]
  rfl

theorem ods_one {xs : Array Operand} {x' : Od} (h : ods G xs.toList = some [x']) : ∃ x, xs = #[x] ∧ od G x = some x' := by
  obtain ⟨l⟩ := xs
  cases l with
  | nil => simp [ods] at h
  | cons x l =>
    simp only [ods] at h
    split at h
    · rename_i y ys hy hys
      simp only [Option.some.injEq, List.cons.injEq] at h
      obtain ⟨rfl, rfl⟩ := h
      cases l with
      | nil => exact ⟨x, rfl, hy⟩
      | cons z l =>
        simp only [ods] at hys
        split at hys
        · simp at hys
        · cases hys
    · cases h

theorem ods_two {xs : Array Operand} {x' y' : Od} (h : ods G xs.toList = some [x', y']) : ∃ x y, xs = #[x, y] ∧ od G x = some x' ∧ od G y = some y' := by
  obtain ⟨l⟩ := xs
  cases l with
  | nil => simp [ods] at h
  | cons x l =>
    simp only [ods] at h
    split at h
    · rename_i y ys hy hys
      simp only [Option.some.injEq, List.cons.injEq] at h
      obtain ⟨rfl, rfl⟩ := h
      obtain ⟨z, hz, hz'⟩ := ods_one (xs := l.toArray) (by simpa using hys)
      have hz : l = [z] := by have := congrArg Array.toList hz; simpa using this
      subst hz
      exact ⟨x, z, rfl, hy, hz'⟩
    · cases h

theorem isNilSl {u : AV} {cv : Value} (hr : Rel e u cv) : u = .v (.slice none 0 0) → cv = .slice none 0 0 := by
  intro h; subst h; simp only [Rel] at hr; exact hr.1


theorem run_getObj' {w : World} {r : Nat} {ms : Array MapEntry} {clock : Nat} (h : w.heap[r]? = some (.map ms clock)) : (getObj r).run P w = .ok (.map ms clock) w := by
  simp [getObj, Sem.run, h]

theorem EntRel.len : ∀ {es : List (AV × AV)} {ms : List MapEntry}, EntRel e es ms → ms.length = es.length
  | [], [], _ => rfl
  | [], _ :: _, h => h.elim
  | (_, _) :: _, [], h => h.elim
  | (_, _) :: _, _ :: _, h => by simp [EntRel.len h.2.2]

def LKOf : LK → TypeDesc → Prop
  | .str, d => d = .string
  | .sli, d => ∃ el, d = .slice el
  | .map, d => ∃ k el, d = .map k el

theorem lenOf_run {k : LK} {u : AV} {cv : Value} {n : Nat} (hs : St e) (hr : Rel e u cv) (h : lenOf k u e.h = some n) {t : TypeId} {d : TypeDesc} (hd : P.underlying t = some d)
    (hk : LKOf k d) (ty : TypeId) {ts : Array TypeId} (hts : ts[0]? = some t) :
    (Builtin.len_ ts ty #[cv]).run P e.w = .ok (goInt n) e.w := by
  unfold lenOf at h
  split at h
  · cases h
    simp only [Rel] at hr
    obtain ⟨_, ad, cap, rfl, _⟩ := hr
    obtain ⟨el, rfl⟩ := hk
    simp [Builtin.len_, hts, run_underlying hd]
  · cases h
    simp only [Rel] at hr
    obtain ⟨ad, rfl⟩ := hr
    obtain ⟨el, rfl⟩ := hk
    simp [Builtin.len_, hts, run_underlying hd]
  · cases h
    simp only [Rel] at hr
    obtain ⟨rfl, _⟩ := hr
    obtain ⟨el, rfl⟩ := hk
    simp [Builtin.len_, hts, run_underlying hd]
  · cases h
    simp only [Rel] at hr
    obtain ⟨ad, cap, rfl, _⟩ := hr
    obtain ⟨el, rfl⟩ := hk
    simp [Builtin.len_, hts, run_underlying hd]
  · cases h
    simp only [Rel] at hr
    obtain ⟨rfl, _⟩ := hr
    obtain ⟨k, el, rfl⟩ := hk
    simp [Builtin.len_, hts, run_underlying hd]
  · cases h
    rename_i l
    obtain ⟨hn, _, rfl⟩ := rel_s hr
    obtain rfl := hk
    simp [Builtin.len_, hts, run_underlying hd, strOf_size, hn]
  · split at h
    · rename_i i es hg
      cases h
      simp only [Rel] at hr
      obtain ⟨_, rfl⟩ := hr
      obtain ⟨k, el, rfl⟩ := hk
      obtain ⟨ms, clock, hm, hent⟩ := hs.blk _ _ hg
      have hl : ms.size = es.length := by simpa using hent.len
      have hget := run_getObj' (P := P) hm
      simp [Builtin.len_, hts, run_underlying hd, hget, hl]
    · cases h
  · cases h

theorem sound_len {c : Call} {k : LK} {x' : Od} {t : TypeId} {d : TypeDesc} (hs : St e) (hf : FrRel e fr a.tmps) (hg : GRel G e) (ho : o.op = .call c) (hb : c.callee = .builtin .len)
    (hx : ods G c.args.toList = some [x']) (ht : c.argTypes[0]? = some t) (hd : P.underlying t = some d) (hk : LKOf k d) (hr : evOp call (.len k x') fr e.h id = .ok v h') : OpS P o e a v h' := by
  obtain ⟨x, hxs, hx⟩ := ods_one hx
  have rx := od_rel hf hg hx
  have hr : (Option.rec .no (fun n => .ok (.i .i64 (.ofNat n)) e.h) (lenOf k (ev x' fr) e.h) : R) = .ok v h' := hr
  cases hl : lenOf k (ev x' fr) e.h with
  | none => rw [hl] at hr; cases hr
  | some n =>
    rw [hl] at hr
    have hr : R.ok (.i .i64 (.ofNat n)) e.h = .ok v h' := hr
    injection hr with h1 h2; subst h1 h2
    have hrun := lenOf_run (P := P) hs rx hl hd hk o.type ht
    refine OpS.same hs (cv := goInt n) ?_ (by simp [Rel, goInt])
    rw [run_exec_builtin ho hb, hxs]
    simp [builtin, hrun]

theorem sound_cap {c : Call} {x' : Od} {t el : TypeId} (hs : St e) (hf : FrRel e fr a.tmps) (hg : GRel G e) (ho : o.op = .call c) (hb : c.callee = .builtin .cap)
    (hx : ods G c.args.toList = some [x']) (ht : c.argTypes[0]? = some t) (hd : elemOf? P t = some el) (hr : evOp call (.o2 (.cap x')) fr e.h id = .ok v h') : OpS P o e a v h' := by
  obtain ⟨x, hxs, hx⟩ := ods_one hx
  have rx := od_rel hf hg hx
  have hu := elem_inv hd
  have key : ∀ b n m, a.eval x = .slice b n m → v = .i .i64 (.ofNat m) → OpS P o e a v e.h := by
    intro b n m hv hv'
    subst hv'
    refine OpS.same hs (cv := goInt m) ?_ (by simp [Rel, goInt])
    rw [run_exec_builtin ho hb, hxs]
    simp [builtin, Builtin.cap_, ht, run_underlying hu, hv]
  have hr : (match ev x' fr with
      | .sl _ _ _ _ lo true => .ok (.i .i64 (.ofNat lo)) e.h
      | .em => .ok (.i .i64 (.ofNat 0)) e.h
      | .v (.slice none 0 0) => .ok (.i .i64 (.ofNat 0)) e.h
      | _ => .no : R) = .ok v h' := hr
  generalize ev x' fr = u at hr rx
  split at hr
  · injection hr with h1 h2; subst h1 h2
    simp only [Rel] at rx
    obtain ⟨_, ad, cap, hv, _, _, h3, _⟩ := rx
    obtain rfl := h3 trivial
    exact key _ _ _ hv rfl
  · injection hr with h1 h2; subst h1 h2
    simp only [Rel] at rx
    obtain ⟨ad, hv⟩ := rx
    exact key _ _ _ hv rfl
  · injection hr with h1 h2; subst h1 h2
    simp only [Rel] at rx
    exact key _ _ _ rx.1 rfl
  · cases hr

theorem fold_max : ∀ {r : List AV} {vs : List Value} {x : AV} {cx : Value} {y : AV}, RelL e r vs → Rel e x cx →
    (List.rec (motive := fun _ => AV → Option AV) (fun a => some a) (fun y _ ih a => Option.rec none ih (mxA a y)) r x) = some y →
    ∃ cy, (vs.foldlM Builtin.max2 cx).run P e.w = .ok cy e.w ∧ Rel e y cy
  | [], [], x, cx, y, _, hx, h => by
    obtain rfl := Option.some.inj (show some x = some y from h)
    exact ⟨cx, by simp, hx⟩
  | [], _ :: _, _, _, _, h, _, _ => by simp [RelL] at h
  | _ :: _, [], _, _, _, h, _, _ => by simp [RelL] at h
  | z :: r, w :: vs, x, cx, y, hr, hx, h => by
    simp only [RelL] at hr
    have h : (Option.rec none (fun a => List.rec (motive := fun _ => AV → Option AV) (fun a => some a) (fun y _ ih a => Option.rec none ih (mxA a y)) r a) (mxA x z) : Option AV) = some y := h
    cases hm : mxA x z with
    | none => rw [hm] at h; cases h
    | some u =>
      rw [hm] at h
      unfold mxA at hm
      split at hm
      · rename_i k p k' q
        obtain rfl := Option.some.inj hm
        have hx := rel_i hx
        have hz := rel_i hr.1
        subst hx hz
        obtain ⟨cy, h1, h2⟩ := fold_max (x := .i k (cd (iLe q p) p q)) (cx := .int k (if q > p then q else p)) hr.2 (by
          simp only [Rel]
          rw [cd_eq, iLe_eq]
          by_cases hq : q ≤ p
          · rw [decide_eq_true hq, if_pos rfl, if_neg (by omega)]
          · rw [decide_eq_false hq, if_pos (by omega)]; simp) h
        refine ⟨cy, ?_, h2⟩
        rw [List.foldlM_cons]
        simp only [Builtin.max2, pure_bind]
        exact h1
      · cases hm

theorem fold_min : ∀ {r : List AV} {vs : List Value} {x : AV} {cx : Value} {y : AV}, RelL e r vs → Rel e x cx →
    (List.rec (motive := fun _ => AV → Option AV) (fun a => some a) (fun y _ ih a => Option.rec none ih (mnA a y)) r x) = some y →
    ∃ cy, (vs.foldlM Builtin.min2 cx).run P e.w = .ok cy e.w ∧ Rel e y cy
  | [], [], x, cx, y, _, hx, h => by
    obtain rfl := Option.some.inj (show some x = some y from h)
    exact ⟨cx, by simp, hx⟩
  | [], _ :: _, _, _, _, h, _, _ => by simp [RelL] at h
  | _ :: _, [], _, _, _, h, _, _ => by simp [RelL] at h
  | z :: r, w :: vs, x, cx, y, hr, hx, h => by
    simp only [RelL] at hr
    have h : (Option.rec none (fun a => List.rec (motive := fun _ => AV → Option AV) (fun a => some a) (fun y _ ih a => Option.rec none ih (mnA a y)) r a) (mnA x z) : Option AV) = some y := h
    cases hm : mnA x z with
    | none => rw [hm] at h; cases h
    | some u =>
      rw [hm] at h
      unfold mnA at hm
      split at hm
      · rename_i k p k' q
        obtain rfl := Option.some.inj hm
        have hx := rel_i hx
        have hz := rel_i hr.1
        subst hx hz
        obtain ⟨cy, h1, h2⟩ := fold_min (x := .i k (cd (iLe p q) p q)) (cx := .int k (if q < p then q else p)) hr.2 (by
          simp only [Rel]
          rw [cd_eq, iLe_eq]
          by_cases hq : p ≤ q
          · rw [decide_eq_true hq, if_pos rfl, if_neg (by omega)]
          · rw [decide_eq_false hq, if_pos (by omega)]; simp) h
        refine ⟨cy, ?_, h2⟩
        rw [List.foldlM_cons]
        simp only [Builtin.min2, pure_bind]
        exact h1
      · cases hm

theorem sound_mx {c : Call} {xs : List Od} (hs : St e) (hf : FrRel e fr a.tmps) (hg : GRel G e) (ho : o.op = .call c) (hb : c.callee = .builtin .max)
    (hx : ods G c.args.toList = some xs) (hr : evOp call (.o2 (.mx xs)) fr e.h id = .ok v h') : OpS P o e a v h' := by
  have rx := ods_rel hf hg hx
  obtain ⟨hq, rfl⟩ := okV_inv (show okV e.h (fold1 mxA (evs xs fr)) = .ok v h' from hr)
  generalize evs xs fr = us at hq rx
  cases us with
  | nil => cases hq
  | cons u us =>
    cases hl : c.args.toList with
    | nil => rw [hl] at rx; simp [RelL] at rx
    | cons y ys =>
      rw [hl, List.map_cons] at rx
      simp only [RelL] at rx
      obtain ⟨cy, h1, h2⟩ := fold_max (P := P) rx.2 rx.1 hq
      refine OpS.same hs (cv := cy) ?_ h2
      rw [run_exec_builtin ho hb]
      have : (c.args.map a.eval).toList = a.eval y :: ys.map a.eval := by rw [Array.toList_map, hl]; rfl
      simp [builtin, Builtin.max_, hl, h1]

theorem sound_mn {c : Call} {xs : List Od} (hs : St e) (hf : FrRel e fr a.tmps) (hg : GRel G e) (ho : o.op = .call c) (hb : c.callee = .builtin .min)
    (hx : ods G c.args.toList = some xs) (hr : evOp call (.o2 (.mn xs)) fr e.h id = .ok v h') : OpS P o e a v h' := by
  have rx := ods_rel hf hg hx
  obtain ⟨hq, rfl⟩ := okV_inv (show okV e.h (fold1 mnA (evs xs fr)) = .ok v h' from hr)
  generalize evs xs fr = us at hq rx
  cases us with
  | nil => cases hq
  | cons u us =>
    cases hl : c.args.toList with
    | nil => rw [hl] at rx; simp [RelL] at rx
    | cons y ys =>
      rw [hl, List.map_cons] at rx
      simp only [RelL] at rx
      obtain ⟨cy, h1, h2⟩ := fold_min (P := P) rx.2 rx.1 hq
      refine OpS.same hs (cv := cy) ?_ h2
      rw [run_exec_builtin ho hb]
      have : (c.args.map a.eval).toList = a.eval y :: ys.map a.eval := by rw [Array.toList_map, hl]; rfl
      simp [builtin, Builtin.min_, hl, h1]

theorem sound_fld {t : TypeId} {x : Operand} {f : Nat} (hs : St e) (hf : FrRel e fr a.tmps) (hg : GRel G e) (ho : o.op = .field t x f)
    (hc : compOp P G (.field t x f) = some ao) (hr : evOp call ao fr e.h id = .ok v h') : OpS P o e a v h' := by
  simp only [compOp] at hc
  obtain ⟨d, hd, hc⟩ := bind_inv hc
  split at hc
  · rename_i fs
    obtain ⟨fl, hfl, hc⟩ := bind_inv hc
    obtain ⟨n, hn, hc⟩ := bind_inv hc
    obtain ⟨ag, hag, hc⟩ := bind_inv hc
    obtain ⟨x', hx, rfl⟩ := map_inv hc
    have rx := od_rel hf hg hx
    have hq2 : (match ev x' fr, (if ag = true then some n else none) with
      | .ag cs, some n => Option.rec .no (fun l => .ok (.ag l) e.h) (cut cs fl.offset n)
      | .ag cs, none => okV e.h (nth cs fl.offset)
      | _, _ => .no : R) = .ok v h' := hr
    clear hr hc
    generalize ev x' fr = u at hq2 rx
    split at hq2
    · rename_i cs m hm
      cases ag with
      | false => cases hm
      | true =>
      obtain rfl := Option.some.inj (show some n = some m from hm)
      simp only [Rel] at rx
      obtain ⟨h1, vs, hv, h2⟩ := rx
      cases hcut : cut cs fl.offset n with
      | none => rw [hcut] at hq2; cases hq2
      | some l =>
        rw [hcut] at hq2
        have hq2 : R.ok (.ag l) e.h = .ok v h' := hq2
        injection hq2 with h3 h4; subst h3 h4
        have hcr := RelL.cut _ _ h2 hcut
        refine OpS.same hs (cv := .agg (vs.extract fl.offset (fl.offset + n))) ?_ ?_
        · simp [execOp, ho, Instr.field, run_underlying hd, hfl, hv, asAgg, part, run_isAgg hag, run_size hn]
        · simp only [Rel]
          refine ⟨fun c hc => ?_, _, rfl, ?_⟩
          · rcases cut_some _ _ _ _ hcut with ⟨h, _⟩ | ⟨_, h⟩
            · rw [h] at hc; exact h1 c (List.mem_of_mem_drop (List.mem_of_mem_take hc))
            · rw [h] at hc; simp at hc
          · rw [Array.toList_extract, List.extract_eq_take_drop]
            simpa using hcr
    · rename_i cs hm
      cases ag with
      | true => cases hm
      | false =>
      obtain ⟨hq, rfl⟩ := okV_inv hq2
      rw [nth_eq] at hq
      simp only [Rel] at rx
      obtain ⟨h1, vs, hv, h2⟩ := rx
      obtain ⟨u, hu, hru⟩ := h2.get hq
      refine OpS.same hs (cv := u) ?_ hru
      have hu : vs[fl.offset]? = some u := by simpa using hu
      simp [execOp, ho, Instr.field, run_underlying hd, hfl, hv, asAgg, part, run_isAgg hag, hu]
    · cases hq2
  · cases hc
end
end Go.Ev
