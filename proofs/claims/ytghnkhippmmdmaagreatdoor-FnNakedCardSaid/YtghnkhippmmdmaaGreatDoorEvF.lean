/- Soundness of append. -/
import Derived.Test.YtghnkhippmmdmaaGreatDoorEvE
set_option linter.unusedVariables false
set_option linter.unusedSimpArgs false

namespace Go.Ev
section
variable {P : Program} {G : Nat → Option (List AV)} {o : Oper} {e : Env} {a : Act} {fr : T AV} {call : CallF} {id : Nat} {ao : AOp} {v : AV} {h' : H}

/-- What a slice's (a string's) elements are, in the model. -/
structure ElemsRun (P : Program) (e : Env) (sz k : Nat) (x : Value) (vs : List Value) : Prop where
  len : ∀ w, (Builtin.lenOf x).run P w = .ok k w
  cells : ∀ w, w.heap = e.w.heap → (Builtin.firstCells sz k x).run P w = .ok vs.toArray w

theorem run_loadCells_heap {w w' : World} (hw : w'.heap = w.heap) (b o' : Nat) (vs : List Value) (h : ∀ j u, vs[j]? = some u → w.cell? ⟨b, o' + j, none⟩ = some u) :
    (loadCells ⟨b, o', none⟩ vs.length).run P w' = .ok vs.toArray w' :=
  run_loadCells_at b o' vs (fun j u hj => by rw [cell_of_heap (w := w) (by rw [hw])]; exact h j u hj)

theorem rows_flat : ∀ {xs : List (List AV)} {sz b o' : Nat}, RelRows e sz xs b o' → RelCells e xs.flatten b o' ∧ xs.flatten.length = xs.length * sz
  | [], _, _, _, _ => by simp [RelCells]
  | x :: xs, sz, b, o', h => by
    simp only [RelRows] at h
    obtain ⟨h1, h2, h3⟩ := h
    obtain ⟨h4, h5⟩ := rows_flat h3
    have app : ∀ (l m : List AV) (o'' : Nat), RelCells e l b o'' → RelCells e m b (o'' + l.length) → RelCells e (l ++ m) b o'' := by
      intro l
      induction l with
      | nil => intro m o'' _ h; simpa using h
      | cons y l ih =>
        intro m o'' hl hm
        simp only [RelCells, List.cons_append] at hl ⊢
        exact ⟨hl.1, ih m (o'' + 1) hl.2 (by rw [show o'' + 1 + l.length = o'' + (y :: l).length by simp; omega]; exact hm)⟩
    refine ⟨by rw [List.flatten_cons]; exact app _ _ _ h2 (by rw [h1]; exact h4), ?_⟩
    rw [List.flatten_cons, List.length_append, h5, h1, List.length_cons, Nat.add_mul]; omega

theorem run_loadCells_none (ad : Addr) (w : World) : (loadCells ad 0).run P w = .ok #[] w := by
  simp [loadCells, loadCellsFrom]

theorem cellsAt_len {x : AV} {n : Nat} {h : H} {r : List AV} (hc : cellsAt x n h = some r) : r.length = n := by
  rcases cellsAt_inv hc with ⟨_, _, _, _, _, _, _, hcut⟩ | ⟨_, _, _, hcut⟩ <;> exact (cut_get hcut).1

theorem elems_rel {u : AV} {cv : Value} {sz k : Nat} {cs : List AV} (hs : St e) (hr : Rel e u cv) (h : elems u sz e.h = some (cs, k)) :
    ∃ vs, RelL e cs vs ∧ (∀ c ∈ cs, one c = true) ∧ cs.length = k * sz ∧ ElemsRun P e sz k cv vs := by
  unfold elems at h
  split at h
  · rename_i i off sz' n lo ex
    cases hc : cellsAt (.p i off) (Nat.mul n sz) e.h with
    | none => rw [hc] at h; cases h
    | some l =>
      rw [hc] at h
      obtain ⟨rfl, rfl⟩ : l = cs ∧ n = k := by
        have := Option.some.inj (show some (l, n) = some (cs, k) from h)
        exact ⟨congrArg Prod.fst this, congrArg Prod.snd this⟩
      simp only [Rel] at hr
      obtain ⟨kn, ad, cap, rfl, h1, h2, h3, h4⟩ := hr
      rcases Nat.eq_zero_or_pos (n * sz) with h0 | h0
      · have hl : l = [] := by
          have := (cellsAt_len hc); rw [show Nat.mul n sz = n * sz from rfl, h0] at this
          exact List.eq_nil_of_length_eq_zero this
        subst hl
        refine ⟨[], by simp [RelL], by simp, by simp [h0], fun w => by simp [Builtin.lenOf], fun w _ => ?_⟩
        simp [Builtin.firstCells, h0, run_loadCells_none]
      · have hcap : cap ≠ 0 := by
          intro h; have : n = 0 := by omega
          subst this; simp at h0
        obtain ⟨rfl, _⟩ := h4.resolve_left hcap
        have hp : Rel e (.p i off) (.pointer (some ⟨(e.ρ i).1, (e.ρ i).2 + off, none⟩)) := by simp [Rel, kn]
        obtain ⟨b, o', hcv, hll, hcell⟩ := ptr_cells hs hp hc h0
        injection hcv with hcv
        injection hcv with hcv
        rw [hcv]
        obtain ⟨vs, r1, r2, r3⟩ := relL_of (e := e) l (fun j => e.w.cell? ⟨b, o' + j, none⟩) (fun j y hy => (hcell j y hy).2)
        refine ⟨vs, r1, fun c hc => ?_, hll, fun w => by simp [Builtin.lenOf], fun w hw => ?_⟩
        · obtain ⟨j, hj⟩ := List.mem_iff_getElem?.1 hc
          exact (hcell j _ hj).1
        · have := run_loadCells_heap (P := P) hw b o' vs r3
          rw [r2, hll] at this
          simpa [Builtin.firstCells] using this
  · cases h
    simp only [Rel] at hr
    obtain ⟨ad, rfl⟩ := hr
    exact ⟨[], by simp [RelL], by simp, by simp, fun w => by simp [Builtin.lenOf], fun w _ => by simp [Builtin.firstCells, run_loadCells_none]⟩
  · cases h
    simp only [Rel] at hr
    obtain ⟨rfl, _⟩ := hr
    exact ⟨[], by simp [RelL], by simp, by simp, fun w => by simp [Builtin.lenOf], fun w _ => by simp [Builtin.firstCells]⟩
  · rename_i sz' xs
    obtain ⟨h1, hq⟩ := cd_some h
    have h1 := beq_true h1
    clear h
    subst h1
    obtain ⟨rfl, rfl⟩ : xs.flatten = cs ∧ xs.length = k := by
      have := Option.some.inj hq
      exact ⟨congrArg Prod.fst this, congrArg Prod.snd this⟩
    simp only [Rel] at hr
    obtain ⟨ad, cap, rfl, hle, hx⟩ := hr
    rcases hx with rfl | ⟨hsp, _, hrows⟩
    · exact ⟨[], by simp [RelL], by simp, by simp, fun w => by simp [Builtin.lenOf], fun w _ => by simp [Builtin.firstCells, run_loadCells_none]⟩
    · obtain ⟨hcells, hlen⟩ := rows_flat hrows
      obtain ⟨vs, r1, r2, r3⟩ := relL_of (e := e) xs.flatten (fun j => e.w.cell? ⟨ad.block, ad.off + j, none⟩) (fun j y hy => (hcells.get hy).2)
      refine ⟨vs, r1, fun c hc => ?_, hlen, fun w => by simp [Builtin.lenOf], fun w hw => ?_⟩
      · obtain ⟨j, hj⟩ := List.mem_iff_getElem?.1 hc
        exact (hcells.get hj).1
      · have had : ad = ⟨ad.block, ad.off, none⟩ := by cases ad; simp at hsp; simp [hsp]
        have := run_loadCells_heap (P := P) hw ad.block ad.off vs r3
        rw [r2, hlen, ← had] at this
        simpa [Builtin.firstCells] using this
  · rename_i n l
    obtain ⟨h1, hq⟩ := cd_some h
    have h1 := beq_true h1
    clear h
    subst h1
    cases hq
    obtain ⟨hn, h256, rfl⟩ := rel_s hr
    refine ⟨_, bytes_rel l h256, fun c hc => ?_, by simp [hn], fun w => by simp [Builtin.lenOf, strOf_size, hn], fun w _ => ?_⟩
    · obtain ⟨k, _, rfl⟩ := List.mem_map.1 hc; rfl
    · have : (strOf l).extract 0 k = strOf l := by
        have := strOf_extract l 0 k (by omega)
        rw [Nat.zero_add] at this
        rw [this, hn]; simp
      simp only [Builtin.firstCells, this]
      simp [strOf]
  · cases h

/-! The runs of append. -/

/-- What is appended, and how many. -/
structure NewRun (P : Program) (e : Env) (ts : Array TypeId) (t el : TypeId) (i : TypeInfo) (k : Nat) (x : Value) (news : List Value) : Prop where
  ht : P.underlying t = some (.slice el)
  hi : P.info? el = some i
  two : ∃ t', ts = #[t, t'] ∧ ((∃ d, P.underlying t' = some d ∧ (∀ q, d ≠ .int q) ∧ ElemsRun P e i.size k x news) ∨
    (∃ q q' z, P.underlying t' = some (.int q) ∧ x = .int q' (k : Int) ∧ k ≤ 1099511627776 ∧ k * i.bytes ≤ 1099511627776 ∧ i.zero = some z ∧ z.cells.size = i.size ∧ 0 < i.size ∧ news = rep k z.cells.toList))

theorem zeroCells_rep (z : Array Value) (k : Nat) (hz : 0 < z.size) : Builtin.zeroCells z k = (rep k z.toList).toArray := by
  unfold Builtin.zeroCells
  rw [← rep_array z k _ hz rfl]

theorem run_append_in {ts : Array TypeId} {t el : TypeId} {i : TypeInfo} {k : Nat} {x : Value} {news : List Value} (hn : NewRun P e ts t el i k x news) {ty : TypeId} {base : Option Addr} {n cap : Nat} (hcap : n + k ≤ cap)
    {w' : World} (hst : ∀ ad, base = some ad → (storeCells (ad.add (n * i.size)) news).run P e.w = .ok () w') (hb : base = none → w' = e.w) :
    (Builtin.append_ ts ty #[.slice base n cap, x]).run P e.w = .ok (.slice base (n + k) cap) w' := by
  obtain ⟨ht, hi, t', rfl, h | h⟩ := hn
  · obtain ⟨d, hd, hq, he⟩ := h
    have hnz : (match d with | .int _ => true | _ => false) = false := by cases d <;> first | rfl | exact absurd rfl (hq _)
    cases base with
    | none =>
      obtain rfl := hb rfl
      simp [Builtin.append_, run_underlying ht, run_underlying hd, sizeOf, run_info hi, hnz, he.len, hcap, he.cells]
    | some ad =>
      simp [Builtin.append_, run_underlying ht, run_underlying hd, sizeOf, run_info hi, hnz, he.len, hcap, he.cells, hst ad rfl]
  · obtain ⟨q, q', z, hd, rfl, hk, hkb, hz, hzs, hz0, rfl⟩ := h
    have hw : IntKind.i64.wrap (k : Int) = (k : Int) := wrap_in _ _ ⟨by show (-9223372036854775808 : Int) ≤ k; omega, by show (k : Int) ≤ 9223372036854775807; omega⟩
    have hneg : ¬ ((k : Int) < 0) := by omega
    have hbig : ¬ (281474976710656 < (k : Int) * (i.bytes : Int)) := by
      have : ((k * i.bytes : Nat) : Int) ≤ 1099511627776 := by omega
      rw [Int.natCast_mul] at this; omega
    have hzc : Builtin.zeroCells z.cells k = (rep k z.cells.toList).toArray := zeroCells_rep _ _ (by omega)
    rcases Nat.eq_zero_or_pos k with h0 | h0
    · subst h0
      have hw0 : IntKind.i64.wrap 0 = 0 := by decide
      cases base with
      | none =>
        obtain rfl := hb rfl
        simp [Builtin.append_, run_underlying ht, run_underlying hd, sizeOf, run_info hi, asInt, asIntOf, hw0, show n ≤ cap by omega]
      | some ad =>
        have := hst ad rfl
        simp only [rep] at this
        simp [Builtin.append_, run_underlying ht, run_underlying hd, sizeOf, run_info hi, asInt, asIntOf, hw0, show n ≤ cap by omega, this]
    · have hks : ¬ (k = 0 ∨ i.size = 0) := by omega
      cases base with
      | none =>
        obtain rfl := hb rfl
        simp [Builtin.append_, run_underlying ht, run_underlying hd, sizeOf, run_info hi, asInt, asIntOf, hw, hneg, hbig, hcap, hks, zeroValue, hz]
      | some ad =>
        simp [Builtin.append_, run_underlying ht, run_underlying hd, sizeOf, run_info hi, asInt, asIntOf, hw, hneg, hbig, hcap, hks, zeroValue, hz, hzc, hst ad rfl]
        intro h; rcases Nat.mul_eq_zero.1 h with h | h <;> omega

theorem run_append_out {ts : Array TypeId} {t el : TypeId} {i : TypeInfo} {k : Nat} {x : Value} {news : List Value} (hn : NewRun P e ts t el i k x news) {z : Value} (hz : i.zero = some z) {ty : TypeId} {base : Option Addr} {n cap : Nat} (hcap : cap < n + k)
    {olds : List Value} (hold : ∀ w, w.heap = e.w.heap → (Builtin.firstCells i.size n (.slice base n cap)).run P w = .ok olds.toArray w) (hroom : (n + k) * i.bytes ≤ 1099511627776) (hb : 0 < i.bytes) :
    (Builtin.append_ ts ty #[.slice base n cap, x]).run P e.w = .ok (.slice (some ⟨e.w.heap.size, 0, none⟩) (n + k) (grownCap e.w (n + k) cap el))
      (e.w.drew.alloc (.cells ((olds ++ news).toArray ++ Builtin.zeroCells z.cells (grownCap e.w (n + k) cap el - (n + k))) el)) := by
  have hnk : n + k ≤ 1099511627776 := Nat.le_trans (Nat.le_mul_of_pos_right _ hb) hroom
  have hn' : ¬ (n + k ≤ cap) := by omega
  have h63 : ¬ (9223372036854775807 < ((n : Int) + (k : Int))) := by omega
  have h48 : ¬ (281474976710656 < Builtin.nextslicecap (n + k) cap * i.bytes) := by
    have := growslice_fits (bytes := i.bytes) hcap (by omega); omega
  obtain ⟨ht, hi, t', rfl, h | h⟩ := hn
  · obtain ⟨d, hd, hq, he⟩ := h
    have hnz : (match d with | .int _ => true | _ => false) = false := by cases d <;> first | rfl | exact absurd rfl (hq _)
    simp [Builtin.append_, run_underlying ht, run_underlying hd, sizeOf, typeInfo, zeroValue, hi, hz, hnz, he.len, hn', h63, h48, Question.forced, newRow, hold e.w.drew rfl, he.cells e.w.drew rfl]
    refine ⟨rfl, ?_⟩
    congr 2
    rw [← List.append_toArray, Array.append_assoc]; rfl
  · obtain ⟨q, q', z', hd, rfl, hk, hkb, hz', hzs, hz0, rfl⟩ := h
    rw [hz] at hz'
    obtain rfl := Option.some.inj hz'
    have hw : IntKind.i64.wrap (k : Int) = (k : Int) := wrap_in _ _ ⟨by show (-9223372036854775808 : Int) ≤ k; omega, by show (k : Int) ≤ 9223372036854775807; omega⟩
    have hneg : ¬ ((k : Int) < 0) := by omega
    have hbig : ¬ (281474976710656 < (k : Int) * (i.bytes : Int)) := by
      have : ((k * i.bytes : Nat) : Int) ≤ 1099511627776 := by omega
      rw [Int.natCast_mul] at this; omega
    have hzc : Builtin.zeroCells z.cells k = (rep k z.cells.toList).toArray := zeroCells_rep _ _ (by omega)
    rcases Nat.eq_zero_or_pos k with h0 | h0
    · subst h0
      have hw0 : IntKind.i64.wrap 0 = 0 := by decide
      have hn2 : ¬ (n ≤ cap) := by omega
      have h63' : ¬ (9223372036854775807 < (n : Int)) := by omega
      have h48' : ¬ (281474976710656 < Builtin.nextslicecap n cap * i.bytes) := h48
      simp [Builtin.append_, run_underlying ht, run_underlying hd, sizeOf, typeInfo, zeroValue, hi, hz, asInt, asIntOf, hw0, hn2, h63', h48', Question.forced, newRow, hold e.w.drew rfl, rep]
      exact ⟨rfl, rfl⟩
    · have hks : ¬ (k = 0 ∨ i.size = 0) := by omega
      have hks2 : ¬ (k * i.size = 0) := by intro h; rcases Nat.mul_eq_zero.1 h with h | h <;> omega
      simp [Builtin.append_, run_underlying ht, run_underlying hd, sizeOf, typeInfo, zeroValue, hi, hz, asInt, asIntOf, hw, hneg, hbig, hn', h63, h48, Question.forced, newRow, hold e.w.drew rfl, hks, hzc, hks2]
      refine ⟨rfl, ?_⟩
      congr 2
      rw [← List.append_toArray, Array.append_assoc]; rfl
end
end Go.Ev

/- Soundness of append: the states. -/
namespace Go.Ev

/-- A block killed. -/
theorem kill_ext {e : Env} (id : Id) : Ext e ⟨e.ρ, e.h.put id .dead, e.w, e.F⟩ where
  next := Nat.le_refl _
  kn := fun _ h => h
  ren := fun _ _ => rfl
  fr := rfl
  qt := ⟨rfl, rfl, rfl⟩
  heap := Nat.le_refl _
  keep := fun _ _ _ => rfl
  size := fun _ _ => rfl
  own := fun b _ ⟨j, ⟨c, hc, hd⟩, hj⟩ => by
    have hc : (e.h.put id .dead).get j = some c := hc
    rw [H.get_put] at hc
    by_cases h : j = id
    · rw [if_pos h] at hc; exact absurd (Option.some.inj hc).symm hd
    · rw [if_neg h] at hc; exact ⟨j, ⟨c, hc, hd⟩, hj⟩
  pres := put_pres _ _ _
  newk := fun _ h => .inl h

theorem kill_st {e : Env} (hs : St e) {id : Id} {b0 : Blk} (hid : e.h.get id = some b0) : St ⟨e.ρ, e.h.put id .dead, e.w, e.F⟩ := by
  refine St.next hs (kill_ext id) id ?_ ?_ (fun _ _ => rfl) ⟨hs.dk id _ hid, hs.num hid, ⟨.dead, ?_⟩⟩ ?_ ?_
  · intro b' hb'
    have hb' : (e.h.put id .dead).get id = some b' := hb'
    rw [H.get_put, if_pos rfl] at hb'
    obtain rfl := Option.some.inj hb'
    trivial
  · intro j h
    show (e.h.put id _).get j = _
    rw [H.get_put, if_neg h]
  · show (e.h.put id _).get id = _
    rw [H.get_put, if_pos rfl]
  · intro _ _ _; rfl
  · intro ⟨c, hc, hd⟩
    have hc : (e.h.put id .dead).get id = some c := hc
    rw [H.get_put, if_pos rfl] at hc
    exact absurd (Option.some.inj hc).symm hd

/-- A new block under the next number. -/
noncomputable def Env.grow (e : Env) (o : Obj) (b : Blk) : Env := (e.bump 1).alloc e.h.next o b

theorem grow_h (e : Env) (o : Obj) (b : Blk) : (e.grow o b).h = fresh b e.h := rfl

theorem grow_ext {e : Env} (hs : St e) (o : Obj) (b : Blk) : Ext e (e.grow o b) :=
  (bump_ext e 1).trans (alloc_ext (bump_st hs 1) (show ¬ known (e.bump 1) (path e.h.next) from fresh_none hs) o b)

theorem grow_st {e : Env} (hs : St e) (o : Obj) (b : Blk) (hb : BlkRel (e.grow o b) (path e.h.next) b) : St (e.grow o b) :=
  alloc_st (bump_st hs 1) (Nat.lt_succ_self _) (show ¬ known (e.bump 1) (path e.h.next) from fresh_none hs) o b hb

/-- A block that goes on under the next number, written. -/
noncomputable def Env.move (e : Env) (id : Id) (el : TypeId) (l : List AV) (cs : Array Value) : Env :=
  ⟨fun j => if j = path e.h.next then e.ρ id else e.ρ j, fresh (.cs el l false) (e.h.put id .dead), e.w.setRow (e.ρ id).1 cs, e.F⟩

theorem move_get (e : Env) (id : Id) (el : TypeId) (l : List AV) (cs : Array Value) (j : Id) :
    (e.move id el l cs).h.get j = if j = path e.h.next then some (.cs el l false) else if j = id then some .dead else e.h.get j := by
  show T.get j (T.set (path e.h.next) _ (T.set id _ e.h.t)) = _
  rw [T.get_set, T.get_set]
  rfl

theorem move_ext {e : Env} (hs : St e) {id : Id} {el : TypeId} {l0 : List AV} {fz : Bool} (hid : e.h.get id = some (.cs el l0 fz)) {old cs : Array Value} {fr : Nat × Nat}
    (hg : e.w.heap[(e.ρ id).1]? = some (.cells old el fr)) (hc : cs.size = old.size) (l : List AV) : Ext e (e.move id el l cs) where
  next := Nat.le_succ _
  kn := fun j hk => by
    show (if j = path e.h.next then e.ρ id else e.ρ j).2 = 0
    split
    · exact hs.dk id _ hid
    · exact hk
  ren := fun j hk => by
    show (if j = path e.h.next then e.ρ id else e.ρ j) = _
    rw [if_neg]
    intro h; subst h; exact fresh_none hs hk
  fr := rfl
  qt := ⟨rfl, rfl, rfl⟩
  heap := by show _ ≤ (e.w.setRow _ _).heap.size; simp
  keep := fun b _ ho => setRow_other _ _ _ _ (fun h => ho ⟨id, ⟨_, hid, by simp⟩, h.symm⟩)
  size := fun b _ => setRow_bsize _ _ _ _ _ _ hg hc b
  own := fun b _ ⟨j, ⟨c, hc', hd⟩, hj⟩ => by
    rw [move_get] at hc'
    have hj : (if j = path e.h.next then e.ρ id else e.ρ j).1 = b := hj
    split at hc'
    · rename_i h; rw [if_pos h] at hj; exact ⟨id, ⟨_, hid, by simp⟩, hj⟩
    · rename_i h; rw [if_neg h] at hj
      split at hc'
      · exact absurd (Option.some.inj hc').symm hd
      · exact ⟨j, ⟨c, hc', hd⟩, hj⟩
  pres := fun j b hb => by
    rw [move_get]
    split
    · exact ⟨_, rfl⟩
    · split
      · exact ⟨_, rfl⟩
      · exact ⟨b, hb⟩
  newk := fun j hk => by
    have hk : (if j = path e.h.next then e.ρ id else e.ρ j).2 = 0 := hk
    by_cases h : j = path e.h.next
    · exact .inr ⟨_, by rw [move_get, if_pos h]⟩
    · rw [if_neg h] at hk; exact .inl hk

theorem move_st {e : Env} (hs : St e) {id : Id} {el : TypeId} {l0 : List AV} {fz : Bool} (hid : e.h.get id = some (.cs el l0 fz)) {old cs : Array Value} {fr : Nat × Nat}
    (hg : e.w.heap[(e.ρ id).1]? = some (.cells old el fr)) (hc : cs.size = old.size) {l : List AV} (hb : BlkRel (e.move id el l cs) (path e.h.next) (.cs el l false)) : St (e.move id el l cs) := by
  have x := move_ext hs hid hg hc l
  have hne : id ≠ path e.h.next := fun h => fresh_none hs (by rw [← h]; exact hs.dk id _ hid)
  have lv : ∀ j, live (e.move id el l cs).h j → j ≠ path e.h.next → live e.h j ∧ j ≠ id := fun j ⟨b, hb', hd⟩ hj => by
    rw [move_get, if_neg hj] at hb'
    by_cases h : j = id
    · rw [if_pos h] at hb'; exact absurd (Option.some.inj hb').symm hd
    · rw [if_neg h] at hb'; exact ⟨⟨b, hb', hd⟩, h⟩
  refine ⟨?_, ?_, Nat.le_succ_of_le hs.lo, ?_, ?_, ?_⟩
  · intro j hj
    have hj : (if j = path e.h.next then e.ρ id else e.ρ j).2 = 0 := hj
    by_cases h : j = path e.h.next
    · exact ⟨e.h.next, Nat.lt_succ_self _, h, fun _ => ⟨_, by rw [move_get, if_pos h]⟩⟩
    · rw [if_neg h] at hj
      obtain ⟨k, hk, hk', hp⟩ := hs.kn j hj
      refine ⟨k, Nat.lt_succ_of_lt hk, hk', fun hlo => ?_⟩
      rw [move_get, if_neg h]
      split
      · exact ⟨_, rfl⟩
      · exact hp hlo
  · intro j b hj
    rw [move_get] at hj
    show (if j = path e.h.next then e.ρ id else e.ρ j).2 = 0
    split
    · exact hs.dk id _ hid
    · rename_i h
      rw [if_neg h] at hj
      split at hj
      · rename_i h2; rw [h2]; exact hs.dk id _ hid
      · exact hs.dk j b hj
  · intro j b hj
    rw [move_get] at hj
    split at hj
    · rename_i h; obtain rfl := Option.some.inj hj; rw [h]; exact hb
    · split at hj
      · obtain rfl := Option.some.inj hj; trivial
      · rename_i h1 h2
        by_cases hd : b = .dead
        · subst hd; trivial
        · refine BlkRel.ext x (hs.dk j b hj) ?_ b (hs.blk j b hj)
          exact setRow_other _ _ _ _ (fun h => h2 (hs.inj j id ⟨b, hj, hd⟩ ⟨_, hid, by simp⟩ h))
  · intro j j' l1 l2 he
    have he : (if j = path e.h.next then e.ρ id else e.ρ j).1 = (if j' = path e.h.next then e.ρ id else e.ρ j').1 := he
    by_cases h : j = path e.h.next
    · by_cases h' : j' = path e.h.next
      · rw [h, h']
      · rw [if_pos h, if_neg h'] at he
        obtain ⟨l3, h3⟩ := lv j' l2 h'
        exact absurd (hs.inj j' id l3 ⟨_, hid, by simp⟩ he.symm) h3
    · by_cases h' : j' = path e.h.next
      · rw [if_neg h, if_pos h'] at he
        obtain ⟨l3, h3⟩ := lv j l1 h
        exact absurd (hs.inj j id l3 ⟨_, hid, by simp⟩ he) h3
      · rw [if_neg h, if_neg h'] at he
        exact hs.inj j j' (lv j l1 h).1 (lv j' l2 h').1 he
  · intro b hb'
    obtain ⟨h1, h2⟩ := hs.fr b hb'
    exact ⟨Nat.lt_of_lt_of_le h1 x.heap, fun h => h2 (x.own b h1 h)⟩


/-- A slice that has grown into a new block, in both. -/
theorem grown_both {e : Env} (hs : St e) {el : TypeId} {sz n : Nat} {l : List AV} {vs : List Value} (hl : RelL e l vs) (ho : ∀ x ∈ l, one x = true) (hlen : l.length = n * sz) {zs : Array Value} (hzs : zs.size = sz) {cap : Nat} (hcap : n ≤ cap) :
    ∃ ρ', St ⟨ρ', fresh (.cs el l false) e.h, e.w.drew.alloc (.cells (vs.toArray ++ Builtin.zeroCells zs (cap - n)) el), e.F⟩ ∧
      Ext e ⟨ρ', fresh (.cs el l false) e.h, e.w.drew.alloc (.cells (vs.toArray ++ Builtin.zeroCells zs (cap - n)) el), e.F⟩ ∧
      Rel ⟨ρ', fresh (.cs el l false) e.h, e.w.drew.alloc (.cells (vs.toArray ++ Builtin.zeroCells zs (cap - n)) el), e.F⟩ (.sl (path e.h.next) 0 sz n n false) (.slice (some ⟨e.w.heap.size, 0, none⟩) n cap) := by
  have hvl := hl.len
  let c : Array Value := vs.toArray ++ Builtin.zeroCells zs (cap - n)
  have hcsz : c.size = cap * sz := by
    show (vs.toArray ++ Builtin.zeroCells zs (cap - n)).size = _
    rw [Array.size_append, List.size_toArray, hvl, hlen]
    unfold Builtin.zeroCells
    rw [Array.size_map, Array.size_range, hzs, ← Nat.add_mul]
    congr 1; omega
  have hheap : (e.w.drew.alloc (.cells c el)).heap = (e.w.alloc (.cells c el)).heap := rfl
  have hlb : RelL (e.bump 1) l vs := RelL.ext (bump_ext e 1) _ _ hl
  have hle : n * sz ≤ cap * sz := Nat.mul_le_mul_right _ hcap
  have hb := alloc_cells (e := e.bump 1) (n := e.h.next) (bump_st hs 1) (show ¬ known (e.bump 1) (path e.h.next) from fresh_none hs) el hlb ho c (by omega) (fun j u hu => by
    have hj : j < vs.length := (List.getElem?_eq_some_iff.1 hu).1
    show (vs.toArray ++ Builtin.zeroCells zs (cap - n))[j]? = some u
    rw [Array.getElem?_append_left (by simpa using hj)]
    simpa using hu)
  have st1 := grow_st hs (.cells c el) (.cs el l false) hb
  have ex1 := grow_ext hs (.cells c el) (.cs el l false)
  have rel1 : Rel (e.grow (.cells c el) (.cs el l false)) (.sl (path e.h.next) 0 sz n n false) (.slice (some ⟨e.w.heap.size, 0, none⟩) n cap) :=
    alloc_rel_sl (e.bump 1) e.h.next c el _ sz n cap false hcap n (Nat.le_refl _) hcap (fun h => absurd h (by simp)) (by omega)
  have hq : Qt (e.grow (.cells c el) (.cs el l false)).w (e.w.drew.alloc (.cells c el)) := ⟨rfl, rfl, rfl⟩
  exact ⟨(e.grow (.cells c el) (.cs el l false)).ρ, heap_st st1 hheap hq, ex1.trans (heap_ext hheap hq), Rel.ext (heap_ext hheap hq) _ _ rel1⟩

/-- A block put again. -/
theorem again_ext {e : Env} {id : Id} {b : Blk} (hid : e.h.get id = some b) : Ext e ⟨e.ρ, e.h.put id b, e.w, e.F⟩ := by
  have hg : ∀ j, (e.h.put id b).get j = e.h.get j := fun j => by
    rw [H.get_put]; by_cases h : j = id
    · rw [if_pos h, h, hid]
    · rw [if_neg h]
  exact ⟨Nat.le_refl _, fun _ h => h, fun _ _ => rfl, rfl, Nat.le_refl _, fun _ _ _ => rfl, fun _ _ => rfl,
    fun k _ ⟨j, ⟨c, hc, hd⟩, hj⟩ => ⟨j, ⟨c, by rw [← hg]; exact hc, hd⟩, hj⟩, fun j c hc => ⟨c, by rw [← hg] at hc; exact hc⟩, fun _ h => .inl h, ⟨rfl, rfl, rfl⟩⟩

theorem again_st {e : Env} (hs : St e) {id : Id} {b : Blk} (hid : e.h.get id = some b) : St ⟨e.ρ, e.h.put id b, e.w, e.F⟩ := by
  have hg : ∀ j, (e.h.put id b).get j = e.h.get j := fun j => by
    rw [H.get_put]; by_cases h : j = id
    · rw [if_pos h, h, hid]
    · rw [if_neg h]
  have x := again_ext hid
  exact ⟨fun j hk => by
      obtain ⟨k, h1, h2, h3⟩ := hs.kn j hk
      exact ⟨k, h1, h2, fun hl => by show ∃ c, (e.h.put id b).get j = some c; rw [hg]; exact h3 hl⟩, fun j c hc => hs.dk j c (by rw [← hg]; exact hc), hs.lo, fun j c hc => BlkRel.ext x (hs.dk j c (by rw [← hg]; exact hc)) rfl c (hs.blk j c (by rw [← hg]; exact hc)),
    fun j j' ⟨c, hc, hd⟩ ⟨c', hc', hd'⟩ he => hs.inj j j' ⟨c, by rw [← hg]; exact hc, hd⟩ ⟨c', by rw [← hg]; exact hc', hd'⟩ he,
    fun k hk => ⟨(hs.fr k hk).1, fun ho => (hs.fr k hk).2 (x.own k (hs.fr k hk).1 ho)⟩⟩

end Go.Ev

/- Soundness of append. -/
namespace Go.Ev
section
variable {P : Program} {G : Nat → Option (List AV)} {o : Oper} {e : Env} {a : Act} {fr : T AV} {call : CallF} {id : Nat} {ao : AOp} {v : AV} {h' : H}

theorem growA_inv {el sz by_ n : Nat} {l : List AV} {h : H} (hr : growA el sz by_ n l h = .ok v h') : n * by_ ≤ 1099511627776 ∧ v = .sl (path h.next) 0 sz n n false ∧ h' = fresh (.cs el l false) h := by
  unfold growA at hr
  rw [cd_eq] at hr
  unfold roomy at hr
  rw [ble_nat] at hr
  by_cases hroom : Nat.mul n by_ ≤ 1099511627776
  · rw [decide_eq_true hroom] at hr
    injection (show R.ok _ _ = .ok v h' from hr) with h1 h2
    exact ⟨hroom, h1.symm, h2.symm⟩
  · rw [decide_eq_false hroom] at hr; cases hr

def Good (P : Program) (e : Env) (s : Sem Value) (v : AV) (h' : H) : Prop :=
  ∃ cv' w' ρ', s.run P e.w = .ok cv' w' ∧ St ⟨ρ', h', w', e.F⟩ ∧ Ext e ⟨ρ', h', w', e.F⟩ ∧ Rel ⟨ρ', h', w', e.F⟩ v cv'

theorem append_grow (hs : St e) {e1 : Env} (hs1 : St e1) (hx1 : Ext e e1) (hw1 : e1.w = e.w) (hF1 : e1.F = e.F) {ts : Array TypeId} {t el : TypeId} {i : TypeInfo} {k : Nat} {x : Value} {news : List Value} (hn : NewRun P e ts t el i k x news)
    {zv : Value} (hz : i.zero = some zv) (hzs : zv.cells.size = i.size) (hb : 0 < i.bytes) {new : List AV} (hnew : RelL e new news) (hone : ∀ c ∈ new, one c = true) (hlen : new.length = k * i.size)
    {base : Option Addr} {n cap : Nat} (hcap : cap < n + k) {old : List AV} {olds : List Value} (hold : RelL e old olds) (hone' : ∀ c ∈ old, one c = true) (hlen' : old.length = n * i.size)
    (hrun : ∀ w, w.heap = e.w.heap → (Builtin.firstCells i.size n (.slice base n cap)).run P w = .ok olds.toArray w) (ty : TypeId)
    (h : growA el i.size i.bytes (n + k) (cat old new) e1.h = .ok v h') : Good P e (Builtin.append_ ts ty #[.slice base n cap, x]) v h' := by
  obtain ⟨hroom, rfl, rfl⟩ := growA_inv h
  have hr := run_append_out hn hz (ty := ty) hcap hrun hroom hb
  have hge := grownCap_ge e.w (n + k) cap el
  rw [cat_eq] at *
  obtain ⟨ρ', s1, x1, r1⟩ := grown_both (e := e1) (el := el) (sz := i.size) (n := n + k) (l := old ++ new) (vs := olds ++ news) hs1 (RelL.append (RelL.ext hx1 _ _ hold) (RelL.ext hx1 _ _ hnew)) (fun c hc => by
    rcases List.mem_append.1 hc with hc | hc
    · exact hone' c hc
    · exact hone c hc) (by rw [List.length_append, hlen, hlen', Nat.add_mul]) hzs hge
  rw [hw1, hF1] at s1 x1 r1
  exact ⟨_, _, ρ', hr, s1, hx1.trans x1, r1⟩

theorem append_both (hs : St e) {ts : Array TypeId} {t el : TypeId} {i : TypeInfo} {k : Nat} {x : Value} {news : List Value} (hn : NewRun P e ts t el i k x news)
    {zv : Value} (hz : i.zero = some zv) (hzs : zv.cells.size = i.size) (hb : 0 < i.bytes) (hsz : 0 < i.size) {new : List AV} (hnew : RelL e new news) (hone : ∀ c ∈ new, one c = true) (hlen : new.length = k * i.size)
    {u : AV} {cv : Value} (hu : Rel e u cv) (ty : TypeId) (h : appendA el i.size i.bytes u new k e.h = .ok v h') : Good P e (Builtin.append_ ts ty #[cv, x]) v h' := by
  have hnil : new = [] ↔ k = 0 := by
    constructor
    · intro h
      have h0 : k * i.size = 0 := by rw [← hlen, h]; rfl
      rcases Nat.mul_eq_zero.1 h0 with h | h <;> omega
    · intro h; subst h; exact List.eq_nil_of_length_eq_zero (by omega)
  have hnews : new = [] → news = [] := by
    intro h; have := hnew.len; rw [h] at this; exact List.eq_nil_of_length_eq_zero this
  have stay : ∀ base, (Builtin.append_ ts ty #[.slice base 0 0, x]).run P e.w = .ok (.slice base 0 0) e.w ∨ k ≠ 0 := by
    intro base
    by_cases h0 : k = 0
    · left
      subst h0
      have hne := hnews (hnil.2 rfl)
      refine run_append_in hn (n := 0) (cap := 0) (Nat.le_refl _) (fun ad _ => ?_) (fun _ => rfl)
      rw [hne]; simp [storeCells]
    · exact .inr h0
  unfold appendA at h
  split at h
  · -- nil
    simp only [Rel] at hu
    obtain ⟨rfl, _⟩ := hu
    rw [cd_eq, beq_nat] at h
    by_cases h0 : k = 0
    · rw [decide_eq_true h0] at h
      injection (show R.ok _ e.h = .ok v h' from h) with h1 h2; subst h1 h2
      exact ⟨_, _, e.ρ, (stay none).resolve_right (by simp [h0]), hs, Ext.refl _, by simp [Rel, nilish]⟩
    · rw [decide_eq_false h0] at h
      have h : growA el i.size i.bytes (0 + k) (cat [] new) e.h = .ok v h' := by
        have h2 : growA el i.size i.bytes k new e.h = .ok v h' := h
        rw [Nat.zero_add]; exact h2
      exact append_grow hs hs (Ext.refl e) rfl rfl hn hz hzs hb hnew hone hlen (by omega) (old := []) (olds := []) (by simp [RelL]) (by simp) (by simp) (fun w _ => by simp [Builtin.firstCells]) ty h
  · -- empty, without room
    simp only [Rel] at hu
    obtain ⟨ad, rfl⟩ := hu
    rw [cd_eq, beq_nat] at h
    by_cases h0 : k = 0
    · rw [decide_eq_true h0] at h
      injection (show R.ok _ e.h = .ok v h' from h) with h1 h2; subst h1 h2
      exact ⟨_, _, e.ρ, (stay (some ad)).resolve_right (by simp [h0]), hs, Ext.refl _, by simp [Rel]⟩
    · rw [decide_eq_false h0] at h
      have h : growA el i.size i.bytes (0 + k) (cat [] new) e.h = .ok v h' := by
        have h2 : growA el i.size i.bytes k new e.h = .ok v h' := h
        rw [Nat.zero_add]; exact h2
      exact append_grow hs hs (Ext.refl e) rfl rfl hn hz hzs hb hnew hone hlen (by omega) (old := []) (olds := []) (by simp [RelL]) (by simp) (by simp) (fun w _ => by simp [Builtin.firstCells, run_loadCells_none]) ty h
  · rename_i j off sz' n lo ex
    have hu0 := hu
    simp only [Rel] at hu
    obtain ⟨kn, ad, cap, rfl, h1, h2, h3, h4⟩ := hu
    rw [cd_eq, beq_nat] at h
    by_cases hsz' : sz' = i.size
    case neg => rw [decide_eq_false hsz'] at h; cases h
    rw [decide_eq_true hsz', if_pos rfl, cd_eq, ble_nat] at h
    subst hsz'
    by_cases hfit : Nat.add n k ≤ lo
    · -- in place
      rw [decide_eq_true hfit] at h
      have hfit : n + k ≤ lo := hfit
      have h : (Option.rec .no (fun h' => .ok (.sl j off i.size (Nat.add n k) lo ex) h') (storeAt (.p j (Nat.add off (Nat.mul n i.size))) new e.h) : R) = .ok v h' := h
      cases hst : storeAt (.p j (Nat.add off (Nat.mul n i.size))) new e.h with
      | none => rw [hst] at h; cases h
      | some h2' =>
        rw [hst] at h
        injection (show R.ok _ h2' = .ok v h' from h) with h5 h6; subst h5 h6
        by_cases hk : k = 0
        · subst hk
          have hne := hnil.2 rfl
          have hnn := hnews hne
          subst hne hnn
          obtain ⟨i', off', el', l, fz, l', hp, hg, hfz, hl, rfl⟩ := storeAt_inv hst
          injection hp with hp1 hp2; subst hp1 hp2
          have := lay_nil hl; subst this
          have hr := run_append_in hn (ty := ty) (base := some ad) (n := n) (cap := cap) (by omega) (w' := e.w) (fun ad _ => by simp [storeCells]) (fun h => by cases h)
          exact ⟨_, _, e.ρ, hr, again_st hs hg, again_ext hg, Rel.ext (again_ext hg) _ _ (by
            simp only [Rel]; exact ⟨kn, ad, cap, rfl, hfit, h2, h3, h4⟩)⟩
        · have hcap : cap ≠ 0 := by omega
          obtain ⟨rfl, hbs⟩ := h4.resolve_left hcap
          have hp : Rel e (.p j (Nat.add off (Nat.mul n i.size))) (.pointer (some ⟨(e.ρ j).1, (e.ρ j).2 + (off + n * i.size), none⟩)) := by simp only [Rel]; exact ⟨kn, rfl⟩
          obtain ⟨ad, w', hcv, hrun, hst', hx'⟩ := store_both (P := P) hs hp hnew hone hst (fun h => hk (hnil.1 h))
          injection hcv with hcv
          injection hcv with hcv
          subst hcv
          have hr := run_append_in hn (ty := ty) (base := some ⟨(e.ρ j).1, (e.ρ j).2 + off, none⟩) (n := n) (cap := cap) (by omega) (w' := w') (fun ad had => by
            obtain rfl := Option.some.inj had
            rw [Addr.add_none, Nat.add_assoc]; exact hrun) (fun h => by cases h)
          exact ⟨_, _, e.ρ, hr, hst', hx', Rel.ext hx' _ _ (by
            simp only [Rel]; exact ⟨kn, _, cap, rfl, hfit, h2, h3, .inr ⟨rfl, hbs⟩⟩)⟩
    · rw [decide_eq_false hfit] at h
      have hfit : ¬ (n + k ≤ lo) := hfit
      simp only [Bool.false_eq_true, if_false] at h
      split at h
      · rename_i el' l fz hget
        split at h
        · rename_i old hcut
          have hce : cellsAt (.p j off) (n * i.size) e.h = some old := by
            show blkCut (e.h.get j) off (n * i.size) = some old
            rw [hget]; exact hcut
          obtain ⟨olds, ho1, ho2, ho3, ho4⟩ := elems_rel (P := P) (sz := i.size) (k := n) (cs := old) hs hu0 (by
            show (Option.rec none (fun l => some (l, n)) (cellsAt (.p j off) (Nat.mul n i.size) e.h) : Option (List AV × Nat)) = some (old, n)
            rw [show Nat.mul n i.size = n * i.size from rfl, hce])
          rw [cd_eq] at h
          cases ex with
          | true =>
            obtain rfl := h3 rfl
            exact append_grow hs hs (Ext.refl e) rfl rfl hn hz hzs hb hnew hone hlen (by omega) ho1 ho2 ho3 ho4.cells ty h
          | false =>
            simp only [Bool.false_eq_true, if_false] at h
            rw [cd_eq, beq_nat] at h
            by_cases he : el = el'
            case neg => rw [decide_eq_false he] at h; cases h
            rw [decide_eq_true he, if_pos rfl, cd_eq, beq_nat] at h
            by_cases h0 : off = 0
            case neg => rw [decide_eq_false h0] at h; cases h
            rw [decide_eq_true h0, if_pos rfl] at h
            cases fz with
            | true => cases h
            | false =>
            have h : growA el i.size i.bytes (n + k) (cat old new) (e.h.put j .dead) = .ok v h' := h
            subst he h0
            by_cases hc : n + k ≤ cap
            · -- in place: the block goes on under a new number
              obtain ⟨hroom, rfl, rfl⟩ := growA_inv h
              have hcap : cap ≠ 0 := by
                intro h; apply hfit; omega
              obtain ⟨rfl, hbs⟩ := h4.resolve_left hcap
              obtain ⟨c, frz, hc1, hc2, hc3, hc4, hz0⟩ := hs.blk j _ hget
              have hbc : bsize e.w (e.ρ j).1 = c.size := by unfold bsize; rw [hc1]
              rw [hbc, hz0] at hbs
              have hmul : (n + k) * i.size ≤ cap * i.size := Nat.mul_le_mul_right _ hc
              rw [Nat.add_mul] at hmul
              have hnl := hnew.len
              have hone2 : ∀ u ∈ news, u.oneCell' = true := fun u hu => by
                obtain ⟨q, hq⟩ := List.mem_iff_getElem?.1 hu
                have hql : q < new.length := by have := (List.getElem?_eq_some_iff.1 hq).1; omega
                obtain ⟨u', hu', hru⟩ := hnew.get (List.getElem?_eq_getElem hql)
                rw [hq] at hu'
                obtain rfl := Option.some.inj hu'
                exact hru.one_cell (hone _ (List.getElem_mem hql))
              have hrun := run_storeCells_lay (P := P) (e.ρ j).1 el frz news (n * i.size) 0 c e.w hc1 (by omega) hone2 (fun q hq hh => by
                have := hc4 rfl _ hh.1 hh.2
                omega)
              have hr := run_append_in hn (ty := ty) (base := some ⟨(e.ρ j).1, (e.ρ j).2 + 0, none⟩) (n := n) (cap := cap) hc (w' := e.w.setRow (e.ρ j).1 (layA c (n * i.size + 0) news)) (fun ad had => by
                obtain rfl := Option.some.inj had
                rw [Addr.add_none, hz0, Nat.zero_add]; exact hrun) (fun h => by cases h)
              have hsz2 := layA_size news c (n * i.size + 0)
              have x2 := move_ext hs hget hc1 hsz2 (cat old new)
              have hρ : (e.move j el (cat old new) (layA c (n * i.size + 0) news)).ρ (path e.h.next) = e.ρ j := if_pos rfl
              have hb2 : BlkRel (e.move j el (cat old new) (layA c (n * i.size + 0) news)) (path e.h.next) (.cs el (cat old new) false) := by
                simp only [BlkRel, hρ]
                refine ⟨layA c (n * i.size + 0) news, frz, setRow_heap _ _ _ _ _ _ hc1, ?_, fun q y hy => ?_, fun _ o' g1 g2 => by rw [hsz2]; exact hc4 rfl o' g1 g2, hz0⟩
                · rw [hz0, hsz2, cat_eq, List.length_append, ho3, hlen]; omega
                · rw [cat_eq] at hy
                  have hget2 := layA_get news c (n * i.size + 0) ((e.ρ j).2 + q) (by omega)
                  rw [hget2]
                  by_cases hq : q < n * i.size
                  · rw [List.getElem?_append_left (by omega)] at hy
                    rw [if_neg (by omega)]
                    have hcg := (cut_get hcut).2 q hq
                    rw [hcg, Nat.zero_add] at hy
                    obtain ⟨g1, u, g2, g3⟩ := hc3 q y hy
                    exact ⟨g1, u, g2, Rel.ext x2 _ _ g3⟩
                  · rw [List.getElem?_append_right (by omega), ho3] at hy
                    have hql : q - n * i.size < new.length := (List.getElem?_eq_some_iff.1 hy).1
                    obtain ⟨u, g2, g3⟩ := hnew.get hy
                    rw [if_pos (by omega)]
                    refine ⟨hone y (List.mem_of_getElem? hy), u, ?_, Rel.ext x2 _ _ g3⟩
                    rw [← g2]; congr 1; omega
              have s2 := move_st hs hget hc1 hsz2 hb2
              refine ⟨_, _, (e.move j el (cat old new) (layA c (n * i.size + 0) news)).ρ, hr, s2, x2, ?_⟩
              have : Rel (e.move j el (cat old new) (layA c (n * i.size + 0) news)) (.sl (path e.h.next) 0 i.size (n + k) (n + k) false) (.slice (some ⟨(e.ρ j).1, (e.ρ j).2 + 0, none⟩) (n + k) cap) := by
                simp only [Rel]
                refine ⟨by unfold known; rw [hρ]; exact hz0, _, cap, rfl, Nat.le_refl _, hc, fun h => absurd h (by simp), .inr ?_⟩
                rw [hρ]
                refine ⟨rfl, ?_⟩
                have : bsize (e.move j el (cat old new) (layA c (n * i.size + 0) news)).w (e.ρ j).1 = c.size := by
                  rw [← hbc]; exact setRow_bsize _ _ _ _ _ _ hc1 hsz2 _
                rw [this, hz0]; omega
              exact this
            · exact append_grow hs (kill_st hs hget) (kill_ext j) rfl rfl hn hz hzs hb hnew hone hlen (by omega) ho1 ho2 ho3 ho4.cells ty h
        · cases h
      · cases h
  · cases h

theorem Good.op {c : Call} {b : Builtin} {s : Sem Value} (ho : o.op = .call c) (hb : c.callee = .builtin b)
    (hs : ∀ cs, builtin b c.argTypes o.type cs (c.args.map a.eval) = (do pure (.value (← s)))) (h : Good P e s v h') : OpS P o e a v h' := by
  obtain ⟨cv, w', ρ', hr, h1, h2, h3⟩ := h
  refine OpS.value (cv := cv) (w' := w') ?_ ρ' h1 h2 h3
  rw [run_exec_builtin ho hb, hs]
  simp [hr]

structure AppC (P : Program) (ts : Array TypeId) (t t' el : TypeId) (sz by_ : Nat) (z : List AV) : Prop where
  hts : ts = #[t, t']
  hel : elemOf? P t = some el
  hsz : sizeOf? P el = some sz
  hby : bytesOf? P el = some by_
  hz : zeroOf P el = some z
  sz0 : sz ≠ 0
  by0 : by_ ≠ 0
  zl : z.length = sz

theorem AppC.info {ts : Array TypeId} {t t' el : TypeId} {sz by_ : Nat} {z : List AV} (h : AppC P ts t t' el sz by_ z) :
    ∃ i zv, P.info? el = some i ∧ i.size = sz ∧ i.bytes = by_ ∧ i.zero = some zv ∧ avOfs zv.cells.toList = some z ∧ zv.cells.size = sz := by
  obtain ⟨i, zv, hi, hzv, hzs⟩ := zero_inv h.hz
  obtain ⟨i2, hi2, hsz⟩ := map_inv h.hsz
  obtain ⟨i3, hi3, hby⟩ := map_inv h.hby
  rw [hi] at hi2 hi3; cases hi2; cases hi3
  refine ⟨i, zv, hi, hsz, hby, hzv, hzs, ?_⟩
  have := (rel_avOfs (e := ⟨fun _ => (0, 0), ⟨0, .e⟩, default, ⟨fun _ => False, 0⟩⟩) hzs).1.len
  have hz := h.zl
  simp at this; omega

theorem sound_app {c : Call} {x' y' : Od} {t t' el : TypeId} {sz by_ : Nat} {z : List AV} {d : TypeDesc} (hs : St e) (hf : FrRel e fr a.tmps) (hg : GRel G e) (ho : o.op = .call c) (hb : c.callee = .builtin .append)
    (hx : ods G c.args.toList = some [x', y']) (hc : AppC P c.argTypes t t' el sz by_ z) (hd : P.underlying t' = some d) (hni : ∀ q, d ≠ .int q)
    (hr : evOp call (.o2 (.app el sz by_ x' y')) fr e.h id = .ok v h') : OpS P o e a v h' := by
  obtain ⟨x, y, hxs, hx, hy⟩ := ods_two hx
  have rx := od_rel hf hg hx
  have ry := od_rel hf hg hy
  obtain ⟨i, zv, hi, rfl, rfl, hzv, hzs, hzc⟩ := hc.info
  have hr : (match elems (ev y' fr) i.size e.h with
      | some (cs, k) => appendA el i.size i.bytes (ev x' fr) cs k e.h
      | none => .no : R) = .ok v h' := hr
  split at hr
  · rename_i cs k hel
    obtain ⟨news, r1, r2, r3, r4⟩ := elems_rel (P := P) hs ry hel
    have hn : NewRun P e c.argTypes t el i k (a.eval y) news := ⟨elem_inv hc.hel, hi, t', hc.hts, .inl ⟨d, hd, hni, r4⟩⟩
    have sz0 := hc.sz0
    have by0 := hc.by0
    have good := append_both hs hn hzv hzc (by omega) (by omega) r1 r2 r3 rx o.type hr
    refine Good.op ho hb (fun cs => ?_) good
    rw [hxs]
    simp [builtin]
  · cases hr

theorem sound_appz {c : Call} {x' y' : Od} {t t' el : TypeId} {sz by_ : Nat} {z : List AV} {q : IntKind} (hs : St e) (hf : FrRel e fr a.tmps) (hg : GRel G e) (ho : o.op = .call c) (hb : c.callee = .builtin .append)
    (hx : ods G c.args.toList = some [x', y']) (hc : AppC P c.argTypes t t' el sz by_ z) (hd : P.underlying t' = some (.int q))
    (hr : evOp call (.o2 (.appz el sz by_ z x' y')) fr e.h id = .ok v h') : OpS P o e a v h' := by
  obtain ⟨x, y, hxs, hx, hy⟩ := ods_two hx
  have rx := od_rel hf hg hx
  have ry := od_rel hf hg hy
  obtain ⟨i, zv, hi, rfl, rfl, hzv, hzs, hzc⟩ := hc.info
  obtain ⟨hzr, hzo⟩ := rel_avOfs (e := e) hzs
  have sz0 := hc.sz0
  have by0 := hc.by0
  have zl := hc.zl
  have hr : (match asN (ev y' fr) with
      | some k => cd (roomy k i.bytes) (appendA el i.size i.bytes (ev x' fr) (repl k z) k e.h) .no
      | none => .no : R) = .ok v h' := hr
  split at hr
  · rename_i k hk
    obtain ⟨q', hk⟩ := asN_inv hk
    rw [hk] at ry
    have ry := rel_i ry
    rw [cd_eq] at hr
    unfold roomy at hr
    rw [ble_nat] at hr
    by_cases hroom : Nat.mul k i.bytes ≤ 1099511627776
    case neg => rw [decide_eq_false hroom] at hr; cases hr
    rw [decide_eq_true hroom, if_pos rfl] at hr
    have hroom : k * i.bytes ≤ 1099511627776 := hroom
    have hk40 : k ≤ 1099511627776 := Nat.le_trans (Nat.le_mul_of_pos_right _ (by omega)) hroom
    have hn : NewRun P e c.argTypes t el i k (a.eval y) (rep k zv.cells.toList) := ⟨elem_inv hc.hel, hi, t', hc.hts, .inr ⟨q, q', zv, hd, ry, hk40, hroom, hzv, hzc, by omega, rfl⟩⟩
    have good := append_both hs hn hzv hzc (by omega) (by omega) (repl_rel hzr k) (fun w hw => hzo w (repl_mem z k w hw)) (by rw [repl_len, zl]) rx o.type hr
    refine Good.op ho hb (fun cs => ?_) good
    rw [hxs]
    simp [builtin]
  · cases hr
end
end Go.Ev
