/- Soundness of what makes maps and slices, of conversions, of maps. -/
import Derived.Test.YtghnkhippmmdmaaGreatDoorEvD
import Derived.Lib.ConvBytes
import Derived.Laws.StructEq
set_option linter.unusedVariables false
set_option linter.unusedSimpArgs false

namespace Go.Ev

theorem heap_ext {e : Env} {w' : World} (h : w'.heap = e.w.heap) (q : Qt e.w w') : Ext e ⟨e.ρ, e.h, w', e.F⟩ :=
  ⟨Nat.le_refl _, fun _ h => h, fun _ _ => rfl, rfl, by show _ ≤ w'.heap.size; rw [h]; exact Nat.le_refl _, fun b _ _ => by show w'.heap[b]? = _; rw [h], fun b _ => bsize_congr (by rw [h]), fun _ _ h => h, fun _ b h => ⟨b, h⟩, fun _ h => .inl h, q⟩
theorem heap_st {e : Env} (hs : St e) {w' : World} (h : w'.heap = e.w.heap) (q : Qt e.w w') : St ⟨e.ρ, e.h, w', e.F⟩ where
  kn := hs.kn
  dk := hs.dk
  lo := hs.lo
  blk := fun id b hb => BlkRel.ext (heap_ext h q) (hs.dk id b hb) (by show w'.heap[_]? = _; rw [h]) b (hs.blk id b hb)
  inj := hs.inj
  fr := fun b hb => ⟨by have := (hs.fr b hb).1; show b < w'.heap.size; rw [h]; exact this, (hs.fr b hb).2⟩

section
variable {P : Program} {G : Nat → Option (List AV)} {o : Oper} {e : Env} {a : Act} {fr : T AV} {call : CallF} {id : Nat} {ao : AOp} {v : AV} {h' : H}

theorem sound_mkmap {t : TypeId} {r : Option Operand} (hs : St e) (hlo : e.F.lo ≤ id) (ho : o.op = .makeMap t r)
    (hc : compOp P G (.makeMap t r) = some ao) (hr : evOp call ao fr e.h id = .ok v h') : OpS P o e a v h' := by
  cases r with
  | some _ => simp [compOp] at hc
  | none =>
    simp only [compOp] at hc
    obtain ⟨d, hd, hc⟩ := bind_inv hc
    split at hc
    · cases hc
      obtain ⟨hn, hf0, rfl, rfl⟩ := putNew_inv (show putNew id (.mp []) (fun id => .m id) e.h = .ok v h' from hr)
      have hf := aside_none hs hlo hf0
      have hρ : (e.alloc id (.map #[] 0) (.mp [])).ρ (path id) = (e.w.heap.size, 0) := if_pos rfl
      have hb : BlkRel (e.alloc id (.map #[] 0) (.mp [])) (path id) (.mp []) := by
        simp only [BlkRel, hρ]
        exact ⟨#[], 0, heap_alloc_new _ _, trivial⟩
      refine OpS.value (cv := .map (some e.w.heap.size)) (w' := e.w.alloc (.map #[] 0)) ?_ _ (alloc_st hs hn hf _ _ hb) (alloc_ext hs hf _ _) ?_
      · simp [execOp, ho, Instr.makeMap]
      · have : Rel (e.alloc id (.map #[] 0) (.mp [])) (.m (path id)) (.map (some e.w.heap.size)) := by
          simp only [Rel, hρ, and_true]
          exact alloc_known e id _ _
        exact this
    · cases hc

theorem sound_mksl {t : TypeId} {l c : Operand} (hs : St e) (hlo : e.F.lo ≤ id) (hf : FrRel e fr a.tmps) (hg : GRel G e) (ho : o.op = .makeSlice t l c)
    (hc : compOp P G (.makeSlice t l c) = some ao) (hr : evOp call ao fr e.h id = .ok v h') : OpS P o e a v h' := by
  simp only [compOp] at hc
  obtain ⟨el, hel, hc⟩ := bind_inv hc
  obtain ⟨sz, hsz, hc⟩ := bind_inv hc
  obtain ⟨by_, hby, hc⟩ := bind_inv hc
  obtain ⟨z, hz, hc⟩ := bind_inv hc
  split at hc
  · cases hc
  rename_i hn
  obtain ⟨l', hl, hc⟩ := bind_inv hc
  obtain ⟨c', hc', rfl⟩ := map_inv hc
  have rl := od_rel hf hg hl
  have rc := od_rel hf hg hc'
  have hu := elem_inv hel
  obtain ⟨i, zv, hi, hzv, hzs⟩ := zero_inv hz
  obtain ⟨hzr, hzo⟩ := rel_avOfs (e := e) hzs
  have hzl : zv.cells.size = sz := by have := hzr.len; simp at this; omega
  have hib : i.bytes = by_ := by
    obtain ⟨i2, hi2, h2⟩ := map_inv hby
    rw [hi] at hi2; cases hi2; exact h2
  have hr : (match asN (ev l' fr), asN (ev c' fr) with
      | some l, some c => cd (Nat.ble l c) (cd (roomy c by_) (cd (Nat.beq c 0) (.ok .em e.h) (putNew id (.cs el (repl c z) false) (fun id => .sl id 0 sz l c true) e.h)) .no) .no
      | _, _ => .no : R) = .ok v h' := hr
  split at hr
  · rename_i n m hnl hnm
    obtain ⟨k1, h1⟩ := asN_inv hnl
    obtain ⟨k2, h2⟩ := asN_inv hnm
    rw [h1] at rl
    rw [h2] at rc
    have rl := rel_i rl
    have rc := rel_i rc
    rw [cd_eq, ble_nat] at hr
    by_cases hnm' : n ≤ m
    case neg => rw [decide_eq_false hnm'] at hr; cases hr
    rw [decide_eq_true hnm', if_pos rfl, cd_eq] at hr
    unfold roomy at hr
    rw [ble_nat] at hr
    by_cases hroom : Nat.mul m by_ ≤ 1099511627776
    case neg => rw [decide_eq_false hroom] at hr; cases hr
    rw [decide_eq_true hroom, if_pos rfl, cd_eq, beq_nat] at hr
    have hroom : m * by_ ≤ 1099511627776 := hroom
    have hm40 : m ≤ 1099511627776 := Nat.le_trans (Nat.le_mul_of_pos_right m (by omega)) hroom
    have hw : ∀ j : Nat, j ≤ m → IntKind.i64.wrap (j : Int) = (j : Int) := fun j hj => wrap_in _ _ ⟨by show (-9223372036854775808 : Int) ≤ j; omega, by show (j : Int) ≤ 9223372036854775807; omega⟩
    have hrun : (execOp a.eval o).run P e.w = .ok (.value (.slice (some ⟨e.w.heap.size, 0, none⟩) n m)) (e.w.alloc (.cells ((Array.range (m * sz)).map (fun j => zv.cells[j % zv.cells.size]!)) el)) := by
      have hlarge : ∀ j : Nat, j ≤ m → ¬ ((by_ : Int) * (j : Int) > 281474976710656) := fun j hj => by
        have : j * by_ ≤ m * by_ := Nat.mul_le_mul_right _ hj
        have : ((j * by_ : Nat) : Int) ≤ 1099511627776 := by omega
        rw [Int.natCast_mul] at this
        have hcomm : (by_ : Int) * (j : Int) = (j : Int) * (by_ : Int) := Int.mul_comm _ _
        omega
      have e1 : a.eval l = .int k1 (n : Int) := rl
      have e2 : a.eval c = .int k2 (m : Int) := rc
      have hA : ¬ ((n : Int) > (m : Int)) := by omega
      by_cases h0 : m * sz = 0
      · have h00 : Array.range 0 = #[] := rfl
        simp only [execOp, ho, Instr.makeSlice, Sem.run_bind, run_underlying hu, Result.andThen_ok, e1, e2]
        simp [asInt, asIntOf, run_info hi, hib, hw n hnm', hw m (Nat.le_refl _), hlarge m (Nat.le_refl _), run_size hsz, h0, newRow, hnm', h00]
        intro h; omega
      · have hm0 : ¬ (m = 0 ∨ sz = 0) := by
          intro h; rcases h with h | h <;> subst h <;> simp at h0
        simp only [execOp, ho, Instr.makeSlice, Sem.run_bind, run_underlying hu, Result.andThen_ok, e1, e2]
        simp [asInt, asIntOf, run_info hi, hib, hw n hnm', hw m (Nat.le_refl _), hlarge m (Nat.le_refl _), run_size hsz, hm0, newRow, hnm', zeroValue, hzv]
        rw [if_neg (by omega)]
        simp [run_info hi, hzv]
        intro h; exact absurd h h0
    by_cases h0 : m = 0
    · subst h0
      rw [decide_eq_true rfl, if_pos rfl] at hr
      injection hr with h1 h2; subst h1 h2
      refine OpS.value hrun e.ρ (drop_st hs _) (drop_ext e _) ?_
      simp only [Rel]
      exact ⟨_, by rw [show n = 0 by omega]⟩
    · rw [decide_eq_false h0] at hr
      obtain ⟨hn', hf0, rfl, rfl⟩ := putNew_inv (by simpa using hr)
      have hf' := aside_none hs hlo hf0
      have hrl : RelL e (repl m z) ((Array.range (m * sz)).map (fun j => zv.cells[j % zv.cells.size]!)).toList := by
        rw [rep_array zv.cells m _ (by omega) (by rw [hzl])]; exact repl_rel hzr m
      have hzz : z.length = sz := by omega
      have hb := alloc_cells hs hf' el hrl (fun x hx => hzo x (repl_mem z m x hx)) ((Array.range (m * sz)).map (fun j => zv.cells[j % zv.cells.size]!)) (by rw [repl_len, hzz, Array.size_map, Array.size_range]; exact Nat.le_refl _) (fun j u hu => by rw [← Array.getElem?_toList]; exact hu)
      refine OpS.value hrun _ (alloc_st hs hn' hf' _ _ hb) (alloc_ext hs hf' _ _) (alloc_rel_sl e id _ el _ sz n m true hnm' m hnm' (Nat.le_refl _) (fun _ => rfl) ?_)
      simp
  · cases hr

theorem bytes_rel : ∀ (l : List Nat), (∀ c ∈ l, c < 256) → RelL e (l.map fun c => .i .u8 (.ofNat c)) ((l.map UInt8.ofNat).map fun b => Value.int .u8 b.toNat)
  | [], _ => by simp [RelL]
  | c :: l, h => by
    simp only [List.map_cons, RelL]
    refine ⟨?_, bytes_rel l (fun d hd => h d (List.mem_cons_of_mem _ hd))⟩
    simp only [Rel]
    rw [toNat_ofNat (h c (List.mem_cons_self ..))]
    rfl

theorem sound_cvsb {s d : TypeId} {el : TypeId} {ds : TypeDesc} {x : Operand} {x' : Od} (hs : St e) (hlo : e.F.lo ≤ id) (hf : FrRel e fr a.tmps) (hg : GRel G e) (ho : o.op = .convert s d x)
    (hx : od G x = some x') (hds : P.underlying s = some ds) (hdd : P.underlying d = some (.slice el)) (hu8 : isU8 P el = true)
    (hr : evOp call (.o2 (.cvsb el x')) fr e.h id = .ok v h') : OpS P o e a v h' := by
  have rx := od_rel hf hg hx
  have hel : P.underlying el = some (.int .u8) := by
    unfold isU8 at hu8
    split at hu8
    · assumption
    · cases hu8
  have hr : (match ev x' fr with
      | .s n l => cd (Nat.beq n 0) .no (putNew id (.cs el (l.map fun c => .i .u8 (.ofNat c)) false) (fun id => .sl id 0 1 n n false) e.h)
      | _ => .no : R) = .ok v h' := hr
  generalize ev x' fr = u at hr rx
  split at hr
  · rename_i n l
    rw [cd_eq, beq_nat] at hr
    by_cases h0 : n = 0
    · rw [decide_eq_true h0] at hr; cases hr
    rw [decide_eq_false h0] at hr
    obtain ⟨hn, hf0, rfl, rfl⟩ := putNew_inv (by simpa using hr)
    have hfn := aside_none hs hlo hf0
    obtain ⟨hnl, h256, hv⟩ := rel_s rx
    have hrun := Lib.run_convert_string_bytes (P := P) e.w s d el (strOf l) hds hdd hel
    let c := Lib.bytesCells e.w el (strOf l)
    have hsz : (strOf l).size = n := by rw [strOf_size, hnl]
    have hge := grownCap_ge e.w (strOf l).size 0 el
    have hcsz : c.size = grownCap e.w (strOf l).size 0 el := by
      show (Lib.bytesCells e.w el (strOf l)).size = _
      unfold Lib.bytesCells
      have : (strOf l).data.size = (strOf l).size := rfl
      rw [Array.size_append, Array.size_map, Array.size_replicate, this]; omega
    have hheap : (Lib.bytesWorld e.w el (strOf l)).heap = (e.w.alloc (.cells c el (c.size, c.size + 1))).heap := by
      apply Array.ext_getElem?
      intro j
      by_cases hj : j < e.w.heap.size
      · rw [Lib.bytesWorld_at_old _ _ _ _ hj, heap_alloc_old _ _ _ hj]
      · by_cases hj2 : j = e.w.heap.size
        · rw [hj2, Lib.bytesWorld_at_new, heap_alloc_new]
        · rw [Array.getElem?_eq_none (by rw [Lib.bytesWorld_size]; omega), Array.getElem?_eq_none (by simp; omega)]
    have hrl := bytes_rel (e := e) l h256
    have hb := alloc_cells' hs hfn el hrl (fun y hy => by
      obtain ⟨k, _, rfl⟩ := List.mem_map.1 hy
      rfl) c (c.size, c.size + 1) (fun o' h1 _ => h1) (by rw [List.length_map, hcsz]; omega) (fun j u hu => by
        have hj : j < l.length := by have := (List.getElem?_eq_some_iff.1 hu).1; simpa using this
        show (Lib.bytesCells e.w el (strOf l))[j]? = some u
        unfold Lib.bytesCells
        rw [Array.getElem?_append_left (by rw [Array.size_map]; show j < (strOf l).size; omega), ← Array.getElem?_toList, Array.toList_map]
        exact hu)
    have st1 := alloc_st hs hn hfn _ _ hb
    have ex1 := alloc_ext hs hfn (.cells c el (c.size, c.size + 1)) (.cs el (l.map fun c => .i .u8 (.ofNat c)) false)
    have rel1 : Rel (e.alloc id (.cells c el (c.size, c.size + 1)) (.cs el (l.map fun c => .i .u8 (.ofNat c)) false)) (.sl (path id) 0 1 n n false) (.slice (some ⟨e.w.heap.size, 0, none⟩) n (grownCap e.w (strOf l).size 0 el)) := by
      have hρ : (e.alloc id (.cells c el (c.size, c.size + 1)) (.cs el (l.map fun c => .i .u8 (.ofNat c)) false)).ρ (path id) = (e.w.heap.size, 0) := if_pos rfl
      simp only [Rel]
      refine ⟨alloc_known e id _ _, _, _, rfl, Nat.le_refl _, by omega, (fun h => absurd h (by simp)), .inr ?_⟩
      rw [hρ]
      refine ⟨rfl, ?_⟩
      have : bsize (e.alloc id (.cells c el (c.size, c.size + 1)) (.cs el (l.map fun c => .i .u8 (.ofNat c)) false)).w e.w.heap.size = c.size := by
        show bsize (e.w.alloc (.cells c el (c.size, c.size + 1))) e.w.heap.size = _
        unfold bsize
        rw [heap_alloc_new]
      simp only [this]; omega
    have hq : Qt (e.alloc id (.cells c el (c.size, c.size + 1)) (.cs el (l.map fun c => .i .u8 (.ofNat c)) false)).w (Lib.bytesWorld e.w el (strOf l)) := ⟨rfl, rfl, rfl⟩
    refine OpS.value (cv := .slice (some ⟨e.w.heap.size, 0, none⟩) n (grownCap e.w (strOf l).size 0 el)) (w' := Lib.bytesWorld e.w el (strOf l)) ?_ _ (heap_st st1 hheap hq) (ex1.trans (heap_ext hheap hq)) (Rel.ext (heap_ext hheap hq) _ _ rel1)
    simp [execOp, ho, hv, hrun, hsz]
  · cases hr

theorem sound_cvp1 {s d t : TypeId} {n : Nat} {x : Operand} {x' : Od} (hs : St e) (hf : FrRel e fr a.tmps) (hg : GRel G e) (ho : o.op = .convert s d x)
    (hx : od G x = some x') (hds : P.underlying s = some (.pointer t)) (hdd : P.underlying d = some .unsafePointer) (hn : sizeOf? P t = some n) (hn0 : n ≠ 0)
    (hr : evOp call (.o2 (.cvp1 x')) fr e.h id = .ok v h') : OpS P o e a v h' := by
  have rx := od_rel hf hg hx
  obtain ⟨i, hi, hin⟩ := map_inv hn
  have hr : (match ev x' fr with
      | .p id off => match e.h.get id with
        | some (.cs _ l _) => cd (Nat.blt off (len l)) (.ok (.p id off) e.h) .no
        | _ => .no
      | _ => .no : R) = .ok v h' := hr
  generalize ev x' fr = u at hr rx
  split at hr
  · rename_i j off
    split at hr
    · rename_i el l fz hget
      rw [cd_eq, blt_nat, len_eq] at hr
      by_cases hlt : off < l.length
      case neg => rw [decide_eq_false hlt] at hr; cases hr
      rw [decide_eq_true hlt] at hr
      injection (show R.ok (.p j off) e.h = .ok v h' from hr) with h1 h2; subst h1 h2
      obtain ⟨kn, hv⟩ := rel_p rx
      obtain ⟨c, frz, hc1, hc2, _⟩ := hs.blk j _ hget
      have hsh : e.w.shape? (e.ρ j).1 = some (el, c.size) := by simp [World.shape?, hc1]
      have hrun := Lib.run_to_unsafe (P := P) e.w ⟨(e.ρ j).1, (e.ρ j).2 + off, none⟩ hds hdd hi (by rw [hin]; exact hn0) hsh (by show (e.ρ j).2 + off < c.size; omega)
      refine OpS.same hs (cv := a.eval x) ?_ rx
      simp [execOp, ho, hv, hrun]
    · cases hr
  · cases hr

theorem sound_cvp2 {s d t : TypeId} {n : Nat} {x : Operand} {x' : Od} (hs : St e) (hf : FrRel e fr a.tmps) (hg : GRel G e) (ho : o.op = .convert s d x)
    (hx : od G x = some x') (hds : P.underlying s = some .unsafePointer) (hdd : P.underlying d = some (.pointer t)) (hn : sizeOf? P t = some n) (hn0 : n ≠ 0)
    (hr : evOp call (.o2 (.cvp2 t n x')) fr e.h id = .ok v h') : OpS P o e a v h' := by
  have rx := od_rel hf hg hx
  obtain ⟨i, hi, hin⟩ := map_inv hn
  have hr : (match ev x' fr with
      | .p id off => match e.h.get id with
        | some (.cs el l _) => cd (Nat.beq el t) (cd (Nat.beq (Nat.mod off n) 0) (cd (Nat.ble (Nat.add off n) (len l)) (.ok (.p id off) e.h) .no) .no) .no
        | _ => .no
      | _ => .no : R) = .ok v h' := hr
  generalize ev x' fr = u at hr rx
  split at hr
  · rename_i j off
    split at hr
    · rename_i el l fz hget
      rw [cd_eq, beq_nat] at hr
      by_cases he : el = t
      case neg => rw [decide_eq_false he] at hr; cases hr
      rw [decide_eq_true he, if_pos rfl, cd_eq, beq_nat] at hr
      by_cases hm : Nat.mod off n = 0
      case neg => rw [decide_eq_false hm] at hr; cases hr
      rw [decide_eq_true hm, if_pos rfl, cd_eq, ble_nat, len_eq] at hr
      by_cases hle : Nat.add off n ≤ l.length
      case neg => rw [decide_eq_false hle] at hr; cases hr
      rw [decide_eq_true hle] at hr
      injection (show R.ok (.p j off) e.h = .ok v h' from hr) with h1 h2; subst h1 h2
      subst he
      have hm : off % n = 0 := hm
      have hle : off + n ≤ l.length := hle
      obtain ⟨kn, hv⟩ := rel_p rx
      obtain ⟨c, frz, hc1, hc2, _, _, hz⟩ := hs.blk j _ hget
      have hsh : e.w.shape? (e.ρ j).1 = some (el, c.size) := by simp [World.shape?, hc1]
      have hcel : P.cellsOf el = n := by simp [Program.cellsOf, hi, hin]
      have hlies : liesAt P P.depth el (c.size / P.cellsOf el) off el 1 = true := by
        have hd : P.depth = (2 * (P.types.size + Made.depth) + 1) + 1 := rfl
        rw [hd]
        simp only [liesAt, Bool.or_eq_true]
        left
        rw [hd]
        have h3 : off / n + 1 ≤ c.size / n := by
          rw [← Nat.add_div_right off (by omega)]
          exact Nat.div_le_div_right (by omega)
        simp [rowAt, hcel, hn0, hm, h3, sameLayout]
      have hrun := Lib.run_from_unsafe (P := P) e.w ⟨(e.ρ j).1, (e.ρ j).2 + off, none⟩ hds hdd hi hsh (by show liesAt P P.depth el (c.size / P.cellsOf el) ((e.ρ j).2 + off) el 1 = true; rw [hz, Nat.zero_add]; exact hlies)
      refine OpS.same hs (cv := a.eval x) ?_ rx
      simp [execOp, ho, hv, hrun]
    · cases hr
  · cases hr
end
end Go.Ev

/- Soundness of unsafe.String and its like, of clear, of maps. -/
namespace Go.Ev

theorem freeze_qt (w : World) (a : Addr) (n : Nat) : Qt w (w.freeze a n) := by
  unfold World.freeze
  refine ⟨?_, ?_, ?_⟩ <;> (first | rfl | (split <;> rfl))

/-- One block's object turned, of the same kind and size: what is left of the state. -/
theorem turn_ext {e : Env} {id : Id} {b : Blk} (hid : e.h.get id = some b) (hd : b ≠ .dead) {b' : Blk} (hd' : b' ≠ .dead) {w' : World} (hsz : w'.heap.size = e.w.heap.size)
    (hother : ∀ k, k ≠ (e.ρ id).1 → w'.heap[k]? = e.w.heap[k]?) (hb : bsize w' (e.ρ id).1 = bsize e.w (e.ρ id).1) (q : Qt e.w w') : Ext e ⟨e.ρ, e.h.put id b', w', e.F⟩ where
  qt := q
  next := Nat.le_refl _
  kn := fun _ h => h
  ren := fun _ _ => rfl
  fr := rfl
  heap := by show _ ≤ w'.heap.size; omega
  keep := fun k _ ho => hother k (fun h => ho ⟨id, ⟨b, hid, hd⟩, h.symm⟩)
  size := fun k _ => by
    by_cases h : k = (e.ρ id).1
    · rw [h]; exact hb
    · exact bsize_congr (hother k h)
  own := fun k _ ⟨j, ⟨c, hc', hd''⟩, hj⟩ => by
    have hc' : (e.h.put id b').get j = some c := hc'
    rw [H.get_put] at hc'
    by_cases h : j = id
    · subst h; exact ⟨j, ⟨_, hid, hd⟩, hj⟩
    · rw [if_neg h] at hc'
      exact ⟨j, ⟨c, hc', hd''⟩, hj⟩
  pres := put_pres _ _ _
  newk := fun _ h => .inl h

theorem turn_st {e : Env} (hs : St e) {id : Id} {b : Blk} (hid : e.h.get id = some b) (hd : b ≠ .dead) {b' : Blk} (hd' : b' ≠ .dead) {w' : World} (hsz : w'.heap.size = e.w.heap.size)
    (hother : ∀ k, k ≠ (e.ρ id).1 → w'.heap[k]? = e.w.heap[k]?) (hb : bsize w' (e.ρ id).1 = bsize e.w (e.ρ id).1) (q : Qt e.w w')
    (hrel : BlkRel ⟨e.ρ, e.h.put id b', w', e.F⟩ id b') : St ⟨e.ρ, e.h.put id b', w', e.F⟩ := by
  refine St.next hs (turn_ext hid hd hd' hsz hother hb q) id ?_ ?_ (fun _ _ => rfl) ⟨hs.dk id _ hid, hs.num hid, ⟨b', ?_⟩⟩ ?_ ?_
  · intro b2 hb'
    have hb' : (e.h.put id b').get id = some b2 := hb'
    rw [H.get_put, if_pos rfl] at hb'
    obtain rfl := Option.some.inj hb'
    exact hrel
  · intro j h
    show (e.h.put id _).get j = _
    rw [H.get_put, if_neg h]
  · show (e.h.put id _).get id = _
    rw [H.get_put, if_pos rfl]
  · intro j hj l2
    apply hother
    intro h
    exact hj (hs.inj j id l2 ⟨_, hid, hd⟩ h)
  · intro _ j hj l2 h
    exact hj (hs.inj j id l2 ⟨_, hid, hd⟩ h)

section
variable {P : Program} {G : Nat → Option (List AV)} {o : Oper} {e : Env} {a : Act} {fr : T AV} {call : CallF} {id : Nat} {ao : AOp} {v : AV} {h' : H}

theorem sound_usd {c : Call} {x' : Od} (hs : St e) (hf : FrRel e fr a.tmps) (hg : GRel G e) (ho : o.op = .call c) (hb : c.callee = .builtin .unsafeSliceData)
    (hx : ods G c.args.toList = some [x']) (hr : evOp call (.o2 (.usd x')) fr e.h id = .ok v h') : OpS P o e a v h' := by
  obtain ⟨x, hxs, hx⟩ := ods_one hx
  have rx := od_rel hf hg hx
  have hr : (match ev x' fr with
      | .v (.slice none 0 0) => .ok (.v (.pointer none)) e.h
      | .sl id off _ n _ _ => cd (Nat.beq n 0) .no (.ok (.p id off) e.h)
      | _ => .no : R) = .ok v h' := hr
  generalize ev x' fr = u at hr rx
  split at hr
  · injection hr with h1 h2; subst h1 h2
    simp only [Rel] at rx
    have hrun := Lib.run_unsafeSliceData_nil (P := P) e.w c.argTypes o.type 0 0
    refine OpS.same hs (cv := .pointer none) ?_ (by simp [Rel, nilish])
    rw [run_exec_builtin ho hb, hxs]
    simp [builtin, rx.1, hrun]
  · rename_i j off sz n lo ex
    rw [cd_eq, beq_nat] at hr
    by_cases h0 : n = 0
    · rw [decide_eq_true h0] at hr; cases hr
    rw [decide_eq_false h0] at hr
    injection (show R.ok (.p j off) e.h = .ok v h' from hr) with h1 h2; subst h1 h2
    simp only [Rel] at rx
    obtain ⟨kn, ad, cap, hv, h1, h2, h3, h4⟩ := rx
    have hcap : cap ≠ 0 := by omega
    obtain ⟨rfl, _⟩ := h4.resolve_left hcap
    have hrun := Lib.run_unsafeSliceData_row (P := P) e.w c.argTypes o.type ⟨(e.ρ j).1, (e.ρ j).2 + off, none⟩ n cap hcap
    refine OpS.same hs (cv := .pointer (some ⟨(e.ρ j).1, (e.ρ j).2 + off, none⟩)) ?_ (by simp [Rel, kn])
    rw [run_exec_builtin ho hb, hxs]
    simp [builtin, hv, hrun]
  · cases hr

theorem bytesOfCells_inv : ∀ {cs : List AV} {bs : List Nat}, bytesOfCells cs = some bs → cs = bs.map (fun c => .i .u8 (.ofNat c)) ∧ ∀ c ∈ bs, c < 256
  | [], bs, h => by
    have h : bs = [] := (Option.some.inj (show some [] = some bs from h)).symm
    subst h; exact ⟨rfl, by simp⟩
  | x :: cs, bs, h => by
    have h : (match (generalizing := false) x with
      | .i .u8 (.ofNat n) => cd (Nat.blt n 256) (Option.rec none (fun r => some (n :: r)) (bytesOfCells cs)) none
      | _ => none : Option (List Nat)) = some bs := h
    split at h
    · rename_i n _
      obtain ⟨h1, h⟩ := cd_some h
      rw [blt_nat] at h1
      have h1 : n < 256 := of_decide_eq_true h1
      cases hb : bytesOfCells cs with
      | none => rw [hb] at h; cases h
      | some r =>
        rw [hb] at h
        obtain rfl := Option.some.inj (show some (n :: r) = some bs from h)
        obtain ⟨h2, h3⟩ := bytesOfCells_inv hb
        rw [h2]
        refine ⟨rfl, fun c hc => ?_⟩
        rcases List.mem_cons.1 hc with rfl | hc
        · exact h1
        · exact h3 c hc
    · cases h

theorem freeze_at {w : World} {g n : Nat} {c : Array Value} {el : TypeId} {frz : Nat × Nat} (hg : w.heap[g]? = some (.cells c el frz)) :
    (w.freeze ⟨g, 0, none⟩ n).heap.size = w.heap.size ∧ (∀ k, k ≠ g → (w.freeze ⟨g, 0, none⟩ n).heap[k]? = w.heap[k]?) ∧ ∃ frz', (w.freeze ⟨g, 0, none⟩ n).heap[g]? = some (.cells c el frz') := by
  unfold World.freeze
  split
  · exact ⟨rfl, fun _ _ => rfl, frz, hg⟩
  · refine ⟨by simp, fun k hk => by simp [Array.getElem?_modify, Ne.symm hk], ?_⟩
    obtain ⟨lo, hi⟩ := frz
    simp [Array.getElem?_modify, hg]

theorem sound_ust {c : Call} {x' y' : Od} {t el : TypeId} (hs : St e) (hf : FrRel e fr a.tmps) (hg : GRel G e) (ho : o.op = .call c) (hb : c.callee = .builtin .unsafeString)
    (hx : ods G c.args.toList = some [x', y']) (ht : c.argTypes[0]? = some t) (hts : c.argTypes.size = 2) (hd : P.underlying t = some (.pointer el)) (hsz : sizeOf? P el = some 1)
    (hr : evOp call (.o2 (.ust el x' y')) fr e.h id = .ok v h') : OpS P o e a v h' := by
  obtain ⟨x, y, hxs, hx, hy⟩ := ods_two hx
  have rx := od_rel hf hg hx
  have ry := od_rel hf hg hy
  obtain ⟨it, hit⟩ : ∃ it, c.argTypes = #[t, it] := by
    generalize c.argTypes = ts at ht hts
    obtain ⟨l⟩ := ts
    match l, ht, hts with
    | [p, q], ht, _ => simp at ht; exact ⟨q, by rw [ht]⟩
  have hr : (match ev y' fr with
      | .i .i64 (.ofNat 0) => match ev x' fr with
        | .p _ _ => .ok (.s 0 []) e.h
        | .v (.pointer none) => .ok (.s 0 []) e.h
        | _ => .no
      | .i .i64 (.ofNat n) => match ev x' fr with
        | .p id 0 => match e.h.get id with
          | some (.cs el' l _) => cd (Nat.beq el' el) (match cut l 0 n with
            | some cs => match bytesOfCells cs with
              | some bs => cd (Nat.ble n 1099511627776) (.ok (.s n bs) (e.h.put id (.cs el' l true))) .no
              | none => .no
            | none => .no) .no
          | _ => .no
        | _ => .no
      | _ => .no : R) = .ok v h' := hr
  generalize ev y' fr = uy at hr ry
  generalize ev x' fr = ux at hr rx
  have hnone : ∀ p, a.eval x = .pointer p → a.eval y = .int .i64 0 → OpS P o e a (.s 0 []) e.h := by
    intro p hp hy0
    have hrun := Lib.run_unsafeString_none (P := P) e.w t it o.type p
    refine OpS.same hs (cv := .string .empty) ?_ (by simp only [Rel]; exact ⟨rfl, by simp, rfl⟩)
    rw [run_exec_builtin ho hb, hxs, hit]
    simp [builtin, hp, hy0, hrun]
  split at hr
  · have ry := rel_i ry
    split at hr
    · injection hr with h1 h2; subst h1 h2
      exact hnone _ (rel_p rx).2 ry
    · injection hr with h1 h2; subst h1 h2
      simp only [Rel] at rx
      exact hnone _ rx.1 ry
    · cases hr
  · rename_i n hn0
    have ry := rel_i ry
    split at hr
    · rename_i j
      split at hr
      · rename_i el' l fz hget
        rw [cd_eq, beq_nat] at hr
        by_cases he : el' = el
        case neg => rw [decide_eq_false he] at hr; cases hr
        rw [decide_eq_true he, if_pos rfl] at hr
        split at hr
        · rename_i cs hcut
          split at hr
          · rename_i bs hbs
            rw [cd_eq, ble_nat] at hr
            by_cases hle : n ≤ 1099511627776
            case neg => rw [decide_eq_false hle] at hr; cases hr
            rw [decide_eq_true hle] at hr
            injection (show R.ok (.s n bs) (e.h.put j (.cs el' l true)) = .ok v h' from hr) with h1 h2; subst h1 h2
            subst he
            obtain ⟨kn, hv⟩ := rel_p rx
            obtain ⟨cc, frz, hc1, hc2, hc3, _, hz⟩ := hs.blk j _ hget
            obtain ⟨hcl, hcg⟩ := cut_get hcut
            obtain ⟨hcs, h256⟩ := bytesOfCells_inv hbs
            have hbl : bs.length = n := by rw [← hcl, hcs]; simp
            have hn' : n ≠ 0 := fun h => hn0 (by rw [h])
            have hlen : n ≤ l.length := by have := cut_le hcut (by omega); omega
            have hcell : ∀ (k b : Nat), bs[k]? = some b → cc[k]? = some (Value.int .u8 (b : Int)) := by
              intro k b hk
              have hkn : k < n := by rw [← hbl]; exact (List.getElem?_eq_some_iff.1 hk).1
              have h1 : cs[k]? = some (.i .u8 (.ofNat b)) := by rw [hcs, List.getElem?_map, hk]; rfl
              rw [hcg k hkn, Nat.zero_add] at h1
              obtain ⟨_, u, hu, hru⟩ := hc3 k _ h1
              rw [hz, Nat.zero_add] at hu
              rw [hu, rel_i hru]; rfl
            have hsh : e.w.shape? (e.ρ j).1 = some (el', cc.size) := by simp [World.shape?, hc1]
            have hcel : P.cellsOf el' = 1 := by
              obtain ⟨i, hi, hin⟩ := map_inv hsz
              simp [Program.cellsOf, hi, hin]
            have hrun := Lib.run_unsafeString_row (P := P) e.w t it o.type el' hd hcel (e.ρ j).1 cc.size hsh (bs.map UInt8.ofNat) (by intro h; apply hn'; rw [← hbl]; simpa using h)
              (by simp; omega) (by simp; omega) (fun k u hk => by
                rw [Addr.add_none, Nat.zero_add, cell_of_row _ _ _ _ _ _ hc1]
                rw [List.getElem?_map] at hk
                cases hb : bs[k]? with
                | none => rw [hb] at hk; cases hk
                | some b =>
                  rw [hb] at hk
                  obtain rfl := Option.some.inj (show some (UInt8.ofNat b) = some u from hk)
                  rw [toNat_ofNat (h256 b (List.mem_of_getElem? hb))]
                  exact hcell k b hb)
            obtain ⟨f1, f2, frz', f3⟩ := freeze_at (n := (bs.map UInt8.ofNat).length) hc1
            have hbs' : bsize (e.w.freeze ⟨(e.ρ j).1, 0, none⟩ (bs.map UInt8.ofNat).length) (e.ρ j).1 = bsize e.w (e.ρ j).1 := by
              unfold bsize; rw [f3, hc1]
            have hx' := turn_ext (b' := .cs el' l true) hget (by simp) (by simp) f1 f2 hbs' (freeze_qt _ _ _)
            have hst' := turn_st (b' := .cs el' l true) hs hget (by simp) (by simp) f1 f2 hbs' (freeze_qt _ _ _) ⟨cc, frz', f3, hc2, fun k y hy => by
              obtain ⟨h1, u, hu, hru⟩ := hc3 k y hy
              exact ⟨h1, u, hu, Rel.ext hx' _ _ hru⟩, fun h => absurd h (by simp), hz⟩
            refine OpS.value (cv := .string (strOf bs)) ?_ _ hst' hx' (by simp only [Rel]; exact ⟨hbl.symm, h256, trivial⟩)
            have hzv : a.eval x = .pointer (some ⟨(e.ρ j).1, 0, none⟩) := by rw [hv, hz]
            have hyv : a.eval y = .int .i64 (((bs.map UInt8.ofNat).length : Nat) : Int) := by rw [ry, List.length_map, hbl]; rfl
            rw [run_exec_builtin ho hb, hxs, hit]
            have harr : (#[x, y] : Array Operand).map a.eval = #[.pointer (some ⟨(e.ρ j).1, 0, none⟩), Value.int .i64 (((bs.map UInt8.ofNat).length : Nat) : Int)] := by
              rw [← hzv, ← hyv]; simp
            rw [harr]
            simp only [builtin, Sem.run_bind, hrun]
            rfl
          · cases hr
        · cases hr
      · cases hr
    · cases hr
  · cases hr
end
end Go.Ev

/- Soundness of clear and of maps. -/
namespace Go.Ev
section
variable {P : Program} {G : Nat → Option (List AV)} {o : Oper} {e : Env} {a : Act} {fr : T AV} {call : CallF} {id : Nat} {ao : AOp} {v : AV} {h' : H}

theorem sound_clr {c : Call} {x' : Od} {t el : TypeId} {sz : Nat} {z : List AV} (hs : St e) (hf : FrRel e fr a.tmps) (hg : GRel G e) (ho : o.op = .call c) (hb : c.callee = .builtin .clear)
    (hx : ods G c.args.toList = some [x']) (ht : c.argTypes[0]? = some t) (hd : elemOf? P t = some el) (hz : zeroOf P el = some z) (hzl : z.length = sz) (hsz0 : sz ≠ 0)
    (hr : evOp call (.o2 (.clr sz z x')) fr e.h id = .ok v h') : OpS P o e a v h' := by
  obtain ⟨x, hxs, hx⟩ := ods_one hx
  have rx := od_rel hf hg hx
  have hu := elem_inv hd
  have none0 : ∀ b m, a.eval x = .slice b 0 m → OpS P o e a undefA e.h := by
    intro b m hv
    refine OpS.same hs (cv := .tuple #[]) ?_ (rel_undef e)
    rw [run_exec_builtin ho hb, hxs]
    cases b <;> simp [builtin, Builtin.clear_, ht, run_underlying hu, hv]
  have hr : (match ev x' fr with
      | .sl id off _ n _ _ => cd (Nat.beq n 0) (.ok undefA e.h) (Option.rec .no (fun h' => .ok undefA h') (storeAt (.p id off) (repl n z) e.h))
      | .em => .ok undefA e.h
      | .v (.slice none 0 0) => .ok undefA e.h
      | _ => .no : R) = .ok v h' := hr
  generalize ev x' fr = u at hr rx
  split at hr
  · rename_i j off sz' n lo ex
    rw [cd_eq, beq_nat] at hr
    simp only [Rel] at rx
    obtain ⟨kn, ad, cap, hv, h1, h2, h3, h4⟩ := rx
    by_cases h0 : n = 0
    · rw [decide_eq_true h0] at hr
      injection (show R.ok undefA e.h = .ok v h' from hr) with h1 h2; subst h1 h2
      subst h0
      exact none0 _ _ hv
    · rw [decide_eq_false h0] at hr
      have hr : (Option.rec .no (fun h' => .ok undefA h') (storeAt (.p j off) (repl n z) e.h) : R) = .ok v h' := by simpa using hr
      cases hst : storeAt (.p j off) (repl n z) e.h with
      | none => rw [hst] at hr; cases hr
      | some h2 =>
        rw [hst] at hr
        injection (show R.ok undefA h2 = .ok v h' from hr) with h1 h3; subst h1 h3
        have hcap : cap ≠ 0 := by omega
        obtain ⟨rfl, _⟩ := h4.resolve_left hcap
        obtain ⟨i, zv, hi, hzv, hzs⟩ := zero_inv hz
        obtain ⟨hzr, hzo⟩ := rel_avOfs (e := e) hzs
        have hzl2 : zv.cells.size = sz := by have := hzr.len; simp at this; omega
        have hne : repl n z ≠ [] := by
          intro h
          have := repl_len z n
          rw [h, hzl, List.length_nil] at this
          have := Nat.mul_pos (show 0 < n by omega) (show 0 < sz by omega)
          omega
        have hp : Rel e (.p j off) (.pointer (some ⟨(e.ρ j).1, (e.ρ j).2 + off, none⟩)) := by simp [Rel, kn]
        obtain ⟨ad, w', hcv, hrun, hst', hx'⟩ := store_both (P := P) hs hp (repl_rel hzr n) (fun y hy => hzo y (repl_mem z n y hy)) hst hne
        injection hcv with hcv
        injection hcv with hcv
        subst hcv
        refine OpS.value (cv := .tuple #[]) (w' := w') ?_ e.ρ hst' hx' (rel_undef _)
        rw [run_exec_builtin ho hb, hxs]
        have hzc : (Builtin.zeroCells zv.cells n).toList = rep n zv.cells.toList := by
          unfold Builtin.zeroCells
          exact rep_array zv.cells n _ (by omega) rfl
        obtain ⟨n', rfl⟩ : ∃ n', n = n' + 1 := ⟨n - 1, by omega⟩
        simp [builtin, Builtin.clear_, ht, run_underlying hu, hv, zeroValue, run_info hi, hzv, hzc, hrun]
  · injection hr with h1 h2; subst h1 h2
    simp only [Rel] at rx
    obtain ⟨ad, hv⟩ := rx
    exact none0 _ _ hv
  · injection hr with h1 h2; subst h1 h2
    simp only [Rel] at rx
    exact none0 _ _ rx.1
  · cases hr

/-! Maps -/

theorem keyKind_inv {t : TypeId} {kd : Nat} (h : keyKind P t = some kd) : (∃ k, P.underlying t = some (.int k) ∧ kd = 0) ∨ (P.underlying t = some .string ∧ kd = 1) := by
  unfold keyKind at h
  obtain ⟨d, hd, h⟩ := bind_inv h
  split at h
  · cases h; exact .inl ⟨_, hd, rfl⟩
  · cases h; exact .inr ⟨hd, rfl⟩
  · cases h

theorem run_checkKey {t : TypeId} {kd : Nat} (h : keyKind P t = some kd) (b : Bool) (n : Nat) (v : Value) (w : World) : (Instr.checkKey b (n + 1) t v).run P w = .ok () w := by
  rcases keyKind_inv h with ⟨k, h, _⟩ | ⟨h, _⟩ <;> simp [Instr.checkKey, run_underlying h]

def KD (kd : Nat) (d : TypeDesc) : Prop := (kd = 0 ∧ ∃ k, d = .int k) ∨ (kd = 1 ∧ d = .string)

theorem eqK_same {kd : Nat} {d : TypeDesc} (hk : KD kd d) {x y : AV} {cx cy : Value} {b : Bool} (hx : Rel e x cx) (hy : Rel e y cy) (h : eqK kd x y = some b) :
    Instr.sameNow d cx cy = some b ∧ (b = true → Instr.sameBits 10000 cy cx = true) := by
  unfold eqK at h
  split at h
  · rename_i k m k' n
    obtain ⟨h1, h⟩ := cd_some h
    obtain ⟨h2, h⟩ := cd_some h
    obtain rfl := Option.some.inj h
    have h1 := beq_true h1
    rw [kEq_eq] at h2
    have h2 : k = k' := of_decide_eq_true h2
    subst h1 h2
    rcases hk with ⟨_, k2, rfl⟩ | ⟨h, _⟩
    · rw [rel_i hx, rel_i hy, iEq_eq]
      refine ⟨by simp [Instr.sameNow]; rfl, fun h => ?_⟩
      have h : m = n := of_decide_eq_true h
      subst h; simp [Instr.sameBits]
    · cases h
  · rename_i n l m l'
    obtain ⟨h1, h⟩ := cd_some h
    obtain rfl := Option.some.inj h
    have h1 := beq_true h1
    subst h1
    rcases hk with ⟨h, _⟩ | ⟨_, rfl⟩
    · cases h
    · obtain ⟨_, hb1, rfl⟩ := rel_s hx
      obtain ⟨_, hb2, rfl⟩ := rel_s hy
      rw [sEq_eq]
      have key : (strOf l == strOf l') = decide (l = l') := by
        rw [beq_toListBytes]; exact strOf_eq_iff hb1 hb2
      refine ⟨by simp only [Instr.sameNow, key], fun h => ?_⟩
      have h : l = l' := of_decide_eq_true h
      subst h
      rw [decide_eq_true rfl] at key
      simp only [Instr.sameBits, key]
  · cases h

theorem mfind_cons (kd : Nat) (k : AV) (p : AV × AV) (r : List (AV × AV)) : mfind kd k (p :: r) = (match eqK kd k p.1 with
    | some true => some (some p.2)
    | some false => mfind kd k r
    | none => none) := rfl
theorem mset_cons (kd : Nat) (k v : AV) (p : AV × AV) (r : List (AV × AV)) : mset kd k v (p :: r) = (match eqK kd k p.1 with
    | some true => (k, v) :: r
    | _ => p :: mset kd k v r) := rfl

theorem mfind_rel {kd : Nat} {d : TypeDesc} (hk : KD kd d) {k : AV} {ck : Value} (hrk : Rel e k ck) (nv : AV) : ∀ {es : List (AV × AV)} {ms : List MapEntry} {r : Option AV} (i : Nat), EntRel e es ms → mfind kd k es = some r →
    (r = none ∧ Instr.findNow d ck ms i = some none ∧ mset kd k nv es = es ++ [(k, nv)]) ∨
    (∃ x j m, r = some x ∧ ms[j]? = some m ∧ Rel e x m.val ∧ Instr.findNow d ck ms i = some (some (i + j, m.val)) ∧ Instr.sameBits 10000 m.key ck = true ∧ mset kd k nv es = es.set j (k, nv) ∧ j < es.length)
  | [], [], r, i, _, h => by
    obtain rfl : none = r := Option.some.inj (show some none = some r from h)
    exact .inl ⟨rfl, rfl, rfl⟩
  | [], _ :: _, _, _, h, _ => h.elim
  | (_, _) :: _, [], _, _, h, _ => h.elim
  | (pk, pv) :: es, m :: ms, r, i, he, h => by
    rw [mfind_cons] at h
    rw [mset_cons]
    cases hq : eqK kd k pk with
    | none => simp only [hq] at h; cases h
    | some b =>
      obtain ⟨h1, h2⟩ := eqK_same hk hrk he.1 hq
      cases b with
      | true =>
        simp only [hq] at h
        obtain rfl := Option.some.inj h
        refine .inr ⟨pv, 0, m, rfl, rfl, he.2.1, by simp [Instr.findNow, h1], h2 rfl, by simp, by simp⟩
      | false =>
        simp only [hq] at h
        rcases mfind_rel hk hrk nv (i + 1) he.2.2 h with ⟨h3, h4, h5⟩ | ⟨x, j, m', h3, h4, h5, h6, h7, h8, h9⟩
        · exact .inl ⟨h3, by simp [Instr.findNow, h1, h4], by simp [h5]⟩
        · refine .inr ⟨x, j + 1, m', h3, by simpa using h4, h5, ?_, h7, by simp [h8], by simp; omega⟩
          simp only [Instr.findNow, h1, h6]
          rw [show i + 1 + j = i + (j + 1) by omega]

theorem keyKind_KD {t : TypeId} {kd : Nat} (h : keyKind P t = some kd) : ∃ d, P.underlying t = some d ∧ KD kd d := by
  rcases keyKind_inv h with ⟨k, h2, rfl⟩ | ⟨h2, rfl⟩
  · exact ⟨_, h2, by unfold KD; exact .inl ⟨rfl, k, rfl⟩⟩
  · exact ⟨_, h2, by unfold KD; exact .inr ⟨rfl, rfl⟩⟩

theorem sound_lk {t : TypeId} {x ix : Operand} {ok : Bool} (hs : St e) (hf : FrRel e fr a.tmps) (hg : GRel G e) (ho : o.op = .lookup t x ix ok)
    (hc : compOp P G (.lookup t x ix ok) = some ao) (hr : evOp call ao fr e.h id = .ok v h') : OpS P o e a v h' := by
  simp only [compOp] at hc
  obtain ⟨d, hd, hc⟩ := bind_inv hc
  split at hc
  · rename_i kt et
    obtain ⟨kd, hkd, hc⟩ := bind_inv hc
    obtain ⟨z, hz, hc⟩ := bind_inv hc
    obtain ⟨x', hx, hc⟩ := bind_inv hc
    obtain ⟨i', hi, rfl⟩ := map_inv hc
    have rx := od_rel hf hg hx
    have ri := od_rel hf hg hi
    obtain ⟨dk, hdk, hKD⟩ := keyKind_KD hkd
    have hr : (match (match ev x' fr with
        | .v (.map none) => some []
        | .m id => match e.h.get id with
          | some (.mp es) => some es
          | _ => none
        | _ => none) with
      | some es => match mfind kd (ev i' fr) es with
        | some r => match Option.rec z (fun x => x) r with
          | v => .ok (cd ok (.tu [v, .b r.isSome]) v) e.h
        | none => .no
      | none => .no : R) = .ok v h' := hr
    split at hr
    · rename_i es hes
      split at hr
      · rename_i r hfind
        injection (show R.ok (cd ok (.tu [Option.rec z (fun x => x) r, .b r.isSome]) (Option.rec z (fun x => x) r)) e.h = .ok v h' from hr) with h1 h2; subst h2
        have hzv : ∃ inf zv, P.info? et = some inf ∧ inf.zero = some zv ∧ avOfAny zv = some z := by
          unfold zeroAny at hz
          obtain ⟨inf, hinf, hz⟩ := bind_inv hz
          obtain ⟨zv, hzv, hz⟩ := bind_inv hz
          exact ⟨inf, zv, hinf, hzv, hz⟩
        obtain ⟨inf, zv, hinf, hzv, hza⟩ := hzv
        have relz := rel_avOfAny (e := e) hza
        -- the entries
        have hents : ∃ ms : Array MapEntry, EntRel e es ms.toList ∧ ((a.eval x = .map none ∧ ms = #[]) ∨ ∃ r clock, a.eval x = .map (some r) ∧ e.w.heap[r]? = some (.map ms clock)) := by
          generalize ev x' fr = u at hes rx
          split at hes
          · cases hes
            simp only [Rel] at rx
            exact ⟨#[], trivial, .inl ⟨rx.1, rfl⟩⟩
          · rename_i j
            split at hes
            · rename_i es' hget
              cases hes
              simp only [Rel] at rx
              obtain ⟨ms, clock, hm, hent⟩ := hs.blk _ _ hget
              exact ⟨ms, hent, .inr ⟨_, clock, rx.2, hm⟩⟩
            · cases hes
          · cases hes
        obtain ⟨ms, hent, hk⟩ := hents
        rcases mfind_rel hKD ri (.tu []) 0 hent hfind with ⟨rfl, h4, _⟩ | ⟨y, j, m, rfl, h3, h4, h5, _⟩
        · have hrun : (Instr.lookup t (a.eval x) (a.eval ix) ok).run P e.w = .ok (if ok then .tuple #[zv, .bool false] else zv) e.w := by
            rcases hk with ⟨hk, rfl⟩ | ⟨r, clock, hk, hm⟩
            · have h4 : Instr.findNow dk (a.eval ix) [] 0 = some none := h4
              simp [Instr.lookup, run_underlying hd, hk, run_checkKey hkd, Instr.findKey, run_underlying hdk, h4, zeroValue, run_info hinf, hzv]
            · simp [Instr.lookup, run_underlying hd, hk, run_getObj' (P := P) hm, run_checkKey hkd, Instr.findKey, run_underlying hdk, h4, zeroValue, run_info hinf, hzv]
          refine OpS.same hs (cv := if ok then .tuple #[zv, .bool false] else zv) (by simp [execOp, ho, hrun]) ?_
          rw [← h1]
          cases ok with
          | true => exact (show Rel e (.tu [z, .b false]) _ by simp only [Rel]; exact ⟨#[zv, .bool false], rfl, by simp only [RelL]; exact ⟨relz, rfl, trivial⟩⟩)
          | false => exact relz
        · have hrun : (Instr.lookup t (a.eval x) (a.eval ix) ok).run P e.w = .ok (if ok then .tuple #[m.val, .bool true] else m.val) e.w := by
            rcases hk with ⟨hk, rfl⟩ | ⟨r, clock, hk, hm⟩
            · simp at h3
            · simp [Instr.lookup, run_underlying hd, hk, run_getObj' (P := P) hm, run_checkKey hkd, Instr.findKey, run_underlying hdk, h5]
          refine OpS.same hs (cv := if ok then .tuple #[m.val, .bool true] else m.val) (by simp [execOp, ho, hrun]) ?_
          rw [← h1]
          cases ok with
          | true => exact (show Rel e (.tu [y, .b true]) _ by simp only [Rel]; exact ⟨#[m.val, .bool true], rfl, by simp only [RelL]; exact ⟨h4, rfl, trivial⟩⟩)
          | false => exact h4
      · cases hr
    · cases hr
  · cases hc

theorem EntRel.set {k v : AV} {ck cv : Value} (hk : Rel e k ck) (hv : Rel e v cv) : ∀ {es : List (AV × AV)} {ms : List MapEntry} (j : Nat), EntRel e es ms →
    EntRel e (es.set j (k, v)) (ms.modify j fun m => { m with key := ck, val := cv })
  | [], [], _, _ => by simp [EntRel]
  | [], _ :: _, _, h => h.elim
  | (_, _) :: _, [], _, h => h.elim
  | (_, _) :: es, m :: ms, 0, h => by simp [EntRel]; exact ⟨hk, hv, h.2.2⟩
  | (_, _) :: es, m :: ms, j + 1, h => by simp [EntRel]; exact ⟨h.1, h.2.1, EntRel.set hk hv j h.2.2⟩

theorem EntRel.push {k v : AV} {m : MapEntry} (hk : Rel e k m.key) (hv : Rel e v m.val) : ∀ {es : List (AV × AV)} {ms : List MapEntry}, EntRel e es ms → EntRel e (es ++ [(k, v)]) (ms ++ [m])
  | [], [], _ => by simp [EntRel]; exact ⟨hk, hv⟩
  | [], _ :: _, h => h.elim
  | (_, _) :: _, [], h => h.elim
  | (_, _) :: es, _ :: ms, h => by simp [EntRel]; exact ⟨h.1, h.2.1, EntRel.push hk hv h.2.2⟩

theorem setObj_at {w : World} {r : Nat} {ms : Array MapEntry} {clock : Nat} (hm : w.heap[r]? = some (.map ms clock)) (ms' : Array MapEntry) (c' : Nat) :
    ∃ w', (setObj r (.map ms' c')).run P w = .ok () w' ∧ w'.heap.size = w.heap.size ∧ (∀ k, k ≠ r → w'.heap[k]? = w.heap[k]?) ∧ w'.heap[r]? = some (.map ms' c') ∧ Qt w w' := by
  have hlt : r < w.heap.size := (Array.getElem?_eq_some_iff.1 hm).1
  refine ⟨{ w with heap := w.heap.setIfInBounds r (.map ms' c') }, ?_, by simp, fun k hk => by simp [Array.getElem?_setIfInBounds, Ne.symm hk], by simp [Array.getElem?_setIfInBounds, hlt], rfl, rfl, rfl⟩
  simp [setObj, Sem.run, hm]

theorem sound_mu {t : TypeId} {x k y : Operand} (hs : St e) (hf : FrRel e fr a.tmps) (hg : GRel G e) (ho : o.op = .mapUpdate t x k y)
    (hc : compOp P G (.mapUpdate t x k y) = some ao) (hr : evOp call ao fr e.h id = .ok v h') : OpS P o e a v h' := by
  simp only [compOp] at hc
  obtain ⟨d, hd, hc⟩ := bind_inv hc
  split at hc
  · rename_i kt et
    obtain ⟨kd, hkd, hc⟩ := bind_inv hc
    obtain ⟨x', hx, hc⟩ := bind_inv hc
    obtain ⟨k', hk', hc⟩ := bind_inv hc
    obtain ⟨y', hy, rfl⟩ := map_inv hc
    have rx := od_rel hf hg hx
    have rk := od_rel hf hg hk'
    have ry := od_rel hf hg hy
    obtain ⟨dk, hdk, hKD⟩ := keyKind_KD hkd
    have hr : (match ev x' fr with
      | .m id => match e.h.get id with
        | some (.mp es) => match mfind kd (ev k' fr) es with
          | some _ => .ok undefA (e.h.put id (.mp (mset kd (ev k' fr) (ev y' fr) es)))
          | none => .no
        | _ => .no
      | _ => .no : R) = .ok v h' := hr
    generalize ev x' fr = u at hr rx
    split at hr
    · rename_i i
      split at hr
      · rename_i es hget
        split at hr
        · rename_i r hfind
          injection hr with h1 h2; subst h1 h2
          simp only [Rel] at rx
          obtain ⟨_, hxv⟩ := rx
          obtain ⟨ms, clock, hm, hent⟩ := hs.blk _ _ hget
          have fin : ∀ (ms' : Array MapEntry) (c' : Nat) (w' : World), w'.heap.size = e.w.heap.size → (∀ k, k ≠ (e.ρ i).1 → w'.heap[k]? = e.w.heap[k]?) → w'.heap[(e.ρ i).1]? = some (.map ms' c') → Qt e.w w' →
              EntRel e (mset kd (ev k' fr) (ev y' fr) es) ms'.toList → (execOp a.eval o).run P e.w = .ok .skip w' → OpS P o e a undefA (e.h.put i (.mp (mset kd (ev k' fr) (ev y' fr) es))) := by
            intro ms' c' w' f1 f2 f3 hq hent' hrun
            have hbs : bsize w' (e.ρ i).1 = bsize e.w (e.ρ i).1 := by unfold bsize; rw [f3, hm]
            have hx' := turn_ext (b' := .mp (mset kd (ev k' fr) (ev y' fr) es)) hget (by simp) (by simp) f1 f2 hbs hq
            have hst' := turn_st (b' := .mp (mset kd (ev k' fr) (ev y' fr) es)) hs hget (by simp) (by simp) f1 f2 hbs hq ⟨ms', c', f3, EntRel.ext hx' _ _ hent'⟩
            exact OpS.skip hrun _ hst' hx' (rel_undef _)
          have hgo := run_getObj' (P := P) hm
          rcases mfind_rel hKD rk (ev y' fr) 0 hent hfind with ⟨rfl, h4, h5⟩ | ⟨z, j, m, rfl, h3, h4, h5, h6, h7, h8⟩
          · obtain ⟨w', g1, g2, g3, g4, g5⟩ := setObj_at (P := P) hm (ms.push { key := a.eval k, val := a.eval y, born := clock }) (clock + 1)
            refine fin _ _ w' g2 g3 g4 g5 ?_ ?_
            · rw [h5, Array.toList_push]
              exact EntRel.push rk ry hent
            · simp [execOp, ho, Instr.mapUpdate, run_underlying hd, hxv, hgo, run_checkKey hkd, Instr.findKey, run_underlying hdk, h4, g1]
          · obtain ⟨w', g1, g2, g3, g4, g5⟩ := setObj_at (P := P) hm (ms.modify j fun m => { m with key := a.eval k, val := a.eval y }) clock
            refine fin _ _ w' g2 g3 g4 g5 ?_ ?_
            · rw [h7, Array.toList_modify]
              exact EntRel.set rk ry j hent
            · have hmj : ms[j]? = some m := by simpa using h3
              rw [Nat.zero_add] at h5
              simp [execOp, ho, Instr.mapUpdate, run_underlying hd, hxv, hgo, run_checkKey hkd, Instr.findKey, run_underlying hdk, h5, hmj, Instr.keyThatStays, h6, g1]
        · cases hr
      · cases hr
    · cases hr
  · cases hc
end
end Go.Ev
