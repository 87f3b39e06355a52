/- The row of FnNaked: from any start that fits, the run of EvFin. -/
import Derived.Test.YtghnkhippmmdmaaGreatDoorEvFin
import Derived.Test.YtghnkhippmmdmaaGreatDoorEvWit
import Derived.Lib.LaidTab
import Derived.Shelf.Vars
set_option linter.unusedVariables false
set_option linter.unusedSimpArgs false
set_option linter.all false

namespace Go.Ev
open Go.Proofs

theorem relCells_mk {e : Env} {b : Nat} : ∀ {cs : List AV} {o : Nat}, (∀ i x, cs[i]? = some x → one x = true ∧ ∃ v, e.w.cell? ⟨b, o + i, none⟩ = some v ∧ Rel e x v) → RelCells e cs b o
  | [], _, _ => trivial
  | x :: xs, o, h => by
    simp only [RelCells]
    refine ⟨h 0 x rfl, relCells_mk fun i y hy => ?_⟩
    have := h (i + 1) y (by simpa using hy)
    rw [show o + 1 + i = o + (i + 1) by omega]
    exact this

theorem relRows_mk {e : Env} {b : Nat} : ∀ {l : List Nat} {o : Nat}, (∀ (i c : Nat), l[i]? = some c → e.w.cell? ⟨b, o + i, none⟩ = some (.int .u8 (.ofNat c))) → RelRows e 1 (l.map by1) b o
  | [], _, _ => trivial
  | c :: cs, o, h => by
    simp only [List.map_cons, RelRows]
    refine ⟨rfl, ?_, relRows_mk fun i y hy => ?_⟩
    · simp only [by1, RelCells]
      exact ⟨⟨rfl, _, h 0 c rfl, by simp only [Rel]⟩, trivial⟩
    · have := h (i + 1) y (by simpa using hy)
      rw [show o + 1 + i = o + (i + 1) by omega]
      exact this

/-- The package-level variables, in a start that fits. -/
theorem grel_of {W : World} {m : Int} (h0 : W.cell? ⟨0, 0, none⟩ = some (.int .i64 m)) (z0 : bsize W 0 = 1) (h1 : Lib.TabIs Tryz.prog W powName .u64 Lib.pow10Tab) : GRel (Gm m) (env0 W) := by
  have lt : ∀ b n, bsize W b = n + 1 → b < W.heap.size := fun b n h => by
    rcases Nat.lt_or_ge b W.heap.size with hl | hl
    · exact hl
    · simp [bsize, Array.getElem?_eq_none hl] at h
  have hn : Tryz.prog.globalNamed powName = some 1 := Tryz.lays173.m17
  have z1 : bsize W 1 = 20 := by
    unfold Lib.TabIs World.var? at h1
    rw [hn] at h1
    have h1 : (match W.heap[1]? with | some (.cells cs _ _) => some cs | _ => none) = _ := h1
    unfold bsize
    split at h1
    · rename_i cs t fr hb
      rw [hb]
      have := Option.some.inj h1
      show cs.size = 20
      rw [this]
      rfl
    · cases h1
  intro g cs hg
  unfold Gm at hg
  rcases g with _ | _ | g
  · obtain rfl := Option.some.inj (show some [AV.i .i64 m] = some cs from hg)
    refine ⟨?_, z0⟩
    simp only [Rel]
    refine ⟨0, 0, rfl, env0_imm W 0 (lt 0 0 z0), ?_⟩
    simp only [RelCells]
    exact ⟨⟨rfl, _, h0, by simp only [Rel]⟩, trivial⟩
  · obtain rfl := Option.some.inj (show some powC = some cs from hg)
    refine ⟨?_, z1⟩
    simp only [Rel]
    refine ⟨1, 0, rfl, env0_imm W 1 (lt 1 19 z1), relCells_mk fun i x hx => ?_⟩
    have hi : i < 20 := by
      have := (List.getElem?_eq_some_iff.1 hx).1
      exact this
    have hall : ∀ k : Fin 20, powC[k.1]? = some (AV.i .u64 (Lib.pow10Tab.getD k.1 0)) := fun k => by
      rcases k with ⟨k, hk⟩
      rcases k with _ | _ | _ | _ | _ | _ | _ | _ | _ | _ | _ | _ | _ | _ | _ | _ | _ | _ | _ | _ | k <;> first | rfl | omega
    obtain rfl := Option.some.inj ((hall ⟨i, hi⟩).symm.trans hx)
    refine ⟨rfl, .int .u64 (Lib.pow10Tab.getD i 0), ?_, by simp only [Rel]⟩
    have := h1.cell hn i hi
    rw [Nat.zero_add]
    exact this
  · cases (show none = some cs from hg)
end Go.Ev

namespace Go.Proofs.YtghnkhippmmdmaaGreatDoor
open Go.ChangeShapes Go.WideShapes Go.ChangeAt Go.RowKit Go.Ev
set_option maxRecDepth 100000

theorem own : ownKnob Tryz.prog.godebug = none := by kernel_rfl
theorem laidOut : laidOutB Tryz.prog = true := by kernel_rfl
theorem cells5 : Tryz.prog.cellsOf 5 = 1 := by kernel_rfl

theorem tab_laid {W : World} (h : laidMetH Tryz.prog Rows.fnNakedRow.laid W) : Lib.TabIs Tryz.prog W powName .u64 Lib.pow10Tab := by
  have h' : laidMet Tryz.prog Rows.fnNakedRow.laid W := by
    have hf : (Rows.fnNakedRow.laid.filter fun x => x.2.handleName?.isSome) = [] := by kernel_rfl
    unfold laidMetH at h
    rw [hf] at h
    exact h
  obtain ⟨ps, ⟨_, _, _, _, _, _, _, _, _, _, ⟨_, _, _, _, _, _, _, _, _, _, ⟨g, t, cs, fuel, p, q, hg, ht, hvar, hd, _, _⟩, _⟩, _⟩, _⟩ := h'
  have hn : Tryz.prog.globalNamed powName = some 1 := Tryz.lays173.m17
  obtain rfl := Option.some.inj (hn.symm.trans hg)
  have hty : (Tryz.prog.globals[1]?).map (·.type) = some 419 := by kernel_rfl
  obtain rfl := Option.some.inj (hty.symm.trans ht)
  unfold Lib.TabIs
  have hvar : W.var? Tryz.prog powName = some cs := hvar
  have hd : DataW.trod (fun _ => ()) Tryz.prog W 0 (fun _ => true) false fuel 419 cs.toList = some (Lib.tabData .u64 Lib.pow10Tab, p) := hd
  rw [hvar, ← Lib.cells_of_tab Tryz.underlying419 Tryz.underlying256 (by kernel_rfl) (by kernel_rfl) hd]

theorem vars_rel {W : World} (hs : W.ShapedOpen Tryz.prog) (h : laidMetH Tryz.prog Rows.fnNakedRow.laid W) : ∃ m, GRel (Gm m) (env0 W) := by
  have hz : ((begin Tryz.prog (fun _ _ => 0) default).world.heap[0]?).bind Obj.row? = some (#[.int .i64 0], 3) := by kernel_rfl
  obtain ⟨m, hm⟩ := cell_of_shapedOpen_int hs (g := 0) (of_decide_eq_true (by kernel_rfl)) hz rfl (by kernel_rfl) (by kernel_rfl) Tryz.underlying3
  obtain ⟨cs, hh, hsz, _⟩ := hs.1 0 _ 3 (of_decide_eq_true (by kernel_rfl)) hz
  exact ⟨m, grel_of hm (by unfold bsize; rw [hh]; exact hsz) (tab_laid h)⟩

/-- The bytes that come in: the run returns true, and all that was there stays. -/
theorem naked_run {H : Type} {enc : TypeId × Value → H} {W : World} {d : DataW H} {p : List MemPlace} {a0 : Option Addr} {len cap : Nat} {m : Int} (hg : GRel (Gm m) (env0 W))
    (h : DataW.Trod enc Tryz.prog W 0 (fun _ => true) true 22 (.slice a0 len cap) d p) (hlt : ∀ x ∈ p, x.block < W.heap.size) :
    Calls Tryz.prog 3 #[.slice a0 len cap] W fun e w' => e = .returned (.bool true) ∧ Below W.heap.size W w' := by
  obtain ⟨fuel, hf⟩ := h
  have fin : ∀ {x : AV}, (∃ h', evF tblL 200 3 [x] ⟨0, .e⟩ = .ok (.b true) h') → Rel (env0 W) x (.slice a0 len cap) → Calls Tryz.prog 3 #[.slice a0 len cap] W fun e w' => e = .returned (.bool true) ∧ Below W.heap.size W w' := fun hx hr =>
    (calls3 hx hg hr).mono fun e w' ⟨h1, h2, h3, h4⟩ => ⟨h1, ⟨h4.1, h4.2.1, h4.2.2, h2, h3⟩⟩
  rcases open_ints Tryz.underlying22 Tryz.underlying5 cells5 hf with ⟨hcs, hx⟩ | ⟨a, len', cap', zs, hcs, _, hl, hm, hz, hx, hcell, hwz⟩
  · simp [Value.cells] at hcs
    obtain ⟨rfl, rfl, rfl⟩ := hcs
    exact fin nk_nil (by simp only [nS, Rel, nilish, and_self])
  · simp [Value.cells] at hcs
    obtain ⟨rfl, rfl, rfl⟩ := hcs
    simp only [Prod.mk.injEq] at hx
    obtain ⟨rfl, rfl⟩ := hx
    simp only [if_true] at hz
    have hin := range_u8 hwz
    have hll : ((zs.take len).map Int.toNat).length = len := by simp; omega
    refine fin (nk_true ((zs.take len).map Int.toNat) ?_) ?_
    · intro c hc
      obtain ⟨z, hz1, rfl⟩ := List.mem_map.1 hc
      obtain ⟨j, hj⟩ := List.getElem?_of_mem (List.mem_of_mem_take hz1)
      have := hin j
      rw [hj] at this
      simp at this
      omega
    · simp only [Rel]
      refine ⟨a, cap, by rw [List.length_map, hll], by rw [List.length_map, hll]; exact hl, ?_⟩
      by_cases h0 : len = 0
      · left
        subst h0
        simp
      · right
        obtain ⟨b, off, rfl, hc⟩ := ints_at hcell (by omega)
        refine ⟨rfl, env0_imm W b ?_, relRows_mk fun i c hi => ?_⟩
        · exact hlt (.cell b off) (MemPlace.mem_row.2 ⟨0, by omega, by simp⟩)
        · have hil : i < len := by
            have := (List.getElem?_eq_some_iff.1 hi).1
            omega
          have h1 := hc i (by omega)
          have h2 : zs[i]? = some (zs.getD i 0) := by simp [List.getD, List.getElem?_eq_getElem (show i < zs.length by omega)]
          have h3 : ((zs.take len).map Int.toNat)[i]? = some (zs.getD i 0).toNat := by
            rw [List.getElem?_map, List.getElem?_take_of_lt hil, h2]
            rfl
          obtain rfl := Option.some.inj (h3.symm.trans hi)
          have h4 := hin i
          rw [h2] at h4
          show W.cell? ⟨b, off + i, none⟩ = _
          rw [h1]
          have : Int.ofNat (zs.getD i 0).toNat = zs.getD i 0 := Int.toNat_of_nonneg (by simpa using h4.1)
          rw [this]

theorem law_lifted (os : Os) (started : os.Started) (H : Type) (enc : TypeId × Value → H) :
    ReturnsInHanded {} Tryz.checked os 3 .any (fun w args => (Rows.fnNakedSpec.pre enc Tryz.prog Tryz.f3 [] false w args ∧ laidMetH Tryz.prog Rows.fnNakedRow.laid w) ∧ sizedMet enc Tryz.prog Tryz.f3 (OpenSpec.ofChange Rows.fnNakedSpec) false w args)
      (Rows.fnNakedSpec.post enc Tryz.prog Tryz.f3 false true false false) := by
  refine returnsInHanded_of_calls (C := Tryz.checked) own started (by kernel_rfl) (laidWorld_fits enc os) ?_
  intro w tape i _ hsh _ hok hpre _
  obtain ⟨_, _, _, fn', hfn', _, _, _, _, hval1⟩ := hok
  have e : fn' = Tryz.f3 := Option.some.inj (hfn'.symm.trans Tryz.func3)
  subst e
  obtain ⟨⟨⟨ds, gs, before, hw, _⟩, hL0⟩, _⟩ := hpre
  have hW := DataW.Whole.of_heap (w' := w.forCall tape i) (by rfl) hw
  have hL : laidMetH Tryz.prog Rows.fnNakedRow.laid (w.forCall tape i) := hL0.of_heap (by rfl)
  have hS : (w.forCall tape i).ShapedOpen Tryz.prog := hsh
  suffices hgoal : Calls Tryz.prog 3 i.args (w.forCall tape i) fun e W' => ∃ v, e = .returned v ∧ Rows.fnNakedSpec.post enc Tryz.prog Tryz.f3 false true false false (w.forCall tape i) i.args v W' by
    refine hgoal.mono fun e W' ⟨v, he, hp⟩ => ?_
    subst he
    exact ChangeSpec.post_blind hp
  generalize w.forCall tape i = W at *
  generalize i.args = args at *
  have hval : ∀ (j : Nat) t v, Tryz.f3.params[j]? = some t → args[j]? = some v → Value.okWide Tryz.prog W .any w.heap.size t v := hval1
  have hW' := hW
  obtain ⟨p, q, hA0, hV, rfl, _, _⟩ := hW
  have hA : DataW.TrodAll enc Tryz.prog W 0 (fun _ => true) true Tryz.f3.params.toList args.toList ds p := hA0
  rw [Tryz.params3] at hA hval
  obtain ⟨v0, d0, rfl, rfl, h0⟩ := trodAll_one hA
  obtain ⟨rfl, rfl⟩ := trodVars_none hV
  obtain ⟨a0, len, cap, rfl⟩ := okWide_slice Tryz.underlying22 (hval 0 22 v0 rfl rfl)
  simp only [List.append_nil] at hW'
  have hlt : ∀ x ∈ p, x.block < W.heap.size := fun x hx => by simpa using hW'.lt x hx
  obtain ⟨m, hg⟩ := vars_rel hS hL
  have e1 : Rows.fnNakedSpec.fn H ([d0] ++ []) = { results := [.lit (.bool true)], args := [d0] } := by simp [Rows.fnNakedSpec]
  refine (naked_run hg h0 hlt).mono fun e W' ⟨he, hb⟩ => ?_
  subst he
  refine ⟨_, rfl, _, _, _, [], p, [], hW', ?_, ?_, ?_, hb.frame _, fun h => by cases h⟩
  · rw [e1]; exact trodAll_mk1 (shut_bool Tryz.underlying4 true)
  · rw [e1]; exact trodAll_mk1 (Below.trod laidOut (by kernel_rfl) (of_decide_eq_true (by kernel_rfl)) h0 hb hlt)
  · rw [e1]; rfl
end Go.Proofs.YtghnkhippmmdmaaGreatDoor
