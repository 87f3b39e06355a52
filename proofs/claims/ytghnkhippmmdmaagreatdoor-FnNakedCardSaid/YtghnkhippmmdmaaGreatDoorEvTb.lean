/- The base table: the compiled functions and the externs. -/
import Derived.Test.YtghnkhippmmdmaaGreatDoorEvTr
import Derived.Test.YtghnkhippmmdmaaGreatDoorEvTc0
import Derived.Test.YtghnkhippmmdmaaGreatDoorEvTc1
import Derived.Test.YtghnkhippmmdmaaGreatDoorEvTc2
import Derived.Test.YtghnkhippmmdmaaGreatDoorEvSeq
set_option linter.unusedVariables false
set_option linter.unusedSimpArgs false
set_option linter.all false

namespace Go.Ev
open Go.Proofs
set_option maxRecDepth 100000

theorem tree_eq : tree = build (lst0 ++ (lst1 ++ lst2)) := by kernel_rfl

noncomputable def tbl1 (f : Nat) : FT := cd (Nat.beq f 89) (.ext xIdxS) (tblT f)
noncomputable def tbl2 (f : Nat) : FT := cd (Nat.beq f 144) (.ext xIdxB) (tbl1 f)
noncomputable def tbl3 (f : Nat) : FT := cd (Nat.beq f 186) (.ext xCnt) (tbl2 f)
noncomputable def tbl4 (f : Nat) : FT := cd (Nat.beq f 77) (.ext xId) (tbl3 f)
noncomputable def tbl5 (f : Nat) : FT := cd (Nat.beq f 233) (.ext xFmt) (tbl4 f)
noncomputable def tblB (f : Nat) : FT := cd (Nat.beq f 256) (.exth xApS) (tbl5 f)

theorem tblB_ok (m : Int) : Tbl Tryz.prog (Gm m) tblB :=
  Tbl.memoh (tbl := tbl5) (Tbl.memo (tbl := tbl4) (Tbl.memo (tbl := tbl3) (Tbl.memo (tbl := tbl2) (Tbl.memo (tbl := tbl1) (Tbl.memo (tbl := tblT) (tbl_build tree_eq (good_app lst0_ok (good_app lst1_ok lst2_ok)) m)
    (xIdxS_sound (gM := 0) (m := m) enters89 (fun s sub m w hs hm => Any.stringslite_Index Tryz.lays219 s sub m w hs hm) rfl))
    (xIdxB_sound enters144 (fun s c w => Any.stringslite_IndexByte Tryz.lays217 s c w)))
    (xCnt_sound enters186 (fun s c w => Any.strings_Count_one Tryz.lays138 s c w)))
    (xId_sound value77)) (xFmt_sound m)) (xApS_sound m)

/-- What a run from the empty heap gives, its blocks as immutable ones. -/
noncomputable def runF (tbl : Nat → FT) (n f : Nat) (args : List AV) : Option AV := R.rec none (fun v h => frz h 30 v) (evF tbl n f args ⟨0, .e⟩)

theorem runF_sound {m : Int} {tbl : Nat → FT} (ht : Tbl Tryz.prog (Gm m) tbl) {n f : Nat} {args : List AV} {v : AV} (hp : args.all plain = true) (hr : runF tbl n f args = some v) :
    ∀ e vs, St e → GRel (Gm m) e → RelL e args vs → Does Tryz.prog f vs.toArray e.w (fun cv w' => ∃ e', e'.w = w' ∧ e'.h = e.h ∧ St e' ∧ Ext e e' ∧ Rel e' v cv) := by
  unfold runF at hr
  cases h : evF tbl n f args ⟨0, .e⟩ with
  | no => rw [h] at hr; cases hr
  | ok r h1 =>
    rw [h] at hr
    exact memo_sound (evF_sound (by kernel_rfl) ht n) (Gm_plain m) hp h (show frz h1 30 r = some v from hr)

/-- A list of what was run: the arguments, and what came. -/
noncomputable def look2 (l : List (List Nat × List (Nat × AV))) (s : List Nat) (k : Nat) : Option AV :=
  List.rec none (fun q _ r => cd (sEq q.1 s) (List.rec none (fun p _ r => cd (Nat.beq p.1 k) (some p.2) r) q.2) r) l
end Go.Ev
