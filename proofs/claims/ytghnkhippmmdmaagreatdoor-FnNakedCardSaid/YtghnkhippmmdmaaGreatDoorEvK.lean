/- Code is sound. -/
import Derived.Test.YtghnkhippmmdmaaGreatDoorEvJ
import Derived.LoopN
import Derived.Laws.Sem
import Derived.Lib.Bytealg
import Derived.Lib.Index
set_option linter.unusedVariables false
set_option linter.unusedSimpArgs false
set_option linter.all false

namespace Go.Ev
section
variable {P : Program} {G : Nat → Option (List AV)} {call : CallF}

theorem number_spec : ∀ (L : List AO) (k : Nat), (number L k).1.length = L.length ∧ ∀ (q : Nat) (ao : AO), (number L k).1[q]? = some ao → ∃ o k', L[q]? = some o ∧ ao = { o with k := k' }
  | [], k => ⟨rfl, fun q ao h => by simp [number] at h⟩
  | o :: r, k => by
    obtain ⟨h1, h2⟩ := number_spec r (if o.op.cls = .A then k + 1 else k)
    refine ⟨by simp [number, h1], fun q ao h => ?_⟩
    cases q with
    | zero =>
      simp only [number, List.getElem?_cons_zero, Option.some.injEq] at h
      exact ⟨o, k, rfl, h.symm⟩
    | succ q =>
      obtain ⟨o', k', h3, h4⟩ := h2 q ao (by simpa [number] using h)
      exact ⟨o', k', by simpa using h3, h4⟩

/-- The exit that an abstract one stands for. -/
def exOf : Ex → Exit
  | .normal => .normal
  | .exit id => .exit id
  | .ret => .ret

/-- What is said behind a piece of code. -/
def Post (nt : Nat) (Q : Exit → Act → World → Prop) (e : Env) (a : Act) (ex : Ex) (fr' : T AV) (h' : H) : Prop :=
  ∀ a' e', e'.h = h' → St e' → Ext e e' → FrRel e' fr' a'.tmps → a'.tmps.size = nt → a'.defers = a.defers → Q (exOf ex) a' e'.w

theorem Post.ext {nt : Nat} {Q : Exit → Act → World → Prop} {e e1 : Env} {a a1 : Act} {ex : Ex} {fr' : T AV} {h' : H} (h : Post nt Q e a ex fr' h') (x : Ext e e1) (hd : a1.defers = a.defers) : Post nt Q e1 a1 ex fr' h' :=
  fun a' e' h1 h2 h3 h4 h5 h6 => h a' e' h1 h2 (x.trans h3) h4 h5 (h6.trans hd)

theorem loop_sound {nt : Nat} {c : Code} {b : AC} {Q : Exit → Act → World → Prop}
    (hb : ∀ (Q : Exit → Act → World → Prop) (fr : T AV) (e : Env) (a : Act) (ex : Ex) (fr' : T AV) (h' : H), evC call b fr e.h = .ok ex fr' h' → St e → FrRel e fr a.tmps → GRel G e → a.tmps.size = nt → Post nt Q e a ex fr' h' → c.wp P Q a e.w) :
    ∀ (n : Nat) (fr : T AV) (e : Env) (a : Act) (ex : Ex) (fr' : T AV) (h' : H),
      loopA (evC call b) n fr e.h = .ok ex fr' h' →
      St e → FrRel e fr a.tmps → GRel G e → a.tmps.size = nt → Post nt Q e a ex fr' h' → Code.rounds P c Q n a e.w := by
  intro n
  induction n with
  | zero => intro fr e a ex fr' h' hr; cases hr
  | succ n ih =>
    intro fr e a ex fr' h' hr hs hf hg hsz kq
    rw [rounds_succ]
    have hr : (CR.rec .no (fun e fr h => Ex.rec (loopA (evC call b) n fr h) (fun id => .ok (.exit id) fr h) (.ok .ret fr h) e) (evC call b fr e.h) : CR) = .ok ex fr' h' := hr
    cases hev : evC call b fr e.h with
    | no => rw [hev] at hr; cases hr
    | ok ex1 fr1 h1 =>
      rw [hev] at hr
      refine hb _ fr e a ex1 fr1 h1 hev hs hf hg hsz (fun a1 e1 he1 hs1 hx1 hf1 hsz1 hd1 => ?_)
      subst he1
      cases ex1 with
      | normal => exact ih fr1 e1 a1 ex fr' h' hr hs1 hf1 (hg.ext hx1) hsz1 (kq.ext hx1 hd1)
      | exit id =>
        injection (show CR.ok (.exit id) fr1 e1.h = .ok ex fr' h' from hr) with g1 g2 g3
        subst g1 g2
        exact kq a1 e1 g3 hs1 hx1 hf1 hsz1 hd1
      | ret =>
        injection (show CR.ok .ret fr1 e1.h = .ok ex fr' h' from hr) with g1 g2 g3
        subst g1 g2
        exact kq a1 e1 g3 hs1 hx1 hf1 hsz1 hd1

theorem evC_sound (hm : P.follows .mixedOrders = true) (hk : CallOK P G call) {nt : Nat} : ∀ (c : Code) (Q : Exit → Act → World → Prop) (fr : T AV) (e : Env) (a : Act) (ex : Ex) (fr' : T AV) (h' : H),
    evC call (compC P G nt c) fr e.h = .ok ex fr' h' → St e → FrRel e fr a.tmps → GRel G e → a.tmps.size = nt → Post nt Q e a ex fr' h' → c.wp P Q a e.w := by
  intro c
  induction c with
  | skip =>
    intro Q fr e a ex fr' h' hr hs hf hg hsz kq
    injection (show CR.ok .normal fr e.h = .ok ex fr' h' from hr) with g1 g2 g3
    subst g1 g2
    exact wp_skip (kq a e g3 hs (Ext.refl e) hf hsz rfl)
  | exit id =>
    intro Q fr e a ex fr' h' hr hs hf hg hsz kq
    injection (show CR.ok (.exit id) fr e.h = .ok ex fr' h' from hr) with g1 g2 g3
    subst g1 g2
    exact wp_exit (kq a e g3 hs (Ext.refl e) hf hsz rfl)
  | ret =>
    intro Q fr e a ex fr' h' hr hs hf hg hsz kq
    injection (show CR.ok .ret fr e.h = .ok ex fr' h' from hr) with g1 g2 g3
    subst g1 g2
    exact wp_ret (kq a e g3 hs (Ext.refl e) hf hsz rfl)
  | region rid ops d =>
    intro Q fr e a ex fr' h' hr hs hf hg hsz kq
    simp only [compC] at hr
    obtain ⟨hlen, hnum⟩ := number_spec (ops.toList.map (compO P G nt ops)) 0
    generalize hln : number (ops.toList.map (compO P G nt ops)) 0 = q at hr hlen hnum
    obtain ⟨l, na⟩ := q
    simp only at hr hlen hnum
    have hlen' : l.length = ops.size := by rw [hlen]; simp
    have hio : ∀ (i : Nat) (ao : AO), l[i]? = some ao → ∃ o, ops[i]? = some o ∧ IsO P G nt ops ao o := by
      intro i ao hi
      obtain ⟨o', k', h1, h2⟩ := hnum i ao hi
      rw [List.getElem?_map] at h1
      cases ho : ops.toList[i]? with
      | none => rw [ho] at h1; cases h1
      | some o =>
        rw [ho] at h1
        simp only [Option.map_some, Option.some.injEq] at h1
        subst h1
        exact ⟨o, by simpa using ho, k', h2⟩
    cases d with
    | false =>
      have hr : (FR.rec .no (fun fr h => .ok .normal fr h) (evOps call e.h.next l fr ⟨Nat.add e.h.next na, e.h.t⟩) : CR) = .ok ex fr' h' := hr
      cases hev : evOps call e.h.next l fr ⟨Nat.add e.h.next na, e.h.t⟩ with
      | no => rw [hev] at hr; cases hr
      | ok fr1 h1 =>
        rw [hev] at hr
        injection (show CR.ok .normal fr1 h1 = .ok ex fr' h' from hr) with g1 g2 g3
        subst g1 g2 g3
        refine wp_region (evOps_sound hk Q l (List.range ops.size) (by simp [hlen']) (fun q ao i h1 h2 => ?_) e.h.next fr (e.bump na) a fr1 h1 hev (bump_st hs na) hs.lo (hf.ext (bump_ext e na)) (hg.ext (bump_ext e na)) hsz ?_)
        · have hq : q < ops.size := by rw [← hlen']; exact (List.getElem?_eq_some_iff.1 h1).1
          rw [List.getElem?_range hq] at h2
          obtain rfl := Option.some.inj h2
          exact hio q ao h1
        · intro a' e' h1 h2 h3 h4 h5 h6
          exact kq a' e' h1 h2 ((bump_ext e na).trans h3) h4 h5 h6
    | true =>
      simp only [Bool.not_true, Bool.false_eq_true, if_false] at hr
      by_cases hcd : chkD na ops.toList (predsGo ops.toList []) l = true
      · rw [if_pos hcd] at hr
        have hr : (Option.rec .no (fun q => .ok .normal q.1 q.2) (evDreg call na (drawOf (predsGo ops.toList []) l) fr e.h) : CR) = .ok ex fr' h' := hr
        cases hev : evDreg call na (drawOf (predsGo ops.toList []) l) fr e.h with
        | none => rw [hev] at hr; cases hr
        | some q =>
          rw [hev] at hr
          injection (show CR.ok .normal q.1 q.2 = .ok ex fr' h' from hr) with g1 g2 g3
          subst g1 g2 g3
          exact dreg_sound hm hk hlen' hcd hio (fr' := q.1) (h' := q.2) hev hs hf hg hsz kq
      · rw [if_neg hcd] at hr; cases hr
  | seq x y ihx ihy =>
    intro Q fr e a ex fr' h' hr hs hf hg hsz kq
    have hr : (CR.rec .no (fun e fr h => Ex.rec (evC call (compC P G nt y) fr h) (fun id => .ok (.exit id) fr h) (.ok .ret fr h) e) (evC call (compC P G nt x) fr e.h) : CR) = .ok ex fr' h' := hr
    cases hev : evC call (compC P G nt x) fr e.h with
    | no => rw [hev] at hr; cases hr
    | ok ex1 fr1 h1 =>
      rw [hev] at hr
      refine wp_seq (ihx _ fr e a ex1 fr1 h1 hev hs hf hg hsz (fun a1 e1 he1 hs1 hx1 hf1 hsz1 hd1 => ?_))
      subst he1
      cases ex1 with
      | normal => exact ihy Q fr1 e1 a1 ex fr' h' hr hs1 hf1 (hg.ext hx1) hsz1 (kq.ext hx1 hd1)
      | exit id =>
        injection (show CR.ok (.exit id) fr1 e1.h = .ok ex fr' h' from hr) with g1 g2 g3
        subst g1 g2
        exact kq a1 e1 g3 hs1 hx1 hf1 hsz1 hd1
      | ret =>
        injection (show CR.ok .ret fr1 e1.h = .ok ex fr' h' from hr) with g1 g2 g3
        subst g1 g2
        exact kq a1 e1 g3 hs1 hx1 hf1 hsz1 hd1
  | cond c x y ihx ihy =>
    intro Q fr e a ex fr' h' hr hs hf hg hsz kq
    simp only [compC] at hr
    cases hc : od G c with
    | none => rw [hc] at hr; cases hr
    | some c' =>
      rw [hc] at hr
      have rc := od_rel hf hg hc
      have hr : (match ev c' fr with
        | .b t => cd t (evC call (compC P G nt x) fr e.h) (evC call (compC P G nt y) fr e.h)
        | _ => .no : CR) = .ok ex fr' h' := hr
      generalize ev c' fr = u at hr rc
      cases u with
      | b t =>
        simp only [Rel] at rc
        cases t with
        | true => exact wp_cond_true rc (ihx Q fr e a ex fr' h' hr hs hf hg hsz kq)
        | false => exact wp_cond_false rc (ihy Q fr e a ex fr' h' hr hs hf hg hsz kq)
      | _ => cases hr
  | block id b ih =>
    intro Q fr e a ex fr' h' hr hs hf hg hsz kq
    have hr : (CR.rec .no (fun e fr h => Ex.rec (.ok .normal fr h) (fun j => cd (Nat.beq j id) (.ok .normal fr h) (.ok (.exit j) fr h)) (.ok .ret fr h) e) (evC call (compC P G nt b) fr e.h) : CR) = .ok ex fr' h' := hr
    cases hev : evC call (compC P G nt b) fr e.h with
    | no => rw [hev] at hr; cases hr
    | ok ex1 fr1 h1 =>
      rw [hev] at hr
      refine wp_block (ih _ fr e a ex1 fr1 h1 hev hs hf hg hsz (fun a1 e1 he1 hs1 hx1 hf1 hsz1 hd1 => ?_))
      subst he1
      cases ex1 with
      | normal =>
        injection (show CR.ok .normal fr1 e1.h = .ok ex fr' h' from hr) with g1 g2 g3
        subst g1 g2
        exact kq a1 e1 g3 hs1 hx1 hf1 hsz1 hd1
      | exit j =>
        have hr : cd (Nat.beq j id) (.ok .normal fr1 e1.h) (.ok (.exit j) fr1 e1.h) = CR.ok ex fr' h' := hr
        show (if j = id then Q .normal a1 e1.w else Q (.exit j) a1 e1.w)
        cases hj : Nat.beq j id with
        | true =>
          rw [hj] at hr
          rw [if_pos (Nat.eq_of_beq_eq_true hj)]
          injection (show CR.ok .normal fr1 e1.h = .ok ex fr' h' from hr) with g1 g2 g3
          subst g1 g2
          exact kq a1 e1 g3 hs1 hx1 hf1 hsz1 hd1
        | false =>
          rw [hj] at hr
          rw [if_neg (fun h => by rw [h, Nat.beq_refl] at hj; cases hj)]
          injection (show CR.ok (.exit j) fr1 e1.h = .ok ex fr' h' from hr) with g1 g2 g3
          subst g1 g2
          exact kq a1 e1 g3 hs1 hx1 hf1 hsz1 hd1
      | ret =>
        injection (show CR.ok .ret fr1 e1.h = .ok ex fr' h' from hr) with g1 g2 g3
        subst g1 g2
        exact kq a1 e1 g3 hs1 hx1 hf1 hsz1 hd1
  | loop b ih =>
    intro Q fr e a ex fr' h' hr hs hf hg hsz kq
    exact wp_loop_rounds manyRounds (loop_sound ih manyRounds fr e a ex fr' h' hr hs hf hg hsz kq)
  | rangeFunc f ps x y =>
    intro Q fr e a ex fr' h' hr
    cases hr
  | _ =>
    intro Q fr e a ex fr' h' hr
    cases hr

end
end Go.Ev

/- Functions are sound. -/
namespace Go.Ev
section
variable {P : Program} {G : Nat → Option (List AV)}

theorem argsFrom_get : ∀ (l : List AV) (i : Nat) (t : T AV) (k : Nat), getV (argsFrom l i t) (path k) = if i ≤ k ∧ k < i + l.length then l.getD (k - i) undefA else getV t (path k)
  | [], i, t, k => by
    rw [if_neg (by simp)]; rfl
  | x :: l, i, t, k => by
    have ih := argsFrom_get l (i + 1) (T.set (path i) x t) k
    have : argsFrom (x :: l) i t = argsFrom l (i + 1) (T.set (path i) x t) := rfl
    rw [this, ih, getV_set]
    by_cases h1 : i + 1 ≤ k ∧ k < i + 1 + l.length
    · rw [if_pos h1, if_pos (by simp only [List.length_cons]; omega)]
      have : k - i = (k - (i + 1)) + 1 := by omega
      rw [this]
      simp
    · rw [if_neg h1]
      by_cases h2 : k = i
      · subst h2
        rw [if_pos rfl, if_pos (by simp only [List.length_cons]; omega)]
        simp
      · rw [if_neg (fun h => h2 (path_inj h)), if_neg (by simp only [List.length_cons]; omega)]

theorem getV_e (p : List Bool) : getV (T.e : T AV) p = undefA := by unfold getV; rw [T.get_e]

theorem args_rel {e : Env} {args : List AV} {vs : List Value} (h : RelL e args vs) (n : Nat) : FrRel e (argsFrom args 0 .e) (vs.toArray ++ Array.replicate n undef) := by
  intro k
  rw [argsFrom_get, getV_e]
  have hl := h.len
  by_cases hk : k < args.length
  · rw [if_pos (by omega), Array.getD_eq_getD_getElem?, Array.getElem?_append_left (by simp; omega)]
    simp only [Nat.sub_zero]
    obtain ⟨x, hx⟩ : ∃ x, args[k]? = some x := ⟨_, List.getElem?_eq_getElem hk⟩
    obtain ⟨v, hv, hr⟩ := h.get hx
    rw [List.getD_eq_getElem?_getD, hx]
    simp only [List.getElem?_toArray, hv, Option.getD_some]
    exact hr
  · rw [if_neg (by omega), Array.getD_eq_getD_getElem?, Array.getElem?_append_right (by simp; omega), Array.getElem?_replicate]
    split
    · exact rel_undef e
    · exact rel_undef e

def resV (tmps : Array Value) : ResultVar → Sem Value
  | .tmp t => pure (tmps.getD t undef)
  | .cell a t => do loadVar t (← asAddr (tmps.getD a undef))

theorem resL_sound {e : Env} {tmps : Array Value} (hs : St e) {fr : T AV} (hf : FrRel e fr tmps) : ∀ {rs : List ResultVar} {res : List (List Bool × Option (Option Nat))} {vs : List AV},
    compResL P rs = some res → resOf res fr e.h = some vs → ∃ cvs : List Value, (rs.mapM (resV tmps)).run P e.w = .ok cvs e.w ∧ RelL e vs cvs
  | [], res, vs, hc, hr => by
    simp only [compResL, Option.some.injEq] at hc; subst hc
    obtain rfl := Option.some.inj (show some [] = some vs from hr)
    exact ⟨[], by simp, by simp [RelL]⟩
  | r :: rs, res, vs, hc, hr => by
    simp only [compResL] at hc
    split at hc
    · rename_i x xs hx hxs
      simp only [Option.some.injEq] at hc; subst hc
      have hr : (match resOf xs fr e.h with
        | none => none
        | some r => match x.2 with
          | none => some (getV fr x.1 :: r)
          | some none => match cellAt (getV fr x.1) e.h with
            | some v => some (v :: r)
            | none => none
          | some (some n) => match cellsAt (getV fr x.1) n e.h with
            | some l => some (.ag l :: r)
            | none => none : Option (List AV)) = some vs := hr
      cases hrest : resOf xs fr e.h with
      | none => rw [hrest] at hr; cases hr
      | some us =>
        rw [hrest] at hr
        obtain ⟨cvs, h1, h2⟩ := resL_sound hs hf hxs hrest
        have fin : ∀ (u : AV) (cv : Value), (resV tmps r).run P e.w = .ok cv e.w → Rel e u cv → vs = u :: us → ∃ cvs : List Value, ((r :: rs).mapM (resV tmps)).run P e.w = .ok cvs e.w ∧ RelL e vs cvs := by
          intro u cv g1 g2 g3
          refine ⟨cv :: cvs, ?_, by rw [g3]; simp only [RelL]; exact ⟨g2, h2⟩⟩
          rw [List.mapM_cons]
          simp only [Sem.run_bind, g1, Result.andThen_ok, h1, Sem.run_pure]
        cases r with
        | tmp t =>
          simp only [compRes, Option.some.injEq] at hx; subst hx
          obtain rfl := Option.some.inj (show some (getV fr (mkPath t) :: us) = some vs from hr)
          refine fin _ (tmps.getD t undef) (by simp [resV]) ?_ rfl
          rw [mkPath_eq]; exact hf t
        | cell a t =>
          simp only [compRes] at hx
          obtain ⟨ag, hag, hx⟩ := bind_inv hx
          obtain ⟨n, hn, rfl⟩ := map_inv hx
          have rx := hf a
          rw [← mkPath_eq] at rx
          cases ag with
          | false =>
            simp only [Bool.false_eq_true, if_false] at hr
            split at hr
            · rename_i v hv
              obtain rfl := Option.some.inj hr
              obtain ⟨ad, u, hcv, hu, hru, _⟩ := ptr_cell hs rx hv
              refine fin _ u ?_ hru rfl
              simp [resV, asAddr, hcv, loadVar, run_isAgg hag, hu]
            · cases hr
          | true =>
            simp only [if_true] at hr
            split at hr
            · rename_i l hl
              obtain rfl := Option.some.inj hr
              rcases Nat.eq_zero_or_pos n with hz | hz
              · subst hz
                have hl0 : l = [] := by
                  rcases cellsAt_inv hl with ⟨_, _, _, _, _, _, _, hcut⟩ | ⟨_, _, _, hcut⟩ <;> exact List.eq_nil_of_length_eq_zero (cut_get hcut).1
                subst hl0
                have hcv : ∃ ad, tmps.getD a undef = .pointer (some ad) := by
                  rcases cellsAt_inv hl with ⟨i, off, _, _, _, hx, _⟩ | ⟨cs, off, hx, _⟩
                  · rw [hx] at rx; exact ⟨_, (rel_p rx).2⟩
                  · rw [hx] at rx; simp only [Rel] at rx; obtain ⟨b, o', h, _⟩ := rx; exact ⟨_, h⟩
                obtain ⟨ad, hcv⟩ := hcv
                refine fin _ (.agg #[]) ?_ (by simp only [Rel]; exact ⟨by simp, #[], rfl, by simp [RelL]⟩) rfl
                simp [resV, asAddr, hcv, loadVar, run_isAgg hag, run_size hn, loadCells, loadCellsFrom]
              · obtain ⟨b, o', hcv, hlen, hcell⟩ := ptr_cells hs rx hl hz
                obtain ⟨ws, hrel, hvl, hvs⟩ := relL_of l (fun j => e.w.cell? ⟨b, o' + j, none⟩) (fun j y hy => (hcell j y hy).2)
                have hone : ∀ c ∈ l, one c = true := fun c hc => by
                  obtain ⟨j, hj⟩ := List.mem_iff_getElem?.1 hc
                  exact (hcell j c hj).1
                refine fin _ (.agg ws.toArray) ?_ (by simp only [Rel]; exact ⟨hone, ws.toArray, rfl, hrel⟩) rfl
                have hrun := run_loadCells_at (P := P) b o' ws hvs
                rw [hvl, hlen] at hrun
                simp [resV, asAddr, hcv, loadVar, run_isAgg hag, run_size hn, hrun]
            · cases hr
    · cases hc

theorem results_sound {e : Env} {fn : Func} {tmps : Array Value} (hs : St e) {fr : T AV} (hf : FrRel e fr tmps) {res : List (List Bool × Option (Option Nat))} {vs : List AV} {r : AV} {h' : H}
    (hc : compResL P fn.results.toList = some res) (hr : resOf res fr e.h = some vs) (h1 : ret1 e.h vs = .ok r h') : h' = e.h ∧ ∃ cv, (results fn tmps).run P e.w = .ok cv e.w ∧ Rel e r cv := by
  obtain ⟨cvs, h2, h3⟩ := resL_sound hs hf hc hr
  have hm : (fn.results.mapM (resV tmps)).run P e.w = .ok cvs.toArray e.w := by
    rw [Array.mapM_eq_mapM_toList]
    simp only [map_eq_pure_bind, Sem.run_bind]
    rw [h2]
    simp
  have hres : (results fn tmps).run P e.w = .ok (if h : cvs.toArray.size = 1 then cvs.toArray[0] else .tuple cvs.toArray) e.w := by
    unfold results
    rw [Sem.run_bind]
    have : ∀ f g : ResultVar → Sem Value, f = g → (fn.results.mapM f).run P e.w = (fn.results.mapM g).run P e.w := fun f g h => by rw [h]
    refine (congrArg (fun x => Result.andThen x _) ((this _ _ ?_).trans hm)).trans ?_
    · funext r; cases r <;> rfl
    · simp
  unfold ret1 at h1
  split at h1
  · rename_i v
    injection h1 with g1 g2
    subst g1
    refine ⟨g2.symm, ?_⟩
    have hl := h3.len
    obtain ⟨cv, rfl⟩ : ∃ cv, cvs = [cv] := by
      match cvs, hl with
      | [cv], _ => exact ⟨cv, rfl⟩
      | [], h => simp at h
      | _ :: _ :: _, h => simp at h
    simp only [RelL] at h3
    exact ⟨cv, by rw [hres]; rfl, h3.1⟩
  · rename_i hne
    injection h1 with g1 g2
    subst g1
    refine ⟨g2.symm, .tuple cvs.toArray, ?_, by simp only [Rel]; exact ⟨cvs.toArray, rfl, h3⟩⟩
    rw [hres, dif_neg]
    intro h
    have hlen := h3.len
    simp only [List.size_toArray] at h
    have hl1 : vs.length = 1 := hlen.symm.trans h
    match vs, hne, hl1 with
    | [v], hne, _ => exact hne v rfl

/-- What a table of functions must be. -/
structure Tbl (P : Program) (G : Nat → Option (List AV)) (tbl : Nat → FT) : Prop where
  code : ∀ f af, tbl f = .code af → ∃ fn, P.funcs[f]? = some fn ∧ compF P G fn = some af ∧ (fn.name == "runtime.NumGoroutine") = false
  ext : ∀ f g, tbl f = .ext g → ∀ args v e vs, g args = some v → St e → GRel G e → RelL e args vs →
    Does P f vs.toArray e.w (fun cv w' => ∃ e', e'.w = w' ∧ e'.h = e.h ∧ St e' ∧ Ext e e' ∧ Rel e' v cv)
  exth : ∀ f g, tbl f = .exth g → ∀ args v e vs, g args e.h = some v → St e → GRel G e → RelL e args vs →
    Does P f vs.toArray e.w (fun cv w' => ∃ e', e'.w = w' ∧ e'.h = e.h ∧ St e' ∧ Ext e e' ∧ Rel e' v cv)

theorem evF_sound (hm : P.follows .mixedOrders = true) {tbl : Nat → FT} (ht : Tbl P G tbl) : ∀ n, CallOK P G (evF tbl n) := by
  intro n
  induction n with
  | zero => intro f args r h' e vs hr; cases hr
  | succ n ih =>
    intro f args r h' e vs hr hs hg hrel
    have hr : (FT.rec .no
      (fun fn => cd (Nat.ble (len args) fn.np) (CR.rec .no (fun e fr h => Ex.rec (Option.rec .no (ret1 h) (resOf fn.res fr h)) (fun _ => .no) (Option.rec .no (ret1 h) (resOf fn.res fr h)) e)
        (evC (evF tbl n) fn.body (argsFrom args 0 .e) e.h)) .no)
      (fun g => Option.rec .no (fun v => .ok v e.h) (g args)) (fun g => Option.rec .no (fun v => .ok v e.h) (g args e.h)) (tbl f) : R) = .ok r h' := hr
    cases htf : tbl f with
    | none => rw [htf] at hr; cases hr
    | ext g =>
      rw [htf] at hr
      have hr : (Option.rec .no (fun v => .ok v e.h) (g args) : R) = .ok r h' := hr
      cases hga : g args with
      | none => rw [hga] at hr; cases hr
      | some v =>
        rw [hga] at hr
        injection (show R.ok v e.h = .ok r h' from hr) with g1 g2
        subst g1 g2
        exact ht.ext f g htf args v e vs hga hs hg hrel
    | exth g =>
      rw [htf] at hr
      have hr : (Option.rec .no (fun v => .ok v e.h) (g args e.h) : R) = .ok r h' := hr
      cases hga : g args e.h with
      | none => rw [hga] at hr; cases hr
      | some v =>
        rw [hga] at hr
        injection (show R.ok v e.h = .ok r h' from hr) with g1 g2
        subst g1 g2
        exact ht.exth f g htf args v e vs hga hs hg hrel
    | code af =>
      rw [htf] at hr
      obtain ⟨fn, hfn, hcf, hname⟩ := ht.code f af htf
      unfold compF at hcf
      obtain ⟨b, hb, hcf⟩ := bind_inv hcf
      obtain ⟨res, hres, rfl⟩ := map_inv hcf
      have hr : cd (Nat.ble (len args) fn.ntmps) (CR.rec .no (fun e fr h => Ex.rec (Option.rec .no (ret1 h) (resOf res fr h)) (fun _ => .no) (Option.rec .no (ret1 h) (resOf res fr h)) e)
        (evC (evF tbl n) (compC P G fn.ntmps b) (argsFrom args 0 .e) e.h)) .no = R.ok r h' := hr
      cases hle : Nat.ble (len args) fn.ntmps with
      | false => rw [hle] at hr; cases hr
      | true =>
        rw [hle] at hr
        have hle := Nat.le_of_ble_eq_true hle
        rw [len_eq] at hle
        have hlv := hrel.len
        have hr : (CR.rec .no (fun e fr h => Ex.rec (Option.rec .no (ret1 h) (resOf res fr h)) (fun _ => .no) (Option.rec .no (ret1 h) (resOf res fr h)) e)
          (evC (evF tbl n) (compC P G fn.ntmps b) (argsFrom args 0 .e) e.h) : R) = .ok r h' := hr
        cases hev : evC (evF tbl n) (compC P G fn.ntmps b) (argsFrom args 0 .e) e.h with
        | no => rw [hev] at hr; cases hr
        | ok ex fr' h1 =>
          rw [hev] at hr
          right
          have hname' : ¬ fn.name = "runtime.NumGoroutine" := by simpa using hname
          refine ⟨by simp [callFunc, hfn, hname', hb], ?_⟩
          refine calls_of_wp hfn hb (evC_sound hm ih b _ _ e _ ex fr' h1 hev hs (args_rel hrel _) hg (by simp; omega) (fun a' e' he' hs' hx' hf' _ hd' => ?_))
          subst he'
          have key : (Option.rec .no (ret1 e'.h) (resOf res fr' e'.h) : R) = .ok r h' → a'.defers = [] ∧ ∃ v, (results fn a'.tmps).run P e'.w = .ok v e'.w ∧ ∃ v', Ending.returned v = .returned v' ∧ ∃ e2, e2.w = e'.w ∧ e2.h = h' ∧ St e2 ∧ Ext e e2 ∧ Rel e2 r v' := by
            intro hr
            cases hro : resOf res fr' e'.h with
            | none => rw [hro] at hr; cases hr
            | some us =>
              rw [hro] at hr
              obtain ⟨h2, cv, h3, h4⟩ := results_sound (fn := fn) hs' hf' hres hro (show ret1 e'.h us = .ok r h' from hr)
              exact ⟨hd', cv, h3, cv, rfl, e', rfl, h2.symm, hs', hx', h4⟩
          cases ex with
          | normal => exact key hr
          | exit id => cases hr
          | ret => exact key hr
end
end Go.Ev

/- A run from an empty heap, told once: its result, with the blocks it made as immutable ones, is what every later call with the same plain arguments gives. -/
namespace Go.Ev

/-- Values that speak of no block. -/
def plain : AV → Bool
  | .i .. | .b _ | .s .. => true
  | _ => false

theorem plain_rel {e e' : Env} {x : AV} {v : Value} (hp : plain x = true) (h : Rel e x v) : Rel e' x v := by
  cases x <;> simp only [plain, Bool.false_eq_true] at hp <;> simpa only [Rel] using h

theorem plain_relL {e e' : Env} : ∀ {xs : List AV} {vs : List Value}, xs.all plain = true → RelL e xs vs → RelL e' xs vs
  | [], [], _, _ => by simp [RelL]
  | [], _ :: _, _, h => by simp [RelL] at h
  | _ :: _, [], _, h => by simp [RelL] at h
  | x :: xs, v :: vs, hp, h => by
    simp only [List.all_cons, Bool.and_eq_true] at hp
    simp only [RelL] at h ⊢
    exact ⟨plain_rel hp.1 h.1, plain_relL hp.2 h.2⟩

theorem plain_cells {e e' : Env} (hw : e'.w = e.w) : ∀ {xs : List AV} {b o : Nat}, xs.all plain = true → RelCells e xs b o → RelCells e' xs b o
  | [], _, _, _, _ => by simp [RelCells]
  | x :: xs, b, o, hp, h => by
    simp only [List.all_cons, Bool.and_eq_true] at hp
    simp only [RelCells] at h ⊢
    obtain ⟨⟨h1, v, h2, h3⟩, h4⟩ := h
    exact ⟨⟨h1, v, by rw [hw]; exact h2, plain_rel hp.1 h3⟩, plain_cells hw hp.2 h4⟩

theorem plain_ip {e e' : Env} {cs : List AV} {off : Nat} {v : Value} (hp : cs.all plain = true) (hi : ∀ b, Imm e b → Imm e' b) (hw : e'.w = e.w) (h : Rel e (.ip cs off) v) : Rel e' (.ip cs off) v := by
  simp only [Rel] at h ⊢
  obtain ⟨b, o, hv, h1, h2⟩ := h
  exact ⟨b, o, hv, hi b h1, plain_cells hw hp h2⟩

def mapO {α β : Type} (f : α → Option β) : List α → Option (List β)
  | [] => some []
  | x :: xs => match f x with
    | some y => match mapO f xs with
      | some ys => some (y :: ys)
      | none => none
    | none => none

def rows (sz : Nat) : Nat → List AV → List (List AV)
  | 0, _ => []
  | n + 1, l => l.take sz :: rows sz n (l.drop sz)

/-- A value whose blocks are read out of a heap, as immutable ones. -/
noncomputable def frz (h : H) : Nat → AV → Option AV
  | 0, _ => none
  | k + 1, x => match x with
    | .i a b => some (.i a b)
    | .b a => some (.b a)
    | .s a b => some (.s a b)
    | .v a => some (.v a)
    | .em => some .em
    | .sl id off sz n _ _ => match n with
      | 0 => some (.isl sz [])
      | n + 1 => match h.get id with
        | some (.cs _ l _) => match cut l off ((n + 1) * sz) with
          | some cs => match mapO (frz h k) cs with
            | some ds => some (.isl sz (rows sz (n + 1) ds))
            | none => none
          | none => none
        | _ => none
    | .ag cs => match mapO (frz h k) cs with
      | some ds => some (.ag ds)
      | none => none
    | .tu cs => match mapO (frz h k) cs with
      | some ds => some (.tu ds)
      | none => none
    | _ => none

theorem mapO_get {α β : Type} {f : α → Option β} : ∀ {l : List α} {r : List β}, mapO f l = some r → r.length = l.length ∧ ∀ (j : Nat) (y : β), r[j]? = some y → ∃ x, l[j]? = some x ∧ f x = some y
  | [], r, h => by simp only [mapO, Option.some.injEq] at h; subst h; exact ⟨rfl, fun j y hy => by simp at hy⟩
  | x :: xs, r, h => by
    simp only [mapO] at h
    split at h
    · rename_i y hy
      split at h
      · rename_i ys hys
        simp only [Option.some.injEq] at h; subst h
        obtain ⟨h1, h2⟩ := mapO_get hys
        refine ⟨by simp [h1], fun j z hz => ?_⟩
        cases j with
        | zero => simp only [List.getElem?_cons_zero, Option.some.injEq] at hz; subst hz; exact ⟨x, by simp, hy⟩
        | succ j => simp only [List.getElem?_cons_succ] at hz ⊢; exact h2 j z hz
      · cases h
    · cases h

theorem frz_one {h : H} {k : Nat} {x y : AV} (hf : frz h k x = some y) (ho : one x = true) : one y = true := by
  cases k with
  | zero => simp [frz] at hf
  | succ k =>
    cases x <;> simp only [frz, one, Bool.false_eq_true, Option.some.injEq, reduceCtorEq] at hf ho <;> first
      | (subst hf; rfl)
      | (split at hf
         · simp only [Option.some.injEq] at hf; subst hf; rfl
         · split at hf
           · split at hf
             · split at hf
               · simp only [Option.some.injEq] at hf; subst hf; rfl
               · cases hf
             · cases hf
           · cases hf)

theorem relCells_of {e : Env} {b : Nat} : ∀ {l : List AV} {o : Nat}, (∀ j x, l[j]? = some x → one x = true ∧ ∃ v, e.w.cell? ⟨b, o + j, none⟩ = some v ∧ Rel e x v) → RelCells e l b o
  | [], _, _ => by simp [RelCells]
  | x :: xs, o, h => by
    simp only [RelCells]
    refine ⟨by have := h 0 x (by simp); simpa using this, relCells_of (fun j y hy => ?_)⟩
    have := h (j + 1) y (by simpa using hy)
    rw [show o + 1 + j = o + (j + 1) by omega]; exact this

theorem relRows_of {e : Env} {b sz : Nat} : ∀ (n : Nat) {l : List AV} {o : Nat}, l.length = n * sz → (∀ j x, l[j]? = some x → one x = true ∧ ∃ v, e.w.cell? ⟨b, o + j, none⟩ = some v ∧ Rel e x v) → RelRows e sz (rows sz n l) b o
  | 0, _, _, _, _ => by simp [rows, RelRows]
  | n + 1, l, o, hl, h => by
    have hl' : l.length = n * sz + sz := by rw [hl, Nat.succ_mul]
    simp only [rows, RelRows]
    refine ⟨by rw [List.length_take]; omega, relCells_of (fun j x hx => ?_), relRows_of n (by rw [List.length_drop]; omega) (fun j x hx => ?_)⟩
    · rw [List.getElem?_take] at hx
      split at hx
      · exact h j x hx
      · cases hx
    · rw [List.getElem?_drop] at hx
      have := h (sz + j) x hx
      rw [show o + sz + j = o + (sz + j) by omega]; exact this

theorem rows_len (sz : Nat) : ∀ (n : Nat) (l : List AV), (rows sz n l).length = n
  | 0, _ => rfl
  | n + 1, l => by simp [rows, rows_len sz n]

/-- The frozen value is the same value, where the blocks of the heap are immutable. -/
theorem frz_rel {e e' : Env} (hs : St e) (hw : e'.w = e.w) (hi : ∀ id, live e.h id → Imm e' (e.ρ id).1) : ∀ (k : Nat) (x y : AV) (v : Value), frz e.h k x = some y → Rel e x v → Rel e' y v := by
  intro k
  induction k with
  | zero => intro x y v hf; simp [frz] at hf
  | succ k ih =>
    intro x y v hf hr
    have hL : ∀ (cs ds : List AV) (vs : List Value), mapO (frz e.h k) cs = some ds → RelL e cs vs → RelL e' ds vs := by
      intro cs
      induction cs with
      | nil =>
        intro ds vs hm hrl
        simp only [mapO, Option.some.injEq] at hm; subst hm
        cases vs with
        | nil => simp [RelL]
        | cons => simp [RelL] at hrl
      | cons c cs ihc =>
        intro ds vs hm hrl
        simp only [mapO] at hm
        split at hm
        · rename_i d hd
          split at hm
          · rename_i ds' hds
            simp only [Option.some.injEq] at hm; subst hm
            cases vs with
            | nil => simp [RelL] at hrl
            | cons v vs =>
              simp only [RelL] at hrl ⊢
              exact ⟨ih _ _ _ hd hrl.1, ihc _ _ hds hrl.2⟩
          · cases hm
        · cases hm
    cases x <;> simp only [frz, Option.some.injEq, reduceCtorEq] at hf
    case i => subst hf; simpa only [Rel] using hr
    case b => subst hf; simpa only [Rel] using hr
    case s => subst hf; simpa only [Rel] using hr
    case v => subst hf; simpa only [Rel] using hr
    case em => subst hf; simpa only [Rel] using hr
    case sl id off sz n lo ex =>
      simp only [Rel] at hr
      obtain ⟨hk, a, cap, hv, h1, h2, h3, h4⟩ := hr
      split at hf
      · simp only [Option.some.injEq] at hf; subst hf
        simp only [Rel]
        exact ⟨a, cap, by simpa using hv, by simp, .inl trivial⟩
      · rename_i m
        split at hf
        · rename_i el l fz hg
          split at hf
          · rename_i cs hcut
            split at hf
            · rename_i ds hds
              simp only [Option.some.injEq] at hf; subst hf
              obtain ⟨c1, c2⟩ := cut_get hcut
              obtain ⟨d1, d2⟩ := mapO_get hds
              have hlive : live e.h id := ⟨_, hg, by simp⟩
              obtain ⟨c, fr, hb1, hb2, hb3, hb4, hb5⟩ := hs.blk id _ hg
              have h4' : a = ⟨(e.ρ id).1, (e.ρ id).2 + off, none⟩ := by
                rcases h4 with h4 | h4
                · omega
                · exact h4.1
              subst h4'
              simp only [Rel]
              refine ⟨_, cap, by rw [rows_len]; exact hv, by rw [rows_len]; omega, .inr ⟨rfl, hi id hlive, ?_⟩⟩
              refine relRows_of (m + 1) (by rw [d1, c1]) (fun j y hy => ?_)
              obtain ⟨x, hx, hxy⟩ := d2 j y hy
              have hx' : l[off + j]? = some x := by
                rw [← c2 j (by rw [← c1]; exact (List.getElem?_eq_some_iff.1 hx).1)]; exact hx
              obtain ⟨ho, u, hu, hru⟩ := hb3 _ _ hx'
              refine ⟨frz_one hxy ho, u, ?_, ih _ _ _ hxy hru⟩
              rw [hw]
              simp only [World.cell?, hb1]
              rw [show (e.ρ id).2 + off + j = (e.ρ id).2 + (off + j) by omega]
              simp [hu]
            · cases hf
          · cases hf
        · cases hf
    case ag cs =>
      split at hf
      · rename_i ds hds
        simp only [Option.some.injEq] at hf; subst hf
        simp only [Rel] at hr ⊢
        obtain ⟨ho, vs, hv, hrl⟩ := hr
        refine ⟨fun d hd => ?_, vs, hv, hL _ _ _ hds hrl⟩
        obtain ⟨j, hj⟩ := List.mem_iff_getElem?.1 hd
        obtain ⟨x, hx, hxy⟩ := (mapO_get hds).2 j d hj
        exact frz_one hxy (ho x (List.mem_iff_getElem?.2 ⟨j, hx⟩))
      · cases hf
    case tu cs =>
      split at hf
      · rename_i ds hds
        simp only [Option.some.injEq] at hf; subst hf
        simp only [Rel] at hr ⊢
        obtain ⟨vs, hv, hrl⟩ := hr
        exact ⟨vs, hv, hL _ _ _ hds hrl⟩
      · cases hf

section
variable {P : Program} {G : Nat → Option (List AV)}

theorem Does.mono {f : FuncId} {args : Array Value} {w : World} {R R' : Value → World → Prop} (h : Does P f args w R) (hi : ∀ v w', R v w' → R' v w') : Does P f args w R' := by
  rcases h with ⟨v, w', h1, h2⟩ | ⟨h1, h2⟩
  · exact .inl ⟨v, w', h1, hi v w' h2⟩
  · exact .inr ⟨h1, h2.mono (fun _ w' ⟨v, he, hR⟩ => ⟨v, he, hi v w' hR⟩)⟩

theorem memo_sound {call : CallF} (hk : CallOK P G call) (hG : ∀ g cs, G g = some cs → cs.all plain = true) {f : Nat} {args : List AV} {r v : AV} {h1 : H} {m : Nat} (hp : args.all plain = true)
    (hr : call f args ⟨0, .e⟩ = .ok r h1) (hz : frz h1 m r = some v) : ∀ e vs, St e → GRel G e → RelL e args vs →
    Does P f vs.toArray e.w (fun cv w' => ∃ e', e'.w = w' ∧ e'.h = e.h ∧ St e' ∧ Ext e e' ∧ Rel e' v cv) := by
  intro e vs hs hgr hrel
  let e0 : Env := ⟨fun _ => (0, 1), ⟨0, .e⟩, e.w, ⟨fun b => e.F.f b ∨ Own e b, 0⟩⟩
  have hno : ∀ id, e0.h.get id = none := fun id => by show T.get id .e = none; rw [T.get_e]
  have hkn : ∀ id, ¬ known e0 id := fun id h => by simp [known, e0] at h
  have hown0 : ∀ b, ¬ Own e0 b := fun b ⟨id, ⟨_, hb, _⟩, _⟩ => by rw [hno] at hb; cases hb
  have hs0 : St e0 := {
    kn := fun id h => absurd h (hkn id)
    dk := fun id b hb => by rw [hno] at hb; cases hb
    lo := Nat.le_refl 0
    blk := fun id b hb => by rw [hno] at hb; cases hb
    inj := fun id _ ⟨b, hb, _⟩ => by rw [hno] at hb; cases hb
    fr := fun b hb => ⟨hb.elim (fun h => (hs.fr b h).1) (fun ⟨id, hl, he⟩ => he ▸ hs.lt hl), hown0 b⟩ }
  have hg0 : GRel G e0 := fun g cs hg => ⟨plain_ip (e := e) (e' := e0) (hG g cs hg) (fun b hb => ⟨hb.1, fun h => h.elim hb.2.1 hb.2.2, hown0 b⟩) rfl (hgr g cs hg).1, (hgr g cs hg).2⟩
  refine Does.mono (hk f args r h1 e0 vs hr hs0 hg0 (plain_relL hp hrel)) ?_
  rintro cv w' ⟨e1, hw1, hh1, hs1, hx1, hr1⟩
  have hlt : ∀ id, live e.h id → (e.ρ id).1 < e.w.heap.size := fun id h => hs.lt h
  let e' : Env := ⟨e.ρ, e.h, w', e.F⟩
  have hkeep : ∀ b, b < e.w.heap.size → w'.heap[b]? = e.w.heap[b]? := fun b hb => by
    have := hx1.keep b hb (hown0 b)
    rw [hw1] at this; exact this
  have hx : Ext e e' := {
    next := Nat.le_refl _
    kn := fun _ h => h
    ren := fun _ _ => rfl
    fr := rfl
    qt := by have := hx1.qt; rw [hw1] at this; exact this
    heap := by have := hx1.heap; rw [hw1] at this; exact this
    keep := fun b hb _ => hkeep b hb
    size := fun b hb => by have := hx1.size b hb; rw [hw1] at this; exact this
    own := fun _ _ h => h
    pres := fun _ b h => ⟨b, h⟩
    newk := fun _ h => .inl h }
  have hs' : St e' := {
    kn := hs.kn
    dk := hs.dk
    lo := hs.lo
    blk := fun id b hb => by
      by_cases hd : b = .dead
      · subst hd; trivial
      · exact BlkRel.ext hx (hs.dk id b hb) (hkeep _ (hlt id ⟨b, hb, hd⟩)) b (hs.blk id b hb)
    inj := hs.inj
    fr := fun b hb => ⟨Nat.lt_of_lt_of_le (hs.fr b hb).1 hx.heap, (hs.fr b hb).2⟩ }
  refine ⟨e', rfl, rfl, hs', hx, ?_⟩
  refine frz_rel hs1 (by rw [hw1]) (fun id hl => ?_) m r v cv (by rw [hh1]; exact hz) hr1
  have hge : e.w.heap.size ≤ (e1.ρ id).1 := by
    rcases Nat.lt_or_ge (e1.ρ id).1 e.w.heap.size with h | h
    · exact absurd (hx1.own _ h ⟨id, hl, rfl⟩) (hown0 _)
    · exact h
  refine ⟨by have := hs1.lt hl; rw [hw1] at this; exact this, fun hF => ?_, fun ⟨id2, hl2, he2⟩ => ?_⟩
  · have := (hs.fr _ hF).1; omega
  · have := hlt id2 hl2
    have he2 : (e.ρ id2).1 = (e1.ρ id).1 := he2
    omega

/-- One more function of a table told by what was run. -/
theorem Tbl.memo {tbl : Nat → FT} (ht : Tbl P G tbl) {f0 : Nat} {g : List AV → Option AV}
    (hg : ∀ args v, g args = some v → ∀ e vs, St e → GRel G e → RelL e args vs → Does P f0 vs.toArray e.w (fun cv w' => ∃ e', e'.w = w' ∧ e'.h = e.h ∧ St e' ∧ Ext e e' ∧ Rel e' v cv)) :
    Tbl P G (fun f => cd (Nat.beq f f0) (.ext g) (tbl f)) where
  code := fun f af h => by
    cases hb : Nat.beq f f0 with
    | true => rw [hb] at h; cases h
    | false => rw [hb] at h; exact ht.code f af h
  ext := fun f g' h args v e vs hga hs hgr hrel => by
    cases hb : Nat.beq f f0 with
    | true =>
      rw [hb] at h
      have h : FT.ext g = FT.ext g' := h
      injection h with h
      subst h
      obtain rfl := Nat.eq_of_beq_eq_true hb
      exact hg args v hga e vs hs hgr hrel
    | false => rw [hb] at h; exact ht.ext f g' h args v e vs hga hs hgr hrel
  exth := fun f g' h args v e vs hga hs hgr hrel => by
    cases hb : Nat.beq f f0 with
    | true => rw [hb] at h; cases h
    | false => rw [hb] at h; exact ht.exth f g' h args v e vs hga hs hgr hrel

/-- One more function of a table, told by its arguments and the heap. -/
theorem Tbl.memoh {tbl : Nat → FT} (ht : Tbl P G tbl) {f0 : Nat} {g : List AV → H → Option AV}
    (hg : ∀ args v e vs, g args e.h = some v → St e → GRel G e → RelL e args vs → Does P f0 vs.toArray e.w (fun cv w' => ∃ e', e'.w = w' ∧ e'.h = e.h ∧ St e' ∧ Ext e e' ∧ Rel e' v cv)) :
    Tbl P G (fun f => cd (Nat.beq f f0) (.exth g) (tbl f)) where
  code := fun f af h => by
    cases hb : Nat.beq f f0 with
    | true => rw [hb] at h; cases h
    | false => rw [hb] at h; exact ht.code f af h
  ext := fun f g' h args v e vs hga hs hgr hrel => by
    cases hb : Nat.beq f f0 with
    | true => rw [hb] at h; cases h
    | false => rw [hb] at h; exact ht.ext f g' h args v e vs hga hs hgr hrel
  exth := fun f g' h args v e vs hga hs hgr hrel => by
    cases hb : Nat.beq f f0 with
    | true =>
      rw [hb] at h
      have h : FT.exth g = FT.exth g' := h
      injection h with h
      subst h
      obtain rfl := Nat.eq_of_beq_eq_true hb
      exact hg args v e vs hga hs hgr hrel
    | false => rw [hb] at h; exact ht.exth f g' h args v e vs hga hs hgr hrel
end
end Go.Ev

/- What the library's searches in strings give, for the kernel's evaluation; and that it is what the shelf's words say. -/
namespace Go.Ev

def U (l : List Nat) : List UInt8 := l.map UInt8.ofNat

theorem u8_eq {a b : Nat} (ha : a < 256) (hb : b < 256) : (UInt8.ofNat a == UInt8.ofNat b) = Nat.beq a b := by
  rw [Bool.eq_iff_iff, beq_iff_eq, Nat.beq_eq]
  constructor
  · intro h
    have := congrArg UInt8.toNat h
    simpa [UInt8.toNat_ofNat, Nat.mod_eq_of_lt ha, Nat.mod_eq_of_lt hb] using this
  · intro h; rw [h]

noncomputable def preB (a b : List Nat) : Bool :=
  List.rec (motive := fun _ => List Nat → Bool) (fun _ => true) (fun x _ ih => List.rec false (fun y ys _ => cd (Nat.beq x y) (ih ys) false)) a b

theorem preB_eq : ∀ (a b : List Nat), (∀ c ∈ a, c < 256) → (∀ c ∈ b, c < 256) → preB a b = (U a).isPrefixOf (U b)
  | [], b, _, _ => by simp [preB, U]
  | x :: a, [], _, _ => by simp [preB, U]
  | x :: a, y :: b, ha, hb => by
    have ih := preB_eq a b (fun c hc => ha c (List.mem_cons_of_mem _ hc)) (fun c hc => hb c (List.mem_cons_of_mem _ hc))
    have : preB (x :: a) (y :: b) = cd (Nat.beq x y) (preB a b) false := rfl
    rw [this, ih]
    have h := u8_eq (ha x (List.mem_cons_self ..)) (hb y (List.mem_cons_self ..))
    simp only [U, List.map_cons, List.isPrefixOf_cons_cons, h]
    cases Nat.beq x y <;> simp [cd]

noncomputable def idxS (a : List Nat) (l : List Nat) : Nat → Int :=
  List.rec (motive := fun _ => Nat → Int) (fun i => cd (preB a []) (.ofNat i) (.negSucc 0)) (fun x xs ih i => cd (preB a (x :: xs)) (.ofNat i) (ih (Nat.succ i))) l

theorem idxS_eq (a : List Nat) (ha : ∀ c ∈ a, c < 256) : ∀ (l : List Nat) (i : Nat), (∀ c ∈ l, c < 256) → idxS a l i = if Lib.index (U l) (U a) = -1 then -1 else (i : Int) + Lib.index (U l) (U a)
  | [], i, hl => by
    have : idxS a [] i = cd (preB a []) (.ofNat i) (.negSucc 0) := rfl
    rw [this, preB_eq a [] ha hl]
    cases a <;> simp [U, Lib.index, cd]
  | x :: l, i, hl => by
    have ih := idxS_eq a ha l (i + 1) (fun c hc => hl c (List.mem_cons_of_mem _ hc))
    have : idxS a (x :: l) i = cd (preB a (x :: l)) (.ofNat i) (idxS a l (i + 1)) := rfl
    rw [this, ih, preB_eq a (x :: l) ha hl]
    have hU : U (x :: l) = UInt8.ofNat x :: U l := rfl
    rw [hU]
    have hge := Lib.index_ge (U l) (U a)
    simp only [Lib.index]
    rcases Bool.eq_false_or_eq_true ((U a).isPrefixOf (UInt8.ofNat x :: U l)) with hp | hp
    · simp [hp, cd]
    · simp only [hp, cd, Bool.false_eq_true, if_false, beq_iff_eq]
      split
      · simp
      · rw [if_neg (by omega)]; push_cast; omega

theorem idxB_eq (c : Nat) (hc : c < 256) : ∀ (l : List Nat) (i : Nat), (∀ c ∈ l, c < 256) → idxB c l i = if Lib.indexByte (U l) (UInt8.ofNat c) = -1 then -1 else (i : Int) + Lib.indexByte (U l) (UInt8.ofNat c)
  | [], i, hl => by simp [idxB, U, Lib.indexByte]
  | x :: l, i, hl => by
    have ih := idxB_eq c hc l (i + 1) (fun c hc => hl c (List.mem_cons_of_mem _ hc))
    have : idxB c (x :: l) i = cd (Nat.beq x c) (.ofNat i) (idxB c l (i + 1)) := rfl
    rw [this, ih]
    have hU : U (x :: l) = UInt8.ofNat x :: U l := rfl
    have hge := Lib.indexByte_ge (U l) (UInt8.ofNat c)
    rw [hU]
    simp only [Lib.indexByte, u8_eq (hl x (List.mem_cons_self ..)) hc]
    cases Nat.beq x c with
    | true => simp [cd]
    | false =>
      simp only [cd, Bool.false_eq_true, if_false, beq_iff_eq]
      split
      · simp
      · rw [if_neg (by omega)]; push_cast; omega

theorem cntB_eq (c : Nat) (hc : c < 256) : ∀ (l : List Nat), (∀ c ∈ l, c < 256) → cntB c l = Lib.countByte (U l) (UInt8.ofNat c)
  | [], hl => by simp [cntB, U, Lib.countByte]
  | x :: l, hl => by
    have ih := cntB_eq c hc l (fun c hc => hl c (List.mem_cons_of_mem _ hc))
    have : cntB c (x :: l) = cd (Nat.beq x c) (Nat.succ (cntB c l)) (cntB c l) := rfl
    rw [this, ih]
    have hU : U (x :: l) = UInt8.ofNat x :: U l := rfl
    rw [hU]
    unfold Lib.countByte
    rw [List.count_cons, u8_eq (hl x (List.mem_cons_self ..)) hc]
    cases Nat.beq x c <;> simp [cd]

theorem index_ite (x : Int) : (if x = -1 then (-1 : Int) else ((0 : Nat) : Int) + x) = x := by split <;> omega

noncomputable def xIdxS (l : List AV) : Option AV := match l with
  | [.s n l, .s _ a] => cd (Nat.ble n 1000000) (some (.i .i64 (idxS a l 0))) none
  | _ => none
noncomputable def xIdxB (l : List AV) : Option AV := match l with
  | [.s _ l, .i .u8 (.ofNat c)] => cd (Nat.blt c 256) (some (.i .i64 (idxB c l 0))) none
  | _ => none
noncomputable def xCnt (l : List AV) : Option AV := match l with
  | [.s _ l, .s _ [c]] => some (.i .i64 (.ofNat (cntB c l)))
  | _ => none
noncomputable def xId (l : List AV) : Option AV := match l with
  | [x] => some x
  | _ => none

theorem strOf_list (l : List Nat) : (strOf l).data.toList = U l := by simp [strOf, U]

section
variable {P : Program} {G : Nat → Option (List AV)}

/-- A contract that leaves the world as it was. -/
theorem Does.of_calls {f : Nat} {vs : Array Value} {e : Env} {v : AV} {cv : Value} (he : ∀ args w, (callFunc f args).run P w = .ok (.enter f args) w)
    (hc : Calls P f vs e.w fun x w' => x = .returned cv ∧ w' = e.w) (hs : St e) (hr : Rel e v cv) :
    Does P f vs e.w (fun cv w' => ∃ e', e'.w = w' ∧ e'.h = e.h ∧ St e' ∧ Ext e e' ∧ Rel e' v cv) := by
  refine .inr ⟨he _ _, hc.mono ?_⟩
  rintro x w' ⟨rfl, rfl⟩
  exact ⟨cv, rfl, e, rfl, rfl, hs, Ext.refl e, hr⟩

theorem rel2 {e : Env} {x y : AV} {vs : List Value} (h : RelL e [x, y] vs) : ∃ u v, vs = [u, v] ∧ Rel e x u ∧ Rel e y v := by
  match vs, h with
  | [u, v], h => simp only [RelL] at h; exact ⟨u, v, rfl, h.1, h.2.1⟩
  | [], h => simp [RelL] at h
  | [_], h => simp [RelL] at h
  | _ :: _ :: _ :: _, h => simp [RelL] at h

theorem xIdxS_sound {f gM : Nat} {m : Int} (he : ∀ args w, (callFunc f args).run P w = .ok (.enter f args) w)
    (hc : ∀ (s sub : ByteArray) (m : Int) (w : World), s.size < 4294967281 → w.cell? ⟨gM, 0, none⟩ = some (.int .i64 m) →
      Calls P f #[.string s, .string sub] w fun e w' => e = .returned (.int .i64 (Lib.index s.data.toList sub.data.toList)) ∧ w' = w)
    (hG : G gM = some [.i .i64 m]) : ∀ args v, xIdxS args = some v → ∀ e vs, St e → GRel G e → RelL e args vs →
    Does P f vs.toArray e.w (fun cv w' => ∃ e', e'.w = w' ∧ e'.h = e.h ∧ St e' ∧ Ext e e' ∧ Rel e' v cv) := by
  intro args v hx e vs hs hg hr
  unfold xIdxS at hx
  split at hx
  · rename_i n l k a
    obtain ⟨u, u', rfl, h1, h2⟩ := rel2 hr
    simp only [Rel] at h1 h2
    obtain ⟨hn, hl, rfl⟩ := h1
    obtain ⟨_, ha, rfl⟩ := h2
    cases hb : Nat.ble n 1000000 with
    | false => rw [hb] at hx; cases hx
    | true =>
      rw [hb] at hx
      obtain rfl := Option.some.inj (show some (AV.i .i64 (idxS a l 0)) = some v from hx)
      have hle := Nat.le_of_ble_eq_true hb
      have hcell : e.w.cell? ⟨gM, 0, none⟩ = some (.int .i64 m) := by
        have := (hg gM _ hG).1
        simp only [Rel] at this
        obtain ⟨b, o, hv, hi, hcs⟩ := this
        simp only [RelCells] at hcs
        obtain ⟨⟨_, v, h1, h2⟩, _⟩ := hcs
        simp only [Rel] at h2
        injection hv with hv; injection hv with hv; injection hv with g1 g2
        subst g1 h2
        rw [show o = 0 by omega] at h1
        exact h1
      refine Does.of_calls he (hc (strOf l) (strOf a) m e.w ?_ hcell) hs ?_
      · have : (strOf l).size = l.length := by simp [strOf, ByteArray.size]
        omega
      · simp only [Rel]
        rw [idxS_eq a ha l 0 hl, index_ite, strOf_list, strOf_list]
  · cases hx

theorem xIdxB_sound {f : Nat} (he : ∀ args w, (callFunc f args).run P w = .ok (.enter f args) w)
    (hc : ∀ (s : ByteArray) (c : Int) (w : World), Calls P f #[.string s, .int .u8 c] w fun e w' => e = .returned (.int .i64 (Lib.indexByte s.data.toList c.toNat.toUInt8)) ∧ w' = w) :
    ∀ args v, xIdxB args = some v → ∀ e vs, St e → GRel G e → RelL e args vs →
    Does P f vs.toArray e.w (fun cv w' => ∃ e', e'.w = w' ∧ e'.h = e.h ∧ St e' ∧ Ext e e' ∧ Rel e' v cv) := by
  intro args v hx e vs hs hg hr
  unfold xIdxB at hx
  split at hx
  · rename_i n l c
    obtain ⟨u, u', rfl, h1, h2⟩ := rel2 hr
    simp only [Rel] at h1 h2
    obtain ⟨hn, hl, rfl⟩ := h1
    subst h2
    cases hb : Nat.blt c 256 with
    | false => rw [hb] at hx; cases hx
    | true =>
      rw [hb] at hx
      obtain rfl := Option.some.inj (show some (AV.i .i64 (idxB c l 0)) = some v from hx)
      have hlt : c < 256 := Nat.lt_succ_of_le (by simpa [Nat.blt] using hb)
      refine Does.of_calls he (hc (strOf l) (.ofNat c) e.w) hs ?_
      simp only [Rel]
      rw [idxB_eq c hlt l 0 hl, index_ite, strOf_list]
      rfl
  · cases hx

theorem xCnt_sound {f : Nat} (he : ∀ args w, (callFunc f args).run P w = .ok (.enter f args) w)
    (hc : ∀ (s : ByteArray) (c : UInt8) (w : World), Calls P f #[.string s, .string ⟨#[c]⟩] w fun e w' => e = .returned (.int .i64 (Lib.countByte s.data.toList c)) ∧ w' = w) :
    ∀ args v, xCnt args = some v → ∀ e vs, St e → GRel G e → RelL e args vs →
    Does P f vs.toArray e.w (fun cv w' => ∃ e', e'.w = w' ∧ e'.h = e.h ∧ St e' ∧ Ext e e' ∧ Rel e' v cv) := by
  intro args v hx e vs hs hg hr
  unfold xCnt at hx
  split at hx
  · rename_i n l k c
    obtain ⟨u, u', rfl, h1, h2⟩ := rel2 hr
    simp only [Rel] at h1 h2
    obtain ⟨hn, hl, rfl⟩ := h1
    obtain ⟨_, ha, rfl⟩ := h2
    obtain rfl := Option.some.inj hx
    refine Does.of_calls he (hc (strOf l) (UInt8.ofNat c) e.w) hs ?_
    simp only [Rel]
    rw [strOf_list, ← cntB_eq c (ha c (List.mem_cons_self ..)) l hl]
    rfl
  · cases hx

theorem xId_sound {f : Nat} (he : ∀ x w, (callFunc f #[x]).run P w = .ok (.value x) w) :
    ∀ args v, xId args = some v → ∀ e vs, St e → GRel G e → RelL e args vs →
    Does P f vs.toArray e.w (fun cv w' => ∃ e', e'.w = w' ∧ e'.h = e.h ∧ St e' ∧ Ext e e' ∧ Rel e' v cv) := by
  intro args v hx e vs hs hg hr
  unfold xId at hx
  split at hx
  · rename_i x
    obtain rfl := Option.some.inj hx
    match vs, hr with
    | [u], hr =>
      simp only [RelL] at hr
      exact .inl ⟨u, e.w, he u e.w, e, rfl, rfl, hs, Ext.refl e, hr.1⟩
    | [], hr => simp [RelL] at hr
    | _ :: _ :: _, hr => simp [RelL] at hr
  · cases hx
end
end Go.Ev
