/- The run of FnNaked, for every input: its own steps, with the two drawn numbers told. -/
import Derived.Test.YtghnkhippmmdmaaGreatDoorEvLk
set_option linter.unusedVariables false
set_option linter.unusedSimpArgs false
set_option linter.all false

namespace Go.Ev
open Go.Proofs
set_option maxRecDepth 100000
def nkA : AC := .reg 0 [⟨d2,.mv (.c (.b false)),none,0⟩]
def nkBr : AC := .reg 0 [⟨d9,.mv t0,none,0⟩,⟨d10,.len .sli t9,none,0⟩,⟨d11,.bin .gtr t10 (.c (I 1048576)),none,0⟩]
def nkBc : AC := .cond t11 (.seq (.reg 0 [⟨d2,.mv (.c (.b true)),none,0⟩]) (.ret)) (.skip)
def nkR1 : AC := .reg 1 [⟨d12,.o2 (.bsl 9 1 3 [(.s 0 [])] [(0,1,(.c (.s 1 [49]))),(1,1,(.c (.s 3 [34, 107, 34]))),(2,1,(.c (.s 3 [50, 46, 53])))]),none,0⟩,⟨d13,.mv t0,none,1⟩,⟨d14,.call 4 [t13,(.c (I 0)),(.c (I 3))],none,1⟩,⟨d15,.ia (.sli 1) t12 t14,none,1⟩,⟨d16,.ld1 t15,none,1⟩,⟨d3,.mv t16,none,1⟩]
def nkR2 : AC := .reg 1 [⟨d17,.o2 (.bsl 9 1 3 [(.s 0 [])] [(0,1,(.c (.s 1 [51]))),(1,1,(.c (.s 3 [34, 122, 34]))),(2,1,(.c (.s 1 [57])))]),none,0⟩,⟨d18,.mv t0,none,1⟩,⟨d19,.call 4 [t18,(.c (I 1)),(.c (I 3))],none,1⟩,⟨d20,.ia (.sli 1) t17 t19,none,1⟩,⟨d21,.ld1 t20,none,1⟩,⟨d4,.mv t21,none,1⟩]
def nkC : AC := .seq (.reg 2 [⟨d23,.mv t3,none,0⟩,⟨d24,.bin .add (.c (.s 6 [32, 83, 32, 94, 71, 40])) t23,none,0⟩,⟨d25,.bin .add t24 (.c (.s 8 [44, 49, 41, 61, 52, 44, 94, 40])),none,0⟩,⟨d26,.mv t4,none,0⟩,⟨d27,.bin .add t25 t26,none,0⟩,⟨d28,.bin .add t27 (.c (.s 16 [44, 53, 41, 61, 54, 32, 87, 32, 94, 40, 53, 41, 44, 94, 71, 40])),none,0⟩,⟨d29,.mv t3,none,0⟩,⟨d30,.bin .add t28 t29,none,0⟩,⟨d31,.bin .add t30 (.c (.s 1 [44])),none,0⟩,⟨d32,.mv t4,none,0⟩,⟨d33,.bin .add t31 t32,none,0⟩,⟨d34,.bin .add t33 (.c (.s 3 [44, 53, 41])),none,0⟩,⟨d35,.o2 (.bsl 9 1 3 [(.s 0 [])] [(0,1,t34),(1,1,(.c (.s 22 [32, 75, 32, 94, 71, 32, 83, 32, 36, 69, 84, 61, 34, 84, 34, 32, 87, 32, 94, 40, 49, 41]))),(2,1,(.c (.s 7 [84, 32, 87, 32, 36, 69, 67])))]),none,0⟩,⟨d36,.bld [nS] [],none,1⟩,⟨d37,.call 5 [t35,t36],none,1⟩,⟨d22,.mv t37,none,1⟩,⟨d38,.ext t22 0,none,1⟩,⟨d39,.ext t22 1,none,1⟩,⟨d40,.ext t22 2,none,1⟩,⟨d41,.ext t22 3,none,1⟩,⟨d5,.new 27 [nS],none,1⟩,⟨none,.st 1 t5 t38,none,2⟩,⟨d6,.mv t39,none,2⟩,⟨d7,.mv t40,none,2⟩,⟨d8,.mv t41,none,2⟩]) (.seq (.reg 0 [⟨d42,.mv t8,none,0⟩,⟨d43,.bin .eql t42 (.c (I 0)),none,0⟩,⟨d44,.mv t43,none,0⟩,⟨d45,.mv t7,(some (p44,true)),0⟩,⟨d46,.bin .eql t45 (.c (.s 4 [54, 54, 49, 48])),(some (p44,true)),0⟩,⟨d47,.pick t44 t46 (.c (.b false)),none,0⟩,⟨d48,.mv t47,none,0⟩,⟨d49,.fa 0 t5,(some (p48,true)),0⟩,⟨d50,.ld1 t49,(some (p48,true)),0⟩,⟨d51,.len .sli t50,(some (p48,true)),0⟩,⟨d52,.bin .eql t51 (.c (I 0)),(some (p48,true)),0⟩,⟨d53,.pick t48 t52 (.c (.b false)),none,0⟩,⟨d2,.mv t53,none,0⟩]) (.ret))
theorem nk_body : f3.body = .seq nkA (.seq (.seq nkBr nkBc) (.seq nkR1 (.seq nkR2 nkC))) := rfl

noncomputable def thenC (c : CR) (k : T AV → H → CR) : CR := CR.rec .no (fun e fr h => Ex.rec (k fr h) (fun id => .ok (.exit id) fr h) (.ok .ret fr h) e) c

theorem evC_seq (call : CallF) (a b : AC) (fr : T AV) (h : H) : evC call (.seq a b) fr h = thenC (evC call a fr h) (evC call b) := rfl
theorem thenC_ok (fr : T AV) (h : H) (k : T AV → H → CR) : thenC (.ok .normal fr h) k = k fr h := rfl

/-- A call that answers one value. -/
noncomputable def cst (v : AV) : CallF := fun _ _ h => .ok v h
noncomputable def outFr (c : CR) : T AV := CR.rec .e (fun _ fr _ => fr) c
noncomputable def outH (c : CR) : H := CR.rec ⟨0, .e⟩ (fun _ _ h => h) c

noncomputable def nkFrA (x : AV) : T AV := outFr (evC (cst .j) nkA (argsFrom [x] 0 .e) ⟨0, .e⟩)
noncomputable def nkFrB (x : AV) : T AV := outFr (evC (cst .j) nkBr (nkFrA x) ⟨0, .e⟩)
noncomputable def nkR (v : Nat) (x : AV) : CR := evC (cst (I v)) nkR1 (nkFrB x) ⟨0, .e⟩
def nkH : H := ⟨1, .n .e (some (.cs 9 [.s 1 [49], .s 3 [34, 107, 34], .s 3 [50, 46, 53]] false)) .e⟩
noncomputable def nkRR (v0 v1 : Nat) (x : AV) : CR := evC (cst (I v1)) nkR2 (outFr (nkR v0 x)) nkH

theorem nk_A (call : CallF) (r : List (List AV)) : evC call nkA (argsFrom [.isl 1 r] 0 .e) ⟨0, .e⟩ = .ok .normal (nkFrA (.isl 1 r)) ⟨0, .e⟩ := rfl
theorem nk_Br (call : CallF) (r : List (List AV)) : evC call nkBr (nkFrA (.isl 1 r)) ⟨0, .e⟩ = .ok .normal (nkFrB (.isl 1 r)) ⟨0, .e⟩ := rfl
theorem nk_Bc (call : CallF) (r : List (List AV)) : evC call nkBc (nkFrB (.isl 1 r)) ⟨0, .e⟩ = cd (Nat.ble r.length 1048576) (.ok .normal (nkFrB (.isl 1 r)) ⟨0, .e⟩) (.ok .ret (T.set p2 (.b true) (nkFrB (.isl 1 r))) ⟨0, .e⟩) := by
  cases h : Nat.ble r.length 1048576 with
  | true =>
    change cd (!Nat.ble r.length 1048576) _ _ = _
    rw [h]; rfl
  | false =>
    change cd (!Nat.ble r.length 1048576) _ _ = _
    rw [h]; rfl

theorem nk_R1 {call : CallF} {v : AV} {r : List (List AV)} (hc : ∀ h, call 4 [.isl 1 r, I 0, I 3] h = .ok v h) :
    evC call nkR1 (nkFrB (.isl 1 r)) ⟨0, .e⟩ = evC (cst v) nkR1 (nkFrB (.isl 1 r)) ⟨0, .e⟩ := by
  change FR.rec (motive := fun _ => CR) .no (fun fr h => .ok .normal fr h) (R.rec (motive := fun _ => FR) .no (fun v h' => _) (call 4 [.isl 1 r, I 0, I 3] _)) = _
  rw [hc]
  rfl

theorem nk_H (v0 : Nat) (h : v0 < 3) (r : List (List AV)) : outH (nkR v0 (.isl 1 r)) = nkH := by
  rcases v0 with _ | _ | _ | v0
  · rfl
  · rfl
  · rfl
  · omega

theorem nk_R1_ok (v0 : Nat) (h : v0 < 3) (r : List (List AV)) : nkR v0 (.isl 1 r) = .ok .normal (outFr (nkR v0 (.isl 1 r))) (outH (nkR v0 (.isl 1 r))) := by
  rcases v0 with _ | _ | _ | v0
  · rfl
  · rfl
  · rfl
  · omega

theorem nk_R2 {call : CallF} {v : AV} {r : List (List AV)} {v0 : Nat} (h : v0 < 3) (hc : ∀ h, call 4 [.isl 1 r, I 1, I 3] h = .ok v h) :
    evC call nkR2 (outFr (nkR v0 (.isl 1 r))) (outH (nkR v0 (.isl 1 r))) = evC (cst v) nkR2 (outFr (nkR v0 (.isl 1 r))) (outH (nkR v0 (.isl 1 r))) := by
  rw [nk_H v0 h r]
  rcases v0 with _ | _ | _ | v0
  · change FR.rec (motive := fun _ => CR) .no (fun fr h => .ok .normal fr h) (R.rec (motive := fun _ => FR) .no (fun v h' => _) (call 4 [.isl 1 r, I 1, I 3] _)) = _
    rw [hc]; rfl
  · change FR.rec (motive := fun _ => CR) .no (fun fr h => .ok .normal fr h) (R.rec (motive := fun _ => FR) .no (fun v h' => _) (call 4 [.isl 1 r, I 1, I 3] _)) = _
    rw [hc]; rfl
  · change FR.rec (motive := fun _ => CR) .no (fun fr h => .ok .normal fr h) (R.rec (motive := fun _ => FR) .no (fun v h' => _) (call 4 [.isl 1 r, I 1, I 3] _)) = _
    rw [hc]; rfl
  · omega

theorem nk_R2_ok (v0 v1 : Nat) (h0 : v0 < 3) (h1 : v1 < 3) (r : List (List AV)) : nkRR v0 v1 (.isl 1 r) = .ok .normal (outFr (nkRR v0 v1 (.isl 1 r))) (outH (nkRR v0 v1 (.isl 1 r))) := by
  rcases v0 with _ | _ | _ | v0
  · rcases v1 with _ | _ | _ | v1
    · rfl
    · rfl
    · rfl
    · omega
  · rcases v1 with _ | _ | _ | v1
    · rfl
    · rfl
    · rfl
    · omega
  · rcases v1 with _ | _ | _ | v1
    · rfl
    · rfl
    · rfl
    · omega
  · omega

/-- What is left of the run, when the numbers are drawn. -/
noncomputable def nkLast (call : CallF) (v0 v1 : Nat) (x : AV) : CR := evC call nkC (outFr (nkRR v0 v1 x)) (outH (nkRR v0 v1 x))

theorem nk_run {call : CallF} {r : List (List AV)} {v0 v1 : Nat} (hl : Nat.ble r.length 1048576 = true) (h0 : v0 < 3) (h1 : v1 < 3)
    (hc0 : ∀ h, call 4 [.isl 1 r, I 0, I 3] h = .ok (I v0) h) (hc1 : ∀ h, call 4 [.isl 1 r, I 1, I 3] h = .ok (I v1) h) :
    evC call f3.body (argsFrom [.isl 1 r] 0 .e) ⟨0, .e⟩ = nkLast call v0 v1 (.isl 1 r) := by
  rw [nk_body, evC_seq, nk_A, thenC_ok, evC_seq, evC_seq, nk_Br, thenC_ok, nk_Bc, hl]
  show thenC (.ok .normal _ _) _ = _
  rw [thenC_ok, evC_seq, nk_R1 hc0]
  show thenC (nkR v0 (.isl 1 r)) _ = _
  rw [nk_R1_ok v0 h0 r, thenC_ok, evC_seq, nk_R2 h0 hc1, nk_H v0 h0 r]
  show thenC (nkRR v0 v1 (.isl 1 r)) _ = _
  rw [nk_R2_ok v0 v1 h0 h1 r, thenC_ok]
  rfl

noncomputable def outR (c : CR) : R := CR.rec .no (fun e fr h => Ex.rec (Option.rec .no (ret1 h) (resOf f3.res fr h)) (fun _ => .no) (Option.rec .no (ret1 h) (resOf f3.res fr h)) e) c
noncomputable def isTV (v : AV) : Bool := match v with | .b b => b | _ => false
noncomputable def isT (x : R) : Bool := R.rec false (fun v _ => isTV v) x
theorem isT_true {x : R} (h : isT x = true) : ∃ h', x = .ok (.b true) h' := by
  cases x with
  | no => cases h
  | ok v h' =>
    have h : isTV v = true := h
    unfold isTV at h
    split at h
    · subst h; exact ⟨h', rfl⟩
    · cases h
end Go.Ev
