/- Regions that draw their order: one operation, at any moment. -/
import Derived.Test.YtghnkhippmmdmaaGreatDoorEvI
set_option linter.unusedVariables false
set_option linter.unusedSimpArgs false
set_option linter.all false

namespace Go.Ev

section
variable {P : Program} {G : Nat → Option (List AV)} {call : CallF} {base na nt : Nat} {opsA : Array Oper} {l : List AO} {σ : Nat → DS} {val : Nat → AV} {fr0 : T AV} {e0 : Env} {a0 : Act}

/-- A making that is done. -/
def inS (l : List AO) (S : Nat → Bool) (κ : Nat) : Prop := ∃ a, S a = true ∧ isA l a = true ∧ kOf l a = κ

/-- The heap at a set of operations that are done, at a moment. -/
structure HS (l : List AO) (σ : Nat → DS) (S : Nat → Bool) (m : Nat) (h : H) : Prop where
  mom : ∀ x, isX l x = true → (S x = true ↔ x < m)
  le : m ≤ l.length
  next : h.next = (σ m).cur.h.next
  mem : ∀ p ∈ (σ l.length).mks, inS l S p.k → p.k ∉ (σ m).cur.cons → h.get p.id = some p.b
  rest : ∀ id, (∀ p ∈ (σ l.length).mks, inS l S p.k → p.k ∉ (σ m).cur.cons → p.id ≠ id) → h.get id = (σ m).cur.h.get id

structure Inv (G : Nat → Option (List AV)) (nt : Nat) (l : List AO) (σ : Nat → DS) (val : Nat → AV) (fr0 : T AV) (e0 : Env) (a0 : Act) (S : Nat → Bool) (e : Env) (a : Act) : Prop where
  st : St e
  ext : Ext e0 e
  gr : GRel G e
  fr : FrRel e (frS l val fr0 S l.length) a.tmps
  size : a.tmps.size = nt
  defers : a.defers = a0.defers
  hs : ∃ m, HS l σ S m e.h

theorem inS_add {S : Nat → Bool} {i κ : Nat} (h : inS l (addS S i) κ) : inS l S κ ∨ (isA l i = true ∧ kOf l i = κ) := by
  obtain ⟨a, h1, h2, h3⟩ := h
  unfold addS at h1
  by_cases ha : a = i
  · subst ha; exact .inr ⟨h2, h3⟩
  · rw [if_neg ha] at h1; exact .inl ⟨a, h1, h2, h3⟩

theorem inS_mono {S : Nat → Bool} {i κ : Nat} (h : inS l S κ) : inS l (addS S i) κ := by
  obtain ⟨a, h1, h2, h3⟩ := h
  refine ⟨a, ?_, h2, h3⟩
  unfold addS
  split
  · rfl
  · exact h1

section
variable (r : Run call base na opsA.toList l σ val) (h00 : (σ 0).fr = fr0) {S : Nat → Bool} (hS : ∀ i, S i = true → Direct opsA.toList S i) {i : Nat} (hi : i < l.length) (hn : S i = false) (hd : Direct opsA.toList S i)
include r hS hd

theorem pre_in {p : Nat} (h : bfr (predsGo opsA.toList []) p i = true) : S p = true := closed r.stat.edges hS i hd p h

include hn in
theorem not_behind {j : Nat} (hj : S j = true) : bfr (predsGo opsA.toList []) i j = false := by
  cases h : bfr (predsGo opsA.toList []) i j with
  | false => rfl
  | true => rw [closed r.stat.edges hS j (hS j hj) i h] at hn; cases hn

include hn hi h00 in
/-- What an operation looks at is as in the text's order. -/
theorem looks_eq {o : AO} (ho : l[i]? = some o) {t : List Bool} (ht : t ∈ o.looks) : getV (frS l val fr0 S l.length) t = getV (σ i).fr t := by
  rw [r.fr_eq fr0 h00 i (Nat.le_of_lt hi)]
  have ext : ∀ m, i ≤ m → getV (frS l val fr0 (fun j => decide (j < i)) m) t = getV (frS l val fr0 (fun j => decide (j < i)) i) t := by
    intro m hm
    induction m with
    | zero => have : i = 0 := by omega
              subst this; rfl
    | succ m ih =>
      by_cases he : i = m + 1
      · rw [he]
      · simp only [frS]
        rw [if_neg (by simp; omega)]
        exact ih (by omega)
  rw [← ext l.length (Nat.le_of_lt hi)]
  refine frS_agree (fun j hj hdj => ?_)
  by_cases hji : j = i
  · subst hji; rw [hn]; simp
  · rcases r.stat.tmps i o t j ho (.inl ht) (Ne.symm hji) hdj with h | h
    · have hlt := r.lt h
      have : S j = false := by
        cases hSj : S j with
        | false => rfl
        | true => rw [not_behind r hS hn hd hSj] at h; cases h
      rw [this]; simp; omega
    · rw [pre_in r hS hd h]
      have := r.lt h
      simp [this]

include hn hi h00 in
theorem op_eq {o : AO} (ho : l[i]? = some o) (cl : CallF) (h : H) (id : Nat) : evOp cl o.op (frS l val fr0 S l.length) h id = evOp cl o.op (σ i).fr h id := by
  apply evOp_congr
  intro x hx
  cases x with
  | c v => rfl
  | t p =>
    show getV _ p = getV _ p
    refine looks_eq r h00 hS hi hn hd ho ?_
    unfold AO.looks
    rw [List.mem_append]
    left
    rw [List.mem_flatMap]
    exact ⟨_, hx, by simp [slotOf]⟩

include hn hi h00 in
theorem wanted_eq {o : AO} (ho : l[i]? = some o) : wanted o.g (frS l val fr0 S l.length) = wanted o.g (σ i).fr := by
  cases hg : o.g with
  | none => rfl
  | some q =>
    show isB (getV _ q.1) q.2 = isB (getV _ q.1) q.2
    rw [looks_eq r h00 hS hi hn hd ho (t := q.1)]
    unfold AO.looks
    rw [List.mem_append]
    right
    rw [hg]; simp

include hn in
/-- The frame with the operation's value. -/
theorem frame_add (hi : i < l.length) {o : AO} (ho : l[i]? = some o) (q : List Bool) : getV (frS l val fr0 (addS S i) l.length) q = getV (setD o.dst (val i) (frS l val fr0 S l.length)) q := by
  have := frS_add (l := l) (val := val) (fr0 := fr0) (S := S) (i := i) hn (fun j t hj h1 h2 => by
    by_cases hji : j = i
    · subst hji; rw [hn] at hj; cases hj
    · rcases r.stat.tmps i o t j ho (.inr (by rw [← dstOf_of ho]; exact h1)) (Ne.symm hji) h2 with h | h
      · rw [not_behind r hS hn hd hj] at h; cases h
      · exact r.lt h) q l.length
  rw [this, if_pos hi, dstOf_of ho]

/-- The moment goes on where what was done is none of those that may do anything. -/
theorem HS.same {m : Nat} {h : H} (hh : HS l σ S m h) {o : AO} (ho : l[i]? = some o) (hx : isX l i = false) (hm : (σ (i + 1)).mks = (σ i).mks) : HS l σ (addS S i) m h where
  mom := fun x hxx => by
    unfold addS
    by_cases he : x = i
    · subst he; rw [hx] at hxx; cases hxx
    · rw [if_neg he]; exact hh.mom x hxx
  le := hh.le
  next := hh.next
  mem := fun p hp hin hc => by
    rcases inS_add hin with h1 | ⟨h1, h2⟩
    · exact hh.mem p hp h1 hc
    · exact absurd h2 (r.mk_none ho hm hp h1)
  rest := fun id hid => hh.rest id (fun p hp hin hc => hid p hp (inS_mono hin) hc)

include hn in
/-- At an operation that may do anything the moment is its own. -/
theorem mom_X {m : Nat} {h : H} (hh : HS l σ S m h) (hx : isX l i = true) : ∀ x, isX l x = true → (x < m ↔ x < i) := by
  intro x hxx
  rw [← hh.mom x hxx]
  constructor
  · intro hSx
    by_cases he : x = i
    · subst he; rw [hn] at hSx; cases hSx
    · rcases r.stat.xs x i hxx hx he with h | h
      · exact r.lt h
      · rw [not_behind r hS hn hd hSx] at h; cases h
  · intro hlt
    rcases r.stat.xs x i hxx hx (by omega) with h | h
    · exact pre_in r hS hd h
    · have := r.lt h; omega

include hn in
theorem cons_not {m : Nat} {h : H} (hh : HS l σ S m h) (ha : isA l i = true) : kOf l i ∉ (σ m).cur.cons := by
  intro hc
  obtain ⟨x, h1, h2, h3⟩ := r.cons_from m hh.le _ hc
  obtain ⟨a, h4, h5, h6⟩ := mem_ksOf.1 h3
  have := r.stat.as2 a i h4 ha h6
  subst this
  rw [not_behind r hS hn hd ((hh.mom x h2).2 h1)] at h5; cases h5

end
end

end Go.Ev

/- Regions that draw their order: sound, whatever the order. -/
namespace Go.Ev

theorem chk1_inv {hs : List Bh} {mk : List Pd} {rd : Rd} : ∀ {js : List Nat}, chk1 hs mk rd js = true → ∀ j ∈ js, ∃ b, hs[j]? = some b ∧ ∃ h', evOp noCall rd.o rd.fr (heapAt b rd.ks mk) 0 = .ok rd.v h'
  | [], _, j, hj => by cases hj
  | j0 :: js, h, j, hj => by
    have h : (Option.rec false (fun b => R.rec false (fun a _ => cd (sameA a rd.v) (chk1 hs mk rd js) false) (evOp noCall rd.o rd.fr (heapAt b rd.ks mk) 0)) (nth hs j0) : Bool) = true := h
    cases hn : nth hs j0 with
    | none => rw [hn] at h; cases h
    | some b =>
      rw [hn] at h
      have h : (R.rec false (fun a _ => cd (sameA a rd.v) (chk1 hs mk rd js) false) (evOp noCall rd.o rd.fr (heapAt b rd.ks mk) 0) : Bool) = true := h
      cases hr : evOp noCall rd.o rd.fr (heapAt b rd.ks mk) 0 with
      | no => rw [hr] at h; cases h
      | ok a h' =>
        rw [hr] at h
        obtain ⟨h1, h2⟩ := cd_true (show cd (sameA a rd.v) (chk1 hs mk rd js) false = true from h)
        rcases List.mem_cons.1 hj with rfl | hj
        · refine ⟨b, by rw [← nth_eq]; exact hn, h', ?_⟩
          rw [hr, sameA_eq h1]
        · exact chk1_inv h2 j hj

theorem chkAll_inv {hs : List Bh} {mk : List Pd} : ∀ {rs : List Rd}, chkAll hs mk rs = true → ∀ rd ∈ rs, chk1 hs mk rd rd.js = true
  | [], _, rd, h => by cases h
  | r0 :: rs, h, rd, hr => by
    obtain ⟨h1, h2⟩ := cd_true (show cd (chk1 hs mk r0 r0.js) (chkAll hs mk rs) false = true from h)
    rcases List.mem_cons.1 hr with rfl | hr
    · exact h1
    · exact chkAll_inv h2 rd hr

section
variable {P : Program} {G : Nat → Option (List AV)} {call : CallF} {base na nt : Nat} {opsA : Array Oper} {l : List AO} {σ : Nat → DS} {val : Nat → AV} {fr0 : T AV} {e0 : Env} {a0 : Act} {Q : Exit → Act → World → Prop}

theorem step_any (hk : CallOK P G call) (r : Run call base na opsA.toList l σ val) (h00 : (σ 0).fr = fr0)
    (hio : ∀ (i : Nat) (ao : AO), l[i]? = some ao → ∃ o, opsA[i]? = some o ∧ IsO P G nt opsA ao o) (hlo : e0.F.lo ≤ base) (hnx : base + na ≤ e0.h.next)
    (hchk : chkAll (hsOf (σ l.length)) (σ l.length).mks (σ l.length).rs = true)
    {S : Nat → Bool} (hS : ∀ i, S i = true → Direct opsA.toList S i) {i : Nat} (hi : i < l.length) (hn : S i = false) (hd : Direct opsA.toList S i) {e : Env} {a : Act}
    (inv : Inv G nt l σ val fr0 e0 a0 S e a) (K : Act → World → Prop) (hK : ∀ e' a', Inv G nt l σ val fr0 e0 a0 (addS S i) e' a' → K a' e'.w) : wpOp P opsA Q i K a e.w := by
  obtain ⟨ao, ho⟩ := at_ hi
  obtain ⟨o, hoo, hio'⟩ := hio i ao ho
  obtain ⟨m, hh⟩ := inv.hs
  have hlo' : e.F.lo ≤ base := by rw [inv.ext.fr]; exact hlo
  have hnx' : base + na ≤ e.h.next := Nat.le_trans hnx inv.ext.next
  have hwe := wanted_eq r h00 hS hi hn hd ho
  have hop := op_eq r h00 hS hi hn hd ho
  have hfa := frame_add (fr0 := fr0) r hS hn hd hi ho
  have hdst : ao.dst = o.dst.map mkPath := by obtain ⟨k, rfl⟩ := hio'; rfl
  have hsi := r.si i ao ho
  -- how an operation's end makes the next state
  have fin : ∀ (e' : Env) (cv : Value), St e' → Ext e e' → Rel e' (val i) cv → (∀ d, o.dst = some d → d < nt) → (∃ m, HS l σ (addS S i) m e'.h) → Inv G nt l σ val fr0 e0 a0 (addS S i) e' (a.put o.dst cv) := by
    intro e' cv hs' hx' hv' hdb hm'
    refine ⟨hs', inv.ext.trans hx', inv.gr.ext hx', fun k => ?_, by rw [put_size]; exact inv.size, by rw [put_defers]; exact inv.defers, hm'⟩
    rw [hfa, hdst]
    exact FrRel.put (inv.fr.ext hx') (fun k hk => by rw [inv.size]; exact hdb k hk) hv' k
  have finSkip : val i = undefA → (∃ m, HS l σ (addS S i) m e.h) → Inv G nt l σ val fr0 e0 a0 (addS S i) e (a.put o.dst undef) := by
    intro hv hm'
    refine ⟨inv.st, inv.ext, inv.gr, fun k => ?_, by rw [put_size]; exact inv.size, by rw [put_defers]; exact inv.defers, hm'⟩
    rw [hfa, hdst, hv]
    exact inv.fr.put_undef o.dst k
  have notIn : ∀ κ, isA l i = true → kOf l i = κ → ¬ inS l S κ := by
    rintro κ ha rfl ⟨b, h1, h2, h3⟩
    have := r.stat.as2 b i h2 ha h3
    subst this
    rw [hn] at h1; cases h1
  have ksIn : ∀ κ, κ ∈ ksOf (predsGo opsA.toList []) l i → inS l S κ := fun κ h => by
    obtain ⟨b, h1, h2, h3⟩ := mem_ksOf.1 h
    exact ⟨b, pre_in r hS hd h2, h1, h3⟩
  have knum : ∀ j, j ≤ l.length → ∀ p ∈ (σ j).mks, p.k < na := fun j hj p hp => by
    obtain ⟨_, b, _, h1, h2, _⟩ := r.mk_from j hj p hp
    rw [← h2]; exact r.stat.as_ b h1
  -- a heap at this moment is part of the whole
  have sub_at : ∀ j, j ≤ l.length → Sub (heapAt (σ m).cur (ksOf (predsGo opsA.toList []) l i) (σ j).mks) e.h := by
    intro j hj id b hb
    by_cases hex : ∃ p ∈ (σ j).mks, p.k ∈ ksOf (predsGo opsA.toList []) l i ∧ p.k ∉ (σ m).cur.cons ∧ p.id = id
    · obtain ⟨p, hp, h1, h2, rfl⟩ := hex
      rw [r.heapAt_mem hj hp h1 h2] at hb
      obtain rfl := Option.some.inj hb
      exact hh.mem p (r.mk_mono hj (Nat.le_refl _) p hp) (ksIn _ h1) h2
    · rw [Run.heapAt_not (fun p hp h1 h2 he => hex ⟨p, hp, h1, h2, he⟩)] at hb
      rw [hh.rest id]
      · exact hb
      · rintro p hp h1 h2 rfl
        rw [(r.mk_from _ (Nat.le_refl _) p hp).1, r.free m hh.le p.k (knum _ (Nat.le_refl _) p hp) h2] at hb
        cases hb
  unfold wpOp
  rw [hoo]
  simp only []
  generalize hs1 : σ (i + 1) = s1 at hsi
  generalize hv1 : val i = v1 at hsi
  cases hsi with
  | skip hw hc =>
    have hc : ao.op.cls ≠ .X := hc
    have hw : wanted ao.g (σ i).fr = some false := hw
    rw [← hwe] at hw
    rw [wanted_inv hio' inv.fr inv.size hw, if_neg (by simp)]
    have hx : isX l i = false := by
      cases h : isX l i with
      | false => rfl
      | true => exact absurd ((isX_of ho).1 h) hc
    exact hK _ _ (finSkip hv1 ⟨m, HS.same r hS hd hh ho hx (by rw [hs1]; rfl)⟩)
  | skipX hw hc =>
    have hc : ao.op.cls = .X := hc
    have hw : wanted ao.g (σ i).fr = some false := hw
    rw [← hwe] at hw
    rw [wanted_inv hio' inv.fr inv.size hw, if_neg (by simp)]
    have hx : isX l i = true := (isX_of ho).2 hc
    have hmx := mom_X r hS hn hd hh hx
    have hcur : (σ m).cur = (σ i).cur := r.cur_eq hh.le (Nat.le_of_lt hi) hmx
    refine hK _ _ (finSkip hv1 ⟨i + 1, ?_⟩)
    have hc1 : (σ (i + 1)).cur = ⟨heapAt (σ i).cur (ksOf (predsGo opsA.toList []) l i) (σ i).mks, cat (ksOf (predsGo opsA.toList []) l i) (σ i).cur.cons⟩ := by rw [hs1]; rfl
    refine ⟨?_, hi, ?_, ?_, ?_⟩
    · intro x hxx
      unfold addS
      by_cases he : x = i
      · subst he; simp
      · rw [if_neg he, hh.mom x hxx, hmx x hxx]; omega
    · rw [hc1, hh.next, hcur]
      exact (puts_next _ _).symm
    · intro p hp hin hcs
      rw [hc1, cat_eq] at hcs
      rcases inS_add hin with h1 | ⟨h1, _⟩
      · exact hh.mem p hp h1 (by rw [hcur]; exact fun h => hcs (List.mem_append_right _ h))
      · rw [isA_of ho] at h1; rw [show ao.op.cls = .X from hc] at h1; cases h1
    · intro id hid
      rw [hc1]
      show e.h.get id = (heapAt (σ i).cur _ (σ i).mks).get id
      by_cases hex : ∃ p ∈ (σ i).mks, p.k ∈ ksOf (predsGo opsA.toList []) l i ∧ p.k ∉ (σ i).cur.cons ∧ p.id = id
      · obtain ⟨p, hp, h1, h2, rfl⟩ := hex
        rw [r.heapAt_mem (Nat.le_of_lt hi) hp h1 h2]
        exact hh.mem p (r.mk_mono (Nat.le_of_lt hi) (Nat.le_refl _) p hp) (ksIn _ h1) (by rw [hcur]; exact h2)
      · rw [Run.heapAt_not (fun p hp h1 h2 he => hex ⟨p, hp, h1, h2, he⟩), ← hcur]
        refine hh.rest id (fun p hp hin hcs he => ?_)
        by_cases hpk : p.k ∈ ksOf (predsGo opsA.toList []) l i
        · obtain ⟨b, h1, h2, h3⟩ := mem_ksOf.1 hpk
          exact hex ⟨p, r.mk_at (Nat.le_of_lt hi) hp h1 h3 (r.lt h2), hpk, by rw [← hcur]; exact hcs, he⟩
        · refine hid p hp (inS_mono hin) ?_ he
          rw [hc1, cat_eq]
          intro h
          rcases List.mem_append.1 h with h | h
          · exact hpk h
          · exact hcs (by rw [hcur]; exact h)
  | N v1 h' hw hc hr =>
    have hc : ao.op.cls = .N := hc
    have hw : wanted ao.g (σ i).fr = some true := hw
    rw [← hwe] at hw
    rw [wanted_inv hio' inv.fr inv.size hw, if_pos rfl]
    left
    have hr2 : evOp call ao.op (frS l val fr0 S l.length) e.h (base + ao.k) = .ok v1 e.h := by
      rw [hop]; exact (evOp_N hc hr).2 _ _ _
    obtain ⟨hcp, hdb, _⟩ := op_of hio' hr2
    have hx : isX l i = false := by
      cases h : isX l i with
      | false => rfl
      | true => rw [(isX_of ho).1 h] at hc; cases hc
    refine sound_op (o := o) hk inv.st (Nat.le_trans hlo' (Nat.le_add_right _ _)) inv.fr inv.gr hcp hr2 _ _ (fun cv e' he' hs' hx' hv' => ?_)
    exact hK _ _ (fin e' cv hs' hx' (by rw [hv1]; exact hv') hdb ⟨m, by rw [he']; exact HS.same r hS hd hh ho hx (by rw [hs1]; rfl)⟩)
  | R v1 h' hw hc hr =>
    have hc : ao.op.cls = .R := hc
    have hw : wanted ao.g (σ i).fr = some true := hw
    rw [← hwe] at hw
    rw [wanted_inv hio' inv.fr inv.size hw, if_pos rfl]
    left
    have hr : evOp call ao.op (σ i).fr (heapAt (σ i).cur (ksOf (predsGo opsA.toList []) l i) (σ i).mks) (base + ao.k) = .ok v1 h' := hr
    have hr2 : evOp call ao.op (frS l val fr0 S l.length) e.h (base + ao.k) = .ok v1 e.h := by
      rw [hop]
      by_cases hcx : cX l m = cX l i
      · have hcur : (σ m).cur = (σ i).cur := r.cur_eq hh.le (Nat.le_of_lt hi) (fun x hxx => by rw [← cX_lt hxx, ← cX_lt hxx, hcx])
        rw [← hcur] at hr
        exact (evOp_R hc hr).2 _ _ _ (sub_at i (Nat.le_of_lt hi))
      · have hjs : cX l m ∈ (doOf (predsGo opsA.toList []) l ao i).js := by
          unfold doOf isR
          have : (ao.op.cls == Cls.R) = true := by rw [show ao.op.cls = .R from hc]; rfl
          simp only [this, if_true]
          rw [List.mem_filter]
          refine ⟨?_, by simpa using hcx⟩
          unfold jsOf
          rw [List.mem_filter]
          refine ⟨List.mem_range.2 (Nat.lt_succ_of_le (cX_mono l hh.le)), ?_⟩
          rw [List.all_eq_true]
          intro x hx
          cases hxx : isX l x with
          | false => rfl
          | true =>
            simp only [Bool.not_true, Bool.false_or]
            by_cases hxm : x < m
            · rw [if_pos ((cX_lt hxx).2 hxm), not_behind r hS hn hd ((hh.mom x hxx).2 hxm)]; rfl
            · rw [if_neg (fun h => hxm ((cX_lt hxx).1 h))]
              cases hb : bfr (predsGo opsA.toList []) x i with
              | false => rfl
              | true => exact absurd ((hh.mom x hxx).1 (pre_in r hS hd hb)) hxm
        have hrec : (⟨ao.op, (σ i).fr, v1, ksOf (predsGo opsA.toList []) l i, (doOf (predsGo opsA.toList []) l ao i).js⟩ : Rd) ∈ (σ l.length).rs := by
          refine r.rs_mono (show i + 1 ≤ l.length from hi) (Nat.le_refl _) _ ?_
          rw [hs1]
          show _ ∈ (List.rec (σ i).rs (fun _ _ _ => (⟨ao.op, (σ i).fr, v1, ksOf (predsGo opsA.toList []) l i, (doOf (predsGo opsA.toList []) l ao i).js⟩ : Rd) :: (σ i).rs) (doOf (predsGo opsA.toList []) l ao i).js : List Rd)
          cases hj : (doOf (predsGo opsA.toList []) l ao i).js with
          | nil => rw [hj] at hjs; cases hjs
          | cons j js => exact List.mem_cons_self ..
        obtain ⟨b, hb, h2, hr3⟩ := chk1_inv (chkAll_inv hchk _ hrec) _ hjs
        rw [(r.hist _ (Nat.le_refl _)).2 m hh.le] at hb
        obtain rfl := Option.some.inj hb
        exact (evOp_R hc hr3).2 _ _ _ (sub_at _ (Nat.le_refl _))
    obtain ⟨hcp, hdb, _⟩ := op_of hio' hr2
    have hx : isX l i = false := by
      cases h : isX l i with
      | false => rfl
      | true => rw [(isX_of ho).1 h] at hc; cases hc
    refine sound_op (o := o) hk inv.st (Nat.le_trans hlo' (Nat.le_add_right _ _)) inv.fr inv.gr hcp hr2 _ _ (fun cv e' he' hs' hx' hv' => ?_)
    exact hK _ _ (fin e' cv hs' hx' (by rw [hv1]; exact hv') hdb ⟨m, by rw [he']; exact HS.same r hS hd hh ho hx (by rw [hs1]; rfl)⟩)
  | A v1 h' hw hc hr =>
    have hc : ao.op.cls = .A := hc
    have hw : wanted ao.g (σ i).fr = some true := hw
    rw [← hwe] at hw
    rw [wanted_inv hio' inv.fr inv.size hw, if_pos rfl]
    left
    have hr : evOp call ao.op (σ i).fr ⟨(σ i).cur.h.next, .e⟩ (base + ao.k) = .ok v1 h' := hr
    have hA : isA l i = true := (isA_of ho).2 hc
    have hk1 : kOf l i = ao.k := kOf_of ho
    have hkna : ao.k < na := by rw [← hk1]; exact r.stat.as_ i hA
    have hcn : ao.k ∉ (σ m).cur.cons := by rw [← hk1]; exact cons_not r hS hn hd hh hA
    have notP : ∀ p ∈ (σ l.length).mks, inS l S p.k → p.id ≠ path (base + ao.k) := fun p hp hin he => by
      rw [(r.mk_from _ (Nat.le_refl _) p hp).1] at he
      have : p.k = ao.k := by have := path_inj he; omega
      rw [this] at hin
      exact notIn _ hA hk1 hin
    have hfree : e.h.get (path (base + ao.k)) = none := by
      rw [hh.rest _ (fun p hp hin _ => notP p hp hin)]
      exact r.free m hh.le ao.k hkna hcn
    have hr2 : evOp call ao.op (frS l val fr0 S l.length) e.h (base + ao.k) = .ok v1 (mkH e.h (base + ao.k) (h'.get (path (base + ao.k)))) := by
      rw [hop]; exact evOp_A hc hr call e.h (by omega) hfree
    obtain ⟨hcp, hdb, _⟩ := op_of hio' hr2
    have hx : isX l i = false := by
      cases h : isX l i with
      | false => rfl
      | true => rw [(isX_of ho).1 h] at hc; cases hc
    refine sound_op (o := o) hk inv.st (Nat.le_trans hlo' (Nat.le_add_right _ _)) inv.fr inv.gr hcp hr2 _ _ (fun cv e' he' hs' hx' hv' => ?_)
    refine hK _ _ (fin e' cv hs' hx' (by rw [hv1]; exact hv') hdb ⟨m, ?_⟩)
    rw [he']
    have hmk1 : (σ (i + 1)).mks = (Option.rec (σ i).mks (fun b => (⟨ao.k, path (base + ao.k), b⟩ : Pd) :: (σ i).mks) (h'.get (path (base + ao.k))) : List Pd) := by rw [hs1]; rfl
    cases hg : h'.get (path (base + ao.k)) with
    | none =>
      rw [hg] at hmk1
      exact HS.same r hS hd hh ho hx hmk1
    | some b =>
      rw [hg] at hmk1
      have hnew : (⟨ao.k, path (base + ao.k), b⟩ : Pd) ∈ (σ l.length).mks := by
        refine r.mk_mono (show i + 1 ≤ l.length from hi) (Nat.le_refl _) _ ?_
        rw [hmk1]; exact List.mem_cons_self ..
      have hin' : inS l (addS S i) ao.k := ⟨i, by simp [addS], hA, hk1⟩
      refine ⟨?_, hh.le, hh.next, ?_, ?_⟩
      · intro x hxx
        unfold addS
        by_cases he : x = i
        · subst he; rw [hx] at hxx; cases hxx
        · rw [if_neg he]; exact hh.mom x hxx
      · intro p hp hin hcs
        show (e.h.put (path (base + ao.k)) b).get p.id = some p.b
        rw [H.get_put]
        rcases inS_add hin with h1 | ⟨_, h1⟩
        · rw [if_neg (notP p hp h1)]
          exact hh.mem p hp h1 hcs
        · have := r.mk_unique _ (Nat.le_refl _) p hp _ hnew (by rw [← h1]; exact hk1)
          subst this
          rw [if_pos rfl]
      · intro id hid
        show (e.h.put (path (base + ao.k)) b).get id = _
        rw [H.get_put, if_neg (fun he => hid _ hnew hin' hcn he.symm)]
        exact hh.rest id (fun p hp hin hcs => hid p hp (inS_mono hin) hcs)
  | X v1 h' hw hc hr hf =>
    have hc : ao.op.cls = .X := hc
    have hw : wanted ao.g (σ i).fr = some true := hw
    rw [← hwe] at hw
    rw [wanted_inv hio' inv.fr inv.size hw, if_pos rfl]
    left
    have hr : evOp call ao.op (σ i).fr (heapAt (σ i).cur (ksOf (predsGo opsA.toList []) l i) (σ i).mks) (base + na) = .ok v1 h' := hr
    have hx : isX l i = true := (isX_of ho).2 hc
    have hmx := mom_X r hS hn hd hh hx
    have hcur : (σ m).cur = (σ i).cur := r.cur_eq hh.le (Nat.le_of_lt hi) hmx
    have hr2 : evOp call ao.op (frS l val fr0 S l.length) (heapAt (σ i).cur (ksOf (predsGo opsA.toList []) l i) (σ i).mks) (base + na) = .ok v1 h' := by rw [hop]; exact hr
    obtain ⟨hcp, hdb, _⟩ := op_of hio' hr2
    -- the blocks that are left out
    let inB : Nat → Bool := fun κ => (List.range l.length).any fun b => S b && isA l b && (kOf l b == κ)
    have inB_iff : ∀ κ, inB κ = true ↔ inS l S κ := fun κ => by
      simp only [inB, List.any_eq_true, List.mem_range, Bool.and_eq_true, beq_iff_eq]
      constructor
      · rintro ⟨b, _, ⟨h1, h2⟩, h3⟩; exact ⟨b, h1, h2, h3⟩
      · rintro ⟨b, h1, h2, h3⟩; exact ⟨b, isA_lt h2, ⟨h1, h2⟩, h3⟩
    let X : List Pd := (σ l.length).mks.filter fun p => inB p.k && (!natIn p.k (σ i).cur.cons && !natIn p.k (ksOf (predsGo opsA.toList []) l i))
    have memX : ∀ p, p ∈ X ↔ p ∈ (σ l.length).mks ∧ inS l S p.k ∧ p.k ∉ (σ i).cur.cons ∧ p.k ∉ ksOf (predsGo opsA.toList []) l i := fun p => by
      simp only [X, List.mem_filter, Bool.and_eq_true, inB_iff, Bool.not_eq_true', ← Bool.not_eq_true, natIn_iff]
    have uniqX : ∀ p ∈ X, ∀ q ∈ X, q.id = p.id → q.b = p.b := fun p hp q hq he => by
      have hp := ((memX p).1 hp).1
      have hq := ((memX q).1 hq).1
      rw [(r.mk_from _ (Nat.le_refl _) p hp).1, (r.mk_from _ (Nat.le_refl _) q hq).1] at he
      have := path_inj he
      rw [r.mk_unique _ (Nat.le_refl _) q hq p hp (by omega)]
    have hpart : Part e.h (heapAt (σ i).cur (ksOf (predsGo opsA.toList []) l i) (σ i).mks) X (base + na) := {
      next := by rw [hh.next, hcur]; exact puts_next _ _
      out := fun p hp => by
        obtain ⟨h1, h2, h3, h4⟩ := (memX p).1 hp
        have hpid := (r.mk_from _ (Nat.le_refl _) p h1).1
        have hpn := knum _ (Nat.le_refl _) p h1
        refine ⟨hh.mem p h1 h2 (by rw [hcur]; exact h3), ?_, base + p.k, by omega, hpid⟩
        rw [Run.heapAt_not, hpid]
        · exact r.free i (Nat.le_of_lt hi) p.k hpn h3
        · intro q hq hq1 hq2 he
          rw [(r.mk_from i (Nat.le_of_lt hi) q hq).1, hpid] at he
          have : q.k = p.k := by have := path_inj he; omega
          rw [this] at hq1; exact h4 hq1
      rest := fun id hid => by
        by_cases hex : ∃ p ∈ (σ i).mks, p.k ∈ ksOf (predsGo opsA.toList []) l i ∧ p.k ∉ (σ i).cur.cons ∧ p.id = id
        · obtain ⟨p, hp, h1, h2, rfl⟩ := hex
          rw [r.heapAt_mem (Nat.le_of_lt hi) hp h1 h2]
          exact (hh.mem p (r.mk_mono (Nat.le_of_lt hi) (Nat.le_refl _) p hp) (ksIn _ h1) (by rw [hcur]; exact h2)).symm
        · rw [Run.heapAt_not (fun p hp h1 h2 he => hex ⟨p, hp, h1, h2, he⟩), ← hcur]
          refine (hh.rest id (fun p hp hin hcs he => ?_)).symm
          by_cases hpk : p.k ∈ ksOf (predsGo opsA.toList []) l i
          · obtain ⟨b, h1, h2, h3⟩ := mem_ksOf.1 hpk
            exact hex ⟨p, r.mk_at (Nat.le_of_lt hi) hp h1 h3 (r.lt h2), hpk, by rw [← hcur]; exact hcs, he⟩
          · exact hid p ((memX p).2 ⟨hp, hin, by rw [← hcur]; exact hcs, hpk⟩) he
      lo := hnx' }
    have hOp : OpS P o e a v1 (puts X h') := OpS.framed (lo := base + na) inv.st (Nat.le_trans hlo' (Nat.le_add_right _ _)) hpart uniqX (fun e1 he1 hw1 hlo1 hs1' hrel => by
      rw [← he1] at hr2
      exact sound_op (o := o) hk hs1' (by rw [hlo1]; exact Nat.le_refl _) (fun k => hrel _ _ (inv.fr k)) (fun g cs hg => ⟨hrel _ _ (inv.gr g cs hg).1, by rw [hw1]; exact (inv.gr g cs hg).2⟩) hcp hr2)
    refine hOp _ _ (fun cv e' he' hs' hx' hv' => ?_)
    refine hK _ _ (fin e' cv hs' hx' (by rw [hv1]; exact hv') hdb ⟨i + 1, ?_⟩)
    rw [he']
    have hc1 : (σ (i + 1)).cur = ⟨h', cat (ksOf (predsGo opsA.toList []) l i) (σ i).cur.cons⟩ := by rw [hs1]; rfl
    refine ⟨?_, hi, ?_, ?_, ?_⟩
    · intro x hxx
      unfold addS
      by_cases he : x = i
      · subst he; simp
      · rw [if_neg he, hh.mom x hxx, hmx x hxx]; omega
    · rw [hc1, puts_next]
    · intro p hp hin hcs
      rw [hc1, cat_eq] at hcs
      rcases inS_add hin with h1 | ⟨h1, _⟩
      · have hpX : p ∈ X := (memX p).2 ⟨hp, h1, fun h => hcs (List.mem_append_right _ h), fun h => hcs (List.mem_append_left _ h)⟩
        exact puts_mem hpX (uniqX p hpX)
      · rw [isA_of ho] at h1; rw [show ao.op.cls = .X from hc] at h1; cases h1
    · intro id hid
      rw [hc1]
      refine puts_not (fun p hpX => ?_)
      obtain ⟨h1, h2, h3, h4⟩ := (memX p).1 hpX
      refine hid p h1 (inS_mono h2) ?_
      rw [hc1, cat_eq]
      intro h
      rcases List.mem_append.1 h with h | h
      · exact h4 h
      · exact h3 h

/-! Every order -/

theorem ready_iff {listed : Array Bool} {i : Nat} : i ∈ Region.ready .any opsA listed ↔ i < opsA.size ∧ listed.getD i true = false ∧ ∀ o, opsA[i]? = some o → ∀ e ∈ o.after.toList, Region.binds .any e = true → listed.getD e.on false = true := by
  unfold Region.ready
  rw [List.mem_filter, List.mem_range]
  constructor
  · rintro ⟨h1, h2⟩
    rw [Bool.and_eq_true] at h2
    refine ⟨h1, by simpa using h2.1, fun o ho e he hb => ?_⟩
    have h3 := h2.2
    rw [ho] at h3
    simp only [Option.map_some, Option.getD_some] at h3
    rw [Array.all_eq_true'] at h3
    have := h3 e (by simpa using he)
    rw [Bool.or_eq_true] at this
    rcases this with h | h
    · rw [hb] at h; cases h
    · exact h
  · rintro ⟨h1, h2, h3⟩
    refine ⟨h1, ?_⟩
    rw [Bool.and_eq_true]
    refine ⟨by simpa using h2, ?_⟩
    obtain ⟨o, ho⟩ : ∃ o, opsA[i]? = some o := ⟨_, Array.getElem?_eq_getElem h1⟩
    rw [ho]
    simp only [Option.map_some, Option.getD_some]
    rw [Array.all_eq_true']
    intro e he
    cases hb : Region.binds .any e with
    | false => rfl
    | true => simp [h3 o ho e (by simpa using he) hb]

end
end Go.Ev

/- Regions that draw their order: the whole. -/
namespace Go.Ev
section
variable {P : Program} {G : Nat → Option (List AV)} {call : CallF} {base na nt : Nat} {opsA : Array Oper} {l : List AO} {σ : Nat → DS} {val : Nat → AV} {fr0 : T AV} {e0 : Env} {a0 : Act} {Q : Exit → Act → World → Prop}

/-- How many are not done. -/
def undone (listed : Array Bool) : Nat := listed.toList.countP (fun b => !b)

theorem undone_set {listed : Array Bool} {i : Nat} (h : i < listed.size) (hf : listed[i]? = some false) : undone (listed.setIfInBounds i true) + 1 = undone listed := by
  unfold undone
  have hl : i < listed.toList.length := by simpa using h
  have hg : listed.toList[i]? = some false := by simpa using hf
  have e1 : (listed.setIfInBounds i true).toList = listed.toList.set i true := by simp
  rw [e1]
  generalize listed.toList = L at hl hg
  clear e1 hf h
  induction L generalizing i with
  | nil => simp at hl
  | cons x L ih =>
    cases i with
    | zero =>
      simp only [List.getElem?_cons_zero, Option.some.injEq] at hg
      subst hg
      simp [List.countP_cons]
    | succ i =>
      have := ih (i := i) (by simpa using hl) (by simpa using hg)
      simp only [List.set_cons_succ, List.countP_cons]
      omega

theorem undone_zero {listed : Array Bool} (h : undone listed = 0) {i : Nat} (hi : i < listed.size) : listed.getD i true = true := by
  unfold undone at h
  rw [List.countP_eq_zero] at h
  rw [Array.getD_eq_getD_getElem?, Array.getElem?_eq_getElem hi]
  have := h listed[i] (by simp)
  simpa using this

def doneOf (listed : Array Bool) : Nat → Bool := fun i => listed.getD i false

theorem doneOf_set {listed : Array Bool} {i : Nat} (h : i < listed.size) : doneOf (listed.setIfInBounds i true) = addS (doneOf listed) i := by
  funext j
  unfold doneOf addS
  rw [Array.getD_eq_getD_getElem?]
  by_cases hj : j = i
  · subst hj; rw [if_pos rfl, Array.getElem?_setIfInBounds_self_of_lt h]; rfl
  · rw [if_neg hj, Array.getElem?_setIfInBounds_ne (Ne.symm hj), ← Array.getD_eq_getD_getElem?]

theorem any_sound (hk : CallOK P G call) (r : Run call base na opsA.toList l σ val) (h00 : (σ 0).fr = fr0)
    (hio : ∀ (i : Nat) (ao : AO), l[i]? = some ao → ∃ o, opsA[i]? = some o ∧ IsO P G nt opsA ao o) (hlo : e0.F.lo ≤ base) (hnx : base + na ≤ e0.h.next)
    (hchk : chkAll (hsOf (σ l.length)) (σ l.length).mks (σ l.length).rs = true)
    (hQ : ∀ S e a, (∀ i, i < l.length → S i = true) → Inv G nt l σ val fr0 e0 a0 S e a → Q .normal a e.w) :
    ∀ (fuel : Nat) (listed : Array Bool) (e : Env) (a : Act), listed.size = l.length → undone listed = fuel → (∀ i, doneOf listed i = true → Direct opsA.toList (doneOf listed) i) →
      Inv G nt l σ val fr0 e0 a0 (doneOf listed) e a → wpAny P .any opsA Q fuel listed a e.w := by
  have hsz : opsA.size = l.length := by rw [r.stat.len]; simp
  intro fuel
  induction fuel with
  | zero =>
    intro listed e a hl hu hS inv
    have all : ∀ i, i < l.length → listed.getD i true = true := fun i hi => undone_zero hu (by omega)
    refine ⟨?_, hQ _ e a (fun i hi => ?_) inv⟩
    · rw [List.eq_nil_iff_forall_not_mem]
      intro i hi
      obtain ⟨h1, h2, _⟩ := ready_iff.1 hi
      rw [all i (by omega)] at h2; cases h2
    · have := all i hi
      unfold doneOf
      rw [Array.getD_eq_getD_getElem?, Array.getElem?_eq_getElem (by omega)] at this ⊢
      exact this
  | succ fuel ih =>
    intro listed e a hl hu hS inv
    refine ⟨fun hnil => ?_, fun i hi => ?_⟩
    · -- nothing is ready: all is done
      refine hQ _ e a ?_ inv
      intro i
      induction i using Nat.strongRecOn with
      | _ i ihi =>
        intro hi
        cases hdn : doneOf listed i with
        | true => rfl
        | false =>
          exfalso
          have : i ∈ Region.ready .any opsA listed := by
            rw [ready_iff]
            refine ⟨by omega, ?_, fun o ho e' he' hb => ?_⟩
            · unfold doneOf at hdn
              rw [Array.getD_eq_getD_getElem?, Array.getElem?_eq_getElem (by omega)] at hdn ⊢
              exact hdn
            · have hlt := edge_lt r.stat.edges (i := i) (o := o) (by simpa using ho) he' hb
              exact ihi e'.on hlt (by omega)
          rw [hnil] at this; cases this
    · obtain ⟨h1, h2, h3⟩ := ready_iff.1 hi
      have hil : i < l.length := by omega
      have hils : i < listed.size := by omega
      have hf : listed[i]? = some false := by
        rw [Array.getD_eq_getD_getElem?, Array.getElem?_eq_getElem hils] at h2
        rw [Array.getElem?_eq_getElem hils]
        simpa using h2
      have hn : doneOf listed i = false := by
        unfold doneOf
        rw [Array.getD_eq_getD_getElem?, hf]; rfl
      have hd : Direct opsA.toList (doneOf listed) i := fun o e' ho he' hb => h3 o (by simpa using ho) e' he' hb
      refine step_any hk r h00 hio hlo hnx hchk hS hil hn hd inv _ (fun e' a' inv' => ?_)
      rw [← doneOf_set hils] at inv'
      refine ih _ e' a' (by simpa using hl) ?_ ?_ inv'
      · have := undone_set hils hf; omega
      · intro j hj o e2 ho he2 hb
        rw [doneOf_set hils] at hj ⊢
        have key : doneOf listed e2.on = true := by
          unfold addS at hj
          by_cases hji : j = i
          · subst hji; exact hd o e2 ho he2 hb
          · rw [if_neg hji] at hj; exact hS j hj o e2 ho he2 hb
        unfold addS
        split
        · rfl
        · exact key

theorem dreg_sound (hm : P.follows .mixedOrders = true) (hk : CallOK P G call) (hlen : l.length = opsA.size) (hcd : chkD na opsA.toList (predsGo opsA.toList []) l = true)
    (hio : ∀ (i : Nat) (ao : AO), l[i]? = some ao → ∃ o, opsA[i]? = some o ∧ IsO P G nt opsA ao o)
    {rid : Nat} {e : Env} {a : Act} {fr fr' : T AV} {h' : H} (hr : evDreg call na (drawOf (predsGo opsA.toList []) l) fr e.h = some (fr', h')) (hs : St e) (hf : FrRel e fr a.tmps) (hg : GRel G e) (hsz : a.tmps.size = nt)
    (kq : ∀ a' e', e'.h = h' → St e' → Ext e e' → FrRel e' fr' a'.tmps → a'.tmps.size = nt → a'.defers = a.defers → Q .normal a' e'.w) : (Code.region rid opsA true).wp P Q a e.w := by
  unfold evDreg at hr
  cases hev : evD call e.h.next na (drawOf (predsGo opsA.toList []) l) ⟨fr, ⟨⟨Nat.add e.h.next na, e.h.t⟩, []⟩, [], [], []⟩ with
  | none => rw [hev] at hr; cases hr
  | some s =>
    rw [hev] at hr
    have hr : cd (List.rec true (fun _ _ _ => chkAll (revOnto s.old [s.cur]) s.mks s.rs) s.rs) (some (s.fr, puts (selC s.cur.cons s.mks) s.cur.h)) none = some (fr', h') := hr
    have hchk : chkAll (hsOf s) s.mks s.rs = true := by
      cases hrs : s.rs with
      | nil => rfl
      | cons x xs =>
        rw [hrs] at hr
        have hr : cd (chkAll (revOnto s.old [s.cur]) s.mks (x :: xs)) (some (s.fr, puts (selC s.cur.cons s.mks) s.cur.h)) none = some (fr', h') := hr
        cases hc : chkAll (revOnto s.old [s.cur]) s.mks (x :: xs) with
        | false => rw [hc] at hr; cases hr
        | true => exact hc
    have hres : s.fr = fr' ∧ puts (selC s.cur.cons s.mks) s.cur.h = h' := by
      generalize (List.rec true (fun _ _ _ => chkAll (revOnto s.old [s.cur]) s.mks s.rs) s.rs : Bool) = b at hr
      cases b with
      | false => cases hr
      | true =>
        have := Option.some.inj (show some (s.fr, puts (selC s.cur.cons s.mks) s.cur.h) = some (fr', h') from hr)
        exact ⟨congrArg Prod.fst this, congrArg Prod.snd this⟩
    obtain ⟨rfl, rfl⟩ := hres
    obtain ⟨σ, val, hσ0, hσn, hsi⟩ := evD_states hev
    have hlD : (drawOf (predsGo opsA.toList []) l).length = l.length := by simp [drawOf]
    rw [hlD] at hσn
    have run : Run call e.h.next na opsA.toList l σ val := {
      stat := chkD_stat (by simpa using hlen) hcd
      si := fun i o ho => hsi i _ (drawOf_get ho)
      mk0 := by rw [hσ0]
      cons0 := by rw [hσ0]
      old0 := by rw [hσ0]
      free0 := fun k hk => by
        rw [hσ0]
        show e.h.get (path (e.h.next + k)) = none
        cases hgk : e.h.get (path (e.h.next + k)) with
        | none => rfl
        | some b =>
          obtain ⟨k', h1, h2⟩ := hs.num hgk
          have := path_inj h2
          omega }
    let w1 : World := { e.w with drawn := e.w.drawn + 1 }
    let e0 : Env := ⟨e.ρ, ⟨e.h.next + na, e.h.t⟩, w1, e.F⟩
    have st0 : St e0 := heap_st (bump_st hs na) (w' := w1) rfl ⟨rfl, rfl, rfl⟩
    have ext0 : Ext e e0 := (bump_ext e na).trans (heap_ext (e := e.bump na) (w' := w1) rfl ⟨rfl, rfl, rfl⟩)
    refine wp_region_any hm (any_sound (e0 := e0) (a0 := a) (base := e.h.next) (fr0 := fr) hk run (by rw [hσ0]) hio hs.lo (Nat.le_refl _) (by rw [hσn]; exact hchk) ?_ opsA.size (Array.replicate opsA.size false) e0 a (by simp [hlen]) ?_ ?_ ?_)
    · intro S e' a' hall inv
      obtain ⟨m, hh⟩ := inv.hs
      have hcur : (σ m).cur = s.cur := by
        rw [← hσn]
        refine run.cur_eq hh.le (Nat.le_refl _) (fun x hx => ?_)
        have hlt := isX_lt hx
        rw [← hh.mom x hx]
        exact ⟨fun _ => hlt, fun _ => hall x hlt⟩
      have hsame : Same e'.h (puts (selC s.cur.cons s.mks) s.cur.h) := by
        refine ⟨by rw [puts_next, hh.next, hcur], fun id => ?_⟩
        have inAll : ∀ p ∈ (σ l.length).mks, inS l S p.k := fun p hp => by
          obtain ⟨_, b, h1, h2, h3, _⟩ := run.mk_from _ (Nat.le_refl _) p hp
          exact ⟨b, hall b h1, h2, h3⟩
        by_cases hex : ∃ p ∈ selC s.cur.cons s.mks, p.id = id
        · obtain ⟨p, hp, rfl⟩ := hex
          have hp' := mem_selC.1 hp
          rw [← hσn] at hp'
          rw [puts_mem hp, hh.mem p hp'.1 (inAll p hp'.1) (by rw [hcur, ← hσn]; exact hp'.2)]
          intro q hq he
          have hq' := mem_selC.1 hq
          rw [← hσn] at hq'
          rw [(run.mk_from _ (Nat.le_refl _) p hp'.1).1, (run.mk_from _ (Nat.le_refl _) q hq'.1).1] at he
          have := path_inj he
          rw [run.mk_unique _ (Nat.le_refl _) q hq'.1 p hp'.1 (by omega)]
        · rw [puts_not (fun p hp he => hex ⟨p, hp, he⟩), hh.rest id, hcur]
          intro p hp _ hc he
          rw [hσn] at hp; rw [hcur] at hc
          exact hex ⟨p, mem_selC.2 ⟨hp, hc⟩, he⟩
      refine kq a' ⟨e'.ρ, puts (selC s.cur.cons s.mks) s.cur.h, e'.w, e'.F⟩ rfl (hsame.st inv.st) ((ext0.trans inv.ext).trans hsame.ext) (fun k => ?_) inv.size inv.defers
      have hfr : getV s.fr (path k) = getV (frS l val fr S l.length) (path k) := by
        rw [← hσn, run.fr_eq fr (by rw [hσ0]) _ (Nat.le_refl _)]
        exact frS_agree (fun j hj _ => by rw [hall j hj]; simpa using hj)
      rw [hfr]
      exact Rel.ext hsame.ext _ _ (inv.fr k)
    · unfold undone
      rw [Array.toList_replicate]
      generalize opsA.size = n
      induction n with
      | zero => rfl
      | succ n ih => rw [List.replicate_succ, List.countP_cons]; simp [ih]
    · intro i hi
      unfold doneOf at hi
      rw [Array.getD_eq_getD_getElem?] at hi
      exfalso
      by_cases h : i < opsA.size
      · rw [Array.getElem?_replicate, if_pos h] at hi; cases hi
      · rw [Array.getElem?_replicate, if_neg h] at hi; cases hi
    · have hS0 : doneOf (Array.replicate opsA.size false) = fun _ => false := by
        funext i
        unfold doneOf
        rw [Array.getD_eq_getD_getElem?, Array.getElem?_replicate]
        split <;> rfl
      rw [hS0]
      have hfr0 : ∀ m, frS l val fr (fun _ => false) m = fr := by
        intro m
        induction m with
        | zero => rfl
        | succ m ih => simp only [frS]; rw [if_neg (by simp)]; exact ih
      refine ⟨st0, Ext.refl _, hg.ext ext0, by rw [hfr0]; exact hf.ext ext0, hsz, rfl, 0, ?_⟩
      refine ⟨fun x _ => by simp, Nat.zero_le _, by rw [hσ0]; rfl, ?_, ?_⟩
      · rintro p _ ⟨b, hb, _⟩; cases hb
      · intro id _; rw [hσ0]; rfl
end
end Go.Ev
