/- strconv.FormatInt at base 10: what it gives, for the kernel's evaluation; and that it is what the shelf's word says. -/
import Derived.Test.YtghnkhippmmdmaaGreatDoorRows
import Derived.Test.YtghnkhippmmdmaaGreatDoorEvG
import Derived.Shelf.Strconv.Itoa4
set_option linter.unusedVariables false
set_option linter.unusedSimpArgs false
set_option linter.all false

namespace Go.Proofs
def Tryz.lays173_ren : Go.Shelf.Ren := ⟨fun | 173 => 233 | 246 => 286 | 283 => 349 | 284 => 350 | 285 => 351 | 286 => 352 | 129 => 313 | 317 => 384 | 318 => 385 | 319 => 386 | 320 => 387 | 337 => 412 | 338 => 413 | n => n, fun | 2 => 2 | 3 => 3 | 9 => 9 | 4 => 4 | 171 => 393 | 0 => 0 | 53 => 256 | 37 => 22 | 5 => 5 | 173 => 395 | 212 => 419 | 51 => 268 | 20 => 20 | 213 => 420 | 46 => 220 | 232 => 454 | 233 => 455 | n => n, fun | 17 => 1 | 18 => 4 | 19 => 5 | n => n⟩
theorem Tryz.lays173 : Go.Proofs.LaysM.n173 Tryz.prog Tryz.lays173_ren where
  mixed := by kernel_rfl
  f129 := Tryz.func313.trans (congrArg some (by kernel_rfl))
  f173 := Tryz.func233.trans (congrArg some (by kernel_rfl))
  f246 := Tryz.func286.trans (congrArg some (by kernel_rfl))
  f283 := Tryz.func349.trans (congrArg some (by kernel_rfl))
  f284 := Tryz.func350.trans (congrArg some (by kernel_rfl))
  f285 := Tryz.func351.trans (congrArg some (by kernel_rfl))
  f286 := Tryz.func352.trans (congrArg some (by kernel_rfl))
  f317 := Tryz.func384.trans (congrArg some (by kernel_rfl))
  f318 := Tryz.func385.trans (congrArg some (by kernel_rfl))
  f319 := Tryz.func386.trans (congrArg some (by kernel_rfl))
  f320 := Tryz.func387.trans (congrArg some (by kernel_rfl))
  f337 := Tryz.func412.trans (congrArg some (by kernel_rfl))
  f338 := Tryz.func413.trans (congrArg some (by kernel_rfl))
  t0 := Tryz.underlying0
  a0 := Tryz.isAgg0
  z0 := Tryz.sizeOf0
  v0 := Tryz.zeroValue0
  t2 := Tryz.underlying2
  a2 := Tryz.isAgg2
  z2 := Tryz.sizeOf2
  v2 := Tryz.zeroValue2
  t3 := Tryz.underlying3
  a3 := Tryz.isAgg3
  z3 := Tryz.sizeOf3
  v3 := Tryz.zeroValue3
  t4 := Tryz.underlying4
  a4 := Tryz.isAgg4
  z4 := Tryz.sizeOf4
  v4 := Tryz.zeroValue4
  t5 := Tryz.underlying5
  a5 := Tryz.isAgg5
  z5 := Tryz.sizeOf5
  v5 := Tryz.zeroValue5
  t9 := Tryz.underlying9
  a9 := Tryz.isAgg9
  z9 := Tryz.sizeOf9
  v9 := Tryz.zeroValue9
  t20 := Tryz.underlying20
  a20 := Tryz.isAgg20
  z20 := Tryz.sizeOf20
  v20 := Tryz.zeroValue20
  t37 := Tryz.underlying22
  a37 := Tryz.isAgg22
  z37 := Tryz.sizeOf22
  v37 := Tryz.zeroValue22
  t46 := Tryz.underlying220
  a46 := Tryz.isAgg220
  z46 := Tryz.sizeOf220
  v46 := Tryz.zeroValue220
  t51 := Tryz.underlying268
  a51 := Tryz.isAgg268
  z51 := Tryz.sizeOf268
  v51 := Tryz.zeroValue268
  t53 := Tryz.underlying256
  a53 := Tryz.isAgg256
  z53 := Tryz.sizeOf256
  v53 := Tryz.zeroValue256
  t171 := Tryz.underlying393
  a171 := Tryz.isAgg393
  z171 := Tryz.sizeOf393
  v171 := Tryz.zeroValue393
  t173 := Tryz.underlying395
  a173 := Tryz.isAgg395
  z173 := Tryz.sizeOf395
  v173 := Tryz.zeroValue395
  t212 := Tryz.underlying419
  a212 := Tryz.isAgg419
  z212 := Tryz.sizeOf419
  v212 := Tryz.zeroValue419
  t213 := Tryz.underlying420
  a213 := Tryz.isAgg420
  z213 := Tryz.sizeOf420
  t232 := Tryz.underlying454
  a232 := Tryz.isAgg454
  z232 := Tryz.sizeOf454
  v232 := Tryz.zeroValue454
  t233 := Tryz.underlying455
  a233 := Tryz.isAgg455
  z233 := Tryz.sizeOf455
  v233 := Tryz.zeroValue455
  g17 := by kernel_rfl
  g18 := by kernel_rfl
  g19 := by kernel_rfl
  i0 := by kernel_rfl
  i2 := by kernel_rfl
  i3 := by kernel_rfl
  i4 := by kernel_rfl
  i5 := by kernel_rfl
  i9 := by kernel_rfl
  i20 := by kernel_rfl
  i37 := by kernel_rfl
  i46 := by kernel_rfl
  i51 := by kernel_rfl
  i53 := by kernel_rfl
  i171 := by kernel_rfl
  i173 := by kernel_rfl
  i212 := by kernel_rfl
  i232 := by kernel_rfl
  i233 := by kernel_rfl
  m17 := by kernel_rfl
  m18 := by kernel_rfl
  m19 := by kernel_rfl
end Go.Proofs
namespace Go.Ev
open Go.Proofs Go.Shelf Go.Sort

/-- The decimal digits of a number, onto a list. -/
noncomputable def decA (k : Nat) : Nat → List Nat → List Nat :=
  Nat.rec (motive := fun _ => Nat → List Nat → List Nat) (fun _ a => a) (fun _ ih u a => cd (Nat.blt u 10) (Nat.add 48 u :: a) (ih (Nat.div u 10) (Nat.add 48 (Nat.mod u 10) :: a))) k

theorem decA_lt : ∀ (k u : Nat) (a : List Nat), (∀ c ∈ a, c < 256) → ∀ c ∈ decA k u a, c < 256
  | 0, u, a, ha => ha
  | k + 1, u, a, ha => by
    have h : decA (k + 1) u a = cd (Nat.blt u 10) (Nat.add 48 u :: a) (decA k (u / 10) (Nat.add 48 (u % 10) :: a)) := rfl
    rw [h]
    cases hb : Nat.blt u 10 with
    | true =>
      have hlt : u < 10 := Nat.lt_of_succ_le (by simpa [Nat.blt] using hb)
      intro c hc
      have hc : c ∈ Nat.add 48 u :: a := hc
      rcases List.mem_cons.1 hc with rfl | hc
      · show 48 + u < 256; omega
      · exact ha c hc
    | false =>
      refine decA_lt k (u / 10) _ (fun c hc => ?_)
      rcases List.mem_cons.1 hc with rfl | hc
      · show 48 + u % 10 < 256; omega
      · exact ha c hc

theorem decA_eq : ∀ (k u : Nat) (a : List Nat), u < 10 ^ k → 0 < k → U (decA k u a) = Lib.decDigits u ++ U a
  | 0, u, a, h, hk => by omega
  | k + 1, u, a, hu, _ => by
    have h : decA (k + 1) u a = cd (Nat.blt u 10) (Nat.add 48 u :: a) (decA k (u / 10) (Nat.add 48 (u % 10) :: a)) := rfl
    rw [h]
    cases hb : Nat.blt u 10 with
    | true =>
      have hlt : u < 10 := Nat.lt_of_succ_le (by simpa [Nat.blt] using hb)
      rw [Lib.decDigits, dif_pos hlt]
      rfl
    | false =>
      have hge : ¬ u < 10 := fun hlt => by
        have : Nat.blt u 10 = true := by simpa [Nat.blt] using Nat.succ_le_of_lt hlt
        rw [this] at hb; cases hb
      have hk : 0 < k := by
        rcases Nat.eq_zero_or_pos k with rfl | h
        · simp at hu; omega
        · exact h
      rw [Lib.decDigits, dif_neg hge]
      show U (decA k (u / 10) (Nat.add 48 (u % 10) :: a)) = _
      rw [decA_eq k (u / 10) _ (Nat.div_lt_of_lt_mul (by rw [Nat.pow_succ, Nat.mul_comm] at hu; exact hu)) hk]
      simp [U]

noncomputable def xFmt (l : List AV) : Option AV := match l with
  | [.i .i64 (.ofNat n), .i .i64 (.ofNat 10)] => cd (Nat.ble n 9223372036854775807) (some (.s (len (decA 19 n [])) (decA 19 n []))) none
  | _ => none

theorem enters233 : ∀ args w, (callFunc 233 args).run Tryz.prog w = .ok (.enter 233 args) w := enters_of Tryz.func233 (by kernel_rfl) rfl

section
variable {P : Program}

/-- A contract that only adds to the world. -/
theorem Does.of_grow {f : Nat} {vs : Array Value} {e : Env} {v : AV} {cv : Value} (he : ∀ args w, (callFunc f args).run P w = .ok (.enter f args) w)
    (hc : Calls P f vs e.w fun x w' => x = .returned cv ∧ ∃ k os, w' = grow (e.w.drewN k) os) (hs : St e) (hr : ∀ e', Rel e' v cv) :
    Does P f vs e.w (fun cv w' => ∃ e', e'.w = w' ∧ e'.h = e.h ∧ St e' ∧ Ext e e' ∧ Rel e' v cv) := by
  refine .inr ⟨he _ _, hc.mono ?_⟩
  rintro x w' ⟨rfl, k, os, rfl⟩
  let e' : Env := ⟨e.ρ, e.h, grow (e.w.drewN k) os, e.F⟩
  have hkeep : ∀ b, b < e.w.heap.size → e'.w.heap[b]? = e.w.heap[b]? := fun b hb => heap_grow_old (e.w.drewN k) os hb
  have hx : Ext e e' := {
    next := Nat.le_refl _
    kn := fun _ h => h
    ren := fun _ _ => rfl
    fr := rfl
    qt := ⟨rfl, rfl, rfl⟩
    heap := by show e.w.heap.size ≤ (e.w.heap ++ os).size; simp
    keep := fun b hb _ => hkeep b hb
    size := fun b hb => by simp only [bsize, hkeep b hb]
    own := fun _ _ h => h
    pres := fun _ b h => ⟨b, h⟩
    newk := fun _ h => .inl h }
  have hs' : St e' := {
    kn := hs.kn
    dk := hs.dk
    lo := hs.lo
    blk := fun id b hb => by
      by_cases hd : b = .dead
      · subst hd; trivial
      · exact BlkRel.ext hx (hs.dk id b hb) (hkeep _ (hs.lt ⟨b, hb, hd⟩)) b (hs.blk id b hb)
    inj := hs.inj
    fr := fun b hb => ⟨Nat.lt_of_lt_of_le (hs.fr b hb).1 hx.heap, (hs.fr b hb).2⟩ }
  exact ⟨cv, rfl, e', rfl, rfl, hs', hx, hr e'⟩
end

/-- The name of the table of powers of ten. -/
def powName : String := YtghnkhippmmdmaaGreatDoor.Rows.fnNakedRow.named.getD 3 default
theorem tab_of {e : Env} {m : Int} (hg : GRel (Gm m) e) : Lib.TabIs Tryz.prog e.w powName .u64 Lib.pow10Tab := by
  obtain ⟨h1, h2⟩ := hg 1 powC rfl
  simp only [Rel] at h1
  obtain ⟨b, o, hv, hi, hcs⟩ := h1
  injection hv with hv; injection hv with hv; injection hv with g1 g2
  subst g1
  obtain rfl : o = 0 := by omega
  have hsz : bsize e.w 1 = 20 := h2
  unfold bsize at hsz
  split at hsz
  · rename_i c el fr hb
    have hn : Tryz.prog.globalNamed powName = some 1 := Tryz.lays173.m17
    unfold Lib.TabIs World.var?
    rw [hn]
    show (match e.w.heap[1]? with | some (.cells cs _ _) => some cs | _ => none) = _
    rw [hb]
    show some c = _
    congr 1
    apply Array.ext
    · rw [hsz]; rfl
    · intro i hi1 hi2
      have hlt : i < 20 := by omega
      have hx : powC[i]? = some (AV.i .u64 (.ofNat (10 ^ i))) := by
        have hall : ∀ k : Fin 20, powC[k.1]? = some (AV.i .u64 (.ofNat (10 ^ k.1))) := fun k => by
          rcases k with ⟨k, hk⟩
          simp only [powC, List.map_cons, List.map_nil]
          rcases k with _ | _ | _ | _ | _ | _ | _ | _ | _ | _ | _ | _ | _ | _ | _ | _ | _ | _ | _ | _ | k <;> first | rfl | omega
        exact hall ⟨i, hlt⟩
      obtain ⟨_, u, hu, hru⟩ := RelCells.get hcs hx
      simp only [Rel] at hru
      subst hru
      simp only [World.cell?, hb] at hu
      have hu : c[0 + i]? = some (Value.int .u64 (.ofNat (10 ^ i))) := by simpa using hu
      rw [Nat.zero_add, Array.getElem?_eq_getElem hi1] at hu
      have := Option.some.inj hu
      rw [this]
      simp [Lib.pow10Tab]
  · omega

theorem xFmt_sound (m : Int) : ∀ args v, xFmt args = some v → ∀ e vs, St e → GRel (Gm m) e → RelL e args vs →
    Does Tryz.prog 233 vs.toArray e.w (fun cv w' => ∃ e', e'.w = w' ∧ e'.h = e.h ∧ St e' ∧ Ext e e' ∧ Rel e' v cv) := by
  intro args v hx e vs hs hg hr
  unfold xFmt at hx
  split at hx
  · rename_i n
    obtain ⟨u, u', rfl, h1, h2⟩ := rel2 hr
    simp only [Rel] at h1 h2
    subst h1 h2
    cases hb : Nat.ble n 9223372036854775807 with
    | false => rw [hb] at hx; cases hx
    | true =>
      rw [hb] at hx
      obtain rfl := Option.some.inj (show some (AV.s (len (decA 19 n [])) (decA 19 n [])) = some v from hx)
      have hle := Nat.le_of_ble_eq_true hb
      refine Does.of_grow enters233 (Any.strconv_FormatInt_10 Tryz.lays173 (.ofNat n) (by show (-9223372036854775808 : Int) ≤ (n : Int); omega) (by show (n : Int) ≤ 9223372036854775807; omega) e.w (tab_of hg)) hs (fun e' => ?_)
      simp only [Rel]
      refine ⟨len_eq _, decA_lt 19 n [] (fun c hc => by cases hc), ?_⟩
      have h := decA_eq 19 n [] (by omega) (by omega)
      simp only [U, List.map_nil, List.append_nil] at h
      simp only [strOf]
      rw [h]
      have : Lib.itoa (Int.ofNat n) = Lib.decDigits n := by
        unfold Lib.itoa
        rw [if_neg (by show ¬ ((n : Int) < 0); omega)]
        rfl
      rw [this]
  · cases hx
end Go.Ev
