/- slices.AppendSeq over an iterator of a slice that is nil: nothing is appended. -/
import Derived.Test.YtghnkhippmmdmaaGreatDoorEvFmt
import Derived.Handy
import Derived.Shelf.SlIter.Collect
set_option linter.unusedVariables false
set_option linter.unusedSimpArgs false
set_option linter.all false

namespace Go.Proofs
def Tryz.laysZ11_ren : Go.Shelf.Ren := ⟨fun | 11 => 256 | n => n, fun | 24 => 23 | 26 => 9 | 28 => 208 | 0 => 0 | 33 => 110 | 4 => 4 | n => n, fun | n => n⟩
theorem Tryz.laysZ11 : Go.Proofs.SlLaysZ.n11 Tryz.prog Tryz.laysZ11_ren where
  mixed := by kernel_rfl
  f11 := ⟨ "slices.AppendSeq[[]string,string]", by decide, Tryz.func256.trans (congrArg some (by kernel_rfl))⟩
  t0 := Tryz.underlying0
  a0 := Tryz.isAgg0
  z0 := Tryz.sizeOf0
  v0 := Tryz.zeroValue0
  t24 := Tryz.underlying23
  a24 := Tryz.isAgg23
  z24 := Tryz.sizeOf23
  v24 := Tryz.zeroValue23
  t26 := Tryz.underlying9
  a26 := Tryz.isAgg9
  z26 := Tryz.sizeOf9
  v26 := Tryz.zeroValue9
  t28 := Tryz.underlying208
  a28 := Tryz.isAgg208
  z28 := Tryz.sizeOf208
  v28 := Tryz.zeroValue208
  i26 := by kernel_rfl

theorem vals_nil (l : Nat) (b : Nat) (W : World) (hm : W.cell? ⟨b, 0, none⟩ = some (.slice none 0 0)) :
    Calls Tryz.prog 193 #[.func (.yield l) #[] #[], .pointer (some ⟨b, 0, none⟩)] W fun e W' => (∃ v, e = .returned v) ∧ W' = W := by
  go_enter Tryz.func193, Tryz.ntmps193
  go_wp2
  refine wp_loop_rounds 1 ?_
  rw [rounds_succ]
  go_wp2
  go_end0
  exact ⟨⟨_, rfl⟩, rfl⟩
end Go.Proofs
namespace Go.Ev
open Go.Proofs Go.Shelf Go.Sort

theorem enters193 : ∀ args w, (callFunc 193 args).run Tryz.prog w = .ok (.enter 193 args) w := enters_of Tryz.func193 (by kernel_rfl) rfl
theorem enters256 : ∀ args w, (callFunc 256 args).run Tryz.prog w = .ok (.enter 256 args) w := enters_of Tryz.func256 (by kernel_rfl) rfl

theorem vals_gives (b : Nat) (w : World) (hb : b < w.heap.size) (hm : w.cell? ⟨b, 0, none⟩ = some (.slice none 0 0)) :
    SeqGives Fence.wide 4 Tryz.prog 193 #[.pointer (some ⟨b, 0, none⟩)] encStr (fun ss : List (List UInt8) => ss = []) 0 w := fun l J W hW _ _ h0 => by
  rw [callsIn_wide]
  refine (vals_nil l b W ((hW.cell (p := ⟨b, 0, none⟩) hb).trans hm)).mono ?_
  rintro e W' ⟨hv, rfl⟩
  exact ⟨hv, [], rfl, h0⟩

noncomputable def nilIn (x : AV) (h : H) : Bool := match x with
  | .p id 0 => match h.get id with
    | some (.cs _ [.v (.slice none 0 0)] _) => true
    | _ => false
  | _ => false
noncomputable def xApS (l : List AV) (h : H) : Option AV := match l with
  | [.v (.slice none 0 0), .f (.func 193) [] [x]] => cd (nilIn x h) (some (.v (.slice none 0 0))) none
  | _ => none

theorem nilIn_sound {e : Env} {x : AV} {v : Value} (hs : St e) (h : nilIn x e.h = true) (hr : Rel e x v) : ∃ b, v = .pointer (some ⟨b, 0, none⟩) ∧ b < e.w.heap.size ∧ e.w.cell? ⟨b, 0, none⟩ = some (.slice none 0 0) := by
  unfold nilIn at h
  split at h
  · rename_i id
    split at h
    · rename_i el fz hg
      have hb := hs.blk id _ hg
      have hlive : live e.h id := ⟨_, hg, by simp⟩
      obtain ⟨c, fr, hb1, hb2, hb3, hb4, hb5⟩ := hb
      simp only [Rel] at hr
      obtain ⟨_, u, hu, hru⟩ := hb3 0 _ rfl
      simp only [Rel] at hru
      refine ⟨(e.ρ id).1, by rw [hr.2, hb5], hs.lt hlive, ?_⟩
      rw [hb5] at hu
      simp only [World.cell?, hb1]
      simpa [hru] using hu
    · cases h
  · cases h

section
variable {P : Program}

/-- A contract that keeps what there is. -/
theorem Does.of_keep {f : Nat} {vs : Array Value} {e : Env} {v : AV} {cv : Value} (he : ∀ args w, (callFunc f args).run P w = .ok (.enter f args) w)
    (hc : Calls P f vs e.w fun x w' => x = .returned cv ∧ e.w.heap.size ≤ w'.heap.size ∧ (∀ b, b < e.w.heap.size → w'.heap[b]? = e.w.heap[b]?) ∧ Qt e.w w') (hs : St e) (hr : ∀ e', Rel e' v cv) :
    Does P f vs e.w (fun cv w' => ∃ e', e'.w = w' ∧ e'.h = e.h ∧ St e' ∧ Ext e e' ∧ Rel e' v cv) := by
  refine .inr ⟨he _ _, hc.mono ?_⟩
  rintro x w' ⟨rfl, hsz, hkeep, hq⟩
  let e' : Env := ⟨e.ρ, e.h, w', e.F⟩
  have hx : Ext e e' := {
    next := Nat.le_refl _
    kn := fun _ h => h
    ren := fun _ _ => rfl
    fr := rfl
    qt := hq
    heap := hsz
    keep := fun b hb _ => hkeep b hb
    size := fun b hb => by simp only [bsize]; rw [hkeep b hb]
    own := fun _ _ h => h
    pres := fun _ b h => ⟨b, h⟩
    newk := fun _ h => .inl h }
  have hs' : St e' := {
    kn := hs.kn
    dk := hs.dk
    lo := hs.lo
    blk := fun id b hb => by
      by_cases hd : b = .dead
      · subst hd; trivial
      · exact BlkRel.ext hx (hs.dk id b hb) (hkeep _ (hs.lt ⟨b, hb, hd⟩)) b (hs.blk id b hb)
    inj := hs.inj
    fr := fun b hb => ⟨Nat.lt_of_lt_of_le (hs.fr b hb).1 hx.heap, (hs.fr b hb).2⟩ }
  exact ⟨cv, rfl, e', rfl, rfl, hs', hx, hr e'⟩
end

theorem xApS_sound (m : Int) : ∀ args v e vs, xApS args e.h = some v → St e → GRel (Gm m) e → RelL e args vs →
    Does Tryz.prog 256 vs.toArray e.w (fun cv w' => ∃ e', e'.w = w' ∧ e'.h = e.h ∧ St e' ∧ Ext e e' ∧ Rel e' v cv) := by
  intro args v e vs hx hs hg hr
  unfold xApS at hx
  split at hx
  · rename_i x
    obtain ⟨u, u', rfl, h1, h2⟩ := rel2 hr
    simp only [Rel] at h1 h2
    obtain ⟨vs', ws, rfl, h3, h4⟩ := h2
    cases hb : nilIn x e.h with
    | false => rw [hb] at hx; cases hx
    | true =>
      rw [hb] at hx
      obtain rfl := Option.some.inj (show some (AV.v (.slice none 0 0)) = some v from hx)
      obtain ⟨vl⟩ := vs'
      obtain ⟨wl⟩ := ws
      have hv : vl = [] := by
        match vl, h3 with
        | [], _ => rfl
        | _ :: _, h => simp [RelL] at h
      subst hv
      obtain ⟨y, rfl, hy⟩ : ∃ y, wl = [y] ∧ Rel e x y := by
        match wl, h4 with
        | [], h => simp [RelL] at h
        | [y], h => simp only [RelL] at h; exact ⟨y, rfl, h.1⟩
        | _ :: _ :: _, h => simp [RelL] at h
      obtain ⟨b, rfl, hlt, hcell⟩ := nilIn_sound hs hb hy
      have hu : u = .slice none 0 0 := by simpa using h1.1
      subst hu
      have hc := callsIn_wide.1 (AnyZ.appendSeq_in Tryz.laysZ11 Fence.wide 5 trivial rfl (by omega) 193 #[.pointer (some ⟨b, 0, none⟩)] trivial enters193 (fun ss => ss = []) 0 (Nat.zero_le _) (by omega) e.w (vals_gives b e.w hlt hcell))
      refine Does.of_keep (cv := .slice none 0 0) enters256 (hc.mono ?_) hs (fun e' => ?_)
      · rintro x w' ⟨v', ss, rfl, rfl, _, hnil, hbl⟩
        exact ⟨by rw [hnil.2 rfl], hbl.size, hbl.block, hbl.os, hbl.tape, hbl.output⟩
      · simp only [Rel]; exact ⟨trivial, trivial⟩
  · cases hx
end Go.Ev
