/- Soundness: comparisons, sums, interfaces, function values, parts of aggregates, lengths. -/
import Derived.Test.YtghnkhippmmdmaaGreatDoorEvB
import Derived.Laws.Small
import Derived.Laws.Tables
set_option linter.unusedVariables false
set_option linter.unusedSimpArgs false

namespace Go.Ev

section
variable {P : Program} {G : Nat → Option (List AV)} {o : Oper} {e : Env} {a : Act} {fr : T AV} {call : CallF} {id : Nat} {ao : AOp} {v : AV} {h' : H}

theorem run_binS (op : BinOp) (t : TypeId) {n m : Nat} {l l' : List Nat} {r : AV} (hn : n = l.length) (hm : m = l'.length) (h1 : ∀ c ∈ l, c < 256) (h2 : ∀ c ∈ l', c < 256)
    (h : binS op n l m l' = some r) (w : World) :
    ∃ cv, (binOp op t (.string (strOf l)) (.string (strOf l'))).run P w = .ok cv w ∧ ∀ e, Rel e r cv := by
  have hlt : Op.bytesLess (strOf l).toList (strOf l').toList = sLt l l' := by rw [strOf_toList, strOf_toList]; exact strOf_lt h1 h2
  have heq := strOf_eq_iff h1 h2
  cases op with
  | add =>
    have h : cd (Nat.ble (Nat.add n m) 1099511627776) (some (AV.s (Nat.add n m) (cat l l'))) none = some r := h
    rw [cd_eq, ble_nat] at h
    by_cases hb : Nat.add n m ≤ 1099511627776
    case neg => rw [decide_eq_false hb] at h; cases h
    rw [decide_eq_true hb] at h
    obtain rfl := Option.some.inj (show some _ = some r from h)
    have hsum : l.length + l'.length ≤ 1099511627776 := by subst hn hm; exact hb
    refine ⟨.string (strOf l ++ strOf l'), ?_, fun e => ?_⟩
    · have hmax : ¬ (((strOf l).size + (strOf l').size : Nat) : Int) > IntKind.i64.max := by
        rw [strOf_size, strOf_size]
        have : IntKind.i64.max = 9223372036854775807 := rfl
        omega
      simp only [binOp, Op.stringOp, if_neg hmax, Sem.run_pure]
    · simp only [Rel, cat_eq]
      refine ⟨?_, ?_, by rw [strOf_append]⟩
      · subst hn hm; simp
      · intro c hc
        rcases List.mem_append.1 hc with hc | hc
        · exact h1 c hc
        · exact h2 c hc
  | eql => obtain rfl := Option.some.inj (show some _ = some r from h); exact ⟨_, by simp only [binOp, Op.stringOp, Sem.run_pure]; rfl, fun e => by simp only [Rel, heq, sEq_eq]⟩
  | neq => obtain rfl := Option.some.inj (show some _ = some r from h); exact ⟨_, by simp only [binOp, Op.stringOp, Sem.run_pure]; rfl, fun e => by simp only [Rel, heq, sEq_eq]⟩
  | lss => obtain rfl := Option.some.inj (show some _ = some r from h); exact ⟨_, by simp only [binOp, Op.stringOp, Sem.run_pure]; rfl, fun e => by simp only [Rel, hlt]⟩
  | leq => obtain rfl := Option.some.inj (show some _ = some r from h); exact ⟨_, by simp only [binOp, Op.stringOp, Sem.run_pure]; rfl, fun e => by simp only [Rel, hlt, heq, cd_eq, sEq_eq]; cases sLt l l' <;> simp⟩
  | gtr => obtain rfl := Option.some.inj (show some _ = some r from h); exact ⟨_, by simp only [binOp, Op.stringOp, Sem.run_pure]; rfl, fun e => by simp only [Rel, hlt, heq, cd_eq, sEq_eq]; cases sLt l l' <;> simp⟩
  | geq => obtain rfl := Option.some.inj (show some _ = some r from h); exact ⟨_, by simp only [binOp, Op.stringOp, Sem.run_pure]; rfl, fun e => by simp only [Rel, hlt]⟩
  | _ => cases h

theorem run_shI (op : BinOp) (t : TypeId) (k k' : IntKind) (m n : Int) (r : AV) (h : shI op k m n = some r) (w : World) :
    ∃ cv, (binOp op t (.int k m) (.int k' n)).run P w = .ok cv w ∧ ∀ e, Rel e r cv := by
  cases n with
  | negSucc n => cases op <;> cases h
  | ofNat n =>
    cases op <;> (try (cases h; done))
    · obtain rfl := Option.some.inj (show some _ = some r from h)
      refine ⟨.int k (k.wrap (m * 2 ^ (min n k.bits))), ?_, fun e => by simp [Rel]⟩
      have : ¬ (Int.ofNat n : Int) < 0 := by simp
      simp only [binOp, Op.shift, this, if_false, Sem.run_pure]
      rfl
    · obtain rfl := Option.some.inj (show some _ = some r from h)
      refine ⟨.int k (m.fdiv (2 ^ (min n k.bits))), ?_, fun e => by simp [Rel]⟩
      have : ¬ (Int.ofNat n : Int) < 0 := by simp
      simp only [binOp, Op.shift, this, if_false, Sem.run_pure]
      rfl

theorem sound_binNum {op : BinOp} {t t' : TypeId} {x y : Operand} {x' y' : Od} (hs : St e) (hf : FrRel e fr a.tmps) (hg : GRel G e) (ho : o.op = .binOp op t x y t')
    (hx : od G x = some x') (hy : od G y = some y') (hr : evOp call (.bin op x' y') fr e.h id = .ok v h') : OpS P o e a v h' := by
  have hr : okV e.h (binA op (ev x' fr) (ev y' fr)) = .ok v h' := hr
  have rx := od_rel hf hg hx
  have ry := od_rel hf hg hy
  obtain ⟨hq, rfl⟩ := okV_inv hr
  generalize ev x' fr = u at hq rx
  generalize ev y' fr = u' at hq ry
  cases u <;> (try (cases hq; done))
  · rename_i k m
    cases u' <;> (try (cases hq; done))
    rename_i k' n
    have hq : cd (isSh op) (shI op k m n) (cd (kEq k k') (binI op k m n) none) = some v := hq
    rw [cd_eq, cd_eq, kEq_eq] at hq
    have rx := rel_i rx
    have ry := rel_i ry
    by_cases hsh : isSh op = true
    · rw [if_pos hsh] at hq
      obtain ⟨cv, hrun, hrel⟩ := run_shI (P := P) op t k k' m n v hq e.w
      refine OpS.same hs (cv := cv) ?_ (hrel e)
      simp only [execOp, ho, rx, ry, Sem.run_bind, run_eqGuard_int, Result.andThen_ok, hrun, Sem.run_pure]
    · rw [if_neg hsh] at hq
      by_cases hk : k = k'
      · subst hk
        simp only [decide_true, if_true] at hq
        obtain ⟨cv, hrun, hrel⟩ := run_binI (P := P) op t k m n v (by simpa using hsh) hq e.w
        refine OpS.same hs (cv := cv) ?_ (hrel e)
        simp only [execOp, ho, rx, ry, Sem.run_bind, run_eqGuard_int, Result.andThen_ok, hrun, Sem.run_pure]
      · simp [hk] at hq
  · rename_i n l
    cases u' <;> (try (cases hq; done))
    rename_i m l'
    have hq : binS op n l m l' = some v := hq
    obtain ⟨hn, h1, rx⟩ := rel_s rx
    obtain ⟨hm, h2, ry⟩ := rel_s ry
    obtain ⟨cv, hrun, hrel⟩ := run_binS (P := P) op t hn hm h1 h2 hq e.w
    refine OpS.same hs (cv := cv) ?_ (hrel e)
    simp only [execOp, ho, rx, ry, Sem.run_bind, run_eqGuard_str, Result.andThen_ok, hrun, Sem.run_pure]

theorem isEq_inv {op : BinOp} {neg : Bool} (h : isEq op = some neg) : (op = .eql ∧ neg = false) ∨ (op = .neq ∧ neg = true) := by
  cases op <;> simp [isEq] at h <;> simp [h]

theorem sound_eqb {op : BinOp} {t t' : TypeId} {x y : Operand} {x' y' : Od} {neg : Bool} (hs : St e) (hf : FrRel e fr a.tmps) (hg : GRel G e) (ho : o.op = .binOp op t x y t')
    (hx : od G x = some x') (hy : od G y = some y') (hn : isEq op = some neg) (hd : P.underlying t = some .bool) (hr : evOp call (.o2 (.eqb neg x' y')) fr e.h id = .ok v h') : OpS P o e a v h' := by
  have hr : (match ev x' fr, ev y' fr with
      | .b x, .b y => .ok (.b (cd neg (!cd x y (!y)) (cd x y (!y)))) e.h
      | _, _ => .no : R) = .ok v h' := hr
  have rx := od_rel hf hg hx
  have ry := od_rel hf hg hy
  split at hr
  · rename_i b c hb hc
    rw [hb] at rx; rw [hc] at ry
    have rx := rel_b rx
    have ry := rel_b ry
    injection hr with h1 h2; subst h1 h2
    have hcd : cd b c (!c) = (b == c) := by cases b <;> cases c <;> rfl
    rcases isEq_inv hn with ⟨rfl, rfl⟩ | ⟨rfl, rfl⟩
    · refine OpS.same hs (cv := .bool (b == c)) ?_ (by simp only [Rel]; rw [hcd]; rfl)
      simp only [execOp, ho, rx, ry, Sem.run_bind, run_eqGuard_bool, Result.andThen_ok, run_eql_bool e.w t b c hd, Sem.run_pure]
    · refine OpS.same hs (cv := .bool (!(b == c))) ?_ (by simp only [Rel]; rw [hcd]; rfl)
      simp only [execOp, ho, rx, ry, Sem.run_bind, run_eqGuard_bool, Result.andThen_ok, run_neq_bool e.w t b c hd, Sem.run_pure]
  · exact absurd hr (by simp)

theorem sound_mkif {t : TypeId} {x : Operand} (hs : St e) (hf : FrRel e fr a.tmps) (hg : GRel G e) (ho : o.op = .makeInterface t x)
    (hc : compOp P G (.makeInterface t x) = some ao) (hr : evOp call ao fr e.h id = .ok v h') : OpS P o e a v h' := by
  simp only [compOp] at hc
  obtain ⟨d, hd, hc⟩ := bind_inv hc
  split at hc
  · simp at hc
  · rename_i hni
    obtain ⟨y, hy, rfl⟩ := map_inv hc
    have hr : R.ok (.ifc t (ev y fr)) e.h = .ok v h' := hr
    injection hr with h1 h2; subst h1 h2
    refine OpS.same hs (cv := .iface t (a.eval x)) ?_ (by simp only [Rel]; exact ⟨_, rfl, od_rel hf hg hy⟩)
    have : (Instr.makeInterface t (a.eval x)).run P e.w = .ok (.iface t (a.eval x)) e.w := by
      cases d <;> first | (exact absurd rfl (hni _)) | simp [Instr.makeInterface, run_underlying hd]
    simp [execOp, ho, this]

theorem sound_mkfn {fn : Fn} {xs ys : Array Operand} (hs : St e) (hf : FrRel e fr a.tmps) (hg : GRel G e) (ho : o.op = .makeFunc fn xs ys)
    (hc : compOp P G (.makeFunc fn xs ys) = some ao) (hr : evOp call ao fr e.h id = .ok v h') : OpS P o e a v h' := by
  simp only [compOp] at hc
  obtain ⟨xs', hx, hc⟩ := bind_inv hc
  obtain ⟨ys', hy, rfl⟩ := map_inv hc
  have hr : R.ok (.f fn (evs xs' fr) (evs ys' fr)) e.h = .ok v h' := hr
  injection hr with h1 h2; subst h1 h2
  refine OpS.same hs (cv := .func fn (xs.map a.eval) (ys.map a.eval)) ?_ ?_
  · simp [execOp, ho, Instr.makeFunc]
  · simp only [Rel]
    exact ⟨_, _, rfl, by simpa using ods_rel hf hg hx, by simpa using ods_rel hf hg hy⟩

theorem RelL.cut : ∀ {xs : List AV} {vs : List Value} (off n : Nat) {r : List AV}, RelL e xs vs → cut xs off n = some r → RelL e r ((vs.drop off).take n) := by
  intro xs vs off n r hl hc
  obtain ⟨hlen, hget⟩ := cut_get hc
  have hle := hl.len
  obtain ⟨us, h1, h2, h3⟩ := relL_of (e := e) r (fun j => vs[off + j]?) (fun j y hy => by
    have hj : j < n := by rw [← hlen]; exact (List.getElem?_eq_some_iff.1 hy).1
    rw [hget j hj] at hy
    exact hl.get hy)
  have : us = (vs.drop off).take n := by
    apply List.ext_getElem?
    intro j
    by_cases hj : j < n
    · rw [List.getElem?_take_of_lt hj, List.getElem?_drop]
      have hju : j < us.length := by omega
      rw [List.getElem?_eq_getElem hju]
      exact (h3 j _ (List.getElem?_eq_getElem hju)).symm
    · rw [List.getElem?_eq_none (by omega), List.getElem?_eq_none (by simp; omega)]
  rw [← this]; exact h1

end
end Go.Ev

/- Soundness: comparisons with nil, slices of slices and strings, parts of aggregates, lengths, conversions of strings. -/
namespace Go.Ev

def nilV : NK → Value
  | .sli => .slice none 0 0
  | .ptr => .pointer none
  | .map => .map none
  | .fn => .nilFunc
  | .ifc => .nilIface

def NonNil : NK → Value → Prop
  | .sli, v => ∃ a n c, v = .slice (some a) n c
  | .ptr, v => ∃ a, v = .pointer (some a)
  | .map, v => ∃ a, v = .map (some a)
  | .fn, v => ∃ f x y, v = .func f x y
  | .ifc, v => ∃ t x, v = .iface t x

def KindOf : NK → TypeDesc → Prop
  | .sli, d => ∃ e, d = .slice e
  | .ptr, d => ∃ e, d = .pointer e
  | .map, d => ∃ k e, d = .map k e
  | .fn, d => ∃ x y z, d = .func x y z
  | .ifc, d => ∃ ms, d = .interface ms

section
variable {P : Program} {G : Nat → Option (List AV)} {o : Oper} {e : Env} {a : Act} {fr : T AV} {call : CallF} {id : Nat} {ao : AOp} {v : AV} {h' : H}

theorem isNil_inv {k : NK} {x : AV} {cv : Value} {b : Bool} (hr : Rel e x cv) (h : isNil k x = some b) : (b = true → cv = nilV k) ∧ (b = false → NonNil k cv) := by
  unfold isNil at h
  split at h <;> first
    | (cases h; done)
    | (obtain rfl := Option.some.inj h
       simp only [Rel] at hr
       refine ⟨fun _ => hr.1, fun hb => absurd hb (by simp)⟩)
    | (obtain rfl := Option.some.inj h
       simp only [Rel] at hr
       refine ⟨fun hb => absurd hb (by simp), fun _ => ?_⟩
       first
         | (obtain ⟨_, ad, cap, hv, _⟩ := hr; exact ⟨_, _, _, hv⟩)
         | (obtain ⟨ad, cap, hv, _⟩ := hr; exact ⟨_, _, _, hv⟩)
         | (obtain ⟨ad, hv⟩ := hr; exact ⟨_, _, _, hv⟩)
         | (obtain ⟨_, hv⟩ := hr; exact ⟨_, hv⟩)
         | (obtain ⟨b, o', hv, _⟩ := hr; exact ⟨_, hv⟩)
         | (obtain ⟨vs, ws, hv, _⟩ := hr; exact ⟨_, _, _, hv⟩)
         | (obtain ⟨u, hv, _⟩ := hr; exact ⟨_, _, hv⟩))

theorem run_eq_nil {k : NK} {t : TypeId} {d : TypeDesc} (hd : P.underlying t = some d) (hk : KindOf k d) (w : World) (n : Nat) :
    ((Op.equalIn (n + 1) t (nilV k) (nilV k)).run P w = .ok true w) ∧ (∀ u, NonNil k u → (Op.equalIn (n + 1) t (nilV k) u).run P w = .ok false w ∧ (Op.equalIn (n + 1) t u (nilV k)).run P w = .ok false w) := by
  cases k <;> simp only [KindOf] at hk
  · obtain ⟨el, rfl⟩ := hk
    refine ⟨by simp [Op.equalIn, nilV, run_underlying hd], fun u hu => ?_⟩
    obtain ⟨ad, m, c, rfl⟩ := hu
    constructor <;> simp [Op.equalIn, nilV, run_underlying hd]
  · obtain ⟨el, rfl⟩ := hk
    refine ⟨by simp [Op.equalIn, nilV, run_underlying hd], fun u hu => ?_⟩
    obtain ⟨ad, rfl⟩ := hu
    constructor <;> simp [Op.equalIn, nilV, run_underlying hd]
  · obtain ⟨k, el, rfl⟩ := hk
    refine ⟨by simp [Op.equalIn, nilV, run_underlying hd], fun u hu => ?_⟩
    obtain ⟨ad, rfl⟩ := hu
    constructor <;> simp [Op.equalIn, nilV, run_underlying hd]
  · obtain ⟨x, y, z, rfl⟩ := hk
    refine ⟨by simp [Op.equalIn, nilV, run_underlying hd], fun u hu => ?_⟩
    obtain ⟨f, x', y', rfl⟩ := hu
    constructor <;> simp [Op.equalIn, nilV, run_underlying hd]
  · obtain ⟨ms, rfl⟩ := hk
    refine ⟨by simp [Op.equalIn, nilV, run_underlying hd], fun u hu => ?_⟩
    obtain ⟨t', x', rfl⟩ := hu
    constructor <;> simp [Op.equalIn, nilV, run_underlying hd]

theorem run_eq_same {t el : TypeId} {n : Nat} (hd : P.underlying t = some (.pointer el)) (hn : sizeOf? P el = some n) (h0 : n ≠ 0) (b o1 o2 : Nat) (w : World) (m : Nat) :
    (Op.equalIn (m + 1) t (.pointer (some ⟨b, o1, none⟩)) (.pointer (some ⟨b, o2, none⟩))).run P w = .ok (decide (o1 = o2)) w := by
  have hb : ((⟨b, o1, none⟩ : Addr) == ⟨b, o2, none⟩) = decide (o1 = o2) := by
    by_cases h : o1 = o2 <;> simp [h]
  simp [Op.equalIn, run_underlying hd, run_size hn, h0, sameAddr, hb]

theorem eqN_inv {k : NK} {x y : AV} {b : Bool} (h : eqN k x y = some b) :
    (∃ i off off', k = .ptr ∧ x = .p i off ∧ y = .p i off' ∧ b = decide (off = off')) ∨
    (isNil k x = some true ∧ isNil k y = some b) ∨ (isNil k x = some b ∧ isNil k y = some true) := by
  unfold eqN at h
  split at h
  · rename_i i off j off'
    rw [cd_eq, idEq_eq, beq_nat] at h
    by_cases hij : i = j
    · subst hij
      simp only [decide_true, if_true, Option.some.injEq] at h
      exact .inl ⟨i, off, off', rfl, rfl, rfl, h.symm⟩
    · simp [hij] at h
  · right
    split at h
    · rename_i r hx hy
      obtain rfl := Option.some.inj h
      exact .inl ⟨hx, hy⟩
    · rename_i r hx hy
      obtain rfl := Option.some.inj h
      exact .inr ⟨hx, hy⟩
    · cases h

/-- Neither a number, a string nor an aggregate. -/
def Plainish : Value → Prop
  | .pointer _ | .slice _ _ _ | .map _ | .func _ _ _ | .nilFunc | .iface _ _ | .nilIface => True
  | _ => False

theorem plain_nil (k : NK) : Plainish (nilV k) := by cases k <;> trivial
theorem plain_non {k : NK} {u : Value} (h : NonNil k u) : Plainish u := by
  cases k <;> simp only [NonNil] at h
  · obtain ⟨_, _, _, rfl⟩ := h; trivial
  · obtain ⟨_, rfl⟩ := h; trivial
  · obtain ⟨_, rfl⟩ := h; trivial
  · obtain ⟨_, _, _, rfl⟩ := h; trivial
  · obtain ⟨_, _, rfl⟩ := h; trivial

theorem run_eqGuard_plain (op : BinOp) (t : TypeId) (x y : Operand) {u u' : Value} (hu : Plainish u) (hu' : Plainish u') (hc : u = .nilIface → u' = .nilIface → (isConstO x || isConstO y) = true) (w : World) :
    (eqGuard op t x y u u').run P w = .ok () w := by
  have hcon : ∀ (hu0 : u = .nilIface) (hu0' : u' = .nilIface), ((match x with | .const _ => true | _ => false) || (match y with | .const _ => true | _ => false)) = true := by
    intro h1 h2
    have hc := hc h1 h2
    cases x <;> cases y <;> simp_all [isConstO]
  cases op <;> first
    | rfl
    | (cases u <;> simp only [Plainish] at hu <;> cases u' <;> simp only [Plainish] at hu' <;> first
        | rfl
        | (have h := hcon rfl rfl
           cases x <;> cases y <;> first
             | rfl
             | (simp at h; done)))

theorem run_binOp_eq {op : BinOp} {neg : Bool} (hn : isEq op = some neg) (t : TypeId) {u u' : Value} (hu : Plainish u) (hu' : Plainish u') {b : Bool} (w : World)
    (hr : (Op.equalIn (9999 + 1) t u u').run P w = .ok b w) : (binOp op t u u').run P w = .ok (.bool (cd neg (!b) b)) w := by
  have hr' : (Op.equal t u u').run P w = .ok b w := hr
  rcases isEq_inv hn with ⟨rfl, rfl⟩ | ⟨rfl, rfl⟩
  · have : binOp .eql t u u' = (do pure (.bool (← Op.equal t u u'))) := by
      cases u <;> simp only [Plainish] at hu <;> cases u' <;> simp only [Plainish] at hu' <;> rfl
    rw [this]; simp [hr', cd_eq]
  · have : binOp .neq t u u' = (do pure (.bool (!(← Op.equal t u u')))) := by
      cases u <;> simp only [Plainish] at hu <;> cases u' <;> simp only [Plainish] at hu' <;> rfl
    rw [this]; simp [hr', cd_eq]

theorem sound_eqn {op : BinOp} {t t' : TypeId} {x y : Operand} {x' y' : Od} {neg : Bool} {k : NK} {d : TypeDesc} (hs : St e) (hf : FrRel e fr a.tmps) (hg : GRel G e) (ho : o.op = .binOp op t x y t')
    (hx : od G x = some x') (hy : od G y = some y') (hn : isEq op = some neg) (hd : P.underlying t = some d) (hk : KindOf k d) (hp : ∀ el, d = .pointer el → ∃ n, sizeOf? P el = some n ∧ n ≠ 0)
    (hc : k = .ifc → (isConstO x || isConstO y) = true) (hr : evOp call (.o2 (.eqn neg k x' y')) fr e.h id = .ok v h') : OpS P o e a v h' := by
  have hr : (Option.rec .no (fun b => .ok (.b (cd neg (!b) b)) e.h) (eqN k (ev x' fr) (ev y' fr)) : R) = .ok v h' := hr
  have rx := od_rel hf hg hx
  have ry := od_rel hf hg hy
  cases hq : eqN k (ev x' fr) (ev y' fr) with
  | none => rw [hq] at hr; exact absurd (show R.no = .ok v h' from hr) (by simp)
  | some b =>
    rw [hq] at hr
    have hr : R.ok (.b (cd neg (!b) b)) e.h = .ok v h' := hr
    injection hr with h1 h2; subst h1 h2
    have key : ∀ u u', a.eval x = u → a.eval y = u' → Plainish u → Plainish u' → (u = .nilIface → u' = .nilIface → (isConstO x || isConstO y) = true) → (Op.equalIn (9999 + 1) t u u').run P e.w = .ok b e.w →
        OpS P o e a (.b (cd neg (!b) b)) e.h := by
      intro u u' h1 h2 p1 p2 hcc hrun
      refine OpS.same hs (cv := .bool (cd neg (!b) b)) ?_ (by simp [Rel])
      simp only [execOp, ho, h1, h2, Sem.run_bind, run_eqGuard_plain op t x y p1 p2 hcc, Result.andThen_ok, run_binOp_eq hn t p1 p2 e.w hrun, Sem.run_pure]
    have hcc : ∀ u u' : Value, (u = nilV k ∨ NonNil k u) → (u' = nilV k ∨ NonNil k u') → u = .nilIface → u' = .nilIface → (isConstO x || isConstO y) = true := by
      intro u u' hu _ he _
      apply hc
      subst he
      rcases hu with hu | hu
      · cases k <;> simp [nilV] at hu; rfl
      · cases k <;> simp [NonNil] at hu
    rcases eqN_inv hq with ⟨i, off, off', rfl, hxv, hyv, rfl⟩ | ⟨hxv, hyv⟩ | ⟨hxv, hyv⟩
    · rw [hxv] at rx; rw [hyv] at ry
      obtain ⟨el, rfl⟩ := hk
      obtain ⟨n, hsz, hn0⟩ := hp el rfl
      refine key _ _ (rel_p rx).2 (rel_p ry).2 trivial trivial (fun h => by simp at h) ?_
      rw [run_eq_same hd hsz hn0]
      congr 1
      exact decide_eq_decide.2 (by omega)
    · have h1 := (isNil_inv rx hxv).1 rfl
      have h2 := isNil_inv ry hyv
      have he := run_eq_nil hd hk e.w 9999
      cases b with
      | true => exact key _ _ h1 (h2.1 rfl) (plain_nil k) (plain_nil k) (hcc _ _ (.inl rfl) (.inl rfl)) he.1
      | false => exact key _ _ h1 rfl (plain_nil k) (plain_non (h2.2 rfl)) (hcc _ _ (.inl rfl) (.inr (h2.2 rfl))) (he.2 _ (h2.2 rfl)).1
    · have h1 := (isNil_inv ry hyv).1 rfl
      have h2 := isNil_inv rx hxv
      have he := run_eq_nil hd hk e.w 9999
      cases b with
      | true => exact key _ _ (h2.1 rfl) h1 (plain_nil k) (plain_nil k) (hcc _ _ (.inl rfl) (.inl rfl)) he.1
      | false => exact key _ _ rfl h1 (plain_non (h2.2 rfl)) (plain_nil k) (hcc _ _ (.inr (h2.2 rfl)) (.inl rfl)) (he.2 _ (h2.2 rfl)).2
end
end Go.Ev

/- Soundness: slices of strings and slices, parts of aggregates, lengths, conversions of strings. -/
namespace Go.Ev

section
variable {P : Program} {G : Nat → Option (List AV)} {o : Oper} {e : Env} {a : Act} {fr : T AV} {call : CallF} {id : Nat} {ao : AOp} {v : AV} {h' : H}

/-- An operand that may be missing, as a number. -/
def NumO (x : Option Value) (n : Option Nat) : Prop := (x = none ∧ n = none) ∨ ∃ k m, x = some (.int k (.ofNat m)) ∧ n = some m

theorem optN_inv (hf : FrRel e fr a.tmps) (hg : GRel G e) {x : Option Operand} {y : Option Od} (h : odo G x = some y) {n : Option Nat} (hn : optN y fr = some n) : NumO (x.map a.eval) n := by
  cases x with
  | none =>
    simp only [odo, Option.some.injEq] at h; subst h
    simp only [optN, Option.some.injEq] at hn; subst hn
    exact .inl ⟨rfl, rfl⟩
  | some x =>
    simp only [odo] at h
    obtain ⟨z, hz, rfl⟩ := map_inv h
    have hn : (Option.rec none (fun n => some (some n)) (asN (ev z fr)) : Option (Option Nat)) = some n := hn
    cases hm : asN (ev z fr) with
    | none => rw [hm] at hn; cases hn
    | some m =>
      rw [hm] at hn
      obtain rfl := Option.some.inj (show some (some m) = some n from hn)
      obtain ⟨k, hk⟩ := asN_inv hm
      have := od_rel hf hg hz
      rw [hk] at this
      exact .inr ⟨k, m, by rw [Option.map_some, rel_i this], rfl⟩

theorem run_sliceBound' (k : IntKind) (i y : Nat) (code : BoundsCode) (h : i ≤ y) (w : World) : (Instr.sliceBound (.int k (.ofNat i)) y code).run P w = .ok i w := by
  have h1 : (0 : Int) ≤ Int.ofNat i ∧ Int.ofNat i ≤ (y : Int) := by simp only [Int.ofNat_eq_natCast]; omega
  simp only [Instr.sliceBound, asIntOf, Sem.run_bind, Sem.run_pure, Result.andThen_ok, h1, and_self, if_true]
  rfl

theorem run_sliceBoundC (k : IntKind) (i y : Nat) (code : BoundsCode) (h : i ≤ y) (w : World) : (Instr.sliceBound (.int k (i : Int)) y code).run P w = .ok i w := run_sliceBound' k i y code h w

theorem run_sliceBounds {isS : Bool} {n cap : Nat} {lo hi mx : Option Value} {lo' hi' mx' : Option Nat} (hlo : NumO lo lo') (hhi : NumO hi hi') (hmx : NumO mx mx') (hm : hi' = none → mx' = none)
    (h1 : orN lo' 0 ≤ orN hi' n) (h2 : hi' = none ∨ orN hi' n ≤ orN mx' cap) (h3 : orN mx' cap ≤ cap) (w : World) :
    (Instr.sliceBounds isS n cap lo hi mx).run P w = .ok (orN lo' 0, orN hi' n, orN mx' cap) w := by
  rcases hmx with ⟨rfl, rfl⟩ | ⟨km, m, rfl, rfl⟩
  · rcases hhi with ⟨rfl, rfl⟩ | ⟨kh, h, rfl, rfl⟩
    · rcases hlo with ⟨rfl, rfl⟩ | ⟨kl, l, rfl, rfl⟩
      · simp [Instr.sliceBounds, orN]
      · have h1 : l ≤ n := h1
        simp [Instr.sliceBounds, orN, run_sliceBoundC kl l n _ h1]
    · have h2 : h ≤ cap := by rcases h2 with h2 | h2; · cases h2
                              · exact h2
      rcases hlo with ⟨rfl, rfl⟩ | ⟨kl, l, rfl, rfl⟩
      · simp [Instr.sliceBounds, orN, run_sliceBoundC kh h cap _ h2]
      · have h1 : l ≤ h := h1
        simp [Instr.sliceBounds, orN, run_sliceBoundC kh h cap _ h2, run_sliceBoundC kl l h _ h1]
  · have h3 : m ≤ cap := h3
    rcases hhi with ⟨rfl, rfl⟩ | ⟨kh, h, rfl, rfl⟩
    · cases hm rfl
    · have h2 : h ≤ m := by rcases h2 with h2 | h2; · cases h2
                            · exact h2
      rcases hlo with ⟨rfl, rfl⟩ | ⟨kl, l, rfl, rfl⟩
      · simp [Instr.sliceBounds, orN, run_sliceBoundC km m cap _ h3, run_sliceBoundC kh h m _ h2]
      · have h1 : l ≤ h := h1
        simp [Instr.sliceBounds, orN, run_sliceBoundC km m cap _ h3, run_sliceBoundC kh h m _ h2, run_sliceBoundC kl l h _ h1]

theorem run_slice_of {t el : TypeId} {sz : Nat} (hd : P.underlying t = some (.slice el)) (hsz : sizeOf? P el = some sz) {ad : Option Addr} {n cap : Nat} {lo hi mx : Option Value} {b c m : Nat} {w : World}
    (hb : (Instr.sliceBounds true n cap lo hi mx).run P w = .ok (b, c, m) w) :
    (Instr.sliceAt t (.slice ad n cap) lo hi mx).run P w = .ok (.slice (if m = b then ad else ad.map (·.add (b * sz))) (c - b) (m - b)) w := by
  simp [Instr.sliceAt, Instr.slice, run_underlying hd, hb, run_size hsz]

theorem run_slice_str {t : TypeId} (hd : P.underlying t = some .string) {s : ByteArray} {lo hi : Option Value} {b c m : Nat} {w : World}
    (hb : (Instr.sliceBounds false s.size s.size lo hi none).run P w = .ok (b, c, m) w) :
    (Instr.sliceAt t (.string s) lo hi none).run P w = .ok (.string (s.extract b c)) w := by
  simp [Instr.sliceAt, Instr.slice, run_underlying hd, hb]

theorem NumO.none_of {x : Option Value} (h : NumO x none) : x = none := by
  rcases h with ⟨h, _⟩ | ⟨_, _, _, h⟩
  · exact h
  · cases h

theorem RelRows.drop : ∀ {xs : List (List AV)} {sz b o' : Nat} (k : Nat), RelRows e sz xs b o' → RelRows e sz (xs.drop k) b (o' + k * sz)
  | xs, sz, b, o', 0, h => by simpa using h
  | [], sz, b, o', k + 1, h => by simp [RelRows]
  | x :: xs, sz, b, o', k + 1, h => by
    simp only [RelRows] at h
    have := RelRows.drop k h.2.2
    rw [show o' + (k + 1) * sz = o' + sz + k * sz by rw [Nat.add_mul]; omega]
    exact this
theorem RelRows.take : ∀ {xs : List (List AV)} {sz b o' : Nat} (k : Nat), RelRows e sz xs b o' → RelRows e sz (xs.take k) b o'
  | xs, sz, b, o', 0, h => by simp [RelRows]
  | [], sz, b, o', k + 1, h => by simp [RelRows]
  | x :: xs, sz, b, o', k + 1, h => by
    simp only [RelRows, List.take_succ_cons] at h ⊢
    exact ⟨h.1, h.2.1, RelRows.take k h.2.2⟩

theorem cd_some {α : Type} {b : Bool} {x : Option α} {y : α} (h : cd b x none = some y) : b = true ∧ x = some y := by
  cases b with
  | false => cases h
  | true => exact ⟨rfl, h⟩

theorem ble_true {m n : Nat} (h : Nat.ble m n = true) : m ≤ n := Nat.le_of_ble_eq_true h
theorem beq_true {m n : Nat} (h : Nat.beq m n = true) : m = n := Nat.eq_of_beq_eq_true h

/-- A slice of a slice, as a value. -/
theorem rel_slice {i : Id} {off sz n cl : Nat} {ex : Bool} {cv : Value} (hr : Rel e (.sl i off sz n cl ex) cv) (b c : Nat) (hb : b ≤ c) (hc : c ≤ cl) :
    ∃ ad cap, cv = .slice (some ad) n cap ∧ cl ≤ cap ∧ Rel e (.sl i (Nat.add off (Nat.mul b sz)) sz (Nat.sub c b) (Nat.sub cl b) ex) (.slice (if cap = b then some ad else (some ad).map (·.add (b * sz))) (c - b) (cap - b)) := by
  simp only [Rel] at hr
  obtain ⟨kn, ad, cap, hv, h1, h2, h3, h4⟩ := hr
  refine ⟨ad, cap, hv, h2, ?_⟩
  simp only [Rel, Nat.add_eq, Nat.mul_eq, Nat.sub_eq]
  by_cases hcb : cap = b
  · refine ⟨kn, ad, cap - b, by simp [hcb], by omega, by omega, fun h => by rw [h3 h], .inl (by omega)⟩
  · rcases h4 with h4 | ⟨h4, h5⟩
    · omega
    · subst h4
      refine ⟨kn, _, cap - b, by rw [if_neg hcb]; rfl, by omega, by omega, fun h => by rw [h3 h], .inr ⟨by show Addr.add _ _ = _; rw [Addr.add_none]; simp [Nat.add_assoc], ?_⟩⟩
      have : (cap - b) * sz + b * sz = cap * sz := by rw [← Nat.add_mul]; congr 1; omega
      omega

theorem rel_slice3 {i : Id} {off sz n cl : Nat} {ex : Bool} {cv : Value} (hr : Rel e (.sl i off sz n cl ex) cv) (b c m : Nat) (hb : b ≤ c) (hc : c ≤ m) (hm : m ≤ cl) (hne : m ≠ b) :
    ∃ ad cap, cv = .slice (some ad) n cap ∧ cl ≤ cap ∧ Rel e (.sl i (Nat.add off (Nat.mul b sz)) sz (Nat.sub c b) (Nat.sub m b) true) (.slice (if m = b then some ad else (some ad).map (·.add (b * sz))) (c - b) (m - b)) := by
  simp only [Rel] at hr
  obtain ⟨kn, ad, cap, hv, h1, h2, h3, h4⟩ := hr
  refine ⟨ad, cap, hv, h2, ?_⟩
  simp only [Rel, Nat.add_eq, Nat.mul_eq, Nat.sub_eq]
  rcases h4 with h4 | ⟨h4, h5⟩
  · omega
  · subst h4
    refine ⟨kn, _, m - b, by rw [if_neg hne]; rfl, by omega, by omega, fun _ => rfl, .inr ⟨by show Addr.add _ _ = _; rw [Addr.add_none]; simp [Nat.add_assoc], ?_⟩⟩
    have h6 : (m - b) * sz + b * sz = m * sz := by rw [← Nat.add_mul]; congr 1; omega
    have h7 : m * sz ≤ cap * sz := Nat.mul_le_mul_right _ (by omega)
    omega

theorem sound_slc {t : TypeId} {x : Operand} {l h m : Option Operand} {k : SK} {x' : Od} {l' h2 m' : Option Od} (hs : St e) (hf : FrRel e fr a.tmps) (hg : GRel G e) (ho : o.op = .slice t x l h m)
    (hk : skOf P t = some k) (hx : od G x = some x') (hl : odo G l = some l') (hh : odo G h = some h2) (hm : odo G m = some m') (hhm : h = none → m = none)
    (hr : evOp call (.slc k x' l' h2 m') fr e.h id = .ok v h') : OpS P o e a v h' := by
  have hr : (match optN l' fr, optN h2 fr, optN m' fr with
      | some lo, some hi, some mx => okV e.h (sliceA k (ev x' fr) lo hi mx)
      | _, _, _ => .no : R) = .ok v h' := hr
  have rx := od_rel hf hg hx
  split at hr
  · rename_i lo hi mx hlo hhi hmx
    have nlo := optN_inv hf hg hl hlo
    have nhi := optN_inv hf hg hh hhi
    have nmx := optN_inv hf hg hm hmx
    obtain ⟨hq, rfl⟩ := okV_inv hr
    have HM : hi = none → mx = none := by
      intro hn
      subst hn
      have h0 := nhi.none_of
      have : h = none := by cases h <;> simp_all
      rw [hhm this] at nmx
      rcases nmx with ⟨_, h⟩ | ⟨_, _, h, _⟩
      · exact h
      · cases h
    have hex : ∀ cv cv', a.eval x = cv → (Instr.sliceAt t cv (l.map a.eval) (h.map a.eval) (m.map a.eval)).run P e.w = .ok cv' e.w → Rel e v cv' → OpS P o e a v e.h := by
      intro cv cv' h1 h2 h3
      refine OpS.same hs (cv := cv') ?_ h3
      simp [execOp, ho, h1, h2]
    unfold skOf at hk
    obtain ⟨d, hd, hk⟩ := bind_inv hk
    generalize ev x' fr = u at hq rx
    split at hk
    · -- a string
      simp only [Option.some.injEq] at hk; subst hk
      cases u <;> (try (cases hq; done))
      rename_i n ls
      cases mx with
      | some m => cases hq
      | none =>
        have hq : sliceS n ls (orN lo 0) (orN hi n) = some v := hq
        obtain ⟨h1, hq⟩ := cd_some hq
        obtain ⟨h2, hq⟩ := cd_some hq
        have h1 := ble_true h1
        have h2 := ble_true h2
        cases hc : cut ls (orN lo 0) (Nat.sub (orN hi n) (orN lo 0)) with
        | none => rw [hc] at hq; cases hq
        | some r =>
          rw [hc] at hq
          obtain rfl := Option.some.inj (show some _ = some v from hq)
          obtain ⟨hn, h256, rx⟩ := rel_s rx
          have hsz : (strOf ls).size = n := by rw [strOf_size, hn]
          have hb := run_sliceBounds (P := P) (isS := false) (n := n) (cap := n) nlo nhi nmx (fun _ => rfl) h2 (.inr (by simpa [orN] using h1)) (by simp [orN]) e.w
          rw [nmx.none_of] at hb
          refine hex _ (.string ((strOf ls).extract (orN lo 0) (orN hi n))) rx ?_ ?_
          · rw [nmx.none_of]
            exact run_slice_str hd (by rw [hsz]; exact hb)
          · obtain ⟨hrl, hget⟩ := cut_get hc
            have hre : r = (ls.drop (orN lo 0)).take (orN hi n - orN lo 0) := by
              rcases cut_some _ _ _ _ hc with ⟨h, _⟩ | ⟨h, h'⟩
              · exact h
              · rw [h']; have : orN hi n - orN lo 0 = 0 := h
                rw [this]; simp
            have hext : (strOf ls).extract (orN lo 0) (orN hi n) = strOf r := by
              rw [hre, ← strOf_extract _ _ _ (by omega)]
              congr 1; omega
            rw [hext]
            simp only [Rel, and_true]
            refine ⟨hrl.symm, fun c hc => ?_⟩
            rw [hre] at hc
            exact h256 c (List.mem_of_mem_drop (List.mem_of_mem_take hc))
    · -- a slice
      rename_i el
      obtain ⟨sz, hsz, rfl⟩ := map_inv hk
      cases u with
      | v y =>
        have hy : y = .slice none 0 0 ∧ slice0 (.v (.slice none 0 0)) (orN lo 0) (orN hi 0) (orN mx 0) = some v := by
          cases y with
          | slice ad n c =>
            cases ad with
            | some _ => cases hq
            | none =>
              cases n with
              | succ n => cases hq
              | zero => cases c with
                | succ c => cases hq
                | zero => exact ⟨rfl, hq⟩
          | _ => cases hq
        obtain ⟨rfl, hq⟩ := hy
        obtain ⟨h1, hq⟩ := cd_some hq
        obtain ⟨h2, hq⟩ := cd_some hq
        obtain ⟨h3, hq⟩ := cd_some hq
        obtain rfl := Option.some.inj hq
        have h1 := beq_true h1; have h2 := beq_true h2; have h3 := beq_true h3
        have rx' : a.eval x = .slice none 0 0 := by simp only [Rel] at rx; exact rx.1
        have hb := run_sliceBounds (P := P) (isS := true) (n := 0) (cap := 0) nlo nhi nmx HM (by rw [h1]; exact Nat.zero_le _) (.inr (by rw [h2]; exact Nat.zero_le _)) (by rw [h3]; exact Nat.le_refl _) e.w
        rw [h1, h2, h3] at hb
        refine hex _ _ rx' (run_slice_of hd hsz hb) ?_
        simp [Rel, nilish]
      | em =>
        obtain ⟨h1, hq⟩ := cd_some (show slice0 .em (orN lo 0) (orN hi 0) (orN mx 0) = some v from hq)
        obtain ⟨h2, hq⟩ := cd_some hq
        obtain ⟨h3, hq⟩ := cd_some hq
        obtain rfl := Option.some.inj hq
        have h1 := beq_true h1; have h2 := beq_true h2; have h3 := beq_true h3
        simp only [Rel] at rx
        obtain ⟨ad, rx'⟩ := rx
        have hb := run_sliceBounds (P := P) (isS := true) (n := 0) (cap := 0) nlo nhi nmx HM (by rw [h1]; exact Nat.zero_le _) (.inr (by rw [h2]; exact Nat.zero_le _)) (by rw [h3]; exact Nat.le_refl _) e.w
        rw [h1, h2, h3] at hb
        refine hex _ _ rx' (run_slice_of hd hsz hb) ?_
        simp only [Rel]
        exact ⟨ad, by simp⟩
      | sl i off sz' n cl ex =>
        obtain ⟨hze, hq2⟩ := cd_some (show cd (Nat.beq sz sz') _ none = some v from hq)
        clear hq
        obtain rfl := beq_true hze
        have hq := hq2
        clear hq2
        cases mx with
        | none =>
          have hq : slice2 i off sz cl ex (orN lo 0) (orN hi n) = some v := hq
          obtain ⟨h1, hq⟩ := cd_some hq
          obtain ⟨h2, hq⟩ := cd_some hq
          have h1 := ble_true h1; have h2 := ble_true h2
          obtain rfl := Option.some.inj hq
          obtain ⟨ad, cap, hv, hcc, hrel⟩ := rel_slice rx _ _ h2 h1
          have hb := run_sliceBounds (P := P) (isS := true) (n := n) (cap := cap) nlo nhi nmx (fun _ => rfl) h2 (.inr (by show _ ≤ cap; omega)) (by simp [orN]) e.w
          have hor : orN none cap = cap := rfl
          rw [hor] at hb
          exact hex _ _ hv (run_slice_of hd hsz hb) hrel
        | some m3 =>
          cases hi with
          | none => cases hq
          | some e3 =>
            have hq : slice3 i off sz cl (orN lo 0) e3 m3 = some v := hq
            obtain ⟨h1, hq⟩ := cd_some hq
            obtain ⟨h2, hq⟩ := cd_some hq
            obtain ⟨h3, hq⟩ := cd_some hq
            have h1 := ble_true h1; have h2 := ble_true h2; have h3 := ble_true h3
            by_cases hmb : m3 = orN lo 0
            · rw [hmb, cd_eq, beq_nat] at hq
              simp only [decide_true, if_true, Option.some.injEq] at hq; subst hq
              simp only [Rel] at rx
              obtain ⟨kn, ad, cap, hv, g1, g2, g3, g4⟩ := rx
              have hb := run_sliceBounds (P := P) (isS := true) (n := n) (cap := cap) nlo nhi nmx (fun h => by cases h) h3 (.inr h2) (by show m3 ≤ cap; omega) e.w
              refine hex _ _ hv (run_slice_of hd hsz hb) ?_
              simp only [Rel]
              refine ⟨ad, ?_⟩
              have e1 : orN (some m3) cap = m3 := rfl
              have e2 : orN (some e3) n = e3 := rfl
              rw [e1, e2, if_pos hmb]
              congr 1 <;> omega
            · rw [cd_eq, beq_nat] at hq
              simp only [hmb, decide_false, Bool.false_eq_true, if_false, Option.some.injEq] at hq; subst hq
              obtain ⟨ad, cap, hv, hcc, hrel⟩ := rel_slice3 rx _ _ _ h3 h2 h1 hmb
              have hb := run_sliceBounds (P := P) (isS := true) (n := n) (cap := cap) nlo nhi nmx (fun h => by cases h) h3 (.inr h2) (by show m3 ≤ cap; omega) e.w
              exact hex _ _ hv (run_slice_of hd hsz hb) hrel
      | isl sz' xs =>
        obtain ⟨hze, hq2⟩ := cd_some (show cd (Nat.beq sz sz') _ none = some v from hq)
        clear hq
        obtain rfl := beq_true hze
        have hq := hq2
        clear hq2
        simp only [Rel] at rx
        obtain ⟨ad, cap, hv, hcap, hxs⟩ := rx
        cases mx with
        | none =>
          obtain ⟨h1, hq⟩ := cd_some (show cd (Nat.ble (orN hi xs.length) xs.length) _ none = some v from hq)
          obtain ⟨h2, hq⟩ := cd_some hq
          have h1 := ble_true h1; have h2 := ble_true h2
          obtain rfl := Option.some.inj hq
          have hb := run_sliceBounds (P := P) (isS := true) (n := xs.length) (cap := cap) nlo nhi nmx (fun _ => rfl) h2 (.inr (by show _ ≤ cap; omega)) (by simp [orN]) e.w
          have hor : orN none cap = cap := rfl
          rw [hor] at hb
          refine hex _ _ hv (run_slice_of hd hsz hb) ?_
          generalize orN lo 0 = b at h2 hb ⊢
          generalize orN hi xs.length = c at h1 h2 hb ⊢
          simp only [Rel]
          have hlen : ((xs.take c).drop b).length = c - b := by simp; omega
          rw [hlen]
          by_cases hcb : cap = b
          · refine ⟨ad, cap - b, by simp [hcb], by omega, .inl ?_⟩
            apply List.eq_nil_of_length_eq_zero; omega
          · refine ⟨ad.add (b * sz), cap - b, by rw [if_neg hcb]; rfl, by omega, ?_⟩
            rcases hxs with hxs | ⟨hsp, hi2, hrw⟩
            · left; subst hxs; simp
            · right
              have had : ad = ⟨ad.block, ad.off, none⟩ := by cases ad; simp_all
              rw [had, Addr.add_none]
              exact ⟨rfl, hi2, (hrw.take c).drop b⟩
        | some m3 =>
          cases hi with
          | none => cases hq
          | some e3 =>
            obtain ⟨h1, hq⟩ := cd_some (show cd (Nat.ble m3 xs.length) _ none = some v from hq)
            obtain ⟨h2, hq⟩ := cd_some hq
            obtain ⟨h3, hq⟩ := cd_some hq
            obtain ⟨h4, hq⟩ := cd_some hq
            have h1 := ble_true h1; have h2 := ble_true h2; have h3 := ble_true h3; have h4 := beq_true h4
            obtain rfl := Option.some.inj hq
            have hb := run_sliceBounds (P := P) (isS := true) (n := xs.length) (cap := cap) nlo nhi nmx (fun h => by cases h) h3 (.inr h2) (by show m3 ≤ cap; omega) e.w
            refine hex _ _ hv (run_slice_of hd hsz hb) ?_
            simp only [Rel]
            refine ⟨ad, ?_⟩
            have e1 : orN (some m3) cap = m3 := rfl
            have e2 : orN (some e3) xs.length = e3 := rfl
            rw [e1, e2, if_pos h4]
            congr 1 <;> omega
      | _ => cases hq
    · obtain ⟨sz, hsz, rfl⟩ := map_inv hk
      cases u <;> cases hq
    · cases hk
  · exact absurd hr (by simp)
end
end Go.Ev

/- How memory is made and written, in the model and in the abstract at once. -/
namespace Go.Ev

theorem live_known {e : Env} (hs : St e) {id : Id} (l : live e.h id) : known e id := let ⟨b, hb, _⟩ := l; hs.dk id b hb

theorem bsize_congr {w w' : World} {b : Nat} (h : w'.heap[b]? = w.heap[b]?) : bsize w' b = bsize w b := by unfold bsize; rw [h]

/-- What is needed to go on from St to St where one block alone has turned. -/
theorem St.next {e e' : Env} (hs : St e) (x : Ext e e') (i : Id) (hi : ∀ b, e'.h.get i = some b → BlkRel e' i b)
    (hother : ∀ id, id ≠ i → e'.h.get id = e.h.get id) (hρ : ∀ id, id ≠ i → e'.ρ id = e.ρ id) (hkn : known e' i ∧ (∃ k, k < e'.h.next ∧ i = path k) ∧ ∃ b, e'.h.get i = some b)
    (hheap : ∀ id, id ≠ i → live e.h id → e'.w.heap[(e.ρ id).1]? = e.w.heap[(e.ρ id).1]?)
    (hinj : live e'.h i → ∀ id, id ≠ i → live e.h id → (e.ρ id).1 ≠ (e'.ρ i).1) : St e' where
  kn := fun id hk => by
    by_cases h : id = i
    · subst h
      obtain ⟨k, hk, he⟩ := hkn.2.1
      exact ⟨k, hk, he, fun _ => hkn.2.2⟩
    · have hk : known e id := by unfold known at hk ⊢; rw [← hρ id h]; exact hk
      obtain ⟨k, hk, he, hp⟩ := hs.kn id hk
      exact ⟨k, Nat.lt_of_lt_of_le hk x.next, he, fun hl => by rw [hother id h]; rw [x.fr] at hl; exact hp hl⟩
  dk := fun id b hb => by
    by_cases h : id = i
    · subst h; exact hkn.1
    · rw [hother id h] at hb
      exact x.kn id (hs.dk id b hb)
  lo := by rw [x.fr]; exact Nat.le_trans hs.lo x.next
  blk := fun id b hb => by
    by_cases h : id = i
    · subst h; exact hi b hb
    · rw [hother id h] at hb
      by_cases hd : b = .dead
      · subst hd; trivial
      · exact BlkRel.ext x (hs.dk id b hb) (hheap id h ⟨b, hb, hd⟩) b (hs.blk id b hb)
  inj := fun id id' l l' he => by
    have lv : ∀ j, j ≠ i → live e'.h j → live e.h j := fun j hj ⟨b, hb, hd⟩ => ⟨b, by rw [hother j hj] at hb; exact hb, hd⟩
    by_cases h : id = i
    · by_cases h' : id' = i
      · rw [h, h']
      · subst h
        have l2 := lv id' h' l'
        rw [x.ren id' (live_known hs l2)] at he
        exact absurd he.symm (hinj l id' h' l2)
    · by_cases h' : id' = i
      · subst h'
        have l2 := lv id h l
        rw [x.ren id (live_known hs l2)] at he
        exact absurd he (hinj l' id h l2)
      · have l2 := lv id h l
        have l2' := lv id' h' l'
        rw [x.ren id (live_known hs l2), x.ren id' (live_known hs l2')] at he
        exact hs.inj id id' l2 l2' he
  fr := fun b hb => by
    rw [x.fr] at hb
    obtain ⟨h1, h2⟩ := hs.fr b hb
    exact ⟨Nat.lt_of_lt_of_le h1 x.heap, fun h => h2 (x.own b h1 h)⟩

theorem put_pres (h : H) (i : Id) (c : Blk) (id : Id) (b : Blk) (hb : h.get id = some b) : ∃ b', (h.put i c).get id = some b' := by
  rw [H.get_put]
  by_cases hi : id = i
  · exact ⟨c, if_pos hi⟩
  · exact ⟨b, by rw [if_neg hi]; exact hb⟩

/-- The environment with a new block. -/
noncomputable def Env.alloc (e : Env) (n : Nat) (o : Obj) (b : Blk) : Env :=
  ⟨fun id => if id = path n then (e.w.heap.size, 0) else e.ρ id, e.h.put (path n) b, e.w.alloc o, e.F⟩

theorem alloc_ext {e : Env} (hs : St e) {n : Nat} (hf : ¬ known e (path n)) (o : Obj) (b : Blk) : Ext e (e.alloc n o b) where
  next := Nat.le_refl _
  kn := fun id hk => by
    show (if id = path n then (e.w.heap.size, 0) else e.ρ id).2 = 0
    by_cases h : id = path n
    · rw [if_pos h]
    · rw [if_neg h]; exact hk
  ren := fun id hk => by
    show (if id = path n then _ else _) = _
    rw [if_neg]
    intro h; subst h; exact hf hk
  fr := rfl
  qt := ⟨rfl, rfl, rfl⟩
  heap := by show _ ≤ (e.w.alloc o).heap.size; simp
  keep := fun b' hb' _ => heap_alloc_old _ _ _ hb'
  size := fun b' hb' => bsize_congr (heap_alloc_old _ _ _ hb')
  own := fun b' hb' ⟨id, ⟨c, hc, hd⟩, hid⟩ => by
    have hc : (e.h.put (path n) b).get id = some c := hc
    rw [H.get_put] at hc
    have hid : (if id = path n then (e.w.heap.size, 0) else e.ρ id).1 = b' := hid
    by_cases h : id = path n
    · rw [if_pos h] at hid; simp at hid; omega
    · rw [if_neg h] at hc hid
      exact ⟨id, ⟨c, hc, hd⟩, hid⟩
  pres := put_pres _ _ _
  newk := fun id hk => by
    have hk : (if id = path n then (e.w.heap.size, 0) else e.ρ id).2 = 0 := hk
    by_cases h : id = path n
    · exact .inr ⟨b, by show (e.h.put (path n) b).get id = _; rw [H.get_put, if_pos h]⟩
    · rw [if_neg h] at hk; exact .inl hk

theorem alloc_st {e : Env} (hs : St e) {n : Nat} (hn : n < e.h.next) (hf : ¬ known e (path n)) (o : Obj) (b : Blk) (hb : BlkRel (e.alloc n o b) (path n) b) : St (e.alloc n o b) := by
  refine St.next hs (alloc_ext hs hf o b) (path n) ?_ ?_ (fun id h => if_neg h) ⟨?_, ⟨n, hn, rfl⟩, ⟨b, ?_⟩⟩ ?_ ?_
  · intro b' hb'
    have hb' : (e.h.put (path n) b).get (path n) = some b' := hb'
    rw [H.get_put, if_pos rfl] at hb'
    obtain rfl := Option.some.inj hb'
    exact hb
  · intro id h
    show (e.h.put (path n) b).get id = _
    rw [H.get_put, if_neg h]
  · show (if path n = path n then (e.w.heap.size, 0) else e.ρ (path n)).2 = 0
    rw [if_pos rfl]
  · show (e.h.put (path n) b).get (path n) = _
    rw [H.get_put, if_pos rfl]
  · intro id _ l
    exact heap_alloc_old _ _ _ (hs.lt l)
  · intro _ id _ l
    have := hs.lt l
    show _ ≠ (if path n = path n then (e.w.heap.size, 0) else e.ρ (path n)).1
    rw [if_pos rfl]
    simp only; omega

/-- A new block of cells. -/
theorem alloc_cells' {e : Env} (hs : St e) {n : Nat} (hf : ¬ known e (path n)) (el : TypeId) {l : List AV} {vs : List Value} (hl : RelL e l vs) (ho : ∀ x ∈ l, one x = true)
    (c : Array Value) (frz : Nat × Nat) (hfr : ∀ o, frz.1 ≤ o → o < frz.2 → c.size ≤ o) (hc : l.length ≤ c.size) (hcv : ∀ (j : Nat) (v : Value), vs[j]? = some v → c[j]? = some v) : BlkRel (e.alloc n (.cells c el frz) (.cs el l false)) (path n) (.cs el l false) := by
  have x := alloc_ext hs hf (.cells c el frz) (.cs el l false)
  have hr : (e.alloc n (.cells c el frz) (.cs el l false)).ρ (path n) = (e.w.heap.size, 0) := if_pos rfl
  simp only [BlkRel, hr]
  refine ⟨c, frz, heap_alloc_new _ _, by simpa using hc, fun j y hy => ⟨ho y (List.mem_of_getElem? hy), ?_⟩, fun _ => hfr, trivial⟩
  obtain ⟨v, hv, hrv⟩ := hl.get hy
  exact ⟨v, by simpa using hcv j v hv, Rel.ext x _ _ hrv⟩

theorem alloc_cells {e : Env} (hs : St e) {n : Nat} (hf : ¬ known e (path n)) (el : TypeId) {l : List AV} {vs : List Value} (hl : RelL e l vs) (ho : ∀ x ∈ l, one x = true)
    (c : Array Value) (hc : l.length ≤ c.size) (hcv : ∀ (j : Nat) (v : Value), vs[j]? = some v → c[j]? = some v) : BlkRel (e.alloc n (.cells c el) (.cs el l false)) (path n) (.cs el l false) :=
  alloc_cells' hs hf el hl ho c (0, 0) (fun o h1 h2 => absurd h2 (Nat.not_lt_zero _)) hc hcv

/-- The heap's number raised. -/
def Env.bump (e : Env) (k : Nat) : Env := ⟨e.ρ, ⟨e.h.next + k, e.h.t⟩, e.w, e.F⟩

theorem bump_get (e : Env) (k : Nat) (id : Id) : (e.bump k).h.get id = e.h.get id := rfl
theorem bump_own (e : Env) (k b : Nat) : Own (e.bump k) b ↔ Own e b := Iff.rfl

theorem bump_ext (e : Env) (k : Nat) : Ext e (e.bump k) :=
  ⟨Nat.le_add_right _ _, fun _ h => h, fun _ _ => rfl, rfl, Nat.le_refl _, fun _ _ _ => rfl, fun _ _ => rfl, fun _ _ h => h, fun _ b h => ⟨b, h⟩, fun _ h => .inl h, ⟨rfl, rfl, rfl⟩⟩

theorem bump_st {e : Env} (hs : St e) (k : Nat) : St (e.bump k) where
  kn := fun id hk => let ⟨j, hj, he, hp⟩ := hs.kn id hk; ⟨j, Nat.lt_of_lt_of_le hj (Nat.le_add_right _ _), he, hp⟩
  dk := hs.dk
  lo := Nat.le_trans hs.lo (Nat.le_add_right _ _)
  blk := fun id b hb => BlkRel.ext (bump_ext e k) (hs.dk id b hb) rfl b (hs.blk id b hb)
  inj := hs.inj
  fr := hs.fr

theorem fresh_none {e : Env} (hs : St e) : ¬ known e (path e.h.next) := by
  intro h
  obtain ⟨k, hk, he, _⟩ := hs.kn _ h
  have := path_inj he
  omega

/-- A number that was set aside is not known before it is used. -/
theorem aside_none {e : Env} (hs : St e) {n : Nat} (hlo : e.F.lo ≤ n) (hf : e.h.get (path n) = none) : ¬ known e (path n) := by
  intro h
  obtain ⟨k, hk, he, hp⟩ := hs.kn _ h
  have := path_inj he
  subst this
  obtain ⟨b, hb⟩ := hp hlo
  rw [hf] at hb; cases hb

/-- A world that has another object at one block, of the same kind and size. -/
theorem setRow_bsize (w : World) (g : Nat) (old cs : Array Value) (t : TypeId) (fr : Nat × Nat) (hg : w.heap[g]? = some (.cells old t fr)) (hc : cs.size = old.size) (b : Nat) : bsize (w.setRow g cs) b = bsize w b := by
  by_cases h : b = g
  · subst h; unfold bsize; rw [setRow_heap w b old cs t fr hg, hg]; exact hc
  · exact bsize_congr (setRow_other w g b cs h)

/-- One block of cells written. -/
noncomputable def Env.write (e : Env) (id : Id) (b : Blk) (cs : Array Value) : Env := ⟨e.ρ, e.h.put id b, e.w.setRow (e.ρ id).1 cs, e.F⟩

theorem write_ext {e : Env} {id : Id} {el : TypeId} {l : List AV} {fz : Bool} (hid : e.h.get id = some (.cs el l fz)) {old cs : Array Value} {fr : Nat × Nat}
    (hg : e.w.heap[(e.ρ id).1]? = some (.cells old el fr)) (hc : cs.size = old.size) {el' : TypeId} {l' : List AV} {fz' : Bool} : Ext e (e.write id (.cs el' l' fz') cs) where
  next := Nat.le_refl _
  kn := fun _ h => h
  ren := fun _ _ => rfl
  fr := rfl
  qt := ⟨rfl, rfl, rfl⟩
  heap := by show _ ≤ (e.w.setRow _ _).heap.size; simp
  keep := fun b hb ho => by
    apply setRow_other
    intro h
    exact ho ⟨id, ⟨_, hid, by simp⟩, h.symm⟩
  size := fun b _ => setRow_bsize _ _ _ _ _ _ hg hc b
  own := fun b _ ⟨j, ⟨c, hc', hd⟩, hj⟩ => by
    have hc' : (e.h.put id (.cs el' l' fz')).get j = some c := hc'
    rw [H.get_put] at hc'
    by_cases h : j = id
    · subst h; exact ⟨j, ⟨_, hid, by simp⟩, hj⟩
    · rw [if_neg h] at hc'
      exact ⟨j, ⟨c, hc', hd⟩, hj⟩
  pres := put_pres _ _ _
  newk := fun _ h => .inl h

theorem write_st {e : Env} (hs : St e) {id : Id} {el : TypeId} {l : List AV} {fz : Bool} (hid : e.h.get id = some (.cs el l fz)) {old cs : Array Value} {fr : Nat × Nat}
    (hg : e.w.heap[(e.ρ id).1]? = some (.cells old el fr)) (hc : cs.size = old.size) {el' : TypeId} {l' : List AV} {fz' : Bool}
    (hb : BlkRel (e.write id (.cs el' l' fz') cs) id (.cs el' l' fz')) : St (e.write id (.cs el' l' fz') cs) := by
  refine St.next hs (write_ext hid hg hc) id ?_ ?_ (fun _ _ => rfl) ⟨hs.dk id _ hid, hs.num hid, ⟨.cs el' l' fz', ?_⟩⟩ ?_ ?_
  · intro b' hb'
    have hb' : (e.h.put id (.cs el' l' fz')).get id = some b' := hb'
    rw [H.get_put, if_pos rfl] at hb'
    obtain rfl := Option.some.inj hb'
    exact hb
  · intro j h
    show (e.h.put id _).get j = _
    rw [H.get_put, if_neg h]
  · show (e.h.put id _).get id = _
    rw [H.get_put, if_pos rfl]
  · intro j hj l2
    apply setRow_other
    intro h
    exact hj (hs.inj j id l2 ⟨_, hid, by simp⟩ h)
  · intro _ j hj l2 h
    exact hj (hs.inj j id l2 ⟨_, hid, by simp⟩ h)

/-- Values laid over an array. -/
def layA (c : Array Value) (o : Nat) : List Value → Array Value
  | [] => c
  | v :: vs => layA (c.setIfInBounds o v) (o + 1) vs

theorem layA_size : ∀ (vs : List Value) (c : Array Value) (o : Nat), (layA c o vs).size = c.size
  | [], _, _ => rfl
  | v :: vs, c, o => by rw [layA, layA_size vs]; simp

theorem layA_get : ∀ (vs : List Value) (c : Array Value) (o j : Nat), o + vs.length ≤ c.size → (layA c o vs)[j]? = if o ≤ j ∧ j < o + vs.length then vs[j - o]? else c[j]?
  | [], c, o, j, _ => by rw [if_neg (by simp)]; rfl
  | v :: vs, c, o, j, h => by
    simp only [List.length_cons] at h
    rw [layA, layA_get vs _ _ _ (by simp; omega)]
    by_cases h1 : o + 1 ≤ j ∧ j < o + 1 + vs.length
    · rw [if_pos h1, if_pos (by simp; omega)]
      have : j - o = (j - (o + 1)) + 1 := by omega
      rw [this]; simp
    · rw [if_neg h1]
      by_cases h2 : j = o
      · subst h2
        rw [if_pos (by simp), Array.getElem?_setIfInBounds_self_of_lt (by omega)]
        simp
      · rw [if_neg (by simp; omega), Array.getElem?_setIfInBounds_ne (by omega)]

theorem setRow_id {w : World} {g : Nat} {c : Array Value} {t : TypeId} {fr : Nat × Nat} (hg : w.heap[g]? = some (.cells c t fr)) : w.setRow g c = w := by
  have hlt : g < w.heap.size := (Array.getElem?_eq_some_iff.1 hg).1
  have hv : w.heap[g] = .cells c t fr := (Array.getElem?_eq_some_iff.1 hg).2
  unfold World.setRow
  cases w with
  | mk heap tape drawn os output =>
    congr 1
    apply Array.ext
    · simp
    · intro k h1 h2
      simp only [Array.getElem_modify]
      split
      · rename_i hk; subst hk; simp at hv; simp [hv]
      · rfl

theorem run_storeCells_lay {P : Program} (g : Nat) (t : TypeId) (fr : Nat × Nat) : ∀ (vs : List Value) (o i : Nat) (c : Array Value) (w : World), w.heap[g]? = some (.cells c t fr) → o + i + vs.length ≤ c.size →
    (∀ v ∈ vs, v.oneCell' = true) → (∀ j, j < vs.length → ¬ (fr.1 ≤ o + i + j ∧ o + i + j < fr.2)) →
    (storeCells ⟨g, o, none⟩ vs i).run P w = .ok () (w.setRow g (layA c (o + i) vs))
  | [], o, i, c, w, hg, _, _, _ => by
    simp only [storeCells, layA, setRow_id hg]; rfl
  | v :: vs, o, i, c, w, hg, hle, h1, hf => by
    simp only [List.length_cons] at hle
    have hcell : w.cell? ⟨g, o + i, none⟩ = some (c[o + i]'(by omega)) := by
      rw [cell_of_row _ _ _ _ _ _ hg]; exact Array.getElem?_eq_getElem (by omega)
    have hfz : w.frozen? ⟨g, o + i, none⟩ = false := by
      have := hf 0 (by simp)
      simp only [Nat.add_zero] at this
      simp only [World.frozen?, hg]
      by_cases ha : fr.1 ≤ o + i
      · by_cases hb : o + i < fr.2
        · exact absurd ⟨ha, hb⟩ this
        · simp [hb]
      · simp [ha]
    have hst : (store ((⟨g, o, none⟩ : Addr).add i) v).run P w = .ok () (w.setRow g (c.setIfInBounds (o + i) v)) := by
      rw [Addr.add_none, run_store P w _ v _ (h1 v (by simp)), hcell]
      simp [hfz, setCell_eq_setRow w g (o + i) c t fr v hg]
    have ih := run_storeCells_lay (P := P) g t fr vs o (i + 1) (c.setIfInBounds (o + i) v) (w.setRow g (c.setIfInBounds (o + i) v)) (setRow_heap w g c _ t _ hg) (by simp; omega) (fun x hx => h1 x (by simp [hx])) (fun j hj => by
      have := hf (j + 1) (by simp; omega)
      rw [show o + (i + 1) + j = o + i + (j + 1) by omega]; exact this)
    simp only [storeCells, Sem.run_bind, hst, Result.andThen_ok, ih, setRow_setRow]
    rw [layA, Nat.add_assoc]

/-- The cells of a value. -/
theorem cells_rel {e : Env} {x : AV} {cv : Value} (hr : Rel e x cv) {cs : List AV} (h : x.cells = some cs) : RelL e cs cv.cells.toList ∧ ∀ c ∈ cs, one c = true := by
  have single : ∀ (y : AV), one y = true → Rel e y cv → cs = [y] → RelL e cs cv.cells.toList ∧ ∀ c ∈ cs, one c = true := by
    intro y ho hr hcs
    have h1 := hr.one_cell ho
    subst hcs
    have : cv.cells = #[cv] := by cases cv <;> simp [Value.oneCell'] at h1 <;> rfl
    rw [this]
    refine ⟨by simp only [RelL]; exact ⟨hr, trivial⟩, fun c hc => ?_⟩
    rw [List.mem_singleton.1 hc]; exact ho
  cases x with
  | ag cs' =>
    obtain rfl := Option.some.inj (show some cs' = some cs from h)
    simp only [Rel] at hr
    obtain ⟨h1, vs, rfl, h2⟩ := hr
    exact ⟨h2, h1⟩
  | tu _ => cases h
  | _ => exact single _ rfl hr (Option.some.inj (show some _ = some cs from h)).symm

theorem storeAt_inv {x : AV} {new : List AV} {h h' : H} (hr : storeAt x new h = some h') :
    ∃ i off el l fz l', x = .p i off ∧ h.get i = some (.cs el l fz) ∧ fz = false ∧ lay l off new = some l' ∧ h' = h.put i (.cs el l' fz) := by
  cases x with
  | p i off =>
    have hr : blkLay (h.get i) i off new h = some h' := hr
    cases hb : h.get i with
    | none => rw [hb] at hr; cases hr
    | some b =>
      rw [hb] at hr
      cases b with
      | cs el l fz =>
        cases fz with
        | true => cases hr
        | false =>
        have hr : (Option.rec none (fun l' => some (h.put i (.cs el l' false))) (lay l off new) : Option H) = some h' := hr
        cases hl : lay l off new with
        | none => rw [hl] at hr; cases hr
        | some l' =>
          rw [hl] at hr
          exact ⟨i, off, el, l, false, l', rfl, hb, rfl, hl, (Option.some.inj (show some _ = some h' from hr)).symm⟩
      | mp es => cases hr
      | it s p => cases hr
      | dead => cases hr
  | _ => cases hr

/-- A store, in both. -/
theorem store_both {P : Program} {e : Env} (hs : St e) {x : AV} {cv : Value} (hx : Rel e x cv) {new : List AV} {vs : List Value} (hn : RelL e new vs) (ho : ∀ c ∈ new, one c = true) {h' : H} (hr : storeAt x new e.h = some h') (hne : new ≠ []) :
    ∃ ad w', cv = .pointer (some ad) ∧ (storeCells ad vs).run P e.w = .ok () w' ∧ St ⟨e.ρ, h', w', e.F⟩ ∧ Ext e ⟨e.ρ, h', w', e.F⟩ := by
  obtain ⟨i, off, el, l, fz, l', rfl, hg, hfz, hl, rfl⟩ := storeAt_inv hr
  obtain ⟨kn, rfl⟩ := rel_p hx
  obtain ⟨hl1, hl2, hl3⟩ := lay_some _ _ _ _ hl
  have hlen := hn.len
  have hpos : 0 < new.length := by cases new with
    | nil => exact absurd rfl hne
    | cons _ _ => simp
  have hl2 := hl2 hpos
  obtain ⟨c, fr, hc1, hc2, hc3, hc4, hc5⟩ := hs.blk i _ hg
  have hvone : ∀ v ∈ vs, v.oneCell' = true := fun v hv => by
    obtain ⟨j, hj⟩ := List.mem_iff_getElem?.1 hv
    have hjl : j < new.length := by have := (List.getElem?_eq_some_iff.1 hj).1; omega
    obtain ⟨u, hu, hru⟩ := hn.get (List.getElem?_eq_getElem hjl)
    rw [hj] at hu
    obtain rfl := Option.some.inj hu
    exact hru.one_cell (ho _ (List.getElem_mem hjl))
  have hrun := run_storeCells_lay (P := P) (e.ρ i).1 el fr vs ((e.ρ i).2 + off) 0 c e.w hc1 (by omega) hvone (fun j hj hh => by
    have := hc4 hfz _ hh.1 hh.2
    omega)
  have hsz := layA_size vs c ((e.ρ i).2 + off + 0)
  have x := write_ext (el' := el) (l' := l') (fz' := fz) hg hc1 hsz
  refine ⟨_, _, rfl, hrun, ?_, x⟩
  refine write_st hs hg hc1 hsz ?_
  refine ⟨layA c ((e.ρ i).2 + off + 0) vs, fr, setRow_heap _ _ _ _ _ _ hc1, ?_, fun j y hy => ?_, fun h o h1 h2 => by rw [hsz]; exact hc4 h o h1 h2, hc5⟩
  · rw [hsz, hl1]; exact hc2
  · have hget := layA_get vs c ((e.ρ i).2 + off + 0) ((e.ρ i).2 + j) (by omega)
    rw [hl3 j] at hy
    show one y = true ∧ ∃ v, (layA c _ vs)[(e.ρ i).2 + j]? = some v ∧ _
    rw [hget]
    by_cases hin : off ≤ j ∧ j < off + new.length
    · rw [if_pos hin] at hy
      rw [if_pos (by omega)]
      obtain ⟨u, hu, hru⟩ := hn.get hy
      refine ⟨ho y (List.mem_of_getElem? hy), u, ?_, Rel.ext x _ _ hru⟩
      rw [← hu]; congr 1; omega
    · rw [if_neg hin] at hy
      rw [if_neg (by omega)]
      obtain ⟨h1, u, hu, hru⟩ := hc3 j y hy
      exact ⟨h1, u, hu, Rel.ext x _ _ hru⟩

end Go.Ev
