/- The plain part of FnExactLeastLadder: what the printed functions of the program and of the reference answer, in plain Lean, and that the law answers true. No condition. -/
import Derived.Test.YtpiahpolmmogbaaStFnExactLeastLadder
import Derived.Test.YtpiahpolmmogbaaM
namespace Go.Proofs.Ytpiahpolmmogbaa.PbFnExactLeastLadder
open Go.RowKit Go.Proofs.Ytpiahpolmmogbaa Go.Proofs.Ytpiahpolmmogbaa.PFnExactLeastLadder Go.Proofs.YtpiahpolmmogbaaW.PrintWords Go.Proofs.YtpiahpolmmogbaaW.PrintLast
set_option linter.unusedVariables false
set_option linter.unusedSimpArgs false

theorem l1In_eq (a b c : Int) : spec_l1In.f a b c = some (decide (b ≤ a ∧ a ≤ c)) := by
  unfold spec_l1In.f
  by_cases h : b ≤ a <;> simp [h]
theorem lnBox_eq (a b : Int) : spec_lnBox.f a b = some (decide ((1 ≤ a ∧ a ≤ 60) ∧ 1 ≤ b ∧ b ≤ 60)) := by
  unfold spec_lnBox.f
  by_cases h : 1 ≤ a ∧ a ≤ 60 <;> simp [l1In_eq, h]
theorem lnReaches_eq (w h f x : Int) (hb : (1 ≤ w ∧ w ≤ 60) ∧ 1 ≤ h ∧ h ≤ 60) (hf : 1 ≤ f ∧ f ≤ 1000) (hx : 1 ≤ x ∧ x ≤ 1000) (hw : w < f) :
    spec_lnReaches.f w h f x = some (decide (f * f * ((f - w) * (f - w) + h * h) ≤ x * x * (f - w) * (f - w))) := by
  have h1 := M.mulb 1000 1000 (a := f) (b := f) (by omega) (by omega) (by omega) (by omega)
  have h2 := M.mulb 1000 1000 (a := x) (b := x) (by omega) (by omega) (by omega) (by omega)
  have h3 := M.mulb 1000 1000 (a := f - w) (b := f - w) (by omega) (by omega) (by omega) (by omega)
  have h4 := M.mulb 60 60 (a := h) (b := h) (by omega) (by omega) (by omega) (by omega)
  have h5 := M.mulb 1000000 1003600 (a := f * f) (b := (f - w) * (f - w) + h * h) (by omega) (by omega) (by omega) (by omega)
  have h6 := M.mulb 1000000 1000 (a := x * x) (b := f - w) (by omega) (by omega) (by omega) (by omega)
  have h7 := M.mulb 1000000000 1000 (a := x * x * (f - w)) (b := f - w) (by omega) (by omega) (by omega) (by omega)
  unfold spec_lnReaches.f
  rw [M.wrap_id (n := f - w) (by omega) (by omega), M.wrap_id (n := f * f) (by omega) (by omega), M.wrap_id (n := (f - w) * (f - w)) (by omega) (by omega), M.wrap_id (n := h * h) (by omega) (by omega),
    M.wrap_id (n := (f - w) * (f - w) + h * h) (by omega) (by omega), M.wrap_id (n := f * f * ((f - w) * (f - w) + h * h)) (by omega) (by omega), M.wrap_id (n := x * x) (by omega) (by omega),
    M.wrap_id (n := x * x * (f - w)) (by omega) (by omega), M.wrap_id (n := x * x * (f - w) * (f - w)) (by omega) (by omega)]
theorem spec_lnFeet_l0_ev (x1 : Int) (x5 : List Int) (x6 : Int) (x106000 : Int) (x106001 : Int) {r : (List Int)} (h : Ev (fun k => if x6 ≤ x1 then ((spec_lnReaches.f x106000 x106001 x6 x1).bind fun t106 => (if t106 = true then (if x5.length < 17592186044416 then (spec_lnFeet.l0 k x1 (x5 ++ [x6]) (wrap64 (x6 + 1)) x106000 x106001) else (none)) else (spec_lnFeet.l0 k x1 x5 (wrap64 (x6 + 1)) x106000 x106001))) else (some x5)) r) : Ev (fun k => spec_lnFeet.l0 k x1 x5 x6 x106000 x106001) r := Ev.step (fun k => by simp only [spec_lnFeet.l0]) h
def reach (w h x f : Int) : Bool := decide (f * f * ((f - w) * (f - w) + h * h) ≤ x * x * (f - w) * (f - w))
theorem lnFeet_l0 (w h x : Int) (hb : (1 ≤ w ∧ w ≤ 60) ∧ 1 ≤ h ∧ h ≤ 60) (hx : 1 ≤ x ∧ x ≤ 1000) : ∀ (n : Nat) (acc : List Int) (f : Int), (x + 1 - f).toNat = n → w < f → f ≤ 1001 → acc.length ≤ f →
    Ev (fun k => spec_lnFeet.l0 k x acc f w h) (acc ++ M.sel (reach w h x) f n)
  | 0, acc, f, hn, hw, h1, ha => by
    have e : acc ++ M.sel (reach w h x) f 0 = acc := by simp [M.sel]
    rw [e]
    exact spec_lnFeet_l0_ev _ _ _ _ _ (M.evn (by omega) (Ev.now _))
  | n + 1, acc, f, hn, hw, h1, ha => by
    refine spec_lnFeet_l0_ev _ _ _ _ _ (M.evp (by omega) ?_)
    rw [lnReaches_eq w h f x hb (by omega) hx hw, M.wrap_id (n := f + 1) (by omega) (by omega)]
    simp only [Option.bind_some]
    rw [M.sel]
    by_cases hr : reach w h x f = true
    · rw [if_pos hr]
      refine M.evp hr (M.evp (by omega) ?_)
      have := lnFeet_l0 w h x hb hx n (acc ++ [f]) (f + 1) (by omega) (by omega) (by omega) (by simp; omega)
      simpa using this
    · rw [if_neg hr]
      exact M.evn hr (lnFeet_l0 w h x hb hx n acc (f + 1) (by omega) (by omega) (by omega) (by omega))
theorem lnFeet_ev (w h x : Int) (hb : (1 ≤ w ∧ w ≤ 60) ∧ 1 ≤ h ∧ h ≤ 60) (hx : 1 ≤ x ∧ x ≤ 1000) : Ev (fun k => spec_lnFeet.f k w h x) (M.sel (reach w h x) (w + 1) (x - w).toNat) := by
  unfold spec_lnFeet.f
  rw [M.wrap_id (n := w + 1) (by omega) (by omega)]
  simpa using lnFeet_l0 w h x hb hx (x - w).toNat [] (w + 1) (by omega) (by omega) (by omega) (by simp; omega)
theorem spec_LeastLadder_l0_ev (x5 : Int) (x111000 : Int) (x111001 : Int) {r : (Int × Int × Bool)} (h : Ev (fun k => if x5 ≤ 1000 then ((spec_lnFeet.f k x111000 x111001 x5).bind fun t112 => (if (t112.length : Int) > 0 then (if 0 < (t112.length : Int) then (some (x5, rd t112 0, true)) else (none)) else (spec_LeastLadder.l0 k (wrap64 (x5 + 1)) x111000 x111001))) else (some (0, 0, false))) r) : Ev (fun k => spec_LeastLadder.l0 k x5 x111000 x111001) r := Ev.step (fun k => by simp only [spec_LeastLadder.l0]) h
/-- Some foot is told for the length x. -/
def some_foot (w h x : Int) : Bool := decide ((M.sel (reach w h x) (w + 1) (x - w).toNat).length ≠ 0)
/-- How long the least ladder is. -/
def least (w h : Int) : Int := M.first (some_foot w h) 1 1000
theorem least_spec (w h : Int) (hb : (1 ≤ w ∧ w ≤ 60) ∧ 1 ≤ h ∧ h ≤ 60) : some_foot w h (least w h) = true ∧ 1 ≤ least w h ∧ least w h ≤ 170 ∧ w < least w h ∧ ∀ y, 1 ≤ y → y < least w h → some_foot w h y = false := by
  have wit : some_foot w h 170 = true := by
    have hr : reach w h 170 (2 * w) = true := by
      unfold reach
      rw [decide_eq_true_eq]
      have e1 : 2 * w - w = w := by omega
      rw [e1]
      have hA := M.mulb 60 60 (a := w) (b := w) (by omega) (by omega) (by omega) (by omega)
      have hB := M.mulb 60 60 (a := h) (b := h) (by omega) (by omega) (by omega) (by omega)
      have e2 : 2 * w * (2 * w) * (w * w + h * h) = w * w * (4 * (w * w + h * h)) := by grind
      have e3 : (170 : Int) * 170 * w * w = w * w * 28900 := by grind
      rw [e2, e3]
      exact Int.mul_le_mul_of_nonneg_left (by omega) hA.1
    have hm : 2 * w ∈ M.sel (reach w h 170) (w + 1) (170 - w).toNat := (M.sel_mem _ _ _ _).2 ⟨by omega, by omega, hr⟩
    unfold some_foot
    rw [decide_eq_true_eq]
    intro e
    rw [List.length_eq_zero_iff] at e
    rw [e] at hm; simp at hm
  obtain ⟨a1, a2, a3, a4⟩ := M.first_spec (some_foot w h) 1000 1 170 (by omega) (by omega) wit
  refine ⟨a1, a2, a3, ?_, a4⟩
  show w < M.first (some_foot w h) 1 1000
  rcases Int.lt_or_le w (M.first (some_foot w h) 1 1000) with h1 | h1
  · exact h1
  · exfalso
    have e : (M.first (some_foot w h) 1 1000 - w).toNat = 0 := by omega
    have := a1
    unfold some_foot at this
    rw [decide_eq_true_eq] at this
    rw [show M.first (fun x => decide ((M.sel (reach w h x) (w + 1) (x - w).toNat).length ≠ 0)) 1 1000 = M.first (some_foot w h) 1 1000 from rfl, e] at this
    exact this rfl
theorem sLeast_l0 (w h : Int) (hb : (1 ≤ w ∧ w ≤ 60) ∧ 1 ≤ h ∧ h ≤ 60) : ∀ (n : Nat) (x : Int), (least w h - x).toNat = n → 1 ≤ x → x ≤ least w h →
    Ev (fun k => spec_LeastLadder.l0 k x w h) (least w h, rd (M.sel (reach w h (least w h)) (w + 1) (least w h - w).toNat) 0, true)
  | n, x, hn, h1, h2 => by
    obtain ⟨p1, p2, p3, p4, p5⟩ := least_spec w h hb
    refine spec_LeastLadder_l0_ev _ _ _ (M.evp (by omega) (Ev.bind (lnFeet_ev w h x hb (by omega)) ?_))
    by_cases e : x = least w h
    · subst e
      have hp : (M.sel (reach w h (least w h)) (w + 1) (least w h - w).toNat).length ≠ 0 := by
        have := p1; unfold some_foot at this; rw [decide_eq_true_eq] at this; exact this
      exact M.evp (by omega) (M.evp (by omega) (Ev.now _))
    · cases n with
      | zero => omega
      | succ n =>
        have hp : (M.sel (reach w h x) (w + 1) (x - w).toNat).length = 0 := by
          have := p5 x h1 (by omega); unfold some_foot at this; rw [decide_eq_false_iff_not, Decidable.not_not] at this; exact this
        rw [M.wrap_id (n := x + 1) (by omega) (by omega)]
        exact M.evn (by omega) (sLeast_l0 w h hb n (x + 1) (by omega) (by omega) (by omega))
theorem sLeast_ev (w h : Int) : Ev (fun k => spec_LeastLadder.f k w h) (if (1 ≤ w ∧ w ≤ 60) ∧ 1 ≤ h ∧ h ≤ 60 then (least w h, rd (M.sel (reach w h (least w h)) (w + 1) (least w h - w).toNat) 0, true) else (0, 0, false)) := by
  simp only [spec_LeastLadder.f, lnBox_eq, Option.bind_some, decide_eq_true_eq]
  by_cases hb : (1 ≤ w ∧ w ≤ 60) ∧ 1 ≤ h ∧ h ≤ 60
  · refine M.evp hb ?_
    have := least_spec w h hb
    rw [if_pos hb, M.wrap_id (n := w + 1) (by omega) (by omega)]
    exact sLeast_l0 w h hb _ (w + 1) rfl (by omega) (by omega)
  · rw [if_neg hb]; exact M.evn hb (Ev.now _)
theorem within_eq (a b c : Int) : impl_within.f a b c = some (decide (b ≤ a ∧ a ≤ c)) := by
  unfold impl_within.f
  by_cases h : b ≤ a <;> simp [h]
theorem IsBox_eq (a b : Int) : impl_IsBox.f a b = some (decide ((1 ≤ a ∧ a ≤ 60) ∧ 1 ≤ b ∧ b ≤ 60)) := by
  unfold impl_IsBox.f
  by_cases h : 1 ≤ a ∧ a ≤ 60 <;> simp [within_eq, h]
theorem square_eq (a b : Int) (ha : -1000000 ≤ a ∧ a ≤ 1000000) (hb : -1000000 ≤ b ∧ b ≤ 1000000) : impl_square.f a b = some (a * a + b * b) := by
  have h1 := M.mulabs 1000000 1000000 (a := a) (b := a) (by omega) (by omega) (by omega) (by omega)
  have h2 := M.mulabs 1000000 1000000 (a := b) (b := b) (by omega) (by omega) (by omega) (by omega)
  unfold impl_square.f
  rw [M.wrap_id (n := a * a) (by omega) (by omega), M.wrap_id (n := b * b) (by omega) (by omega), M.wrap_id (by omega) (by omega)]
theorem reachesOver_eq (w h f x : Int) (hb : (1 ≤ w ∧ w ≤ 60) ∧ 1 ≤ h ∧ h ≤ 60) (hf : 1 ≤ f ∧ f ≤ 1000) (hx : 1 ≤ x ∧ x ≤ 1000) (hw : w < f) :
    impl_reachesOver.f w h f x = some (decide (f * f * ((f - w) * (f - w) + h * h) ≤ x * x * (f - w) * (f - w))) := by
  have h1 := M.mulb 1000 1000 (a := f) (b := f) (by omega) (by omega) (by omega) (by omega)
  have h2 := M.mulb 1000 1000 (a := x) (b := x) (by omega) (by omega) (by omega) (by omega)
  have h3 := M.mulb 1000 1000 (a := f - w) (b := f - w) (by omega) (by omega) (by omega) (by omega)
  have h4 := M.mulb 60 60 (a := h) (b := h) (by omega) (by omega) (by omega) (by omega)
  have h5 := M.mulb 1000000 1003600 (a := f * f) (b := (f - w) * (f - w) + h * h) (by omega) (by omega) (by omega) (by omega)
  have h6 := M.mulb 1000000 1000 (a := x * x) (b := f - w) (by omega) (by omega) (by omega) (by omega)
  have h7 := M.mulb 1000000000 1000 (a := x * x * (f - w)) (b := f - w) (by omega) (by omega) (by omega) (by omega)
  unfold impl_reachesOver.f
  rw [M.wrap_id (n := f - w) (by omega) (by omega), square_eq _ _ (by omega) (by omega), Option.bind_some, M.wrap_id (n := f * f) (by omega) (by omega), M.wrap_id (n := f * f * ((f - w) * (f - w) + h * h)) (by omega) (by omega), M.wrap_id (n := x * x) (by omega) (by omega),
    M.wrap_id (n := x * x * (f - w)) (by omega) (by omega), M.wrap_id (n := x * x * (f - w) * (f - w)) (by omega) (by omega)]
theorem impl_feetFor_l0_ev (x1 : Int) (x5 : List Int) (x6 : Int) (x125000 : Int) (x125001 : Int) {r : (List Int)} (h : Ev (fun k => if x6 ≤ x1 then ((impl_reachesOver.f x125000 x125001 x6 x1).bind fun t128 => (if t128 = true then (if x5.length < 17592186044416 then (impl_feetFor.l0 k x1 (x5 ++ [x6]) (wrap64 (x6 + 1)) x125000 x125001) else (none)) else (impl_feetFor.l0 k x1 x5 (wrap64 (x6 + 1)) x125000 x125001))) else (some x5)) r) : Ev (fun k => impl_feetFor.l0 k x1 x5 x6 x125000 x125001) r := Ev.step (fun k => by simp only [impl_feetFor.l0]) h
theorem feetFor_l0 (w h x : Int) (hb : (1 ≤ w ∧ w ≤ 60) ∧ 1 ≤ h ∧ h ≤ 60) (hx : 1 ≤ x ∧ x ≤ 1000) : ∀ (n : Nat) (acc : List Int) (f : Int), (x + 1 - f).toNat = n → w < f → f ≤ 1001 → acc.length ≤ f →
    Ev (fun k => impl_feetFor.l0 k x acc f w h) (acc ++ M.sel (reach w h x) f n)
  | 0, acc, f, hn, hw, h1, ha => by
    have e : acc ++ M.sel (reach w h x) f 0 = acc := by simp [M.sel]
    rw [e]
    exact impl_feetFor_l0_ev _ _ _ _ _ (M.evn (by omega) (Ev.now _))
  | n + 1, acc, f, hn, hw, h1, ha => by
    refine impl_feetFor_l0_ev _ _ _ _ _ (M.evp (by omega) ?_)
    rw [reachesOver_eq w h f x hb (by omega) hx hw, M.wrap_id (n := f + 1) (by omega) (by omega)]
    simp only [Option.bind_some]
    rw [M.sel]
    by_cases hr : reach w h x f = true
    · rw [if_pos hr]
      refine M.evp hr (M.evp (by omega) ?_)
      have := feetFor_l0 w h x hb hx n (acc ++ [f]) (f + 1) (by omega) (by omega) (by omega) (by simp; omega)
      simpa using this
    · rw [if_neg hr]
      exact M.evn hr (feetFor_l0 w h x hb hx n acc (f + 1) (by omega) (by omega) (by omega) (by omega))
theorem feetFor_ev (w h x : Int) (hb : (1 ≤ w ∧ w ≤ 60) ∧ 1 ≤ h ∧ h ≤ 60) (hx : 1 ≤ x ∧ x ≤ 1000) : Ev (fun k => impl_feetFor.f k w h x) (M.sel (reach w h x) (w + 1) (x - w).toNat) := by
  unfold impl_feetFor.f
  rw [M.wrap_id (n := w + 1) (by omega) (by omega)]
  simpa using feetFor_l0 w h x hb hx (x - w).toNat [] (w + 1) (by omega) (by omega) (by omega) (by simp; omega)
theorem impl_LeastLadder_l0_ev (x5 : Int) (x133000 : Int) (x133001 : Int) {r : (Int × Int × Bool)} (h : Ev (fun k => (impl_feetFor.f k x133000 x133001 x5).bind fun t134 => (if (t134.length : Int) > 0 then (if 0 < (t134.length : Int) then (some (x5, rd t134 0, true)) else (none)) else (impl_LeastLadder.l0 k (wrap64 (x5 + 1)) x133000 x133001))) r) : Ev (fun k => impl_LeastLadder.l0 k x5 x133000 x133001) r := Ev.step (fun k => by simp only [impl_LeastLadder.l0]) h
theorem iLeast_l0 (w h : Int) (hb : (1 ≤ w ∧ w ≤ 60) ∧ 1 ≤ h ∧ h ≤ 60) : ∀ (n : Nat) (x : Int), (least w h - x).toNat = n → 1 ≤ x → x ≤ least w h →
    Ev (fun k => impl_LeastLadder.l0 k x w h) (least w h, rd (M.sel (reach w h (least w h)) (w + 1) (least w h - w).toNat) 0, true)
  | n, x, hn, h1, h2 => by
    obtain ⟨p1, p2, p3, p4, p5⟩ := least_spec w h hb
    refine impl_LeastLadder_l0_ev _ _ _ (Ev.bind (feetFor_ev w h x hb (by omega)) ?_)
    by_cases e : x = least w h
    · subst e
      have hp : (M.sel (reach w h (least w h)) (w + 1) (least w h - w).toNat).length ≠ 0 := by
        have := p1; unfold some_foot at this; rw [decide_eq_true_eq] at this; exact this
      exact M.evp (by omega) (M.evp (by omega) (Ev.now _))
    · cases n with
      | zero => omega
      | succ n =>
        have hp : (M.sel (reach w h x) (w + 1) (x - w).toNat).length = 0 := by
          have := p5 x h1 (by omega); unfold some_foot at this; rw [decide_eq_false_iff_not, Decidable.not_not] at this; exact this
        rw [M.wrap_id (n := x + 1) (by omega) (by omega)]
        exact M.evn (by omega) (iLeast_l0 w h hb n (x + 1) (by omega) (by omega) (by omega))
theorem iLeast_ev (w h : Int) : Ev (fun k => impl_LeastLadder.f k w h) (if (1 ≤ w ∧ w ≤ 60) ∧ 1 ≤ h ∧ h ≤ 60 then (least w h, rd (M.sel (reach w h (least w h)) (w + 1) (least w h - w).toNat) 0, true) else (0, 0, false)) := by
  simp only [impl_LeastLadder.f, IsBox_eq, Option.bind_some, decide_eq_true_eq]
  by_cases hb : (1 ≤ w ∧ w ≤ 60) ∧ 1 ≤ h ∧ h ≤ 60
  · refine M.evp hb ?_
    have := least_spec w h hb
    rw [if_pos hb]
    exact iLeast_l0 w h hb _ 1 rfl (by omega) (by omega)
  · rw [if_neg hb]; exact M.evn hb (Ev.now _)
theorem law : StFnExactLeastLadder.Pure := by
  intro w h _ _
  refine Ev.rounds ?_
  simp only [laws_FnExactLeastLadder.f, laws_toBox.f, Option.bind_some]
  refine Ev.bind (sLeast_ev w h) (Ev.bind (iLeast_ev w h) ?_)
  simp only [bne_self_eq_false, if_true, Bool.false_eq_true, if_false]
  exact Ev.now _
end Go.Proofs.Ytpiahpolmmogbaa.PbFnExactLeastLadder
namespace Go.Proofs.Ytpiahpolmmogbaa.Pure
theorem FnExactLeastLadder : StFnExactLeastLadder.Pure := PbFnExactLeastLadder.law
end Go.Proofs.Ytpiahpolmmogbaa.Pure
