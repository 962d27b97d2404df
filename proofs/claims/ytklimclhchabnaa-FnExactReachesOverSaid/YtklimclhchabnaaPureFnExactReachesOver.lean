/- The plain part of FnExactReachesOver: what the printed functions of the program and of the reference answer, in plain Lean, and that the law answers true. No condition. -/
import Derived.Test.YtklimclhchabnaaStFnExactReachesOver
import Derived.Test.YtklimclhchabnaaM
namespace Go.Proofs.Ytklimclhchabnaa.PbFnExactReachesOver
open Go.RowKit Go.Proofs.Ytklimclhchabnaa Go.Proofs.Ytklimclhchabnaa.PFnExactReachesOver Go.Proofs.YtklimclhchabnaaW.PrintWords Go.Proofs.YtklimclhchabnaaW.PrintLast
set_option linter.unusedVariables false
set_option linter.unusedSimpArgs false

theorem l1In_eq (a b c : Int) : spec_l1In.f a b c = some (decide (b ≤ a ∧ a ≤ c)) := by
  unfold spec_l1In.f
  by_cases h : b ≤ a <;> simp [h]
theorem lnBox_eq (a b : Int) : spec_lnBox.f a b = some (decide ((1 ≤ a ∧ a ≤ 60) ∧ 1 ≤ b ∧ b ≤ 60)) := by
  unfold spec_lnBox.f
  by_cases h : 1 ≤ a ∧ a ≤ 60 <;> simp [l1In_eq, h]
theorem lnLong_eq (a : Int) : spec_lnLong.f a = some (decide (1 ≤ a ∧ a ≤ 1000)) := by simp [spec_lnLong.f, l1In_eq]
theorem lnReaches_eq (w h f x : Int) (hb : (1 ≤ w ∧ w ≤ 60) ∧ 1 ≤ h ∧ h ≤ 60) (hf : 1 ≤ f ∧ f ≤ 1000) (hx : 1 ≤ x ∧ x ≤ 1000) (hw : w < f) :
    spec_lnReaches.f w h f x = some (decide (f * f * ((f - w) * (f - w) + h * h) ≤ x * x * (f - w) * (f - w))) := by
  have h1 := M.mulb 1000 1000 (a := f) (b := f) (by omega) (by omega) (by omega) (by omega)
  have h2 := M.mulb 1000 1000 (a := x) (b := x) (by omega) (by omega) (by omega) (by omega)
  have h3 := M.mulb 1000 1000 (a := f - w) (b := f - w) (by omega) (by omega) (by omega) (by omega)
  have h4 := M.mulb 60 60 (a := h) (b := h) (by omega) (by omega) (by omega) (by omega)
  have h5 := M.mulb 1000000 1003600 (a := f * f) (b := (f - w) * (f - w) + h * h) (by omega) (by omega) (by omega) (by omega)
  have h6 := M.mulb 1000000 1000 (a := x * x) (b := f - w) (by omega) (by omega) (by omega) (by omega)
  have h7 := M.mulb 1000000000 1000 (a := x * x * (f - w)) (b := f - w) (by omega) (by omega) (by omega) (by omega)
  unfold spec_lnReaches.f
  rw [M.wrap_id (n := f - w) (by omega) (by omega), M.wrap_id (n := f * f) (by omega) (by omega), M.wrap_id (n := (f - w) * (f - w)) (by omega) (by omega), M.wrap_id (n := h * h) (by omega) (by omega),
    M.wrap_id (n := (f - w) * (f - w) + h * h) (by omega) (by omega), M.wrap_id (n := f * f * ((f - w) * (f - w) + h * h)) (by omega) (by omega), M.wrap_id (n := x * x) (by omega) (by omega),
    M.wrap_id (n := x * x * (f - w)) (by omega) (by omega), M.wrap_id (n := x * x * (f - w) * (f - w)) (by omega) (by omega)]
theorem sReachesOver_eq (w h f x : Int) : spec_ReachesOver.f w h f x = some (if ((1 ≤ w ∧ w ≤ 60) ∧ 1 ≤ h ∧ h ≤ 60) ∧ (1 ≤ f ∧ f ≤ 1000) ∧ (1 ≤ x ∧ x ≤ 1000) ∧ w < f then (decide (f * f * ((f - w) * (f - w) + h * h) ≤ x * x * (f - w) * (f - w)), true) else (false, false)) := by
  simp only [spec_ReachesOver.f, lnBox_eq, lnLong_eq, Option.bind_some, decide_eq_true_eq]
  by_cases hb : (1 ≤ w ∧ w ≤ 60) ∧ 1 ≤ h ∧ h ≤ 60
  · by_cases hf : 1 ≤ f ∧ f ≤ 1000
    · by_cases hx : 1 ≤ x ∧ x ≤ 1000
      · by_cases hw : f ≤ w
        · rw [if_pos hb, if_pos hf, if_pos hx, if_pos hw, if_neg (fun h => by omega)]
        · rw [if_pos hb, if_pos hf, if_pos hx, if_neg hw, lnReaches_eq w h f x hb hf hx (by omega), if_pos ⟨hb, hf, hx, by omega⟩]; rfl
      · rw [if_pos hb, if_pos hf, if_neg hx, if_neg (fun h => hx h.2.2.1)]
    · rw [if_pos hb, if_neg hf, if_neg (fun h => hf h.2.1)]
  · rw [if_neg hb, if_neg (fun h => hb h.1)]
theorem within_eq (a b c : Int) : impl_within.f a b c = some (decide (b ≤ a ∧ a ≤ c)) := by
  unfold impl_within.f
  by_cases h : b ≤ a <;> simp [h]
theorem isLong_eq (a : Int) : impl_isLong.f a = some (decide (1 ≤ a ∧ a ≤ 1000)) := by simp [impl_isLong.f, within_eq]
theorem IsBox_eq (a b : Int) : impl_IsBox.f a b = some (decide ((1 ≤ a ∧ a ≤ 60) ∧ 1 ≤ b ∧ b ≤ 60)) := by
  unfold impl_IsBox.f
  by_cases h : 1 ≤ a ∧ a ≤ 60 <;> simp [within_eq, h]
theorem isFootOver_eq (w h f : Int) : impl_isFootOver.f w h f = some (decide (((1 ≤ w ∧ w ≤ 60) ∧ 1 ≤ h ∧ h ≤ 60) ∧ (1 ≤ f ∧ f ≤ 1000) ∧ w < f)) := by
  simp only [impl_isFootOver.f, IsBox_eq, isLong_eq, Option.bind_some, decide_eq_true_eq]
  by_cases hb : (1 ≤ w ∧ w ≤ 60) ∧ 1 ≤ h ∧ h ≤ 60 <;> by_cases hf : 1 ≤ f ∧ f ≤ 1000 <;> simp [hb, hf]
theorem square_eq (a b : Int) (ha : -1000000 ≤ a ∧ a ≤ 1000000) (hb : -1000000 ≤ b ∧ b ≤ 1000000) : impl_square.f a b = some (a * a + b * b) := by
  have h1 := M.mulabs 1000000 1000000 (a := a) (b := a) (by omega) (by omega) (by omega) (by omega)
  have h2 := M.mulabs 1000000 1000000 (a := b) (b := b) (by omega) (by omega) (by omega) (by omega)
  unfold impl_square.f
  rw [M.wrap_id (n := a * a) (by omega) (by omega), M.wrap_id (n := b * b) (by omega) (by omega), M.wrap_id (by omega) (by omega)]
theorem reachesOver_eq (w h f x : Int) (hb : (1 ≤ w ∧ w ≤ 60) ∧ 1 ≤ h ∧ h ≤ 60) (hf : 1 ≤ f ∧ f ≤ 1000) (hx : 1 ≤ x ∧ x ≤ 1000) (hw : w < f) :
    impl_reachesOver.f w h f x = some (decide (f * f * ((f - w) * (f - w) + h * h) ≤ x * x * (f - w) * (f - w))) := by
  have h1 := M.mulb 1000 1000 (a := f) (b := f) (by omega) (by omega) (by omega) (by omega)
  have h2 := M.mulb 1000 1000 (a := x) (b := x) (by omega) (by omega) (by omega) (by omega)
  have h3 := M.mulb 1000 1000 (a := f - w) (b := f - w) (by omega) (by omega) (by omega) (by omega)
  have h4 := M.mulb 60 60 (a := h) (b := h) (by omega) (by omega) (by omega) (by omega)
  have h5 := M.mulb 1000000 1003600 (a := f * f) (b := (f - w) * (f - w) + h * h) (by omega) (by omega) (by omega) (by omega)
  have h6 := M.mulb 1000000 1000 (a := x * x) (b := f - w) (by omega) (by omega) (by omega) (by omega)
  have h7 := M.mulb 1000000000 1000 (a := x * x * (f - w)) (b := f - w) (by omega) (by omega) (by omega) (by omega)
  unfold impl_reachesOver.f
  rw [M.wrap_id (n := f - w) (by omega) (by omega), square_eq _ _ (by omega) (by omega), Option.bind_some, M.wrap_id (n := f * f) (by omega) (by omega), M.wrap_id (n := f * f * ((f - w) * (f - w) + h * h)) (by omega) (by omega), M.wrap_id (n := x * x) (by omega) (by omega),
    M.wrap_id (n := x * x * (f - w)) (by omega) (by omega), M.wrap_id (n := x * x * (f - w) * (f - w)) (by omega) (by omega)]
theorem iReachesOver_eq (w h f x : Int) : impl_ReachesOver.f w h f x = some (if ((1 ≤ w ∧ w ≤ 60) ∧ 1 ≤ h ∧ h ≤ 60) ∧ (1 ≤ f ∧ f ≤ 1000) ∧ (1 ≤ x ∧ x ≤ 1000) ∧ w < f then (decide (f * f * ((f - w) * (f - w) + h * h) ≤ x * x * (f - w) * (f - w)), true) else (false, false)) := by
  simp only [impl_ReachesOver.f, isFootOver_eq, isLong_eq, Option.bind_some, decide_eq_true_eq]
  by_cases hb : ((1 ≤ w ∧ w ≤ 60) ∧ 1 ≤ h ∧ h ≤ 60) ∧ (1 ≤ f ∧ f ≤ 1000) ∧ w < f
  · by_cases hx : 1 ≤ x ∧ x ≤ 1000
    · rw [if_pos hb, if_pos hx, reachesOver_eq w h f x hb.1 hb.2.1 hx hb.2.2, if_pos ⟨hb.1, hb.2.1, hx, hb.2.2⟩]; rfl
    · rw [if_pos hb, if_neg hx, if_neg (fun h => hx h.2.2.1)]
  · rw [if_neg hb, if_neg (fun h => hb ⟨h.1, h.2.1, h.2.2.2⟩)]
theorem law : StFnExactReachesOver.Pure := by
  intro w h f x _ _ _ _
  simp [laws_FnExactReachesOver.f, laws_toBox.f, sReachesOver_eq, iReachesOver_eq]
end Go.Proofs.Ytklimclhchabnaa.PbFnExactReachesOver
namespace Go.Proofs.Ytklimclhchabnaa.Pure
theorem FnExactReachesOver : StFnExactReachesOver.Pure := PbFnExactReachesOver.law
end Go.Proofs.Ytklimclhchabnaa.Pure
