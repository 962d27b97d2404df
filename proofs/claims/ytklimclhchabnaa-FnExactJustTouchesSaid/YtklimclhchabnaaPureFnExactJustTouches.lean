/- The plain part of FnExactJustTouches: what the printed functions of the program and of the reference answer, in plain Lean, and that the law answers true. No condition. -/
import Derived.Test.YtklimclhchabnaaStFnExactJustTouches
import Derived.Test.YtklimclhchabnaaM
namespace Go.Proofs.Ytklimclhchabnaa.PbFnExactJustTouches
open Go.RowKit Go.Proofs.Ytklimclhchabnaa Go.Proofs.Ytklimclhchabnaa.PFnExactJustTouches Go.Proofs.YtklimclhchabnaaW.PrintWords Go.Proofs.YtklimclhchabnaaW.PrintLast
set_option linter.unusedVariables false
set_option linter.unusedSimpArgs false

theorem l1In_eq (a b c : Int) : spec_l1In.f a b c = some (decide (b ≤ a ∧ a ≤ c)) := by
  unfold spec_l1In.f
  by_cases h : b ≤ a <;> simp [h]
theorem lnBox_eq (a b : Int) : spec_lnBox.f a b = some (decide ((1 ≤ a ∧ a ≤ 60) ∧ 1 ≤ b ∧ b ≤ 60)) := by
  unfold spec_lnBox.f
  by_cases h : 1 ≤ a ∧ a ≤ 60 <;> simp [l1In_eq, h]
theorem lnLong_eq (a : Int) : spec_lnLong.f a = some (decide (1 ≤ a ∧ a ≤ 1000)) := by simp [spec_lnLong.f, l1In_eq]
theorem lnAbove_eq (w h f x : Int) (hb : (1 ≤ w ∧ w ≤ 60) ∧ 1 ≤ h ∧ h ≤ 60) (hf : 1 ≤ f ∧ f ≤ 1000) (hx : 1 ≤ x ∧ x ≤ 1000) : spec_lnAbove.f w h f x = some (x * (f - w) - h * f) := by
  have h1 := M.mulb 60 1000 (show (0:Int) ≤ h by omega) (by omega) (show (0:Int) ≤ f by omega) (by omega)
  have h2 := M.mulabs 1000 1000 (a := x) (b := f - w) (by omega) (by omega) (by omega) (by omega)
  unfold spec_lnAbove.f
  rw [M.wrap_id (n := f - w) (by omega) (by omega), M.wrap_id (n := x * (f - w)) (by omega) (by omega), M.wrap_id (n := h * f) (by omega) (by omega), M.wrap_id (by omega) (by omega)]
theorem sJust_eq (w h f x : Int) : spec_JustTouches.f w h f x = some (if ((1 ≤ w ∧ w ≤ 60) ∧ 1 ≤ h ∧ h ≤ 60) ∧ (1 ≤ f ∧ f ≤ 1000) ∧ 1 ≤ x ∧ x ≤ 1000 then (decide (x * (f - w) = h * f), true) else (false, false)) := by
  simp only [spec_JustTouches.f, lnBox_eq, lnLong_eq, Option.bind_some, decide_eq_true_eq]
  by_cases hb : (1 ≤ w ∧ w ≤ 60) ∧ 1 ≤ h ∧ h ≤ 60
  · by_cases hf : 1 ≤ f ∧ f ≤ 1000
    · by_cases hx : 1 ≤ x ∧ x ≤ 1000
      · rw [if_pos hb, if_pos hf, if_pos hx, lnAbove_eq w h f x hb hf hx, if_pos ⟨hb, hf, hx⟩]
        simp only [Option.bind_some, Option.some.injEq, Prod.mk.injEq, and_true]
        rw [Bool.eq_iff_iff]; simp only [beq_iff_eq, decide_eq_true_eq]; omega
      · rw [if_pos hb, if_pos hf, if_neg hx, if_neg (fun h => hx h.2.2)]
    · rw [if_pos hb, if_neg hf, if_neg (fun h => hf h.2.1)]
  · rw [if_neg hb, if_neg (fun h => hb h.1)]
theorem within_eq (a b c : Int) : impl_within.f a b c = some (decide (b ≤ a ∧ a ≤ c)) := by
  unfold impl_within.f
  by_cases h : b ≤ a <;> simp [h]
theorem IsBox_eq (a b : Int) : impl_IsBox.f a b = some (decide ((1 ≤ a ∧ a ≤ 60) ∧ 1 ≤ b ∧ b ≤ 60)) := by
  unfold impl_IsBox.f
  by_cases h : 1 ≤ a ∧ a ≤ 60 <;> simp [within_eq, h]
theorem isLong_eq (a : Int) : impl_isLong.f a = some (decide (1 ≤ a ∧ a ≤ 1000)) := by simp [impl_isLong.f, within_eq]
theorem iIsClear_eq (w h f x : Int) : impl_IsClear.f w h f x = some (if ((1 ≤ w ∧ w ≤ 60) ∧ 1 ≤ h ∧ h ≤ 60) ∧ (1 ≤ f ∧ f ≤ 1000) ∧ 1 ≤ x ∧ x ≤ 1000 then (decide (h * f ≤ x * (f - w)), true) else (false, false)) := by
  simp only [impl_IsClear.f, IsBox_eq, isLong_eq, Option.bind_some, decide_eq_true_eq]
  by_cases hb : (1 ≤ w ∧ w ≤ 60) ∧ 1 ≤ h ∧ h ≤ 60
  · by_cases hf : 1 ≤ f ∧ f ≤ 1000
    · by_cases hx : 1 ≤ x ∧ x ≤ 1000
      · have h1 := M.mulb 60 1000 (show (0:Int) ≤ h by omega) (by omega) (show (0:Int) ≤ f by omega) (by omega)
        have h2 := M.mulabs 1000 1000 (a := x) (b := f - w) (by omega) (by omega) (by omega) (by omega)
        rw [if_pos hb, if_pos hf, if_pos hx, if_pos ⟨hb, hf, hx⟩, M.wrap_id (n := f - w) (by omega) (by omega), M.wrap_id (n := x * (f - w)) (by omega) (by omega), M.wrap_id (n := h * f) (by omega) (by omega)]
      · rw [if_pos hb, if_pos hf, if_neg hx, if_neg (fun h => hx h.2.2)]
    · rw [if_pos hb, if_neg hf, if_neg (fun h => hf h.2.1)]
  · rw [if_neg hb, if_neg (fun h => hb h.1)]
theorem iJust_eq (w h f x : Int) : impl_JustTouches.f w h f x = some (if ((1 ≤ w ∧ w ≤ 60) ∧ 1 ≤ h ∧ h ≤ 60) ∧ (1 ≤ f ∧ f ≤ 1000) ∧ 1 ≤ x ∧ x ≤ 1000 then (decide (x * (f - w) = h * f), true) else (false, false)) := by
  simp only [impl_JustTouches.f, iIsClear_eq, Option.bind_some]
  by_cases hb : ((1 ≤ w ∧ w ≤ 60) ∧ 1 ≤ h ∧ h ≤ 60) ∧ (1 ≤ f ∧ f ≤ 1000) ∧ 1 ≤ x ∧ x ≤ 1000
  · have h1 := M.mulb 60 1000 (show (0:Int) ≤ h by omega) (by omega) (show (0:Int) ≤ f by omega) (by omega)
    have h2 := M.mulabs 1000 1000 (a := x) (b := f - w) (by omega) (by omega) (by omega) (by omega)
    simp only [if_pos hb, if_true]
    rw [M.wrap_id (n := f - w) (by omega) (by omega), M.wrap_id (n := x * (f - w)) (by omega) (by omega), M.wrap_id (n := h * f) (by omega) (by omega)]
    rfl
  · simp only [if_neg hb, Bool.false_eq_true, if_false]
theorem law : StFnExactJustTouches.Pure := by
  intro w h f x _ _ _ _
  simp [laws_FnExactJustTouches.f, laws_toBox.f, sJust_eq, iJust_eq]
end Go.Proofs.Ytklimclhchabnaa.PbFnExactJustTouches
namespace Go.Proofs.Ytklimclhchabnaa.Pure
theorem FnExactJustTouches : StFnExactJustTouches.Pure := PbFnExactJustTouches.law
end Go.Proofs.Ytklimclhchabnaa.Pure
