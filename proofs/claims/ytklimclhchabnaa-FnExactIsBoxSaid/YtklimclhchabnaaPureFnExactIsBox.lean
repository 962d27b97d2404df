/- The plain part of FnExactIsBox: what the printed functions of the program and of the reference answer, in plain Lean, and that the law answers true. No condition. -/
import Derived.Test.YtklimclhchabnaaStFnExactIsBox
import Derived.Test.YtklimclhchabnaaM
namespace Go.Proofs.Ytklimclhchabnaa.PbFnExactIsBox
open Go.RowKit Go.Proofs.Ytklimclhchabnaa Go.Proofs.Ytklimclhchabnaa.PFnExactIsBox Go.Proofs.YtklimclhchabnaaW.PrintWords Go.Proofs.YtklimclhchabnaaW.PrintLast
set_option linter.unusedVariables false
set_option linter.unusedSimpArgs false

theorem l1In_eq (a b c : Int) : spec_l1In.f a b c = some (decide (b ≤ a ∧ a ≤ c)) := by
  unfold spec_l1In.f
  by_cases h : b ≤ a <;> simp [h]
theorem lnBox_eq (a b : Int) : spec_lnBox.f a b = some (decide ((1 ≤ a ∧ a ≤ 60) ∧ 1 ≤ b ∧ b ≤ 60)) := by
  unfold spec_lnBox.f
  by_cases h : 1 ≤ a ∧ a ≤ 60 <;> simp [l1In_eq, h]
theorem sIsBox_eq (a b : Int) : spec_IsBox.f a b = some (decide ((1 ≤ a ∧ a ≤ 60) ∧ 1 ≤ b ∧ b ≤ 60)) := by simp [spec_IsBox.f, lnBox_eq]
theorem within_eq (a b c : Int) : impl_within.f a b c = some (decide (b ≤ a ∧ a ≤ c)) := by
  unfold impl_within.f
  by_cases h : b ≤ a <;> simp [h]
theorem IsBox_eq (a b : Int) : impl_IsBox.f a b = some (decide ((1 ≤ a ∧ a ≤ 60) ∧ 1 ≤ b ∧ b ≤ 60)) := by
  unfold impl_IsBox.f
  by_cases h : 1 ≤ a ∧ a ≤ 60 <;> simp [within_eq, h]
theorem law : StFnExactIsBox.Pure := by
  intro a b _ _
  simp [laws_FnExactIsBox.f, laws_toBox.f, sIsBox_eq, IsBox_eq]
end Go.Proofs.Ytklimclhchabnaa.PbFnExactIsBox
namespace Go.Proofs.Ytklimclhchabnaa.Pure
theorem FnExactIsBox : StFnExactIsBox.Pure := PbFnExactIsBox.law
end Go.Proofs.Ytklimclhchabnaa.Pure
