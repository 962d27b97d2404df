/- The plain part of FnExactTurnBox: what the printed functions of the program and of the reference answer, in plain Lean, and that the law answers true. No condition. -/
import Derived.Test.YtklimclhchabnaaStFnExactTurnBox
import Derived.Test.YtklimclhchabnaaM
namespace Go.Proofs.Ytklimclhchabnaa.PbFnExactTurnBox
open Go.RowKit Go.Proofs.Ytklimclhchabnaa Go.Proofs.Ytklimclhchabnaa.PFnExactTurnBox Go.Proofs.YtklimclhchabnaaW.PrintWords Go.Proofs.YtklimclhchabnaaW.PrintLast
set_option linter.unusedVariables false
set_option linter.unusedSimpArgs false

theorem l1In_eq (a b c : Int) : spec_l1In.f a b c = some (decide (b ≤ a ∧ a ≤ c)) := by
  unfold spec_l1In.f
  by_cases h : b ≤ a <;> simp [h]
theorem lnBox_eq (a b : Int) : spec_lnBox.f a b = some (decide ((1 ≤ a ∧ a ≤ 60) ∧ 1 ≤ b ∧ b ≤ 60)) := by
  unfold spec_lnBox.f
  by_cases h : 1 ≤ a ∧ a ≤ 60 <;> simp [l1In_eq, h]
theorem sTurnBox_eq (w h : Int) : spec_TurnBox.f w h = some (if (1 ≤ w ∧ w ≤ 60) ∧ 1 ≤ h ∧ h ≤ 60 then (h, w, true) else (0, 0, false)) := by
  simp only [spec_TurnBox.f, lnBox_eq, Option.bind_some, decide_eq_true_eq]
  split <;> rfl
theorem within_eq (a b c : Int) : impl_within.f a b c = some (decide (b ≤ a ∧ a ≤ c)) := by
  unfold impl_within.f
  by_cases h : b ≤ a <;> simp [h]
theorem IsBox_eq (a b : Int) : impl_IsBox.f a b = some (decide ((1 ≤ a ∧ a ≤ 60) ∧ 1 ≤ b ∧ b ≤ 60)) := by
  unfold impl_IsBox.f
  by_cases h : 1 ≤ a ∧ a ≤ 60 <;> simp [within_eq, h]
theorem checkedBox_eq (w h : Int) : impl_checkedBox.f w h = some (if (1 ≤ w ∧ w ≤ 60) ∧ 1 ≤ h ∧ h ≤ 60 then (w, h, true) else (0, 0, false)) := by
  simp only [impl_checkedBox.f, IsBox_eq, Option.bind_some, decide_eq_true_eq]
  split <;> rfl
theorem iTurnBox_eq (w h : Int) : impl_TurnBox.f w h = some (if (1 ≤ w ∧ w ≤ 60) ∧ 1 ≤ h ∧ h ≤ 60 then (h, w, true) else (0, 0, false)) := by
  simp only [impl_TurnBox.f, checkedBox_eq, Option.bind_some]
  by_cases hb : (1 ≤ w ∧ w ≤ 60) ∧ 1 ≤ h ∧ h ≤ 60
  · rw [if_pos hb, if_pos ⟨hb.2, hb.1⟩]
  · rw [if_neg hb, if_neg (fun h => hb ⟨h.2, h.1⟩)]
theorem eqBox_self (a b : Int) : laws_eqBox.f a b a b = some true := by simp [laws_eqBox.f]
theorem law : StFnExactTurnBox.Pure := by
  intro w h _ _
  simp only [laws_FnExactTurnBox.f, laws_toBox.f, sTurnBox_eq, iTurnBox_eq, eqBox_self, Option.bind_some, bne_self_eq_false, if_true, Bool.false_eq_true, if_false]
end Go.Proofs.Ytklimclhchabnaa.PbFnExactTurnBox
namespace Go.Proofs.Ytklimclhchabnaa.Pure
theorem FnExactTurnBox : StFnExactTurnBox.Pure := PbFnExactTurnBox.law
end Go.Proofs.Ytklimclhchabnaa.Pure
