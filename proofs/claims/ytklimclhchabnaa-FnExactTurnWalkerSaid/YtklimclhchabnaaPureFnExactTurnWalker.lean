/- The plain part of FnExactTurnWalker: what the printed functions of the program and of the reference answer, in plain Lean, and that the law answers true. No condition. -/
import Derived.Test.YtklimclhchabnaaStFnExactTurnWalker
import Derived.Test.YtklimclhchabnaaM
namespace Go.Proofs.Ytklimclhchabnaa.PbFnExactTurnWalker
open Go.RowKit Go.Proofs.Ytklimclhchabnaa Go.Proofs.Ytklimclhchabnaa.PFnExactTurnWalker Go.Proofs.YtklimclhchabnaaW.PrintWords Go.Proofs.YtklimclhchabnaaW.PrintLast
set_option linter.unusedVariables false
set_option linter.unusedSimpArgs false

theorem l1In_eq (a b c : Int) : spec_l1In.f a b c = some (decide (b ≤ a ∧ a ≤ c)) := by
  unfold spec_l1In.f
  by_cases h : b ≤ a <;> simp [h]
theorem swLamp_eq (a : Int) : spec_swLamp.f a = some (decide (2 ≤ a ∧ a ≤ 200)) := by simp [spec_swLamp.f, l1In_eq]
theorem wkGood_eq (l h p s : Int) : spec_wkGood.f l h p s = some (decide (M.Wk l h p s)) := by
  unfold spec_wkGood.f M.Wk
  by_cases h1 : 2 ≤ l ∧ l ≤ 200
  · have e : wrap64 (l - 1) = l - 1 := M.wrap_id (by omega) (by omega)
    by_cases h2 : 1 ≤ h ∧ h ≤ l - 1 <;> by_cases h3 : 0 ≤ p ∧ p ≤ 500 <;> simp [l1In_eq, swLamp_eq, h1, h2, h3, e]
  · simp [swLamp_eq, h1]
theorem sTurnWalker_eq (l h p s : Int) : spec_TurnWalker.f l h p s = some (if M.Wk l h p s then (h, p, -s, true) else (0, 0, 0, false)) := by
  simp only [spec_TurnWalker.f, wkGood_eq, Option.bind_some, decide_eq_true_eq]
  by_cases hw : M.Wk l h p s
  · have hs := hw.2.2.2
    rw [if_pos hw, if_pos hw, M.wrap_id (by omega) (by omega)]
  · rw [if_neg hw, if_neg hw]
theorem within_eq (a b c : Int) : impl_within.f a b c = some (decide (b ≤ a ∧ a ≤ c)) := by
  unfold impl_within.f
  by_cases h : b ≤ a <;> simp [h]
theorem isLamp_eq (a : Int) : impl_isLamp.f a = some (decide (2 ≤ a ∧ a ≤ 200)) := by simp [impl_isLamp.f, within_eq]
theorem IsWalker_eq (l h p s : Int) : impl_IsWalker.f l h p s = some (decide (M.Wk l h p s)) := by
  unfold impl_IsWalker.f M.Wk
  by_cases h1 : 2 ≤ l ∧ l ≤ 200
  · have e : wrap64 (l - 1) = l - 1 := M.wrap_id (by omega) (by omega)
    by_cases h2 : 1 ≤ h ∧ h ≤ l - 1 <;> by_cases h3 : 0 ≤ p ∧ p ≤ 500 <;> simp [within_eq, isLamp_eq, h1, h2, h3, e]
  · simp [isLamp_eq, h1]
theorem iTurnWalker_eq (l h p s : Int) : impl_TurnWalker.f l h p s = some (if M.Wk l h p s then (h, p, -s, true) else (0, 0, 0, false)) := by
  simp only [impl_TurnWalker.f, IsWalker_eq, Option.bind_some, decide_eq_true_eq]
  by_cases hw : M.Wk l h p s
  · have hs := hw.2.2.2
    rw [if_pos hw, if_pos hw, M.wrap_id (by omega) (by omega)]
  · rw [if_neg hw, if_neg hw]
theorem eqWalker_self (a b c : Int) : laws_eqWalker.f a b c a b c = some true := by simp [laws_eqWalker.f]
theorem law : StFnExactTurnWalker.Pure := by
  intro l h p s _ _ _ _
  simp only [laws_FnExactTurnWalker.f, laws_toWalker.f, sTurnWalker_eq, iTurnWalker_eq, eqWalker_self, Option.bind_some, bne_self_eq_false, if_true, Bool.false_eq_true, if_false]
end Go.Proofs.Ytklimclhchabnaa.PbFnExactTurnWalker
namespace Go.Proofs.Ytklimclhchabnaa.Pure
theorem FnExactTurnWalker : StFnExactTurnWalker.Pure := PbFnExactTurnWalker.law
end Go.Proofs.Ytklimclhchabnaa.Pure
