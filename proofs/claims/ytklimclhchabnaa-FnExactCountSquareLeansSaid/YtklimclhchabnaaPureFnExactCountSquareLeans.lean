/- The plain part of FnExactCountSquareLeans: what the printed functions of the program and of the reference answer, in plain Lean, and that the law answers true. No condition. -/
import Derived.Test.YtklimclhchabnaaPFnExactCountSquareLeansx1
import Derived.Test.YtklimclhchabnaaM
namespace Go.Proofs.Ytklimclhchabnaa.PbFnExactCountSquareLeans
open Go.RowKit Go.Proofs.Ytklimclhchabnaa Go.Proofs.Ytklimclhchabnaa.PFnExactCountSquareLeans Go.Proofs.YtklimclhchabnaaW.PrintWords Go.Proofs.YtklimclhchabnaaW.PrintLast
set_option linter.unusedVariables false
set_option linter.unusedSimpArgs false

theorem l1In_eq (a b c : Int) : spec_l1In.f a b c = some (decide (b ≤ a ∧ a ≤ c)) := by
  unfold spec_l1In.f
  by_cases h : b ≤ a <;> simp [h]
theorem lnSide_eq (a : Int) : spec_lnSide.f a = some (decide (1 ≤ a ∧ a ≤ 60)) := by simp [spec_lnSide.f, l1In_eq]
theorem lnLong_eq (a : Int) : spec_lnLong.f a = some (decide (1 ≤ a ∧ a ≤ 1000)) := by simp [spec_lnLong.f, l1In_eq]
theorem lnCan_eq (a b : Int) (ha : 1 ≤ a ∧ a ≤ 60) (hb : 1 ≤ b ∧ b ≤ 1000) : spec_lnCan.f a b = some (decide (8 * a * a ≤ b * b)) := by
  have h1 := M.mulb 480 60 (show (0:Int) ≤ 8 * a by omega) (by omega) (show (0:Int) ≤ a by omega) (by omega)
  have h2 := M.mulb 1000 1000 (show (0:Int) ≤ b by omega) (by omega) (show (0:Int) ≤ b by omega) (by omega)
  unfold spec_lnCan.f
  rw [M.wrap_id (n := 8 * a) (by omega) (by omega), M.wrap_id (n := 8 * a * a) (by omega) (by omega), M.wrap_id (n := b * b) (by omega) (by omega)]
theorem sCount_ev (a b : Int) : Ev (fun k => spec_CountSquareLeans.f k a b) (if (1 ≤ a ∧ a ≤ 60) ∧ 1 ≤ b ∧ b ≤ 1000 then (if 8 * a * a ≤ b * b then 2 else 0, true) else (0, false)) := by
  simp only [spec_CountSquareLeans.f, lnSide_eq, lnLong_eq, Option.bind_some, decide_eq_true_eq]
  by_cases ha : 1 ≤ a ∧ a ≤ 60
  · refine M.evp ha ?_
    by_cases hb : 1 ≤ b ∧ b ≤ 1000
    · rw [if_pos ⟨ha, hb⟩]
      refine Ev.step (f := fun _ => some (if 8 * a * a ≤ b * b then 2 else 0, true)) (fun k => ?_) (Ev.now _)
      simp only [spec_CountSquareLeans.j0, hb, lnCan_eq a b ha hb, Option.bind_some, decide_eq_true_eq, and_self, decide_true, Bool.not_true, Bool.false_eq_true, if_false]
      split <;> rfl
    · rw [if_neg (fun h => hb h.2)]
      refine Ev.step (f := fun _ => some (0, false)) (fun k => ?_) (Ev.now _)
      simp [spec_CountSquareLeans.j0, hb]
  · refine M.evn ha ?_
    rw [if_neg (fun h => ha h.1)]
    refine Ev.step (f := fun _ => some (0, false)) (fun k => ?_) (Ev.now _)
    simp [spec_CountSquareLeans.j0]
theorem within_eq (a b c : Int) : impl_within.f a b c = some (decide (b ≤ a ∧ a ≤ c)) := by
  unfold impl_within.f
  by_cases h : b ≤ a <;> simp [h]
theorem isLong_eq (a : Int) : impl_isLong.f a = some (decide (1 ≤ a ∧ a ≤ 1000)) := by simp [impl_isLong.f, within_eq]
theorem iCount_ev (a b : Int) : Ev (fun k => impl_CountSquareLeans.f k a b) (if (1 ≤ a ∧ a ≤ 60) ∧ 1 ≤ b ∧ b ≤ 1000 then (if 8 * a * a ≤ b * b then 2 else 0, true) else (0, false)) := by
  simp only [impl_CountSquareLeans.f, within_eq, isLong_eq, Option.bind_some, decide_eq_true_eq]
  by_cases ha : 1 ≤ a ∧ a ≤ 60
  · refine M.evp ha ?_
    by_cases hb : 1 ≤ b ∧ b ≤ 1000
    · rw [if_pos ⟨ha, hb⟩]
      refine Ev.step (f := fun _ => some (if 8 * a * a ≤ b * b then 2 else 0, true)) (fun k => ?_) (Ev.now _)
      have h1 := M.mulb 480 60 (show (0:Int) ≤ 8 * a by omega) (by omega) (show (0:Int) ≤ a by omega) (by omega)
      have h2 := M.mulb 1000 1000 (show (0:Int) ≤ b by omega) (by omega) (show (0:Int) ≤ b by omega) (by omega)
      simp only [impl_CountSquareLeans.j0, hb, and_self, decide_true, Bool.not_true, Bool.false_eq_true, if_false]
      rw [M.wrap_id (n := 8 * a) (by omega) (by omega), M.wrap_id (n := 8 * a * a) (by omega) (by omega), M.wrap_id (n := b * b) (by omega) (by omega)]
      by_cases c : 8 * a * a ≤ b * b
      · rw [if_pos c, if_neg (by omega)]
      · rw [if_neg c, if_pos (by omega)]
    · rw [if_neg (fun h => hb h.2)]
      refine Ev.step (f := fun _ => some (0, false)) (fun k => ?_) (Ev.now _)
      simp [impl_CountSquareLeans.j0, hb]
  · refine M.evn ha ?_
    rw [if_neg (fun h => ha h.1)]
    refine Ev.step (f := fun _ => some (0, false)) (fun k => ?_) (Ev.now _)
    simp [impl_CountSquareLeans.j0]
theorem law : laws_FnExactCountSquareLeans.Pure := by
  intro a b _ _
  refine Ev.rounds ?_
  unfold laws_FnExactCountSquareLeans.f
  refine Ev.bind (sCount_ev a b) (Ev.bind (iCount_ev a b) ?_)
  simp only [bne_self_eq_false, if_true, Bool.false_eq_true, if_false]
  exact Ev.now _
end Go.Proofs.Ytklimclhchabnaa.PbFnExactCountSquareLeans
namespace Go.Proofs.Ytklimclhchabnaa.Pure
theorem FnExactCountSquareLeans : PFnExactCountSquareLeans.laws_FnExactCountSquareLeans.Pure := PbFnExactCountSquareLeans.law
end Go.Proofs.Ytklimclhchabnaa.Pure
