/- The plain part of FnExactIsInShadow: what the printed functions of the program and of the reference answer, in plain Lean, and that the law answers true. No condition. -/
import Derived.Test.YtpiahpolmmogbaaStFnExactIsInShadow
import Derived.Test.YtpiahpolmmogbaaM
namespace Go.Proofs.Ytpiahpolmmogbaa.PbFnExactIsInShadow
open Go.RowKit Go.Proofs.Ytpiahpolmmogbaa Go.Proofs.Ytpiahpolmmogbaa.PFnExactIsInShadow Go.Proofs.YtpiahpolmmogbaaW.PrintWords Go.Proofs.YtpiahpolmmogbaaW.PrintLast
set_option linter.unusedVariables false
set_option linter.unusedSimpArgs false

theorem l1In_eq (a b c : Int) : spec_l1In.f a b c = some (decide (b ≤ a ∧ a ≤ c)) := by
  unfold spec_l1In.f
  by_cases h : b ≤ a <;> simp [h]
theorem swLamp_eq (a : Int) : spec_swLamp.f a = some (decide (2 ≤ a ∧ a ≤ 200)) := by simp [spec_swLamp.f, l1In_eq]
theorem wkGood_eq (l h p s : Int) : spec_wkGood.f l h p s = some (decide (M.Wk l h p s)) := by
  unfold spec_wkGood.f M.Wk
  by_cases h1 : 2 ≤ l ∧ l ≤ 200
  · have e : wrap64 (l - 1) = l - 1 := M.wrap_id (by omega) (by omega)
    by_cases h2 : 1 ≤ h ∧ h ≤ l - 1 <;> by_cases h3 : 0 ≤ p ∧ p ≤ 500 <;> simp [l1In_eq, swLamp_eq, h1, h2, h3, e]
  · simp [swLamp_eq, h1]
theorem wkPlace_ev (l h p s m : Int) : Ev (fun k => spec_wkPlace.f k l h p s m) (if M.PlOk l h p s m then (p + s * m, true) else (0, false)) := by
  simp only [spec_wkPlace.f, wkGood_eq, l1In_eq, Option.bind_some, decide_eq_true_eq]
  by_cases hw : M.Wk l h p s
  · refine M.evp hw ?_
    by_cases hm : 0 ≤ m ∧ m ≤ 60
    · have hb := M.pl_b hw hm
      have hp := hw.2.2.1
      refine Ev.step (f := fun _ => some (if M.PlOk l h p s m then (p + s * m, true) else (0, false))) (fun k => ?_) (Ev.now _)
      simp only [spec_wkPlace.j0, hm, and_self, decide_true, Bool.not_true, Bool.false_eq_true, if_false]
      rw [M.wrap_id (n := s * m) (by omega) (by omega), M.wrap_id (n := p + s * m) (by omega) (by omega)]
      by_cases hn : p + s * m < 0
      · rw [if_pos hn, if_neg (fun h => by have := h.2.2; omega)]
      · rw [if_neg hn, if_pos ⟨hw, hm, by omega⟩]
    · rw [if_neg (fun h => hm h.2.1)]
      refine Ev.step (f := fun _ => some (0, false)) (fun k => ?_) (Ev.now _)
      simp [spec_wkPlace.j0, hm]
  · refine M.evn hw ?_
    rw [if_neg (fun h => hw h.1)]
    refine Ev.step (f := fun _ => some (0, false)) (fun k => ?_) (Ev.now _)
    simp [spec_wkPlace.j0]
theorem sInSh_ev (l h p s h' p' s' m : Int) : Ev (fun k => spec_IsInShadow.f k l h p s h' p' s' m)
    (if M.PlOk l h p s m ∧ M.PlOk l h' p' s' m then (decide (p + s * m < p' + s' * m ∧ h' * (p + s * m) ≤ l * (p + s * m) - (l - h) * (p' + s' * m)), true) else (false, false)) := by
  unfold spec_IsInShadow.f
  have q1 := wkPlace_ev l h p s m
  have q2 := wkPlace_ev l h' p' s' m
  refine Ev.bind q1 (Ev.bind q2 ?_)
  by_cases k1 : M.PlOk l h p s m
  · by_cases k2 : M.PlOk l h' p' s' m
    · simp only [if_pos k1, if_pos k2, if_true]
      rw [if_pos (show M.PlOk l h p s m ∧ M.PlOk l h' p' s' m from ⟨k1, k2⟩)]
      have ⟨w1, w2, w3⟩ := k1
      have ⟨v1, v2, v3⟩ := k2
      have hb := M.pl_b w1 w2
      have hb' := M.pl_b v1 v2
      obtain ⟨⟨a1, a2⟩, ⟨b1, b2⟩, ⟨c1, c2⟩, d1, d2⟩ := w1
      obtain ⟨_, ⟨b1', b2'⟩, ⟨c1', c2'⟩, _, _⟩ := v1
      have m1 := M.mulb 200 3500 (a := h') (b := p + s * m) (by omega) (by omega) (by omega) (by omega)
      have m2 := M.mulb 200 3500 (a := l) (b := p + s * m) (by omega) (by omega) (by omega) (by omega)
      have m3 := M.mulb 200 3500 (a := l - h) (b := p' + s' * m) (by omega) (by omega) (by omega) (by omega)
      rw [M.wrap_id (n := h' * (p + s * m)) (by omega) (by omega), M.wrap_id (n := l * (p + s * m)) (by omega) (by omega), M.wrap_id (n := l - h) (by omega) (by omega), M.wrap_id (n := (l - h) * (p' + s' * m)) (by omega) (by omega), M.wrap_id (by omega) (by omega)]
      by_cases c : p' + s' * m > p + s * m
      · refine M.evp c ?_
        have e : decide (p + s * m < p' + s' * m ∧ h' * (p + s * m) ≤ l * (p + s * m) - (l - h) * (p' + s' * m)) = decide (h' * (p + s * m) ≤ l * (p + s * m) - (l - h) * (p' + s' * m)) := by
          rw [decide_eq_decide]; exact ⟨fun h => h.2, fun h => ⟨c, h⟩⟩
        rw [e]; exact Ev.now _
      · refine M.evn c ?_
        have e : decide (p + s * m < p' + s' * m ∧ h' * (p + s * m) ≤ l * (p + s * m) - (l - h) * (p' + s' * m)) = false := decide_eq_false (fun h => c h.1)
        rw [e]; exact Ev.now _
    · simp only [if_pos k1, if_neg k2, if_true, Bool.false_eq_true, if_false]
      rw [if_neg (show ¬ (M.PlOk l h p s m ∧ M.PlOk l h' p' s' m) from fun h => k2 h.2)]; exact Ev.now _
  · simp only [if_neg k1, Bool.false_eq_true, if_false]
    rw [if_neg (show ¬ (M.PlOk l h p s m ∧ M.PlOk l h' p' s' m) from fun h => k1 h.1)]; exact Ev.now _
theorem within_eq (a b c : Int) : impl_within.f a b c = some (decide (b ≤ a ∧ a ≤ c)) := by
  unfold impl_within.f
  by_cases h : b ≤ a <;> simp [h]
theorem isLamp_eq (a : Int) : impl_isLamp.f a = some (decide (2 ≤ a ∧ a ≤ 200)) := by simp [impl_isLamp.f, within_eq]
theorem IsWalker_eq (l h p s : Int) : impl_IsWalker.f l h p s = some (decide (M.Wk l h p s)) := by
  unfold impl_IsWalker.f M.Wk
  by_cases h1 : 2 ≤ l ∧ l ≤ 200
  · have e : wrap64 (l - 1) = l - 1 := M.wrap_id (by omega) (by omega)
    by_cases h2 : 1 ≤ h ∧ h ≤ l - 1 <;> by_cases h3 : 0 ≤ p ∧ p ≤ 500 <;> simp [within_eq, isLamp_eq, h1, h2, h3, e]
  · simp [isLamp_eq, h1]
theorem isMinute_eq (a : Int) : impl_isMinute.f a = some (decide (0 ≤ a ∧ a ≤ 60)) := by simp [impl_isMinute.f, within_eq]
theorem iPlaceAt_eq (l h p s m : Int) : impl_PlaceAt.f l h p s m = some (if M.PlOk l h p s m then (p + s * m, true) else (0, false)) := by
  simp only [impl_PlaceAt.f, IsWalker_eq, isMinute_eq, Option.bind_some, decide_eq_true_eq]
  by_cases hw : M.Wk l h p s
  · rw [if_pos hw]
    by_cases hm : 0 ≤ m ∧ m ≤ 60
    · have hb := M.pl_b hw hm
      have hp := hw.2.2.1
      rw [if_pos hm, M.wrap_id (n := s * m) (by omega) (by omega), M.wrap_id (n := p + s * m) (by omega) (by omega)]
      by_cases hn : p + s * m < 0
      · rw [if_pos hn, if_neg (fun h => by have := h.2.2; omega)]
      · rw [if_neg hn, if_pos ⟨hw, hm, by omega⟩]
    · rw [if_neg hm, if_neg (fun h => hm h.2.1)]
  · rw [if_neg hw, if_neg (fun h => hw h.1)]
theorem iInSh_eq (l h p s h' p' s' m : Int) : impl_IsInShadow.f l h p s h' p' s' m =
    some (if M.PlOk l h p s m ∧ M.PlOk l h' p' s' m then (decide (p + s * m < p' + s' * m ∧ h' * (p + s * m) ≤ l * (p + s * m) - (l - h) * (p' + s' * m)), true) else (false, false)) := by
  simp only [impl_IsInShadow.f, iPlaceAt_eq, Option.bind_some]
  by_cases k1 : M.PlOk l h p s m
  · by_cases k2 : M.PlOk l h' p' s' m
    · simp only [if_pos k1, if_pos k2, if_true]
      rw [if_pos (show M.PlOk l h p s m ∧ M.PlOk l h' p' s' m from ⟨k1, k2⟩)]
      have ⟨w1, w2, w3⟩ := k1
      have ⟨v1, v2, v3⟩ := k2
      have hb := M.pl_b w1 w2
      have hb' := M.pl_b v1 v2
      obtain ⟨⟨a1, a2⟩, ⟨b1, b2⟩, ⟨c1, c2⟩, d1, d2⟩ := w1
      obtain ⟨_, ⟨b1', b2'⟩, ⟨c1', c2'⟩, _, _⟩ := v1
      have m1 := M.mulb 200 3500 (a := h') (b := p + s * m) (by omega) (by omega) (by omega) (by omega)
      have m2 := M.mulb 200 3500 (a := l) (b := p + s * m) (by omega) (by omega) (by omega) (by omega)
      have m3 := M.mulb 200 3500 (a := l - h) (b := p' + s' * m) (by omega) (by omega) (by omega) (by omega)
      rw [M.wrap_id (n := h' * (p + s * m)) (by omega) (by omega), M.wrap_id (n := l * (p + s * m)) (by omega) (by omega), M.wrap_id (n := l - h) (by omega) (by omega), M.wrap_id (n := (l - h) * (p' + s' * m)) (by omega) (by omega), M.wrap_id (by omega) (by omega)]
      by_cases c : p' + s' * m > p + s * m
      · rw [if_pos c]
        have e : decide (p + s * m < p' + s' * m ∧ h' * (p + s * m) ≤ l * (p + s * m) - (l - h) * (p' + s' * m)) = decide (h' * (p + s * m) ≤ l * (p + s * m) - (l - h) * (p' + s' * m)) := by
          rw [decide_eq_decide]; exact ⟨fun h => h.2, fun h => ⟨c, h⟩⟩
        rw [e]
      · rw [if_neg c]
        have e : decide (p + s * m < p' + s' * m ∧ h' * (p + s * m) ≤ l * (p + s * m) - (l - h) * (p' + s' * m)) = false := decide_eq_false (fun h => c h.1)
        rw [e]
    · simp only [if_pos k1, if_neg k2, if_true, Bool.false_eq_true, if_false]
      rw [if_neg (show ¬ (M.PlOk l h p s m ∧ M.PlOk l h' p' s' m) from fun h => k2 h.2)]
  · simp only [if_neg k1, Bool.false_eq_true, if_false]
    rw [if_neg (show ¬ (M.PlOk l h p s m ∧ M.PlOk l h' p' s' m) from fun h => k1 h.1)]
theorem law : StFnExactIsInShadow.Pure := by
  intro l h p s h' p' s' m _ _ _ _ _ _ _ _
  refine Ev.rounds ?_
  simp only [laws_FnExactIsInShadow.f, laws_toWalker.f, iInSh_eq, Option.bind_some]
  refine Ev.bind (sInSh_ev l h p s h' p' s' m) ?_
  simp only [bne_self_eq_false, if_true, Bool.false_eq_true, if_false]
  exact Ev.now _
end Go.Proofs.Ytpiahpolmmogbaa.PbFnExactIsInShadow
namespace Go.Proofs.Ytpiahpolmmogbaa.Pure
theorem FnExactIsInShadow : StFnExactIsInShadow.Pure := PbFnExactIsInShadow.law
end Go.Proofs.Ytpiahpolmmogbaa.Pure
