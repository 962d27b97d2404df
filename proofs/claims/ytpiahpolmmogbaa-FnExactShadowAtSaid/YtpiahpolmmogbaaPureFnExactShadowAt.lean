/- The plain part of FnExactShadowAt: what the printed functions of the program and of the reference answer, in plain Lean, and that the law answers true. No condition. -/
import Derived.Test.YtpiahpolmmogbaaStFnExactShadowAt
import Derived.Test.YtpiahpolmmogbaaM
namespace Go.Proofs.Ytpiahpolmmogbaa.PbFnExactShadowAt
open Go.RowKit Go.Proofs.Ytpiahpolmmogbaa Go.Proofs.Ytpiahpolmmogbaa.PFnExactShadowAt Go.Proofs.YtpiahpolmmogbaaW.PrintWords Go.Proofs.YtpiahpolmmogbaaW.PrintLast
set_option linter.unusedVariables false
set_option linter.unusedSimpArgs false

theorem clLow_l0 (x y : Int) : ∀ (n : Nat) (a b : Int), b.toNat ≤ n → 0 ≤ a → 0 ≤ b → 0 < M.g a b →
    spec_clLow.l0 (n + 1) x y a b = some (wrap64 (Int.tdiv x (M.g a b)), wrap64 (Int.tdiv y (M.g a b)))
  | n, a, b, hn, h1, h3, h5 => by
    simp only [spec_clLow.l0]
    by_cases hb : b = 0
    · subst hb
      have e : M.g a 0 = a := by rw [M.g_zero]; omega
      rw [e] at h5 ⊢
      rw [if_neg (by omega), if_neg (by omega)]
    · rw [if_pos (by omega), if_neg hb]
      have e : (Int.tmod a b).natAbs = a.natAbs % b.natAbs := Int.natAbs_tmod ..
      have lt : a.natAbs % b.natAbs < b.natAbs := Nat.mod_lt _ (by omega)
      have nn : 0 ≤ Int.tmod a b := Int.tmod_nonneg b h1
      cases n with
      | zero => omega
      | succ n => rw [clLow_l0 x y n b (Int.tmod a b) (by omega) h3 nn (by rw [M.g_tmod]; exact h5), M.g_tmod]
theorem clLow_ev (a b : Int) (h1 : 0 ≤ a) (h2 : a ≤ 9223372036854775807) (h3 : 0 < b) (h4 : b ≤ 9223372036854775807) :
    Ev (fun k => spec_clLow.f k a b) (M.l1 a b, M.l2 a b) := by
  refine Ev.of (spec_clLow.mono a b) (k := b.toNat + 1) ?_
  have hg := M.g_pos_r (a := a) h3
  have ha := M.l1_abs (a := a) h3
  have hl := M.l2_le (a := a) h3
  have hp := M.l2_pos (a := a) h3
  unfold spec_clLow.f
  rw [clLow_l0 a b b.toNat a b (Nat.le_refl _) h1 (by omega) hg, M.tdiv_l1 h3, M.tdiv_l2 h3, M.wrap_id (by omega) (by omega), M.wrap_id (by omega) (by omega)]
theorem l1In_eq (a b c : Int) : spec_l1In.f a b c = some (decide (b ≤ a ∧ a ≤ c)) := by
  unfold spec_l1In.f
  by_cases h : b ≤ a <;> simp [h]
theorem swLamp_eq (a : Int) : spec_swLamp.f a = some (decide (2 ≤ a ∧ a ≤ 200)) := by simp [spec_swLamp.f, l1In_eq]
theorem wkGood_eq (l h p s : Int) : spec_wkGood.f l h p s = some (decide (M.Wk l h p s)) := by
  unfold spec_wkGood.f M.Wk
  by_cases h1 : 2 ≤ l ∧ l ≤ 200
  · have e : wrap64 (l - 1) = l - 1 := M.wrap_id (by omega) (by omega)
    by_cases h2 : 1 ≤ h ∧ h ≤ l - 1 <;> by_cases h3 : 0 ≤ p ∧ p ≤ 500 <;> simp [l1In_eq, swLamp_eq, h1, h2, h3, e]
  · simp [swLamp_eq, h1]
theorem wkPlace_ev (l h p s m : Int) : Ev (fun k => spec_wkPlace.f k l h p s m) (if M.PlOk l h p s m then (p + s * m, true) else (0, false)) := by
  simp only [spec_wkPlace.f, wkGood_eq, l1In_eq, Option.bind_some, decide_eq_true_eq]
  by_cases hw : M.Wk l h p s
  · refine M.evp hw ?_
    by_cases hm : 0 ≤ m ∧ m ≤ 60
    · have hb := M.pl_b hw hm
      have hp := hw.2.2.1
      refine Ev.step (f := fun _ => some (if M.PlOk l h p s m then (p + s * m, true) else (0, false))) (fun k => ?_) (Ev.now _)
      simp only [spec_wkPlace.j0, hm, and_self, decide_true, Bool.not_true, Bool.false_eq_true, if_false]
      rw [M.wrap_id (n := s * m) (by omega) (by omega), M.wrap_id (n := p + s * m) (by omega) (by omega)]
      by_cases hn : p + s * m < 0
      · rw [if_pos hn, if_neg (fun h => by have := h.2.2; omega)]
      · rw [if_neg hn, if_pos ⟨hw, hm, by omega⟩]
    · rw [if_neg (fun h => hm h.2.1)]
      refine Ev.step (f := fun _ => some (0, false)) (fun k => ?_) (Ev.now _)
      simp [spec_wkPlace.j0, hm]
  · refine M.evn hw ?_
    rw [if_neg (fun h => hw h.1)]
    refine Ev.step (f := fun _ => some (0, false)) (fun k => ?_) (Ev.now _)
    simp [spec_wkPlace.j0]
theorem sShadowAt_ev (l h p s m : Int) : Ev (fun k => spec_ShadowAt.f k l h p s m) (if M.PlOk l h p s m then (M.l1 ((p + s * m) * h) (l - h), M.l2 ((p + s * m) * h) (l - h), true) else (0, 0, false)) := by
  unfold spec_ShadowAt.f
  have hq := wkPlace_ev l h p s m
  by_cases hw : M.PlOk l h p s m
  · rw [if_pos hw] at hq ⊢
    refine Ev.bind hq (M.evp rfl ?_)
    have ⟨w1, w2, w3⟩ := hw
    have hb := M.pl_b w1 w2
    obtain ⟨⟨a1, a2⟩, ⟨b1, b2⟩, ⟨c1, c2⟩, d1, d2⟩ := w1
    have h1 := M.mulb 3500 200 (a := p + s * m) (b := h) (by omega) (by omega) (by omega) (by omega)
    simp only
    rw [M.wrap_id (n := (p + s * m) * h) (by omega) (by omega), M.wrap_id (n := l - h) (by omega) (by omega)]
    exact Ev.bind (clLow_ev _ _ (by omega) (by omega) (by omega) (by omega)) (Ev.now _)
  · rw [if_neg hw] at hq ⊢
    exact Ev.bind hq (M.evn (by simp) (Ev.now _))
theorem gcd_l0 : ∀ (n : Nat) (a b : Int), b.natAbs ≤ n → -9223372036854775807 ≤ a → a ≤ 9223372036854775807 → -9223372036854775807 ≤ b → b ≤ 9223372036854775807 →
    impl_gcd.l0 (n + 1) a b = some (M.g a b)
  | n, a, b, hn, h1, h2, h3, h4 => by
    simp only [impl_gcd.l0]
    by_cases hb : b = 0
    · subst hb
      rw [if_pos rfl, M.g_zero, M.wrap_id (by omega) (by omega)]
      unfold mx; congr 1; omega
    · rw [if_neg hb]
      have e : (Int.tmod a b).natAbs = a.natAbs % b.natAbs := Int.natAbs_tmod ..
      have lt : a.natAbs % b.natAbs < b.natAbs := Nat.mod_lt _ (by omega)
      cases n with
      | zero => omega
      | succ n => rw [gcd_l0 n b (Int.tmod a b) (by omega) h3 h4 (by omega) (by omega), M.g_tmod]
theorem gcd_ev (a b : Int) (h1 : -9223372036854775807 ≤ a) (h2 : a ≤ 9223372036854775807) (h3 : -9223372036854775807 ≤ b) (h4 : b ≤ 9223372036854775807) :
    Ev (fun k => impl_gcd.f k a b) (M.g a b) :=
  Ev.of (impl_gcd.mono a b) (k := b.natAbs + 1) (by unfold impl_gcd.f; exact gcd_l0 _ a b (Nat.le_refl _) h1 h2 h3 h4)
theorem fraction_ev (a b : Int) (h1 : -9223372036854775807 ≤ a) (h2 : a ≤ 9223372036854775807) (h3 : 0 < b) (h4 : b ≤ 9223372036854775807) :
    Ev (fun k => impl_fraction.f k a b) (M.l1 a b, M.l2 a b, true) := by
  simp only [impl_fraction.f]
  refine Ev.bind (gcd_ev a b h1 h2 (by omega) h4) ?_
  have hg := M.g_pos_r (a := a) h3
  have ha := M.l1_abs (a := a) h3
  have hl := M.l2_le (a := a) h3
  have hp := M.l2_pos (a := a) h3
  rw [if_neg (by omega), M.tdiv_l1 h3, M.tdiv_l2 h3, M.wrap_id (by omega) (by omega), M.wrap_id (by omega) (by omega)]
  exact Ev.now _
theorem within_eq (a b c : Int) : impl_within.f a b c = some (decide (b ≤ a ∧ a ≤ c)) := by
  unfold impl_within.f
  by_cases h : b ≤ a <;> simp [h]
theorem isLamp_eq (a : Int) : impl_isLamp.f a = some (decide (2 ≤ a ∧ a ≤ 200)) := by simp [impl_isLamp.f, within_eq]
theorem IsWalker_eq (l h p s : Int) : impl_IsWalker.f l h p s = some (decide (M.Wk l h p s)) := by
  unfold impl_IsWalker.f M.Wk
  by_cases h1 : 2 ≤ l ∧ l ≤ 200
  · have e : wrap64 (l - 1) = l - 1 := M.wrap_id (by omega) (by omega)
    by_cases h2 : 1 ≤ h ∧ h ≤ l - 1 <;> by_cases h3 : 0 ≤ p ∧ p ≤ 500 <;> simp [within_eq, isLamp_eq, h1, h2, h3, e]
  · simp [isLamp_eq, h1]
theorem isMinute_eq (a : Int) : impl_isMinute.f a = some (decide (0 ≤ a ∧ a ≤ 60)) := by simp [impl_isMinute.f, within_eq]
theorem iPlaceAt_eq (l h p s m : Int) : impl_PlaceAt.f l h p s m = some (if M.PlOk l h p s m then (p + s * m, true) else (0, false)) := by
  simp only [impl_PlaceAt.f, IsWalker_eq, isMinute_eq, Option.bind_some, decide_eq_true_eq]
  by_cases hw : M.Wk l h p s
  · rw [if_pos hw]
    by_cases hm : 0 ≤ m ∧ m ≤ 60
    · have hb := M.pl_b hw hm
      have hp := hw.2.2.1
      rw [if_pos hm, M.wrap_id (n := s * m) (by omega) (by omega), M.wrap_id (n := p + s * m) (by omega) (by omega)]
      by_cases hn : p + s * m < 0
      · rw [if_pos hn, if_neg (fun h => by have := h.2.2; omega)]
      · rw [if_neg hn, if_pos ⟨hw, hm, by omega⟩]
    · rw [if_neg hm, if_neg (fun h => hm h.2.1)]
  · rw [if_neg hw, if_neg (fun h => hw h.1)]
theorem iShadowAt_ev (l h p s m : Int) : Ev (fun k => impl_ShadowAt.f k l h p s m) (if M.PlOk l h p s m then (M.l1 ((p + s * m) * h) (l - h), M.l2 ((p + s * m) * h) (l - h), true) else (0, 0, false)) := by
  simp only [impl_ShadowAt.f, iPlaceAt_eq, Option.bind_some]
  by_cases hw : M.PlOk l h p s m
  · simp only [if_pos hw, if_true]
    have ⟨w1, w2, w3⟩ := hw
    have hb := M.pl_b w1 w2
    obtain ⟨⟨a1, a2⟩, ⟨b1, b2⟩, ⟨c1, c2⟩, d1, d2⟩ := w1
    have h1 := M.mulb 3500 200 (a := p + s * m) (b := h) (by omega) (by omega) (by omega) (by omega)
    rw [M.wrap_id (n := (p + s * m) * h) (by omega) (by omega), M.wrap_id (n := l - h) (by omega) (by omega)]
    exact Ev.bind (fraction_ev _ _ (by omega) (by omega) (by omega) (by omega)) (Ev.now _)
  · simp only [if_neg hw, Bool.false_eq_true, if_false]; exact Ev.now _
theorem law : StFnExactShadowAt.Pure := by
  intro l h p s m _ _ _ _ _
  refine Ev.rounds ?_
  simp only [laws_FnExactShadowAt.f, laws_toWalker.f, Option.bind_some]
  refine Ev.bind (sShadowAt_ev l h p s m) (Ev.bind (iShadowAt_ev l h p s m) ?_)
  simp only [bne_self_eq_false, if_true, Bool.false_eq_true, if_false]
  exact Ev.now _
end Go.Proofs.Ytpiahpolmmogbaa.PbFnExactShadowAt
namespace Go.Proofs.Ytpiahpolmmogbaa.Pure
theorem FnExactShadowAt : StFnExactShadowAt.Pure := PbFnExactShadowAt.law
end Go.Proofs.Ytpiahpolmmogbaa.Pure
