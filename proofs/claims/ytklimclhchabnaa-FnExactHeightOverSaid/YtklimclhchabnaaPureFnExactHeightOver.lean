/- The plain part of FnExactHeightOver: what the printed functions of the program and of the reference answer, in plain Lean, and that the law answers true. No condition. -/
import Derived.Test.YtklimclhchabnaaStFnExactHeightOver
import Derived.Test.YtklimclhchabnaaM
namespace Go.Proofs.Ytklimclhchabnaa.PbFnExactHeightOver
open Go.RowKit Go.Proofs.Ytklimclhchabnaa Go.Proofs.Ytklimclhchabnaa.PFnExactHeightOver Go.Proofs.YtklimclhchabnaaW.PrintWords Go.Proofs.YtklimclhchabnaaW.PrintLast
set_option linter.unusedVariables false
set_option linter.unusedSimpArgs false

theorem l1In_eq (a b c : Int) : spec_l1In.f a b c = some (decide (b ≤ a ∧ a ≤ c)) := by
  unfold spec_l1In.f
  by_cases h : b ≤ a <;> simp [h]
theorem lnBox_eq (a b : Int) : spec_lnBox.f a b = some (decide ((1 ≤ a ∧ a ≤ 60) ∧ 1 ≤ b ∧ b ≤ 60)) := by
  unfold spec_lnBox.f
  by_cases h : 1 ≤ a ∧ a ≤ 60 <;> simp [l1In_eq, h]
theorem lnLong_eq (a : Int) : spec_lnLong.f a = some (decide (1 ≤ a ∧ a ≤ 1000)) := by simp [spec_lnLong.f, l1In_eq]
theorem clLow_l0 (x y : Int) : ∀ (n : Nat) (a b : Int), b.toNat ≤ n → 0 ≤ a → 0 ≤ b → 0 < M.g a b →
    spec_clLow.l0 (n + 1) x y a b = some (wrap64 (Int.tdiv x (M.g a b)), wrap64 (Int.tdiv y (M.g a b)))
  | n, a, b, hn, h1, h3, h5 => by
    simp only [spec_clLow.l0]
    by_cases hb : b = 0
    · subst hb
      have e : M.g a 0 = a := by rw [M.g_zero]; omega
      rw [e] at h5 ⊢
      rw [if_neg (by omega), if_neg (by omega)]
    · rw [if_pos (by omega), if_neg hb]
      have e : (Int.tmod a b).natAbs = a.natAbs % b.natAbs := Int.natAbs_tmod ..
      have lt : a.natAbs % b.natAbs < b.natAbs := Nat.mod_lt _ (by omega)
      have nn : 0 ≤ Int.tmod a b := Int.tmod_nonneg b h1
      cases n with
      | zero => omega
      | succ n => rw [clLow_l0 x y n b (Int.tmod a b) (by omega) h3 nn (by rw [M.g_tmod]; exact h5), M.g_tmod]
theorem clLow_ev (a b : Int) (h1 : 0 ≤ a) (h2 : a ≤ 9223372036854775807) (h3 : 0 < b) (h4 : b ≤ 9223372036854775807) :
    Ev (fun k => spec_clLow.f k a b) (M.l1 a b, M.l2 a b) := by
  refine Ev.of (spec_clLow.mono a b) (k := b.toNat + 1) ?_
  have hg := M.g_pos_r (a := a) h3
  have ha := M.l1_abs (a := a) h3
  have hl := M.l2_le (a := a) h3
  have hp := M.l2_pos (a := a) h3
  unfold spec_clLow.f
  rw [clLow_l0 a b b.toNat a b (Nat.le_refl _) h1 (by omega) hg, M.tdiv_l1 h3, M.tdiv_l2 h3, M.wrap_id (by omega) (by omega), M.wrap_id (by omega) (by omega)]
theorem sHeightOver_ev (w h f : Int) : Ev (fun k => spec_HeightOver.f k w h f) (if ((1 ≤ w ∧ w ≤ 60) ∧ 1 ≤ h ∧ h ≤ 60) ∧ (1 ≤ f ∧ f ≤ 1000) ∧ w < f then (M.l1 (h * f) (f - w), M.l2 (h * f) (f - w), true) else (0, 0, false)) := by
  simp only [spec_HeightOver.f, lnBox_eq, lnLong_eq, Option.bind_some, decide_eq_true_eq]
  by_cases hb : (1 ≤ w ∧ w ≤ 60) ∧ 1 ≤ h ∧ h ≤ 60
  · refine M.evp hb ?_
    by_cases hf : 1 ≤ f ∧ f ≤ 1000
    · refine M.evp hf ?_
      by_cases hw : f ≤ w
      · rw [if_neg (fun h => by omega)]; exact M.evp hw (Ev.now _)
      · refine M.evn hw ?_
        rw [if_pos ⟨hb, hf, by omega⟩]
        have h1 := M.mulb 60 1000 (show (0:Int) ≤ h by omega) (by omega) (show (0:Int) ≤ f by omega) (by omega)
        rw [M.wrap_id (n := h * f) (by omega) (by omega), M.wrap_id (n := f - w) (by omega) (by omega)]
        exact Ev.bind (clLow_ev (h * f) (f - w) (by omega) (by omega) (by omega) (by omega)) (Ev.now _)
    · rw [if_neg (fun h => hf h.2.1)]; exact M.evn hf (Ev.now _)
  · rw [if_neg (fun h => hb h.1)]; exact M.evn hb (Ev.now _)
theorem within_eq (a b c : Int) : impl_within.f a b c = some (decide (b ≤ a ∧ a ≤ c)) := by
  unfold impl_within.f
  by_cases h : b ≤ a <;> simp [h]
theorem IsBox_eq (a b : Int) : impl_IsBox.f a b = some (decide ((1 ≤ a ∧ a ≤ 60) ∧ 1 ≤ b ∧ b ≤ 60)) := by
  unfold impl_IsBox.f
  by_cases h : 1 ≤ a ∧ a ≤ 60 <;> simp [within_eq, h]
theorem isLong_eq (a : Int) : impl_isLong.f a = some (decide (1 ≤ a ∧ a ≤ 1000)) := by simp [impl_isLong.f, within_eq]
theorem isFootOver_eq (w h f : Int) : impl_isFootOver.f w h f = some (decide (((1 ≤ w ∧ w ≤ 60) ∧ 1 ≤ h ∧ h ≤ 60) ∧ (1 ≤ f ∧ f ≤ 1000) ∧ w < f)) := by
  simp only [impl_isFootOver.f, IsBox_eq, isLong_eq, Option.bind_some, decide_eq_true_eq]
  by_cases hb : (1 ≤ w ∧ w ≤ 60) ∧ 1 ≤ h ∧ h ≤ 60 <;> by_cases hf : 1 ≤ f ∧ f ≤ 1000 <;> simp [hb, hf]
theorem gcd_l0 : ∀ (n : Nat) (a b : Int), b.natAbs ≤ n → -9223372036854775807 ≤ a → a ≤ 9223372036854775807 → -9223372036854775807 ≤ b → b ≤ 9223372036854775807 →
    impl_gcd.l0 (n + 1) a b = some (M.g a b)
  | n, a, b, hn, h1, h2, h3, h4 => by
    simp only [impl_gcd.l0]
    by_cases hb : b = 0
    · subst hb
      rw [if_pos rfl, M.g_zero, M.wrap_id (by omega) (by omega)]
      unfold mx; congr 1; omega
    · rw [if_neg hb]
      have e : (Int.tmod a b).natAbs = a.natAbs % b.natAbs := Int.natAbs_tmod ..
      have lt : a.natAbs % b.natAbs < b.natAbs := Nat.mod_lt _ (by omega)
      cases n with
      | zero => omega
      | succ n => rw [gcd_l0 n b (Int.tmod a b) (by omega) h3 h4 (by omega) (by omega), M.g_tmod]
theorem gcd_ev (a b : Int) (h1 : -9223372036854775807 ≤ a) (h2 : a ≤ 9223372036854775807) (h3 : -9223372036854775807 ≤ b) (h4 : b ≤ 9223372036854775807) :
    Ev (fun k => impl_gcd.f k a b) (M.g a b) :=
  Ev.of (impl_gcd.mono a b) (k := b.natAbs + 1) (by unfold impl_gcd.f; exact gcd_l0 _ a b (Nat.le_refl _) h1 h2 h3 h4)
theorem fraction_ev (a b : Int) (h1 : -9223372036854775807 ≤ a) (h2 : a ≤ 9223372036854775807) (h3 : 0 < b) (h4 : b ≤ 9223372036854775807) :
    Ev (fun k => impl_fraction.f k a b) (M.l1 a b, M.l2 a b, true) := by
  simp only [impl_fraction.f]
  refine Ev.bind (gcd_ev a b h1 h2 (by omega) h4) ?_
  have hg := M.g_pos_r (a := a) h3
  have ha := M.l1_abs (a := a) h3
  have hl := M.l2_le (a := a) h3
  have hp := M.l2_pos (a := a) h3
  rw [if_neg (by omega), M.tdiv_l1 h3, M.tdiv_l2 h3, M.wrap_id (by omega) (by omega), M.wrap_id (by omega) (by omega)]
  exact Ev.now _
theorem iHeightOver_ev (w h f : Int) : Ev (fun k => impl_HeightOver.f k w h f) (if ((1 ≤ w ∧ w ≤ 60) ∧ 1 ≤ h ∧ h ≤ 60) ∧ (1 ≤ f ∧ f ≤ 1000) ∧ w < f then (M.l1 (h * f) (f - w), M.l2 (h * f) (f - w), true) else (0, 0, false)) := by
  simp only [impl_HeightOver.f, isFootOver_eq, Option.bind_some, decide_eq_true_eq]
  by_cases hb : ((1 ≤ w ∧ w ≤ 60) ∧ 1 ≤ h ∧ h ≤ 60) ∧ (1 ≤ f ∧ f ≤ 1000) ∧ w < f
  · refine M.evp hb ?_
    rw [if_pos hb]
    have h1 := M.mulb 60 1000 (show (0:Int) ≤ h by omega) (by omega) (show (0:Int) ≤ f by omega) (by omega)
    rw [M.wrap_id (n := h * f) (by omega) (by omega), M.wrap_id (n := f - w) (by omega) (by omega)]
    exact Ev.bind (fraction_ev (h * f) (f - w) (by omega) (by omega) (by omega) (by omega)) (Ev.now _)
  · rw [if_neg hb]; exact M.evn hb (Ev.now _)
theorem law : StFnExactHeightOver.Pure := by
  intro w h f _ _ _
  refine Ev.rounds ?_
  simp only [laws_FnExactHeightOver.f, laws_toBox.f, Option.bind_some]
  refine Ev.bind (sHeightOver_ev w h f) (Ev.bind (iHeightOver_ev w h f) ?_)
  simp only [bne_self_eq_false, if_true, Bool.false_eq_true, if_false]
  exact Ev.now _
end Go.Proofs.Ytklimclhchabnaa.PbFnExactHeightOver
namespace Go.Proofs.Ytklimclhchabnaa.Pure
theorem FnExactHeightOver : StFnExactHeightOver.Pure := PbFnExactHeightOver.law
end Go.Proofs.Ytklimclhchabnaa.Pure
