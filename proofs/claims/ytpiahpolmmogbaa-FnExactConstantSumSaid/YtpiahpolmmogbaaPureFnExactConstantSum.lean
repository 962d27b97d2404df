/- The plain part of FnExactConstantSum: what the printed functions of the program and of the reference answer, in plain Lean, and that the law answers true. No condition. -/
import Derived.Test.YtpiahpolmmogbaaPFnExactConstantSumx1
import Derived.Test.YtpiahpolmmogbaaM
namespace Go.Proofs.Ytpiahpolmmogbaa.PbFnExactConstantSum
open Go.RowKit Go.Proofs.Ytpiahpolmmogbaa Go.Proofs.Ytpiahpolmmogbaa.PFnExactConstantSum Go.Proofs.YtpiahpolmmogbaaW.PrintWords Go.Proofs.YtpiahpolmmogbaaW.PrintLast
set_option linter.unusedVariables false
set_option linter.unusedSimpArgs false

theorem l1In_eq (a b c : Int) : spec_l1In.f a b c = some (decide (b ≤ a ∧ a ≤ c)) := by
  unfold spec_l1In.f
  by_cases h : b ≤ a <;> simp [h]
theorem swLamp_eq (a : Int) : spec_swLamp.f a = some (decide (2 ≤ a ∧ a ≤ 200)) := by simp [spec_swLamp.f, l1In_eq]
theorem l1Least_eq (a b : Int) : spec_l1Least.f a b = some (if a < b then a else b) := by unfold spec_l1Least.f; split <;> rfl
theorem wkTwo_eq (w l r h : Int) : spec_wkTwo.f w l r h = some (decide (M.Tw w l r h)) := by
  simp only [spec_wkTwo.f, l1In_eq, swLamp_eq, l1Least_eq, Option.bind_some, decide_eq_true_eq]
  by_cases h1 : 1 ≤ w ∧ w ≤ 500
  · by_cases h2 : 2 ≤ l ∧ l ≤ 200
    · by_cases h3 : 2 ≤ r ∧ r ≤ 200
      · rw [if_pos h1, if_pos h2, if_pos h3]
        have e : wrap64 ((if l < r then l else r) - 1) = (if l < r then l else r) - 1 := M.wrap_id (by split <;> omega) (by split <;> omega)
        rw [e]
        congr 1
        apply decide_eq_decide.2
        unfold M.Tw
        split <;> omega
      · rw [if_pos h1, if_pos h2, if_neg h3]; simp [M.Tw, h3]
    · rw [if_pos h1, if_neg h2]; simp [M.Tw, h2]
  · rw [if_neg h1]; simp [M.Tw, h1]
theorem clLow_l0 (x y : Int) : ∀ (n : Nat) (a b : Int), b.toNat ≤ n → 0 ≤ a → 0 ≤ b → 0 < M.g a b →
    spec_clLow.l0 (n + 1) x y a b = some (wrap64 (Int.tdiv x (M.g a b)), wrap64 (Int.tdiv y (M.g a b)))
  | n, a, b, hn, h1, h3, h5 => by
    simp only [spec_clLow.l0]
    by_cases hb : b = 0
    · subst hb
      have e : M.g a 0 = a := by rw [M.g_zero]; omega
      rw [e] at h5 ⊢
      rw [if_neg (by omega), if_neg (by omega)]
    · rw [if_pos (by omega), if_neg hb]
      have e : (Int.tmod a b).natAbs = a.natAbs % b.natAbs := Int.natAbs_tmod ..
      have lt : a.natAbs % b.natAbs < b.natAbs := Nat.mod_lt _ (by omega)
      have nn : 0 ≤ Int.tmod a b := Int.tmod_nonneg b h1
      cases n with
      | zero => omega
      | succ n => rw [clLow_l0 x y n b (Int.tmod a b) (by omega) h3 nn (by rw [M.g_tmod]; exact h5), M.g_tmod]
theorem clLow_ev (a b : Int) (h1 : 0 ≤ a) (h2 : a ≤ 9223372036854775807) (h3 : 0 < b) (h4 : b ≤ 9223372036854775807) :
    Ev (fun k => spec_clLow.f k a b) (M.l1 a b, M.l2 a b) := by
  refine Ev.of (spec_clLow.mono a b) (k := b.toNat + 1) ?_
  have hg := M.g_pos_r (a := a) h3
  have ha := M.l1_abs (a := a) h3
  have hl := M.l2_le (a := a) h3
  have hp := M.l2_pos (a := a) h3
  unfold spec_clLow.f
  rw [clLow_l0 a b b.toNat a b (Nat.le_refl _) h1 (by omega) hg, M.tdiv_l1 h3, M.tdiv_l2 h3, M.wrap_id (by omega) (by omega), M.wrap_id (by omega) (by omega)]
theorem sSumSh_ev (w l r p h : Int) : Ev (fun k => spec_SumOfShadows.f k w l r p h) (if M.Tw w l r h ∧ 0 ≤ p ∧ p ≤ w then (M.l1 (h * (p * (r - h) + (w - p) * (l - h))) ((l - h) * (r - h)), M.l2 (h * (p * (r - h) + (w - p) * (l - h))) ((l - h) * (r - h)), true) else (0, 0, false)) := by
  simp only [spec_SumOfShadows.f, wkTwo_eq, l1In_eq, Option.bind_some, decide_eq_true_eq]
  by_cases ht : M.Tw w l r h
  · refine M.evp ht ?_
    by_cases hp : 0 ≤ p ∧ p ≤ w
    · refine M.evp hp ?_
      rw [if_pos ⟨ht, hp⟩]
      obtain ⟨h1, h2, h3, h4, h5, h6⟩ := ht
      have b1 := M.mulb 500 200 (a := p) (b := r - h) (by omega) (by omega) (by omega) (by omega)
      have b2 := M.mulb 500 200 (a := w - p) (b := l - h) (by omega) (by omega) (by omega) (by omega)
      have b3 := M.mulb 200 200000 (a := h) (b := p * (r - h) + (w - p) * (l - h)) (by omega) (by omega) (by omega) (by omega)
      have b4 := M.mulb 200 200 (a := l - h) (b := r - h) (by omega) (by omega) (by omega) (by omega)
      have b5 : 0 < (l - h) * (r - h) := Int.mul_pos (by omega) (by omega)
      rw [M.wrap_id (n := r - h) (by omega) (by omega), M.wrap_id (n := p * (r - h)) (by omega) (by omega), M.wrap_id (n := w - p) (by omega) (by omega), M.wrap_id (n := l - h) (by omega) (by omega), M.wrap_id (n := (w - p) * (l - h)) (by omega) (by omega),
        M.wrap_id (n := p * (r - h) + (w - p) * (l - h)) (by omega) (by omega), M.wrap_id (n := h * (p * (r - h) + (w - p) * (l - h))) (by omega) (by omega), M.wrap_id (n := (l - h) * (r - h)) (by omega) (by omega)]
      exact Ev.bind (clLow_ev _ _ (by omega) (by omega) (by omega) (by omega)) (Ev.now _)
    · rw [if_neg (fun h => hp h.2)]; exact M.evn hp (Ev.now _)
  · rw [if_neg (fun h => ht h.1)]; exact M.evn ht (Ev.now _)
theorem sConst_ev (w l h : Int) : Ev (fun k => spec_ConstantSum.f k w l h) (if M.Tw w l l h ∧ (0 : Int) ≤ 0 ∧ 0 ≤ w then (M.l1 (h * (0 * (l - h) + (w - 0) * (l - h))) ((l - h) * (l - h)), M.l2 (h * (0 * (l - h) + (w - 0) * (l - h))) ((l - h) * (l - h)), true) else (0, 0, false)) := by
  unfold spec_ConstantSum.f
  exact Ev.bind (sSumSh_ev w l l 0 h) (Ev.now _)
theorem within_eq (a b c : Int) : impl_within.f a b c = some (decide (b ≤ a ∧ a ≤ c)) := by
  unfold impl_within.f
  by_cases h : b ≤ a <;> simp [h]
theorem isPlace_eq (a : Int) : impl_isPlace.f a = some (decide (1 ≤ a ∧ a ≤ 500)) := by simp [impl_isPlace.f, within_eq]
theorem isLamp_eq (a : Int) : impl_isLamp.f a = some (decide (2 ≤ a ∧ a ≤ 200)) := by simp [impl_isLamp.f, within_eq]
theorem areBetween_eq (w l r h : Int) : impl_areBetween.f w l r h = some (decide (M.Tw w l r h)) := by
  simp only [impl_areBetween.f, isPlace_eq, isLamp_eq, within_eq, Option.bind_some, decide_eq_true_eq]
  by_cases h1 : 1 ≤ w ∧ w ≤ 500
  · by_cases h2 : 2 ≤ l ∧ l ≤ 200
    · by_cases h3 : 2 ≤ r ∧ r ≤ 200
      · rw [if_pos h1, if_pos h2, if_pos h3]
        have e : wrap64 (mn l r - 1) = mn l r - 1 := M.wrap_id (by unfold mn; omega) (by unfold mn; omega)
        rw [e]
        congr 1
        apply decide_eq_decide.2
        unfold M.Tw mn
        omega
      · rw [if_pos h1, if_pos h2, if_neg h3]; simp [M.Tw, h3]
    · rw [if_pos h1, if_neg h2]; simp [M.Tw, h2]
  · rw [if_neg h1]; simp [M.Tw, h1]
theorem gcd_l0 : ∀ (n : Nat) (a b : Int), b.natAbs ≤ n → -9223372036854775807 ≤ a → a ≤ 9223372036854775807 → -9223372036854775807 ≤ b → b ≤ 9223372036854775807 →
    impl_gcd.l0 (n + 1) a b = some (M.g a b)
  | n, a, b, hn, h1, h2, h3, h4 => by
    simp only [impl_gcd.l0]
    by_cases hb : b = 0
    · subst hb
      rw [if_pos rfl, M.g_zero, M.wrap_id (by omega) (by omega)]
      unfold mx; congr 1; omega
    · rw [if_neg hb]
      have e : (Int.tmod a b).natAbs = a.natAbs % b.natAbs := Int.natAbs_tmod ..
      have lt : a.natAbs % b.natAbs < b.natAbs := Nat.mod_lt _ (by omega)
      cases n with
      | zero => omega
      | succ n => rw [gcd_l0 n b (Int.tmod a b) (by omega) h3 h4 (by omega) (by omega), M.g_tmod]
theorem gcd_ev (a b : Int) (h1 : -9223372036854775807 ≤ a) (h2 : a ≤ 9223372036854775807) (h3 : -9223372036854775807 ≤ b) (h4 : b ≤ 9223372036854775807) :
    Ev (fun k => impl_gcd.f k a b) (M.g a b) :=
  Ev.of (impl_gcd.mono a b) (k := b.natAbs + 1) (by unfold impl_gcd.f; exact gcd_l0 _ a b (Nat.le_refl _) h1 h2 h3 h4)
theorem fraction_ev (a b : Int) (h1 : -9223372036854775807 ≤ a) (h2 : a ≤ 9223372036854775807) (h3 : 0 < b) (h4 : b ≤ 9223372036854775807) :
    Ev (fun k => impl_fraction.f k a b) (M.l1 a b, M.l2 a b, true) := by
  simp only [impl_fraction.f]
  refine Ev.bind (gcd_ev a b h1 h2 (by omega) h4) ?_
  have hg := M.g_pos_r (a := a) h3
  have ha := M.l1_abs (a := a) h3
  have hl := M.l2_le (a := a) h3
  have hp := M.l2_pos (a := a) h3
  rw [if_neg (by omega), M.tdiv_l1 h3, M.tdiv_l2 h3, M.wrap_id (by omega) (by omega), M.wrap_id (by omega) (by omega)]
  exact Ev.now _
theorem iSumSh_ev (w l r p h : Int) : Ev (fun k => impl_SumOfShadows.f k w l r p h) (if M.Tw w l r h ∧ 0 ≤ p ∧ p ≤ w then (M.l1 (h * (p * (r - h) + (w - p) * (l - h))) ((l - h) * (r - h)), M.l2 (h * (p * (r - h) + (w - p) * (l - h))) ((l - h) * (r - h)), true) else (0, 0, false)) := by
  simp only [impl_SumOfShadows.f, areBetween_eq, within_eq, Option.bind_some, decide_eq_true_eq]
  by_cases ht : M.Tw w l r h
  · refine M.evp ht ?_
    by_cases hp : 0 ≤ p ∧ p ≤ w
    · refine M.evp hp ?_
      rw [if_pos ⟨ht, hp⟩]
      obtain ⟨h1, h2, h3, h4, h5, h6⟩ := ht
      have b1 := M.mulb 500 200 (a := p) (b := r - h) (by omega) (by omega) (by omega) (by omega)
      have b2 := M.mulb 500 200 (a := w - p) (b := l - h) (by omega) (by omega) (by omega) (by omega)
      have b3 := M.mulb 200 200000 (a := h) (b := p * (r - h) + (w - p) * (l - h)) (by omega) (by omega) (by omega) (by omega)
      have b4 := M.mulb 200 200 (a := l - h) (b := r - h) (by omega) (by omega) (by omega) (by omega)
      have b5 : 0 < (l - h) * (r - h) := Int.mul_pos (by omega) (by omega)
      rw [M.wrap_id (n := r - h) (by omega) (by omega), M.wrap_id (n := p * (r - h)) (by omega) (by omega), M.wrap_id (n := w - p) (by omega) (by omega), M.wrap_id (n := l - h) (by omega) (by omega), M.wrap_id (n := (w - p) * (l - h)) (by omega) (by omega),
        M.wrap_id (n := p * (r - h) + (w - p) * (l - h)) (by omega) (by omega), M.wrap_id (n := h * (p * (r - h) + (w - p) * (l - h))) (by omega) (by omega), M.wrap_id (n := (l - h) * (r - h)) (by omega) (by omega)]
      exact Ev.bind (fraction_ev _ _ (by omega) (by omega) (by omega) (by omega)) (Ev.now _)
    · rw [if_neg (fun h => hp h.2)]; exact M.evn hp (Ev.now _)
  · rw [if_neg (fun h => ht h.1)]; exact M.evn ht (Ev.now _)
theorem iConst_ev (w l h : Int) : Ev (fun k => impl_ConstantSum.f k w l h) (if M.Tw w l l h ∧ (0 : Int) ≤ 0 ∧ 0 ≤ w then (M.l1 (h * (0 * (l - h) + (w - 0) * (l - h))) ((l - h) * (l - h)), M.l2 (h * (0 * (l - h) + (w - 0) * (l - h))) ((l - h) * (l - h)), true) else (0, 0, false)) := by
  unfold impl_ConstantSum.f
  exact Ev.bind (iSumSh_ev w l l 0 h) (Ev.now _)
theorem law : laws_FnExactConstantSum.Pure := by
  intro w l h _ _ _
  refine Ev.rounds ?_
  unfold laws_FnExactConstantSum.f
  refine Ev.bind (sConst_ev w l h) (Ev.bind (iConst_ev w l h) ?_)
  simp only [bne_self_eq_false, if_true, Bool.false_eq_true, if_false]
  exact Ev.now _
end Go.Proofs.Ytpiahpolmmogbaa.PbFnExactConstantSum
namespace Go.Proofs.Ytpiahpolmmogbaa.Pure
theorem FnExactConstantSum : PFnExactConstantSum.laws_FnExactConstantSum.Pure := PbFnExactConstantSum.law
end Go.Proofs.Ytpiahpolmmogbaa.Pure
