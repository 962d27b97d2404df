/- The plain part of FnExactTipsMeet: what the printed functions of the program and of the reference answer, in plain Lean, and that the law answers true. No condition. -/
import Derived.Test.YteognjcnnghknaaStFnExactTipsMeet
import Derived.Test.YteognjcnnghknaaM
namespace Go.Proofs.Yteognjcnnghknaa.PbFnExactTipsMeet
open Go.RowKit Go.Proofs.Yteognjcnnghknaa Go.Proofs.Yteognjcnnghknaa.PFnExactTipsMeet Go.Proofs.YteognjcnnghknaaW.PrintWords Go.Proofs.YteognjcnnghknaaW.PrintLast
set_option linter.unusedVariables false
set_option linter.unusedSimpArgs false

theorem l1In_eq (a b c : Int) : spec_l1In.f a b c = some (decide (b ≤ a ∧ a ≤ c)) := by
  unfold spec_l1In.f
  by_cases h : b ≤ a <;> simp [h]
theorem swLamp_eq (a : Int) : spec_swLamp.f a = some (decide (2 ≤ a ∧ a ≤ 200)) := by simp [spec_swLamp.f, l1In_eq]
theorem wkGood_eq (l h p s : Int) : spec_wkGood.f l h p s = some (decide (M.Wk l h p s)) := by
  unfold spec_wkGood.f M.Wk
  by_cases h1 : 2 ≤ l ∧ l ≤ 200
  · have e : wrap64 (l - 1) = l - 1 := M.wrap_id (by omega) (by omega)
    by_cases h2 : 1 ≤ h ∧ h ≤ l - 1 <;> by_cases h3 : 0 ≤ p ∧ p ≤ 500 <;> simp [l1In_eq, swLamp_eq, h1, h2, h3, e]
  · simp [swLamp_eq, h1]
theorem spec_clLow_l0_ev (x0 : Int) (x1 : Int) (x6 : Int) (x7 : Int) {r : (Int × Int)} (h : Ev (fun k => if x7 > 0 then (if x7 = 0 then (none) else (spec_clLow.l0 k x0 x1 x7 (Int.tmod x6 x7))) else (if x6 = 0 then (none) else (some (wrap64 (Int.tdiv x0 x6), wrap64 (Int.tdiv x1 x6))))) r) : Ev (fun k => spec_clLow.l0 k x0 x1 x6 x7) r := Ev.step (fun k => by simp only [spec_clLow.l0]) h
theorem clLow_l0 (x y : Int) : ∀ (n : Nat) (a b : Int), b.toNat ≤ n → 0 ≤ a → 0 ≤ b → 0 < M.g a b →
    spec_clLow.l0 (n + 1) x y a b = some (wrap64 (Int.tdiv x (M.g a b)), wrap64 (Int.tdiv y (M.g a b)))
  | n, a, b, hn, h1, h3, h5 => by
    simp only [spec_clLow.l0]
    by_cases hb : b = 0
    · subst hb
      have e : M.g a 0 = a := by rw [M.g_zero]; omega
      rw [e] at h5 ⊢
      rw [if_neg (by omega), if_neg (by omega)]
    · rw [if_pos (by omega), if_neg hb]
      have e : (Int.tmod a b).natAbs = a.natAbs % b.natAbs := Int.natAbs_tmod ..
      have lt : a.natAbs % b.natAbs < b.natAbs := Nat.mod_lt _ (by omega)
      have nn : 0 ≤ Int.tmod a b := Int.tmod_nonneg b h1
      cases n with
      | zero => omega
      | succ n => rw [clLow_l0 x y n b (Int.tmod a b) (by omega) h3 nn (by rw [M.g_tmod]; exact h5), M.g_tmod]
theorem clLow_ev (a b : Int) (h1 : 0 ≤ a) (h2 : a ≤ 9223372036854775807) (h3 : 0 < b) (h4 : b ≤ 9223372036854775807) :
    Ev (fun k => spec_clLow.f k a b) (M.l1 a b, M.l2 a b) := by
  refine Ev.of (spec_clLow.mono a b) (k := b.toNat + 1) ?_
  have hg := M.g_pos_r (a := a) h3
  have ha := M.l1_abs (a := a) h3
  have hl := M.l2_le (a := a) h3
  have hp := M.l2_pos (a := a) h3
  unfold spec_clLow.f
  rw [clLow_l0 a b b.toNat a b (Nat.le_refl _) h1 (by omega) hg, M.tdiv_l1 h3, M.tdiv_l2 h3, M.wrap_id (by omega) (by omega), M.wrap_id (by omega) (by omega)]
theorem wkMeet_ev (a b x y : Int) (h1 : -100000000 ≤ a ∧ a ≤ 100000000) (h2 : -100000000 ≤ b ∧ b ≤ 100000000) (h3 : -100000000 ≤ x ∧ x ≤ 100000000) (h4 : -100000000 ≤ y ∧ y ≤ 100000000) :
    Ev (fun k => spec_wkMeet.f k a b x y) (M.rat (b - a) (x - y)) := by
  unfold spec_wkMeet.f
  rw [M.wrap_id (n := x - y) (by omega) (by omega), M.wrap_id (n := b - a) (by omega) (by omega), M.wrap_id (n := -(x - y)) (by omega) (by omega), M.wrap_id (n := -(b - a)) (by omega) (by omega)]
  by_cases hd : x - y < 0
  · refine M.evp hd (M.evn (by omega) ?_)
    have e1 : M.rn (b - a) (x - y) = -(b - a) := by simp only [M.rn, if_pos hd]
    have e2 : M.rdn (x - y) = -(x - y) := by simp only [M.rdn, if_pos hd]
    unfold M.rat
    rw [e1, e2]
    by_cases hn : -(b - a) < 0
    · rw [if_pos (.inr hn)]; exact M.evp hn (Ev.now _)
    · rw [if_neg (by omega)]
      exact M.evn hn (Ev.bind (clLow_ev _ _ (by omega) (by omega) (by omega) (by omega)) (Ev.now _))
  · refine M.evn hd ?_
    have e1 : M.rn (b - a) (x - y) = b - a := by simp only [M.rn, if_neg hd]
    have e2 : M.rdn (x - y) = x - y := by simp only [M.rdn, if_neg hd]
    unfold M.rat
    rw [e1, e2]
    by_cases h0 : x - y = 0
    · rw [if_pos (.inl h0)]; exact M.evp h0 (Ev.now _)
    · refine M.evn h0 ?_
      by_cases hn : b - a < 0
      · rw [if_pos (.inr hn)]; exact M.evp hn (Ev.now _)
      · rw [if_neg (by omega)]
        exact M.evn hn (Ev.bind (clLow_ev _ _ (by omega) (by omega) (by omega) (by omega)) (Ev.now _))
theorem wkStill_eq (h p s n d : Int) (hp : 0 ≤ p ∧ p ≤ 500) (hs : -50 ≤ s ∧ s ≤ 50) (hn : 0 ≤ n ∧ n ≤ 1000000) (hd : 0 ≤ d ∧ d ≤ 1000000) : spec_wkStill.f h p s n d = some (decide (0 ≤ p * d + s * n)) := by
  have b1 := M.mulb 500 1000000 (a := p) (b := d) (by omega) (by omega) (by omega) (by omega)
  have b2 := M.mulabs 50 1000000 (a := s) (b := n) (by omega) (by omega) (by omega) (by omega)
  unfold spec_wkStill.f
  rw [M.wrap_id (n := p * d) (by omega) (by omega), M.wrap_id (n := s * n) (by omega) (by omega), M.wrap_id (by omega) (by omega)]
theorem spec_TipsMeet_j0_ev (x0 : Int) (x27 : Bool) (x116000 : Int) (x116001 : Int) (x116002 : Int) (x117000 : Int) (x117001 : Int) (x117002 : Int) {r : (Int × Int × Int × Int × Bool)} (h : Ev (fun k => if x27 = true then (some (0, 0, 0, 0, false)) else ((spec_wkMeet.f k (wrap64 (x116001 * (wrap64 (x0 - x117000)))) (wrap64 (x117001 * (wrap64 (x0 - x116000)))) (wrap64 (x116002 * (wrap64 (x0 - x117000)))) (wrap64 (x117002 * (wrap64 (x0 - x116000))))).bind fun bt119 => (if bt119.2.2 = true then ((spec_wkStill.f x116000 x116001 x116002 bt119.1 bt119.2.1).bind fun t122 => (if t122 = true then ((spec_wkStill.f x117000 x117001 x117002 bt119.1 bt119.2.1).bind fun t123 => (if t123 = true then ((spec_clLow.f k (wrap64 ((wrap64 ((wrap64 (x116001 * bt119.2.1)) + (wrap64 (x116002 * bt119.1)))) * x0)) (wrap64 (bt119.2.1 * (wrap64 (x0 - x116000))))).bind fun bt124 => (some (bt119.1, bt119.2.1, bt124.1, bt124.2, true))) else (some (0, 0, 0, 0, false)))) else (some (0, 0, 0, 0, false)))) else (some (0, 0, 0, 0, false))))) r) : Ev (fun k => spec_TipsMeet.j0 k x0 x27 x116000 x116001 x116002 x117000 x117001 x117002) r := Ev.step (fun k => by simp only [spec_TipsMeet.j0]) h
theorem sTips_ev (l h p s h' p' s' : Int) : Ev (fun k => spec_TipsMeet.f k l h p s h' p' s') (if M.Wk l h p s ∧ M.Wk l h' p' s' then M.tips l h p s h' p' s' else (0, 0, 0, 0, false)) := by
  simp only [spec_TipsMeet.f, wkGood_eq, Option.bind_some, decide_eq_true_eq]
  by_cases hw : M.Wk l h p s
  · refine M.evp hw ?_
    by_cases hw' : M.Wk l h' p' s'
    · rw [if_pos ⟨hw, hw'⟩]
      simp only [hw', decide_true, Bool.not_true]
      have ⟨a, b, c, d⟩ := hw
      have ⟨a', b', c', d'⟩ := hw'
      refine spec_TipsMeet_j0_ev _ _ _ _ _ _ _ _ (M.evn (by simp) ?_)
      have m1 := M.mulb 500 200 (a := p) (b := l - h') (by omega) (by omega) (by omega) (by omega)
      have m2 := M.mulb 500 200 (a := p') (b := l - h) (by omega) (by omega) (by omega) (by omega)
      have m3 := M.mulabs 50 200 (a := s) (b := l - h') (by omega) (by omega) (by omega) (by omega)
      have m4 := M.mulabs 50 200 (a := s') (b := l - h) (by omega) (by omega) (by omega) (by omega)
      rw [M.wrap_id (n := l - h') (by omega) (by omega), M.wrap_id (n := l - h) (by omega) (by omega), M.wrap_id (n := p * (l - h')) (by omega) (by omega), M.wrap_id (n := p' * (l - h)) (by omega) (by omega),
        M.wrap_id (n := s * (l - h')) (by omega) (by omega), M.wrap_id (n := s' * (l - h)) (by omega) (by omega)]
      have e : M.rat (p' * (l - h) - p * (l - h')) (s * (l - h') - s' * (l - h)) = M.rat ((l - h') * p - (l - h) * p') ((l - h) * s' - (l - h') * s) := by
        rw [← M.rat_neg, Int.mul_comm p', Int.mul_comm p, Int.mul_comm s, Int.mul_comm s']; congr 1 <;> omega
      have q := wkMeet_ev (p * (l - h')) (p' * (l - h)) (s * (l - h')) (s' * (l - h)) (by omega) (by omega) (by omega) (by omega)
      rw [e] at q
      refine Ev.bind q ?_
      have n1 := M.mulb 200 500 (a := l - h') (b := p) (by omega) (by omega) (by omega) (by omega)
      have n2 := M.mulb 200 500 (a := l - h) (b := p') (by omega) (by omega) (by omega) (by omega)
      have n3 := M.mulabs 200 50 (a := l - h') (b := s) (by omega) (by omega) (by omega) (by omega)
      have n4 := M.mulabs 200 50 (a := l - h) (b := s') (by omega) (by omega) (by omega) (by omega)
      unfold M.tips M.meet
      by_cases hr : (M.rat ((l - h') * p - (l - h) * p') ((l - h) * s' - (l - h') * s)).2.2 = true
      · obtain ⟨r1, r2, r3, r4⟩ := M.rat_b hr
        generalize M.rat ((l - h') * p - (l - h) * p') ((l - h) * s' - (l - h') * s) = r at *
        obtain ⟨x, y, z⟩ := r
        simp only at *
        refine M.evp hr ?_
        rw [wkStill_eq h p s x y c d (by omega) (by omega), wkStill_eq h' p' s' x y c' d' (by omega) (by omega)]
        simp only [Option.bind_some, decide_eq_true_eq]
        have c1 := M.mulb 500 1000000 (a := p) (b := y) (by omega) (by omega) (by omega) (by omega)
        have c2 := M.mulabs 50 1000000 (a := s) (b := x) (by omega) (by omega) (by omega) (by omega)
        by_cases g1 : 0 ≤ p * y + s * x
        · refine M.evp g1 ?_
          by_cases g2 : 0 ≤ p' * y + s' * x
          · refine M.evp g2 ?_
            have c3 := M.mulb 1000000000 200 (a := p * y + s * x) (b := l) (by omega) (by omega) (by omega) (by omega)
            have c4 := M.mulb 1000000 200 (a := y) (b := l - h) (by omega) (by omega) (by omega) (by omega)
            have c5 : 0 < y * (l - h) := Int.mul_pos (by omega) (by omega)
            rw [M.wrap_id (n := p * y) (by omega) (by omega), M.wrap_id (n := s * x) (by omega) (by omega), M.wrap_id (n := p * y + s * x) (by omega) (by omega), M.wrap_id (n := (p * y + s * x) * l) (by omega) (by omega), M.wrap_id (n := y * (l - h)) (by omega) (by omega)]
            rw [if_pos (show z = true ∧ 0 ≤ p * y + s * x ∧ 0 ≤ p' * y + s' * x from ⟨hr, g1, g2⟩)]
            simp only [if_true]
            exact Ev.bind (clLow_ev _ _ (by omega) (by omega) (by omega) (by omega)) (Ev.now _)
          · rw [if_neg (show ¬ (z = true ∧ 0 ≤ p * y + s * x ∧ 0 ≤ p' * y + s' * x) from fun h => g2 h.2.2)]
            simp only [Bool.false_eq_true, if_false]
            exact M.evn g2 (Ev.now _)
        · rw [if_neg (show ¬ (z = true ∧ 0 ≤ p * y + s * x ∧ 0 ≤ p' * y + s' * x) from fun h => g1 h.2.1)]
          simp only [Bool.false_eq_true, if_false]
          exact M.evn g1 (Ev.now _)
      · have e0 : ∀ c : Prop, ¬ ((M.rat ((l - h') * p - (l - h) * p') ((l - h) * s' - (l - h') * s)).2.2 = true ∧ c) := fun c g => hr g.1
        simp only [if_neg (e0 _), Bool.false_eq_true, if_false]
        exact M.evn hr (Ev.now _)
    · rw [if_neg (fun h => hw' h.2)]
      simp only [hw', decide_false, Bool.not_false]
      exact spec_TipsMeet_j0_ev _ _ _ _ _ _ _ _ (M.evp rfl (Ev.now _))
  · rw [if_neg (fun h => hw h.1)]
    exact M.evn hw (spec_TipsMeet_j0_ev _ _ _ _ _ _ _ _ (M.evp rfl (Ev.now _)))
theorem within_eq (a b c : Int) : impl_within.f a b c = some (decide (b ≤ a ∧ a ≤ c)) := by
  unfold impl_within.f
  by_cases h : b ≤ a <;> simp [h]
theorem isLamp_eq (a : Int) : impl_isLamp.f a = some (decide (2 ≤ a ∧ a ≤ 200)) := by simp [impl_isLamp.f, within_eq]
theorem IsWalker_eq (l h p s : Int) : impl_IsWalker.f l h p s = some (decide (M.Wk l h p s)) := by
  unfold impl_IsWalker.f M.Wk
  by_cases h1 : 2 ≤ l ∧ l ≤ 200
  · have e : wrap64 (l - 1) = l - 1 := M.wrap_id (by omega) (by omega)
    by_cases h2 : 1 ≤ h ∧ h ≤ l - 1 <;> by_cases h3 : 0 ≤ p ∧ p ≤ 500 <;> simp [within_eq, isLamp_eq, h1, h2, h3, e]
  · simp [isLamp_eq, h1]
theorem impl_gcd_l0_ev (x0 : Int) (x1 : Int) {r : (Int)} (h : Ev (fun k => if x1 = 0 then (some (mx x0 (wrap64 (-x0)))) else (impl_gcd.l0 k x1 (Int.tmod x0 x1))) r) : Ev (fun k => impl_gcd.l0 k x0 x1) r := Ev.step (fun k => by simp only [impl_gcd.l0]) h
theorem gcd_l0 : ∀ (n : Nat) (a b : Int), b.natAbs ≤ n → -9223372036854775807 ≤ a → a ≤ 9223372036854775807 → -9223372036854775807 ≤ b → b ≤ 9223372036854775807 →
    impl_gcd.l0 (n + 1) a b = some (M.g a b)
  | n, a, b, hn, h1, h2, h3, h4 => by
    simp only [impl_gcd.l0]
    by_cases hb : b = 0
    · subst hb
      rw [if_pos rfl, M.g_zero, M.wrap_id (by omega) (by omega)]
      unfold mx; congr 1; omega
    · rw [if_neg hb]
      have e : (Int.tmod a b).natAbs = a.natAbs % b.natAbs := Int.natAbs_tmod ..
      have lt : a.natAbs % b.natAbs < b.natAbs := Nat.mod_lt _ (by omega)
      cases n with
      | zero => omega
      | succ n => rw [gcd_l0 n b (Int.tmod a b) (by omega) h3 h4 (by omega) (by omega), M.g_tmod]
theorem gcd_ev (a b : Int) (h1 : -9223372036854775807 ≤ a) (h2 : a ≤ 9223372036854775807) (h3 : -9223372036854775807 ≤ b) (h4 : b ≤ 9223372036854775807) :
    Ev (fun k => impl_gcd.f k a b) (M.g a b) :=
  Ev.of (impl_gcd.mono a b) (k := b.natAbs + 1) (by unfold impl_gcd.f; exact gcd_l0 _ a b (Nat.le_refl _) h1 h2 h3 h4)
theorem fraction_ev (a b : Int) (h1 : -9223372036854775807 ≤ a) (h2 : a ≤ 9223372036854775807) (h3 : 0 < b) (h4 : b ≤ 9223372036854775807) :
    Ev (fun k => impl_fraction.f k a b) (M.l1 a b, M.l2 a b, true) := by
  simp only [impl_fraction.f]
  refine Ev.bind (gcd_ev a b h1 h2 (by omega) h4) ?_
  have hg := M.g_pos_r (a := a) h3
  have ha := M.l1_abs (a := a) h3
  have hl := M.l2_le (a := a) h3
  have hp := M.l2_pos (a := a) h3
  rw [if_neg (by omega), M.tdiv_l1 h3, M.tdiv_l2 h3, M.wrap_id (by omega) (by omega), M.wrap_id (by omega) (by omega)]
  exact Ev.now _
theorem ratio_ev (n d : Int) (h1 : -1000000000 ≤ n) (h2 : n ≤ 1000000000) (h3 : -1000000000 ≤ d) (h4 : d ≤ 1000000000) : Ev (fun k => impl_ratio.f k n d) (M.rat n d) := by
  unfold impl_ratio.f
  by_cases hd : d < 0
  · refine M.evp hd ?_
    have e1 : M.rn n d = -n := by simp [M.rn, hd]
    have e2 : M.rdn d = -d := by simp [M.rdn, hd]
    rw [M.wrap_id (n := -d) (by omega) (by omega), M.wrap_id (n := -n) (by omega) (by omega)]
    refine M.evn (by omega) ?_
    unfold M.rat
    rw [e1, e2]
    by_cases hn : -n < 0
    · rw [if_pos (.inr hn)]; exact M.evp hn (Ev.now _)
    · rw [if_neg (by omega)]
      exact M.evn hn (Ev.bind (fraction_ev _ _ (by omega) (by omega) (by omega) (by omega)) (Ev.now _))
  · refine M.evn hd ?_
    have e1 : M.rn n d = n := by simp [M.rn, hd]
    have e2 : M.rdn d = d := by simp [M.rdn, hd]
    unfold M.rat
    rw [e1, e2]
    by_cases h0 : d = 0
    · rw [if_pos (.inl h0)]; exact M.evp h0 (Ev.now _)
    · refine M.evn h0 ?_
      by_cases hn : n < 0
      · rw [if_pos (.inr hn)]; exact M.evp hn (Ev.now _)
      · rw [if_neg (by omega)]
        exact M.evn hn (Ev.bind (fraction_ev _ _ (by omega) (by omega) (by omega) (by omega)) (Ev.now _))
theorem meet_ev (h p s h' p' s' t o : Int) (hp : 0 ≤ p ∧ p ≤ 500) (hs : -50 ≤ s ∧ s ≤ 50) (hp' : 0 ≤ p' ∧ p' ≤ 500) (hs' : -50 ≤ s' ∧ s' ≤ 50) (ht : 1 ≤ t ∧ t ≤ 200) (ho : 1 ≤ o ∧ o ≤ 200) :
    Ev (fun k => impl_meet.f k h p s h' p' s' t o) (M.meet p s p' s' (t * p - o * p') (o * s' - t * s)) := by
  unfold impl_meet.f
  have b1 := M.mulb 200 500 (a := t) (b := p) (by omega) (by omega) (by omega) (by omega)
  have b2 := M.mulb 200 500 (a := o) (b := p') (by omega) (by omega) (by omega) (by omega)
  have b3 := M.mulabs 200 50 (a := o) (b := s') (by omega) (by omega) (by omega) (by omega)
  have b4 := M.mulabs 200 50 (a := t) (b := s) (by omega) (by omega) (by omega) (by omega)
  rw [M.wrap_id (n := t * p) (by omega) (by omega), M.wrap_id (n := o * p') (by omega) (by omega), M.wrap_id (n := t * p - o * p') (by omega) (by omega),
    M.wrap_id (n := o * s') (by omega) (by omega), M.wrap_id (n := t * s) (by omega) (by omega), M.wrap_id (n := o * s' - t * s) (by omega) (by omega)]
  refine Ev.bind (ratio_ev _ _ (by omega) (by omega) (by omega) (by omega)) ?_
  unfold M.meet
  by_cases hr : (M.rat (t * p - o * p') (o * s' - t * s)).2.2 = true
  · obtain ⟨r1, r2, r3, r4⟩ := M.rat_b hr
    generalize M.rat (t * p - o * p') (o * s' - t * s) = r at *
    obtain ⟨x, y, z⟩ := r
    simp only at *
    refine M.evp hr ?_
    have c1 := M.mulb 500 1000000 (a := p) (b := y) (by omega) (by omega) (by omega) (by omega)
    have c2 := M.mulabs 50 1000000 (a := s) (b := x) (by omega) (by omega) (by omega) (by omega)
    have c3 := M.mulb 500 1000000 (a := p') (b := y) (by omega) (by omega) (by omega) (by omega)
    have c4 := M.mulabs 50 1000000 (a := s') (b := x) (by omega) (by omega) (by omega) (by omega)
    rw [M.wrap_id (n := p * y) (by omega) (by omega), M.wrap_id (n := s * x) (by omega) (by omega), M.wrap_id (n := p * y + s * x) (by omega) (by omega),
      M.wrap_id (n := p' * y) (by omega) (by omega), M.wrap_id (n := s' * x) (by omega) (by omega), M.wrap_id (n := p' * y + s' * x) (by omega) (by omega)]
    by_cases g1 : p * y + s * x < 0
    · exact M.evr (if_neg fun h => by omega) (M.evp g1 (Ev.now _))
    · refine M.evn g1 ?_
      by_cases g2 : p' * y + s' * x < 0
      · exact M.evr (if_neg fun h => by omega) (M.evp g2 (Ev.now _))
      · exact M.evr (if_pos ⟨hr, by omega, by omega⟩) (M.evn g2 (Ev.now _))
  · exact M.evr (if_neg fun h => hr h.1) (M.evn hr (Ev.now _))
theorem impl_TipsMeet_j0_ev (x0 : Int) (x26 : Bool) (x145000 : Int) (x145001 : Int) (x145002 : Int) (x146000 : Int) (x146001 : Int) (x146002 : Int) {r : (Int × Int × Int × Int × Bool)} (h : Ev (fun k => if x26 = true then (some (0, 0, 0, 0, false)) else ((impl_meet.f k x145000 x145001 x145002 x146000 x146001 x146002 (wrap64 (x0 - x146000)) (wrap64 (x0 - x145000))).bind fun bt148 => (if bt148.2.2 = true then ((impl_fraction.f k (wrap64 ((wrap64 ((wrap64 (x145001 * bt148.2.1)) + (wrap64 (x145002 * bt148.1)))) * x0)) (wrap64 (bt148.2.1 * (wrap64 (x0 - x145000))))).bind fun bt151 => (some (bt148.1, bt148.2.1, bt151.1, bt151.2.1, true))) else (some (0, 0, 0, 0, false))))) r) : Ev (fun k => impl_TipsMeet.j0 k x0 x26 x145000 x145001 x145002 x146000 x146001 x146002) r := Ev.step (fun k => by simp only [impl_TipsMeet.j0]) h
theorem iTips_ev (l h p s h' p' s' : Int) : Ev (fun k => impl_TipsMeet.f k l h p s h' p' s') (if M.Wk l h p s ∧ M.Wk l h' p' s' then M.tips l h p s h' p' s' else (0, 0, 0, 0, false)) := by
  simp only [impl_TipsMeet.f, IsWalker_eq, Option.bind_some, decide_eq_true_eq]
  by_cases hw : M.Wk l h p s
  · refine M.evp hw ?_
    by_cases hw' : M.Wk l h' p' s'
    · rw [if_pos ⟨hw, hw'⟩]
      simp only [hw', decide_true, Bool.not_true]
      have ⟨a, b, c, d⟩ := hw
      have ⟨a', b', c', d'⟩ := hw'
      refine impl_TipsMeet_j0_ev _ _ _ _ _ _ _ _ (M.evn (by simp) ?_)
      rw [M.wrap_id (n := l - h') (by omega) (by omega), M.wrap_id (n := l - h) (by omega) (by omega)]
      refine Ev.bind (meet_ev h p s h' p' s' (l - h') (l - h) c d c' d' (by omega) (by omega)) ?_
      unfold M.tips
      have n1 := M.mulb 200 500 (a := l - h') (b := p) (by omega) (by omega) (by omega) (by omega)
      have n2 := M.mulb 200 500 (a := l - h) (b := p') (by omega) (by omega) (by omega) (by omega)
      have n3 := M.mulabs 200 50 (a := l - h') (b := s) (by omega) (by omega) (by omega) (by omega)
      have n4 := M.mulabs 200 50 (a := l - h) (b := s') (by omega) (by omega) (by omega) (by omega)
      by_cases hr : (M.meet p s p' s' ((l - h') * p - (l - h) * p') ((l - h) * s' - (l - h') * s)).2.2 = true
      · obtain ⟨r1, r2, r3, r4, r5, r6⟩ := M.meet_b hr
        generalize M.meet p s p' s' ((l - h') * p - (l - h) * p') ((l - h) * s' - (l - h') * s) = r at *
        obtain ⟨x, y, z⟩ := r
        simp only at *
        rw [if_pos hr]
        refine M.evp hr ?_
        have c1 := M.mulb 500 1000000 (a := p) (b := y) (by omega) (by omega) (by omega) (by omega)
        have c2 := M.mulabs 50 1000000 (a := s) (b := x) (by omega) (by omega) (by omega) (by omega)
        have c3 := M.mulb 1000000000 200 (a := p * y + s * x) (b := l) (by omega) (by omega) (by omega) (by omega)
        have c4 := M.mulb 1000000 200 (a := y) (b := l - h) (by omega) (by omega) (by omega) (by omega)
        have c5 : 0 < y * (l - h) := Int.mul_pos (by omega) (by omega)
        rw [M.wrap_id (n := p * y) (by omega) (by omega), M.wrap_id (n := s * x) (by omega) (by omega), M.wrap_id (n := p * y + s * x) (by omega) (by omega), M.wrap_id (n := (p * y + s * x) * l) (by omega) (by omega), M.wrap_id (n := y * (l - h)) (by omega) (by omega)]
        exact Ev.bind (fraction_ev _ _ (by omega) (by omega) (by omega) (by omega)) (Ev.now _)
      · rw [if_neg hr]; exact M.evn hr (Ev.now _)
    · rw [if_neg (fun h => hw' h.2)]
      simp only [hw', decide_false, Bool.not_false]
      exact impl_TipsMeet_j0_ev _ _ _ _ _ _ _ _ (M.evp rfl (Ev.now _))
  · rw [if_neg (fun h => hw h.1)]
    exact M.evn hw (impl_TipsMeet_j0_ev _ _ _ _ _ _ _ _ (M.evp rfl (Ev.now _)))
theorem law : StFnExactTipsMeet.Pure := by
  intro l h p s h' p' s' _ _ _ _ _ _ _
  refine Ev.rounds ?_
  simp only [laws_FnExactTipsMeet.f, laws_toWalker.f, Option.bind_some]
  refine Ev.bind (sTips_ev l h p s h' p' s') (Ev.bind (iTips_ev l h p s h' p' s') ?_)
  simp only [bne_self_eq_false, if_true, Bool.false_eq_true, if_false]
  exact Ev.now _
end Go.Proofs.Yteognjcnnghknaa.PbFnExactTipsMeet
namespace Go.Proofs.Yteognjcnnghknaa.Pure
theorem FnExactTipsMeet : StFnExactTipsMeet.Pure := PbFnExactTipsMeet.law
end Go.Proofs.Yteognjcnnghknaa.Pure
