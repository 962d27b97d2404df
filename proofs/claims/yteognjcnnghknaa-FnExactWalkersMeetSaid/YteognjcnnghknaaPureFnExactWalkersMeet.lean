/- The plain part of FnExactWalkersMeet: what the printed functions of the program and of the reference answer, in plain Lean, and that the law answers true. No condition. -/
import Derived.Test.YteognjcnnghknaaStFnExactWalkersMeet
import Derived.Test.YteognjcnnghknaaM
namespace Go.Proofs.Yteognjcnnghknaa.PbFnExactWalkersMeet
open Go.RowKit Go.Proofs.Yteognjcnnghknaa Go.Proofs.Yteognjcnnghknaa.PFnExactWalkersMeet Go.Proofs.YteognjcnnghknaaW.PrintWords Go.Proofs.YteognjcnnghknaaW.PrintLast
set_option linter.unusedVariables false
set_option linter.unusedSimpArgs false

theorem l1In_eq (a b c : Int) : spec_l1In.f a b c = some (decide (b ≤ a ∧ a ≤ c)) := by
  unfold spec_l1In.f
  by_cases h : b ≤ a <;> simp [h]
theorem swLamp_eq (a : Int) : spec_swLamp.f a = some (decide (2 ≤ a ∧ a ≤ 200)) := by simp [spec_swLamp.f, l1In_eq]
theorem wkGood_eq (l h p s : Int) : spec_wkGood.f l h p s = some (decide (M.Wk l h p s)) := by
  unfold spec_wkGood.f M.Wk
  by_cases h1 : 2 ≤ l ∧ l ≤ 200
  · have e : wrap64 (l - 1) = l - 1 := M.wrap_id (by omega) (by omega)
    by_cases h2 : 1 ≤ h ∧ h ≤ l - 1 <;> by_cases h3 : 0 ≤ p ∧ p ≤ 500 <;> simp [l1In_eq, swLamp_eq, h1, h2, h3, e]
  · simp [swLamp_eq, h1]
theorem spec_clLow_l0_ev (x0 : Int) (x1 : Int) (x6 : Int) (x7 : Int) {r : (Int × Int)} (h : Ev (fun k => if x7 > 0 then (if x7 = 0 then (none) else (spec_clLow.l0 k x0 x1 x7 (Int.tmod x6 x7))) else (if x6 = 0 then (none) else (some (wrap64 (Int.tdiv x0 x6), wrap64 (Int.tdiv x1 x6))))) r) : Ev (fun k => spec_clLow.l0 k x0 x1 x6 x7) r := Ev.step (fun k => by simp only [spec_clLow.l0]) h
theorem clLow_l0 (x y : Int) : ∀ (n : Nat) (a b : Int), b.toNat ≤ n → 0 ≤ a → 0 ≤ b → 0 < M.g a b →
    spec_clLow.l0 (n + 1) x y a b = some (wrap64 (Int.tdiv x (M.g a b)), wrap64 (Int.tdiv y (M.g a b)))
  | n, a, b, hn, h1, h3, h5 => by
    simp only [spec_clLow.l0]
    by_cases hb : b = 0
    · subst hb
      have e : M.g a 0 = a := by rw [M.g_zero]; omega
      rw [e] at h5 ⊢
      rw [if_neg (by omega), if_neg (by omega)]
    · rw [if_pos (by omega), if_neg hb]
      have e : (Int.tmod a b).natAbs = a.natAbs % b.natAbs := Int.natAbs_tmod ..
      have lt : a.natAbs % b.natAbs < b.natAbs := Nat.mod_lt _ (by omega)
      have nn : 0 ≤ Int.tmod a b := Int.tmod_nonneg b h1
      cases n with
      | zero => omega
      | succ n => rw [clLow_l0 x y n b (Int.tmod a b) (by omega) h3 nn (by rw [M.g_tmod]; exact h5), M.g_tmod]
theorem clLow_ev (a b : Int) (h1 : 0 ≤ a) (h2 : a ≤ 9223372036854775807) (h3 : 0 < b) (h4 : b ≤ 9223372036854775807) :
    Ev (fun k => spec_clLow.f k a b) (M.l1 a b, M.l2 a b) := by
  refine Ev.of (spec_clLow.mono a b) (k := b.toNat + 1) ?_
  have hg := M.g_pos_r (a := a) h3
  have ha := M.l1_abs (a := a) h3
  have hl := M.l2_le (a := a) h3
  have hp := M.l2_pos (a := a) h3
  unfold spec_clLow.f
  rw [clLow_l0 a b b.toNat a b (Nat.le_refl _) h1 (by omega) hg, M.tdiv_l1 h3, M.tdiv_l2 h3, M.wrap_id (by omega) (by omega), M.wrap_id (by omega) (by omega)]
theorem wkMeet_ev (a b x y : Int) (h1 : -100000000 ≤ a ∧ a ≤ 100000000) (h2 : -100000000 ≤ b ∧ b ≤ 100000000) (h3 : -100000000 ≤ x ∧ x ≤ 100000000) (h4 : -100000000 ≤ y ∧ y ≤ 100000000) :
    Ev (fun k => spec_wkMeet.f k a b x y) (M.rat (b - a) (x - y)) := by
  unfold spec_wkMeet.f
  rw [M.wrap_id (n := x - y) (by omega) (by omega), M.wrap_id (n := b - a) (by omega) (by omega), M.wrap_id (n := -(x - y)) (by omega) (by omega), M.wrap_id (n := -(b - a)) (by omega) (by omega)]
  by_cases hd : x - y < 0
  · refine M.evp hd (M.evn (by omega) ?_)
    have e1 : M.rn (b - a) (x - y) = -(b - a) := by simp only [M.rn, if_pos hd]
    have e2 : M.rdn (x - y) = -(x - y) := by simp only [M.rdn, if_pos hd]
    unfold M.rat
    rw [e1, e2]
    by_cases hn : -(b - a) < 0
    · rw [if_pos (.inr hn)]; exact M.evp hn (Ev.now _)
    · rw [if_neg (by omega)]
      exact M.evn hn (Ev.bind (clLow_ev _ _ (by omega) (by omega) (by omega) (by omega)) (Ev.now _))
  · refine M.evn hd ?_
    have e1 : M.rn (b - a) (x - y) = b - a := by simp only [M.rn, if_neg hd]
    have e2 : M.rdn (x - y) = x - y := by simp only [M.rdn, if_neg hd]
    unfold M.rat
    rw [e1, e2]
    by_cases h0 : x - y = 0
    · rw [if_pos (.inl h0)]; exact M.evp h0 (Ev.now _)
    · refine M.evn h0 ?_
      by_cases hn : b - a < 0
      · rw [if_pos (.inr hn)]; exact M.evp hn (Ev.now _)
      · rw [if_neg (by omega)]
        exact M.evn hn (Ev.bind (clLow_ev _ _ (by omega) (by omega) (by omega) (by omega)) (Ev.now _))
theorem wkStill_eq (h p s n d : Int) (hp : 0 ≤ p ∧ p ≤ 500) (hs : -50 ≤ s ∧ s ≤ 50) (hn : 0 ≤ n ∧ n ≤ 1000000) (hd : 0 ≤ d ∧ d ≤ 1000000) : spec_wkStill.f h p s n d = some (decide (0 ≤ p * d + s * n)) := by
  have b1 := M.mulb 500 1000000 (a := p) (b := d) (by omega) (by omega) (by omega) (by omega)
  have b2 := M.mulabs 50 1000000 (a := s) (b := n) (by omega) (by omega) (by omega) (by omega)
  unfold spec_wkStill.f
  rw [M.wrap_id (n := p * d) (by omega) (by omega), M.wrap_id (n := s * n) (by omega) (by omega), M.wrap_id (by omega) (by omega)]
theorem spec_WalkersMeet_j0_ev (x21 : Bool) (x116000 : Int) (x116001 : Int) (x116002 : Int) (x117000 : Int) (x117001 : Int) (x117002 : Int) {r : (Int × Int × Bool)} (h : Ev (fun k => if x21 = true then (some (0, 0, false)) else ((spec_wkMeet.f k x116001 x117001 x116002 x117002).bind fun bt119 => (if bt119.2.2 = true then ((spec_wkStill.f x116000 x116001 x116002 bt119.1 bt119.2.1).bind fun t122 => (if t122 = true then (some (bt119.1, bt119.2.1, true)) else (some (0, 0, false)))) else (some (0, 0, false))))) r) : Ev (fun k => spec_WalkersMeet.j0 k x21 x116000 x116001 x116002 x117000 x117001 x117002) r := Ev.step (fun k => by simp only [spec_WalkersMeet.j0]) h
theorem sMeet_ev (l h p s h' p' s' : Int) : Ev (fun k => spec_WalkersMeet.f k l h p s h' p' s') (if M.Wk l h p s ∧ M.Wk l h' p' s' then M.meet p s p' s' (p - p') (s' - s) else (0, 0, false)) := by
  simp only [spec_WalkersMeet.f, wkGood_eq, Option.bind_some, decide_eq_true_eq]
  by_cases hw : M.Wk l h p s
  · refine M.evp hw ?_
    by_cases hw' : M.Wk l h' p' s'
    · rw [if_pos ⟨hw, hw'⟩]
      simp only [hw', decide_true, Bool.not_true]
      have ⟨_, _, c, d⟩ := hw
      have ⟨_, _, c', d'⟩ := hw'
      refine spec_WalkersMeet_j0_ev _ _ _ _ _ _ _ (M.evn (by simp) ?_)
      have e : M.rat (p' - p) (s - s') = M.rat (p - p') (s' - s) := by
        rw [← M.rat_neg]; congr 1 <;> omega
      have q := wkMeet_ev p p' s s' (by omega) (by omega) (by omega) (by omega)
      rw [e] at q
      refine Ev.bind q ?_
      unfold M.meet
      by_cases hr : (M.rat (p - p') (s' - s)).2.2 = true
      · obtain ⟨r1, r2, r3, r4⟩ := M.rat_b hr
        have hx := M.rat_cross hr
        generalize M.rat (p - p') (s' - s) = r at *
        obtain ⟨x, y, z⟩ := r
        simp only at *
        refine M.evp hr ?_
        rw [wkStill_eq h p s x y c d (by omega) (by omega)]
        simp only [Option.bind_some, decide_eq_true_eq]
        have e2 : p * y + s * x = p' * y + s' * x := by
          rw [Int.mul_sub, Int.sub_mul, Int.mul_comm x s', Int.mul_comm x s] at hx; omega
        by_cases g1 : 0 ≤ p * y + s * x
        · exact M.evr (if_pos ⟨hr, g1, by omega⟩) (M.evp g1 (Ev.now _))
        · exact M.evr (if_neg fun h => g1 h.2.1) (M.evn g1 (Ev.now _))
      · exact M.evr (if_neg fun h => hr h.1) (M.evn hr (Ev.now _))
    · rw [if_neg (fun h => hw' h.2)]
      simp only [hw', decide_false, Bool.not_false]
      exact spec_WalkersMeet_j0_ev _ _ _ _ _ _ _ (M.evp rfl (Ev.now _))
  · rw [if_neg (fun h => hw h.1)]
    exact M.evn hw (spec_WalkersMeet_j0_ev _ _ _ _ _ _ _ (M.evp rfl (Ev.now _)))
theorem within_eq (a b c : Int) : impl_within.f a b c = some (decide (b ≤ a ∧ a ≤ c)) := by
  unfold impl_within.f
  by_cases h : b ≤ a <;> simp [h]
theorem isLamp_eq (a : Int) : impl_isLamp.f a = some (decide (2 ≤ a ∧ a ≤ 200)) := by simp [impl_isLamp.f, within_eq]
theorem IsWalker_eq (l h p s : Int) : impl_IsWalker.f l h p s = some (decide (M.Wk l h p s)) := by
  unfold impl_IsWalker.f M.Wk
  by_cases h1 : 2 ≤ l ∧ l ≤ 200
  · have e : wrap64 (l - 1) = l - 1 := M.wrap_id (by omega) (by omega)
    by_cases h2 : 1 ≤ h ∧ h ≤ l - 1 <;> by_cases h3 : 0 ≤ p ∧ p ≤ 500 <;> simp [within_eq, isLamp_eq, h1, h2, h3, e]
  · simp [isLamp_eq, h1]
theorem impl_gcd_l0_ev (x0 : Int) (x1 : Int) {r : (Int)} (h : Ev (fun k => if x1 = 0 then (some (mx x0 (wrap64 (-x0)))) else (impl_gcd.l0 k x1 (Int.tmod x0 x1))) r) : Ev (fun k => impl_gcd.l0 k x0 x1) r := Ev.step (fun k => by simp only [impl_gcd.l0]) h
theorem gcd_l0 : ∀ (n : Nat) (a b : Int), b.natAbs ≤ n → -9223372036854775807 ≤ a → a ≤ 9223372036854775807 → -9223372036854775807 ≤ b → b ≤ 9223372036854775807 →
    impl_gcd.l0 (n + 1) a b = some (M.g a b)
  | n, a, b, hn, h1, h2, h3, h4 => by
    simp only [impl_gcd.l0]
    by_cases hb : b = 0
    · subst hb
      rw [if_pos rfl, M.g_zero, M.wrap_id (by omega) (by omega)]
      unfold mx; congr 1; omega
    · rw [if_neg hb]
      have e : (Int.tmod a b).natAbs = a.natAbs % b.natAbs := Int.natAbs_tmod ..
      have lt : a.natAbs % b.natAbs < b.natAbs := Nat.mod_lt _ (by omega)
      cases n with
      | zero => omega
      | succ n => rw [gcd_l0 n b (Int.tmod a b) (by omega) h3 h4 (by omega) (by omega), M.g_tmod]
theorem gcd_ev (a b : Int) (h1 : -9223372036854775807 ≤ a) (h2 : a ≤ 9223372036854775807) (h3 : -9223372036854775807 ≤ b) (h4 : b ≤ 9223372036854775807) :
    Ev (fun k => impl_gcd.f k a b) (M.g a b) :=
  Ev.of (impl_gcd.mono a b) (k := b.natAbs + 1) (by unfold impl_gcd.f; exact gcd_l0 _ a b (Nat.le_refl _) h1 h2 h3 h4)
theorem fraction_ev (a b : Int) (h1 : -9223372036854775807 ≤ a) (h2 : a ≤ 9223372036854775807) (h3 : 0 < b) (h4 : b ≤ 9223372036854775807) :
    Ev (fun k => impl_fraction.f k a b) (M.l1 a b, M.l2 a b, true) := by
  simp only [impl_fraction.f]
  refine Ev.bind (gcd_ev a b h1 h2 (by omega) h4) ?_
  have hg := M.g_pos_r (a := a) h3
  have ha := M.l1_abs (a := a) h3
  have hl := M.l2_le (a := a) h3
  have hp := M.l2_pos (a := a) h3
  rw [if_neg (by omega), M.tdiv_l1 h3, M.tdiv_l2 h3, M.wrap_id (by omega) (by omega), M.wrap_id (by omega) (by omega)]
  exact Ev.now _
theorem ratio_ev (n d : Int) (h1 : -1000000000 ≤ n) (h2 : n ≤ 1000000000) (h3 : -1000000000 ≤ d) (h4 : d ≤ 1000000000) : Ev (fun k => impl_ratio.f k n d) (M.rat n d) := by
  unfold impl_ratio.f
  by_cases hd : d < 0
  · refine M.evp hd ?_
    have e1 : M.rn n d = -n := by simp [M.rn, hd]
    have e2 : M.rdn d = -d := by simp [M.rdn, hd]
    rw [M.wrap_id (n := -d) (by omega) (by omega), M.wrap_id (n := -n) (by omega) (by omega)]
    refine M.evn (by omega) ?_
    unfold M.rat
    rw [e1, e2]
    by_cases hn : -n < 0
    · rw [if_pos (.inr hn)]; exact M.evp hn (Ev.now _)
    · rw [if_neg (by omega)]
      exact M.evn hn (Ev.bind (fraction_ev _ _ (by omega) (by omega) (by omega) (by omega)) (Ev.now _))
  · refine M.evn hd ?_
    have e1 : M.rn n d = n := by simp [M.rn, hd]
    have e2 : M.rdn d = d := by simp [M.rdn, hd]
    unfold M.rat
    rw [e1, e2]
    by_cases h0 : d = 0
    · rw [if_pos (.inl h0)]; exact M.evp h0 (Ev.now _)
    · refine M.evn h0 ?_
      by_cases hn : n < 0
      · rw [if_pos (.inr hn)]; exact M.evp hn (Ev.now _)
      · rw [if_neg (by omega)]
        exact M.evn hn (Ev.bind (fraction_ev _ _ (by omega) (by omega) (by omega) (by omega)) (Ev.now _))
theorem meet_ev (h p s h' p' s' t o : Int) (hp : 0 ≤ p ∧ p ≤ 500) (hs : -50 ≤ s ∧ s ≤ 50) (hp' : 0 ≤ p' ∧ p' ≤ 500) (hs' : -50 ≤ s' ∧ s' ≤ 50) (ht : 1 ≤ t ∧ t ≤ 200) (ho : 1 ≤ o ∧ o ≤ 200) :
    Ev (fun k => impl_meet.f k h p s h' p' s' t o) (M.meet p s p' s' (t * p - o * p') (o * s' - t * s)) := by
  unfold impl_meet.f
  have b1 := M.mulb 200 500 (a := t) (b := p) (by omega) (by omega) (by omega) (by omega)
  have b2 := M.mulb 200 500 (a := o) (b := p') (by omega) (by omega) (by omega) (by omega)
  have b3 := M.mulabs 200 50 (a := o) (b := s') (by omega) (by omega) (by omega) (by omega)
  have b4 := M.mulabs 200 50 (a := t) (b := s) (by omega) (by omega) (by omega) (by omega)
  rw [M.wrap_id (n := t * p) (by omega) (by omega), M.wrap_id (n := o * p') (by omega) (by omega), M.wrap_id (n := t * p - o * p') (by omega) (by omega),
    M.wrap_id (n := o * s') (by omega) (by omega), M.wrap_id (n := t * s) (by omega) (by omega), M.wrap_id (n := o * s' - t * s) (by omega) (by omega)]
  refine Ev.bind (ratio_ev _ _ (by omega) (by omega) (by omega) (by omega)) ?_
  unfold M.meet
  by_cases hr : (M.rat (t * p - o * p') (o * s' - t * s)).2.2 = true
  · obtain ⟨r1, r2, r3, r4⟩ := M.rat_b hr
    generalize M.rat (t * p - o * p') (o * s' - t * s) = r at *
    obtain ⟨x, y, z⟩ := r
    simp only at *
    refine M.evp hr ?_
    have c1 := M.mulb 500 1000000 (a := p) (b := y) (by omega) (by omega) (by omega) (by omega)
    have c2 := M.mulabs 50 1000000 (a := s) (b := x) (by omega) (by omega) (by omega) (by omega)
    have c3 := M.mulb 500 1000000 (a := p') (b := y) (by omega) (by omega) (by omega) (by omega)
    have c4 := M.mulabs 50 1000000 (a := s') (b := x) (by omega) (by omega) (by omega) (by omega)
    rw [M.wrap_id (n := p * y) (by omega) (by omega), M.wrap_id (n := s * x) (by omega) (by omega), M.wrap_id (n := p * y + s * x) (by omega) (by omega),
      M.wrap_id (n := p' * y) (by omega) (by omega), M.wrap_id (n := s' * x) (by omega) (by omega), M.wrap_id (n := p' * y + s' * x) (by omega) (by omega)]
    by_cases g1 : p * y + s * x < 0
    · exact M.evr (if_neg fun h => by omega) (M.evp g1 (Ev.now _))
    · refine M.evn g1 ?_
      by_cases g2 : p' * y + s' * x < 0
      · exact M.evr (if_neg fun h => by omega) (M.evp g2 (Ev.now _))
      · exact M.evr (if_pos ⟨hr, by omega, by omega⟩) (M.evn g2 (Ev.now _))
  · exact M.evr (if_neg fun h => hr h.1) (M.evn hr (Ev.now _))
theorem iMeet_ev (l h p s h' p' s' : Int) : Ev (fun k => impl_WalkersMeet.f k l h p s h' p' s') (if M.Wk l h p s ∧ M.Wk l h' p' s' then M.meet p s p' s' (p - p') (s' - s) else (0, 0, false)) := by
  simp only [impl_WalkersMeet.f, IsWalker_eq, Option.bind_some, decide_eq_true_eq]
  by_cases hw : M.Wk l h p s
  · refine M.evp hw ?_
    by_cases hw' : M.Wk l h' p' s'
    · rw [if_pos ⟨hw, hw'⟩]
      have ⟨_, _, c, d⟩ := hw
      have ⟨_, _, c', d'⟩ := hw'
      have q := meet_ev h p s h' p' s' 1 1 c d c' d' (by omega) (by omega)
      rw [Int.one_mul, Int.one_mul, Int.one_mul, Int.one_mul] at q
      exact M.evp hw' (Ev.bind q (Ev.now _))
    · rw [if_neg (fun h => hw' h.2)]; exact M.evn hw' (Ev.now _)
  · rw [if_neg (fun h => hw h.1)]; exact M.evn hw (Ev.now _)
theorem law : StFnExactWalkersMeet.Pure := by
  intro l h p s h' p' s' _ _ _ _ _ _ _
  refine Ev.rounds ?_
  simp only [laws_FnExactWalkersMeet.f, laws_toWalker.f, Option.bind_some]
  refine Ev.bind (sMeet_ev l h p s h' p' s') (Ev.bind (iMeet_ev l h p s h' p' s') ?_)
  simp only [bne_self_eq_false, if_true, Bool.false_eq_true, if_false]
  exact Ev.now _
end Go.Proofs.Yteognjcnnghknaa.PbFnExactWalkersMeet
namespace Go.Proofs.Yteognjcnnghknaa.Pure
theorem FnExactWalkersMeet : StFnExactWalkersMeet.Pure := PbFnExactWalkersMeet.law
end Go.Proofs.Yteognjcnnghknaa.Pure
