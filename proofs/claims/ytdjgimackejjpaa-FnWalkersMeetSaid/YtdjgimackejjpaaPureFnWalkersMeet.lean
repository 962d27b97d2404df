/- The plain part of FnWalkersMeet: what the printed functions of the program and of the reference answer, in plain Lean, and that the law answers true. No condition. -/
import Derived.Test.YtdjgimackejjpaaStFnWalkersMeet
import Derived.Test.YtdjgimackejjpaaM
namespace Go.Proofs.Ytdjgimackejjpaa.PbFnWalkersMeet
open Go.RowKit Go.Proofs.Ytdjgimackejjpaa Go.Proofs.Ytdjgimackejjpaa.PFnWalkersMeet Go.Proofs.YtdjgimackejjpaaW.PrintWords Go.Proofs.YtdjgimackejjpaaW.PrintLast Go.Proofs.Ytdjgimackejjpaa.LwFnWalkersMeet
set_option linter.unusedVariables false
set_option linter.unusedSimpArgs false

theorem within_eq (a b c : Int) : impl_within.f a b c = some (decide (b ≤ a ∧ a ≤ c)) := by
  unfold impl_within.f
  by_cases h : b ≤ a <;> simp [h]
theorem isLamp_eq (a : Int) : impl_isLamp.f a = some (decide (2 ≤ a ∧ a ≤ 200)) := by simp [impl_isLamp.f, within_eq]
theorem IsWalker_eq (l h p s : Int) : impl_IsWalker.f l h p s = some (decide (M.Wk l h p s)) := by
  unfold impl_IsWalker.f M.Wk
  by_cases h1 : 2 ≤ l ∧ l ≤ 200
  · have e : wrap64 (l - 1) = l - 1 := M.wrap_id (by omega) (by omega)
    by_cases h2 : 1 ≤ h ∧ h ≤ l - 1 <;> by_cases h3 : 0 ≤ p ∧ p ≤ 500 <;> simp [within_eq, isLamp_eq, h1, h2, h3, e]
  · simp [isLamp_eq, h1]
theorem impl_gcd_l0_ev (x0 : Int) (x1 : Int) {r : (Int)} (h : Ev (fun k => if x1 = 0 then (some (mx x0 (wrap64 (-x0)))) else (impl_gcd.l0 k x1 (Int.tmod x0 x1))) r) : Ev (fun k => impl_gcd.l0 k x0 x1) r := Ev.step (fun k => by simp only [impl_gcd.l0]) h
theorem gcd_l0 : ∀ (n : Nat) (a b : Int), b.natAbs ≤ n → -9223372036854775807 ≤ a → a ≤ 9223372036854775807 → -9223372036854775807 ≤ b → b ≤ 9223372036854775807 →
    impl_gcd.l0 (n + 1) a b = some (M.g a b)
  | n, a, b, hn, h1, h2, h3, h4 => by
    simp only [impl_gcd.l0]
    by_cases hb : b = 0
    · subst hb
      rw [if_pos rfl, M.g_zero, M.wrap_id (by omega) (by omega)]
      unfold mx; congr 1; omega
    · rw [if_neg hb]
      have e : (Int.tmod a b).natAbs = a.natAbs % b.natAbs := Int.natAbs_tmod ..
      have lt : a.natAbs % b.natAbs < b.natAbs := Nat.mod_lt _ (by omega)
      cases n with
      | zero => omega
      | succ n => rw [gcd_l0 n b (Int.tmod a b) (by omega) h3 h4 (by omega) (by omega), M.g_tmod]
theorem gcd_ev (a b : Int) (h1 : -9223372036854775807 ≤ a) (h2 : a ≤ 9223372036854775807) (h3 : -9223372036854775807 ≤ b) (h4 : b ≤ 9223372036854775807) :
    Ev (fun k => impl_gcd.f k a b) (M.g a b) :=
  Ev.of (impl_gcd.mono a b) (k := b.natAbs + 1) (by unfold impl_gcd.f; exact gcd_l0 _ a b (Nat.le_refl _) h1 h2 h3 h4)
theorem fraction_ev (a b : Int) (h1 : -9223372036854775807 ≤ a) (h2 : a ≤ 9223372036854775807) (h3 : 0 < b) (h4 : b ≤ 9223372036854775807) :
    Ev (fun k => impl_fraction.f k a b) (M.l1 a b, M.l2 a b, true) := by
  simp only [impl_fraction.f]
  refine Ev.bind (gcd_ev a b h1 h2 (by omega) h4) ?_
  have hg := M.g_pos_r (a := a) h3
  have ha := M.l1_abs (a := a) h3
  have hl := M.l2_le (a := a) h3
  have hp := M.l2_pos (a := a) h3
  rw [if_neg (by omega), M.tdiv_l1 h3, M.tdiv_l2 h3, M.wrap_id (by omega) (by omega), M.wrap_id (by omega) (by omega)]
  exact Ev.now _
theorem ratio_ev (n d : Int) (h1 : -1000000000 ≤ n) (h2 : n ≤ 1000000000) (h3 : -1000000000 ≤ d) (h4 : d ≤ 1000000000) : Ev (fun k => impl_ratio.f k n d) (M.rat n d) := by
  unfold impl_ratio.f
  by_cases hd : d < 0
  · refine M.evp hd ?_
    have e1 : M.rn n d = -n := by simp [M.rn, hd]
    have e2 : M.rdn d = -d := by simp [M.rdn, hd]
    rw [M.wrap_id (n := -d) (by omega) (by omega), M.wrap_id (n := -n) (by omega) (by omega)]
    refine M.evn (by omega) ?_
    unfold M.rat
    rw [e1, e2]
    by_cases hn : -n < 0
    · rw [if_pos (.inr hn)]; exact M.evp hn (Ev.now _)
    · rw [if_neg (by omega)]
      exact M.evn hn (Ev.bind (fraction_ev _ _ (by omega) (by omega) (by omega) (by omega)) (Ev.now _))
  · refine M.evn hd ?_
    have e1 : M.rn n d = n := by simp [M.rn, hd]
    have e2 : M.rdn d = d := by simp [M.rdn, hd]
    unfold M.rat
    rw [e1, e2]
    by_cases h0 : d = 0
    · rw [if_pos (.inl h0)]; exact M.evp h0 (Ev.now _)
    · refine M.evn h0 ?_
      by_cases hn : n < 0
      · rw [if_pos (.inr hn)]; exact M.evp hn (Ev.now _)
      · rw [if_neg (by omega)]
        exact M.evn hn (Ev.bind (fraction_ev _ _ (by omega) (by omega) (by omega) (by omega)) (Ev.now _))
theorem meet_ev (h p s h' p' s' t o : Int) (hp : 0 ≤ p ∧ p ≤ 500) (hs : -50 ≤ s ∧ s ≤ 50) (hp' : 0 ≤ p' ∧ p' ≤ 500) (hs' : -50 ≤ s' ∧ s' ≤ 50) (ht : 1 ≤ t ∧ t ≤ 200) (ho : 1 ≤ o ∧ o ≤ 200) :
    Ev (fun k => impl_meet.f k h p s h' p' s' t o) (M.meet p s p' s' (t * p - o * p') (o * s' - t * s)) := by
  unfold impl_meet.f
  have b1 := M.mulb 200 500 (a := t) (b := p) (by omega) (by omega) (by omega) (by omega)
  have b2 := M.mulb 200 500 (a := o) (b := p') (by omega) (by omega) (by omega) (by omega)
  have b3 := M.mulabs 200 50 (a := o) (b := s') (by omega) (by omega) (by omega) (by omega)
  have b4 := M.mulabs 200 50 (a := t) (b := s) (by omega) (by omega) (by omega) (by omega)
  rw [M.wrap_id (n := t * p) (by omega) (by omega), M.wrap_id (n := o * p') (by omega) (by omega), M.wrap_id (n := t * p - o * p') (by omega) (by omega),
    M.wrap_id (n := o * s') (by omega) (by omega), M.wrap_id (n := t * s) (by omega) (by omega), M.wrap_id (n := o * s' - t * s) (by omega) (by omega)]
  refine Ev.bind (ratio_ev _ _ (by omega) (by omega) (by omega) (by omega)) ?_
  unfold M.meet
  by_cases hr : (M.rat (t * p - o * p') (o * s' - t * s)).2.2 = true
  · obtain ⟨r1, r2, r3, r4⟩ := M.rat_b hr
    generalize M.rat (t * p - o * p') (o * s' - t * s) = r at *
    obtain ⟨x, y, z⟩ := r
    simp only at *
    refine M.evp hr ?_
    have c1 := M.mulb 500 1000000 (a := p) (b := y) (by omega) (by omega) (by omega) (by omega)
    have c2 := M.mulabs 50 1000000 (a := s) (b := x) (by omega) (by omega) (by omega) (by omega)
    have c3 := M.mulb 500 1000000 (a := p') (b := y) (by omega) (by omega) (by omega) (by omega)
    have c4 := M.mulabs 50 1000000 (a := s') (b := x) (by omega) (by omega) (by omega) (by omega)
    rw [M.wrap_id (n := p * y) (by omega) (by omega), M.wrap_id (n := s * x) (by omega) (by omega), M.wrap_id (n := p * y + s * x) (by omega) (by omega),
      M.wrap_id (n := p' * y) (by omega) (by omega), M.wrap_id (n := s' * x) (by omega) (by omega), M.wrap_id (n := p' * y + s' * x) (by omega) (by omega)]
    by_cases g1 : p * y + s * x < 0
    · exact M.evr (if_neg fun h => by omega) (M.evp g1 (Ev.now _))
    · refine M.evn g1 ?_
      by_cases g2 : p' * y + s' * x < 0
      · exact M.evr (if_neg fun h => by omega) (M.evp g2 (Ev.now _))
      · exact M.evr (if_pos ⟨hr, by omega, by omega⟩) (M.evn g2 (Ev.now _))
  · exact M.evr (if_neg fun h => hr h.1) (M.evn hr (Ev.now _))
theorem impl_TipsMeet_j0_ev (x0 : Int) (x26 : Bool) (x120000 : Int) (x120001 : Int) (x120002 : Int) (x121000 : Int) (x121001 : Int) (x121002 : Int) {r : (Int × Int × Int × Int × Bool)} (h : Ev (fun k => if x26 = true then (some (0, 0, 0, 0, false)) else ((impl_meet.f k x120000 x120001 x120002 x121000 x121001 x121002 (wrap64 (x0 - x121000)) (wrap64 (x0 - x120000))).bind fun bt123 => (if bt123.2.2 = true then ((impl_fraction.f k (wrap64 ((wrap64 ((wrap64 (x120001 * bt123.2.1)) + (wrap64 (x120002 * bt123.1)))) * x0)) (wrap64 (bt123.2.1 * (wrap64 (x0 - x120000))))).bind fun bt126 => (some (bt123.1, bt123.2.1, bt126.1, bt126.2.1, true))) else (some (0, 0, 0, 0, false))))) r) : Ev (fun k => impl_TipsMeet.j0 k x0 x26 x120000 x120001 x120002 x121000 x121001 x121002) r := Ev.step (fun k => by simp only [impl_TipsMeet.j0]) h
theorem iTips_ev (l h p s h' p' s' : Int) : Ev (fun k => impl_TipsMeet.f k l h p s h' p' s') (if M.Wk l h p s ∧ M.Wk l h' p' s' then M.tips l h p s h' p' s' else (0, 0, 0, 0, false)) := by
  simp only [impl_TipsMeet.f, IsWalker_eq, Option.bind_some, decide_eq_true_eq]
  by_cases hw : M.Wk l h p s
  · refine M.evp hw ?_
    by_cases hw' : M.Wk l h' p' s'
    · rw [if_pos ⟨hw, hw'⟩]
      simp only [hw', decide_true, Bool.not_true]
      have ⟨a, b, c, d⟩ := hw
      have ⟨a', b', c', d'⟩ := hw'
      refine impl_TipsMeet_j0_ev _ _ _ _ _ _ _ _ (M.evn (by simp) ?_)
      rw [M.wrap_id (n := l - h') (by omega) (by omega), M.wrap_id (n := l - h) (by omega) (by omega)]
      refine Ev.bind (meet_ev h p s h' p' s' (l - h') (l - h) c d c' d' (by omega) (by omega)) ?_
      unfold M.tips
      have n1 := M.mulb 200 500 (a := l - h') (b := p) (by omega) (by omega) (by omega) (by omega)
      have n2 := M.mulb 200 500 (a := l - h) (b := p') (by omega) (by omega) (by omega) (by omega)
      have n3 := M.mulabs 200 50 (a := l - h') (b := s) (by omega) (by omega) (by omega) (by omega)
      have n4 := M.mulabs 200 50 (a := l - h) (b := s') (by omega) (by omega) (by omega) (by omega)
      by_cases hr : (M.meet p s p' s' ((l - h') * p - (l - h) * p') ((l - h) * s' - (l - h') * s)).2.2 = true
      · obtain ⟨r1, r2, r3, r4, r5, r6⟩ := M.meet_b hr
        generalize M.meet p s p' s' ((l - h') * p - (l - h) * p') ((l - h) * s' - (l - h') * s) = r at *
        obtain ⟨x, y, z⟩ := r
        simp only at *
        rw [if_pos hr]
        refine M.evp hr ?_
        have c1 := M.mulb 500 1000000 (a := p) (b := y) (by omega) (by omega) (by omega) (by omega)
        have c2 := M.mulabs 50 1000000 (a := s) (b := x) (by omega) (by omega) (by omega) (by omega)
        have c3 := M.mulb 1000000000 200 (a := p * y + s * x) (b := l) (by omega) (by omega) (by omega) (by omega)
        have c4 := M.mulb 1000000 200 (a := y) (b := l - h) (by omega) (by omega) (by omega) (by omega)
        have c5 : 0 < y * (l - h) := Int.mul_pos (by omega) (by omega)
        rw [M.wrap_id (n := p * y) (by omega) (by omega), M.wrap_id (n := s * x) (by omega) (by omega), M.wrap_id (n := p * y + s * x) (by omega) (by omega), M.wrap_id (n := (p * y + s * x) * l) (by omega) (by omega), M.wrap_id (n := y * (l - h)) (by omega) (by omega)]
        exact Ev.bind (fraction_ev _ _ (by omega) (by omega) (by omega) (by omega)) (Ev.now _)
      · rw [if_neg hr]; exact M.evn hr (Ev.now _)
    · rw [if_neg (fun h => hw' h.2)]
      simp only [hw', decide_false, Bool.not_false]
      exact impl_TipsMeet_j0_ev _ _ _ _ _ _ _ _ (M.evp rfl (Ev.now _))
  · rw [if_neg (fun h => hw h.1)]
    exact M.evn hw (impl_TipsMeet_j0_ev _ _ _ _ _ _ _ _ (M.evp rfl (Ev.now _)))
theorem l1In_eq (a b c : Int) : spec_l1In.f a b c = some (decide (b ≤ a ∧ a ≤ c)) := by
  unfold spec_l1In.f
  by_cases h : b ≤ a <;> simp [h]
theorem swLamp_eq (a : Int) : spec_swLamp.f a = some (decide (2 ≤ a ∧ a ≤ 200)) := by simp [spec_swLamp.f, l1In_eq]
theorem wkGood_eq (l h p s : Int) : spec_wkGood.f l h p s = some (decide (M.Wk l h p s)) := by
  unfold spec_wkGood.f M.Wk
  by_cases h1 : 2 ≤ l ∧ l ≤ 200
  · have e : wrap64 (l - 1) = l - 1 := M.wrap_id (by omega) (by omega)
    by_cases h2 : 1 ≤ h ∧ h ≤ l - 1 <;> by_cases h3 : 0 ≤ p ∧ p ≤ 500 <;> simp [l1In_eq, swLamp_eq, h1, h2, h3, e]
  · simp [swLamp_eq, h1]
theorem spec_clLow_l0_ev (x0 : Int) (x1 : Int) (x6 : Int) (x7 : Int) {r : (Int × Int)} (h : Ev (fun k => if x7 > 0 then (if x7 = 0 then (none) else (spec_clLow.l0 k x0 x1 x7 (Int.tmod x6 x7))) else (if x6 = 0 then (none) else (some (wrap64 (Int.tdiv x0 x6), wrap64 (Int.tdiv x1 x6))))) r) : Ev (fun k => spec_clLow.l0 k x0 x1 x6 x7) r := Ev.step (fun k => by simp only [spec_clLow.l0]) h
theorem clLow_l0 (x y : Int) : ∀ (n : Nat) (a b : Int), b.toNat ≤ n → 0 ≤ a → 0 ≤ b → 0 < M.g a b →
    spec_clLow.l0 (n + 1) x y a b = some (wrap64 (Int.tdiv x (M.g a b)), wrap64 (Int.tdiv y (M.g a b)))
  | n, a, b, hn, h1, h3, h5 => by
    simp only [spec_clLow.l0]
    by_cases hb : b = 0
    · subst hb
      have e : M.g a 0 = a := by rw [M.g_zero]; omega
      rw [e] at h5 ⊢
      rw [if_neg (by omega), if_neg (by omega)]
    · rw [if_pos (by omega), if_neg hb]
      have e : (Int.tmod a b).natAbs = a.natAbs % b.natAbs := Int.natAbs_tmod ..
      have lt : a.natAbs % b.natAbs < b.natAbs := Nat.mod_lt _ (by omega)
      have nn : 0 ≤ Int.tmod a b := Int.tmod_nonneg b h1
      cases n with
      | zero => omega
      | succ n => rw [clLow_l0 x y n b (Int.tmod a b) (by omega) h3 nn (by rw [M.g_tmod]; exact h5), M.g_tmod]
theorem clLow_ev (a b : Int) (h1 : 0 ≤ a) (h2 : a ≤ 9223372036854775807) (h3 : 0 < b) (h4 : b ≤ 9223372036854775807) :
    Ev (fun k => spec_clLow.f k a b) (M.l1 a b, M.l2 a b) := by
  refine Ev.of (spec_clLow.mono a b) (k := b.toNat + 1) ?_
  have hg := M.g_pos_r (a := a) h3
  have ha := M.l1_abs (a := a) h3
  have hl := M.l2_le (a := a) h3
  have hp := M.l2_pos (a := a) h3
  unfold spec_clLow.f
  rw [clLow_l0 a b b.toNat a b (Nat.le_refl _) h1 (by omega) hg, M.tdiv_l1 h3, M.tdiv_l2 h3, M.wrap_id (by omega) (by omega), M.wrap_id (by omega) (by omega)]
theorem wkMeet_ev (a b x y : Int) (h1 : -100000000 ≤ a ∧ a ≤ 100000000) (h2 : -100000000 ≤ b ∧ b ≤ 100000000) (h3 : -100000000 ≤ x ∧ x ≤ 100000000) (h4 : -100000000 ≤ y ∧ y ≤ 100000000) :
    Ev (fun k => spec_wkMeet.f k a b x y) (M.rat (b - a) (x - y)) := by
  unfold spec_wkMeet.f
  rw [M.wrap_id (n := x - y) (by omega) (by omega), M.wrap_id (n := b - a) (by omega) (by omega), M.wrap_id (n := -(x - y)) (by omega) (by omega), M.wrap_id (n := -(b - a)) (by omega) (by omega)]
  by_cases hd : x - y < 0
  · refine M.evp hd (M.evn (by omega) ?_)
    have e1 : M.rn (b - a) (x - y) = -(b - a) := by simp only [M.rn, if_pos hd]
    have e2 : M.rdn (x - y) = -(x - y) := by simp only [M.rdn, if_pos hd]
    unfold M.rat
    rw [e1, e2]
    by_cases hn : -(b - a) < 0
    · rw [if_pos (.inr hn)]; exact M.evp hn (Ev.now _)
    · rw [if_neg (by omega)]
      exact M.evn hn (Ev.bind (clLow_ev _ _ (by omega) (by omega) (by omega) (by omega)) (Ev.now _))
  · refine M.evn hd ?_
    have e1 : M.rn (b - a) (x - y) = b - a := by simp only [M.rn, if_neg hd]
    have e2 : M.rdn (x - y) = x - y := by simp only [M.rdn, if_neg hd]
    unfold M.rat
    rw [e1, e2]
    by_cases h0 : x - y = 0
    · rw [if_pos (.inl h0)]; exact M.evp h0 (Ev.now _)
    · refine M.evn h0 ?_
      by_cases hn : b - a < 0
      · rw [if_pos (.inr hn)]; exact M.evp hn (Ev.now _)
      · rw [if_neg (by omega)]
        exact M.evn hn (Ev.bind (clLow_ev _ _ (by omega) (by omega) (by omega) (by omega)) (Ev.now _))
theorem wkStill_eq (h p s n d : Int) (hp : 0 ≤ p ∧ p ≤ 500) (hs : -50 ≤ s ∧ s ≤ 50) (hn : 0 ≤ n ∧ n ≤ 1000000) (hd : 0 ≤ d ∧ d ≤ 1000000) : spec_wkStill.f h p s n d = some (decide (0 ≤ p * d + s * n)) := by
  have b1 := M.mulb 500 1000000 (a := p) (b := d) (by omega) (by omega) (by omega) (by omega)
  have b2 := M.mulabs 50 1000000 (a := s) (b := n) (by omega) (by omega) (by omega) (by omega)
  unfold spec_wkStill.f
  rw [M.wrap_id (n := p * d) (by omega) (by omega), M.wrap_id (n := s * n) (by omega) (by omega), M.wrap_id (by omega) (by omega)]
theorem spec_TipsMeet_j0_ev (x0 : Int) (x27 : Bool) (x141000 : Int) (x141001 : Int) (x141002 : Int) (x142000 : Int) (x142001 : Int) (x142002 : Int) {r : (Int × Int × Int × Int × Bool)} (h : Ev (fun k => if x27 = true then (some (0, 0, 0, 0, false)) else ((spec_wkMeet.f k (wrap64 (x141001 * (wrap64 (x0 - x142000)))) (wrap64 (x142001 * (wrap64 (x0 - x141000)))) (wrap64 (x141002 * (wrap64 (x0 - x142000)))) (wrap64 (x142002 * (wrap64 (x0 - x141000))))).bind fun bt144 => (if bt144.2.2 = true then ((spec_wkStill.f x141000 x141001 x141002 bt144.1 bt144.2.1).bind fun t147 => (if t147 = true then ((spec_wkStill.f x142000 x142001 x142002 bt144.1 bt144.2.1).bind fun t148 => (if t148 = true then ((spec_clLow.f k (wrap64 ((wrap64 ((wrap64 (x141001 * bt144.2.1)) + (wrap64 (x141002 * bt144.1)))) * x0)) (wrap64 (bt144.2.1 * (wrap64 (x0 - x141000))))).bind fun bt149 => (some (bt144.1, bt144.2.1, bt149.1, bt149.2, true))) else (some (0, 0, 0, 0, false)))) else (some (0, 0, 0, 0, false)))) else (some (0, 0, 0, 0, false))))) r) : Ev (fun k => spec_TipsMeet.j0 k x0 x27 x141000 x141001 x141002 x142000 x142001 x142002) r := Ev.step (fun k => by simp only [spec_TipsMeet.j0]) h
theorem sTips_ev (l h p s h' p' s' : Int) : Ev (fun k => spec_TipsMeet.f k l h p s h' p' s') (if M.Wk l h p s ∧ M.Wk l h' p' s' then M.tips l h p s h' p' s' else (0, 0, 0, 0, false)) := by
  simp only [spec_TipsMeet.f, wkGood_eq, Option.bind_some, decide_eq_true_eq]
  by_cases hw : M.Wk l h p s
  · refine M.evp hw ?_
    by_cases hw' : M.Wk l h' p' s'
    · rw [if_pos ⟨hw, hw'⟩]
      simp only [hw', decide_true, Bool.not_true]
      have ⟨a, b, c, d⟩ := hw
      have ⟨a', b', c', d'⟩ := hw'
      refine spec_TipsMeet_j0_ev _ _ _ _ _ _ _ _ (M.evn (by simp) ?_)
      have m1 := M.mulb 500 200 (a := p) (b := l - h') (by omega) (by omega) (by omega) (by omega)
      have m2 := M.mulb 500 200 (a := p') (b := l - h) (by omega) (by omega) (by omega) (by omega)
      have m3 := M.mulabs 50 200 (a := s) (b := l - h') (by omega) (by omega) (by omega) (by omega)
      have m4 := M.mulabs 50 200 (a := s') (b := l - h) (by omega) (by omega) (by omega) (by omega)
      rw [M.wrap_id (n := l - h') (by omega) (by omega), M.wrap_id (n := l - h) (by omega) (by omega), M.wrap_id (n := p * (l - h')) (by omega) (by omega), M.wrap_id (n := p' * (l - h)) (by omega) (by omega),
        M.wrap_id (n := s * (l - h')) (by omega) (by omega), M.wrap_id (n := s' * (l - h)) (by omega) (by omega)]
      have e : M.rat (p' * (l - h) - p * (l - h')) (s * (l - h') - s' * (l - h)) = M.rat ((l - h') * p - (l - h) * p') ((l - h) * s' - (l - h') * s) := by
        rw [← M.rat_neg, Int.mul_comm p', Int.mul_comm p, Int.mul_comm s, Int.mul_comm s']; congr 1 <;> omega
      have q := wkMeet_ev (p * (l - h')) (p' * (l - h)) (s * (l - h')) (s' * (l - h)) (by omega) (by omega) (by omega) (by omega)
      rw [e] at q
      refine Ev.bind q ?_
      have n1 := M.mulb 200 500 (a := l - h') (b := p) (by omega) (by omega) (by omega) (by omega)
      have n2 := M.mulb 200 500 (a := l - h) (b := p') (by omega) (by omega) (by omega) (by omega)
      have n3 := M.mulabs 200 50 (a := l - h') (b := s) (by omega) (by omega) (by omega) (by omega)
      have n4 := M.mulabs 200 50 (a := l - h) (b := s') (by omega) (by omega) (by omega) (by omega)
      unfold M.tips M.meet
      by_cases hr : (M.rat ((l - h') * p - (l - h) * p') ((l - h) * s' - (l - h') * s)).2.2 = true
      · obtain ⟨r1, r2, r3, r4⟩ := M.rat_b hr
        generalize M.rat ((l - h') * p - (l - h) * p') ((l - h) * s' - (l - h') * s) = r at *
        obtain ⟨x, y, z⟩ := r
        simp only at *
        refine M.evp hr ?_
        rw [wkStill_eq h p s x y c d (by omega) (by omega), wkStill_eq h' p' s' x y c' d' (by omega) (by omega)]
        simp only [Option.bind_some, decide_eq_true_eq]
        have c1 := M.mulb 500 1000000 (a := p) (b := y) (by omega) (by omega) (by omega) (by omega)
        have c2 := M.mulabs 50 1000000 (a := s) (b := x) (by omega) (by omega) (by omega) (by omega)
        by_cases g1 : 0 ≤ p * y + s * x
        · refine M.evp g1 ?_
          by_cases g2 : 0 ≤ p' * y + s' * x
          · refine M.evp g2 ?_
            have c3 := M.mulb 1000000000 200 (a := p * y + s * x) (b := l) (by omega) (by omega) (by omega) (by omega)
            have c4 := M.mulb 1000000 200 (a := y) (b := l - h) (by omega) (by omega) (by omega) (by omega)
            have c5 : 0 < y * (l - h) := Int.mul_pos (by omega) (by omega)
            rw [M.wrap_id (n := p * y) (by omega) (by omega), M.wrap_id (n := s * x) (by omega) (by omega), M.wrap_id (n := p * y + s * x) (by omega) (by omega), M.wrap_id (n := (p * y + s * x) * l) (by omega) (by omega), M.wrap_id (n := y * (l - h)) (by omega) (by omega)]
            rw [if_pos (show z = true ∧ 0 ≤ p * y + s * x ∧ 0 ≤ p' * y + s' * x from ⟨hr, g1, g2⟩)]
            simp only [if_true]
            exact Ev.bind (clLow_ev _ _ (by omega) (by omega) (by omega) (by omega)) (Ev.now _)
          · rw [if_neg (show ¬ (z = true ∧ 0 ≤ p * y + s * x ∧ 0 ≤ p' * y + s' * x) from fun h => g2 h.2.2)]
            simp only [Bool.false_eq_true, if_false]
            exact M.evn g2 (Ev.now _)
        · rw [if_neg (show ¬ (z = true ∧ 0 ≤ p * y + s * x ∧ 0 ≤ p' * y + s' * x) from fun h => g1 h.2.1)]
          simp only [Bool.false_eq_true, if_false]
          exact M.evn g1 (Ev.now _)
      · have e0 : ∀ c : Prop, ¬ ((M.rat ((l - h') * p - (l - h) * p') ((l - h) * s' - (l - h') * s)).2.2 = true ∧ c) := fun c g => hr g.1
        simp only [if_neg (e0 _), Bool.false_eq_true, if_false]
        exact M.evn hr (Ev.now _)
    · rw [if_neg (fun h => hw' h.2)]
      simp only [hw', decide_false, Bool.not_false]
      exact spec_TipsMeet_j0_ev _ _ _ _ _ _ _ _ (M.evp rfl (Ev.now _))
  · rw [if_neg (fun h => hw h.1)]
    exact M.evn hw (spec_TipsMeet_j0_ev _ _ _ _ _ _ _ _ (M.evp rfl (Ev.now _)))
theorem iMeet_ev (l h p s h' p' s' : Int) : Ev (fun k => impl_WalkersMeet.f k l h p s h' p' s') (if M.Wk l h p s ∧ M.Wk l h' p' s' then M.meet p s p' s' (p - p') (s' - s) else (0, 0, false)) := by
  simp only [impl_WalkersMeet.f, IsWalker_eq, Option.bind_some, decide_eq_true_eq]
  by_cases hw : M.Wk l h p s
  · refine M.evp hw ?_
    by_cases hw' : M.Wk l h' p' s'
    · rw [if_pos ⟨hw, hw'⟩]
      have ⟨_, _, c, d⟩ := hw
      have ⟨_, _, c', d'⟩ := hw'
      have q := meet_ev h p s h' p' s' 1 1 c d c' d' (by omega) (by omega)
      rw [Int.one_mul, Int.one_mul, Int.one_mul, Int.one_mul] at q
      exact M.evp hw' (Ev.bind q (Ev.now _))
    · rw [if_neg (fun h => hw' h.2)]; exact M.evn hw' (Ev.now _)
  · rw [if_neg (fun h => hw h.1)]; exact M.evn hw (Ev.now _)
theorem spec_WalkersMeet_j0_ev (x21 : Bool) (x159000 : Int) (x159001 : Int) (x159002 : Int) (x160000 : Int) (x160001 : Int) (x160002 : Int) {r : (Int × Int × Bool)} (h : Ev (fun k => if x21 = true then (some (0, 0, false)) else ((spec_wkMeet.f k x159001 x160001 x159002 x160002).bind fun bt162 => (if bt162.2.2 = true then ((spec_wkStill.f x159000 x159001 x159002 bt162.1 bt162.2.1).bind fun t165 => (if t165 = true then (some (bt162.1, bt162.2.1, true)) else (some (0, 0, false)))) else (some (0, 0, false))))) r) : Ev (fun k => spec_WalkersMeet.j0 k x21 x159000 x159001 x159002 x160000 x160001 x160002) r := Ev.step (fun k => by simp only [spec_WalkersMeet.j0]) h
theorem sMeet_ev (l h p s h' p' s' : Int) : Ev (fun k => spec_WalkersMeet.f k l h p s h' p' s') (if M.Wk l h p s ∧ M.Wk l h' p' s' then M.meet p s p' s' (p - p') (s' - s) else (0, 0, false)) := by
  simp only [spec_WalkersMeet.f, wkGood_eq, Option.bind_some, decide_eq_true_eq]
  by_cases hw : M.Wk l h p s
  · refine M.evp hw ?_
    by_cases hw' : M.Wk l h' p' s'
    · rw [if_pos ⟨hw, hw'⟩]
      simp only [hw', decide_true, Bool.not_true]
      have ⟨_, _, c, d⟩ := hw
      have ⟨_, _, c', d'⟩ := hw'
      refine spec_WalkersMeet_j0_ev _ _ _ _ _ _ _ (M.evn (by simp) ?_)
      have e : M.rat (p' - p) (s - s') = M.rat (p - p') (s' - s) := by
        rw [← M.rat_neg]; congr 1 <;> omega
      have q := wkMeet_ev p p' s s' (by omega) (by omega) (by omega) (by omega)
      rw [e] at q
      refine Ev.bind q ?_
      unfold M.meet
      by_cases hr : (M.rat (p - p') (s' - s)).2.2 = true
      · obtain ⟨r1, r2, r3, r4⟩ := M.rat_b hr
        have hx := M.rat_cross hr
        generalize M.rat (p - p') (s' - s) = r at *
        obtain ⟨x, y, z⟩ := r
        simp only at *
        refine M.evp hr ?_
        rw [wkStill_eq h p s x y c d (by omega) (by omega)]
        simp only [Option.bind_some, decide_eq_true_eq]
        have e2 : p * y + s * x = p' * y + s' * x := by
          rw [Int.mul_sub, Int.sub_mul, Int.mul_comm x s', Int.mul_comm x s] at hx; omega
        by_cases g1 : 0 ≤ p * y + s * x
        · exact M.evr (if_pos ⟨hr, g1, by omega⟩) (M.evp g1 (Ev.now _))
        · exact M.evr (if_neg fun h => g1 h.2.1) (M.evn g1 (Ev.now _))
      · exact M.evr (if_neg fun h => hr h.1) (M.evn hr (Ev.now _))
    · rw [if_neg (fun h => hw' h.2)]
      simp only [hw', decide_false, Bool.not_false]
      exact spec_WalkersMeet_j0_ev _ _ _ _ _ _ _ (M.evp rfl (Ev.now _))
  · rw [if_neg (fun h => hw h.1)]
    exact M.evn hw (spec_WalkersMeet_j0_ev _ _ _ _ _ _ _ (M.evp rfl (Ev.now _)))
theorem laws_yLow_j0_ev (x5 : Int) (x6 : Int) {r : (Bool)} (h : Ev (fun k => laws_yLow.l0 k x5 x6) r) : Ev (fun k => laws_yLow.j0 k x5 x6) r := Ev.step (fun k => by simp only [laws_yLow.j0]) h
theorem laws_yLow_l0_ev (x5 : Int) (x6 : Int) {r : (Bool)} (h : Ev (fun k => if x6 > 0 then (if x6 = 0 then (none) else (laws_yLow.l0 k x6 (Int.tmod x5 x6))) else (some (x5 == 1))) r) : Ev (fun k => laws_yLow.l0 k x5 x6) r := Ev.step (fun k => by simp only [laws_yLow.l0]) h
theorem yLow_l0 : ∀ (k : Nat) (a b : Int), b.toNat < k → 0 ≤ a → 0 ≤ b → laws_yLow.l0 k a b = some (M.g a b == 1)
  | 0, _, _, h, _, _ => by omega
  | k + 1, a, b, h, h1, h2 => by
    simp only [laws_yLow.l0]
    by_cases hb : b = 0
    · subst hb
      have e : M.g a 0 = a := by rw [M.g_zero]; omega
      rw [if_neg (by omega), e]
    · have e : (Int.tmod a b).natAbs = a.natAbs % b.natAbs := Int.natAbs_tmod ..
      have lt : a.natAbs % b.natAbs < b.natAbs := Nat.mod_lt _ (by omega)
      have nn : 0 ≤ Int.tmod a b := Int.tmod_nonneg b h1
      rw [if_pos (by omega), if_neg hb, yLow_l0 k b (Int.tmod a b) (by omega) h2 nn, M.g_tmod]
theorem yLow_ev (a b : Int) (h1 : -9223372036854775807 ≤ a) (h2 : a ≤ 9223372036854775807) : Ev (fun k => laws_yLow.f k a b) (decide (1 ≤ b ∧ M.g a b = 1)) := by
  unfold laws_yLow.f
  by_cases hb : b < 1
  · refine M.evp hb ?_
    rw [decide_eq_false (fun h => by omega)]
    exact Ev.now _
  · refine M.evn hb ?_
    have e : decide (1 ≤ b ∧ M.g a b = 1) = (M.g a b == 1) := by
      by_cases hg : M.g a b = 1
      · rw [decide_eq_true ⟨by omega, hg⟩, hg]; rfl
      · rw [decide_eq_false (fun h => hg h.2)]; simp [hg]
    rw [e]
    by_cases ha : a < 0
    · refine M.evp ha ?_
      rw [M.wrap_id (n := -a) (by omega) (by omega)]
      refine laws_yLow_j0_ev _ _ ⟨b.toNat + 1, fun k hk => ?_⟩
      show laws_yLow.l0 k (-a) b = _
      rw [yLow_l0 k (-a) b (by omega) (by omega) (by omega), M.g_neg]
    · refine M.evn ha ?_
      refine laws_yLow_j0_ev _ _ ⟨b.toNat + 1, fun k hk => ?_⟩
      show laws_yLow.l0 k a b = _
      rw [yLow_l0 k a b (by omega) (by omega) (by omega)]
theorem yLow_true {a b : Int} (h1 : -9223372036854775807 ≤ a) (h2 : a ≤ 9223372036854775807) (hb : 0 < b) (hg : Int.gcd a b = 1) : Ev (fun k => laws_yLow.f k a b) true := by
  have := yLow_ev a b h1 h2
  rw [decide_eq_true ⟨by omega, by unfold M.g; rw [hg]; rfl⟩] at this
  exact this
theorem isMinute_eq (a : Int) : impl_isMinute.f a = some (decide (0 ≤ a ∧ a ≤ 60)) := by simp [impl_isMinute.f, within_eq]
theorem iPlaceAt_eq (l h p s m : Int) : impl_PlaceAt.f l h p s m = some (if M.PlOk l h p s m then (p + s * m, true) else (0, false)) := by
  simp only [impl_PlaceAt.f, IsWalker_eq, isMinute_eq, Option.bind_some, decide_eq_true_eq]
  by_cases hw : M.Wk l h p s
  · rw [if_pos hw]
    by_cases hm : 0 ≤ m ∧ m ≤ 60
    · have hb := M.pl_b hw hm
      have hp := hw.2.2.1
      rw [if_pos hm, M.wrap_id (n := s * m) (by omega) (by omega), M.wrap_id (n := p + s * m) (by omega) (by omega)]
      by_cases hn : p + s * m < 0
      · rw [if_pos hn, if_neg (fun h => by have := h.2.2; omega)]
      · rw [if_neg hn, if_pos ⟨hw, hm, by omega⟩]
    · rw [if_neg hm, if_neg (fun h => hm h.2.1)]
  · rw [if_neg hw, if_neg (fun h => hw h.1)]
theorem iInSh_eq (l h p s h' p' s' m : Int) : impl_IsInShadow.f l h p s h' p' s' m =
    some (if M.PlOk l h p s m ∧ M.PlOk l h' p' s' m then (decide (p + s * m < p' + s' * m ∧ h' * (p + s * m) ≤ l * (p + s * m) - (l - h) * (p' + s' * m)), true) else (false, false)) := by
  simp only [impl_IsInShadow.f, iPlaceAt_eq, Option.bind_some]
  by_cases k1 : M.PlOk l h p s m
  · by_cases k2 : M.PlOk l h' p' s' m
    · simp only [if_pos k1, if_pos k2, if_true]
      rw [if_pos (show M.PlOk l h p s m ∧ M.PlOk l h' p' s' m from ⟨k1, k2⟩)]
      have ⟨w1, w2, w3⟩ := k1
      have ⟨v1, v2, v3⟩ := k2
      have hb := M.pl_b w1 w2
      have hb' := M.pl_b v1 v2
      obtain ⟨⟨a1, a2⟩, ⟨b1, b2⟩, ⟨c1, c2⟩, d1, d2⟩ := w1
      obtain ⟨_, ⟨b1', b2'⟩, ⟨c1', c2'⟩, _, _⟩ := v1
      have m1 := M.mulb 200 3500 (a := h') (b := p + s * m) (by omega) (by omega) (by omega) (by omega)
      have m2 := M.mulb 200 3500 (a := l) (b := p + s * m) (by omega) (by omega) (by omega) (by omega)
      have m3 := M.mulb 200 3500 (a := l - h) (b := p' + s' * m) (by omega) (by omega) (by omega) (by omega)
      rw [M.wrap_id (n := h' * (p + s * m)) (by omega) (by omega), M.wrap_id (n := l * (p + s * m)) (by omega) (by omega), M.wrap_id (n := l - h) (by omega) (by omega), M.wrap_id (n := (l - h) * (p' + s' * m)) (by omega) (by omega), M.wrap_id (by omega) (by omega)]
      by_cases c : p' + s' * m > p + s * m
      · rw [if_pos c]
        have e : decide (p + s * m < p' + s' * m ∧ h' * (p + s * m) ≤ l * (p + s * m) - (l - h) * (p' + s' * m)) = decide (h' * (p + s * m) ≤ l * (p + s * m) - (l - h) * (p' + s' * m)) := by
          rw [decide_eq_decide]; exact ⟨fun h => h.2, fun h => ⟨c, h⟩⟩
        rw [e]
      · rw [if_neg c]
        have e : decide (p + s * m < p' + s' * m ∧ h' * (p + s * m) ≤ l * (p + s * m) - (l - h) * (p' + s' * m)) = false := decide_eq_false (fun h => c h.1)
        rw [e]
    · simp only [if_pos k1, if_neg k2, if_true, Bool.false_eq_true, if_false]
      rw [if_neg (show ¬ (M.PlOk l h p s m ∧ M.PlOk l h' p' s' m) from fun h => k2 h.2)]
  · simp only [if_neg k1, Bool.false_eq_true, if_false]
    rw [if_neg (show ¬ (M.PlOk l h p s m ∧ M.PlOk l h' p' s' m) from fun h => k1 h.1)]
theorem spec_wkPlace_j0_ev (x2 : Int) (x17 : Bool) (x177000 : Int) (x177001 : Int) (x177002 : Int) {r : (Int × Bool)} (h : Ev (fun k => if x17 = true then (some (0, false)) else (if (wrap64 (x177001 + (wrap64 (x177002 * x2)))) < 0 then (some (0, false)) else (some (wrap64 (x177001 + (wrap64 (x177002 * x2))), true)))) r) : Ev (fun k => spec_wkPlace.j0 k x2 x17 x177000 x177001 x177002) r := Ev.step (fun k => by simp only [spec_wkPlace.j0]) h
theorem wkPlace_ev (l h p s m : Int) : Ev (fun k => spec_wkPlace.f k l h p s m) (if M.PlOk l h p s m then (p + s * m, true) else (0, false)) := by
  simp only [spec_wkPlace.f, wkGood_eq, l1In_eq, Option.bind_some, decide_eq_true_eq]
  by_cases hw : M.Wk l h p s
  · refine M.evp hw ?_
    by_cases hm : 0 ≤ m ∧ m ≤ 60
    · have hb := M.pl_b hw hm
      have hp := hw.2.2.1
      refine Ev.step (f := fun _ => some (if M.PlOk l h p s m then (p + s * m, true) else (0, false))) (fun k => ?_) (Ev.now _)
      simp only [spec_wkPlace.j0, hm, and_self, decide_true, Bool.not_true, Bool.false_eq_true, if_false]
      rw [M.wrap_id (n := s * m) (by omega) (by omega), M.wrap_id (n := p + s * m) (by omega) (by omega)]
      by_cases hn : p + s * m < 0
      · rw [if_pos hn, if_neg (fun h => by have := h.2.2; omega)]
      · rw [if_neg hn, if_pos ⟨hw, hm, by omega⟩]
    · rw [if_neg (fun h => hm h.2.1)]
      refine Ev.step (f := fun _ => some (0, false)) (fun k => ?_) (Ev.now _)
      simp [spec_wkPlace.j0, hm]
  · refine M.evn hw ?_
    rw [if_neg (fun h => hw h.1)]
    refine Ev.step (f := fun _ => some (0, false)) (fun k => ?_) (Ev.now _)
    simp [spec_wkPlace.j0]
theorem sInSh_ev (l h p s h' p' s' m : Int) : Ev (fun k => spec_IsInShadow.f k l h p s h' p' s' m)
    (if M.PlOk l h p s m ∧ M.PlOk l h' p' s' m then (decide (p + s * m < p' + s' * m ∧ h' * (p + s * m) ≤ l * (p + s * m) - (l - h) * (p' + s' * m)), true) else (false, false)) := by
  unfold spec_IsInShadow.f
  have q1 := wkPlace_ev l h p s m
  have q2 := wkPlace_ev l h' p' s' m
  refine Ev.bind q1 (Ev.bind q2 ?_)
  by_cases k1 : M.PlOk l h p s m
  · by_cases k2 : M.PlOk l h' p' s' m
    · simp only [if_pos k1, if_pos k2, if_true]
      rw [if_pos (show M.PlOk l h p s m ∧ M.PlOk l h' p' s' m from ⟨k1, k2⟩)]
      have ⟨w1, w2, w3⟩ := k1
      have ⟨v1, v2, v3⟩ := k2
      have hb := M.pl_b w1 w2
      have hb' := M.pl_b v1 v2
      obtain ⟨⟨a1, a2⟩, ⟨b1, b2⟩, ⟨c1, c2⟩, d1, d2⟩ := w1
      obtain ⟨_, ⟨b1', b2'⟩, ⟨c1', c2'⟩, _, _⟩ := v1
      have m1 := M.mulb 200 3500 (a := h') (b := p + s * m) (by omega) (by omega) (by omega) (by omega)
      have m2 := M.mulb 200 3500 (a := l) (b := p + s * m) (by omega) (by omega) (by omega) (by omega)
      have m3 := M.mulb 200 3500 (a := l - h) (b := p' + s' * m) (by omega) (by omega) (by omega) (by omega)
      rw [M.wrap_id (n := h' * (p + s * m)) (by omega) (by omega), M.wrap_id (n := l * (p + s * m)) (by omega) (by omega), M.wrap_id (n := l - h) (by omega) (by omega), M.wrap_id (n := (l - h) * (p' + s' * m)) (by omega) (by omega), M.wrap_id (by omega) (by omega)]
      by_cases c : p' + s' * m > p + s * m
      · refine M.evp c ?_
        have e : decide (p + s * m < p' + s' * m ∧ h' * (p + s * m) ≤ l * (p + s * m) - (l - h) * (p' + s' * m)) = decide (h' * (p + s * m) ≤ l * (p + s * m) - (l - h) * (p' + s' * m)) := by
          rw [decide_eq_decide]; exact ⟨fun h => h.2, fun h => ⟨c, h⟩⟩
        rw [e]; exact Ev.now _
      · refine M.evn c ?_
        have e : decide (p + s * m < p' + s' * m ∧ h' * (p + s * m) ≤ l * (p + s * m) - (l - h) * (p' + s' * m)) = false := decide_eq_false (fun h => c h.1)
        rw [e]; exact Ev.now _
    · simp only [if_pos k1, if_neg k2, if_true, Bool.false_eq_true, if_false]
      rw [if_neg (show ¬ (M.PlOk l h p s m ∧ M.PlOk l h' p' s' m) from fun h => k2 h.2)]; exact Ev.now _
  · simp only [if_neg k1, Bool.false_eq_true, if_false]
    rw [if_neg (show ¬ (M.PlOk l h p s m ∧ M.PlOk l h' p' s' m) from fun h => k1 h.1)]; exact Ev.now _
theorem isPlace_eq (a : Int) : impl_isPlace.f a = some (decide (1 ≤ a ∧ a ≤ 500)) := by simp [impl_isPlace.f, within_eq]
theorem areBetween_eq (w l r h : Int) : impl_areBetween.f w l r h = some (decide (M.Tw w l r h)) := by
  simp only [impl_areBetween.f, isPlace_eq, isLamp_eq, within_eq, Option.bind_some, decide_eq_true_eq]
  by_cases h1 : 1 ≤ w ∧ w ≤ 500
  · by_cases h2 : 2 ≤ l ∧ l ≤ 200
    · by_cases h3 : 2 ≤ r ∧ r ≤ 200
      · rw [if_pos h1, if_pos h2, if_pos h3]
        have e : wrap64 (mn l r - 1) = mn l r - 1 := M.wrap_id (by unfold mn; omega) (by unfold mn; omega)
        rw [e]
        congr 1
        apply decide_eq_decide.2
        unfold M.Tw mn
        omega
      · rw [if_pos h1, if_pos h2, if_neg h3]; simp [M.Tw, h3]
    · rw [if_pos h1, if_neg h2]; simp [M.Tw, h2]
  · rw [if_neg h1]; simp [M.Tw, h1]
theorem iSumSh_ev (w l r p h : Int) : Ev (fun k => impl_SumOfShadows.f k w l r p h) (if M.Tw w l r h ∧ 0 ≤ p ∧ p ≤ w then (M.l1 (h * (p * (r - h) + (w - p) * (l - h))) ((l - h) * (r - h)), M.l2 (h * (p * (r - h) + (w - p) * (l - h))) ((l - h) * (r - h)), true) else (0, 0, false)) := by
  simp only [impl_SumOfShadows.f, areBetween_eq, within_eq, Option.bind_some, decide_eq_true_eq]
  by_cases ht : M.Tw w l r h
  · refine M.evp ht ?_
    by_cases hp : 0 ≤ p ∧ p ≤ w
    · refine M.evp hp ?_
      rw [if_pos ⟨ht, hp⟩]
      obtain ⟨h1, h2, h3, h4, h5, h6⟩ := ht
      have b1 := M.mulb 500 200 (a := p) (b := r - h) (by omega) (by omega) (by omega) (by omega)
      have b2 := M.mulb 500 200 (a := w - p) (b := l - h) (by omega) (by omega) (by omega) (by omega)
      have b3 := M.mulb 200 200000 (a := h) (b := p * (r - h) + (w - p) * (l - h)) (by omega) (by omega) (by omega) (by omega)
      have b4 := M.mulb 200 200 (a := l - h) (b := r - h) (by omega) (by omega) (by omega) (by omega)
      have b5 : 0 < (l - h) * (r - h) := Int.mul_pos (by omega) (by omega)
      rw [M.wrap_id (n := r - h) (by omega) (by omega), M.wrap_id (n := p * (r - h)) (by omega) (by omega), M.wrap_id (n := w - p) (by omega) (by omega), M.wrap_id (n := l - h) (by omega) (by omega), M.wrap_id (n := (w - p) * (l - h)) (by omega) (by omega),
        M.wrap_id (n := p * (r - h) + (w - p) * (l - h)) (by omega) (by omega), M.wrap_id (n := h * (p * (r - h) + (w - p) * (l - h))) (by omega) (by omega), M.wrap_id (n := (l - h) * (r - h)) (by omega) (by omega)]
      exact Ev.bind (fraction_ev _ _ (by omega) (by omega) (by omega) (by omega)) (Ev.now _)
    · rw [if_neg (fun h => hp h.2)]; exact M.evn hp (Ev.now _)
  · rw [if_neg (fun h => ht h.1)]; exact M.evn ht (Ev.now _)
theorem l1Least_eq (a b : Int) : spec_l1Least.f a b = some (if a < b then a else b) := by unfold spec_l1Least.f; split <;> rfl
theorem wkTwo_eq (w l r h : Int) : spec_wkTwo.f w l r h = some (decide (M.Tw w l r h)) := by
  simp only [spec_wkTwo.f, l1In_eq, swLamp_eq, l1Least_eq, Option.bind_some, decide_eq_true_eq]
  by_cases h1 : 1 ≤ w ∧ w ≤ 500
  · by_cases h2 : 2 ≤ l ∧ l ≤ 200
    · by_cases h3 : 2 ≤ r ∧ r ≤ 200
      · rw [if_pos h1, if_pos h2, if_pos h3]
        have e : wrap64 ((if l < r then l else r) - 1) = (if l < r then l else r) - 1 := M.wrap_id (by split <;> omega) (by split <;> omega)
        rw [e]
        congr 1
        apply decide_eq_decide.2
        unfold M.Tw
        split <;> omega
      · rw [if_pos h1, if_pos h2, if_neg h3]; simp [M.Tw, h3]
    · rw [if_pos h1, if_neg h2]; simp [M.Tw, h2]
  · rw [if_neg h1]; simp [M.Tw, h1]
theorem sSumSh_ev (w l r p h : Int) : Ev (fun k => spec_SumOfShadows.f k w l r p h) (if M.Tw w l r h ∧ 0 ≤ p ∧ p ≤ w then (M.l1 (h * (p * (r - h) + (w - p) * (l - h))) ((l - h) * (r - h)), M.l2 (h * (p * (r - h) + (w - p) * (l - h))) ((l - h) * (r - h)), true) else (0, 0, false)) := by
  simp only [spec_SumOfShadows.f, wkTwo_eq, l1In_eq, Option.bind_some, decide_eq_true_eq]
  by_cases ht : M.Tw w l r h
  · refine M.evp ht ?_
    by_cases hp : 0 ≤ p ∧ p ≤ w
    · refine M.evp hp ?_
      rw [if_pos ⟨ht, hp⟩]
      obtain ⟨h1, h2, h3, h4, h5, h6⟩ := ht
      have b1 := M.mulb 500 200 (a := p) (b := r - h) (by omega) (by omega) (by omega) (by omega)
      have b2 := M.mulb 500 200 (a := w - p) (b := l - h) (by omega) (by omega) (by omega) (by omega)
      have b3 := M.mulb 200 200000 (a := h) (b := p * (r - h) + (w - p) * (l - h)) (by omega) (by omega) (by omega) (by omega)
      have b4 := M.mulb 200 200 (a := l - h) (b := r - h) (by omega) (by omega) (by omega) (by omega)
      have b5 : 0 < (l - h) * (r - h) := Int.mul_pos (by omega) (by omega)
      rw [M.wrap_id (n := r - h) (by omega) (by omega), M.wrap_id (n := p * (r - h)) (by omega) (by omega), M.wrap_id (n := w - p) (by omega) (by omega), M.wrap_id (n := l - h) (by omega) (by omega), M.wrap_id (n := (w - p) * (l - h)) (by omega) (by omega),
        M.wrap_id (n := p * (r - h) + (w - p) * (l - h)) (by omega) (by omega), M.wrap_id (n := h * (p * (r - h) + (w - p) * (l - h))) (by omega) (by omega), M.wrap_id (n := (l - h) * (r - h)) (by omega) (by omega)]
      exact Ev.bind (clLow_ev _ _ (by omega) (by omega) (by omega) (by omega)) (Ev.now _)
    · rw [if_neg (fun h => hp h.2)]; exact M.evn hp (Ev.now _)
  · rw [if_neg (fun h => ht h.1)]; exact M.evn ht (Ev.now _)
theorem iEqualPlace_ev (w l r h : Int) : Ev (fun k => impl_EqualPlace.f k w l r h) (if M.Tw w l r h then (M.l1 (w * (l - h)) (l + r - 2 * h), M.l2 (w * (l - h)) (l + r - 2 * h), true) else (0, 0, false)) := by
  simp only [impl_EqualPlace.f, areBetween_eq, Option.bind_some, decide_eq_true_eq]
  by_cases ht : M.Tw w l r h
  · refine M.evp ht ?_
    rw [if_pos ht]
    obtain ⟨h1, h2, h3, h4, h5, h6⟩ := ht
    have hb := M.mulb 500 200 (a := w) (b := l - h) (by omega) (by omega) (by omega) (by omega)
    rw [M.wrap_id (n := l - h) (by omega) (by omega), M.wrap_id (n := w * (l - h)) (by omega) (by omega), M.wrap_id (n := l + r) (by omega) (by omega), M.wrap_id (n := 2 * h) (by omega) (by omega), M.wrap_id (by omega) (by omega)]
    exact Ev.bind (fraction_ev _ _ (by omega) (by omega) (by omega) (by omega)) (Ev.now _)
  · rw [if_neg ht]; exact M.evn ht (Ev.now _)
theorem sEqualPlace_ev (w l r h : Int) : Ev (fun k => spec_EqualPlace.f k w l r h) (if M.Tw w l r h then (M.l1 (w * (l - h)) (l + r - 2 * h), M.l2 (w * (l - h)) (l + r - 2 * h), true) else (0, 0, false)) := by
  simp only [spec_EqualPlace.f, wkTwo_eq, Option.bind_some, decide_eq_true_eq]
  by_cases ht : M.Tw w l r h
  · refine M.evp ht ?_
    rw [if_pos ht]
    obtain ⟨h1, h2, h3, h4, h5, h6⟩ := ht
    have hb := M.mulb 500 200 (a := w) (b := l - h) (by omega) (by omega) (by omega) (by omega)
    rw [M.wrap_id (n := l - h) (by omega) (by omega), M.wrap_id (n := w * (l - h)) (by omega) (by omega), M.wrap_id (n := l + r) (by omega) (by omega), M.wrap_id (n := 2 * h) (by omega) (by omega), M.wrap_id (by omega) (by omega)]
    exact Ev.bind (clLow_ev _ _ (by omega) (by omega) (by omega) (by omega)) (Ev.now _)
  · rw [if_neg ht]; exact M.evn ht (Ev.now _)
theorem iConst_ev (w l h : Int) : Ev (fun k => impl_ConstantSum.f k w l h) (if M.Tw w l l h ∧ (0 : Int) ≤ 0 ∧ 0 ≤ w then (M.l1 (h * (0 * (l - h) + (w - 0) * (l - h))) ((l - h) * (l - h)), M.l2 (h * (0 * (l - h) + (w - 0) * (l - h))) ((l - h) * (l - h)), true) else (0, 0, false)) := by
  unfold impl_ConstantSum.f
  exact Ev.bind (iSumSh_ev w l l 0 h) (Ev.now _)
theorem sConst_ev (w l h : Int) : Ev (fun k => spec_ConstantSum.f k w l h) (if M.Tw w l l h ∧ (0 : Int) ≤ 0 ∧ 0 ≤ w then (M.l1 (h * (0 * (l - h) + (w - 0) * (l - h))) ((l - h) * (l - h)), M.l2 (h * (0 * (l - h) + (w - 0) * (l - h))) ((l - h) * (l - h)), true) else (0, 0, false)) := by
  unfold spec_ConstantSum.f
  exact Ev.bind (sSumSh_ev w l l 0 h) (Ev.now _)
theorem yIs_true {a b x y : Int} (h1 : -9223372036854775807 ≤ a) (h2 : a ≤ 9223372036854775807) (hb : 0 < b) (hg : Int.gcd a b = 1) (he : a * y = x * b) : Ev (fun k => laws_yIs.f k a b x y) true := by
  unfold laws_yIs.f
  refine Ev.bind (yLow_true h1 h2 hb hg) (M.evp rfl ?_)
  rw [he]
  simp only [beq_self_eq_true]
  exact Ev.now _
theorem l1Most_eq (a b : Int) : spec_l1Most.f a b = some (if a > b then a else b) := by unfold spec_l1Most.f; split <;> rfl
def S5 (w l r p h : Int) : Int × Int × Bool := if M.Tw w l r h ∧ 0 ≤ p ∧ p ≤ w then (M.l1 (h * (p * (r - h) + (w - p) * (l - h))) ((l - h) * (r - h)), M.l2 (h * (p * (r - h) + (w - p) * (l - h))) ((l - h) * (r - h)), true) else (0, 0, false)
def E7 (w l r h : Int) : Int × Int × Bool := if M.Tw w l r h then (M.l1 (w * (l - h)) (l + r - 2 * h), M.l2 (w * (l - h)) (l + r - 2 * h), true) else (0, 0, false)
def N9 (w l h : Int) : Int × Int × Bool := if M.Tw w l l h ∧ (0 : Int) ≤ 0 ∧ 0 ≤ w then (M.l1 (h * (0 * (l - h) + (w - 0) * (l - h))) ((l - h) * (l - h)), M.l2 (h * (0 * (l - h) + (w - 0) * (l - h))) ((l - h) * (l - h)), true) else (0, 0, false)
def I3 (l h p s h' p' s' m : Int) : Bool × Bool := if M.PlOk l h p s m ∧ M.PlOk l h' p' s' m then (decide (p + s * m < p' + s' * m ∧ h' * (p + s * m) ≤ l * (p + s * m) - (l - h) * (p' + s' * m)), true) else (false, false)
def T5 (l h p s h' p' s' : Int) : Int × Int × Int × Int × Bool := if M.Wk l h p s ∧ M.Wk l h' p' s' then M.tips l h p s h' p' s' else (0, 0, 0, 0, false)
def M3 (l h p s h' p' s' : Int) : Int × Int × Bool := if M.Wk l h p s ∧ M.Wk l h' p' s' then M.meet p s p' s' (p - p') (s' - s) else (0, 0, false)
theorem n9_eq {w l h : Int} (c9 : M.Tw w l l h ∧ (0 : Int) ≤ 0 ∧ 0 ≤ w) : N9 w l h = (M.l1 (h * w) (l - h), M.l2 (h * w) (l - h), true) := by
  have hp : 0 < l - h := by have := c9.1; unfold M.Tw at this; omega
  unfold N9
  rw [if_pos c9]
  have e : h * (0 * (l - h) + (w - 0) * (l - h)) = (l - h) * (h * w) := by
    rw [Int.zero_mul, Int.zero_add, Int.sub_zero, ← Int.mul_assoc, Int.mul_comm]
  have := M.l_scale (a := h * w) hp hp
  rw [e, this.1, this.2]
theorem ex {α : Type} {g : Nat → Option α} {r : α} (h : Ev g r) : ∃ k, g k = some r := by
  obtain ⟨K, h⟩ := h
  exact ⟨K, h K (Nat.le_refl _)⟩
theorem if_no {α : Type} {c : Prop} [Decidable c] {a b : α} (f : α → Bool) (ha : f a = true) (h : f (if c then a else b) = false) : (if c then a else b) = b := by
  by_cases hc : c
  · rw [if_pos hc, ha] at h; cases h
  · exact if_neg hc
theorem if_yes {α : Type} {c : Prop} [Decidable c] {a b : α} (f : α → Bool) (hb : f b = false) (h : f (if c then a else b) = true) : c := by
  by_cases hc : c
  · exact hc
  · rw [if_neg hc, hb] at h; cases h
theorem tips_no {l h p s h' p' s' : Int} (h0 : (M.tips l h p s h' p' s').2.2.2.2 = false) : M.tips l h p s h' p' s' = (0, 0, 0, 0, false) := if_no (fun x => x.2.2.2.2) rfl h0
theorem meet_no {p s p' s' n d : Int} (h0 : (M.meet p s p' s' n d).2.2 = false) : M.meet p s p' s' n d = (0, 0, false) := if_no (fun x => x.2.2) rfl h0
theorem S5_yes {w l r p h : Int} (h5 : (S5 w l r p h).2.2 = true) : M.Tw w l r h ∧ 0 ≤ p ∧ p ≤ w := if_yes (fun x : Int × Int × Bool => x.2.2) rfl h5
theorem E7_yes {w l r h : Int} (h5 : (E7 w l r h).2.2 = true) : M.Tw w l r h := if_yes (fun x : Int × Int × Bool => x.2.2) rfl h5
theorem N9_yes {w l h : Int} (h5 : (N9 w l h).2.2 = true) : M.Tw w l l h ∧ (0 : Int) ≤ 0 ∧ 0 ≤ w := if_yes (fun x : Int × Int × Bool => x.2.2) rfl h5
/-- The tips. -/
theorem tipsPart (L ah ap az bh bp bs : Int) : ∃ (n d x y : Int) (b : Bool), Ev (fun k => impl_TipsMeet.f k L ah ap az bh bp bs) (n, d, x, y, b) ∧ Ev (fun k => spec_TipsMeet.f k L ah ap az bh bp bs) (n, d, x, y, b) ∧ T5 L ah ap az bh bp bs = (n, d, x, y, b) ∧
    (b = true → Ev (fun k => impl_TipsMeet.f k L bh bp bs ah ap az) (n, d, x, y, true) ∧ Ev (fun k => laws_yLow.f k n d) true ∧ Ev (fun k => laws_yLow.f k x y) true ∧
      ¬ n < 0 ∧ ¬ wrap64 (wrap64 (ap * d) + wrap64 (az * n)) < 0 ∧ ¬ wrap64 (wrap64 (bp * d) + wrap64 (bs * n)) < 0 ∧
      wrap64 (wrap64 (wrap64 (wrap64 (ap * d) + wrap64 (az * n)) * L) * y) = wrap64 (wrap64 (x * d) * wrap64 (L - ah)) ∧
      wrap64 (wrap64 (wrap64 (wrap64 (bp * d) + wrap64 (bs * n)) * L) * y) = wrap64 (wrap64 (x * d) * wrap64 (L - bh))) := by
  have hi : Ev (fun k => impl_TipsMeet.f k L ah ap az bh bp bs) (T5 L ah ap az bh bp bs) := iTips_ev L ah ap az bh bp bs
  have hs : Ev (fun k => spec_TipsMeet.f k L ah ap az bh bp bs) (T5 L ah ap az bh bp bs) := sTips_ev L ah ap az bh bp bs
  have rev : Ev (fun k => impl_TipsMeet.f k L bh bp bs ah ap az) (T5 L bh bp bs ah ap az) := iTips_ev L bh bp bs ah ap az
  by_cases hw : M.Wk L ah ap az ∧ M.Wk L bh bp bs
  · have e1 : T5 L ah ap az bh bp bs = M.tips L ah ap az bh bp bs := if_pos hw
    have e2 : T5 L bh bp bs ah ap az = M.tips L bh bp bs ah ap az := if_pos ⟨hw.2, hw.1⟩
    rw [e2] at rev
    rw [e1] at hi hs ⊢
    by_cases ho : (M.tips L ah ap az bh bp bs).2.2.2.2 = true
    · obtain ⟨n, d, x, y, e, er, ⟨n1, n2⟩, ⟨d1, d2⟩, hg, ⟨x1, x2⟩, ⟨y1, y2⟩, hg2, ⟨P1, P2⟩, ⟨Q1, Q2⟩, k1, k2⟩ := M.tips_facts hw.1 hw.2 ho
      rw [e] at hi hs ⊢
      rw [er] at rev
      refine ⟨n, d, x, y, true, hi, hs, rfl, fun _ => ⟨rev, yLow_true (by omega) (by omega) d1 hg, yLow_true (by omega) (by omega) y1 hg2, ?_⟩⟩
      obtain ⟨⟨a1, a2⟩, ⟨b1, b2⟩, ⟨c1, c2⟩, f1, f2⟩ := hw.1
      obtain ⟨_, ⟨b1', b2'⟩, ⟨c1', c2'⟩, f1', f2'⟩ := hw.2
      have q1 := M.mulb 500 100000 (a := ap) (b := d) (by omega) (by omega) (by omega) (by omega)
      have q2 := M.mulb 500 100000 (a := bp) (b := d) (by omega) (by omega) (by omega) (by omega)
      have q3 := M.mulabs 50 1000000 (a := az) (b := n) (by omega) (by omega) (by omega) (by omega)
      have q4 := M.mulabs 50 1000000 (a := bs) (b := n) (by omega) (by omega) (by omega) (by omega)
      rw [M.wrap_id (n := ap * d) (by omega) (by omega), M.wrap_id (n := az * n) (by omega) (by omega), M.wrap_id (n := bp * d) (by omega) (by omega), M.wrap_id (n := bs * n) (by omega) (by omega), M.wrap_id (n := ap * d + az * n) (by omega) (by omega), M.wrap_id (n := bp * d + bs * n) (by omega) (by omega), M.wrap_id (n := L - ah) (by omega) (by omega), M.wrap_id (n := L - bh) (by omega) (by omega)]
      have q5 := M.mulb 100000000 200 (a := ap * d + az * n) (b := L) (by omega) (by omega) (by omega) (by omega)
      have q6 := M.mulb 100000000 200 (a := bp * d + bs * n) (b := L) (by omega) (by omega) (by omega) (by omega)
      have q7 := M.mulb 100000000000 100000 (a := x) (b := d) (by omega) (by omega) (by omega) (by omega)
      rw [M.wrap_id (n := (ap * d + az * n) * L) (by omega) (by omega), M.wrap_id (n := (bp * d + bs * n) * L) (by omega) (by omega), M.wrap_id (n := x * d) (by omega) (by omega)]
      exact ⟨by omega, by omega, by omega, by rw [k1], by rw [k2]⟩
    · have e0 := tips_no (Bool.eq_false_iff.2 ho)
      rw [e0] at hi hs ⊢
      exact ⟨0, 0, 0, 0, false, hi, hs, rfl, fun h => by cases h⟩
  · have e1 : T5 L ah ap az bh bp bs = (0, 0, 0, 0, false) := if_neg hw
    rw [e1] at hi hs ⊢
    exact ⟨0, 0, 0, 0, false, hi, hs, rfl, fun h => by cases h⟩
/-- Who meet. -/
theorem meetPart (L ah ap az bh bp bs : Int) : ∃ (n d : Int) (b : Bool), Ev (fun k => impl_WalkersMeet.f k L ah ap az bh bp bs) (n, d, b) ∧ Ev (fun k => spec_WalkersMeet.f k L ah ap az bh bp bs) (n, d, b) ∧ M3 L ah ap az bh bp bs = (n, d, b) ∧
    (b = true → Ev (fun k => laws_yLow.f k n d) true ∧ ¬ n < 0 ∧ wrap64 (wrap64 (ap * d) + wrap64 (az * n)) = wrap64 (wrap64 (bp * d) + wrap64 (bs * n)) ∧ ¬ wrap64 (wrap64 (ap * d) + wrap64 (az * n)) < 0) := by
  have hi : Ev (fun k => impl_WalkersMeet.f k L ah ap az bh bp bs) (M3 L ah ap az bh bp bs) := iMeet_ev L ah ap az bh bp bs
  have hs : Ev (fun k => spec_WalkersMeet.f k L ah ap az bh bp bs) (M3 L ah ap az bh bp bs) := sMeet_ev L ah ap az bh bp bs
  by_cases hw : M.Wk L ah ap az ∧ M.Wk L bh bp bs
  · have e1 : M3 L ah ap az bh bp bs = M.meet ap az bp bs (ap - bp) (bs - az) := if_pos hw
    rw [e1] at hi hs ⊢
    by_cases ho : (M.meet ap az bp bs (ap - bp) (bs - az)).2.2 = true
    · obtain ⟨n, d, e, ⟨n1, n2⟩, ⟨d1, d2⟩, hg, hx, h0, h8⟩ := M.meet_facts hw.1 hw.2 ho
      rw [e] at hi hs ⊢
      refine ⟨n, d, true, hi, hs, rfl, fun _ => ⟨yLow_true (by omega) (by omega) d1 hg, ?_⟩⟩
      obtain ⟨⟨a1, a2⟩, ⟨b1, b2⟩, ⟨c1, c2⟩, f1, f2⟩ := hw.1
      obtain ⟨_, ⟨b1', b2'⟩, ⟨c1', c2'⟩, f1', f2'⟩ := hw.2
      have q1 := M.mulb 500 1000 (a := ap) (b := d) (by omega) (by omega) (by omega) (by omega)
      have q2 := M.mulb 500 1000 (a := bp) (b := d) (by omega) (by omega) (by omega) (by omega)
      have q3 := M.mulabs 50 1000 (a := az) (b := n) (by omega) (by omega) (by omega) (by omega)
      have q4 := M.mulabs 50 1000 (a := bs) (b := n) (by omega) (by omega) (by omega) (by omega)
      rw [M.wrap_id (n := ap * d) (by omega) (by omega), M.wrap_id (n := az * n) (by omega) (by omega), M.wrap_id (n := bp * d) (by omega) (by omega), M.wrap_id (n := bs * n) (by omega) (by omega), M.wrap_id (n := ap * d + az * n) (by omega) (by omega), M.wrap_id (n := bp * d + bs * n) (by omega) (by omega)]
      exact ⟨by omega, hx, by omega⟩
    · have e0 := meet_no (Bool.eq_false_iff.2 ho)
      rw [e0] at hi hs ⊢
      exact ⟨0, 0, false, hi, hs, rfl, fun h => by cases h⟩
  · have e1 : M3 L ah ap az bh bp bs = (0, 0, false) := if_neg hw
    rw [e1] at hi hs ⊢
    exact ⟨0, 0, false, hi, hs, rfl, fun h => by cases h⟩
/-- Who are as high. -/
theorem flatPart {L ah ap az bh bp bs n d x y n' d' : Int} {b b' : Bool} (h1 : T5 L ah ap az bh bp bs = (n, d, x, y, b)) (h2 : M3 L ah ap az bh bp bs = (n', d', b')) (ha : M.Wk L ah ap az) (hb : M.Wk L bh bp bs) (hh : ah = bh) : b = b' ∧ n = n' ∧ d = d' := by
  subst hh
  have e1 : T5 L ah ap az ah bp bs = M.tips L ah ap az ah bp bs := if_pos ⟨ha, hb⟩
  have e2 : M3 L ah ap az ah bp bs = M.meet ap az bp bs (ap - bp) (bs - az) := if_pos ⟨ha, hb⟩
  obtain ⟨f1, f2, f3⟩ := M.tips_flat ha hb
  rw [← e1, h1, ← e2, h2] at f1 f2 f3
  exact ⟨f3, f1, f2⟩
/-- Who is in a shadow. -/
theorem inPart (g ch cp cs dh dp ds m : Int) : ∃ is b : Bool, impl_IsInShadow.f g ch cp cs dh dp ds m = some (is, b) ∧ Ev (fun k => spec_IsInShadow.f k g ch cp cs dh dp ds m) (is, b) ∧
    ∃ P Q : Int, (b = true → impl_PlaceAt.f g ch cp cs m = some (P, true) ∧ impl_PlaceAt.f g dh dp ds m = some (Q, true) ∧
      (P < Q → is = decide (wrap64 (dh * P) ≤ wrap64 (wrap64 (g * P) - wrap64 (wrap64 (g - ch) * Q)))) ∧ (¬ P < Q → is = false) ∧ (is = true → P ≠ 0 ∧ impl_IsInShadow.f g dh dp ds ch cp cs m = some (false, true))) := by
  have hi := iInSh_eq g ch cp cs dh dp ds m
  have hs := sInSh_ev g ch cp cs dh dp ds m
  by_cases c : M.PlOk g ch cp cs m ∧ M.PlOk g dh dp ds m
  · rw [if_pos c] at hi hs
    refine ⟨_, true, hi, hs, cp + cs * m, dp + ds * m, fun _ => ?_⟩
    have hb := M.pl_b c.1.1 c.1.2.1
    have hb' := M.pl_b c.2.1 c.2.2.1
    have n1 := c.1.2.2
    have n2 := c.2.2.2
    refine ⟨by rw [iPlaceAt_eq, if_pos c.1], by rw [iPlaceAt_eq, if_pos c.2], ?_⟩
    have hrev : cp + cs * m < dp + ds * m → impl_IsInShadow.f g dh dp ds ch cp cs m = some (false, true) := fun hx => by
      rw [iInSh_eq, if_pos ⟨c.2, c.1⟩, decide_eq_false (fun hx' => by have := hx'.1; omega)]
    obtain ⟨⟨a1, a2⟩, ⟨b1, b2⟩, ⟨c1, c2⟩, d1, d2⟩ := c.1.1
    obtain ⟨_, ⟨b1', b2'⟩, ⟨c1', c2'⟩, _, _⟩ := c.2.1
    have p1 : cp + cs * m ≤ 3500 := by omega
    have p2 : dp + ds * m ≤ 3500 := by omega
    generalize cp + cs * m = P at *
    generalize dp + ds * m = Q at *
    have m1 := M.mulb 200 3500 (a := dh) (b := P) (by omega) (by omega) (by omega) (by omega)
    have m2 := M.mulb 200 3500 (a := g) (b := P) (by omega) (by omega) (by omega) (by omega)
    have m3 := M.mulb 200 3500 (a := g - ch) (b := Q) (by omega) (by omega) (by omega) (by omega)
    rw [M.wrap_id (n := dh * P) (by omega) (by omega), M.wrap_id (n := g * P) (by omega) (by omega), M.wrap_id (n := g - ch) (by omega) (by omega), M.wrap_id (n := (g - ch) * Q) (by omega) (by omega), M.wrap_id (n := g * P - (g - ch) * Q) (by omega) (by omega)]
    refine ⟨fun hq => by rw [decide_eq_decide]; exact ⟨fun hx => hx.2, fun hx => ⟨hq, hx⟩⟩, fun hq => decide_eq_false (fun hx => hq hx.1), fun hi => ?_⟩
    have hi := of_decide_eq_true hi
    refine ⟨fun h0 => ?_, hrev hi.1⟩
    have hpos := Int.mul_pos (show 0 < g - ch by omega) (show 0 < Q by omega)
    subst h0
    have := hi.2
    simp at this
    omega
  · rw [if_neg c] at hi hs
    exact ⟨false, false, hi, hs, 0, 0, fun h => by cases h⟩
/-- Two lamps. -/
theorem sumPart (w l r p h : Int) : ∃ (n5 d5 : Int) (b5 : Bool) (n7 d7 : Int) (b7 : Bool) (n9 d9 : Int) (b9 : Bool),
    Ev (fun k => impl_SumOfShadows.f k w l r p h) (n5, d5, b5) ∧ Ev (fun k => spec_SumOfShadows.f k w l r p h) (n5, d5, b5) ∧ Ev (fun k => impl_EqualPlace.f k w l r h) (n7, d7, b7) ∧ Ev (fun k => spec_EqualPlace.f k w l r h) (n7, d7, b7) ∧
    Ev (fun k => impl_ConstantSum.f k w l h) (n9, d9, b9) ∧ Ev (fun k => spec_ConstantSum.f k w l h) (n9, d9, b9) ∧ (b5 = true → b7 = true) ∧ (b7 = true → b9 = true) ∧
    (b5 = true → Ev (fun k => laws_yIs.f k n5 d5 (wrap64 (h * wrap64 (wrap64 (p * wrap64 (r - h)) + wrap64 (wrap64 (w - p) * wrap64 (l - h))))) (wrap64 (wrap64 (l - h) * wrap64 (r - h)))) true) ∧
    (b7 = true → Ev (fun k => laws_yLow.f k n7 d7) true ∧ ¬ n7 < 0 ∧ ¬ wrap64 (w * d7) < n7 ∧ wrap64 (n7 * wrap64 (r - h)) = wrap64 (wrap64 (wrap64 (w * d7) - n7) * wrap64 (l - h))) ∧
    (b9 = true → Ev (fun k => laws_yIs.f k n9 d9 (wrap64 (h * w)) (wrap64 (l - h))) true ∧ (b5 = true → l = r → n5 = n9 ∧ d5 = d9)) := by
  have i5 : Ev (fun k => impl_SumOfShadows.f k w l r p h) (S5 w l r p h) := iSumSh_ev w l r p h
  have s5 : Ev (fun k => spec_SumOfShadows.f k w l r p h) (S5 w l r p h) := sSumSh_ev w l r p h
  have i7 : Ev (fun k => impl_EqualPlace.f k w l r h) (E7 w l r h) := iEqualPlace_ev w l r h
  have s7 : Ev (fun k => spec_EqualPlace.f k w l r h) (E7 w l r h) := sEqualPlace_ev w l r h
  have i9 : Ev (fun k => impl_ConstantSum.f k w l h) (N9 w l h) := iConst_ev w l h
  have s9 : Ev (fun k => spec_ConstantSum.f k w l h) (N9 w l h) := sConst_ev w l h
  have g7 : (S5 w l r p h).2.2 = true → (E7 w l r h).2.2 = true := by
    intro h5
    have c := S5_yes h5
    unfold E7; rw [if_pos c.1]
  have g9 : (E7 w l r h).2.2 = true → (N9 w l h).2.2 = true := by
    intro h7
    obtain ⟨⟨a1, a2⟩, ⟨b1, b2⟩, ⟨c1, c2⟩, d1, d2, d3⟩ := E7_yes h7
    unfold N9
    rw [if_pos ⟨⟨⟨a1, a2⟩, ⟨b1, b2⟩, ⟨b1, b2⟩, d1, d2, d2⟩, by omega, by omega⟩]
  refine ⟨(S5 w l r p h).1, (S5 w l r p h).2.1, (S5 w l r p h).2.2, (E7 w l r h).1, (E7 w l r h).2.1, (E7 w l r h).2.2, (N9 w l h).1, (N9 w l h).2.1, (N9 w l h).2.2, i5, s5, i7, s7, i9, s9, g7, g9, fun h5 => ?_, fun h7 => ?_, fun h9 => ⟨?_, fun h5 hlr => ?_⟩⟩
  · have c5 := S5_yes h5
    · have e5 : S5 w l r p h = (M.l1 (h * (p * (r - h) + (w - p) * (l - h))) ((l - h) * (r - h)), M.l2 (h * (p * (r - h) + (w - p) * (l - h))) ((l - h) * (r - h)), true) := if_pos c5
      obtain ⟨⟨⟨a1, a2⟩, ⟨b1, b2⟩, ⟨c1, c2⟩, d1, d2, d3⟩, f1, f2⟩ := c5
      have hd : 0 < (l - h) * (r - h) := Int.mul_pos (by omega) (by omega)
      have q1 := M.mulb 500 200 (a := p) (b := r - h) (by omega) (by omega) (by omega) (by omega)
      have q2 := M.mulb 500 200 (a := w - p) (b := l - h) (by omega) (by omega) (by omega) (by omega)
      have q3 := M.mulb 200 200000 (a := h) (b := p * (r - h) + (w - p) * (l - h)) (by omega) (by omega) (by omega) (by omega)
      have q4 := M.mulb 200 200 (a := l - h) (b := r - h) (by omega) (by omega) (by omega) (by omega)
      have x1 := M.l1_abs (a := h * (p * (r - h) + (w - p) * (l - h))) hd
      rw [e5, M.wrap_id (n := r - h) (by omega) (by omega), M.wrap_id (n := l - h) (by omega) (by omega), M.wrap_id (n := w - p) (by omega) (by omega), M.wrap_id (n := p * (r - h)) (by omega) (by omega), M.wrap_id (n := (w - p) * (l - h)) (by omega) (by omega), M.wrap_id (n := p * (r - h) + (w - p) * (l - h)) (by omega) (by omega), M.wrap_id (n := h * (p * (r - h) + (w - p) * (l - h))) (by omega) (by omega), M.wrap_id (n := (l - h) * (r - h)) (by omega) (by omega)]
      exact yIs_true (by simp only; omega) (by simp only; omega) (M.l2_pos hd) (M.l_coprime hd) (M.l_cross _ _)
  · have c7 := E7_yes h7
    · have e7 : E7 w l r h = (M.l1 (w * (l - h)) (l + r - 2 * h), M.l2 (w * (l - h)) (l + r - 2 * h), true) := if_pos c7
      obtain ⟨⟨a1, a2⟩, ⟨b1, b2⟩, ⟨c1, c2⟩, d1, d2, d3⟩ := c7
      have hd : 0 < l + r - 2 * h := by omega
      have q := M.mulb 500 200 (a := w) (b := l - h) (by omega) (by omega) (by omega) (by omega)
      have x1 := M.l1_abs (a := w * (l - h)) hd
      have x2 := M.l1_nonneg q.1 hd
      have x3 := M.l2_pos (a := w * (l - h)) hd
      have x4 := M.l2_le (a := w * (l - h)) hd
      have x5 := M.l_cross (w * (l - h)) (l + r - 2 * h)
      have x6 := M.l_coprime (a := w * (l - h)) hd
      rw [e7]
      simp only
      generalize M.l1 (w * (l - h)) (l + r - 2 * h) = n at *
      generalize M.l2 (w * (l - h)) (l + r - 2 * h) = f at *
      have q2 := M.mulb 500 400 (a := w) (b := f) (by omega) (by omega) (by omega) (by omega)
      have q3 := M.mulb 100000 200 (a := n) (b := r - h) (by omega) (by omega) (by omega) (by omega)
      have q4 := M.mulb 100000 200 (a := n) (b := l - h) (by omega) (by omega) (by omega) (by omega)
      have k1 : n * (r - h) = (w * f - n) * (l - h) := by
        have z1 : n * (l + r - 2 * h) = n * (l - h) + n * (r - h) := by rw [← Int.mul_add]; congr 1; omega
        have z2 : w * (l - h) * f = w * f * (l - h) := by rw [Int.mul_assoc, Int.mul_comm (l - h) f, ← Int.mul_assoc]
        rw [Int.sub_mul]; omega
      have k2 : n ≤ w * f := by
        rcases Int.lt_or_le (w * f - n) 0 with hx | hx
        · have := Int.mul_neg_of_neg_of_pos hx (show 0 < l - h by omega); omega
        · omega
      have q5 := M.mulb 200000 200 (a := w * f - n) (b := l - h) (by omega) (by omega) (by omega) (by omega)
      refine ⟨yLow_true (by omega) (by omega) x3 x6, by omega, ?_⟩
      rw [M.wrap_id (n := w * f) (by omega) (by omega), M.wrap_id (n := r - h) (by omega) (by omega), M.wrap_id (n := l - h) (by omega) (by omega), M.wrap_id (n := w * f - n) (by omega) (by omega), M.wrap_id (n := n * (r - h)) (by omega) (by omega), M.wrap_id (n := (w * f - n) * (l - h)) (by omega) (by omega)]
      exact ⟨by omega, k1⟩
  · have c9 := N9_yes h9
    · have hp : 0 < l - h := by have := c9.1; unfold M.Tw at this; omega
      obtain ⟨⟨a1, a2⟩, ⟨b1, b2⟩, _, d1, d2, _⟩ := c9.1
      have q := M.mulb 200 500 (a := h) (b := w) (by omega) (by omega) (by omega) (by omega)
      have x1 := M.l1_abs (a := h * w) hp
      rw [n9_eq c9, M.wrap_id (n := h * w) (by omega) (by omega), M.wrap_id (n := l - h) (by omega) (by omega)]
      exact yIs_true (by simp only; omega) (by simp only; omega) (M.l2_pos hp) (M.l_coprime hp) (M.l_cross _ _)
  · subst hlr
    have c5 := S5_yes h5
    · have c9 := N9_yes h9
      · have hp : 0 < l - h := by have := c9.1; unfold M.Tw at this; omega
        have e5 : S5 w l l p h = (M.l1 (h * w) (l - h), M.l2 (h * w) (l - h), true) := by
          unfold S5
          rw [if_pos c5]
          have e : h * (p * (l - h) + (w - p) * (l - h)) = (l - h) * (h * w) := by
            rw [← Int.add_mul, show p + (w - p) = w by omega, ← Int.mul_assoc, Int.mul_comm]
          have := M.l_scale (a := h * w) hp hp
          rw [e, this.1, this.2]
        rw [e5, n9_eq c9]
        exact ⟨rfl, rfl⟩
theorem ne_f {α : Type} [BEq α] [LawfulBEq α] {a b : α} (h : a = b) : (a != b) = false := by
  subst h; exact bne_self_eq_false _
theorem big_tot (l0 l1 : List Int) : ∃ r, laws_big.f l0 l1 = some r := by
  unfold laws_big.f
  split <;> exact ⟨_, rfl⟩
theorem law : StFnWalkersMeet.Pure := by
  refine ⟨fun l0 l1 => ?_, fun L ah ap az bh bp bs => ?_, fun g ch cp cs dh dp ds m => ?_, fun w l r p h => ?_⟩
  · obtain ⟨r, hr⟩ := big_tot l0 l1
    exact ⟨r, hr, trivial⟩
  · obtain ⟨n, d, x, y, b, t1, t2, t3, t4⟩ := tipsPart L ah ap az bh bp bs
    obtain ⟨n', d', b', m1, m2, m3, m4⟩ := meetPart L ah ap az bh bp bs
    have fl := fun (ha : M.Wk L ah ap az) (hb : M.Wk L bh bp bs) (hh : ah = bh) => flatPart t3 m3 ha hb hh
    refine ⟨n, d, x, y, b, n, d, x, y, b, n', d', b', n', d', b', true, decide (M.Wk L ah ap az), decide (M.Wk L bh bp bs), true, true, n, d, x, y, true, ?_, ?_⟩
    · exact ⟨ex t1, ex t2, ex m1, ex m2, fun hb => ex (m4 hb).1, IsWalker_eq .., fun _ => IsWalker_eq .., fun hb => ex (t4 hb).2.1, fun hb => ex (t4 hb).2.2.1, fun hb => ex (t4 hb).1⟩
    · exact ⟨ne_f rfl, ne_f rfl, ne_f rfl, ne_f rfl, ne_f rfl, ne_f rfl, ne_f rfl, ne_f rfl, fun _ => rfl, fun hb => decide_eq_false (t4 hb).2.2.2.1, fun _ => rfl, fun hb => decide_eq_false (t4 hb).2.2.2.2.1, fun hb => decide_eq_false (t4 hb).2.2.2.2.2.1, fun hb => ne_f (t4 hb).2.2.2.2.2.2.1, fun hb => ne_f (t4 hb).2.2.2.2.2.2.2, fun _ => rfl, fun _ => ne_f rfl, fun _ => ne_f rfl, fun _ => ne_f rfl, fun _ => ne_f rfl, fun _ => rfl, fun hb => decide_eq_false (m4 hb).2.1, fun hb => ne_f (m4 hb).2.2.1, fun hb => decide_eq_false (m4 hb).2.2.2, fun ha hb hh => ne_f (fl (of_decide_eq_true ha) (of_decide_eq_true hb) (eq_of_beq hh)).1, fun ha hb hh _ => ne_f (fl (of_decide_eq_true ha) (of_decide_eq_true hb) (eq_of_beq hh)).2.1, fun ha hb hh _ => ne_f (fl (of_decide_eq_true ha) (of_decide_eq_true hb) (eq_of_beq hh)).2.2⟩
  · obtain ⟨is, c, i1, i2, P, Q, i3⟩ := inPart g ch cp cs dh dp ds m
    refine ⟨is, c, is, c, P, true, Q, true, false, true, ?_, ?_⟩
    · exact ⟨i1, ex i2, fun hb => (i3 hb).1, fun hb => (i3 hb).2.1, fun hb hi => ((i3 hb).2.2.2.2 hi).2⟩
    · exact ⟨ne_f rfl, ne_f rfl, fun _ => rfl, fun _ => rfl, fun hb hx => ne_f ((i3 hb).2.2.1 (of_decide_eq_true hx)), fun hb _ hi => beq_eq_false_iff_ne.2 ((i3 hb).2.2.2.2 hi).1, fun hb hx => ne_f ((i3 hb).2.2.2.1 (of_decide_eq_false hx)), fun hb _ hi => beq_eq_false_iff_ne.2 ((i3 hb).2.2.2.2 hi).1, fun _ _ => rfl, fun _ _ => rfl⟩
  · obtain ⟨n5, d5, b5, n7, d7, b7, n9, d9, b9, u1, u2, u3, u4, u5, u6, u7, u8, u9, u10, u11⟩ := sumPart w l r p h
    refine ⟨n5, d5, b5, n5, d5, b5, n7, d7, b7, n7, d7, b7, n9, d9, b9, n9, d9, b9, true, true, true, ?_, ?_⟩
    · exact ⟨ex u1, ex u2, ex u3, ex u4, ex u5, ex u6, fun hb => ex (u9 hb), fun hb => ex (u10 hb).1, fun hb => ex (u11 hb).1⟩
    · exact ⟨ne_f rfl, ne_f rfl, ne_f rfl, ne_f rfl, ne_f rfl, ne_f rfl, ne_f rfl, ne_f rfl, ne_f rfl, u7, fun _ => u8, fun _ => u8, fun _ => rfl, fun _ => rfl, fun hb => decide_eq_false (u10 hb).2.1, fun hb => decide_eq_false (u10 hb).2.2.1, fun hb => ne_f (u10 hb).2.2.2, fun _ => rfl, fun h9 h5 hh => ne_f ((u11 h9).2 h5 (eq_of_beq hh)).1, fun h9 h5 hh => ne_f ((u11 h9).2 h5 (eq_of_beq hh)).2⟩
end Go.Proofs.Ytdjgimackejjpaa.PbFnWalkersMeet
namespace Go.Proofs.Ytdjgimackejjpaa.Pure
theorem FnWalkersMeet : StFnWalkersMeet.Pure := PbFnWalkersMeet.law
end Go.Proofs.Ytdjgimackejjpaa.Pure
