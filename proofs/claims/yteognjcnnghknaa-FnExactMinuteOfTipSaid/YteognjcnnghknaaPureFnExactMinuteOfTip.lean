/- The plain part of FnExactMinuteOfTip: what the printed functions of the program and of the reference answer, in plain Lean, and that the law answers true. No condition. -/
import Derived.Test.YteognjcnnghknaaStFnExactMinuteOfTip
import Derived.Test.YteognjcnnghknaaM
namespace Go.Proofs.Yteognjcnnghknaa.PbFnExactMinuteOfTip
open Go.RowKit Go.Proofs.Yteognjcnnghknaa Go.Proofs.Yteognjcnnghknaa.PFnExactMinuteOfTip Go.Proofs.YteognjcnnghknaaW.PrintWords Go.Proofs.YteognjcnnghknaaW.PrintLast
set_option linter.unusedVariables false
set_option linter.unusedSimpArgs false

theorem l1In_eq (a b c : Int) : spec_l1In.f a b c = some (decide (b ≤ a ∧ a ≤ c)) := by
  unfold spec_l1In.f
  by_cases h : b ≤ a <;> simp [h]
theorem swLamp_eq (a : Int) : spec_swLamp.f a = some (decide (2 ≤ a ∧ a ≤ 200)) := by simp [spec_swLamp.f, l1In_eq]
theorem wkGood_eq (l h p s : Int) : spec_wkGood.f l h p s = some (decide (M.Wk l h p s)) := by
  unfold spec_wkGood.f M.Wk
  by_cases h1 : 2 ≤ l ∧ l ≤ 200
  · have e : wrap64 (l - 1) = l - 1 := M.wrap_id (by omega) (by omega)
    by_cases h2 : 1 ≤ h ∧ h ≤ l - 1 <;> by_cases h3 : 0 ≤ p ∧ p ≤ 500 <;> simp [l1In_eq, swLamp_eq, h1, h2, h3, e]
  · simp [swLamp_eq, h1]
theorem spec_clLow_l0_ev (x0 : Int) (x1 : Int) (x6 : Int) (x7 : Int) {r : (Int × Int)} (h : Ev (fun k => if x7 > 0 then (if x7 = 0 then (none) else (spec_clLow.l0 k x0 x1 x7 (Int.tmod x6 x7))) else (if x6 = 0 then (none) else (some (wrap64 (Int.tdiv x0 x6), wrap64 (Int.tdiv x1 x6))))) r) : Ev (fun k => spec_clLow.l0 k x0 x1 x6 x7) r := Ev.step (fun k => by simp only [spec_clLow.l0]) h
theorem clLow_l0 (x y : Int) : ∀ (n : Nat) (a b : Int), b.toNat ≤ n → 0 ≤ a → 0 ≤ b → 0 < M.g a b →
    spec_clLow.l0 (n + 1) x y a b = some (wrap64 (Int.tdiv x (M.g a b)), wrap64 (Int.tdiv y (M.g a b)))
  | n, a, b, hn, h1, h3, h5 => by
    simp only [spec_clLow.l0]
    by_cases hb : b = 0
    · subst hb
      have e : M.g a 0 = a := by rw [M.g_zero]; omega
      rw [e] at h5 ⊢
      rw [if_neg (by omega), if_neg (by omega)]
    · rw [if_pos (by omega), if_neg hb]
      have e : (Int.tmod a b).natAbs = a.natAbs % b.natAbs := Int.natAbs_tmod ..
      have lt : a.natAbs % b.natAbs < b.natAbs := Nat.mod_lt _ (by omega)
      have nn : 0 ≤ Int.tmod a b := Int.tmod_nonneg b h1
      cases n with
      | zero => omega
      | succ n => rw [clLow_l0 x y n b (Int.tmod a b) (by omega) h3 nn (by rw [M.g_tmod]; exact h5), M.g_tmod]
theorem clLow_ev (a b : Int) (h1 : 0 ≤ a) (h2 : a ≤ 9223372036854775807) (h3 : 0 < b) (h4 : b ≤ 9223372036854775807) :
    Ev (fun k => spec_clLow.f k a b) (M.l1 a b, M.l2 a b) := by
  refine Ev.of (spec_clLow.mono a b) (k := b.toNat + 1) ?_
  have hg := M.g_pos_r (a := a) h3
  have ha := M.l1_abs (a := a) h3
  have hl := M.l2_le (a := a) h3
  have hp := M.l2_pos (a := a) h3
  unfold spec_clLow.f
  rw [clLow_l0 a b b.toNat a b (Nat.le_refl _) h1 (by omega) hg, M.tdiv_l1 h3, M.tdiv_l2 h3, M.wrap_id (by omega) (by omega), M.wrap_id (by omega) (by omega)]
theorem l1Most_eq (a b : Int) : spec_l1Most.f a b = some (if a > b then a else b) := by unfold spec_l1Most.f; split <;> rfl
theorem l1Abs_eq (a : Int) (h1 : -9223372036854775807 ≤ a) (h2 : a ≤ 9223372036854775807) : spec_l1Abs.f a = some (a.natAbs : Int) := by
  simp only [spec_l1Abs.f, l1Most_eq, Option.bind_some]
  rw [M.wrap_id (by omega) (by omega)]
  congr 1; split <;> omega
theorem spec_wkWhen_j0_ev (x2 : Int) (x9 : Int) (x112000 : Int) (x112001 : Int) (x112002 : Int) {r : (Int × Int × Bool)} (h : Ev (fun k => if x112002 = 0 then (spec_wkWhen.j1 k x2 x9 true x112000 x112001 x112002) else (spec_wkWhen.j1 k x2 x9 (decide (x9 < 0)) x112000 x112001 x112002)) r) : Ev (fun k => spec_wkWhen.j0 k x2 x9 x112000 x112001 x112002) r := Ev.step (fun k => by simp only [spec_wkWhen.j0]) h
theorem spec_wkWhen_j1_ev (x2 : Int) (x9 : Int) (x29 : Bool) (x112000 : Int) (x112001 : Int) (x112002 : Int) {r : (Int × Int × Bool)} (h : Ev (fun k => if x29 = true then (some (0, 0, false)) else ((spec_l1Abs.f x112002).bind fun t112 => ((spec_clLow.f k x9 (wrap64 (x2 * t112))).bind fun bt113 => (some (bt113.1, bt113.2, true))))) r) : Ev (fun k => spec_wkWhen.j1 k x2 x9 x29 x112000 x112001 x112002) r := Ev.step (fun k => by simp only [spec_wkWhen.j1]) h
theorem wkWhen_ev (hh p s n d : Int) (hp : 0 ≤ p ∧ p ≤ 500) (hs : -50 ≤ s ∧ s ≤ 50) (hn : 0 ≤ n ∧ n ≤ 1000000) (hd : 1 ≤ d ∧ d ≤ 200) :
    Ev (fun k => spec_wkWhen.f k hh p s n d) (M.rat (n - p * d) (s * d)) := by
  unfold spec_wkWhen.f
  have b1 := M.mulb 500 200 (a := p) (b := d) (by omega) (by omega) (by omega) (by omega)
  have b2 := M.mulabs 50 200 (a := s) (b := d) (by omega) (by omega) (by omega) (by omega)
  rw [M.wrap_id (n := p * d) (by omega) (by omega), M.wrap_id (n := n - p * d) (by omega) (by omega), M.wrap_id (n := -(n - p * d)) (by omega) (by omega)]
  rcases Int.lt_trichotomy s 0 with h | h | h
  · have hsd : s * d < 0 := Int.mul_neg_of_neg_of_pos h (by omega)
    have e1 : M.rn (n - p * d) (s * d) = -(n - p * d) := by simp only [M.rn, if_pos hsd]
    have e2 : M.rdn (s * d) = -(s * d) := by simp only [M.rdn, if_pos hsd]
    have e3 : d * ((s.natAbs : Nat) : Int) = -(s * d) := by
      have : ((s.natAbs : Nat) : Int) = -s := by omega
      rw [this, Int.mul_neg, Int.mul_comm]
    unfold M.rat
    rw [e1, e2]
    refine M.evp h (spec_wkWhen_j0_ev _ _ _ _ _ (M.evn (by omega) ?_))
    by_cases hw : -(n - p * d) < 0
    · rw [if_pos (.inr hw)]
      exact spec_wkWhen_j1_ev _ _ _ _ _ _ (M.evp (by simpa using hw) (Ev.now _))
    · rw [if_neg (by omega)]
      refine spec_wkWhen_j1_ev _ _ _ _ _ _ (M.evn (by simpa using hw) ?_)
      rw [l1Abs_eq s (by omega) (by omega)]
      simp only [Option.bind_some, e3]
      rw [M.wrap_id (n := -(s * d)) (by omega) (by omega)]
      exact Ev.bind (clLow_ev _ _ (by omega) (by omega) (by omega) (by omega)) (Ev.now _)
  · subst h
    have e : M.rat (n - p * d) (0 * d) = (0, 0, false) := by simp [M.rat, M.rdn]
    rw [e]
    exact M.evn (by omega) (spec_wkWhen_j0_ev _ _ _ _ _ (M.evp rfl (spec_wkWhen_j1_ev _ _ _ _ _ _ (M.evp rfl (Ev.now _)))))
  · have hsd : 0 < s * d := Int.mul_pos h (by omega)
    have e1 : M.rn (n - p * d) (s * d) = n - p * d := by simp only [M.rn, if_neg (show ¬ s * d < 0 by omega)]
    have e2 : M.rdn (s * d) = s * d := by simp only [M.rdn, if_neg (show ¬ s * d < 0 by omega)]
    have e3 : d * ((s.natAbs : Nat) : Int) = s * d := by
      have : ((s.natAbs : Nat) : Int) = s := by omega
      rw [this, Int.mul_comm]
    unfold M.rat
    rw [e1, e2]
    refine M.evn (by omega) (spec_wkWhen_j0_ev _ _ _ _ _ (M.evn (by omega) ?_))
    by_cases hw : n - p * d < 0
    · rw [if_pos (.inr hw)]
      exact spec_wkWhen_j1_ev _ _ _ _ _ _ (M.evp (by simpa using hw) (Ev.now _))
    · rw [if_neg (by omega)]
      refine spec_wkWhen_j1_ev _ _ _ _ _ _ (M.evn (by simpa using hw) ?_)
      rw [l1Abs_eq s (by omega) (by omega)]
      simp only [Option.bind_some, e3]
      rw [M.wrap_id (n := s * d) (by omega) (by omega)]
      exact Ev.bind (clLow_ev _ _ (by omega) (by omega) (by omega) (by omega)) (Ev.now _)
theorem sOfTip_ev (l h p s x : Int) : Ev (fun k => spec_MinuteOfTip.f k l h p s x) (if M.Wk l h p s ∧ 0 ≤ x ∧ x ≤ 500 then M.rat (x * (l - h) - p * l) (s * l) else (0, 0, false)) := by
  simp only [spec_MinuteOfTip.f, wkGood_eq, l1In_eq, Option.bind_some, decide_eq_true_eq]
  by_cases hw : M.Wk l h p s
  · refine M.evp hw ?_
    by_cases hx : 0 ≤ x ∧ x ≤ 500
    · rw [if_pos ⟨hw, hx⟩]
      obtain ⟨a, b, c, d⟩ := hw
      have b1 := M.mulb 500 200 (a := x) (b := l - h) (by omega) (by omega) (by omega) (by omega)
      rw [M.wrap_id (n := l - h) (by omega) (by omega), M.wrap_id (n := x * (l - h)) (by omega) (by omega)]
      exact M.evp hx (Ev.bind (wkWhen_ev h p s _ l c d (by omega) (by omega)) (Ev.now _))
    · rw [if_neg (fun h => hx h.2)]; exact M.evn hx (Ev.now _)
  · rw [if_neg (fun h => hw h.1)]; exact M.evn hw (Ev.now _)
theorem within_eq (a b c : Int) : impl_within.f a b c = some (decide (b ≤ a ∧ a ≤ c)) := by
  unfold impl_within.f
  by_cases h : b ≤ a <;> simp [h]
theorem isLamp_eq (a : Int) : impl_isLamp.f a = some (decide (2 ≤ a ∧ a ≤ 200)) := by simp [impl_isLamp.f, within_eq]
theorem IsWalker_eq (l h p s : Int) : impl_IsWalker.f l h p s = some (decide (M.Wk l h p s)) := by
  unfold impl_IsWalker.f M.Wk
  by_cases h1 : 2 ≤ l ∧ l ≤ 200
  · have e : wrap64 (l - 1) = l - 1 := M.wrap_id (by omega) (by omega)
    by_cases h2 : 1 ≤ h ∧ h ≤ l - 1 <;> by_cases h3 : 0 ≤ p ∧ p ≤ 500 <;> simp [within_eq, isLamp_eq, h1, h2, h3, e]
  · simp [isLamp_eq, h1]
theorem impl_gcd_l0_ev (x0 : Int) (x1 : Int) {r : (Int)} (h : Ev (fun k => if x1 = 0 then (some (mx x0 (wrap64 (-x0)))) else (impl_gcd.l0 k x1 (Int.tmod x0 x1))) r) : Ev (fun k => impl_gcd.l0 k x0 x1) r := Ev.step (fun k => by simp only [impl_gcd.l0]) h
theorem gcd_l0 : ∀ (n : Nat) (a b : Int), b.natAbs ≤ n → -9223372036854775807 ≤ a → a ≤ 9223372036854775807 → -9223372036854775807 ≤ b → b ≤ 9223372036854775807 →
    impl_gcd.l0 (n + 1) a b = some (M.g a b)
  | n, a, b, hn, h1, h2, h3, h4 => by
    simp only [impl_gcd.l0]
    by_cases hb : b = 0
    · subst hb
      rw [if_pos rfl, M.g_zero, M.wrap_id (by omega) (by omega)]
      unfold mx; congr 1; omega
    · rw [if_neg hb]
      have e : (Int.tmod a b).natAbs = a.natAbs % b.natAbs := Int.natAbs_tmod ..
      have lt : a.natAbs % b.natAbs < b.natAbs := Nat.mod_lt _ (by omega)
      cases n with
      | zero => omega
      | succ n => rw [gcd_l0 n b (Int.tmod a b) (by omega) h3 h4 (by omega) (by omega), M.g_tmod]
theorem gcd_ev (a b : Int) (h1 : -9223372036854775807 ≤ a) (h2 : a ≤ 9223372036854775807) (h3 : -9223372036854775807 ≤ b) (h4 : b ≤ 9223372036854775807) :
    Ev (fun k => impl_gcd.f k a b) (M.g a b) :=
  Ev.of (impl_gcd.mono a b) (k := b.natAbs + 1) (by unfold impl_gcd.f; exact gcd_l0 _ a b (Nat.le_refl _) h1 h2 h3 h4)
theorem fraction_ev (a b : Int) (h1 : -9223372036854775807 ≤ a) (h2 : a ≤ 9223372036854775807) (h3 : 0 < b) (h4 : b ≤ 9223372036854775807) :
    Ev (fun k => impl_fraction.f k a b) (M.l1 a b, M.l2 a b, true) := by
  simp only [impl_fraction.f]
  refine Ev.bind (gcd_ev a b h1 h2 (by omega) h4) ?_
  have hg := M.g_pos_r (a := a) h3
  have ha := M.l1_abs (a := a) h3
  have hl := M.l2_le (a := a) h3
  have hp := M.l2_pos (a := a) h3
  rw [if_neg (by omega), M.tdiv_l1 h3, M.tdiv_l2 h3, M.wrap_id (by omega) (by omega), M.wrap_id (by omega) (by omega)]
  exact Ev.now _
theorem ratio_ev (n d : Int) (h1 : -1000000000 ≤ n) (h2 : n ≤ 1000000000) (h3 : -1000000000 ≤ d) (h4 : d ≤ 1000000000) : Ev (fun k => impl_ratio.f k n d) (M.rat n d) := by
  unfold impl_ratio.f
  by_cases hd : d < 0
  · refine M.evp hd ?_
    have e1 : M.rn n d = -n := by simp [M.rn, hd]
    have e2 : M.rdn d = -d := by simp [M.rdn, hd]
    rw [M.wrap_id (n := -d) (by omega) (by omega), M.wrap_id (n := -n) (by omega) (by omega)]
    refine M.evn (by omega) ?_
    unfold M.rat
    rw [e1, e2]
    by_cases hn : -n < 0
    · rw [if_pos (.inr hn)]; exact M.evp hn (Ev.now _)
    · rw [if_neg (by omega)]
      exact M.evn hn (Ev.bind (fraction_ev _ _ (by omega) (by omega) (by omega) (by omega)) (Ev.now _))
  · refine M.evn hd ?_
    have e1 : M.rn n d = n := by simp [M.rn, hd]
    have e2 : M.rdn d = d := by simp [M.rdn, hd]
    unfold M.rat
    rw [e1, e2]
    by_cases h0 : d = 0
    · rw [if_pos (.inl h0)]; exact M.evp h0 (Ev.now _)
    · refine M.evn h0 ?_
      by_cases hn : n < 0
      · rw [if_pos (.inr hn)]; exact M.evp hn (Ev.now _)
      · rw [if_neg (by omega)]
        exact M.evn hn (Ev.bind (fraction_ev _ _ (by omega) (by omega) (by omega) (by omega)) (Ev.now _))
theorem iOfTip_ev (l h p s x : Int) : Ev (fun k => impl_MinuteOfTip.f k l h p s x) (if M.Wk l h p s ∧ 0 ≤ x ∧ x ≤ 500 then M.rat (x * (l - h) - p * l) (s * l) else (0, 0, false)) := by
  simp only [impl_MinuteOfTip.f, IsWalker_eq, within_eq, Option.bind_some, decide_eq_true_eq]
  by_cases hw : M.Wk l h p s
  · refine M.evp hw ?_
    by_cases hx : 0 ≤ x ∧ x ≤ 500
    · rw [if_pos ⟨hw, hx⟩]
      obtain ⟨a, b, c, d⟩ := hw
      have b1 := M.mulb 500 200 (a := x) (b := l - h) (by omega) (by omega) (by omega) (by omega)
      have b2 := M.mulb 500 200 (a := p) (b := l) (by omega) (by omega) (by omega) (by omega)
      have b3 := M.mulabs 50 200 (a := s) (b := l) (by omega) (by omega) (by omega) (by omega)
      rw [M.wrap_id (n := l - h) (by omega) (by omega), M.wrap_id (n := x * (l - h)) (by omega) (by omega), M.wrap_id (n := p * l) (by omega) (by omega), M.wrap_id (n := x * (l - h) - p * l) (by omega) (by omega), M.wrap_id (n := s * l) (by omega) (by omega)]
      exact M.evp hx (Ev.bind (ratio_ev _ _ (by omega) (by omega) (by omega) (by omega)) (Ev.now _))
    · rw [if_neg (fun h => hx h.2)]; exact M.evn hx (Ev.now _)
  · rw [if_neg (fun h => hw h.1)]; exact M.evn hw (Ev.now _)
theorem law : StFnExactMinuteOfTip.Pure := by
  intro l h p s x _ _ _ _ _
  refine Ev.rounds ?_
  simp only [laws_FnExactMinuteOfTip.f, laws_toWalker.f, Option.bind_some]
  refine Ev.bind (sOfTip_ev l h p s x) (Ev.bind (iOfTip_ev l h p s x) ?_)
  simp only [bne_self_eq_false, if_true, Bool.false_eq_true, if_false]
  exact Ev.now _
end Go.Proofs.Yteognjcnnghknaa.PbFnExactMinuteOfTip
namespace Go.Proofs.Yteognjcnnghknaa.Pure
theorem FnExactMinuteOfTip : StFnExactMinuteOfTip.Pure := PbFnExactMinuteOfTip.law
end Go.Proofs.Yteognjcnnghknaa.Pure
