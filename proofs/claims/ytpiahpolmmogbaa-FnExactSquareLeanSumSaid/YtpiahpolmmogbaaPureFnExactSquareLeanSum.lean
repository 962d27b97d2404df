/- The plain part of FnExactSquareLeanSum: what the printed functions of the program and of the reference answer, in plain Lean, and that the law answers true. No condition. -/
import Derived.Test.YtpiahpolmmogbaaPFnExactSquareLeanSumx2
import Derived.Test.YtpiahpolmmogbaaM
namespace Go.Proofs.Ytpiahpolmmogbaa.PbFnExactSquareLeanSum
open Go.RowKit Go.Proofs.Ytpiahpolmmogbaa Go.Proofs.Ytpiahpolmmogbaa.PFnExactSquareLeanSum Go.Proofs.YtpiahpolmmogbaaW.PrintWords Go.Proofs.YtpiahpolmmogbaaW.PrintLast
set_option linter.unusedVariables false
set_option linter.unusedSimpArgs false

theorem l1In_eq (a b c : Int) : spec_l1In.f a b c = some (decide (b ≤ a ∧ a ≤ c)) := by
  unfold spec_l1In.f
  by_cases h : b ≤ a <;> simp [h]
theorem lnLong_eq (a : Int) : spec_lnLong.f a = some (decide (1 ≤ a ∧ a ≤ 1000)) := by simp [spec_lnLong.f, l1In_eq]
theorem clRoot_l0 (x : Int) (hx : 0 ≤ x) : ∀ (n : Nat) (lo hi : Int), (hi - lo).toNat ≤ n → 0 ≤ lo → lo < hi → hi ≤ 2147483648 → lo * lo ≤ x → x < hi * hi →
    Ev (fun k => spec_clRoot.l0 k x lo hi) (M.root x)
  | n, lo, hi, hn, h0, h1, h2, h3, h4 => by
    have w1 : wrap64 (hi - 1) = hi - 1 := M.wrap_id (by omega) (by omega)
    have w2 : wrap64 (lo + hi) = lo + hi := M.wrap_id (by omega) (by omega)
    have t1 : Int.tdiv (lo + hi) 2 = (lo + hi) / 2 := Int.tdiv_eq_ediv_of_nonneg (by omega)
    have w3 : wrap64 (Int.tdiv (lo + hi) 2) = (lo + hi) / 2 := by rw [t1]; exact M.wrap_id (by omega) (by omega)
    have hb := M.mulb 2147483648 2147483648 (a := (lo + hi) / 2) (b := (lo + hi) / 2) (by omega) (by omega) (by omega) (by omega)
    have w4 : wrap64 ((lo + hi) / 2 * ((lo + hi) / 2)) = (lo + hi) / 2 * ((lo + hi) / 2) := M.wrap_id (by omega) (by omega)
    by_cases hd : lo < hi - 1
    · cases n with
      | zero => omega
      | succ n =>
        by_cases hm : (lo + hi) / 2 * ((lo + hi) / 2) ≤ x
        · refine Ev.step (f := fun k => spec_clRoot.l0 k x ((lo + hi) / 2) hi) (fun k => ?_) (clRoot_l0 x hx n _ hi (by omega) (by omega) (by omega) h2 hm h4)
          simp only [spec_clRoot.l0, w1, w2, w3, w4, if_pos hd, if_pos hm]
        · refine Ev.step (f := fun k => spec_clRoot.l0 k x lo ((lo + hi) / 2)) (fun k => ?_) (clRoot_l0 x hx n lo _ (by omega) h0 (by omega) (by omega) h3 (by omega))
          simp only [spec_clRoot.l0, w1, w2, w3, w4, if_pos hd, if_neg hm]
    · have e : hi = lo + 1 := by omega
      subst e
      have : M.root x = lo := M.root_unique h0 h3 h4
      rw [this]
      refine Ev.step (f := fun _ => some lo) (fun k => ?_) (Ev.now _)
      simp only [spec_clRoot.l0, w1, if_neg hd]
theorem clRoot_ev (x : Int) (hx : 0 ≤ x) (hx2 : x ≤ 1000000000000) : Ev (fun k => spec_clRoot.f k x) (M.root x) := by
  unfold spec_clRoot.f
  exact clRoot_l0 x hx _ 0 2147483648 (Nat.le_refl _) (by omega) (by omega) (by omega) (by omega) (by omega)
theorem lnSide_eq (a : Int) : spec_lnSide.f a = some (decide (1 ≤ a ∧ a ≤ 60)) := by simp [spec_lnSide.f, l1In_eq]
theorem lnCan_eq (a b : Int) (ha : 1 ≤ a ∧ a ≤ 60) (hb : 1 ≤ b ∧ b ≤ 1000) : spec_lnCan.f a b = some (decide (8 * a * a ≤ b * b)) := by
  have h1 := M.mulb 480 60 (show (0:Int) ≤ 8 * a by omega) (by omega) (show (0:Int) ≤ a by omega) (by omega)
  have h2 := M.mulb 1000 1000 (show (0:Int) ≤ b by omega) (by omega) (show (0:Int) ≤ b by omega) (by omega)
  unfold spec_lnCan.f
  rw [M.wrap_id (n := 8 * a) (by omega) (by omega), M.wrap_id (n := 8 * a * a) (by omega) (by omega), M.wrap_id (n := b * b) (by omega) (by omega)]
theorem sSum_ev (a b : Int) : Ev (fun k => spec_SquareLeanSum.f k a b) (if ((1 ≤ a ∧ a ≤ 60) ∧ 1 ≤ b ∧ b ≤ 1000) ∧ 8 * a * a ≤ b * b then (M.root (a * a + b * b) + a, (if M.root (a * a + b * b) * M.root (a * a + b * b) = a * a + b * b then 1 else 0), true) else (0, 0, false)) := by
  simp only [spec_SquareLeanSum.f, lnSide_eq, lnLong_eq, Option.bind_some, decide_eq_true_eq]
  have bad : ∀ k, spec_SquareLeanSum.j0 (k + 1) a b true = some (0, 0, false) := fun k => by simp [spec_SquareLeanSum.j0]
  by_cases ha : 1 ≤ a ∧ a ≤ 60
  · refine M.evp ha ?_
    by_cases hb : 1 ≤ b ∧ b ≤ 1000
    · refine M.evp hb ?_
      rw [lnCan_eq a b ha hb]
      simp only [Option.bind_some]
      by_cases hc : 8 * a * a ≤ b * b
      · rw [if_pos ⟨⟨ha, hb⟩, hc⟩]
        have h1 := M.mulb 60 60 (a := a) (b := a) (by omega) (by omega) (by omega) (by omega)
        have h2 := M.mulb 1000 1000 (a := b) (b := b) (by omega) (by omega) (by omega) (by omega)
        have r0 := M.root_nonneg (a * a + b * b)
        have ⟨r1, _⟩ := M.root_spec (n := a * a + b * b) (by omega)
        have r3 := Int.mul_nonneg r0 r0
        have r2 : M.root (a * a + b * b) ≤ 1100 := M.root_le (by omega) (by omega) (by omega)
        refine Ev.step (f := fun k => (spec_clRoot.f k (a * a + b * b)).bind fun t => if wrap64 (t * t) = a * a + b * b then some (wrap64 (t + a), 1, true) else some (wrap64 (t + a), 0, true)) (fun k => ?_) ?_
        · simp only [spec_SquareLeanSum.j0, hc, decide_true, Bool.not_true, Bool.false_eq_true, if_false]
          rw [M.wrap_id (n := a * a) (by omega) (by omega), M.wrap_id (n := b * b) (by omega) (by omega), M.wrap_id (n := a * a + b * b) (by omega) (by omega)]
        · refine Ev.bind (clRoot_ev _ (by omega) (by omega)) ?_
          rw [M.wrap_id (n := M.root (a * a + b * b) * M.root (a * a + b * b)) (by omega) (by omega), M.wrap_id (n := M.root (a * a + b * b) + a) (by omega) (by omega)]
          split <;> exact Ev.now _
      · rw [if_neg (fun h => hc h.2)]
        simp only [hc, decide_false, Bool.not_false]
        exact Ev.step bad (Ev.now _)
    · rw [if_neg (fun h => hb h.1.2)]; exact M.evn hb (Ev.step bad (Ev.now _))
  · rw [if_neg (fun h => ha h.1.1)]; exact M.evn ha (Ev.step bad (Ev.now _))
theorem rootOf_l1 (x : Int) (hx : 0 ≤ x) : ∀ (n : Nat) (lo hi : Int), (hi - lo).toNat ≤ n → 0 ≤ lo → lo ≤ hi → hi ≤ 2147483648 → x ≤ hi * hi → (lo = 0 ∨ (lo - 1) * (lo - 1) < x) →
    Ev (fun k => impl_rootOf.l1 k x lo hi) (M.croot x, decide (M.root x * M.root x = x))
  | n, lo, hi, hn, h0, h1, h2, h3, h4 => by
    have w2 : wrap64 (lo + hi) = lo + hi := M.wrap_id (by omega) (by omega)
    have t1 : Int.tdiv (lo + hi) 2 = (lo + hi) / 2 := Int.tdiv_eq_ediv_of_nonneg (by omega)
    have w3 : wrap64 (Int.tdiv (lo + hi) 2) = (lo + hi) / 2 := by rw [t1]; exact M.wrap_id (by omega) (by omega)
    have hb := M.mulb 2147483648 2147483648 (a := (lo + hi) / 2) (b := (lo + hi) / 2) (by omega) (by omega) (by omega) (by omega)
    have w4 : wrap64 ((lo + hi) / 2 * ((lo + hi) / 2)) = (lo + hi) / 2 * ((lo + hi) / 2) := M.wrap_id (by omega) (by omega)
    have w5 : wrap64 ((lo + hi) / 2 + 1) = (lo + hi) / 2 + 1 := M.wrap_id (by omega) (by omega)
    by_cases hd : lo < hi
    · cases n with
      | zero => omega
      | succ n =>
        by_cases hm : (lo + hi) / 2 * ((lo + hi) / 2) < x
        · refine Ev.step (f := fun k => impl_rootOf.l1 k x ((lo + hi) / 2 + 1) hi) (fun k => ?_) (rootOf_l1 x hx n _ hi (by omega) (by omega) (by omega) h2 h3 (.inr (by
            have e : (lo + hi) / 2 + 1 - 1 = (lo + hi) / 2 := by omega
            rw [e]; exact hm)))
          simp only [impl_rootOf.l1, w2, w3, w4, w5, if_pos hd, if_pos hm]
        · refine Ev.step (f := fun k => impl_rootOf.l1 k x lo ((lo + hi) / 2)) (fun k => ?_) (rootOf_l1 x hx n lo _ (by omega) h0 (by omega) (by omega) (by omega) h4)
          simp only [impl_rootOf.l1, w2, w3, w4, if_pos hd, if_neg hm]
    · have e : lo = hi := by omega
      subst e
      have ⟨e1, e2⟩ := M.croot_unique h0 h3 hx h4
      have hb2 := M.mulb 2147483648 2147483648 (a := lo) (b := lo) (by omega) (by omega) (by omega) (by omega)
      have w6 : wrap64 (lo * lo) = lo * lo := M.wrap_id (by omega) (by omega)
      refine Ev.step (f := fun _ => some (lo, (lo * lo == x))) (fun k => ?_) ?_
      · simp only [impl_rootOf.l1, if_neg hd, w6]
      · have e3 : (lo * lo == x) = decide (M.root x * M.root x = x) := by
          rw [Bool.eq_iff_iff]; simp only [beq_iff_eq, decide_eq_true_eq]; exact e2
        rw [e3, e1]
        exact Ev.now _
theorem rootOf_l0 (x : Int) (hx : 0 ≤ x) (hx2 : x ≤ 1000000000000) : ∀ (n : Nat) (hi : Int), (2000000 - hi).toNat ≤ n → 1 ≤ hi → hi ≤ 2000000 →
    Ev (fun k => impl_rootOf.l0 k x 0 hi) (M.croot x, decide (M.root x * M.root x = x))
  | n, hi, hn, h0, h2 => by
    have hb := M.mulb 2000000 2000000 (a := hi) (b := hi) (by omega) (by omega) (by omega) (by omega)
    have w1 : wrap64 (hi * hi) = hi * hi := M.wrap_id (by omega) (by omega)
    have w2 : wrap64 (hi * 2) = hi * 2 := M.wrap_id (by omega) (by omega)
    by_cases hd : hi * hi < x
    · have hlt : hi < 1000000 := M.lt_of_sq (by omega) (by omega)
      cases n with
      | zero => omega
      | succ n =>
        refine Ev.step (f := fun k => impl_rootOf.l0 k x 0 (hi * 2)) (fun k => ?_) (rootOf_l0 x hx hx2 n (hi * 2) (by omega) (by omega) (by omega))
        simp only [impl_rootOf.l0, w1, w2, if_pos hd]
    · refine Ev.step (f := fun k => impl_rootOf.l1 k x 0 hi) (fun k => ?_) (rootOf_l1 x hx _ 0 hi (Nat.le_refl _) (by omega) (by omega) (by omega) (by omega) (.inl rfl))
      simp only [impl_rootOf.l0, w1, if_neg hd]
theorem rootOf_ev (x : Int) (hx : 0 ≤ x) (hx2 : x ≤ 1000000000000) : Ev (fun k => impl_rootOf.f k x) (M.croot x, decide (M.root x * M.root x = x)) := by
  unfold impl_rootOf.f
  exact rootOf_l0 x hx hx2 _ 1 (Nat.le_refl _) (by omega) (by omega)
theorem floorRoot_ev (x : Int) (hx : 0 ≤ x) (hx2 : x ≤ 1000000000000) : Ev (fun k => impl_floorRoot.f k x) (M.root x) := by
  unfold impl_floorRoot.f
  refine Ev.bind (rootOf_ev x hx hx2) ?_
  have h1 := M.root_nonneg x
  have h2 : M.root x ≤ 1000001 := M.root_le hx (by omega) (by omega)
  simp only [decide_eq_true_eq]
  by_cases e : M.root x * M.root x = x
  · rw [if_pos e]; simp only [M.croot, if_pos e]; exact Ev.now _
  · rw [if_neg e]; simp only [M.croot, if_neg e]
    rw [M.wrap_id (by omega) (by omega)]
    have e2 : M.root x + 1 - 1 = M.root x := by omega
    rw [e2]; exact Ev.now _
theorem within_eq (a b c : Int) : impl_within.f a b c = some (decide (b ≤ a ∧ a ≤ c)) := by
  unfold impl_within.f
  by_cases h : b ≤ a <;> simp [h]
theorem isLong_eq (a : Int) : impl_isLong.f a = some (decide (1 ≤ a ∧ a ≤ 1000)) := by simp [impl_isLong.f, within_eq]
theorem iCount_ev (a b : Int) : Ev (fun k => impl_CountSquareLeans.f k a b) (if (1 ≤ a ∧ a ≤ 60) ∧ 1 ≤ b ∧ b ≤ 1000 then (if 8 * a * a ≤ b * b then 2 else 0, true) else (0, false)) := by
  simp only [impl_CountSquareLeans.f, within_eq, isLong_eq, Option.bind_some, decide_eq_true_eq]
  by_cases ha : 1 ≤ a ∧ a ≤ 60
  · refine M.evp ha ?_
    by_cases hb : 1 ≤ b ∧ b ≤ 1000
    · rw [if_pos ⟨ha, hb⟩]
      refine Ev.step (f := fun _ => some (if 8 * a * a ≤ b * b then 2 else 0, true)) (fun k => ?_) (Ev.now _)
      have h1 := M.mulb 480 60 (show (0:Int) ≤ 8 * a by omega) (by omega) (show (0:Int) ≤ a by omega) (by omega)
      have h2 := M.mulb 1000 1000 (show (0:Int) ≤ b by omega) (by omega) (show (0:Int) ≤ b by omega) (by omega)
      simp only [impl_CountSquareLeans.j0, hb, and_self, decide_true, Bool.not_true, Bool.false_eq_true, if_false]
      rw [M.wrap_id (n := 8 * a) (by omega) (by omega), M.wrap_id (n := 8 * a * a) (by omega) (by omega), M.wrap_id (n := b * b) (by omega) (by omega)]
      by_cases c : 8 * a * a ≤ b * b
      · rw [if_pos c, if_neg (by omega)]
      · rw [if_neg c, if_pos (by omega)]
    · rw [if_neg (fun h => hb h.2)]
      refine Ev.step (f := fun _ => some (0, false)) (fun k => ?_) (Ev.now _)
      simp [impl_CountSquareLeans.j0, hb]
  · refine M.evn ha ?_
    rw [if_neg (fun h => ha h.1)]
    refine Ev.step (f := fun _ => some (0, false)) (fun k => ?_) (Ev.now _)
    simp [impl_CountSquareLeans.j0]
theorem square_eq (a b : Int) (ha : -1000000 ≤ a ∧ a ≤ 1000000) (hb : -1000000 ≤ b ∧ b ≤ 1000000) : impl_square.f a b = some (a * a + b * b) := by
  have h1 := M.mulabs 1000000 1000000 (a := a) (b := a) (by omega) (by omega) (by omega) (by omega)
  have h2 := M.mulabs 1000000 1000000 (a := b) (b := b) (by omega) (by omega) (by omega) (by omega)
  unfold impl_square.f
  rw [M.wrap_id (n := a * a) (by omega) (by omega), M.wrap_id (n := b * b) (by omega) (by omega), M.wrap_id (by omega) (by omega)]
theorem iSum_ev (a b : Int) : Ev (fun k => impl_SquareLeanSum.f k a b) (if ((1 ≤ a ∧ a ≤ 60) ∧ 1 ≤ b ∧ b ≤ 1000) ∧ 8 * a * a ≤ b * b then (M.root (a * a + b * b) + a, (if M.root (a * a + b * b) * M.root (a * a + b * b) = a * a + b * b then 1 else 0), true) else (0, 0, false)) := by
  unfold impl_SquareLeanSum.f
  have bad : ∀ k, impl_SquareLeanSum.j0 (k + 1) a b true = some (0, 0, false) := fun k => by simp [impl_SquareLeanSum.j0]
  have hq := iCount_ev a b
  by_cases hab : (1 ≤ a ∧ a ≤ 60) ∧ 1 ≤ b ∧ b ≤ 1000
  · rw [if_pos hab] at hq
    refine Ev.bind hq ?_
    obtain ⟨ha, hb⟩ := hab
    refine M.evp rfl ?_
    by_cases hc : 8 * a * a ≤ b * b
    · rw [if_pos (show ((1 ≤ a ∧ a ≤ 60) ∧ 1 ≤ b ∧ b ≤ 1000) ∧ 8 * a * a ≤ b * b from ⟨⟨ha, hb⟩, hc⟩)]
      simp only [if_pos hc]
      have h1 := M.mulb 60 60 (a := a) (b := a) (by omega) (by omega) (by omega) (by omega)
      have h2 := M.mulb 1000 1000 (a := b) (b := b) (by omega) (by omega) (by omega) (by omega)
      have r0 := M.root_nonneg (a * a + b * b)
      have r2 : M.root (a * a + b * b) ≤ 1100 := M.root_le (by omega) (by omega) (by omega)
      have w : wrap64 (a + M.root (a * a + b * b)) = M.root (a * a + b * b) + a := by rw [M.wrap_id (by omega) (by omega)]; omega
      refine Ev.step (f := fun k => (impl_rootOf.f k (a * a + b * b)).bind fun t => if t.2 = true then (impl_floorRoot.f k (a * a + b * b)).bind fun u => some (wrap64 (a + u), 1, true) else (impl_floorRoot.f k (a * a + b * b)).bind fun u => some (wrap64 (a + u), 0, true)) (fun k => ?_) ?_
      · have e : ((2 : Int) == 0) = false := rfl
        simp only [impl_SquareLeanSum.j0, e, Bool.false_eq_true, if_false, square_eq a b (by omega) (by omega), Option.bind_some]
      · refine Ev.bind (rootOf_ev _ (by omega) (by omega)) ?_
        simp only [decide_eq_true_eq]
        by_cases hr : M.root (a * a + b * b) * M.root (a * a + b * b) = a * a + b * b
        · rw [if_pos hr]
          refine M.evp hr (Ev.bind (floorRoot_ev _ (by omega) (by omega)) ?_)
          rw [w]; exact Ev.now _
        · rw [if_neg hr]
          refine M.evn hr (Ev.bind (floorRoot_ev _ (by omega) (by omega)) ?_)
          rw [w]; exact Ev.now _
    · rw [if_neg (show ¬ (((1 ≤ a ∧ a ≤ 60) ∧ 1 ≤ b ∧ b ≤ 1000) ∧ 8 * a * a ≤ b * b) from fun h => hc h.2)]
      simp only [if_neg hc]
      exact Ev.step bad (Ev.now _)
  · rw [if_neg hab] at hq
    rw [if_neg (fun h => hab h.1)]
    exact Ev.bind hq (M.evn (by simp) (Ev.step bad (Ev.now _)))
theorem law : laws_FnExactSquareLeanSum.Pure := by
  intro a b _ _
  refine Ev.rounds ?_
  unfold laws_FnExactSquareLeanSum.f
  refine Ev.bind (sSum_ev a b) (Ev.bind (iSum_ev a b) ?_)
  simp only [bne_self_eq_false, if_true, Bool.false_eq_true, if_false]
  exact Ev.now _
end Go.Proofs.Ytpiahpolmmogbaa.PbFnExactSquareLeanSum
namespace Go.Proofs.Ytpiahpolmmogbaa.Pure
theorem FnExactSquareLeanSum : PFnExactSquareLeanSum.laws_FnExactSquareLeanSum.Pure := PbFnExactSquareLeanSum.law
end Go.Proofs.Ytpiahpolmmogbaa.Pure
