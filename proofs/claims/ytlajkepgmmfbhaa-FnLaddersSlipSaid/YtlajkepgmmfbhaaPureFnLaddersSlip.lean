/- The plain part of FnLaddersSlip: what the printed functions of the program and of the reference answer, in plain Lean, and that the law answers true. No condition. -/
import Derived.Test.YtlajkepgmmfbhaaStFnLaddersSlip
import Derived.Test.YtlajkepgmmfbhaaM
namespace Go.Proofs.Ytlajkepgmmfbhaa.PbFnLaddersSlip
open Go.RowKit Go.Proofs.Ytlajkepgmmfbhaa Go.Proofs.Ytlajkepgmmfbhaa.PFnLaddersSlip Go.Proofs.YtlajkepgmmfbhaaW.PrintWords Go.Proofs.YtlajkepgmmfbhaaW.PrintLast Go.Proofs.Ytlajkepgmmfbhaa.LwFnLaddersSlip
set_option linter.unusedVariables false
set_option linter.unusedSimpArgs false

theorem l1Least_eq (a b : Int) : spec_l1Least.f a b = some (if a < b then a else b) := by unfold spec_l1Least.f; split <;> rfl
theorem l1Most_eq (a b : Int) : spec_l1Most.f a b = some (if a > b then a else b) := by unfold spec_l1Most.f; split <;> rfl
theorem within_eq (a b c : Int) : impl_within.f a b c = some (decide (b ≤ a ∧ a ≤ c)) := by
  unfold impl_within.f
  by_cases h : b ≤ a <;> simp [h]
theorem isLong_eq (a : Int) : impl_isLong.f a = some (decide (1 ≤ a ∧ a ≤ 1000)) := by simp [impl_isLong.f, within_eq]
theorem impl_rootOf_l0_ev (x0 : Int) (x4 : Int) (x5 : Int) {r : (Int × Bool)} (h : Ev (fun k => if (wrap64 (x5 * x5)) < x0 then (impl_rootOf.l0 k x0 x4 (wrap64 (x5 * 2))) else (impl_rootOf.l1 k x0 x4 x5)) r) : Ev (fun k => impl_rootOf.l0 k x0 x4 x5) r := Ev.step (fun k => by simp only [impl_rootOf.l0]) h
theorem impl_rootOf_l1_ev (x0 : Int) (x4 : Int) (x5 : Int) {r : (Int × Bool)} (h : Ev (fun k => if x4 < x5 then (if (wrap64 ((wrap64 (Int.tdiv (wrap64 (x4 + x5)) 2)) * (wrap64 (Int.tdiv (wrap64 (x4 + x5)) 2)))) < x0 then (impl_rootOf.l1 k x0 (wrap64 ((wrap64 (Int.tdiv (wrap64 (x4 + x5)) 2)) + 1)) x5) else (impl_rootOf.l1 k x0 x4 (wrap64 (Int.tdiv (wrap64 (x4 + x5)) 2)))) else (some (x4, ((wrap64 (x4 * x4)) == x0)))) r) : Ev (fun k => impl_rootOf.l1 k x0 x4 x5) r := Ev.step (fun k => by simp only [impl_rootOf.l1]) h
theorem rootOf_l1 (x : Int) (hx : 0 ≤ x) : ∀ (n : Nat) (lo hi : Int), (hi - lo).toNat ≤ n → 0 ≤ lo → lo ≤ hi → hi ≤ 2147483648 → x ≤ hi * hi → (lo = 0 ∨ (lo - 1) * (lo - 1) < x) →
    Ev (fun k => impl_rootOf.l1 k x lo hi) (M.croot x, decide (M.root x * M.root x = x))
  | n, lo, hi, hn, h0, h1, h2, h3, h4 => by
    have w2 : wrap64 (lo + hi) = lo + hi := M.wrap_id (by omega) (by omega)
    have t1 : Int.tdiv (lo + hi) 2 = (lo + hi) / 2 := Int.tdiv_eq_ediv_of_nonneg (by omega)
    have w3 : wrap64 (Int.tdiv (lo + hi) 2) = (lo + hi) / 2 := by rw [t1]; exact M.wrap_id (by omega) (by omega)
    have hb := M.mulb 2147483648 2147483648 (a := (lo + hi) / 2) (b := (lo + hi) / 2) (by omega) (by omega) (by omega) (by omega)
    have w4 : wrap64 ((lo + hi) / 2 * ((lo + hi) / 2)) = (lo + hi) / 2 * ((lo + hi) / 2) := M.wrap_id (by omega) (by omega)
    have w5 : wrap64 ((lo + hi) / 2 + 1) = (lo + hi) / 2 + 1 := M.wrap_id (by omega) (by omega)
    by_cases hd : lo < hi
    · cases n with
      | zero => omega
      | succ n =>
        by_cases hm : (lo + hi) / 2 * ((lo + hi) / 2) < x
        · refine Ev.step (f := fun k => impl_rootOf.l1 k x ((lo + hi) / 2 + 1) hi) (fun k => ?_) (rootOf_l1 x hx n _ hi (by omega) (by omega) (by omega) h2 h3 (.inr (by
            have e : (lo + hi) / 2 + 1 - 1 = (lo + hi) / 2 := by omega
            rw [e]; exact hm)))
          simp only [impl_rootOf.l1, w2, w3, w4, w5, if_pos hd, if_pos hm]
        · refine Ev.step (f := fun k => impl_rootOf.l1 k x lo ((lo + hi) / 2)) (fun k => ?_) (rootOf_l1 x hx n lo _ (by omega) h0 (by omega) (by omega) (by omega) h4)
          simp only [impl_rootOf.l1, w2, w3, w4, if_pos hd, if_neg hm]
    · have e : lo = hi := by omega
      subst e
      have ⟨e1, e2⟩ := M.croot_unique h0 h3 hx h4
      have hb2 := M.mulb 2147483648 2147483648 (a := lo) (b := lo) (by omega) (by omega) (by omega) (by omega)
      have w6 : wrap64 (lo * lo) = lo * lo := M.wrap_id (by omega) (by omega)
      refine Ev.step (f := fun _ => some (lo, (lo * lo == x))) (fun k => ?_) ?_
      · simp only [impl_rootOf.l1, if_neg hd, w6]
      · have e3 : (lo * lo == x) = decide (M.root x * M.root x = x) := by
          rw [Bool.eq_iff_iff]; simp only [beq_iff_eq, decide_eq_true_eq]; exact e2
        rw [e3, e1]
        exact Ev.now _
theorem rootOf_l0 (x : Int) (hx : 0 ≤ x) (hx2 : x ≤ 1000000000000) : ∀ (n : Nat) (hi : Int), (2000000 - hi).toNat ≤ n → 1 ≤ hi → hi ≤ 2000000 →
    Ev (fun k => impl_rootOf.l0 k x 0 hi) (M.croot x, decide (M.root x * M.root x = x))
  | n, hi, hn, h0, h2 => by
    have hb := M.mulb 2000000 2000000 (a := hi) (b := hi) (by omega) (by omega) (by omega) (by omega)
    have w1 : wrap64 (hi * hi) = hi * hi := M.wrap_id (by omega) (by omega)
    have w2 : wrap64 (hi * 2) = hi * 2 := M.wrap_id (by omega) (by omega)
    by_cases hd : hi * hi < x
    · have hlt : hi < 1000000 := M.lt_of_sq (by omega) (by omega)
      cases n with
      | zero => omega
      | succ n =>
        refine Ev.step (f := fun k => impl_rootOf.l0 k x 0 (hi * 2)) (fun k => ?_) (rootOf_l0 x hx hx2 n (hi * 2) (by omega) (by omega) (by omega))
        simp only [impl_rootOf.l0, w1, w2, if_pos hd]
    · refine Ev.step (f := fun k => impl_rootOf.l1 k x 0 hi) (fun k => ?_) (rootOf_l1 x hx _ 0 hi (Nat.le_refl _) (by omega) (by omega) (by omega) (by omega) (.inl rfl))
      simp only [impl_rootOf.l0, w1, if_neg hd]
theorem rootOf_ev (x : Int) (hx : 0 ≤ x) (hx2 : x ≤ 1000000000000) : Ev (fun k => impl_rootOf.f k x) (M.croot x, decide (M.root x * M.root x = x)) := by
  unfold impl_rootOf.f
  exact rootOf_l0 x hx hx2 _ 1 (Nat.le_refl _) (by omega) (by omega)
theorem floorRoot_ev (x : Int) (hx : 0 ≤ x) (hx2 : x ≤ 1000000000000) : Ev (fun k => impl_floorRoot.f k x) (M.root x) := by
  unfold impl_floorRoot.f
  refine Ev.bind (rootOf_ev x hx hx2) ?_
  have h1 := M.root_nonneg x
  have h2 : M.root x ≤ 1000001 := M.root_le hx (by omega) (by omega)
  simp only [decide_eq_true_eq]
  by_cases e : M.root x * M.root x = x
  · rw [if_pos e]; simp only [M.croot, if_pos e]; exact Ev.now _
  · rw [if_neg e]; simp only [M.croot, if_neg e]
    rw [M.wrap_id (by omega) (by omega)]
    have e2 : M.root x + 1 - 1 = M.root x := by omega
    rw [e2]; exact Ev.now _
theorem impl_SlipHeights_j0_ev (x0 : Int) (x1 : Int) (x2 : Int) (x3 : Int) (x30 : Bool) {r : (List Int × Bool)} (h : Ev (fun k => if x30 = true then (some (([] : List Int), false)) else (impl_SlipHeights.l0 k x0 x1 x2 x3 (([] : List Int)) 0)) r) : Ev (fun k => impl_SlipHeights.j0 k x0 x1 x2 x3 x30) r := Ev.step (fun k => by simp only [impl_SlipHeights.j0]) h
theorem impl_SlipHeights_l0_ev (x0 : Int) (x1 : Int) (x2 : Int) (x3 : Int) (x10 : List Int) (x11 : Int) {r : (List Int × Bool)} (h : Ev (fun k => if x11 ≤ x3 then (if x1 ≤ x0 then ((impl_floorRoot.f k (wrap64 ((wrap64 (x0 * x0)) - (wrap64 (x1 * x1))))).bind fun t161 => (if x10.length < 17592186044416 then (impl_SlipHeights.l0 k x0 (wrap64 (x1 + x2)) x2 x3 (x10 ++ [t161]) (wrap64 (x11 + 1))) else (none))) else (some (x10, true))) else (some (x10, true))) r) : Ev (fun k => impl_SlipHeights.l0 k x0 x1 x2 x3 x10 x11) r := Ev.step (fun k => by simp only [impl_SlipHeights.l0]) h
theorem iSlips_l0 (a b s : Int) (ha : 1 ≤ a ∧ a ≤ 1000) (hb : 1 ≤ b ∧ b ≤ 1000) (hs : 0 ≤ s ∧ s ≤ 50) : ∀ (n : Nat) (f : Int) (acc : List Int) (i : Int), (s + 1 - i).toNat = n → 0 ≤ f → f ≤ 2000 → 0 ≤ i → i ≤ s + 1 → acc.length ≤ i →
    Ev (fun k => impl_SlipHeights.l0 k a f b s acc i) (acc ++ M.slips a b f n, true)
  | 0, f, acc, i, hn, h1, h2, h3, h4, h5 => by
    have e : acc ++ M.slips a b f 0 = acc := by simp [M.slips]
    rw [e]
    exact impl_SlipHeights_l0_ev _ _ _ _ _ _ (M.evn (by omega) (Ev.now _))
  | n + 1, f, acc, i, hn, h1, h2, h3, h4, h5 => by
    refine impl_SlipHeights_l0_ev _ _ _ _ _ _ (M.evp (by omega) ?_)
    rw [M.slips]
    by_cases hf : f ≤ a
    · rw [if_pos hf]
      have q1 := M.mulb 1000 1000 (a := a) (b := a) (by omega) (by omega) (by omega) (by omega)
      have q2 := M.mulb 1000 1000 (a := f) (b := f) (by omega) (by omega) (by omega) (by omega)
      have q3 := M.sq_le h1 hf
      rw [M.wrap_id (n := a * a) (by omega) (by omega), M.wrap_id (n := f * f) (by omega) (by omega), M.wrap_id (n := a * a - f * f) (by omega) (by omega), M.wrap_id (n := f + b) (by omega) (by omega), M.wrap_id (n := i + 1) (by omega) (by omega)]
      refine M.evp hf (Ev.bind (floorRoot_ev _ (by omega) (by omega)) (M.evp (by omega) ?_))
      have := iSlips_l0 a b s ha hb hs n (f + b) (acc ++ [M.root (a * a - f * f)]) (i + 1) (by omega) (by omega) (by omega) (by omega) (by omega) (by simp; omega)
      simpa using this
    · rw [if_neg hf]
      simp only [List.append_nil]
      exact M.evn hf (Ev.now _)
theorem iSlips_ev (a f b s : Int) : Ev (fun k => impl_SlipHeights.f k a f b s) (if (1 ≤ a ∧ a ≤ 1000) ∧ (0 ≤ f ∧ f ≤ a) ∧ (1 ≤ b ∧ b ≤ 1000) ∧ 0 ≤ s ∧ s ≤ 50 then (M.slips a b f (s + 1).toNat, true) else ([], false)) := by
  simp only [impl_SlipHeights.f, isLong_eq, within_eq, Option.bind_some, decide_eq_true_eq]
  have bad : Ev (fun k => impl_SlipHeights.j0 k a f b s true) ([], false) := impl_SlipHeights_j0_ev _ _ _ _ _ (M.evp rfl (Ev.now _))
  by_cases h1 : 1 ≤ a ∧ a ≤ 1000
  · refine M.evp h1 ?_
    by_cases h2 : 0 ≤ f ∧ f ≤ a
    · refine M.evp h2 ?_
      by_cases h3 : 1 ≤ b ∧ b ≤ 1000
      · refine M.evp h3 ?_
        by_cases h4 : 0 ≤ s ∧ s ≤ 50
        · rw [if_pos ⟨h1, h2, h3, h4⟩]
          simp only [h4, and_self, decide_true, Bool.not_true]
          refine impl_SlipHeights_j0_ev _ _ _ _ _ (M.evn (by simp) ?_)
          simpa using iSlips_l0 a b s h1 h3 h4 (s + 1).toNat f [] 0 (by omega) (by omega) (by omega) (by omega) (by omega) (by simp)
        · rw [if_neg (fun h => h4 h.2.2.2)]
          simp only [h4, decide_false, Bool.not_false]
          exact bad
      · rw [if_neg (fun h => h3 h.2.2.1)]; exact M.evn h3 bad
    · rw [if_neg (fun h => h2 h.2.1)]; exact M.evn h2 bad
  · rw [if_neg (fun h => h1 h.1)]; exact M.evn h1 bad
theorem l1In_eq (a b c : Int) : spec_l1In.f a b c = some (decide (b ≤ a ∧ a ≤ c)) := by
  unfold spec_l1In.f
  by_cases h : b ≤ a <;> simp [h]
theorem lnLong_eq (a : Int) : spec_lnLong.f a = some (decide (1 ≤ a ∧ a ≤ 1000)) := by simp [spec_lnLong.f, l1In_eq]
theorem lnAsked_eq (a f b n : Int) : spec_lnAsked.f a f b n = some (decide ((1 ≤ a ∧ a ≤ 1000) ∧ (0 ≤ f ∧ f ≤ a) ∧ (1 ≤ b ∧ b ≤ 1000) ∧ 0 ≤ n ∧ n ≤ 50)) := by
  simp only [spec_lnAsked.f, lnLong_eq, l1In_eq, Option.bind_some, decide_eq_true_eq]
  by_cases h1 : 1 ≤ a ∧ a ≤ 1000
  · by_cases h2 : 0 ≤ f ∧ f ≤ a
    · by_cases h3 : 1 ≤ b ∧ b ≤ 1000
      · rw [if_pos h1, if_pos h2, if_pos h3]; simp [h1, h2, h3]
      · rw [if_pos h1, if_pos h2, if_neg h3]; simp [h3]
    · rw [if_pos h1, if_neg h2]; simp [h2]
  · rw [if_neg h1]; simp [h1]
theorem spec_clRoot_l0_ev (x0 : Int) (x3 : Int) (x4 : Int) {r : (Int)} (h : Ev (fun k => if x3 < (wrap64 (x4 - 1)) then (if (wrap64 ((wrap64 (Int.tdiv (wrap64 (x3 + x4)) 2)) * (wrap64 (Int.tdiv (wrap64 (x3 + x4)) 2)))) ≤ x0 then (spec_clRoot.l0 k x0 (wrap64 (Int.tdiv (wrap64 (x3 + x4)) 2)) x4) else (spec_clRoot.l0 k x0 x3 (wrap64 (Int.tdiv (wrap64 (x3 + x4)) 2)))) else (some x3)) r) : Ev (fun k => spec_clRoot.l0 k x0 x3 x4) r := Ev.step (fun k => by simp only [spec_clRoot.l0]) h
theorem clRoot_l0 (x : Int) (hx : 0 ≤ x) : ∀ (n : Nat) (lo hi : Int), (hi - lo).toNat ≤ n → 0 ≤ lo → lo < hi → hi ≤ 2147483648 → lo * lo ≤ x → x < hi * hi →
    Ev (fun k => spec_clRoot.l0 k x lo hi) (M.root x)
  | n, lo, hi, hn, h0, h1, h2, h3, h4 => by
    have w1 : wrap64 (hi - 1) = hi - 1 := M.wrap_id (by omega) (by omega)
    have w2 : wrap64 (lo + hi) = lo + hi := M.wrap_id (by omega) (by omega)
    have t1 : Int.tdiv (lo + hi) 2 = (lo + hi) / 2 := Int.tdiv_eq_ediv_of_nonneg (by omega)
    have w3 : wrap64 (Int.tdiv (lo + hi) 2) = (lo + hi) / 2 := by rw [t1]; exact M.wrap_id (by omega) (by omega)
    have hb := M.mulb 2147483648 2147483648 (a := (lo + hi) / 2) (b := (lo + hi) / 2) (by omega) (by omega) (by omega) (by omega)
    have w4 : wrap64 ((lo + hi) / 2 * ((lo + hi) / 2)) = (lo + hi) / 2 * ((lo + hi) / 2) := M.wrap_id (by omega) (by omega)
    by_cases hd : lo < hi - 1
    · cases n with
      | zero => omega
      | succ n =>
        by_cases hm : (lo + hi) / 2 * ((lo + hi) / 2) ≤ x
        · refine Ev.step (f := fun k => spec_clRoot.l0 k x ((lo + hi) / 2) hi) (fun k => ?_) (clRoot_l0 x hx n _ hi (by omega) (by omega) (by omega) h2 hm h4)
          simp only [spec_clRoot.l0, w1, w2, w3, w4, if_pos hd, if_pos hm]
        · refine Ev.step (f := fun k => spec_clRoot.l0 k x lo ((lo + hi) / 2)) (fun k => ?_) (clRoot_l0 x hx n lo _ (by omega) h0 (by omega) (by omega) h3 (by omega))
          simp only [spec_clRoot.l0, w1, w2, w3, w4, if_pos hd, if_neg hm]
    · have e : hi = lo + 1 := by omega
      subst e
      have : M.root x = lo := M.root_unique h0 h3 h4
      rw [this]
      refine Ev.step (f := fun _ => some lo) (fun k => ?_) (Ev.now _)
      simp only [spec_clRoot.l0, w1, if_neg hd]
theorem clRoot_ev (x : Int) (hx : 0 ≤ x) (hx2 : x ≤ 1000000000000) : Ev (fun k => spec_clRoot.f k x) (M.root x) := by
  unfold spec_clRoot.f
  exact clRoot_l0 x hx _ 0 2147483648 (Nat.le_refl _) (by omega) (by omega) (by omega) (by omega) (by omega)
theorem spec_lnSlips_l0_ev (x0 : Int) (x1 : Int) (x2 : Int) (x3 : Int) (x9 : List Int) (x10 : Int) {r : (List Int)} (h : Ev (fun k => if x10 ≤ x3 then (if x1 ≤ x0 then ((spec_clRoot.f k (wrap64 ((wrap64 (x0 * x0)) - (wrap64 (x1 * x1))))).bind fun t170 => (if x9.length < 17592186044416 then (spec_lnSlips.l0 k x0 (wrap64 (x1 + x2)) x2 x3 (x9 ++ [t170]) (wrap64 (x10 + 1))) else (none))) else (some x9)) else (some x9)) r) : Ev (fun k => spec_lnSlips.l0 k x0 x1 x2 x3 x9 x10) r := Ev.step (fun k => by simp only [spec_lnSlips.l0]) h
theorem lnSlips_l0 (a b s : Int) (ha : 1 ≤ a ∧ a ≤ 1000) (hb : 1 ≤ b ∧ b ≤ 1000) (hs : 0 ≤ s ∧ s ≤ 50) : ∀ (n : Nat) (f : Int) (acc : List Int) (i : Int), (s + 1 - i).toNat = n → 0 ≤ f → f ≤ 2000 → 0 ≤ i → i ≤ s + 1 → acc.length ≤ i →
    Ev (fun k => spec_lnSlips.l0 k a f b s acc i) (acc ++ M.slips a b f n)
  | 0, f, acc, i, hn, h1, h2, h3, h4, h5 => by
    have e : acc ++ M.slips a b f 0 = acc := by simp [M.slips]
    rw [e]
    exact spec_lnSlips_l0_ev _ _ _ _ _ _ (M.evn (by omega) (Ev.now _))
  | n + 1, f, acc, i, hn, h1, h2, h3, h4, h5 => by
    refine spec_lnSlips_l0_ev _ _ _ _ _ _ (M.evp (by omega) ?_)
    rw [M.slips]
    by_cases hf : f ≤ a
    · rw [if_pos hf]
      have q1 := M.mulb 1000 1000 (a := a) (b := a) (by omega) (by omega) (by omega) (by omega)
      have q2 := M.mulb 1000 1000 (a := f) (b := f) (by omega) (by omega) (by omega) (by omega)
      have q3 := M.sq_le h1 hf
      rw [M.wrap_id (n := a * a) (by omega) (by omega), M.wrap_id (n := f * f) (by omega) (by omega), M.wrap_id (n := a * a - f * f) (by omega) (by omega), M.wrap_id (n := f + b) (by omega) (by omega), M.wrap_id (n := i + 1) (by omega) (by omega)]
      refine M.evp hf (Ev.bind (clRoot_ev _ (by omega) (by omega)) (M.evp (by omega) ?_))
      have := lnSlips_l0 a b s ha hb hs n (f + b) (acc ++ [M.root (a * a - f * f)]) (i + 1) (by omega) (by omega) (by omega) (by omega) (by omega) (by simp; omega)
      simpa using this
    · rw [if_neg hf]
      simp only [List.append_nil]
      exact M.evn hf (Ev.now _)
theorem lnSlips_ev (a f b s : Int) (ha : 1 ≤ a ∧ a ≤ 1000) (hf : 0 ≤ f ∧ f ≤ a) (hb : 1 ≤ b ∧ b ≤ 1000) (hs : 0 ≤ s ∧ s ≤ 50) : Ev (fun k => spec_lnSlips.f k a f b s) (M.slips a b f (s + 1).toNat) := by
  unfold spec_lnSlips.f
  simpa using lnSlips_l0 a b s ha hb hs (s + 1).toNat f [] 0 (by omega) (by omega) (by omega) (by omega) (by omega) (by simp)
theorem sSlips_ev (a f b s : Int) : Ev (fun k => spec_SlipHeights.f k a f b s) (if (1 ≤ a ∧ a ≤ 1000) ∧ (0 ≤ f ∧ f ≤ a) ∧ (1 ≤ b ∧ b ≤ 1000) ∧ 0 ≤ s ∧ s ≤ 50 then (M.slips a b f (s + 1).toNat, true) else ([], false)) := by
  simp only [spec_SlipHeights.f, lnAsked_eq, Option.bind_some, decide_eq_true_eq]
  by_cases h : (1 ≤ a ∧ a ≤ 1000) ∧ (0 ≤ f ∧ f ≤ a) ∧ (1 ≤ b ∧ b ≤ 1000) ∧ 0 ≤ s ∧ s ≤ 50
  · rw [if_pos h]
    exact M.evp h (Ev.bind (lnSlips_ev a f b s h.1 h.2.1 h.2.2.1 h.2.2.2) (Ev.now _))
  · rw [if_neg h]; exact M.evn h (Ev.now _)
theorem impl_SlipDrops_l0_ev (x10 : List Int) (x11 : Bool) (x12 : List Int) (x13 : Int) {r : (List Int × Bool)} (h : Ev (fun k => if x13 < (x10.length : Int) then (if 0 ≤ (wrap64 (x13 - 1)) then (if (wrap64 (x13 - 1)) < (x10.length : Int) then (if 0 ≤ x13 then (if x12.length < 17592186044416 then (impl_SlipDrops.l0 k x10 x11 (x12 ++ [wrap64 ((rd x10 (wrap64 (x13 - 1))) - (rd x10 x13))]) (wrap64 (x13 + 1))) else (none)) else (none)) else (none)) else (none)) else (some (x12, x11))) r) : Ev (fun k => impl_SlipDrops.l0 k x10 x11 x12 x13) r := Ev.step (fun k => by simp only [impl_SlipDrops.l0]) h
theorem rd_two' (done rest : List Int) (x y : Int) : rd (done ++ x :: y :: rest) (done.length : Int) = x ∧ rd (done ++ x :: y :: rest) ((done.length : Int) + 1) = y := by
  constructor
  · simp [rd]
  · have e : ((done.length : Int) + 1).toNat = done.length + 1 := by omega
    simp [rd, e]
theorem iDrops_l0 (ok : Bool) : ∀ (rest done acc : List Int) (x : Int), (done ++ x :: rest).length ≤ 1000000 → acc.length ≤ done.length → (∀ y ∈ done ++ x :: rest, 0 ≤ y ∧ y ≤ 1000) →
    Ev (fun k => impl_SlipDrops.l0 k (done ++ x :: rest) ok acc ((done.length : Int) + 1)) (acc ++ M.drops (x :: rest), ok)
  | [], done, acc, x, hl, ha, hm => by
    have e : acc ++ M.drops [x] = acc := by simp [M.drops]
    rw [e]
    exact impl_SlipDrops_l0_ev _ _ _ _ (M.evn (by simp) (Ev.now _))
  | y :: rest, done, acc, x, hl, ha, hm => by
    have h2 : (done ++ x :: y :: rest).length = done.length + rest.length + 2 := by simp; omega
    obtain ⟨r1, r2⟩ := rd_two' done rest x y
    have bx := hm x (by simp)
    have bY := hm y (by simp)
    have e1 : wrap64 ((done.length : Int) + 1 - 1) = (done.length : Int) := by rw [M.wrap_id (by omega) (by omega)]; omega
    refine impl_SlipDrops_l0_ev _ _ _ _ (M.evp (by omega) ?_)
    rw [e1, r1, r2, M.wrap_id (n := x - y) (by omega) (by omega), M.wrap_id (n := (done.length : Int) + 1 + 1) (by omega) (by omega)]
    refine M.evp (by omega) (M.evp (by omega) (M.evp (by omega) (M.evp (by omega) ?_)))
    have := iDrops_l0 ok rest (done ++ [x]) (acc ++ [x - y]) y (by simp at hl ⊢; omega) (by simp; omega) (by simpa using hm)
    simpa [M.drops] using this
theorem iDrops_ev (a f b s : Int) : Ev (fun k => impl_SlipDrops.f k a f b s) (if (1 ≤ a ∧ a ≤ 1000) ∧ (0 ≤ f ∧ f ≤ a) ∧ (1 ≤ b ∧ b ≤ 1000) ∧ 0 ≤ s ∧ s ≤ 50 then (M.drops (M.slips a b f (s + 1).toNat), true) else ([], false)) := by
  unfold impl_SlipDrops.f
  refine Ev.bind (iSlips_ev a f b s) ?_
  by_cases h : (1 ≤ a ∧ a ≤ 1000) ∧ (0 ≤ f ∧ f ≤ a) ∧ (1 ≤ b ∧ b ≤ 1000) ∧ 0 ≤ s ∧ s ≤ 50
  · simp only [if_pos h]
    have hb := M.slips_b (long := a) (by' := b) h.1 (by omega) (s + 1).toNat f (by omega)
    have hl := M.slips_length a b f (s + 1).toNat
    cases hq : M.slips a b f (s + 1).toNat with
    | nil => exact impl_SlipDrops_l0_ev _ _ _ _ (M.evn (by simp) (Ev.now _))
    | cons x rest =>
      rw [hq] at hb hl
      simpa using iDrops_l0 true rest [] [] x (by rw [List.nil_append]; omega) (by simp) (by simpa using hb)
  · simp only [if_neg h]
    exact impl_SlipDrops_l0_ev _ _ _ _ (M.evn (by simp) (Ev.now _))
theorem spec_SlipDrops_l0_ev (x10 : List Int) (x11 : List Int) (x12 : Int) {r : (List Int × Bool)} (h : Ev (fun k => if x12 < (x10.length : Int) then (if 0 ≤ (wrap64 (x12 - 1)) then (if (wrap64 (x12 - 1)) < (x10.length : Int) then (if 0 ≤ x12 then (if x11.length < 17592186044416 then (spec_SlipDrops.l0 k x10 (x11 ++ [wrap64 ((rd x10 (wrap64 (x12 - 1))) - (rd x10 x12))]) (wrap64 (x12 + 1))) else (none)) else (none)) else (none)) else (none)) else (some (x11, true))) r) : Ev (fun k => spec_SlipDrops.l0 k x10 x11 x12) r := Ev.step (fun k => by simp only [spec_SlipDrops.l0]) h
theorem rd_two (done rest : List Int) (x y : Int) : rd (done ++ x :: y :: rest) (done.length : Int) = x ∧ rd (done ++ x :: y :: rest) ((done.length : Int) + 1) = y := by
  constructor
  · simp [rd]
  · have e : ((done.length : Int) + 1).toNat = done.length + 1 := by omega
    simp [rd, e]
theorem sDrops_l0 : ∀ (rest done acc : List Int) (x : Int), (done ++ x :: rest).length ≤ 1000000 → acc.length ≤ done.length → (∀ y ∈ done ++ x :: rest, 0 ≤ y ∧ y ≤ 1000) →
    Ev (fun k => spec_SlipDrops.l0 k (done ++ x :: rest) acc ((done.length : Int) + 1)) (acc ++ M.drops (x :: rest), true)
  | [], done, acc, x, hl, ha, hm => by
    have e : acc ++ M.drops [x] = acc := by simp [M.drops]
    rw [e]
    exact spec_SlipDrops_l0_ev _ _ _ (M.evn (by simp) (Ev.now _))
  | y :: rest, done, acc, x, hl, ha, hm => by
    have h2 : (done ++ x :: y :: rest).length = done.length + rest.length + 2 := by simp; omega
    obtain ⟨r1, r2⟩ := rd_two done rest x y
    have bx := hm x (by simp)
    have bY := hm y (by simp)
    have e1 : wrap64 ((done.length : Int) + 1 - 1) = (done.length : Int) := by rw [M.wrap_id (by omega) (by omega)]; omega
    refine spec_SlipDrops_l0_ev _ _ _ (M.evp (by omega) ?_)
    rw [e1, r1, r2, M.wrap_id (n := x - y) (by omega) (by omega), M.wrap_id (n := (done.length : Int) + 1 + 1) (by omega) (by omega)]
    refine M.evp (by omega) (M.evp (by omega) (M.evp (by omega) (M.evp (by omega) ?_)))
    have := sDrops_l0 rest (done ++ [x]) (acc ++ [x - y]) y (by simp at hl ⊢; omega) (by simp; omega) (by simpa using hm)
    simpa [M.drops] using this
theorem sDrops_ev (a f b s : Int) : Ev (fun k => spec_SlipDrops.f k a f b s) (if (1 ≤ a ∧ a ≤ 1000) ∧ (0 ≤ f ∧ f ≤ a) ∧ (1 ≤ b ∧ b ≤ 1000) ∧ 0 ≤ s ∧ s ≤ 50 then (M.drops (M.slips a b f (s + 1).toNat), true) else ([], false)) := by
  simp only [spec_SlipDrops.f, lnAsked_eq, Option.bind_some, decide_eq_true_eq]
  by_cases h : (1 ≤ a ∧ a ≤ 1000) ∧ (0 ≤ f ∧ f ≤ a) ∧ (1 ≤ b ∧ b ≤ 1000) ∧ 0 ≤ s ∧ s ≤ 50
  · rw [if_pos h]
    refine M.evp h (Ev.bind (lnSlips_ev a f b s h.1 h.2.1 h.2.2.1 h.2.2.2) ?_)
    have hb := M.slips_b (long := a) (by' := b) h.1 (by omega) (s + 1).toNat f (by omega)
    have hl := M.slips_length a b f (s + 1).toNat
    cases hq : M.slips a b f (s + 1).toNat with
    | nil => exact spec_SlipDrops_l0_ev _ _ _ (M.evn (by simp) (Ev.now _))
    | cons x rest =>
      rw [hq] at hb hl
      simpa using sDrops_l0 rest [] [] x (by rw [List.nil_append]; omega) (by simp) (by simpa using hb)
  · rw [if_neg h]; exact M.evn h (Ev.now _)
theorem laws_jSame_l0_ev (x0 : List Int) (x1 : List Int) (x12 : Int) (x13 : Int) {r : (Bool)} (h : Ev (fun k => if x13 < x12 then (if 0 ≤ x13 then (if x13 < (x0.length : Int) then (if x13 < (x1.length : Int) then (if (rd x0 x13) = (rd x1 x13) then (laws_jSame.l0 k x0 x1 x12 (wrap64 (x13 + 1))) else (some false)) else (none)) else (none)) else (none)) else (some true)) r) : Ev (fun k => laws_jSame.l0 k x0 x1 x12 x13) r := Ev.step (fun k => by simp only [laws_jSame.l0]) h
theorem jSame_mid (done rest : List Int) (x : Int) : rd (done ++ x :: rest) (done.length : Int) = x := by simp [rd]
theorem jSame_l0 (n : Int) : ∀ (rest done : List Int), ((done ++ rest).length : Int) = n → n ≤ 1000000000000 → Ev (fun k => laws_jSame.l0 k (done ++ rest) (done ++ rest) n done.length) true
  | [], done, hn, _ => laws_jSame_l0_ev _ _ _ _ (M.evn (by simp at hn; omega) (Ev.now _))
  | x :: rest, done, hn, hl => by
    have h2 : (done ++ x :: rest).length = done.length + rest.length + 1 := by simp; omega
    refine laws_jSame_l0_ev _ _ _ _ (M.evp (by omega) (M.evp (by omega) (M.evp (by omega) (M.evp (by omega) (M.evp rfl ?_)))))
    have ih := jSame_l0 n rest (done ++ [x]) (by simpa using hn) hl
    have e : wrap64 ((done.length : Int) + 1) = ((done ++ [x]).length : Int) := by rw [M.wrap_id (by omega) (by omega)]; simp
    rw [e]
    simpa using ih
theorem jSame_self (l : List Int) (h : l.length ≤ 1000000000000) : Ev (fun k => laws_jSame.f k l l) true := by
  unfold laws_jSame.f
  exact M.evp rfl (by simpa using jSame_l0 (l.length : Int) l [] (by simp) (by omega))
theorem iFoot_ev (a b : Int) : Ev (fun k => impl_FootForHeight.f k a b) (if (1 ≤ a ∧ a ≤ 1000) ∧ 0 ≤ b ∧ b ≤ a then (M.root (a * a - b * b), true) else (0, false)) := by
  simp only [impl_FootForHeight.f, isLong_eq, within_eq, Option.bind_some, decide_eq_true_eq]
  by_cases ha : 1 ≤ a ∧ a ≤ 1000
  · refine M.evp ha ?_
    by_cases hb : 0 ≤ b ∧ b ≤ a
    · refine M.evp hb ?_
      have h1 := M.mulb 1000 1000 (a := a) (b := a) (by omega) (by omega) (by omega) (by omega)
      have h2 := M.mulb 1000 1000 (a := b) (b := b) (by omega) (by omega) (by omega) (by omega)
      have h3 := M.sq_le hb.1 hb.2
      rw [if_pos ⟨ha, hb⟩, M.wrap_id (n := a * a) (by omega) (by omega), M.wrap_id (n := b * b) (by omega) (by omega), M.wrap_id (by omega) (by omega)]
      exact Ev.bind (floorRoot_ev _ (by omega) (by omega)) (Ev.now _)
    · rw [if_neg (fun h => hb h.2)]; exact M.evn hb (Ev.now _)
  · rw [if_neg (fun h => ha h.1)]; exact M.evn ha (Ev.now _)
theorem sFoot_ev (a b : Int) : Ev (fun k => spec_FootForHeight.f k a b) (if (1 ≤ a ∧ a ≤ 1000) ∧ 0 ≤ b ∧ b ≤ a then (M.root (a * a - b * b), true) else (0, false)) := by
  simp only [spec_FootForHeight.f, lnLong_eq, l1In_eq, Option.bind_some, decide_eq_true_eq]
  by_cases ha : 1 ≤ a ∧ a ≤ 1000
  · refine M.evp ha ?_
    by_cases hb : 0 ≤ b ∧ b ≤ a
    · refine M.evp hb ?_
      have h1 := M.mulb 1000 1000 (a := a) (b := a) (by omega) (by omega) (by omega) (by omega)
      have h2 := M.mulb 1000 1000 (a := b) (b := b) (by omega) (by omega) (by omega) (by omega)
      have h3 := M.sq_le hb.1 hb.2
      rw [if_pos ⟨ha, hb⟩, M.wrap_id (n := a * a) (by omega) (by omega), M.wrap_id (n := b * b) (by omega) (by omega), M.wrap_id (by omega) (by omega)]
      exact Ev.bind (clRoot_ev _ (by omega) (by omega)) (Ev.now _)
    · rw [if_neg (fun h => hb h.2)]; exact M.evn hb (Ev.now _)
  · rw [if_neg (fun h => ha h.1)]; exact M.evn ha (Ev.now _)
theorem impl_gcd_l0_ev (x0 : Int) (x1 : Int) {r : (Int)} (h : Ev (fun k => if x1 = 0 then (some (mx x0 (wrap64 (-x0)))) else (impl_gcd.l0 k x1 (Int.tmod x0 x1))) r) : Ev (fun k => impl_gcd.l0 k x0 x1) r := Ev.step (fun k => by simp only [impl_gcd.l0]) h
theorem gcd_l0 : ∀ (n : Nat) (a b : Int), b.natAbs ≤ n → -9223372036854775807 ≤ a → a ≤ 9223372036854775807 → -9223372036854775807 ≤ b → b ≤ 9223372036854775807 →
    impl_gcd.l0 (n + 1) a b = some (M.g a b)
  | n, a, b, hn, h1, h2, h3, h4 => by
    simp only [impl_gcd.l0]
    by_cases hb : b = 0
    · subst hb
      rw [if_pos rfl, M.g_zero, M.wrap_id (by omega) (by omega)]
      unfold mx; congr 1; omega
    · rw [if_neg hb]
      have e : (Int.tmod a b).natAbs = a.natAbs % b.natAbs := Int.natAbs_tmod ..
      have lt : a.natAbs % b.natAbs < b.natAbs := Nat.mod_lt _ (by omega)
      cases n with
      | zero => omega
      | succ n => rw [gcd_l0 n b (Int.tmod a b) (by omega) h3 h4 (by omega) (by omega), M.g_tmod]
theorem gcd_ev (a b : Int) (h1 : -9223372036854775807 ≤ a) (h2 : a ≤ 9223372036854775807) (h3 : -9223372036854775807 ≤ b) (h4 : b ≤ 9223372036854775807) :
    Ev (fun k => impl_gcd.f k a b) (M.g a b) :=
  Ev.of (impl_gcd.mono a b) (k := b.natAbs + 1) (by unfold impl_gcd.f; exact gcd_l0 _ a b (Nat.le_refl _) h1 h2 h3 h4)
theorem fraction_ev (a b : Int) (h1 : -9223372036854775807 ≤ a) (h2 : a ≤ 9223372036854775807) (h3 : 0 < b) (h4 : b ≤ 9223372036854775807) :
    Ev (fun k => impl_fraction.f k a b) (M.l1 a b, M.l2 a b, true) := by
  simp only [impl_fraction.f]
  refine Ev.bind (gcd_ev a b h1 h2 (by omega) h4) ?_
  have hg := M.g_pos_r (a := a) h3
  have ha := M.l1_abs (a := a) h3
  have hl := M.l2_le (a := a) h3
  have hp := M.l2_pos (a := a) h3
  rw [if_neg (by omega), M.tdiv_l1 h3, M.tdiv_l2 h3, M.wrap_id (by omega) (by omega), M.wrap_id (by omega) (by omega)]
  exact Ev.now _
theorem impl_PartOfLadder_j0_ev (x0 : Int) (x1 : Int) (x2 : Int) (x3 : Int) (x34 : Bool) {r : (List Int × Bool)} (h : Ev (fun k => if x34 = true then (some (([] : List Int), false)) else ((impl_fraction.f k (wrap64 (x0 * (wrap64 (x3 - x2)))) x3).bind fun bt231 => ((impl_fraction.f k (wrap64 (x1 * x2)) x3).bind fun bt234 => (some ((([bt231.1, bt231.2.1, bt234.1, bt234.2.1] : List Int)), true))))) r) : Ev (fun k => impl_PartOfLadder.j0 k x0 x1 x2 x3 x34) r := Ev.step (fun k => by simp only [impl_PartOfLadder.j0]) h
theorem iPart_ev (a b n d : Int) : Ev (fun k => impl_PartOfLadder.f k a b n d) (if (1 ≤ a ∧ a ≤ 1000) ∧ (1 ≤ b ∧ b ≤ 1000) ∧ (1 ≤ d ∧ d ≤ 100) ∧ 0 ≤ n ∧ n ≤ d then ([M.l1 (a * (d - n)) d, M.l2 (a * (d - n)) d, M.l1 (b * n) d, M.l2 (b * n) d], true) else ([], false)) := by
  simp only [impl_PartOfLadder.f, isLong_eq, within_eq, Option.bind_some, decide_eq_true_eq]
  have bad : ∀ k, impl_PartOfLadder.j0 (k + 1) a b n d true = some ([], false) := fun k => by simp [impl_PartOfLadder.j0]
  by_cases ha : 1 ≤ a ∧ a ≤ 1000
  · refine M.evp ha ?_
    by_cases hb : 1 ≤ b ∧ b ≤ 1000
    · refine M.evp hb ?_
      by_cases hd : 1 ≤ d ∧ d ≤ 100
      · refine M.evp hd ?_
        by_cases hn : 0 ≤ n ∧ n ≤ d
        · rw [if_pos ⟨ha, hb, hd, hn⟩]
          have h1 := M.mulb 1000 100 (a := a) (b := d - n) (by omega) (by omega) (by omega) (by omega)
          have h2 := M.mulb 1000 100 (a := b) (b := n) (by omega) (by omega) (by omega) (by omega)
          refine Ev.step (f := fun k => (impl_fraction.f k (a * (d - n)) d).bind fun x => (impl_fraction.f k (b * n) d).bind fun y => some ([x.1, x.2.1, y.1, y.2.1], true)) (fun k => ?_) ?_
          · simp only [impl_PartOfLadder.j0, hn, and_self, decide_true, Bool.not_true, Bool.false_eq_true, if_false]
            rw [M.wrap_id (n := d - n) (by omega) (by omega), M.wrap_id (n := a * (d - n)) (by omega) (by omega), M.wrap_id (n := b * n) (by omega) (by omega)]
          · exact Ev.bind (fraction_ev _ d (by omega) (by omega) (by omega) (by omega)) (Ev.bind (fraction_ev _ d (by omega) (by omega) (by omega) (by omega)) (Ev.now _))
        · rw [if_neg (fun h => hn h.2.2.2)]
          simp only [hn, decide_false, Bool.not_false]
          exact Ev.step bad (Ev.now _)
      · rw [if_neg (fun h => hd h.2.2.1)]; exact M.evn hd (Ev.step bad (Ev.now _))
    · rw [if_neg (fun h => hb h.2.1)]; exact M.evn hb (Ev.step bad (Ev.now _))
  · rw [if_neg (fun h => ha h.1)]; exact M.evn ha (Ev.step bad (Ev.now _))
theorem iMiddleOf_ev (a b : Int) : Ev (fun k => impl_MiddleOf.f k a b) (if (1 ≤ a ∧ a ≤ 1000) ∧ 1 ≤ b ∧ b ≤ 1000 then (M.l1 a 2, M.l2 a 2, M.l1 b 2, M.l2 b 2, true) else (0, 0, 0, 0, false)) := by
  unfold impl_MiddleOf.f
  have hp := iPart_ev a b 1 2
  by_cases h : (1 ≤ a ∧ a ≤ 1000) ∧ 1 ≤ b ∧ b ≤ 1000
  · have e1 : a * (2 - 1) = a := by omega
    have e2 : b * 1 = b := by omega
    rw [if_pos ⟨h.1, h.2, by omega, by omega⟩, e1, e2] at hp
    rw [if_pos h]
    exact Ev.bind hp (Ev.now _)
  · rw [if_neg (fun g => h ⟨g.1, g.2.1⟩)] at hp
    rw [if_neg h]
    exact Ev.bind hp (Ev.now _)
theorem spec_clLow_l0_ev (x0 : Int) (x1 : Int) (x6 : Int) (x7 : Int) {r : (Int × Int)} (h : Ev (fun k => if x7 > 0 then (if x7 = 0 then (none) else (spec_clLow.l0 k x0 x1 x7 (Int.tmod x6 x7))) else (if x6 = 0 then (none) else (some (wrap64 (Int.tdiv x0 x6), wrap64 (Int.tdiv x1 x6))))) r) : Ev (fun k => spec_clLow.l0 k x0 x1 x6 x7) r := Ev.step (fun k => by simp only [spec_clLow.l0]) h
theorem clLow_l0 (x y : Int) : ∀ (n : Nat) (a b : Int), b.toNat ≤ n → 0 ≤ a → 0 ≤ b → 0 < M.g a b →
    spec_clLow.l0 (n + 1) x y a b = some (wrap64 (Int.tdiv x (M.g a b)), wrap64 (Int.tdiv y (M.g a b)))
  | n, a, b, hn, h1, h3, h5 => by
    simp only [spec_clLow.l0]
    by_cases hb : b = 0
    · subst hb
      have e : M.g a 0 = a := by rw [M.g_zero]; omega
      rw [e] at h5 ⊢
      rw [if_neg (by omega), if_neg (by omega)]
    · rw [if_pos (by omega), if_neg hb]
      have e : (Int.tmod a b).natAbs = a.natAbs % b.natAbs := Int.natAbs_tmod ..
      have lt : a.natAbs % b.natAbs < b.natAbs := Nat.mod_lt _ (by omega)
      have nn : 0 ≤ Int.tmod a b := Int.tmod_nonneg b h1
      cases n with
      | zero => omega
      | succ n => rw [clLow_l0 x y n b (Int.tmod a b) (by omega) h3 nn (by rw [M.g_tmod]; exact h5), M.g_tmod]
theorem clLow_ev (a b : Int) (h1 : 0 ≤ a) (h2 : a ≤ 9223372036854775807) (h3 : 0 < b) (h4 : b ≤ 9223372036854775807) :
    Ev (fun k => spec_clLow.f k a b) (M.l1 a b, M.l2 a b) := by
  refine Ev.of (spec_clLow.mono a b) (k := b.toNat + 1) ?_
  have hg := M.g_pos_r (a := a) h3
  have ha := M.l1_abs (a := a) h3
  have hl := M.l2_le (a := a) h3
  have hp := M.l2_pos (a := a) h3
  unfold spec_clLow.f
  rw [clLow_l0 a b b.toNat a b (Nat.le_refl _) h1 (by omega) hg, M.tdiv_l1 h3, M.tdiv_l2 h3, M.wrap_id (by omega) (by omega), M.wrap_id (by omega) (by omega)]
theorem spec_MiddleOf_j0_ev (x0 : Int) (x1 : Int) (x20 : Bool) {r : (Int × Int × Int × Int × Bool)} (h : Ev (fun k => if x20 = true then (some (0, 0, 0, 0, false)) else ((spec_clLow.f k x0 2).bind fun bt250 => ((spec_clLow.f k x1 2).bind fun bt252 => (some (bt250.1, bt250.2, bt252.1, bt252.2, true))))) r) : Ev (fun k => spec_MiddleOf.j0 k x0 x1 x20) r := Ev.step (fun k => by simp only [spec_MiddleOf.j0]) h
theorem sMiddleOf_ev (a b : Int) : Ev (fun k => spec_MiddleOf.f k a b) (if (1 ≤ a ∧ a ≤ 1000) ∧ 1 ≤ b ∧ b ≤ 1000 then (M.l1 a 2, M.l2 a 2, M.l1 b 2, M.l2 b 2, true) else (0, 0, 0, 0, false)) := by
  simp only [spec_MiddleOf.f, lnLong_eq, Option.bind_some, decide_eq_true_eq]
  by_cases ha : 1 ≤ a ∧ a ≤ 1000
  · refine M.evp ha ?_
    by_cases hb : 1 ≤ b ∧ b ≤ 1000
    · rw [if_pos ⟨ha, hb⟩]
      refine Ev.step (f := fun k => (spec_clLow.f k a 2).bind fun x => (spec_clLow.f k b 2).bind fun y => some (x.1, x.2, y.1, y.2, true)) (fun k => by simp [spec_MiddleOf.j0, hb]) ?_
      exact Ev.bind (clLow_ev a 2 (by omega) (by omega) (by omega) (by omega)) (Ev.bind (clLow_ev b 2 (by omega) (by omega) (by omega) (by omega)) (Ev.now _))
    · rw [if_neg (fun h => hb h.2)]
      refine Ev.step (f := fun _ => some (0, 0, 0, 0, false)) (fun k => ?_) (Ev.now _)
      simp [spec_MiddleOf.j0, hb]
  · refine M.evn ha ?_
    rw [if_neg (fun h => ha h.1)]
    refine Ev.step (f := fun _ => some (0, 0, 0, 0, false)) (fun k => ?_) (Ev.now _)
    simp [spec_MiddleOf.j0]
theorem spec_PartOfLadder_j0_ev (x0 : Int) (x1 : Int) (x2 : Int) (x3 : Int) (x32 : Bool) {r : (List Int × Bool)} (h : Ev (fun k => if x32 = true then (some (([] : List Int), false)) else ((spec_clLow.f k (wrap64 (x0 * (wrap64 (x3 - x2)))) x3).bind fun bt277 => ((spec_clLow.f k (wrap64 (x1 * x2)) x3).bind fun bt279 => (some ((([bt277.1, bt277.2, bt279.1, bt279.2] : List Int)), true))))) r) : Ev (fun k => spec_PartOfLadder.j0 k x0 x1 x2 x3 x32) r := Ev.step (fun k => by simp only [spec_PartOfLadder.j0]) h
theorem sPart_ev (a b n d : Int) : Ev (fun k => spec_PartOfLadder.f k a b n d) (if (1 ≤ a ∧ a ≤ 1000) ∧ (1 ≤ b ∧ b ≤ 1000) ∧ (1 ≤ d ∧ d ≤ 100) ∧ 0 ≤ n ∧ n ≤ d then ([M.l1 (a * (d - n)) d, M.l2 (a * (d - n)) d, M.l1 (b * n) d, M.l2 (b * n) d], true) else ([], false)) := by
  simp only [spec_PartOfLadder.f, lnLong_eq, l1In_eq, Option.bind_some, decide_eq_true_eq]
  have bad : ∀ k, spec_PartOfLadder.j0 (k + 1) a b n d true = some ([], false) := fun k => by simp [spec_PartOfLadder.j0]
  by_cases ha : 1 ≤ a ∧ a ≤ 1000
  · refine M.evp ha ?_
    by_cases hb : 1 ≤ b ∧ b ≤ 1000
    · refine M.evp hb ?_
      by_cases hd : 1 ≤ d ∧ d ≤ 100
      · refine M.evp hd ?_
        by_cases hn : 0 ≤ n ∧ n ≤ d
        · rw [if_pos ⟨ha, hb, hd, hn⟩]
          have h1 := M.mulb 1000 100 (a := a) (b := d - n) (by omega) (by omega) (by omega) (by omega)
          have h2 := M.mulb 1000 100 (a := b) (b := n) (by omega) (by omega) (by omega) (by omega)
          refine Ev.step (f := fun k => (spec_clLow.f k (a * (d - n)) d).bind fun x => (spec_clLow.f k (b * n) d).bind fun y => some ([x.1, x.2, y.1, y.2], true)) (fun k => ?_) ?_
          · simp only [spec_PartOfLadder.j0, hn, and_self, decide_true, Bool.not_true, Bool.false_eq_true, if_false]
            rw [M.wrap_id (n := d - n) (by omega) (by omega), M.wrap_id (n := a * (d - n)) (by omega) (by omega), M.wrap_id (n := b * n) (by omega) (by omega)]
          · exact Ev.bind (clLow_ev _ d (by omega) (by omega) (by omega) (by omega)) (Ev.bind (clLow_ev _ d (by omega) (by omega) (by omega) (by omega)) (Ev.now _))
        · rw [if_neg (fun h => hn h.2.2.2)]
          simp only [hn, decide_false, Bool.not_false]
          exact Ev.step bad (Ev.now _)
      · rw [if_neg (fun h => hd h.2.2.1)]; exact M.evn hd (Ev.step bad (Ev.now _))
    · rw [if_neg (fun h => hb h.2.1)]; exact M.evn hb (Ev.step bad (Ev.now _))
  · rw [if_neg (fun h => ha h.1)]; exact M.evn ha (Ev.step bad (Ev.now _))
theorem impl_CountSquareLeans_j0_ev (x0 : Int) (x1 : Int) (x13 : Bool) {r : (Int × Bool)} (h : Ev (fun k => if x13 = true then (some (0, false)) else (if (wrap64 ((wrap64 (8 * x0)) * x0)) > (wrap64 (x1 * x1)) then (some (0, true)) else (some (2, true)))) r) : Ev (fun k => impl_CountSquareLeans.j0 k x0 x1 x13) r := Ev.step (fun k => by simp only [impl_CountSquareLeans.j0]) h
theorem iCount_ev (a b : Int) : Ev (fun k => impl_CountSquareLeans.f k a b) (if (1 ≤ a ∧ a ≤ 60) ∧ 1 ≤ b ∧ b ≤ 1000 then (if 8 * a * a ≤ b * b then 2 else 0, true) else (0, false)) := by
  simp only [impl_CountSquareLeans.f, within_eq, isLong_eq, Option.bind_some, decide_eq_true_eq]
  by_cases ha : 1 ≤ a ∧ a ≤ 60
  · refine M.evp ha ?_
    by_cases hb : 1 ≤ b ∧ b ≤ 1000
    · rw [if_pos ⟨ha, hb⟩]
      refine Ev.step (f := fun _ => some (if 8 * a * a ≤ b * b then 2 else 0, true)) (fun k => ?_) (Ev.now _)
      have h1 := M.mulb 480 60 (show (0:Int) ≤ 8 * a by omega) (by omega) (show (0:Int) ≤ a by omega) (by omega)
      have h2 := M.mulb 1000 1000 (show (0:Int) ≤ b by omega) (by omega) (show (0:Int) ≤ b by omega) (by omega)
      simp only [impl_CountSquareLeans.j0, hb, and_self, decide_true, Bool.not_true, Bool.false_eq_true, if_false]
      rw [M.wrap_id (n := 8 * a) (by omega) (by omega), M.wrap_id (n := 8 * a * a) (by omega) (by omega), M.wrap_id (n := b * b) (by omega) (by omega)]
      by_cases c : 8 * a * a ≤ b * b
      · rw [if_pos c, if_neg (by omega)]
      · rw [if_neg c, if_pos (by omega)]
    · rw [if_neg (fun h => hb h.2)]
      refine Ev.step (f := fun _ => some (0, false)) (fun k => ?_) (Ev.now _)
      simp [impl_CountSquareLeans.j0, hb]
  · refine M.evn ha ?_
    rw [if_neg (fun h => ha h.1)]
    refine Ev.step (f := fun _ => some (0, false)) (fun k => ?_) (Ev.now _)
    simp [impl_CountSquareLeans.j0]
theorem square_eq (a b : Int) (ha : -1000000 ≤ a ∧ a ≤ 1000000) (hb : -1000000 ≤ b ∧ b ≤ 1000000) : impl_square.f a b = some (a * a + b * b) := by
  have h1 := M.mulabs 1000000 1000000 (a := a) (b := a) (by omega) (by omega) (by omega) (by omega)
  have h2 := M.mulabs 1000000 1000000 (a := b) (b := b) (by omega) (by omega) (by omega) (by omega)
  unfold impl_square.f
  rw [M.wrap_id (n := a * a) (by omega) (by omega), M.wrap_id (n := b * b) (by omega) (by omega), M.wrap_id (by omega) (by omega)]
theorem impl_SquareLeanSum_j0_ev (x0 : Int) (x1 : Int) (x24 : Bool) {r : (Int × Int × Bool)} (h : Ev (fun k => if x24 = true then (some (0, 0, false)) else ((impl_square.f x0 x1).bind fun t317 => ((impl_rootOf.f k t317).bind fun bt318 => (if bt318.2 = true then ((impl_floorRoot.f k t317).bind fun t320 => (some (wrap64 (x0 + t320), 1, true))) else ((impl_floorRoot.f k t317).bind fun t321 => (some (wrap64 (x0 + t321), 0, true))))))) r) : Ev (fun k => impl_SquareLeanSum.j0 k x0 x1 x24) r := Ev.step (fun k => by simp only [impl_SquareLeanSum.j0]) h
theorem iSum_ev (a b : Int) : Ev (fun k => impl_SquareLeanSum.f k a b) (if ((1 ≤ a ∧ a ≤ 60) ∧ 1 ≤ b ∧ b ≤ 1000) ∧ 8 * a * a ≤ b * b then (M.root (a * a + b * b) + a, (if M.root (a * a + b * b) * M.root (a * a + b * b) = a * a + b * b then 1 else 0), true) else (0, 0, false)) := by
  unfold impl_SquareLeanSum.f
  have bad : ∀ k, impl_SquareLeanSum.j0 (k + 1) a b true = some (0, 0, false) := fun k => by simp [impl_SquareLeanSum.j0]
  have hq := iCount_ev a b
  by_cases hab : (1 ≤ a ∧ a ≤ 60) ∧ 1 ≤ b ∧ b ≤ 1000
  · rw [if_pos hab] at hq
    refine Ev.bind hq ?_
    obtain ⟨ha, hb⟩ := hab
    refine M.evp rfl ?_
    by_cases hc : 8 * a * a ≤ b * b
    · rw [if_pos (show ((1 ≤ a ∧ a ≤ 60) ∧ 1 ≤ b ∧ b ≤ 1000) ∧ 8 * a * a ≤ b * b from ⟨⟨ha, hb⟩, hc⟩)]
      simp only [if_pos hc]
      have h1 := M.mulb 60 60 (a := a) (b := a) (by omega) (by omega) (by omega) (by omega)
      have h2 := M.mulb 1000 1000 (a := b) (b := b) (by omega) (by omega) (by omega) (by omega)
      have r0 := M.root_nonneg (a * a + b * b)
      have r2 : M.root (a * a + b * b) ≤ 1100 := M.root_le (by omega) (by omega) (by omega)
      have w : wrap64 (a + M.root (a * a + b * b)) = M.root (a * a + b * b) + a := by rw [M.wrap_id (by omega) (by omega)]; omega
      refine Ev.step (f := fun k => (impl_rootOf.f k (a * a + b * b)).bind fun t => if t.2 = true then (impl_floorRoot.f k (a * a + b * b)).bind fun u => some (wrap64 (a + u), 1, true) else (impl_floorRoot.f k (a * a + b * b)).bind fun u => some (wrap64 (a + u), 0, true)) (fun k => ?_) ?_
      · have e : ((2 : Int) == 0) = false := rfl
        simp only [impl_SquareLeanSum.j0, e, Bool.false_eq_true, if_false, square_eq a b (by omega) (by omega), Option.bind_some]
      · refine Ev.bind (rootOf_ev _ (by omega) (by omega)) ?_
        simp only [decide_eq_true_eq]
        by_cases hr : M.root (a * a + b * b) * M.root (a * a + b * b) = a * a + b * b
        · rw [if_pos hr]
          refine M.evp hr (Ev.bind (floorRoot_ev _ (by omega) (by omega)) ?_)
          rw [w]; exact Ev.now _
        · rw [if_neg hr]
          refine M.evn hr (Ev.bind (floorRoot_ev _ (by omega) (by omega)) ?_)
          rw [w]; exact Ev.now _
    · rw [if_neg (show ¬ (((1 ≤ a ∧ a ≤ 60) ∧ 1 ≤ b ∧ b ≤ 1000) ∧ 8 * a * a ≤ b * b) from fun h => hc h.2)]
      simp only [if_neg hc]
      exact Ev.step bad (Ev.now _)
  · rw [if_neg hab] at hq
    rw [if_neg (fun h => hab h.1)]
    exact Ev.bind hq (M.evn (by simp) (Ev.step bad (Ev.now _)))
theorem lnSide_eq (a : Int) : spec_lnSide.f a = some (decide (1 ≤ a ∧ a ≤ 60)) := by simp [spec_lnSide.f, l1In_eq]
theorem lnCan_eq (a b : Int) (ha : 1 ≤ a ∧ a ≤ 60) (hb : 1 ≤ b ∧ b ≤ 1000) : spec_lnCan.f a b = some (decide (8 * a * a ≤ b * b)) := by
  have h1 := M.mulb 480 60 (show (0:Int) ≤ 8 * a by omega) (by omega) (show (0:Int) ≤ a by omega) (by omega)
  have h2 := M.mulb 1000 1000 (show (0:Int) ≤ b by omega) (by omega) (show (0:Int) ≤ b by omega) (by omega)
  unfold spec_lnCan.f
  rw [M.wrap_id (n := 8 * a) (by omega) (by omega), M.wrap_id (n := 8 * a * a) (by omega) (by omega), M.wrap_id (n := b * b) (by omega) (by omega)]
theorem spec_SquareLeanSum_j0_ev (x0 : Int) (x1 : Int) (x22 : Bool) {r : (Int × Int × Bool)} (h : Ev (fun k => if x22 = true then (some (0, 0, false)) else ((spec_clRoot.f k (wrap64 ((wrap64 (x0 * x0)) + (wrap64 (x1 * x1))))).bind fun t326 => (if (wrap64 (t326 * t326)) = (wrap64 ((wrap64 (x0 * x0)) + (wrap64 (x1 * x1)))) then (some (wrap64 (t326 + x0), 1, true)) else (some (wrap64 (t326 + x0), 0, true))))) r) : Ev (fun k => spec_SquareLeanSum.j0 k x0 x1 x22) r := Ev.step (fun k => by simp only [spec_SquareLeanSum.j0]) h
theorem sSum_ev (a b : Int) : Ev (fun k => spec_SquareLeanSum.f k a b) (if ((1 ≤ a ∧ a ≤ 60) ∧ 1 ≤ b ∧ b ≤ 1000) ∧ 8 * a * a ≤ b * b then (M.root (a * a + b * b) + a, (if M.root (a * a + b * b) * M.root (a * a + b * b) = a * a + b * b then 1 else 0), true) else (0, 0, false)) := by
  simp only [spec_SquareLeanSum.f, lnSide_eq, lnLong_eq, Option.bind_some, decide_eq_true_eq]
  have bad : ∀ k, spec_SquareLeanSum.j0 (k + 1) a b true = some (0, 0, false) := fun k => by simp [spec_SquareLeanSum.j0]
  by_cases ha : 1 ≤ a ∧ a ≤ 60
  · refine M.evp ha ?_
    by_cases hb : 1 ≤ b ∧ b ≤ 1000
    · refine M.evp hb ?_
      rw [lnCan_eq a b ha hb]
      simp only [Option.bind_some]
      by_cases hc : 8 * a * a ≤ b * b
      · rw [if_pos ⟨⟨ha, hb⟩, hc⟩]
        have h1 := M.mulb 60 60 (a := a) (b := a) (by omega) (by omega) (by omega) (by omega)
        have h2 := M.mulb 1000 1000 (a := b) (b := b) (by omega) (by omega) (by omega) (by omega)
        have r0 := M.root_nonneg (a * a + b * b)
        have ⟨r1, _⟩ := M.root_spec (n := a * a + b * b) (by omega)
        have r3 := Int.mul_nonneg r0 r0
        have r2 : M.root (a * a + b * b) ≤ 1100 := M.root_le (by omega) (by omega) (by omega)
        refine Ev.step (f := fun k => (spec_clRoot.f k (a * a + b * b)).bind fun t => if wrap64 (t * t) = a * a + b * b then some (wrap64 (t + a), 1, true) else some (wrap64 (t + a), 0, true)) (fun k => ?_) ?_
        · simp only [spec_SquareLeanSum.j0, hc, decide_true, Bool.not_true, Bool.false_eq_true, if_false]
          rw [M.wrap_id (n := a * a) (by omega) (by omega), M.wrap_id (n := b * b) (by omega) (by omega), M.wrap_id (n := a * a + b * b) (by omega) (by omega)]
        · refine Ev.bind (clRoot_ev _ (by omega) (by omega)) ?_
          rw [M.wrap_id (n := M.root (a * a + b * b) * M.root (a * a + b * b)) (by omega) (by omega), M.wrap_id (n := M.root (a * a + b * b) + a) (by omega) (by omega)]
          split <;> exact Ev.now _
      · rw [if_neg (fun h => hc h.2)]
        simp only [hc, decide_false, Bool.not_false]
        exact Ev.step bad (Ev.now _)
    · rw [if_neg (fun h => hb h.1.2)]; exact M.evn hb (Ev.step bad (Ev.now _))
  · rw [if_neg (fun h => ha h.1.1)]; exact M.evn ha (Ev.step bad (Ev.now _))
theorem spec_CountSquareLeans_j0_ev (x0 : Int) (x1 : Int) (x13 : Bool) {r : (Int × Bool)} (h : Ev (fun k => if x13 = true then (some (0, false)) else ((spec_lnCan.f x0 x1).bind fun t329 => (if t329 = true then (some (2, true)) else (some (0, true))))) r) : Ev (fun k => spec_CountSquareLeans.j0 k x0 x1 x13) r := Ev.step (fun k => by simp only [spec_CountSquareLeans.j0]) h
theorem sCount_ev (a b : Int) : Ev (fun k => spec_CountSquareLeans.f k a b) (if (1 ≤ a ∧ a ≤ 60) ∧ 1 ≤ b ∧ b ≤ 1000 then (if 8 * a * a ≤ b * b then 2 else 0, true) else (0, false)) := by
  simp only [spec_CountSquareLeans.f, lnSide_eq, lnLong_eq, Option.bind_some, decide_eq_true_eq]
  by_cases ha : 1 ≤ a ∧ a ≤ 60
  · refine M.evp ha ?_
    by_cases hb : 1 ≤ b ∧ b ≤ 1000
    · rw [if_pos ⟨ha, hb⟩]
      refine Ev.step (f := fun _ => some (if 8 * a * a ≤ b * b then 2 else 0, true)) (fun k => ?_) (Ev.now _)
      simp only [spec_CountSquareLeans.j0, hb, lnCan_eq a b ha hb, Option.bind_some, decide_eq_true_eq, and_self, decide_true, Bool.not_true, Bool.false_eq_true, if_false]
      split <;> rfl
    · rw [if_neg (fun h => hb h.2)]
      refine Ev.step (f := fun _ => some (0, false)) (fun k => ?_) (Ev.now _)
      simp [spec_CountSquareLeans.j0, hb]
  · refine M.evn ha ?_
    rw [if_neg (fun h => ha h.1)]
    refine Ev.step (f := fun _ => some (0, false)) (fun k => ?_) (Ev.now _)
    simp [spec_CountSquareLeans.j0]
theorem iGreat_ev (a : Int) : Ev (fun k => impl_GreatestSquareBox.f k a) (if 1 ≤ a ∧ a ≤ 1000 then (M.root (a * a / 8), true) else (0, false)) := by
  simp only [impl_GreatestSquareBox.f, isLong_eq, Option.bind_some, decide_eq_true_eq]
  by_cases ha : 1 ≤ a ∧ a ≤ 1000
  · refine M.evp ha ?_
    have h1 := M.mulb 1000 1000 (a := a) (b := a) (by omega) (by omega) (by omega) (by omega)
    have t1 : Int.tdiv (a * a) 8 = (a * a) / 8 := Int.tdiv_eq_ediv_of_nonneg (by omega)
    rw [if_pos ha, M.wrap_id (n := a * a) (by omega) (by omega), t1, M.wrap_id (by omega) (by omega)]
    exact Ev.bind (floorRoot_ev _ (by omega) (by omega)) (Ev.now _)
  · rw [if_neg ha]; exact M.evn ha (Ev.now _)
theorem sGreat_ev (a : Int) : Ev (fun k => spec_GreatestSquareBox.f k a) (if 1 ≤ a ∧ a ≤ 1000 then (M.root (a * a / 8), true) else (0, false)) := by
  simp only [spec_GreatestSquareBox.f, lnLong_eq, Option.bind_some, decide_eq_true_eq]
  by_cases ha : 1 ≤ a ∧ a ≤ 1000
  · refine M.evp ha ?_
    have h1 := M.mulb 1000 1000 (a := a) (b := a) (by omega) (by omega) (by omega) (by omega)
    have t1 : Int.tdiv (a * a) 8 = (a * a) / 8 := Int.tdiv_eq_ediv_of_nonneg (by omega)
    rw [if_pos ha, M.wrap_id (n := a * a) (by omega) (by omega), t1, M.wrap_id (by omega) (by omega)]
    exact Ev.bind (clRoot_ev _ (by omega) (by omega)) (Ev.now _)
  · rw [if_neg ha]; exact M.evn ha (Ev.now _)
theorem IsBox_eq (a b : Int) : impl_IsBox.f a b = some (decide ((1 ≤ a ∧ a ≤ 60) ∧ 1 ≤ b ∧ b ≤ 60)) := by
  unfold impl_IsBox.f
  by_cases h : 1 ≤ a ∧ a ≤ 60 <;> simp [within_eq, h]
theorem impl_WholeLeans_l0_ev (x4 : List (List Int)) (x5 : Int) (x6 : Int) (x349000 : Int) (x349001 : Int) {r : ((List (List Int)) × Bool)} (h : Ev (fun k => if x6 ≤ x5 then (if x6 = 0 then (none) else (if (Int.tmod x5 x6) = 0 then (if x4.length < 5864062014805 then (impl_WholeLeans.l0 k (x4 ++ [(([wrap64 (x349000 + x6), wrap64 (x349001 + (wrap64 (Int.tdiv x5 x6)))] : List Int))]) x5 (wrap64 (x6 + 1)) x349000 x349001) else (none)) else (impl_WholeLeans.l0 k x4 x5 (wrap64 (x6 + 1)) x349000 x349001))) else (some (x4, true))) r) : Ev (fun k => impl_WholeLeans.l0 k x4 x5 x6 x349000 x349001) r := Ev.step (fun k => by simp only [impl_WholeLeans.l0]) h
theorem iLeans_l0 (w h : Int) (hb : (1 ≤ w ∧ w ≤ 60) ∧ 1 ≤ h ∧ h ≤ 60) : ∀ (n : Nat) (acc : List (List Int)) (d : Int), (w * h + 1 - d).toNat = n → 1 ≤ d → d ≤ 3601 → acc.length ≤ d →
    Ev (fun k => impl_WholeLeans.l0 k acc (w * h) d w h) (acc ++ (M.sel (fun d => decide ((w * h) % d = 0)) d n).map (fun d => [w + d, h + w * h / d]), true)
  | 0, acc, d, hn, h1, h2, ha => by
    have e : acc ++ (M.sel (fun d => decide ((w * h) % d = 0)) d 0).map (fun d => [w + d, h + w * h / d]) = acc := by simp [M.sel]
    rw [e]
    exact impl_WholeLeans_l0_ev _ _ _ _ _ (M.evn (by omega) (Ev.now _))
  | n + 1, acc, d, hn, h1, h2, ha => by
    have hm := M.mulb 60 60 (a := w) (b := h) (by omega) (by omega) (by omega) (by omega)
    refine impl_WholeLeans_l0_ev _ _ _ _ _ (M.evp (by omega) (M.evn (by omega) ?_))
    have t1 : Int.tmod (w * h) d = (w * h) % d := Int.tmod_eq_emod_of_nonneg hm.1
    have t2 : Int.tdiv (w * h) d = (w * h) / d := Int.tdiv_eq_ediv_of_nonneg hm.1
    have q1 : 0 ≤ w * h / d := Int.ediv_nonneg hm.1 (by omega)
    have q2 : w * h / d ≤ w * h := Int.ediv_le_self _ hm.1
    rw [t1, t2, M.wrap_id (n := w * h / d) (by omega) (by omega), M.wrap_id (n := w + d) (by omega) (by omega), M.wrap_id (n := h + w * h / d) (by omega) (by omega), M.wrap_id (n := d + 1) (by omega) (by omega)]
    rw [M.sel]
    by_cases hr : (w * h) % d = 0
    · rw [if_pos (decide_eq_true hr)]
      refine M.evp hr (M.evp (by omega) ?_)
      have := iLeans_l0 w h hb n (acc ++ [[w + d, h + w * h / d]]) (d + 1) (by omega) (by omega) (by omega) (by simp; omega)
      simpa using this
    · rw [if_neg (by simpa using hr)]
      exact M.evn hr (iLeans_l0 w h hb n acc (d + 1) (by omega) (by omega) (by omega) (by omega))
theorem iWholeLeans_ev (w h : Int) : Ev (fun k => impl_WholeLeans.f k w h) (if (1 ≤ w ∧ w ≤ 60) ∧ 1 ≤ h ∧ h ≤ 60 then (M.leans w h, true) else ([], false)) := by
  simp only [impl_WholeLeans.f, IsBox_eq, Option.bind_some, decide_eq_true_eq]
  by_cases hb : (1 ≤ w ∧ w ≤ 60) ∧ 1 ≤ h ∧ h ≤ 60
  · rw [if_pos hb]
    refine M.evp hb ?_
    have hm := M.mulb 60 60 (a := w) (b := h) (by omega) (by omega) (by omega) (by omega)
    rw [M.wrap_id (n := w * h) (by omega) (by omega)]
    unfold M.leans
    simpa using iLeans_l0 w h hb (w * h).toNat [] 1 (by omega) (by omega) (by omega) (by simp)
  · rw [if_neg hb]; exact M.evn hb (Ev.now _)
theorem impl_WholeSquareLeans_l0_ev (x5 : Bool) (x6 : List (List Int)) (x17 : List (List Int)) (x18 : Int) (x19 : Int) {r : ((List (List Int)) × Bool)} (h : Ev (fun k => if x19 < x18 then (if 0 ≤ x19 then (if x19 < (x17.length : Int) then (if 0 < ((rd_L2 x17 x19).length : Int) then (if 1 < ((rd_L2 x17 x19).length : Int) then (if (rd (rd_L2 x17 x19) 0) ≤ (rd (rd_L2 x17 x19) 1) then (if x6.length < 5864062014805 then (impl_WholeSquareLeans.l0 k x5 (x6 ++ [rd_L2 x17 x19]) x17 x18 (wrap64 (x19 + 1))) else (none)) else (impl_WholeSquareLeans.l0 k x5 x6 x17 x18 (wrap64 (x19 + 1)))) else (none)) else (none)) else (none)) else (none)) else (some (x6, x5))) r) : Ev (fun k => impl_WholeSquareLeans.l0 k x5 x6 x17 x18 x19) r := Ev.step (fun k => by simp only [impl_WholeSquareLeans.l0]) h
theorem iSq_l0 (n : Int) (ok : Bool) : ∀ (rest done acc : List (List Int)), ((done ++ rest).length : Int) = n → n ≤ 1000000 → acc.length ≤ done.length → (∀ x ∈ rest, ∃ a b, x = [a, b] ∧ (1 ≤ a ∧ a ≤ 3660) ∧ 1 ≤ b ∧ b ≤ 3660) →
    Ev (fun k => impl_WholeSquareLeans.l0 k ok acc (done ++ rest) n done.length) (acc ++ rest.filter M.flat, ok)
  | [], done, acc, hn, hl, ha, hx => by
    have e : acc ++ ([] : List (List Int)).filter M.flat = acc := by simp
    rw [e]
    exact impl_WholeSquareLeans_l0_ev _ _ _ _ _ (M.evn (by simp at hn; omega) (Ev.now _))
  | x :: rest, done, acc, hn, hl, ha, hx => by
    have h2 : (done ++ x :: rest).length = done.length + rest.length + 1 := by simp; omega
    have e0 : rd_L2 (done ++ x :: rest) (done.length : Int) = x := by simp [rd_L2]
    obtain ⟨a, b, rfl, ha1, hb1⟩ := hx x List.mem_cons_self
    refine impl_WholeSquareLeans_l0_ev _ _ _ _ _ (M.evp (by omega) (M.evp (by omega) (M.evp (by omega) ?_)))
    rw [e0]
    have d0 : rd [a, b] 0 = a := rfl
    have d1 : rd [a, b] 1 = b := rfl
    rw [d0, d1]
    refine M.evp (by simp) (M.evp (by simp) ?_)
    have e : wrap64 ((done.length : Int) + 1) = ((done ++ [[a, b]]).length : Int) := by rw [M.wrap_id (by omega) (by omega)]; simp
    rw [e]
    by_cases hr : a ≤ b
    · refine M.evp hr (M.evp (by omega) ?_)
      have := iSq_l0 n ok rest (done ++ [[a, b]]) (acc ++ [[a, b]]) (by simpa using hn) hl (by simp; omega) (fun y hy => hx y (List.mem_cons_of_mem _ hy))
      have ew : M.flat [a, b] = true := by simp [M.flat, hr]
      rw [List.filter_cons, ew]
      simpa using this
    · refine M.evn hr ?_
      have := iSq_l0 n ok rest (done ++ [[a, b]]) acc (by simpa using hn) hl (by simp; omega) (fun y hy => hx y (List.mem_cons_of_mem _ hy))
      have ew : M.flat [a, b] = false := by simp [M.flat]; omega
      rw [List.filter_cons, ew]
      simpa using this
theorem iWholeSq_ev (w : Int) : Ev (fun k => impl_WholeSquareLeans.f k w) (if 1 ≤ w ∧ w ≤ 60 then ((M.leans w w).filter M.flat, true) else ([], false)) := by
  unfold impl_WholeSquareLeans.f
  have q := iWholeLeans_ev w w
  by_cases hb : 1 ≤ w ∧ w ≤ 60
  · rw [if_pos ⟨hb, hb⟩] at q
    rw [if_pos hb]
    refine Ev.bind q ?_
    have := M.leans_length (w := w) (h := w) ⟨hb, hb⟩
    simpa using iSq_l0 ((M.leans w w).length : Int) true (M.leans w w) [] [] (by simp) (by omega) (by simp) (M.leans_mem ⟨hb, hb⟩)
  · rw [if_neg (fun h => hb h.1)] at q
    rw [if_neg hb]
    exact Ev.bind q (impl_WholeSquareLeans_l0_ev _ _ _ _ _ (M.evn (by simp) (Ev.now _)))
theorem spec_lnLeans_l0_ev (x3 : List (List Int)) (x4 : Int) (x5 : Int) (x373000 : Int) (x373001 : Int) {r : ((List (List Int)))} (h : Ev (fun k => if x5 ≤ x4 then (if x5 = 0 then (none) else (if (Int.tmod x4 x5) = 0 then (if x3.length < 5864062014805 then (spec_lnLeans.l0 k (x3 ++ [(([wrap64 (x373000 + x5), wrap64 (x373001 + (wrap64 (Int.tdiv x4 x5)))] : List Int))]) x4 (wrap64 (x5 + 1)) x373000 x373001) else (none)) else (spec_lnLeans.l0 k x3 x4 (wrap64 (x5 + 1)) x373000 x373001))) else (some x3)) r) : Ev (fun k => spec_lnLeans.l0 k x3 x4 x5 x373000 x373001) r := Ev.step (fun k => by simp only [spec_lnLeans.l0]) h
theorem lnLeans_l0 (w h : Int) (hb : (1 ≤ w ∧ w ≤ 60) ∧ 1 ≤ h ∧ h ≤ 60) : ∀ (n : Nat) (acc : List (List Int)) (d : Int), (w * h + 1 - d).toNat = n → 1 ≤ d → d ≤ 3601 → acc.length ≤ d →
    Ev (fun k => spec_lnLeans.l0 k acc (w * h) d w h) (acc ++ (M.sel (fun d => decide ((w * h) % d = 0)) d n).map fun d => [w + d, h + w * h / d])
  | 0, acc, d, hn, h1, h2, ha => by
    have e : acc ++ (M.sel (fun d => decide ((w * h) % d = 0)) d 0).map (fun d => [w + d, h + w * h / d]) = acc := by simp [M.sel]
    rw [e]
    exact spec_lnLeans_l0_ev _ _ _ _ _ (M.evn (by omega) (Ev.now _))
  | n + 1, acc, d, hn, h1, h2, ha => by
    have hm := M.mulb 60 60 (a := w) (b := h) (by omega) (by omega) (by omega) (by omega)
    refine spec_lnLeans_l0_ev _ _ _ _ _ (M.evp (by omega) (M.evn (by omega) ?_))
    have t1 : Int.tmod (w * h) d = (w * h) % d := Int.tmod_eq_emod_of_nonneg hm.1
    have t2 : Int.tdiv (w * h) d = (w * h) / d := Int.tdiv_eq_ediv_of_nonneg hm.1
    have q1 : 0 ≤ w * h / d := Int.ediv_nonneg hm.1 (by omega)
    have q2 : w * h / d ≤ w * h := Int.ediv_le_self _ hm.1
    rw [t1, t2, M.wrap_id (n := w * h / d) (by omega) (by omega), M.wrap_id (n := w + d) (by omega) (by omega), M.wrap_id (n := h + w * h / d) (by omega) (by omega), M.wrap_id (n := d + 1) (by omega) (by omega)]
    rw [M.sel]
    by_cases hr : (w * h) % d = 0
    · rw [if_pos (decide_eq_true hr)]
      refine M.evp hr (M.evp (by omega) ?_)
      have := lnLeans_l0 w h hb n (acc ++ [[w + d, h + w * h / d]]) (d + 1) (by omega) (by omega) (by omega) (by simp; omega)
      simpa using this
    · rw [if_neg (by simpa using hr)]
      exact M.evn hr (lnLeans_l0 w h hb n acc (d + 1) (by omega) (by omega) (by omega) (by omega))
theorem lnLeans_ev (w h : Int) (hb : (1 ≤ w ∧ w ≤ 60) ∧ 1 ≤ h ∧ h ≤ 60) : Ev (fun k => spec_lnLeans.f k w h) (M.leans w h) := by
  have hm := M.mulb 60 60 (a := w) (b := h) (by omega) (by omega) (by omega) (by omega)
  unfold spec_lnLeans.f M.leans
  rw [M.wrap_id (n := w * h) (by omega) (by omega)]
  simpa using lnLeans_l0 w h hb (w * h).toNat [] 1 (by omega) (by omega) (by omega) (by simp)
theorem spec_WholeSquareLeans_l0_ev (x4 : List (List Int)) (x13 : List (List Int)) (x14 : Int) (x15 : Int) {r : ((List (List Int)) × Bool)} (h : Ev (fun k => if x15 < x14 then (if 0 ≤ x15 then (if x15 < (x13.length : Int) then (if 0 < ((rd_L2 x13 x15).length : Int) then (if 1 < ((rd_L2 x13 x15).length : Int) then (if (rd (rd_L2 x13 x15) 0) ≤ (rd (rd_L2 x13 x15) 1) then (if x4.length < 5864062014805 then (spec_WholeSquareLeans.l0 k (x4 ++ [rd_L2 x13 x15]) x13 x14 (wrap64 (x15 + 1))) else (none)) else (spec_WholeSquareLeans.l0 k x4 x13 x14 (wrap64 (x15 + 1)))) else (none)) else (none)) else (none)) else (none)) else (some (x4, true))) r) : Ev (fun k => spec_WholeSquareLeans.l0 k x4 x13 x14 x15) r := Ev.step (fun k => by simp only [spec_WholeSquareLeans.l0]) h
theorem sSq_l0 (n : Int) : ∀ (rest done acc : List (List Int)), ((done ++ rest).length : Int) = n → n ≤ 1000000 → acc.length ≤ done.length → (∀ x ∈ rest, ∃ a b, x = [a, b] ∧ (1 ≤ a ∧ a ≤ 3660) ∧ 1 ≤ b ∧ b ≤ 3660) →
    Ev (fun k => spec_WholeSquareLeans.l0 k acc (done ++ rest) n done.length) (acc ++ rest.filter M.flat, true)
  | [], done, acc, hn, hl, ha, hx => by
    have e : acc ++ ([] : List (List Int)).filter M.flat = acc := by simp
    rw [e]
    exact spec_WholeSquareLeans_l0_ev _ _ _ _ (M.evn (by simp at hn; omega) (Ev.now _))
  | x :: rest, done, acc, hn, hl, ha, hx => by
    have h2 : (done ++ x :: rest).length = done.length + rest.length + 1 := by simp; omega
    have e0 : rd_L2 (done ++ x :: rest) (done.length : Int) = x := by simp [rd_L2]
    obtain ⟨a, b, rfl, ha1, hb1⟩ := hx x List.mem_cons_self
    refine spec_WholeSquareLeans_l0_ev _ _ _ _ (M.evp (by omega) (M.evp (by omega) (M.evp (by omega) ?_)))
    rw [e0]
    have d0 : rd [a, b] 0 = a := rfl
    have d1 : rd [a, b] 1 = b := rfl
    rw [d0, d1]
    refine M.evp (by simp) (M.evp (by simp) ?_)
    have e : wrap64 ((done.length : Int) + 1) = ((done ++ [[a, b]]).length : Int) := by rw [M.wrap_id (by omega) (by omega)]; simp
    rw [e]
    by_cases hr : a ≤ b
    · refine M.evp hr (M.evp (by omega) ?_)
      have := sSq_l0 n rest (done ++ [[a, b]]) (acc ++ [[a, b]]) (by simpa using hn) hl (by simp; omega) (fun y hy => hx y (List.mem_cons_of_mem _ hy))
      have ew : M.flat [a, b] = true := by simp [M.flat, hr]
      rw [List.filter_cons, ew]
      simpa using this
    · refine M.evn hr ?_
      have := sSq_l0 n rest (done ++ [[a, b]]) acc (by simpa using hn) hl (by simp; omega) (fun y hy => hx y (List.mem_cons_of_mem _ hy))
      have ew : M.flat [a, b] = false := by simp [M.flat]; omega
      rw [List.filter_cons, ew]
      simpa using this
theorem sWholeSq_ev (w : Int) : Ev (fun k => spec_WholeSquareLeans.f k w) (if 1 ≤ w ∧ w ≤ 60 then ((M.leans w w).filter M.flat, true) else ([], false)) := by
  simp only [spec_WholeSquareLeans.f, lnSide_eq, Option.bind_some, decide_eq_true_eq]
  by_cases hb : 1 ≤ w ∧ w ≤ 60
  · rw [if_pos hb]
    refine M.evp hb (Ev.bind (lnLeans_ev w w ⟨hb, hb⟩) ?_)
    have := M.leans_length (w := w) (h := w) ⟨hb, hb⟩
    simpa using sSq_l0 ((M.leans w w).length : Int) (M.leans w w) [] [] (by simp) (by omega) (by simp) (M.leans_mem ⟨hb, hb⟩)
  · rw [if_neg hb]; exact M.evn hb (Ev.now _)
theorem laws_jRows_l0_ev (x0 : List (List Int)) (x1 : List (List Int)) (x12 : Int) (x13 : Int) {r : (Bool)} (h : Ev (fun k => if x13 < x12 then (if 0 ≤ x13 then (if x13 < (x0.length : Int) then (if x13 < (x1.length : Int) then ((laws_jSame.f k (rd_L2 x0 x13) (rd_L2 x1 x13)).bind fun t391 => (if t391 = true then (laws_jRows.l0 k x0 x1 x12 (wrap64 (x13 + 1))) else (some false))) else (none)) else (none)) else (none)) else (some true)) r) : Ev (fun k => laws_jRows.l0 k x0 x1 x12 x13) r := Ev.step (fun k => by simp only [laws_jRows.l0]) h
theorem jRows_mid (done rest : List (List Int)) (x : List Int) : rd_L2 (done ++ x :: rest) (done.length : Int) = x := by simp [rd_L2]
theorem jRows_l0 (n : Int) : ∀ (rest done : List (List Int)), ((done ++ rest).length : Int) = n → n ≤ 1000000000000 → (∀ x ∈ rest, x.length ≤ 1000000) → Ev (fun k => laws_jRows.l0 k (done ++ rest) (done ++ rest) n done.length) true
  | [], done, hn, _, _ => laws_jRows_l0_ev _ _ _ _ (M.evn (by simp at hn; omega) (Ev.now _))
  | x :: rest, done, hn, hl, hx => by
    have h2 : (done ++ x :: rest).length = done.length + rest.length + 1 := by simp; omega
    refine laws_jRows_l0_ev _ _ _ _ (M.evp (by omega) (M.evp (by omega) (M.evp (by omega) (M.evp (by omega) ?_))))
    rw [jRows_mid]
    have hx1 := hx x List.mem_cons_self
    refine Ev.bind (jSame_self x (by omega)) (M.evp rfl ?_)
    have ih := jRows_l0 n rest (done ++ [x]) (by simpa using hn) hl (fun y hy => hx y (List.mem_cons_of_mem _ hy))
    have e : wrap64 ((done.length : Int) + 1) = ((done ++ [x]).length : Int) := by rw [M.wrap_id (by omega) (by omega)]; simp
    rw [e]
    simpa using ih
theorem jRows_self (l : List (List Int)) (h : l.length ≤ 1000000000000) (hx : ∀ x ∈ l, x.length ≤ 1000000) : Ev (fun k => laws_jRows.f k l l) true := by
  unfold laws_jRows.f
  exact M.evp rfl (by simpa using jRows_l0 (l.length : Int) l [] (by simp) (by omega) hx)
theorem laws_jLow_j0_ev (x5 : Int) (x6 : Int) {r : (Bool)} (h : Ev (fun k => laws_jLow.l0 k x5 x6) r) : Ev (fun k => laws_jLow.j0 k x5 x6) r := Ev.step (fun k => by simp only [laws_jLow.j0]) h
theorem laws_jLow_l0_ev (x5 : Int) (x6 : Int) {r : (Bool)} (h : Ev (fun k => if x6 > 0 then (if x6 = 0 then (none) else (laws_jLow.l0 k x6 (Int.tmod x5 x6))) else (some (x5 == 1))) r) : Ev (fun k => laws_jLow.l0 k x5 x6) r := Ev.step (fun k => by simp only [laws_jLow.l0]) h
theorem jLow_l0 : ∀ (k : Nat) (a b : Int), b.toNat < k → 0 ≤ a → 0 ≤ b → laws_jLow.l0 k a b = some (M.g a b == 1)
  | 0, _, _, h, _, _ => by omega
  | k + 1, a, b, h, h1, h2 => by
    simp only [laws_jLow.l0]
    by_cases hb : b = 0
    · subst hb
      have e : M.g a 0 = a := by rw [M.g_zero]; omega
      rw [if_neg (by omega), e]
    · have e : (Int.tmod a b).natAbs = a.natAbs % b.natAbs := Int.natAbs_tmod ..
      have lt : a.natAbs % b.natAbs < b.natAbs := Nat.mod_lt _ (by omega)
      have nn : 0 ≤ Int.tmod a b := Int.tmod_nonneg b h1
      rw [if_pos (by omega), if_neg hb, jLow_l0 k b (Int.tmod a b) (by omega) h2 nn, M.g_tmod]
theorem jLow_ev (a b : Int) (h1 : -9223372036854775807 ≤ a) (h2 : a ≤ 9223372036854775807) : Ev (fun k => laws_jLow.f k a b) (decide (1 ≤ b ∧ M.g a b = 1)) := by
  unfold laws_jLow.f
  by_cases hb : b < 1
  · refine M.evp hb ?_
    rw [decide_eq_false (fun h => by omega)]
    exact Ev.now _
  · refine M.evn hb ?_
    have e : decide (1 ≤ b ∧ M.g a b = 1) = (M.g a b == 1) := by
      by_cases hg : M.g a b = 1
      · rw [decide_eq_true ⟨by omega, hg⟩, hg]; rfl
      · rw [decide_eq_false (fun h => hg h.2)]; simp [hg]
    rw [e]
    by_cases ha : a < 0
    · refine M.evp ha ?_
      rw [M.wrap_id (n := -a) (by omega) (by omega)]
      refine laws_jLow_j0_ev _ _ ⟨b.toNat + 1, fun k hk => ?_⟩
      show laws_jLow.l0 k (-a) b = _
      rw [jLow_l0 k (-a) b (by omega) (by omega) (by omega), M.g_neg]
    · refine M.evn ha ?_
      refine laws_jLow_j0_ev _ _ ⟨b.toNat + 1, fun k hk => ?_⟩
      show laws_jLow.l0 k a b = _
      rw [jLow_l0 k a b (by omega) (by omega) (by omega)]
theorem jLow_true {a b : Int} (h1 : -9223372036854775807 ≤ a) (h2 : a ≤ 9223372036854775807) (hb : 0 < b) (hg : Int.gcd a b = 1) : Ev (fun k => laws_jLow.f k a b) true := by
  have := jLow_ev a b h1 h2
  rw [decide_eq_true ⟨by omega, by unfold M.g; rw [hg]; rfl⟩] at this
  exact this
theorem jIs_true {a b x y : Int} (h1 : -9223372036854775807 ≤ a) (h2 : a ≤ 9223372036854775807) (hb : 0 < b) (hg : Int.gcd a b = 1) (he : a * y = x * b) : Ev (fun k => laws_jIs.f k a b x y) true := by
  unfold laws_jIs.f
  refine Ev.bind (jLow_true h1 h2 hb hg) (M.evp rfl ?_)
  rw [he]
  simp only [beq_self_eq_true]
  exact Ev.now _
theorem ex {α : Type} {g : Nat → Option α} {r : α} (h : Ev g r) : ∃ k, g k = some r := by
  obtain ⟨K, h⟩ := h
  exact ⟨K, h K (Nat.le_refl _)⟩
theorem ne_f {α : Type} [BEq α] [LawfulBEq α] {a b : α} (h : a = b) : (a != b) = false := by
  subst h; exact bne_self_eq_false _
theorem big_tot (l0 l1 : List Int) : ∃ r, laws_big.f l0 l1 = some r := by
  unfold laws_big.f
  split <;> exact ⟨_, rfl⟩
theorem no {p : Prop} (h : false = true) : p := by cases h
theorem no' {p : Prop} (h : true = false) : p := by cases h
/-! ### slips -/
theorem slips_at (a b : Int) : ∀ (n : Nat) (f : Int) (i : Nat), i < (M.slips a b f n).length → f + i * b ≤ a ∧ (M.slips a b f n).getD i 0 = M.root (a * a - (f + i * b) * (f + i * b))
  | 0, f, i, h => by simp [M.slips] at h
  | n + 1, f, i, h => by
    rw [M.slips] at h ⊢
    by_cases hf : f ≤ a
    · rw [if_pos hf] at h ⊢
      cases i with
      | zero => simp; exact hf
      | succ i =>
        have := slips_at a b n (f + b) i (by simpa using h)
        have e : f + b + (i : Int) * b = f + ((i + 1 : Nat) : Int) * b := by push_cast; rw [Int.add_mul, Int.one_mul]; omega
        rw [e] at this
        simpa using this
    · rw [if_neg hf] at h
      simp at h
theorem slips_end (a b : Int) : ∀ (n : Nat) (f : Int), (M.slips a b f n).length < n → a < f + (M.slips a b f n).length * b
  | 0, f, h => by simp at h
  | n + 1, f, h => by
    rw [M.slips] at h ⊢
    by_cases hf : f ≤ a
    · rw [if_pos hf] at h ⊢
      have := slips_end a b n (f + b) (by simpa using h)
      have e : f + b + ((M.slips a b (f + b) n).length : Int) * b = f + (((M.slips a b (f + b) n).length + 1 : Nat) : Int) * b := by push_cast; rw [Int.add_mul, Int.one_mul]; omega
      rw [e] at this
      simpa using this
    · rw [if_neg hf]
      simp; omega
theorem slips_one (a b f : Int) (n : Nat) (hf : f ≤ a) (hn : 0 < n) : 1 ≤ (M.slips a b f n).length := by
  cases n with
  | zero => omega
  | succ n => rw [M.slips, if_pos hf]; simp
theorem drops_at : ∀ (l : List Int) (i : Nat), i + 1 < l.length → (M.drops l).getD i 0 = l.getD i 0 - l.getD (i + 1) 0
  | [], i, h => by simp at h
  | [_], i, h => by simp at h
  | x :: y :: t, i, h => by
    rw [M.drops]
    cases i with
    | zero => simp
    | succ i =>
      have := drops_at (y :: t) i (by simpa using h)
      simpa using this
theorem root_mono {m n : Int} (h0 : 0 ≤ m) (h : m ≤ n) : M.root m ≤ M.root n := by
  have a := (M.root_spec h0).1
  have b := (M.root_spec (n := n) (by omega)).2
  have := M.root_nonneg n
  have := M.lt_of_sq (a := M.root m) (b := M.root n + 1) (by omega) (by omega)
  omega
def SC (a f b s : Int) : Prop := (1 ≤ a ∧ a ≤ 1000) ∧ (0 ≤ f ∧ f ≤ a) ∧ (1 ≤ b ∧ b ≤ 1000) ∧ 0 ≤ s ∧ s ≤ 50
abbrev SH (a f b s : Int) : List Int := M.slips a b f (s + 1).toNat
theorem sh_len {a f b s : Int} (c : SC a f b s) : 1 ≤ (SH a f b s).length ∧ ((SH a f b s).length : Int) ≤ s + 1 := by
  have h1 := M.slips_length a b f (s + 1).toNat
  have h2 := slips_one a b f (s + 1).toNat c.2.1.2 (by have := c.2.2.2; omega)
  have := c.2.2.2
  exact ⟨h2, by unfold SH; omega⟩
/-- What is known of the height of a slip. -/
theorem sh_at {a f b s y : Int} (c : SC a f b s) (h0 : 0 ≤ y) (h1 : y < ((SH a f b s).length : Int)) :
    wrap64 (f + wrap64 (y * b)) = f + y * b ∧ 0 ≤ f + y * b ∧ f + y * b ≤ a ∧ 0 ≤ rd (SH a f b s) y ∧ rd (SH a f b s) y ≤ 1000 ∧ rd (SH a f b s) y * rd (SH a f b s) y + (f + y * b) * (f + y * b) ≤ a * a ∧ a * a < (rd (SH a f b s) y + 1) * (rd (SH a f b s) y + 1) + (f + y * b) * (f + y * b) ∧ rd (SH a f b s) y = M.root (a * a - (f + y * b) * (f + y * b)) := by
  obtain ⟨i, rfl⟩ := Int.eq_ofNat_of_zero_le h0
  have hl := sh_len c
  obtain ⟨⟨a1, a2⟩, ⟨f1, f2⟩, ⟨b1, b2⟩, s1, s2⟩ := c
  obtain ⟨k1, k2⟩ := slips_at a b (s + 1).toNat f i (by have h2 : ((i : Nat) : Int) < ((M.slips a b f (s + 1).toNat).length : Int) := h1; omega)
  have e : rd (SH a f b s) (i : Int) = M.root (a * a - (f + i * b) * (f + i * b)) := by
    unfold rd; rw [Int.toNat_natCast]; exact k2
  have q1 := M.mulb 51 1000 (a := (i : Int)) (b := b) (by omega) (by omega) (by omega) (by omega)
  have q2 := M.sq_le (a := f + (i : Int) * b) (b := a) (by omega) k1
  have q3 := M.mulb 1000 1000 (a := a) (b := a) (by omega) (by omega) (by omega) (by omega)
  have q4 := M.mulb 1000 1000 (a := f + (i : Int) * b) (b := f + (i : Int) * b) (by omega) (by omega) (by omega) (by omega)
  obtain ⟨r1, r2⟩ := M.root_spec (n := a * a - (f + (i : Int) * b) * (f + (i : Int) * b)) (by omega)
  have r0 := M.root_nonneg (a * a - (f + (i : Int) * b) * (f + (i : Int) * b))
  have r3 := M.root_le (n := a * a - (f + (i : Int) * b) * (f + (i : Int) * b)) (B := 1000) (by omega) (by omega) (by omega)
  rw [M.wrap_id (n := (i : Int) * b) (by omega) (by omega), M.wrap_id (by omega) (by omega), e]
  exact ⟨rfl, by omega, k1, r0, r3, by omega, by omega, rfl⟩
theorem sh_sq {a f b s y : Int} (c : SC a f b s) (h0 : 0 ≤ y) (h1 : y < ((SH a f b s).length : Int)) :
    ¬ wrap64 (a * a) < wrap64 (wrap64 (rd (SH a f b s) y * rd (SH a f b s) y) + wrap64 (wrap64 (f + wrap64 (y * b)) * wrap64 (f + wrap64 (y * b)))) ∧
    ¬ wrap64 (wrap64 (wrap64 (rd (SH a f b s) y + 1) * wrap64 (rd (SH a f b s) y + 1)) + wrap64 (wrap64 (f + wrap64 (y * b)) * wrap64 (f + wrap64 (y * b)))) ≤ wrap64 (a * a) := by
  obtain ⟨e, g1, g2, g3, g4, g5, g6, _⟩ := sh_at c h0 h1
  obtain ⟨⟨a1, a2⟩, -⟩ := c
  rw [e]
  have q3 := M.mulb 1000 1000 (a := a) (b := a) (by omega) (by omega) (by omega) (by omega)
  have q4 := M.mulb 1000 1000 (a := f + y * b) (b := f + y * b) (by omega) (by omega) (by omega) (by omega)
  have q5 := M.mulb 1000 1000 (a := rd (SH a f b s) y) (b := rd (SH a f b s) y) (by omega) (by omega) (by omega) (by omega)
  have q6 := M.mulb 1001 1001 (a := rd (SH a f b s) y + 1) (b := rd (SH a f b s) y + 1) (by omega) (by omega) (by omega) (by omega)
  rw [M.wrap_id (n := a * a) (by omega) (by omega), M.wrap_id (n := rd (SH a f b s) y * rd (SH a f b s) y) (by omega) (by omega), M.wrap_id (n := rd (SH a f b s) y + 1) (by omega) (by omega), M.wrap_id (n := (f + y * b) * (f + y * b)) (by omega) (by omega),
    M.wrap_id (n := (rd (SH a f b s) y + 1) * (rd (SH a f b s) y + 1)) (by omega) (by omega), M.wrap_id (n := rd (SH a f b s) y * rd (SH a f b s) y + (f + y * b) * (f + y * b)) (by omega) (by omega), M.wrap_id (n := (rd (SH a f b s) y + 1) * (rd (SH a f b s) y + 1) + (f + y * b) * (f + y * b)) (by omega) (by omega)]
  omega
theorem sh_drop {a f b s y : Int} (c : SC a f b s) (h0 : 0 < y) (h1 : y < ((SH a f b s).length : Int)) :
    wrap64 (y - 1) = y - 1 ∧ y - 1 < ((M.drops (SH a f b s)).length : Int) ∧ wrap64 (rd (SH a f b s) (wrap64 (y - 1)) - rd (SH a f b s) y) = rd (M.drops (SH a f b s)) (wrap64 (y - 1)) ∧ 0 ≤ rd (M.drops (SH a f b s)) (wrap64 (y - 1)) := by
  have hl := sh_len c
  have hs := c.2.2.2
  have e : wrap64 (y - 1) = y - 1 := M.wrap_id (by omega) (by omega)
  obtain ⟨_, g1, g2, g3, g4, g5, g6, g7⟩ := sh_at c (by omega) h1
  obtain ⟨_, k1, k2, k3, k4, k5, k6, k7⟩ := sh_at (y := y - 1) c (by omega) (by omega)
  have hd : rd (M.drops (SH a f b s)) (y - 1) = rd (SH a f b s) (y - 1) - rd (SH a f b s) y := by
    obtain ⟨i, hi⟩ := Int.eq_ofNat_of_zero_le (a := y - 1) (by omega)
    have hy : y = ((i + 1 : Nat) : Int) := by omega
    rw [hi, hy]
    unfold rd
    rw [Int.toNat_natCast, Int.toNat_natCast]
    exact drops_at _ _ (by omega)
  have hm : rd (SH a f b s) y ≤ rd (SH a f b s) (y - 1) := by
    have z1 : f + (y - 1) * b ≤ f + y * b := by
      have := c.2.2.1
      rw [Int.sub_mul, Int.one_mul]; omega
    have z2 := M.sq_le k1 z1
    have z3 := M.sq_le g1 g2
    rw [g7, k7]
    exact root_mono (by omega) (by omega)
  rw [e, hd, M.wrap_id (by omega) (by omega)]
  have := M.drops_length (SH a f b s)
  exact ⟨rfl, by omega, rfl, by omega⟩
theorem sh_stop {a f b s : Int} (c : SC a f b s) (h : ((SH a f b s).length : Int) ≤ s) : ¬ wrap64 (f + wrap64 (((SH a f b s).length : Int) * b)) ≤ a := by
  have hl := sh_len c
  have he := slips_end a b (s + 1).toNat f (by have h2 : ((M.slips a b f (s + 1).toNat).length : Int) ≤ s := h; have := c.2.2.2; omega)
  obtain ⟨⟨a1, a2⟩, ⟨f1, f2⟩, ⟨b1, b2⟩, s1, s2⟩ := c
  have q1 := M.mulb 51 1000 (a := ((SH a f b s).length : Int)) (b := b) (by omega) (by omega) (by omega) (by omega)
  rw [M.wrap_id (n := ((SH a f b s).length : Int) * b) (by omega) (by omega), M.wrap_id (by omega) (by omega)]
  show ¬ f + ((SH a f b s).length : Int) * b ≤ a
  have : a < f + ((SH a f b s).length : Int) * b := he
  omega
theorem part1 : Pure1 := by
  intro a f b s
  have q1 := iSlips_ev a f b s
  have q2 := sSlips_ev a f b s
  have q3 := iDrops_ev a f b s
  have q4 := sDrops_ev a f b s
  by_cases c : SC a f b s
  · rw [if_pos (by exact c)] at q1 q2 q3 q4
    have hl := sh_len c
    have hs := c.2.2.2
    have hd := M.drops_length (SH a f b s)
    have stp : ∀ y : Int, 0 ≤ y → y < ((SH a f b s).length : Int) → wrap64 (y + 1) = y + 1 := fun y h0 h1 => M.wrap_id (by omega) (by omega)
    refine ⟨SH a f b s, true, SH a f b s, true, M.drops (SH a f b s), true, M.drops (SH a f b s), true, true, true, fun y => 0 ≤ y, fun y => (((SH a f b s).length : Int) - y).toNat, ⟨ex q1, ex q2, ex q3, ex q4, ex (jSame_self _ (by omega)), ex (jSame_self _ (by omega))⟩, ?_⟩
    refine ⟨ne_f rfl, rfl, ne_f rfl, rfl, ne_f rfl, fun _ => decide_eq_false (by omega), fun _ => decide_eq_false ?_, fun _ => ne_f ?_, fun _ y h _ => h, fun _ y _ h => of_decide_eq_true h,
      fun _ y h0 h1 => decide_eq_false ?_, fun _ y h0 h1 => decide_eq_false ?_, fun _ y h0 h1 => decide_eq_false (sh_sq c h0 (of_decide_eq_true h1)).1, fun _ y h0 h1 => decide_eq_false (sh_sq c h0 (of_decide_eq_true h1)).2,
      fun _ y h0 h1 h2 => ?_, fun _ y h0 h1 h2 => ?_, fun _ y h0 h1 h2 => ?_, fun _ y h0 h1 h2 => ?_, fun _ y h0 h1 h2 => ne_f (sh_drop c (of_decide_eq_true h2) (of_decide_eq_true h1)).2.2.1, fun _ y h0 h1 h2 => ?_, fun _ y h0 h1 h2 => ?_, fun _ y h0 h1 h2 => decide_eq_false ?_,
      fun _ h => decide_eq_false (sh_stop c (of_decide_eq_true h)), fun _ => Int.le_refl _, fun _ y h0 h1 => ?_, fun _ y h0 h1 => ?_⟩
    · rw [M.wrap_id (n := s + 1) (by omega) (by omega)]; omega
    · rw [M.wrap_id (by omega) (by omega), hd]; omega
    · have := sh_at c h0 (of_decide_eq_true h1); rw [this.1]; omega
    · have := sh_at c h0 (of_decide_eq_true h1); omega
    all_goals try (have hx := sh_drop c (of_decide_eq_true h2) (of_decide_eq_true h1); have hy := of_decide_eq_true h2; have hz := of_decide_eq_true h1; first | omega | (rw [hx.1]; omega))
    · show 0 ≤ wrap64 (y + 1)
      rw [stp y h0 (of_decide_eq_true h1)]; have : (0 : Int) ≤ y := h0; omega
    · have h3 := of_decide_eq_true h1
      have h4 : (0 : Int) ≤ y := h0
      show (((SH a f b s).length : Int) - wrap64 (y + 1)).toNat < (((SH a f b s).length : Int) - y).toNat
      rw [stp y h4 h3]; omega
  · rw [if_neg (by exact c)] at q1 q2 q3 q4
    refine ⟨[], false, [], false, [], false, [], false, true, true, fun _ => True, fun _ => 0, ⟨ex q1, ex q2, ex q3, ex q4, ex (jSame_self _ (by simp)), ex (jSame_self _ (by simp))⟩, ?_⟩
    exact ⟨ne_f rfl, rfl, ne_f rfl, rfl, ne_f rfl, no, no, no, no, no, no, no, no, no, no, no, no, no, no, no, no, no, no, no, no, no⟩
/-! ### a foot for a height -/
theorem part2 : Pure2 := by
  intro n h
  have q1 := iFoot_ev n h
  have q2 := sFoot_ev n h
  by_cases c : (1 ≤ n ∧ n ≤ 1000) ∧ 0 ≤ h ∧ h ≤ n
  · rw [if_pos c] at q1 q2
    obtain ⟨⟨a1, a2⟩, h1, h2⟩ := c
    have w1 := M.mulb 1000 1000 (a := n) (b := n) (by omega) (by omega) (by omega) (by omega)
    have w2 := M.mulb 1000 1000 (a := h) (b := h) (by omega) (by omega) (by omega) (by omega)
    have w3 := M.sq_le h1 h2
    obtain ⟨r1, r2⟩ := M.root_spec (n := n * n - h * h) (by omega)
    have r0 := M.root_nonneg (n * n - h * h)
    have r3 := M.root_le (n := n * n - h * h) (B := 1000) (by omega) (by omega) (by omega)
    refine ⟨_, _, _, _, ⟨ex q1, ex q2⟩, ne_f rfl, ne_f rfl, fun _ => decide_eq_false (by omega), fun _ => decide_eq_false ?_, fun _ => decide_eq_false ?_⟩
    · generalize M.root (n * n - h * h) = r at *
      have w4 := M.mulb 1000 1000 (a := r) (b := r) (by omega) (by omega) (by omega) (by omega)
      rw [M.wrap_id (n := n * n) (by omega) (by omega), M.wrap_id (n := r * r) (by omega) (by omega), M.wrap_id (n := h * h) (by omega) (by omega), M.wrap_id (by omega) (by omega)]
      omega
    · generalize M.root (n * n - h * h) = r at *
      have w4 := M.mulb 1001 1001 (a := r + 1) (b := r + 1) (by omega) (by omega) (by omega) (by omega)
      rw [M.wrap_id (n := n * n) (by omega) (by omega), M.wrap_id (n := r + 1) (by omega) (by omega), M.wrap_id (n := (r + 1) * (r + 1)) (by omega) (by omega), M.wrap_id (n := h * h) (by omega) (by omega), M.wrap_id (by omega) (by omega)]
      omega
  · rw [if_neg c] at q1 q2
    exact ⟨_, _, _, _, ⟨ex q1, ex q2⟩, ne_f rfl, ne_f rfl, no, no, no⟩
/-! ### the middle, and parts -/
theorem jIs_l {x d : Int} (hd : 0 < d) (hx : -1000000000 ≤ x ∧ x ≤ 1000000000) : Ev (fun k => laws_jIs.f k (M.l1 x d) (M.l2 x d) x d) true := by
  have := M.l1_abs (a := x) hd
  exact jIs_true (by omega) (by omega) (M.l2_pos hd) (M.l_coprime hd) (M.l_cross _ _)
theorem part3 : Pure3 := by
  intro f h
  have q1 := iMiddleOf_ev f h
  have q2 := sMiddleOf_ev f h
  have q3 := iPart_ev f h 1 2
  by_cases c : (1 ≤ f ∧ f ≤ 1000) ∧ 1 ≤ h ∧ h ≤ 1000
  · rw [if_pos c] at q1 q2
    rw [if_pos ⟨c.1, c.2, by omega, by omega⟩, show f * (2 - 1) = f by omega, Int.mul_one] at q3
    refine ⟨_, _, _, _, _, _, _, _, _, _, _, _, true, true, true, ⟨ex q1, ex q2, fun _ => ex q3, fun _ => ex (jIs_l (by omega) (by omega)), fun _ => ex (jIs_l (by omega) (by omega)), fun _ => ex (jSame_self _ (by simp))⟩, ne_f rfl, ne_f rfl, ne_f rfl, ne_f rfl, ne_f rfl, fun _ => rfl, fun _ => rfl, fun _ => rfl, fun _ => rfl⟩
  · rw [if_neg c] at q1 q2
    exact ⟨_, _, _, _, _, _, _, _, _, _, [], false, true, true, true, ⟨ex q1, ex q2, no, no, no, no⟩, ne_f rfl, ne_f rfl, ne_f rfl, ne_f rfl, ne_f rfl, no, no, no, no⟩
theorem part4 : Pure4 := by
  intro x y n d
  have q1 := iPart_ev x y n d
  have q2 := sPart_ev x y n d
  by_cases c : (1 ≤ x ∧ x ≤ 1000) ∧ (1 ≤ y ∧ y ≤ 1000) ∧ (1 ≤ d ∧ d ≤ 100) ∧ 0 ≤ n ∧ n ≤ d
  · rw [if_pos c] at q1 q2
    obtain ⟨⟨x1, x2⟩, ⟨y1, y2⟩, ⟨d1, d2⟩, n1, n2⟩ := c
    have w1 := M.mulb 1000 100 (a := x) (b := d - n) (by omega) (by omega) (by omega) (by omega)
    have w2 := M.mulb 1000 100 (a := y) (b := n) (by omega) (by omega) (by omega) (by omega)
    have e1 : wrap64 (x * wrap64 (d - n)) = x * (d - n) := by rw [M.wrap_id (n := d - n) (by omega) (by omega), M.wrap_id (by omega) (by omega)]
    have e2 : wrap64 (y * n) = y * n := M.wrap_id (by omega) (by omega)
    refine ⟨_, _, _, _, true, true, true, ⟨ex q1, ex q2, fun _ => ?_, fun _ => ?_, ex (jSame_self _ (by simp))⟩, ne_f rfl, rfl, fun _ => ne_f rfl, fun _ => by simp, fun _ => by simp, fun _ => rfl, fun _ => by simp, fun _ => by simp, fun _ => rfl⟩
    · rw [e1]; exact ex (jIs_l (x := x * (d - n)) (d := d) (by omega) (by omega))
    · rw [e2]; exact ex (jIs_l (x := y * n) (d := d) (by omega) (by omega))
  · rw [if_neg c] at q1 q2
    exact ⟨_, _, _, _, true, true, true, ⟨ex q1, ex q2, no, no, ex (jSame_self _ (by simp))⟩, ne_f rfl, rfl, no, no, no, no, no, no, no⟩
/-! ### square leans -/
theorem part5 : Pure5 := by
  intro a b
  have q1 := iSum_ev a b
  have q2 := sSum_ev a b
  have q3 := iCount_ev a b
  have q4 := sCount_ev a b
  by_cases c : (1 ≤ a ∧ a ≤ 60) ∧ 1 ≤ b ∧ b ≤ 1000
  · rw [if_pos c] at q3 q4
    obtain ⟨⟨a1, a2⟩, b1, b2⟩ := c
    have w1 := M.mulb 480 60 (a := 8 * a) (b := a) (by omega) (by omega) (by omega) (by omega)
    have w2 := M.mulb 1000 1000 (a := b) (b := b) (by omega) (by omega) (by omega) (by omega)
    have w3 := M.mulb 60 60 (a := a) (b := a) (by omega) (by omega) (by omega) (by omega)
    have e1 : wrap64 (wrap64 (8 * a) * a) = 8 * a * a := by rw [M.wrap_id (n := 8 * a) (by omega) (by omega), M.wrap_id (by omega) (by omega)]
    have e2 : wrap64 (b * b) = b * b := M.wrap_id (by omega) (by omega)
    have e3 : wrap64 (wrap64 (a * a) + wrap64 (b * b)) = a * a + b * b := by rw [e2, M.wrap_id (n := a * a) (by omega) (by omega), M.wrap_id (by omega) (by omega)]
    by_cases k : 8 * a * a ≤ b * b
    · rw [if_pos ⟨⟨⟨a1, a2⟩, b1, b2⟩, k⟩] at q1 q2
      rw [if_pos k] at q3 q4
      obtain ⟨r1, r2⟩ := M.root_spec (n := a * a + b * b) (by omega)
      have r0 := M.root_nonneg (a * a + b * b)
      have r3 := M.root_le (n := a * a + b * b) (B := 1100) (by omega) (by omega) (by omega)
      generalize M.root (a * a + b * b) = r at *
      have w4 := M.mulb 1100 1100 (a := r) (b := r) (by omega) (by omega) (by omega) (by omega)
      have w5 := M.mulb 1101 1101 (a := r + 1) (b := r + 1) (by omega) (by omega) (by omega) (by omega)
      have e4 : wrap64 (r + a - a) = r := by rw [show r + a - a = r by omega]; exact M.wrap_id (by omega) (by omega)
      refine ⟨_, _, _, _, _, _, _, _, _, _, ⟨ex q1, ex q2, ex q3, ex q4⟩, ne_f rfl, ne_f rfl, ne_f rfl, ne_f rfl, ne_f rfl, fun _ => ne_f rfl, no', fun _ _ => ne_f rfl, fun _ _ => ?_, fun _ h => ?_, fun _ => decide_eq_false ?_, fun _ => decide_eq_false ?_, fun _ h => ?_, fun _ h => ?_, fun _ h => ?_⟩
      · rw [e1, e2, decide_eq_true k]; rfl
      · exact absurd h (by decide)
      · rw [e3, e4, M.wrap_id (n := r * r) (by omega) (by omega)]; omega
      · rw [e3, e4, M.wrap_id (n := r + 1) (by omega) (by omega), M.wrap_id (n := (r + 1) * (r + 1)) (by omega) (by omega)]; omega
      · by_cases z : r * r = a * a + b * b
        · rw [if_pos z]; rfl
        · rw [if_neg z] at h; exact absurd h (by decide)
      · rw [e3, e4, M.wrap_id (n := r * r) (by omega) (by omega)]
        by_cases z : r * r = a * a + b * b
        · rw [if_pos z, z]; simp
        · rw [if_neg z] at h; exact absurd h (by decide)
      · rw [e3, e4, M.wrap_id (n := r * r) (by omega) (by omega)]
        by_cases z : r * r = a * a + b * b
        · rw [if_pos z] at h; exact absurd h (by decide)
        · rw [if_neg z, beq_eq_false_iff_ne.2 z]; rfl
    · rw [if_neg (fun h => k h.2)] at q1 q2
      rw [if_neg k] at q3 q4
      refine ⟨_, _, _, _, _, _, _, _, _, _, ⟨ex q1, ex q2, ex q3, ex q4⟩, ne_f rfl, ne_f rfl, ne_f rfl, ne_f rfl, ne_f rfl, fun _ => ne_f rfl, no', fun _ h => ?_, fun _ h => ?_, fun _ _ => ?_, no, no, no, no, no⟩
      · exact absurd h (by decide)
      · exact absurd h (by decide)
      · rw [e1, e2, decide_eq_false k]; rfl
  · rw [if_neg (fun h => c h.1)] at q1 q2
    rw [if_neg c] at q3 q4
    exact ⟨_, _, _, _, _, _, _, _, _, _, ⟨ex q1, ex q2, ex q3, ex q4⟩, ne_f rfl, ne_f rfl, ne_f rfl, ne_f rfl, ne_f rfl, no, fun _ => ne_f rfl, no, no, no, no, no, no, no, no⟩
theorem part6 : Pure6 := by
  intro m
  have q1 := iGreat_ev m
  have q2 := sGreat_ev m
  by_cases c : 1 ≤ m ∧ m ≤ 1000
  · rw [if_pos c] at q1 q2
    have w1 := M.mulb 1000 1000 (a := m) (b := m) (by omega) (by omega) (by omega) (by omega)
    obtain ⟨r1, r2⟩ := M.root_spec (n := m * m / 8) (by omega)
    have r0 := M.root_nonneg (m * m / 8)
    have r3 := M.root_le (n := m * m / 8) (B := 1000) (by omega) (by omega) (by omega)
    refine ⟨_, _, _, _, ⟨ex q1, ex q2⟩, ne_f rfl, ne_f rfl, fun _ => decide_eq_false ?_, fun _ => decide_eq_false ?_⟩
    · generalize M.root (m * m / 8) = r at *
      have w4 := M.mulb 1000 1000 (a := r) (b := r) (by omega) (by omega) (by omega) (by omega)
      have z : 8 * r * r = 8 * (r * r) := Int.mul_assoc _ _ _
      rw [M.wrap_id (n := m * m) (by omega) (by omega), M.wrap_id (n := 8 * r) (by omega) (by omega), M.wrap_id (by omega) (by omega)]
      omega
    · generalize M.root (m * m / 8) = r at *
      have w4 := M.mulb 1001 1001 (a := r + 1) (b := r + 1) (by omega) (by omega) (by omega) (by omega)
      have z : 8 * (r + 1) * (r + 1) = 8 * ((r + 1) * (r + 1)) := Int.mul_assoc _ _ _
      rw [M.wrap_id (n := m * m) (by omega) (by omega), M.wrap_id (n := r + 1) (by omega) (by omega), M.wrap_id (n := 8 * (r + 1)) (by omega) (by omega), M.wrap_id (by omega) (by omega)]
      omega
  · rw [if_neg c] at q1 q2
    exact ⟨_, _, _, _, ⟨ex q1, ex q2⟩, ne_f rfl, ne_f rfl, no, no⟩
/-! ### whole leans over a square box: the flat ones are the first half -/
def half (w : Nat) : Bool := (M.leans w w).filter M.flat == (M.leans w w).take (((M.leans w w).length + 1) / 2)
theorem half_all : (List.range 61).all half = true := by kernel_rfl
theorem half_eq {w : Int} (h : 1 ≤ w ∧ w ≤ 60) : (M.leans w w).filter M.flat = (M.leans w w).take (((M.leans w w).length + 1) / 2) := by
  obtain ⟨n, rfl⟩ := Int.eq_ofNat_of_zero_le (a := w) (by omega)
  have := List.all_eq_true.1 half_all n (List.mem_range.2 (by omega))
  exact eq_of_beq this
theorem leans_one {w : Int} (h : 1 ≤ w ∧ w ≤ 60) : 1 ≤ (M.leans w w).length := by
  have w3 := M.mulb 60 60 (a := w) (b := w) (by omega) (by omega) (by omega) (by omega)
  have w4 := M.sq_lt (a := 0) (b := w) (by omega) (by omega)
  unfold M.leans
  have : (1 : Int) ∈ M.sel (fun d => decide ((w * w) % d = 0)) 1 (w * w).toNat := (M.sel_mem _ _ _ _).2 ⟨by omega, by omega, by simp⟩
  rw [List.length_map]
  exact List.length_pos_of_mem this
theorem part7 : Pure7 := by
  intro w
  have q1 := iWholeSq_ev w
  have q2 := sWholeSq_ev w
  have q3 := iWholeLeans_ev w w
  by_cases c : 1 ≤ w ∧ w ≤ 60
  · rw [if_pos c] at q1 q2
    rw [if_pos ⟨c, c⟩] at q3
    have hl := M.leans_length (w := w) (h := w) ⟨c, c⟩
    have h1 := leans_one c
    have hm : ∀ x ∈ (M.leans w w).filter M.flat, ∃ a b, x = [a, b] ∧ a ≤ b := fun x hx => by
      obtain ⟨hx, hf⟩ := List.mem_filter.1 hx
      obtain ⟨a, b, rfl, _⟩ := M.leans_mem (w := w) (h := w) ⟨c, c⟩ x hx
      exact ⟨a, b, rfl, of_decide_eq_true hf⟩
    have hx : ∀ x ∈ (M.leans w w).filter M.flat, x.length ≤ 1000000 := fun x hx => by
      obtain ⟨a, b, rfl, _⟩ := hm x hx
      simp
    have hlen : ((M.leans w w).filter M.flat).length = ((M.leans w w).length + 1) / 2 := by rw [half_eq c, List.length_take]; omega
    have hat : ∀ y : Int, 0 ≤ y → y < (((M.leans w w).filter M.flat).length : Int) → ((M.leans w w).filter M.flat).getD y.toNat [] = (M.leans w w).getD y.toNat [] ∧ ∃ a b, ((M.leans w w).filter M.flat).getD y.toNat [] = [a, b] ∧ a ≤ b := fun y h0 h1 => by
      have hlt : y.toNat < ((M.leans w w).filter M.flat).length := by omega
      constructor
      · rw [half_eq c] at hlt ⊢
        rw [List.getD_eq_getElem?_getD, List.getD_eq_getElem?_getD, List.getElem?_take_of_lt (by rw [List.length_take] at hlt; omega)]
      · rw [List.getD_eq_getElem?_getD, List.getElem?_eq_getElem hlt]
        exact hm _ (List.getElem_mem hlt)
    have stp : ∀ y : Int, 0 ≤ y → y < (((M.leans w w).filter M.flat).length : Int) → wrap64 (y + 1) = y + 1 := fun y h0 h1 => M.wrap_id (by omega) (by omega)
    refine ⟨_, _, _, _, _, _, fun _ => true, true, fun y => 0 ≤ y, fun y => ((((M.leans w w).filter M.flat).length : Int) - y).toNat, ⟨ex q1, ex q2, fun _ => ex q3, fun _ y h0 h1 => ?_, ex (jRows_self _ (by omega) hx)⟩, ne_f rfl, rfl, fun _ => rfl, fun _ => ne_f ?_, fun _ => Int.le_refl _, fun _ y h0 _ => h0, fun _ y _ h1 => of_decide_eq_true h1, fun _ y h0 h1 => ?_, fun _ y h0 h1 => ?_, fun _ y h0 h1 => ne_f ?_, fun _ y h0 h1 => ?_, fun _ y h0 h1 => ?_, fun _ y h0 h1 => decide_eq_false ?_, fun _ y h0 _ => h0, fun _ y h0 h1 => ?_, fun _ y h0 h1 => rfl⟩
    · obtain ⟨e, a, b, e2, _⟩ := hat y h0 (of_decide_eq_true h1)
      rw [← e, e2]
      exact ex (jSame_self _ (by simp))
    · rw [hlen, M.wrap_id (n := ((M.leans w w).length : Int) + 1) (by omega) (by omega), Int.tdiv_eq_ediv_of_nonneg (by omega), M.wrap_id (by omega) (by omega)]
      omega
    · show 0 ≤ wrap64 (y + 1)
      rw [stp y h0 (of_decide_eq_true h1)]; have : (0 : Int) ≤ y := h0; omega
    · have h3 := of_decide_eq_true h1
      have h4 : (0 : Int) ≤ y := h0
      show ((((M.leans w w).filter M.flat).length : Int) - wrap64 (y + 1)).toNat < ((((M.leans w w).filter M.flat).length : Int) - y).toNat
      rw [stp y h4 h3]; omega
    · obtain ⟨_, a, b, e2, _⟩ := hat y h0 (of_decide_eq_true h1); rw [e2]; rfl
    · obtain ⟨_, a, b, e2, _⟩ := hat y h0 (of_decide_eq_true h1); rw [e2]; simp
    · obtain ⟨_, a, b, e2, _⟩ := hat y h0 (of_decide_eq_true h1); rw [e2]; simp
    · obtain ⟨_, a, b, e2, e3⟩ := hat y h0 (of_decide_eq_true h1); rw [e2]; show ¬ b < a; omega
    · have := of_decide_eq_true h1; rw [hlen] at this; omega
  · rw [if_neg c] at q1 q2
    refine ⟨_, _, _, _, [], false, fun _ => true, true, fun _ => True, fun _ => 0, ⟨ex q1, ex q2, no, no, ex (jRows_self _ (by simp) (by simp))⟩, ne_f rfl, rfl, no, no, no, no, no, no, no, no, no, no, no, no, no, no⟩
theorem law : StFnLaddersSlip.Pure := ⟨fun l0 l1 => by obtain ⟨r, hr⟩ := big_tot l0 l1; exact ⟨r, hr, trivial⟩, part1, part2, part3, part4, part5, part6, part7⟩
end Go.Proofs.Ytlajkepgmmfbhaa.PbFnLaddersSlip
namespace Go.Proofs.Ytlajkepgmmfbhaa.Pure
theorem FnLaddersSlip : StFnLaddersSlip.Pure := PbFnLaddersSlip.law
end Go.Proofs.Ytlajkepgmmfbhaa.Pure
