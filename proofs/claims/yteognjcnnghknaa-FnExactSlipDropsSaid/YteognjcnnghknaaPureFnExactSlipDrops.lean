/- The plain part of FnExactSlipDrops: what the printed functions of the program and of the reference answer, in plain Lean, and that the law answers true. No condition. -/
import Derived.Test.YteognjcnnghknaaPFnExactSlipDropsx3
import Derived.Test.YteognjcnnghknaaM
namespace Go.Proofs.Yteognjcnnghknaa.PbFnExactSlipDrops
open Go.RowKit Go.Proofs.Yteognjcnnghknaa Go.Proofs.Yteognjcnnghknaa.PFnExactSlipDrops Go.Proofs.YteognjcnnghknaaW.PrintWords Go.Proofs.YteognjcnnghknaaW.PrintLast
set_option linter.unusedVariables false
set_option linter.unusedSimpArgs false

theorem laws_eqIntS_l0_ev (x0 : List Int) (x1 : List Int) (x5 : Int) {r : (Bool)} (h : Ev (fun k => if x5 < (x0.length : Int) then (if 0 ≤ x5 then (if x5 < (x1.length : Int) then (if (rd x0 x5) = (rd x1 x5) then (laws_eqIntS.l0 k x0 x1 (wrap64 (x5 + 1))) else (some false)) else (none)) else (none)) else (some true)) r) : Ev (fun k => laws_eqIntS.l0 k x0 x1 x5) r := Ev.step (fun k => by simp only [laws_eqIntS.l0]) h
theorem rd_mid (done rest : List Int) (x : Int) : rd (done ++ x :: rest) (done.length : Int) = x := by simp [rd]
theorem eqIntS_l0 : ∀ (rest done : List Int), (done ++ rest).length ≤ 1000000000000 → Ev (fun k => laws_eqIntS.l0 k (done ++ rest) (done ++ rest) done.length) true
  | [], done, _ => laws_eqIntS_l0_ev _ _ _ (M.evn (by simp) (Ev.now _))
  | x :: rest, done, hl => by
    have h2 : (done ++ x :: rest).length = done.length + rest.length + 1 := by simp; omega
    have hlt : ((done.length : Nat) : Int) < (((done ++ x :: rest).length : Nat) : Int) := by omega
    refine laws_eqIntS_l0_ev _ _ _ (M.evp hlt (M.evp (by omega) (M.evp hlt (M.evp rfl ?_))))
    have ih := eqIntS_l0 rest (done ++ [x]) (by simpa using hl)
    have e : wrap64 ((done.length : Int) + 1) = ((done ++ [x]).length : Int) := by rw [M.wrap_id (by omega) (by omega)]; simp
    rw [e]
    simpa using ih
theorem eqIntS_self (l : List Int) (h : l.length ≤ 1000000000000) : Ev (fun k => laws_eqIntS.f k l l) true := by
  unfold laws_eqIntS.f
  exact M.evp rfl (by simpa using eqIntS_l0 l [] (by simpa using h))
theorem laws_markIntS_l0_ev (x0 : List Int) (x1 : Int) (x5 : Int) {r : (Int × List Int)} (h : Ev (fun k => if x5 < (x0.length : Int) then (if 0 ≤ x5 then (laws_markIntS.l0 k (x0.set (x5 : Int).toNat x1) (wrap64 (x1 + 1)) (wrap64 (x5 + 1))) else (none)) else (some (x1, x0))) r) : Ev (fun k => laws_markIntS.l0 k x0 x1 x5) r := Ev.step (fun k => by simp only [laws_markIntS.l0]) h
theorem markIntS_l0 : ∀ (rest done : List Int) (a : Int), (done ++ rest).length ≤ 1000000000000 → 0 ≤ a → a + rest.length ≤ 1000000000000 →
    Ev (fun k => laws_markIntS.l0 k (done ++ rest) a done.length) (a + rest.length, done ++ M.cnt a rest.length)
  | [], done, a, _, _, _ => by
    have e : (a + (([] : List Int).length : Int), done ++ M.cnt a ([] : List Int).length) = (a, done ++ []) := by simp [M.cnt]
    rw [e]
    exact laws_markIntS_l0_ev _ _ _ (M.evn (by simp) (Ev.now _))
  | x :: rest, done, a, hl, h0, h1 => by
    have h2 : (done ++ x :: rest).length = done.length + rest.length + 1 := by simp; omega
    have hlt : ((done.length : Nat) : Int) < (((done ++ x :: rest).length : Nat) : Int) := by omega
    refine laws_markIntS_l0_ev _ _ _ (M.evp hlt (M.evp (by omega) ?_))
    have e : wrap64 ((done.length : Int) + 1) = ((done ++ [a]).length : Int) := by rw [M.wrap_id (by omega) (by omega)]; simp
    have e2 : wrap64 (a + 1) = a + 1 := M.wrap_id (by omega) (by omega)
    have e3 : (done ++ x :: rest).set ((done.length : Int)).toNat a = (done ++ [a]) ++ rest := by simp
    have e4 : (a + ((x :: rest).length : Int), done ++ M.cnt a (x :: rest).length) = (a + 1 + (rest.length : Int), (done ++ [a]) ++ M.cnt (a + 1) rest.length) := by
      simp only [List.length_cons, M.cnt, List.append_assoc, List.singleton_append, Prod.mk.injEq, and_true]; omega
    rw [e, e2, e3, e4]
    exact markIntS_l0 rest (done ++ [a]) (a + 1) (by simpa using hl) (by omega) (by rw [List.length_cons] at h1; omega)
theorem markIntS_ev (l : List Int) (a : Int) (h : l.length ≤ 100000000000) (h0 : 0 ≤ a) (h1 : a ≤ 100000000000) : Ev (fun k => laws_markIntS.f k l a) (a + l.length, M.cnt a l.length) := by
  unfold laws_markIntS.f
  simpa using markIntS_l0 l [] a (by simp; omega) h0 (by omega)
theorem laws_heldIntS_l0_ev (x0 : List Int) (x1 : Int) (x5 : Int) {r : (Int)} (h : Ev (fun k => if x5 < (x0.length : Int) then (if 0 ≤ x5 then (if (rd x0 x5) = x1 then (laws_heldIntS.l0 k x0 (wrap64 (x1 + 1)) (wrap64 (x5 + 1))) else (some (-1))) else (none)) else (some x1)) r) : Ev (fun k => laws_heldIntS.l0 k x0 x1 x5) r := Ev.step (fun k => by simp only [laws_heldIntS.l0]) h
theorem heldIntS_l0 : ∀ (n : Nat) (done : List Int) (a : Int), done.length + n ≤ 1000000000000 → 0 ≤ a → a + n ≤ 2000000000000 →
    Ev (fun k => laws_heldIntS.l0 k (done ++ M.cnt a n) a done.length) (a + n)
  | 0, done, a, _, _, _ => by
    have e : a + ((0 : Nat) : Int) = a := by omega
    rw [e]
    exact laws_heldIntS_l0_ev _ _ _ (M.evn (by simp [M.cnt]) (Ev.now _))
  | n + 1, done, a, hl, h0, h1 => by
    have h2 : (done ++ M.cnt a (n + 1)).length = done.length + n + 1 := by simp [M.cnt_length]; omega
    have hlt : ((done.length : Nat) : Int) < (((done ++ M.cnt a (n + 1)).length : Nat) : Int) := by omega
    have e0 : rd (done ++ M.cnt a (n + 1)) (done.length : Int) = a := by rw [M.cnt]; simp [rd]
    refine laws_heldIntS_l0_ev _ _ _ (M.evp hlt (M.evp (by omega) (M.evp e0 ?_)))
    have ih := heldIntS_l0 n (done ++ [a]) (a + 1) (by simp; omega) (by omega) (by omega)
    have e : wrap64 ((done.length : Int) + 1) = ((done ++ [a]).length : Int) := by rw [M.wrap_id (by omega) (by omega)]; simp
    have e2 : wrap64 (a + 1) = a + 1 := M.wrap_id (by omega) (by omega)
    have e3 : done ++ M.cnt a (n + 1) = (done ++ [a]) ++ M.cnt (a + 1) n := by simp [M.cnt]
    have e4 : a + ((n + 1 : Nat) : Int) = a + 1 + (n : Int) := by omega
    rw [e, e2, e3, e4]; exact ih
theorem heldIntS_ev (n : Nat) (a : Int) (h : n ≤ 1000000000000) (h0 : 0 ≤ a) (h1 : a ≤ 1000000000000) : Ev (fun k => laws_heldIntS.f k (M.cnt a n) a) (a + n) := by
  unfold laws_heldIntS.f
  simpa using heldIntS_l0 n [] a (by simp; omega) h0 (by omega)
theorem l1In_eq (a b c : Int) : spec_l1In.f a b c = some (decide (b ≤ a ∧ a ≤ c)) := by
  unfold spec_l1In.f
  by_cases h : b ≤ a <;> simp [h]
theorem lnLong_eq (a : Int) : spec_lnLong.f a = some (decide (1 ≤ a ∧ a ≤ 1000)) := by simp [spec_lnLong.f, l1In_eq]
theorem lnAsked_eq (a f b n : Int) : spec_lnAsked.f a f b n = some (decide ((1 ≤ a ∧ a ≤ 1000) ∧ (0 ≤ f ∧ f ≤ a) ∧ (1 ≤ b ∧ b ≤ 1000) ∧ 0 ≤ n ∧ n ≤ 50)) := by
  simp only [spec_lnAsked.f, lnLong_eq, l1In_eq, Option.bind_some, decide_eq_true_eq]
  by_cases h1 : 1 ≤ a ∧ a ≤ 1000
  · by_cases h2 : 0 ≤ f ∧ f ≤ a
    · by_cases h3 : 1 ≤ b ∧ b ≤ 1000
      · rw [if_pos h1, if_pos h2, if_pos h3]; simp [h1, h2, h3]
      · rw [if_pos h1, if_pos h2, if_neg h3]; simp [h3]
    · rw [if_pos h1, if_neg h2]; simp [h2]
  · rw [if_neg h1]; simp [h1]
theorem spec_clRoot_l0_ev (x0 : Int) (x3 : Int) (x4 : Int) {r : (Int)} (h : Ev (fun k => if x3 < (wrap64 (x4 - 1)) then (if (wrap64 ((wrap64 (Int.tdiv (wrap64 (x3 + x4)) 2)) * (wrap64 (Int.tdiv (wrap64 (x3 + x4)) 2)))) ≤ x0 then (spec_clRoot.l0 k x0 (wrap64 (Int.tdiv (wrap64 (x3 + x4)) 2)) x4) else (spec_clRoot.l0 k x0 x3 (wrap64 (Int.tdiv (wrap64 (x3 + x4)) 2)))) else (some x3)) r) : Ev (fun k => spec_clRoot.l0 k x0 x3 x4) r := Ev.step (fun k => by simp only [spec_clRoot.l0]) h
theorem clRoot_l0 (x : Int) (hx : 0 ≤ x) : ∀ (n : Nat) (lo hi : Int), (hi - lo).toNat ≤ n → 0 ≤ lo → lo < hi → hi ≤ 2147483648 → lo * lo ≤ x → x < hi * hi →
    Ev (fun k => spec_clRoot.l0 k x lo hi) (M.root x)
  | n, lo, hi, hn, h0, h1, h2, h3, h4 => by
    have w1 : wrap64 (hi - 1) = hi - 1 := M.wrap_id (by omega) (by omega)
    have w2 : wrap64 (lo + hi) = lo + hi := M.wrap_id (by omega) (by omega)
    have t1 : Int.tdiv (lo + hi) 2 = (lo + hi) / 2 := Int.tdiv_eq_ediv_of_nonneg (by omega)
    have w3 : wrap64 (Int.tdiv (lo + hi) 2) = (lo + hi) / 2 := by rw [t1]; exact M.wrap_id (by omega) (by omega)
    have hb := M.mulb 2147483648 2147483648 (a := (lo + hi) / 2) (b := (lo + hi) / 2) (by omega) (by omega) (by omega) (by omega)
    have w4 : wrap64 ((lo + hi) / 2 * ((lo + hi) / 2)) = (lo + hi) / 2 * ((lo + hi) / 2) := M.wrap_id (by omega) (by omega)
    by_cases hd : lo < hi - 1
    · cases n with
      | zero => omega
      | succ n =>
        by_cases hm : (lo + hi) / 2 * ((lo + hi) / 2) ≤ x
        · refine Ev.step (f := fun k => spec_clRoot.l0 k x ((lo + hi) / 2) hi) (fun k => ?_) (clRoot_l0 x hx n _ hi (by omega) (by omega) (by omega) h2 hm h4)
          simp only [spec_clRoot.l0, w1, w2, w3, w4, if_pos hd, if_pos hm]
        · refine Ev.step (f := fun k => spec_clRoot.l0 k x lo ((lo + hi) / 2)) (fun k => ?_) (clRoot_l0 x hx n lo _ (by omega) h0 (by omega) (by omega) h3 (by omega))
          simp only [spec_clRoot.l0, w1, w2, w3, w4, if_pos hd, if_neg hm]
    · have e : hi = lo + 1 := by omega
      subst e
      have : M.root x = lo := M.root_unique h0 h3 h4
      rw [this]
      refine Ev.step (f := fun _ => some lo) (fun k => ?_) (Ev.now _)
      simp only [spec_clRoot.l0, w1, if_neg hd]
theorem clRoot_ev (x : Int) (hx : 0 ≤ x) (hx2 : x ≤ 1000000000000) : Ev (fun k => spec_clRoot.f k x) (M.root x) := by
  unfold spec_clRoot.f
  exact clRoot_l0 x hx _ 0 2147483648 (Nat.le_refl _) (by omega) (by omega) (by omega) (by omega) (by omega)
theorem spec_lnSlips_l0_ev (x0 : Int) (x1 : Int) (x2 : Int) (x3 : Int) (x9 : List Int) (x10 : Int) {r : (List Int)} (h : Ev (fun k => if x10 ≤ x3 then (if x1 ≤ x0 then ((spec_clRoot.f k (wrap64 ((wrap64 (x0 * x0)) - (wrap64 (x1 * x1))))).bind fun t110 => (if x9.length < 17592186044416 then (spec_lnSlips.l0 k x0 (wrap64 (x1 + x2)) x2 x3 (x9 ++ [t110]) (wrap64 (x10 + 1))) else (none))) else (some x9)) else (some x9)) r) : Ev (fun k => spec_lnSlips.l0 k x0 x1 x2 x3 x9 x10) r := Ev.step (fun k => by simp only [spec_lnSlips.l0]) h
theorem lnSlips_l0 (a b s : Int) (ha : 1 ≤ a ∧ a ≤ 1000) (hb : 1 ≤ b ∧ b ≤ 1000) (hs : 0 ≤ s ∧ s ≤ 50) : ∀ (n : Nat) (f : Int) (acc : List Int) (i : Int), (s + 1 - i).toNat = n → 0 ≤ f → f ≤ 2000 → 0 ≤ i → i ≤ s + 1 → acc.length ≤ i →
    Ev (fun k => spec_lnSlips.l0 k a f b s acc i) (acc ++ M.slips a b f n)
  | 0, f, acc, i, hn, h1, h2, h3, h4, h5 => by
    have e : acc ++ M.slips a b f 0 = acc := by simp [M.slips]
    rw [e]
    exact spec_lnSlips_l0_ev _ _ _ _ _ _ (M.evn (by omega) (Ev.now _))
  | n + 1, f, acc, i, hn, h1, h2, h3, h4, h5 => by
    refine spec_lnSlips_l0_ev _ _ _ _ _ _ (M.evp (by omega) ?_)
    rw [M.slips]
    by_cases hf : f ≤ a
    · rw [if_pos hf]
      have q1 := M.mulb 1000 1000 (a := a) (b := a) (by omega) (by omega) (by omega) (by omega)
      have q2 := M.mulb 1000 1000 (a := f) (b := f) (by omega) (by omega) (by omega) (by omega)
      have q3 := M.sq_le h1 hf
      rw [M.wrap_id (n := a * a) (by omega) (by omega), M.wrap_id (n := f * f) (by omega) (by omega), M.wrap_id (n := a * a - f * f) (by omega) (by omega), M.wrap_id (n := f + b) (by omega) (by omega), M.wrap_id (n := i + 1) (by omega) (by omega)]
      refine M.evp hf (Ev.bind (clRoot_ev _ (by omega) (by omega)) (M.evp (by omega) ?_))
      have := lnSlips_l0 a b s ha hb hs n (f + b) (acc ++ [M.root (a * a - f * f)]) (i + 1) (by omega) (by omega) (by omega) (by omega) (by omega) (by simp; omega)
      simpa using this
    · rw [if_neg hf]
      simp only [List.append_nil]
      exact M.evn hf (Ev.now _)
theorem lnSlips_ev (a f b s : Int) (ha : 1 ≤ a ∧ a ≤ 1000) (hf : 0 ≤ f ∧ f ≤ a) (hb : 1 ≤ b ∧ b ≤ 1000) (hs : 0 ≤ s ∧ s ≤ 50) : Ev (fun k => spec_lnSlips.f k a f b s) (M.slips a b f (s + 1).toNat) := by
  unfold spec_lnSlips.f
  simpa using lnSlips_l0 a b s ha hb hs (s + 1).toNat f [] 0 (by omega) (by omega) (by omega) (by omega) (by omega) (by simp)
theorem spec_SlipDrops_l0_ev (x10 : List Int) (x11 : List Int) (x12 : Int) {r : (List Int × Bool)} (h : Ev (fun k => if x12 < (x10.length : Int) then (if 0 ≤ (wrap64 (x12 - 1)) then (if (wrap64 (x12 - 1)) < (x10.length : Int) then (if 0 ≤ x12 then (if x11.length < 17592186044416 then (spec_SlipDrops.l0 k x10 (x11 ++ [wrap64 ((rd x10 (wrap64 (x12 - 1))) - (rd x10 x12))]) (wrap64 (x12 + 1))) else (none)) else (none)) else (none)) else (none)) else (some (x11, true))) r) : Ev (fun k => spec_SlipDrops.l0 k x10 x11 x12) r := Ev.step (fun k => by simp only [spec_SlipDrops.l0]) h
theorem rd_two (done rest : List Int) (x y : Int) : rd (done ++ x :: y :: rest) (done.length : Int) = x ∧ rd (done ++ x :: y :: rest) ((done.length : Int) + 1) = y := by
  constructor
  · simp [rd]
  · have e : ((done.length : Int) + 1).toNat = done.length + 1 := by omega
    simp [rd, e]
theorem sDrops_l0 : ∀ (rest done acc : List Int) (x : Int), (done ++ x :: rest).length ≤ 1000000 → acc.length ≤ done.length → (∀ y ∈ done ++ x :: rest, 0 ≤ y ∧ y ≤ 1000) →
    Ev (fun k => spec_SlipDrops.l0 k (done ++ x :: rest) acc ((done.length : Int) + 1)) (acc ++ M.drops (x :: rest), true)
  | [], done, acc, x, hl, ha, hm => by
    have e : acc ++ M.drops [x] = acc := by simp [M.drops]
    rw [e]
    exact spec_SlipDrops_l0_ev _ _ _ (M.evn (by simp) (Ev.now _))
  | y :: rest, done, acc, x, hl, ha, hm => by
    have h2 : (done ++ x :: y :: rest).length = done.length + rest.length + 2 := by simp; omega
    obtain ⟨r1, r2⟩ := rd_two done rest x y
    have bx := hm x (by simp)
    have bY := hm y (by simp)
    have e1 : wrap64 ((done.length : Int) + 1 - 1) = (done.length : Int) := by rw [M.wrap_id (by omega) (by omega)]; omega
    refine spec_SlipDrops_l0_ev _ _ _ (M.evp (by omega) ?_)
    rw [e1, r1, r2, M.wrap_id (n := x - y) (by omega) (by omega), M.wrap_id (n := (done.length : Int) + 1 + 1) (by omega) (by omega)]
    refine M.evp (by omega) (M.evp (by omega) (M.evp (by omega) (M.evp (by omega) ?_)))
    have := sDrops_l0 rest (done ++ [x]) (acc ++ [x - y]) y (by simp at hl ⊢; omega) (by simp; omega) (by simpa using hm)
    simpa [M.drops] using this
theorem sDrops_ev (a f b s : Int) : Ev (fun k => spec_SlipDrops.f k a f b s) (if (1 ≤ a ∧ a ≤ 1000) ∧ (0 ≤ f ∧ f ≤ a) ∧ (1 ≤ b ∧ b ≤ 1000) ∧ 0 ≤ s ∧ s ≤ 50 then (M.drops (M.slips a b f (s + 1).toNat), true) else ([], false)) := by
  simp only [spec_SlipDrops.f, lnAsked_eq, Option.bind_some, decide_eq_true_eq]
  by_cases h : (1 ≤ a ∧ a ≤ 1000) ∧ (0 ≤ f ∧ f ≤ a) ∧ (1 ≤ b ∧ b ≤ 1000) ∧ 0 ≤ s ∧ s ≤ 50
  · rw [if_pos h]
    refine M.evp h (Ev.bind (lnSlips_ev a f b s h.1 h.2.1 h.2.2.1 h.2.2.2) ?_)
    have hb := M.slips_b (long := a) (by' := b) h.1 (by omega) (s + 1).toNat f (by omega)
    have hl := M.slips_length a b f (s + 1).toNat
    cases hq : M.slips a b f (s + 1).toNat with
    | nil => exact spec_SlipDrops_l0_ev _ _ _ (M.evn (by simp) (Ev.now _))
    | cons x rest =>
      rw [hq] at hb hl
      simpa using sDrops_l0 rest [] [] x (by rw [List.nil_append]; omega) (by simp) (by simpa using hb)
  · rw [if_neg h]; exact M.evn h (Ev.now _)
theorem within_eq (a b c : Int) : impl_within.f a b c = some (decide (b ≤ a ∧ a ≤ c)) := by
  unfold impl_within.f
  by_cases h : b ≤ a <;> simp [h]
theorem isLong_eq (a : Int) : impl_isLong.f a = some (decide (1 ≤ a ∧ a ≤ 1000)) := by simp [impl_isLong.f, within_eq]
theorem impl_rootOf_l0_ev (x0 : Int) (x4 : Int) (x5 : Int) {r : (Int × Bool)} (h : Ev (fun k => if (wrap64 (x5 * x5)) < x0 then (impl_rootOf.l0 k x0 x4 (wrap64 (x5 * 2))) else (impl_rootOf.l1 k x0 x4 x5)) r) : Ev (fun k => impl_rootOf.l0 k x0 x4 x5) r := Ev.step (fun k => by simp only [impl_rootOf.l0]) h
theorem impl_rootOf_l1_ev (x0 : Int) (x4 : Int) (x5 : Int) {r : (Int × Bool)} (h : Ev (fun k => if x4 < x5 then (if (wrap64 ((wrap64 (Int.tdiv (wrap64 (x4 + x5)) 2)) * (wrap64 (Int.tdiv (wrap64 (x4 + x5)) 2)))) < x0 then (impl_rootOf.l1 k x0 (wrap64 ((wrap64 (Int.tdiv (wrap64 (x4 + x5)) 2)) + 1)) x5) else (impl_rootOf.l1 k x0 x4 (wrap64 (Int.tdiv (wrap64 (x4 + x5)) 2)))) else (some (x4, ((wrap64 (x4 * x4)) == x0)))) r) : Ev (fun k => impl_rootOf.l1 k x0 x4 x5) r := Ev.step (fun k => by simp only [impl_rootOf.l1]) h
theorem rootOf_l1 (x : Int) (hx : 0 ≤ x) : ∀ (n : Nat) (lo hi : Int), (hi - lo).toNat ≤ n → 0 ≤ lo → lo ≤ hi → hi ≤ 2147483648 → x ≤ hi * hi → (lo = 0 ∨ (lo - 1) * (lo - 1) < x) →
    Ev (fun k => impl_rootOf.l1 k x lo hi) (M.croot x, decide (M.root x * M.root x = x))
  | n, lo, hi, hn, h0, h1, h2, h3, h4 => by
    have w2 : wrap64 (lo + hi) = lo + hi := M.wrap_id (by omega) (by omega)
    have t1 : Int.tdiv (lo + hi) 2 = (lo + hi) / 2 := Int.tdiv_eq_ediv_of_nonneg (by omega)
    have w3 : wrap64 (Int.tdiv (lo + hi) 2) = (lo + hi) / 2 := by rw [t1]; exact M.wrap_id (by omega) (by omega)
    have hb := M.mulb 2147483648 2147483648 (a := (lo + hi) / 2) (b := (lo + hi) / 2) (by omega) (by omega) (by omega) (by omega)
    have w4 : wrap64 ((lo + hi) / 2 * ((lo + hi) / 2)) = (lo + hi) / 2 * ((lo + hi) / 2) := M.wrap_id (by omega) (by omega)
    have w5 : wrap64 ((lo + hi) / 2 + 1) = (lo + hi) / 2 + 1 := M.wrap_id (by omega) (by omega)
    by_cases hd : lo < hi
    · cases n with
      | zero => omega
      | succ n =>
        by_cases hm : (lo + hi) / 2 * ((lo + hi) / 2) < x
        · refine Ev.step (f := fun k => impl_rootOf.l1 k x ((lo + hi) / 2 + 1) hi) (fun k => ?_) (rootOf_l1 x hx n _ hi (by omega) (by omega) (by omega) h2 h3 (.inr (by
            have e : (lo + hi) / 2 + 1 - 1 = (lo + hi) / 2 := by omega
            rw [e]; exact hm)))
          simp only [impl_rootOf.l1, w2, w3, w4, w5, if_pos hd, if_pos hm]
        · refine Ev.step (f := fun k => impl_rootOf.l1 k x lo ((lo + hi) / 2)) (fun k => ?_) (rootOf_l1 x hx n lo _ (by omega) h0 (by omega) (by omega) (by omega) h4)
          simp only [impl_rootOf.l1, w2, w3, w4, if_pos hd, if_neg hm]
    · have e : lo = hi := by omega
      subst e
      have ⟨e1, e2⟩ := M.croot_unique h0 h3 hx h4
      have hb2 := M.mulb 2147483648 2147483648 (a := lo) (b := lo) (by omega) (by omega) (by omega) (by omega)
      have w6 : wrap64 (lo * lo) = lo * lo := M.wrap_id (by omega) (by omega)
      refine Ev.step (f := fun _ => some (lo, (lo * lo == x))) (fun k => ?_) ?_
      · simp only [impl_rootOf.l1, if_neg hd, w6]
      · have e3 : (lo * lo == x) = decide (M.root x * M.root x = x) := by
          rw [Bool.eq_iff_iff]; simp only [beq_iff_eq, decide_eq_true_eq]; exact e2
        rw [e3, e1]
        exact Ev.now _
theorem rootOf_l0 (x : Int) (hx : 0 ≤ x) (hx2 : x ≤ 1000000000000) : ∀ (n : Nat) (hi : Int), (2000000 - hi).toNat ≤ n → 1 ≤ hi → hi ≤ 2000000 →
    Ev (fun k => impl_rootOf.l0 k x 0 hi) (M.croot x, decide (M.root x * M.root x = x))
  | n, hi, hn, h0, h2 => by
    have hb := M.mulb 2000000 2000000 (a := hi) (b := hi) (by omega) (by omega) (by omega) (by omega)
    have w1 : wrap64 (hi * hi) = hi * hi := M.wrap_id (by omega) (by omega)
    have w2 : wrap64 (hi * 2) = hi * 2 := M.wrap_id (by omega) (by omega)
    by_cases hd : hi * hi < x
    · have hlt : hi < 1000000 := M.lt_of_sq (by omega) (by omega)
      cases n with
      | zero => omega
      | succ n =>
        refine Ev.step (f := fun k => impl_rootOf.l0 k x 0 (hi * 2)) (fun k => ?_) (rootOf_l0 x hx hx2 n (hi * 2) (by omega) (by omega) (by omega))
        simp only [impl_rootOf.l0, w1, w2, if_pos hd]
    · refine Ev.step (f := fun k => impl_rootOf.l1 k x 0 hi) (fun k => ?_) (rootOf_l1 x hx _ 0 hi (Nat.le_refl _) (by omega) (by omega) (by omega) (by omega) (.inl rfl))
      simp only [impl_rootOf.l0, w1, if_neg hd]
theorem rootOf_ev (x : Int) (hx : 0 ≤ x) (hx2 : x ≤ 1000000000000) : Ev (fun k => impl_rootOf.f k x) (M.croot x, decide (M.root x * M.root x = x)) := by
  unfold impl_rootOf.f
  exact rootOf_l0 x hx hx2 _ 1 (Nat.le_refl _) (by omega) (by omega)
theorem floorRoot_ev (x : Int) (hx : 0 ≤ x) (hx2 : x ≤ 1000000000000) : Ev (fun k => impl_floorRoot.f k x) (M.root x) := by
  unfold impl_floorRoot.f
  refine Ev.bind (rootOf_ev x hx hx2) ?_
  have h1 := M.root_nonneg x
  have h2 : M.root x ≤ 1000001 := M.root_le hx (by omega) (by omega)
  simp only [decide_eq_true_eq]
  by_cases e : M.root x * M.root x = x
  · rw [if_pos e]; simp only [M.croot, if_pos e]; exact Ev.now _
  · rw [if_neg e]; simp only [M.croot, if_neg e]
    rw [M.wrap_id (by omega) (by omega)]
    have e2 : M.root x + 1 - 1 = M.root x := by omega
    rw [e2]; exact Ev.now _
theorem impl_SlipHeights_j0_ev (x0 : Int) (x1 : Int) (x2 : Int) (x3 : Int) (x30 : Bool) {r : (List Int × Bool)} (h : Ev (fun k => if x30 = true then (some (([] : List Int), false)) else (impl_SlipHeights.l0 k x0 x1 x2 x3 (([] : List Int)) 0)) r) : Ev (fun k => impl_SlipHeights.j0 k x0 x1 x2 x3 x30) r := Ev.step (fun k => by simp only [impl_SlipHeights.j0]) h
theorem impl_SlipHeights_l0_ev (x0 : Int) (x1 : Int) (x2 : Int) (x3 : Int) (x10 : List Int) (x11 : Int) {r : (List Int × Bool)} (h : Ev (fun k => if x11 ≤ x3 then (if x1 ≤ x0 then ((impl_floorRoot.f k (wrap64 ((wrap64 (x0 * x0)) - (wrap64 (x1 * x1))))).bind fun t133 => (if x10.length < 17592186044416 then (impl_SlipHeights.l0 k x0 (wrap64 (x1 + x2)) x2 x3 (x10 ++ [t133]) (wrap64 (x11 + 1))) else (none))) else (some (x10, true))) else (some (x10, true))) r) : Ev (fun k => impl_SlipHeights.l0 k x0 x1 x2 x3 x10 x11) r := Ev.step (fun k => by simp only [impl_SlipHeights.l0]) h
theorem iSlips_l0 (a b s : Int) (ha : 1 ≤ a ∧ a ≤ 1000) (hb : 1 ≤ b ∧ b ≤ 1000) (hs : 0 ≤ s ∧ s ≤ 50) : ∀ (n : Nat) (f : Int) (acc : List Int) (i : Int), (s + 1 - i).toNat = n → 0 ≤ f → f ≤ 2000 → 0 ≤ i → i ≤ s + 1 → acc.length ≤ i →
    Ev (fun k => impl_SlipHeights.l0 k a f b s acc i) (acc ++ M.slips a b f n, true)
  | 0, f, acc, i, hn, h1, h2, h3, h4, h5 => by
    have e : acc ++ M.slips a b f 0 = acc := by simp [M.slips]
    rw [e]
    exact impl_SlipHeights_l0_ev _ _ _ _ _ _ (M.evn (by omega) (Ev.now _))
  | n + 1, f, acc, i, hn, h1, h2, h3, h4, h5 => by
    refine impl_SlipHeights_l0_ev _ _ _ _ _ _ (M.evp (by omega) ?_)
    rw [M.slips]
    by_cases hf : f ≤ a
    · rw [if_pos hf]
      have q1 := M.mulb 1000 1000 (a := a) (b := a) (by omega) (by omega) (by omega) (by omega)
      have q2 := M.mulb 1000 1000 (a := f) (b := f) (by omega) (by omega) (by omega) (by omega)
      have q3 := M.sq_le h1 hf
      rw [M.wrap_id (n := a * a) (by omega) (by omega), M.wrap_id (n := f * f) (by omega) (by omega), M.wrap_id (n := a * a - f * f) (by omega) (by omega), M.wrap_id (n := f + b) (by omega) (by omega), M.wrap_id (n := i + 1) (by omega) (by omega)]
      refine M.evp hf (Ev.bind (floorRoot_ev _ (by omega) (by omega)) (M.evp (by omega) ?_))
      have := iSlips_l0 a b s ha hb hs n (f + b) (acc ++ [M.root (a * a - f * f)]) (i + 1) (by omega) (by omega) (by omega) (by omega) (by omega) (by simp; omega)
      simpa using this
    · rw [if_neg hf]
      simp only [List.append_nil]
      exact M.evn hf (Ev.now _)
theorem iSlips_ev (a f b s : Int) : Ev (fun k => impl_SlipHeights.f k a f b s) (if (1 ≤ a ∧ a ≤ 1000) ∧ (0 ≤ f ∧ f ≤ a) ∧ (1 ≤ b ∧ b ≤ 1000) ∧ 0 ≤ s ∧ s ≤ 50 then (M.slips a b f (s + 1).toNat, true) else ([], false)) := by
  simp only [impl_SlipHeights.f, isLong_eq, within_eq, Option.bind_some, decide_eq_true_eq]
  have bad : Ev (fun k => impl_SlipHeights.j0 k a f b s true) ([], false) := impl_SlipHeights_j0_ev _ _ _ _ _ (M.evp rfl (Ev.now _))
  by_cases h1 : 1 ≤ a ∧ a ≤ 1000
  · refine M.evp h1 ?_
    by_cases h2 : 0 ≤ f ∧ f ≤ a
    · refine M.evp h2 ?_
      by_cases h3 : 1 ≤ b ∧ b ≤ 1000
      · refine M.evp h3 ?_
        by_cases h4 : 0 ≤ s ∧ s ≤ 50
        · rw [if_pos ⟨h1, h2, h3, h4⟩]
          simp only [h4, and_self, decide_true, Bool.not_true]
          refine impl_SlipHeights_j0_ev _ _ _ _ _ (M.evn (by simp) ?_)
          simpa using iSlips_l0 a b s h1 h3 h4 (s + 1).toNat f [] 0 (by omega) (by omega) (by omega) (by omega) (by omega) (by simp)
        · rw [if_neg (fun h => h4 h.2.2.2)]
          simp only [h4, decide_false, Bool.not_false]
          exact bad
      · rw [if_neg (fun h => h3 h.2.2.1)]; exact M.evn h3 bad
    · rw [if_neg (fun h => h2 h.2.1)]; exact M.evn h2 bad
  · rw [if_neg (fun h => h1 h.1)]; exact M.evn h1 bad
theorem impl_SlipDrops_l0_ev (x10 : List Int) (x11 : Bool) (x12 : List Int) (x13 : Int) {r : (List Int × Bool)} (h : Ev (fun k => if x13 < (x10.length : Int) then (if 0 ≤ (wrap64 (x13 - 1)) then (if (wrap64 (x13 - 1)) < (x10.length : Int) then (if 0 ≤ x13 then (if x12.length < 17592186044416 then (impl_SlipDrops.l0 k x10 x11 (x12 ++ [wrap64 ((rd x10 (wrap64 (x13 - 1))) - (rd x10 x13))]) (wrap64 (x13 + 1))) else (none)) else (none)) else (none)) else (none)) else (some (x12, x11))) r) : Ev (fun k => impl_SlipDrops.l0 k x10 x11 x12 x13) r := Ev.step (fun k => by simp only [impl_SlipDrops.l0]) h
theorem rd_two' (done rest : List Int) (x y : Int) : rd (done ++ x :: y :: rest) (done.length : Int) = x ∧ rd (done ++ x :: y :: rest) ((done.length : Int) + 1) = y := by
  constructor
  · simp [rd]
  · have e : ((done.length : Int) + 1).toNat = done.length + 1 := by omega
    simp [rd, e]
theorem iDrops_l0 (ok : Bool) : ∀ (rest done acc : List Int) (x : Int), (done ++ x :: rest).length ≤ 1000000 → acc.length ≤ done.length → (∀ y ∈ done ++ x :: rest, 0 ≤ y ∧ y ≤ 1000) →
    Ev (fun k => impl_SlipDrops.l0 k (done ++ x :: rest) ok acc ((done.length : Int) + 1)) (acc ++ M.drops (x :: rest), ok)
  | [], done, acc, x, hl, ha, hm => by
    have e : acc ++ M.drops [x] = acc := by simp [M.drops]
    rw [e]
    exact impl_SlipDrops_l0_ev _ _ _ _ (M.evn (by simp) (Ev.now _))
  | y :: rest, done, acc, x, hl, ha, hm => by
    have h2 : (done ++ x :: y :: rest).length = done.length + rest.length + 2 := by simp; omega
    obtain ⟨r1, r2⟩ := rd_two' done rest x y
    have bx := hm x (by simp)
    have bY := hm y (by simp)
    have e1 : wrap64 ((done.length : Int) + 1 - 1) = (done.length : Int) := by rw [M.wrap_id (by omega) (by omega)]; omega
    refine impl_SlipDrops_l0_ev _ _ _ _ (M.evp (by omega) ?_)
    rw [e1, r1, r2, M.wrap_id (n := x - y) (by omega) (by omega), M.wrap_id (n := (done.length : Int) + 1 + 1) (by omega) (by omega)]
    refine M.evp (by omega) (M.evp (by omega) (M.evp (by omega) (M.evp (by omega) ?_)))
    have := iDrops_l0 ok rest (done ++ [x]) (acc ++ [x - y]) y (by simp at hl ⊢; omega) (by simp; omega) (by simpa using hm)
    simpa [M.drops] using this
theorem iDrops_ev (a f b s : Int) : Ev (fun k => impl_SlipDrops.f k a f b s) (if (1 ≤ a ∧ a ≤ 1000) ∧ (0 ≤ f ∧ f ≤ a) ∧ (1 ≤ b ∧ b ≤ 1000) ∧ 0 ≤ s ∧ s ≤ 50 then (M.drops (M.slips a b f (s + 1).toNat), true) else ([], false)) := by
  unfold impl_SlipDrops.f
  refine Ev.bind (iSlips_ev a f b s) ?_
  by_cases h : (1 ≤ a ∧ a ≤ 1000) ∧ (0 ≤ f ∧ f ≤ a) ∧ (1 ≤ b ∧ b ≤ 1000) ∧ 0 ≤ s ∧ s ≤ 50
  · simp only [if_pos h]
    have hb := M.slips_b (long := a) (by' := b) h.1 (by omega) (s + 1).toNat f (by omega)
    have hl := M.slips_length a b f (s + 1).toNat
    cases hq : M.slips a b f (s + 1).toNat with
    | nil => exact impl_SlipDrops_l0_ev _ _ _ _ (M.evn (by simp) (Ev.now _))
    | cons x rest =>
      rw [hq] at hb hl
      simpa using iDrops_l0 true rest [] [] x (by rw [List.nil_append]; omega) (by simp) (by simpa using hb)
  · simp only [if_neg h]
    exact impl_SlipDrops_l0_ev _ _ _ _ (M.evn (by simp) (Ev.now _))
theorem laws_FnExactSlipDrops_j0_ev (x0 : Int) (x1 : Int) (x2 : Int) (x3 : Int) (x9 : List Int) (x10 : Bool) (x11 : List Int) (x41 : Bool) {r : (Bool)} (h : Ev (fun k => if x41 = true then (some false) else ((laws_markIntS.f k x11 1).bind fun bt158 => ((laws_heldIntS.f k bt158.2 1).bind fun t160 => (if t160 < 0 then (some false) else (if t160 = bt158.1 then ((impl_SlipDrops.f k x0 x1 x2 x3).bind fun bt161 => ((laws_eqIntS.f k bt161.1 x9).bind fun t165 => (if t165 = true then (laws_FnExactSlipDrops.j1 k bt158.2 bt158.1 (bt161.2 != x10)) else (laws_FnExactSlipDrops.j1 k bt158.2 bt158.1 true)))) else (some false)))))) r) : Ev (fun k => laws_FnExactSlipDrops.j0 k x0 x1 x2 x3 x9 x10 x11 x41) r := Ev.step (fun k => by simp only [laws_FnExactSlipDrops.j0]) h
theorem laws_FnExactSlipDrops_j1_ev (x11 : List Int) (x13 : Int) (x69 : Bool) {r : (Bool)} (h : Ev (fun k => if x69 = true then (some false) else ((laws_heldIntS.f k x11 1).bind fun t166 => (if t166 < 0 then (some false) else (if t166 = x13 then (some true) else (some false))))) r) : Ev (fun k => laws_FnExactSlipDrops.j1 k x11 x13 x69) r := Ev.step (fun k => by simp only [laws_FnExactSlipDrops.j1]) h
theorem law : laws_FnExactSlipDrops.Pure := by
  intro a f b s _ _ _ _
  refine Ev.rounds ?_
  unfold laws_FnExactSlipDrops.f
  have q1 := sDrops_ev a f b s
  have q2 := iDrops_ev a f b s
  have hl : (if (1 ≤ a ∧ a ≤ 1000) ∧ (0 ≤ f ∧ f ≤ a) ∧ (1 ≤ b ∧ b ≤ 1000) ∧ 0 ≤ s ∧ s ≤ 50 then (M.drops (M.slips a b f (s + 1).toNat), true) else ([], false)).1.length ≤ 1000 := by
    split
    · next hc =>
      have h1 := M.slips_length a b f (s + 1).toNat
      have h2 := M.drops_length (M.slips a b f (s + 1).toNat)
      simp only; omega
    · simp
  generalize (if (1 ≤ a ∧ a ≤ 1000) ∧ (0 ≤ f ∧ f ≤ a) ∧ (1 ≤ b ∧ b ≤ 1000) ∧ 0 ≤ s ∧ s ≤ 50 then (M.drops (M.slips a b f (s + 1).toNat), true) else ([], false)) = r at q1 q2 hl
  obtain ⟨l, c⟩ := r
  replace hl : l.length ≤ 1000 := hl
  refine Ev.bind q1 (Ev.bind q2 (Ev.bind (eqIntS_self l (by omega)) (M.evp rfl ?_)))
  simp only [bne_self_eq_false]
  refine laws_FnExactSlipDrops_j0_ev _ _ _ _ _ _ _ _ (M.evn (by simp) (Ev.bind (markIntS_ev l 1 (by omega) (by omega) (by omega)) (Ev.bind (heldIntS_ev l.length 1 (by omega) (by omega) (by omega)) (M.evn (by omega) (M.evp rfl ?_)))))
  refine Ev.bind q2 (Ev.bind (eqIntS_self l (by omega)) (M.evp rfl ?_))
  simp only [bne_self_eq_false]
  exact laws_FnExactSlipDrops_j1_ev _ _ _ (M.evn (by simp) (Ev.bind (heldIntS_ev l.length 1 (by omega) (by omega) (by omega)) (M.evn (by omega) (M.evp rfl (Ev.now _)))))
end Go.Proofs.Yteognjcnnghknaa.PbFnExactSlipDrops
namespace Go.Proofs.Yteognjcnnghknaa.Pure
theorem FnExactSlipDrops : PFnExactSlipDrops.laws_FnExactSlipDrops.Pure := PbFnExactSlipDrops.law
end Go.Proofs.Yteognjcnnghknaa.Pure
