/- The plain part of FnExactPartOfLadder: what the printed functions of the program and of the reference answer, in plain Lean, and that the law answers true. No condition. -/
import Derived.Test.YtpiahpolmmogbaaPFnExactPartOfLadderx2
import Derived.Test.YtpiahpolmmogbaaM
namespace Go.Proofs.Ytpiahpolmmogbaa.PbFnExactPartOfLadder
open Go.RowKit Go.Proofs.Ytpiahpolmmogbaa Go.Proofs.Ytpiahpolmmogbaa.PFnExactPartOfLadder Go.Proofs.YtpiahpolmmogbaaW.PrintWords Go.Proofs.YtpiahpolmmogbaaW.PrintLast
set_option linter.unusedVariables false
set_option linter.unusedSimpArgs false

theorem l1In_eq (a b c : Int) : spec_l1In.f a b c = some (decide (b ≤ a ∧ a ≤ c)) := by
  unfold spec_l1In.f
  by_cases h : b ≤ a <;> simp [h]
theorem spec_clLow_l0_ev (x0 : Int) (x1 : Int) (x6 : Int) (x7 : Int) {r : (Int × Int)} (h : Ev (fun k => if x7 > 0 then (if x7 = 0 then (none) else (spec_clLow.l0 k x0 x1 x7 (Int.tmod x6 x7))) else (if x6 = 0 then (none) else (some (wrap64 (Int.tdiv x0 x6), wrap64 (Int.tdiv x1 x6))))) r) : Ev (fun k => spec_clLow.l0 k x0 x1 x6 x7) r := Ev.step (fun k => by simp only [spec_clLow.l0]) h
theorem clLow_l0 (x y : Int) : ∀ (n : Nat) (a b : Int), b.toNat ≤ n → 0 ≤ a → 0 ≤ b → 0 < M.g a b →
    spec_clLow.l0 (n + 1) x y a b = some (wrap64 (Int.tdiv x (M.g a b)), wrap64 (Int.tdiv y (M.g a b)))
  | n, a, b, hn, h1, h3, h5 => by
    simp only [spec_clLow.l0]
    by_cases hb : b = 0
    · subst hb
      have e : M.g a 0 = a := by rw [M.g_zero]; omega
      rw [e] at h5 ⊢
      rw [if_neg (by omega), if_neg (by omega)]
    · rw [if_pos (by omega), if_neg hb]
      have e : (Int.tmod a b).natAbs = a.natAbs % b.natAbs := Int.natAbs_tmod ..
      have lt : a.natAbs % b.natAbs < b.natAbs := Nat.mod_lt _ (by omega)
      have nn : 0 ≤ Int.tmod a b := Int.tmod_nonneg b h1
      cases n with
      | zero => omega
      | succ n => rw [clLow_l0 x y n b (Int.tmod a b) (by omega) h3 nn (by rw [M.g_tmod]; exact h5), M.g_tmod]
theorem clLow_ev (a b : Int) (h1 : 0 ≤ a) (h2 : a ≤ 9223372036854775807) (h3 : 0 < b) (h4 : b ≤ 9223372036854775807) :
    Ev (fun k => spec_clLow.f k a b) (M.l1 a b, M.l2 a b) := by
  refine Ev.of (spec_clLow.mono a b) (k := b.toNat + 1) ?_
  have hg := M.g_pos_r (a := a) h3
  have ha := M.l1_abs (a := a) h3
  have hl := M.l2_le (a := a) h3
  have hp := M.l2_pos (a := a) h3
  unfold spec_clLow.f
  rw [clLow_l0 a b b.toNat a b (Nat.le_refl _) h1 (by omega) hg, M.tdiv_l1 h3, M.tdiv_l2 h3, M.wrap_id (by omega) (by omega), M.wrap_id (by omega) (by omega)]
theorem lnLong_eq (a : Int) : spec_lnLong.f a = some (decide (1 ≤ a ∧ a ≤ 1000)) := by simp [spec_lnLong.f, l1In_eq]
theorem spec_PartOfLadder_j0_ev (x0 : Int) (x1 : Int) (x2 : Int) (x3 : Int) (x32 : Bool) {r : (List Int × Bool)} (h : Ev (fun k => if x32 = true then (some (([] : List Int), false)) else ((spec_clLow.f k (wrap64 (x0 * (wrap64 (x3 - x2)))) x3).bind fun bt106 => ((spec_clLow.f k (wrap64 (x1 * x2)) x3).bind fun bt108 => (some ((([bt106.1, bt106.2, bt108.1, bt108.2] : List Int)), true))))) r) : Ev (fun k => spec_PartOfLadder.j0 k x0 x1 x2 x3 x32) r := Ev.step (fun k => by simp only [spec_PartOfLadder.j0]) h
theorem sPart_ev (a b n d : Int) : Ev (fun k => spec_PartOfLadder.f k a b n d) (if (1 ≤ a ∧ a ≤ 1000) ∧ (1 ≤ b ∧ b ≤ 1000) ∧ (1 ≤ d ∧ d ≤ 100) ∧ 0 ≤ n ∧ n ≤ d then ([M.l1 (a * (d - n)) d, M.l2 (a * (d - n)) d, M.l1 (b * n) d, M.l2 (b * n) d], true) else ([], false)) := by
  simp only [spec_PartOfLadder.f, lnLong_eq, l1In_eq, Option.bind_some, decide_eq_true_eq]
  have bad : ∀ k, spec_PartOfLadder.j0 (k + 1) a b n d true = some ([], false) := fun k => by simp [spec_PartOfLadder.j0]
  by_cases ha : 1 ≤ a ∧ a ≤ 1000
  · refine M.evp ha ?_
    by_cases hb : 1 ≤ b ∧ b ≤ 1000
    · refine M.evp hb ?_
      by_cases hd : 1 ≤ d ∧ d ≤ 100
      · refine M.evp hd ?_
        by_cases hn : 0 ≤ n ∧ n ≤ d
        · rw [if_pos ⟨ha, hb, hd, hn⟩]
          have h1 := M.mulb 1000 100 (a := a) (b := d - n) (by omega) (by omega) (by omega) (by omega)
          have h2 := M.mulb 1000 100 (a := b) (b := n) (by omega) (by omega) (by omega) (by omega)
          refine Ev.step (f := fun k => (spec_clLow.f k (a * (d - n)) d).bind fun x => (spec_clLow.f k (b * n) d).bind fun y => some ([x.1, x.2, y.1, y.2], true)) (fun k => ?_) ?_
          · simp only [spec_PartOfLadder.j0, hn, and_self, decide_true, Bool.not_true, Bool.false_eq_true, if_false]
            rw [M.wrap_id (n := d - n) (by omega) (by omega), M.wrap_id (n := a * (d - n)) (by omega) (by omega), M.wrap_id (n := b * n) (by omega) (by omega)]
          · exact Ev.bind (clLow_ev _ d (by omega) (by omega) (by omega) (by omega)) (Ev.bind (clLow_ev _ d (by omega) (by omega) (by omega) (by omega)) (Ev.now _))
        · rw [if_neg (fun h => hn h.2.2.2)]
          simp only [hn, decide_false, Bool.not_false]
          exact Ev.step bad (Ev.now _)
      · rw [if_neg (fun h => hd h.2.2.1)]; exact M.evn hd (Ev.step bad (Ev.now _))
    · rw [if_neg (fun h => hb h.2.1)]; exact M.evn hb (Ev.step bad (Ev.now _))
  · rw [if_neg (fun h => ha h.1)]; exact M.evn ha (Ev.step bad (Ev.now _))
theorem within_eq (a b c : Int) : impl_within.f a b c = some (decide (b ≤ a ∧ a ≤ c)) := by
  unfold impl_within.f
  by_cases h : b ≤ a <;> simp [h]
theorem impl_gcd_l0_ev (x0 : Int) (x1 : Int) {r : (Int)} (h : Ev (fun k => if x1 = 0 then (some (mx x0 (wrap64 (-x0)))) else (impl_gcd.l0 k x1 (Int.tmod x0 x1))) r) : Ev (fun k => impl_gcd.l0 k x0 x1) r := Ev.step (fun k => by simp only [impl_gcd.l0]) h
theorem gcd_l0 : ∀ (n : Nat) (a b : Int), b.natAbs ≤ n → -9223372036854775807 ≤ a → a ≤ 9223372036854775807 → -9223372036854775807 ≤ b → b ≤ 9223372036854775807 →
    impl_gcd.l0 (n + 1) a b = some (M.g a b)
  | n, a, b, hn, h1, h2, h3, h4 => by
    simp only [impl_gcd.l0]
    by_cases hb : b = 0
    · subst hb
      rw [if_pos rfl, M.g_zero, M.wrap_id (by omega) (by omega)]
      unfold mx; congr 1; omega
    · rw [if_neg hb]
      have e : (Int.tmod a b).natAbs = a.natAbs % b.natAbs := Int.natAbs_tmod ..
      have lt : a.natAbs % b.natAbs < b.natAbs := Nat.mod_lt _ (by omega)
      cases n with
      | zero => omega
      | succ n => rw [gcd_l0 n b (Int.tmod a b) (by omega) h3 h4 (by omega) (by omega), M.g_tmod]
theorem gcd_ev (a b : Int) (h1 : -9223372036854775807 ≤ a) (h2 : a ≤ 9223372036854775807) (h3 : -9223372036854775807 ≤ b) (h4 : b ≤ 9223372036854775807) :
    Ev (fun k => impl_gcd.f k a b) (M.g a b) :=
  Ev.of (impl_gcd.mono a b) (k := b.natAbs + 1) (by unfold impl_gcd.f; exact gcd_l0 _ a b (Nat.le_refl _) h1 h2 h3 h4)
theorem fraction_ev (a b : Int) (h1 : -9223372036854775807 ≤ a) (h2 : a ≤ 9223372036854775807) (h3 : 0 < b) (h4 : b ≤ 9223372036854775807) :
    Ev (fun k => impl_fraction.f k a b) (M.l1 a b, M.l2 a b, true) := by
  simp only [impl_fraction.f]
  refine Ev.bind (gcd_ev a b h1 h2 (by omega) h4) ?_
  have hg := M.g_pos_r (a := a) h3
  have ha := M.l1_abs (a := a) h3
  have hl := M.l2_le (a := a) h3
  have hp := M.l2_pos (a := a) h3
  rw [if_neg (by omega), M.tdiv_l1 h3, M.tdiv_l2 h3, M.wrap_id (by omega) (by omega), M.wrap_id (by omega) (by omega)]
  exact Ev.now _
theorem isLong_eq (a : Int) : impl_isLong.f a = some (decide (1 ≤ a ∧ a ≤ 1000)) := by simp [impl_isLong.f, within_eq]
theorem impl_PartOfLadder_j0_ev (x0 : Int) (x1 : Int) (x2 : Int) (x3 : Int) (x34 : Bool) {r : (List Int × Bool)} (h : Ev (fun k => if x34 = true then (some (([] : List Int), false)) else ((impl_fraction.f k (wrap64 (x0 * (wrap64 (x3 - x2)))) x3).bind fun bt119 => ((impl_fraction.f k (wrap64 (x1 * x2)) x3).bind fun bt122 => (some ((([bt119.1, bt119.2.1, bt122.1, bt122.2.1] : List Int)), true))))) r) : Ev (fun k => impl_PartOfLadder.j0 k x0 x1 x2 x3 x34) r := Ev.step (fun k => by simp only [impl_PartOfLadder.j0]) h
theorem iPart_ev (a b n d : Int) : Ev (fun k => impl_PartOfLadder.f k a b n d) (if (1 ≤ a ∧ a ≤ 1000) ∧ (1 ≤ b ∧ b ≤ 1000) ∧ (1 ≤ d ∧ d ≤ 100) ∧ 0 ≤ n ∧ n ≤ d then ([M.l1 (a * (d - n)) d, M.l2 (a * (d - n)) d, M.l1 (b * n) d, M.l2 (b * n) d], true) else ([], false)) := by
  simp only [impl_PartOfLadder.f, isLong_eq, within_eq, Option.bind_some, decide_eq_true_eq]
  have bad : ∀ k, impl_PartOfLadder.j0 (k + 1) a b n d true = some ([], false) := fun k => by simp [impl_PartOfLadder.j0]
  by_cases ha : 1 ≤ a ∧ a ≤ 1000
  · refine M.evp ha ?_
    by_cases hb : 1 ≤ b ∧ b ≤ 1000
    · refine M.evp hb ?_
      by_cases hd : 1 ≤ d ∧ d ≤ 100
      · refine M.evp hd ?_
        by_cases hn : 0 ≤ n ∧ n ≤ d
        · rw [if_pos ⟨ha, hb, hd, hn⟩]
          have h1 := M.mulb 1000 100 (a := a) (b := d - n) (by omega) (by omega) (by omega) (by omega)
          have h2 := M.mulb 1000 100 (a := b) (b := n) (by omega) (by omega) (by omega) (by omega)
          refine Ev.step (f := fun k => (impl_fraction.f k (a * (d - n)) d).bind fun x => (impl_fraction.f k (b * n) d).bind fun y => some ([x.1, x.2.1, y.1, y.2.1], true)) (fun k => ?_) ?_
          · simp only [impl_PartOfLadder.j0, hn, and_self, decide_true, Bool.not_true, Bool.false_eq_true, if_false]
            rw [M.wrap_id (n := d - n) (by omega) (by omega), M.wrap_id (n := a * (d - n)) (by omega) (by omega), M.wrap_id (n := b * n) (by omega) (by omega)]
          · exact Ev.bind (fraction_ev _ d (by omega) (by omega) (by omega) (by omega)) (Ev.bind (fraction_ev _ d (by omega) (by omega) (by omega) (by omega)) (Ev.now _))
        · rw [if_neg (fun h => hn h.2.2.2)]
          simp only [hn, decide_false, Bool.not_false]
          exact Ev.step bad (Ev.now _)
      · rw [if_neg (fun h => hd h.2.2.1)]; exact M.evn hd (Ev.step bad (Ev.now _))
    · rw [if_neg (fun h => hb h.2.1)]; exact M.evn hb (Ev.step bad (Ev.now _))
  · rw [if_neg (fun h => ha h.1)]; exact M.evn ha (Ev.step bad (Ev.now _))
theorem laws_eqIntS_l0_ev (x0 : List Int) (x1 : List Int) (x5 : Int) {r : (Bool)} (h : Ev (fun k => if x5 < (x0.length : Int) then (if 0 ≤ x5 then (if x5 < (x1.length : Int) then (if (rd x0 x5) = (rd x1 x5) then (laws_eqIntS.l0 k x0 x1 (wrap64 (x5 + 1))) else (some false)) else (none)) else (none)) else (some true)) r) : Ev (fun k => laws_eqIntS.l0 k x0 x1 x5) r := Ev.step (fun k => by simp only [laws_eqIntS.l0]) h
theorem rd_mid (done rest : List Int) (x : Int) : rd (done ++ x :: rest) (done.length : Int) = x := by simp [rd]
theorem eqIntS_l0 : ∀ (rest done : List Int), (done ++ rest).length ≤ 1000000000000 → Ev (fun k => laws_eqIntS.l0 k (done ++ rest) (done ++ rest) done.length) true
  | [], done, _ => laws_eqIntS_l0_ev _ _ _ (M.evn (by simp) (Ev.now _))
  | x :: rest, done, hl => by
    have h2 : (done ++ x :: rest).length = done.length + rest.length + 1 := by simp; omega
    have hlt : ((done.length : Nat) : Int) < (((done ++ x :: rest).length : Nat) : Int) := by omega
    refine laws_eqIntS_l0_ev _ _ _ (M.evp hlt (M.evp (by omega) (M.evp hlt (M.evp rfl ?_))))
    have ih := eqIntS_l0 rest (done ++ [x]) (by simpa using hl)
    have e : wrap64 ((done.length : Int) + 1) = ((done ++ [x]).length : Int) := by rw [M.wrap_id (by omega) (by omega)]; simp
    rw [e]
    simpa using ih
theorem eqIntS_self (l : List Int) (h : l.length ≤ 1000000000000) : Ev (fun k => laws_eqIntS.f k l l) true := by
  unfold laws_eqIntS.f
  exact M.evp rfl (by simpa using eqIntS_l0 l [] (by simpa using h))
theorem laws_markIntS_l0_ev (x0 : List Int) (x1 : Int) (x5 : Int) {r : (Int × List Int)} (h : Ev (fun k => if x5 < (x0.length : Int) then (if 0 ≤ x5 then (laws_markIntS.l0 k (x0.set (x5 : Int).toNat x1) (wrap64 (x1 + 1)) (wrap64 (x5 + 1))) else (none)) else (some (x1, x0))) r) : Ev (fun k => laws_markIntS.l0 k x0 x1 x5) r := Ev.step (fun k => by simp only [laws_markIntS.l0]) h
theorem markIntS_l0 : ∀ (rest done : List Int) (a : Int), (done ++ rest).length ≤ 1000000000000 → 0 ≤ a → a + rest.length ≤ 1000000000000 →
    Ev (fun k => laws_markIntS.l0 k (done ++ rest) a done.length) (a + rest.length, done ++ M.cnt a rest.length)
  | [], done, a, _, _, _ => by
    have e : (a + (([] : List Int).length : Int), done ++ M.cnt a ([] : List Int).length) = (a, done ++ []) := by simp [M.cnt]
    rw [e]
    exact laws_markIntS_l0_ev _ _ _ (M.evn (by simp) (Ev.now _))
  | x :: rest, done, a, hl, h0, h1 => by
    have h2 : (done ++ x :: rest).length = done.length + rest.length + 1 := by simp; omega
    have hlt : ((done.length : Nat) : Int) < (((done ++ x :: rest).length : Nat) : Int) := by omega
    refine laws_markIntS_l0_ev _ _ _ (M.evp hlt (M.evp (by omega) ?_))
    have e : wrap64 ((done.length : Int) + 1) = ((done ++ [a]).length : Int) := by rw [M.wrap_id (by omega) (by omega)]; simp
    have e2 : wrap64 (a + 1) = a + 1 := M.wrap_id (by omega) (by omega)
    have e3 : (done ++ x :: rest).set ((done.length : Int)).toNat a = (done ++ [a]) ++ rest := by simp
    have e4 : (a + ((x :: rest).length : Int), done ++ M.cnt a (x :: rest).length) = (a + 1 + (rest.length : Int), (done ++ [a]) ++ M.cnt (a + 1) rest.length) := by
      simp only [List.length_cons, M.cnt, List.append_assoc, List.singleton_append, Prod.mk.injEq, and_true]; omega
    rw [e, e2, e3, e4]
    exact markIntS_l0 rest (done ++ [a]) (a + 1) (by simpa using hl) (by omega) (by rw [List.length_cons] at h1; omega)
theorem markIntS_ev (l : List Int) (a : Int) (h : l.length ≤ 100000000000) (h0 : 0 ≤ a) (h1 : a ≤ 100000000000) : Ev (fun k => laws_markIntS.f k l a) (a + l.length, M.cnt a l.length) := by
  unfold laws_markIntS.f
  simpa using markIntS_l0 l [] a (by simp; omega) h0 (by omega)
theorem laws_heldIntS_l0_ev (x0 : List Int) (x1 : Int) (x5 : Int) {r : (Int)} (h : Ev (fun k => if x5 < (x0.length : Int) then (if 0 ≤ x5 then (if (rd x0 x5) = x1 then (laws_heldIntS.l0 k x0 (wrap64 (x1 + 1)) (wrap64 (x5 + 1))) else (some (-1))) else (none)) else (some x1)) r) : Ev (fun k => laws_heldIntS.l0 k x0 x1 x5) r := Ev.step (fun k => by simp only [laws_heldIntS.l0]) h
theorem heldIntS_l0 : ∀ (n : Nat) (done : List Int) (a : Int), done.length + n ≤ 1000000000000 → 0 ≤ a → a + n ≤ 2000000000000 →
    Ev (fun k => laws_heldIntS.l0 k (done ++ M.cnt a n) a done.length) (a + n)
  | 0, done, a, _, _, _ => by
    have e : a + ((0 : Nat) : Int) = a := by omega
    rw [e]
    exact laws_heldIntS_l0_ev _ _ _ (M.evn (by simp [M.cnt]) (Ev.now _))
  | n + 1, done, a, hl, h0, h1 => by
    have h2 : (done ++ M.cnt a (n + 1)).length = done.length + n + 1 := by simp [M.cnt_length]; omega
    have hlt : ((done.length : Nat) : Int) < (((done ++ M.cnt a (n + 1)).length : Nat) : Int) := by omega
    have e0 : rd (done ++ M.cnt a (n + 1)) (done.length : Int) = a := by rw [M.cnt]; simp [rd]
    refine laws_heldIntS_l0_ev _ _ _ (M.evp hlt (M.evp (by omega) (M.evp e0 ?_)))
    have ih := heldIntS_l0 n (done ++ [a]) (a + 1) (by simp; omega) (by omega) (by omega)
    have e : wrap64 ((done.length : Int) + 1) = ((done ++ [a]).length : Int) := by rw [M.wrap_id (by omega) (by omega)]; simp
    have e2 : wrap64 (a + 1) = a + 1 := M.wrap_id (by omega) (by omega)
    have e3 : done ++ M.cnt a (n + 1) = (done ++ [a]) ++ M.cnt (a + 1) n := by simp [M.cnt]
    have e4 : a + ((n + 1 : Nat) : Int) = a + 1 + (n : Int) := by omega
    rw [e, e2, e3, e4]; exact ih
theorem heldIntS_ev (n : Nat) (a : Int) (h : n ≤ 1000000000000) (h0 : 0 ≤ a) (h1 : a ≤ 1000000000000) : Ev (fun k => laws_heldIntS.f k (M.cnt a n) a) (a + n) := by
  unfold laws_heldIntS.f
  simpa using heldIntS_l0 n [] a (by simp; omega) h0 (by omega)
theorem laws_FnExactPartOfLadder_j0_ev (x0 : Int) (x1 : Int) (x2 : Int) (x3 : Int) (x9 : List Int) (x10 : Bool) (x11 : List Int) (x41 : Bool) {r : (Bool)} (h : Ev (fun k => if x41 = true then (some false) else ((laws_markIntS.f k x11 1).bind fun bt141 => ((laws_heldIntS.f k bt141.2 1).bind fun t143 => (if t143 < 0 then (some false) else (if t143 = bt141.1 then ((impl_PartOfLadder.f k x0 x1 x2 x3).bind fun bt144 => ((laws_eqIntS.f k bt144.1 x9).bind fun t148 => (if t148 = true then (laws_FnExactPartOfLadder.j1 k bt141.2 bt141.1 (bt144.2 != x10)) else (laws_FnExactPartOfLadder.j1 k bt141.2 bt141.1 true)))) else (some false)))))) r) : Ev (fun k => laws_FnExactPartOfLadder.j0 k x0 x1 x2 x3 x9 x10 x11 x41) r := Ev.step (fun k => by simp only [laws_FnExactPartOfLadder.j0]) h
theorem laws_FnExactPartOfLadder_j1_ev (x11 : List Int) (x13 : Int) (x69 : Bool) {r : (Bool)} (h : Ev (fun k => if x69 = true then (some false) else ((laws_heldIntS.f k x11 1).bind fun t149 => (if t149 < 0 then (some false) else (if t149 = x13 then (some true) else (some false))))) r) : Ev (fun k => laws_FnExactPartOfLadder.j1 k x11 x13 x69) r := Ev.step (fun k => by simp only [laws_FnExactPartOfLadder.j1]) h
theorem law : laws_FnExactPartOfLadder.Pure := by
  intro a b n d _ _ _ _
  refine Ev.rounds ?_
  unfold laws_FnExactPartOfLadder.f
  have q1 := sPart_ev a b n d
  have q2 := iPart_ev a b n d
  have hl : (if (1 ≤ a ∧ a ≤ 1000) ∧ (1 ≤ b ∧ b ≤ 1000) ∧ (1 ≤ d ∧ d ≤ 100) ∧ 0 ≤ n ∧ n ≤ d then ([M.l1 (a * (d - n)) d, M.l2 (a * (d - n)) d, M.l1 (b * n) d, M.l2 (b * n) d], true) else ([], false)).1.length ≤ 1000 := by
    split <;> simp
  generalize (if (1 ≤ a ∧ a ≤ 1000) ∧ (1 ≤ b ∧ b ≤ 1000) ∧ (1 ≤ d ∧ d ≤ 100) ∧ 0 ≤ n ∧ n ≤ d then ([M.l1 (a * (d - n)) d, M.l2 (a * (d - n)) d, M.l1 (b * n) d, M.l2 (b * n) d], true) else ([], false)) = r at q1 q2 hl
  obtain ⟨l, b⟩ := r
  replace hl : l.length ≤ 1000 := hl
  refine Ev.bind q1 (Ev.bind q2 (Ev.bind (eqIntS_self l (by omega)) (M.evp rfl ?_)))
  simp only [bne_self_eq_false]
  refine laws_FnExactPartOfLadder_j0_ev _ _ _ _ _ _ _ _ (M.evn (by simp) (Ev.bind (markIntS_ev l 1 (by omega) (by omega) (by omega)) (Ev.bind (heldIntS_ev l.length 1 (by omega) (by omega) (by omega)) (M.evn (by omega) (M.evp rfl ?_)))))
  refine Ev.bind q2 (Ev.bind (eqIntS_self l (by omega)) (M.evp rfl ?_))
  simp only [bne_self_eq_false]
  exact laws_FnExactPartOfLadder_j1_ev _ _ _ (M.evn (by simp) (Ev.bind (heldIntS_ev l.length 1 (by omega) (by omega) (by omega)) (M.evn (by omega) (M.evp rfl (Ev.now _)))))
end Go.Proofs.Ytpiahpolmmogbaa.PbFnExactPartOfLadder
namespace Go.Proofs.Ytpiahpolmmogbaa.Pure
theorem FnExactPartOfLadder : PFnExactPartOfLadder.laws_FnExactPartOfLadder.Pure := PbFnExactPartOfLadder.law
end Go.Proofs.Ytpiahpolmmogbaa.Pure
