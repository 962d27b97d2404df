/- The plain part of FnExactMiddleOf: what the printed functions of the program and of the reference answer, in plain Lean, and that the law answers true. No condition. -/
import Derived.Test.YtklimclhchabnaaPFnExactMiddleOfx1
import Derived.Test.YtklimclhchabnaaM
namespace Go.Proofs.Ytklimclhchabnaa.PbFnExactMiddleOf
open Go.RowKit Go.Proofs.Ytklimclhchabnaa Go.Proofs.Ytklimclhchabnaa.PFnExactMiddleOf Go.Proofs.YtklimclhchabnaaW.PrintWords Go.Proofs.YtklimclhchabnaaW.PrintLast
set_option linter.unusedVariables false
set_option linter.unusedSimpArgs false

theorem l1In_eq (a b c : Int) : spec_l1In.f a b c = some (decide (b ≤ a ∧ a ≤ c)) := by
  unfold spec_l1In.f
  by_cases h : b ≤ a <;> simp [h]
theorem lnLong_eq (a : Int) : spec_lnLong.f a = some (decide (1 ≤ a ∧ a ≤ 1000)) := by simp [spec_lnLong.f, l1In_eq]
theorem clLow_l0 (x y : Int) : ∀ (n : Nat) (a b : Int), b.toNat ≤ n → 0 ≤ a → 0 ≤ b → 0 < M.g a b →
    spec_clLow.l0 (n + 1) x y a b = some (wrap64 (Int.tdiv x (M.g a b)), wrap64 (Int.tdiv y (M.g a b)))
  | n, a, b, hn, h1, h3, h5 => by
    simp only [spec_clLow.l0]
    by_cases hb : b = 0
    · subst hb
      have e : M.g a 0 = a := by rw [M.g_zero]; omega
      rw [e] at h5 ⊢
      rw [if_neg (by omega), if_neg (by omega)]
    · rw [if_pos (by omega), if_neg hb]
      have e : (Int.tmod a b).natAbs = a.natAbs % b.natAbs := Int.natAbs_tmod ..
      have lt : a.natAbs % b.natAbs < b.natAbs := Nat.mod_lt _ (by omega)
      have nn : 0 ≤ Int.tmod a b := Int.tmod_nonneg b h1
      cases n with
      | zero => omega
      | succ n => rw [clLow_l0 x y n b (Int.tmod a b) (by omega) h3 nn (by rw [M.g_tmod]; exact h5), M.g_tmod]
theorem clLow_ev (a b : Int) (h1 : 0 ≤ a) (h2 : a ≤ 9223372036854775807) (h3 : 0 < b) (h4 : b ≤ 9223372036854775807) :
    Ev (fun k => spec_clLow.f k a b) (M.l1 a b, M.l2 a b) := by
  refine Ev.of (spec_clLow.mono a b) (k := b.toNat + 1) ?_
  have hg := M.g_pos_r (a := a) h3
  have ha := M.l1_abs (a := a) h3
  have hl := M.l2_le (a := a) h3
  have hp := M.l2_pos (a := a) h3
  unfold spec_clLow.f
  rw [clLow_l0 a b b.toNat a b (Nat.le_refl _) h1 (by omega) hg, M.tdiv_l1 h3, M.tdiv_l2 h3, M.wrap_id (by omega) (by omega), M.wrap_id (by omega) (by omega)]
theorem sMiddleOf_ev (a b : Int) : Ev (fun k => spec_MiddleOf.f k a b) (if (1 ≤ a ∧ a ≤ 1000) ∧ 1 ≤ b ∧ b ≤ 1000 then (M.l1 a 2, M.l2 a 2, M.l1 b 2, M.l2 b 2, true) else (0, 0, 0, 0, false)) := by
  simp only [spec_MiddleOf.f, lnLong_eq, Option.bind_some, decide_eq_true_eq]
  by_cases ha : 1 ≤ a ∧ a ≤ 1000
  · refine M.evp ha ?_
    by_cases hb : 1 ≤ b ∧ b ≤ 1000
    · rw [if_pos ⟨ha, hb⟩]
      refine Ev.step (f := fun k => (spec_clLow.f k a 2).bind fun x => (spec_clLow.f k b 2).bind fun y => some (x.1, x.2, y.1, y.2, true)) (fun k => by simp [spec_MiddleOf.j0, hb]) ?_
      exact Ev.bind (clLow_ev a 2 (by omega) (by omega) (by omega) (by omega)) (Ev.bind (clLow_ev b 2 (by omega) (by omega) (by omega) (by omega)) (Ev.now _))
    · rw [if_neg (fun h => hb h.2)]
      refine Ev.step (f := fun _ => some (0, 0, 0, 0, false)) (fun k => ?_) (Ev.now _)
      simp [spec_MiddleOf.j0, hb]
  · refine M.evn ha ?_
    rw [if_neg (fun h => ha h.1)]
    refine Ev.step (f := fun _ => some (0, 0, 0, 0, false)) (fun k => ?_) (Ev.now _)
    simp [spec_MiddleOf.j0]
theorem within_eq (a b c : Int) : impl_within.f a b c = some (decide (b ≤ a ∧ a ≤ c)) := by
  unfold impl_within.f
  by_cases h : b ≤ a <;> simp [h]
theorem isLong_eq (a : Int) : impl_isLong.f a = some (decide (1 ≤ a ∧ a ≤ 1000)) := by simp [impl_isLong.f, within_eq]
theorem gcd_l0 : ∀ (n : Nat) (a b : Int), b.natAbs ≤ n → -9223372036854775807 ≤ a → a ≤ 9223372036854775807 → -9223372036854775807 ≤ b → b ≤ 9223372036854775807 →
    impl_gcd.l0 (n + 1) a b = some (M.g a b)
  | n, a, b, hn, h1, h2, h3, h4 => by
    simp only [impl_gcd.l0]
    by_cases hb : b = 0
    · subst hb
      rw [if_pos rfl, M.g_zero, M.wrap_id (by omega) (by omega)]
      unfold mx; congr 1; omega
    · rw [if_neg hb]
      have e : (Int.tmod a b).natAbs = a.natAbs % b.natAbs := Int.natAbs_tmod ..
      have lt : a.natAbs % b.natAbs < b.natAbs := Nat.mod_lt _ (by omega)
      cases n with
      | zero => omega
      | succ n => rw [gcd_l0 n b (Int.tmod a b) (by omega) h3 h4 (by omega) (by omega), M.g_tmod]
theorem gcd_ev (a b : Int) (h1 : -9223372036854775807 ≤ a) (h2 : a ≤ 9223372036854775807) (h3 : -9223372036854775807 ≤ b) (h4 : b ≤ 9223372036854775807) :
    Ev (fun k => impl_gcd.f k a b) (M.g a b) :=
  Ev.of (impl_gcd.mono a b) (k := b.natAbs + 1) (by unfold impl_gcd.f; exact gcd_l0 _ a b (Nat.le_refl _) h1 h2 h3 h4)
theorem fraction_ev (a b : Int) (h1 : -9223372036854775807 ≤ a) (h2 : a ≤ 9223372036854775807) (h3 : 0 < b) (h4 : b ≤ 9223372036854775807) :
    Ev (fun k => impl_fraction.f k a b) (M.l1 a b, M.l2 a b, true) := by
  simp only [impl_fraction.f]
  refine Ev.bind (gcd_ev a b h1 h2 (by omega) h4) ?_
  have hg := M.g_pos_r (a := a) h3
  have ha := M.l1_abs (a := a) h3
  have hl := M.l2_le (a := a) h3
  have hp := M.l2_pos (a := a) h3
  rw [if_neg (by omega), M.tdiv_l1 h3, M.tdiv_l2 h3, M.wrap_id (by omega) (by omega), M.wrap_id (by omega) (by omega)]
  exact Ev.now _
theorem iPart_ev (a b n d : Int) : Ev (fun k => impl_PartOfLadder.f k a b n d) (if (1 ≤ a ∧ a ≤ 1000) ∧ (1 ≤ b ∧ b ≤ 1000) ∧ (1 ≤ d ∧ d ≤ 100) ∧ 0 ≤ n ∧ n ≤ d then ([M.l1 (a * (d - n)) d, M.l2 (a * (d - n)) d, M.l1 (b * n) d, M.l2 (b * n) d], true) else ([], false)) := by
  simp only [impl_PartOfLadder.f, isLong_eq, within_eq, Option.bind_some, decide_eq_true_eq]
  have bad : ∀ k, impl_PartOfLadder.j0 (k + 1) a b n d true = some ([], false) := fun k => by simp [impl_PartOfLadder.j0]
  by_cases ha : 1 ≤ a ∧ a ≤ 1000
  · refine M.evp ha ?_
    by_cases hb : 1 ≤ b ∧ b ≤ 1000
    · refine M.evp hb ?_
      by_cases hd : 1 ≤ d ∧ d ≤ 100
      · refine M.evp hd ?_
        by_cases hn : 0 ≤ n ∧ n ≤ d
        · rw [if_pos ⟨ha, hb, hd, hn⟩]
          have h1 := M.mulb 1000 100 (a := a) (b := d - n) (by omega) (by omega) (by omega) (by omega)
          have h2 := M.mulb 1000 100 (a := b) (b := n) (by omega) (by omega) (by omega) (by omega)
          refine Ev.step (f := fun k => (impl_fraction.f k (a * (d - n)) d).bind fun x => (impl_fraction.f k (b * n) d).bind fun y => some ([x.1, x.2.1, y.1, y.2.1], true)) (fun k => ?_) ?_
          · simp only [impl_PartOfLadder.j0, hn, and_self, decide_true, Bool.not_true, Bool.false_eq_true, if_false]
            rw [M.wrap_id (n := d - n) (by omega) (by omega), M.wrap_id (n := a * (d - n)) (by omega) (by omega), M.wrap_id (n := b * n) (by omega) (by omega)]
          · exact Ev.bind (fraction_ev _ d (by omega) (by omega) (by omega) (by omega)) (Ev.bind (fraction_ev _ d (by omega) (by omega) (by omega) (by omega)) (Ev.now _))
        · rw [if_neg (fun h => hn h.2.2.2)]
          simp only [hn, decide_false, Bool.not_false]
          exact Ev.step bad (Ev.now _)
      · rw [if_neg (fun h => hd h.2.2.1)]; exact M.evn hd (Ev.step bad (Ev.now _))
    · rw [if_neg (fun h => hb h.2.1)]; exact M.evn hb (Ev.step bad (Ev.now _))
  · rw [if_neg (fun h => ha h.1)]; exact M.evn ha (Ev.step bad (Ev.now _))
theorem iMiddleOf_ev (a b : Int) : Ev (fun k => impl_MiddleOf.f k a b) (if (1 ≤ a ∧ a ≤ 1000) ∧ 1 ≤ b ∧ b ≤ 1000 then (M.l1 a 2, M.l2 a 2, M.l1 b 2, M.l2 b 2, true) else (0, 0, 0, 0, false)) := by
  unfold impl_MiddleOf.f
  have hp := iPart_ev a b 1 2
  by_cases h : (1 ≤ a ∧ a ≤ 1000) ∧ 1 ≤ b ∧ b ≤ 1000
  · have e1 : a * (2 - 1) = a := by omega
    have e2 : b * 1 = b := by omega
    rw [if_pos ⟨h.1, h.2, by omega, by omega⟩, e1, e2] at hp
    rw [if_pos h]
    exact Ev.bind hp (Ev.now _)
  · rw [if_neg (fun g => h ⟨g.1, g.2.1⟩)] at hp
    rw [if_neg h]
    exact Ev.bind hp (Ev.now _)
theorem law : laws_FnExactMiddleOf.Pure := by
  intro a b _ _
  refine Ev.rounds ?_
  unfold laws_FnExactMiddleOf.f
  refine Ev.bind (sMiddleOf_ev a b) (Ev.bind (iMiddleOf_ev a b) ?_)
  simp only [bne_self_eq_false, if_true, Bool.false_eq_true, if_false]
  exact Ev.now _
end Go.Proofs.Ytklimclhchabnaa.PbFnExactMiddleOf
namespace Go.Proofs.Ytklimclhchabnaa.Pure
theorem FnExactMiddleOf : PFnExactMiddleOf.laws_FnExactMiddleOf.Pure := PbFnExactMiddleOf.law
end Go.Proofs.Ytklimclhchabnaa.Pure
