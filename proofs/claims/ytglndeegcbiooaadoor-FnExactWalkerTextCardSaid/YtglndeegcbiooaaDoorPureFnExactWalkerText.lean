/- The plain part of FnExactWalkerText: what the printed functions of the program and of the reference answer, in plain Lean, and that the law answers true. No condition. -/
import Derived.Test.YtglndeegcbiooaaDoorStFnExactWalkerText
import Derived.Test.YtglndeegcbiooaaDoorM
namespace Go.Proofs.YtglndeegcbiooaaDoor.PbFnExactWalkerText
open Go.RowKit Go.Proofs.YtglndeegcbiooaaDoor Go.Proofs.YtglndeegcbiooaaDoor.PFnExactWalkerText Go.Proofs.YtglndeegcbiooaaDoorW.PrintWords Go.Proofs.YtglndeegcbiooaaDoorW.PrintLast
set_option linter.unusedVariables false
set_option linter.unusedSimpArgs false

theorem l1In_eq (a b c : Int) : spec_l1In.f a b c = some (decide (b ≤ a ∧ a ≤ c)) := by
  unfold spec_l1In.f
  by_cases h : b ≤ a <;> simp [h]
theorem swLamp_eq (a : Int) : spec_swLamp.f a = some (decide (2 ≤ a ∧ a ≤ 200)) := by simp [spec_swLamp.f, l1In_eq]
theorem wkGood_eq (l h p s : Int) : spec_wkGood.f l h p s = some (decide (M.Wk l h p s)) := by
  unfold spec_wkGood.f M.Wk
  by_cases h1 : 2 ≤ l ∧ l ≤ 200
  · have e : wrap64 (l - 1) = l - 1 := M.wrap_id (by omega) (by omega)
    by_cases h2 : 1 ≤ h ∧ h ≤ l - 1 <;> by_cases h3 : 0 ≤ p ∧ p ≤ 500 <;> simp [l1In_eq, swLamp_eq, h1, h2, h3, e]
  · simp [swLamp_eq, h1]
theorem wkAny_eq (h p s : Int) : spec_wkAny.f h p s = some (decide (M.Wk 200 h p s)) := by simp [spec_wkAny.f, wkGood_eq]
theorem l1Num_step {r : ByteArray} (n : Int) (h : Ev (fun k => if n < 10 then (some (strOfNums (([(wrap64 (48 + n)) % 256] : List Int)))) else ((spec_l1Num.f k (wrap64 (Int.tdiv n 10))).bind fun t107 => ((some (([(wrap64 (48 + (Int.tmod n 10))) % 256] : List Int) : List Int)).bind fun y108 => (if t107.size + (strOfNums y108).size ≤ 9223372036854775807 then (some (t107 ++ (strOfNums y108))) else (none))))) r) : Ev (fun k => spec_l1Num.f k n) r := Ev.step (fun k => by simp only [spec_l1Num.f]) h
theorem l1Num_ev : ∀ (q : Nat) (n : Int), n.toNat < q → 0 ≤ n → n ≤ 9223372036854775807 → Ev (fun k => spec_l1Num.f k n) (M.tx n)
  | 0, _, h, _, _ => by omega
  | q + 1, n, h, h0, h1 => by
    refine l1Num_step n ?_
    by_cases hn : n < 10
    · rw [M.tx_small h0 hn]
      exact M.evp hn (Ev.now _)
    · have ed : Int.tdiv n 10 = n / 10 := Int.tdiv_eq_ediv_of_nonneg h0
      refine M.evn hn ?_
      rw [ed, M.wrap_id (n := n / 10) (by omega) (by omega), M.tx_big (by omega) h1]
      refine Ev.bind (l1Num_ev q (n / 10) (by omega) (by omega) (by omega)) ?_
      have := M.tx_size (n / 10) (by omega) (by omega)
      simp only [Option.bind_some]
      exact M.evp (by rw [strOfNums_size]; simp only [List.length_cons, List.length_nil]; omega) (Ev.now _)
theorem l1Num (n : Int) (h0 : 0 ≤ n) (h1 : n ≤ 9223372036854775807) : Ev (fun k => spec_l1Num.f k n) (M.tx n) := l1Num_ev (n.toNat + 1) n (by omega) h0 h1
theorem wkText_ev (h p s : Int) (hw : M.Wk 200 h p s) : Ev (fun k => spec_wkText.f k h p s) (M.tx h ++ (⟨#[64]⟩ : ByteArray) ++ M.tx p ++ (if s < 0 then (⟨#[45]⟩ : ByteArray) else ⟨#[43]⟩) ++ M.tx s.natAbs) := by
  unfold spec_wkText.f
  obtain ⟨_, a1, a2, a3⟩ := hw
  have h1 := M.tx_size h (by omega) (by omega)
  have h2 := M.tx_size p (by omega) (by omega)
  have h3 := M.tx_size (s.natAbs : Int) (by omega) (by omega)
  refine Ev.bind (l1Num h (by omega) (by omega)) (M.evp (by omega) (Ev.bind (l1Num p (by omega) (by omega)) (M.evp ?_ ?_)))
  · simp only [ByteArray.size_append, M.ba_size1]; omega
  · by_cases hs : s < 0
    · have e : (s.natAbs : Int) = -s := by omega
      rw [e] at h3
      rw [if_pos hs, e]
      refine M.evp hs (M.evp ?_ ?_)
      · simp only [ByteArray.size_append, M.ba_size1]; omega
      · rw [M.wrap_id (n := -s) (by omega) (by omega)]
        refine Ev.bind (l1Num (-s) (by omega) (by omega)) (M.evp ?_ (Ev.now _))
        simp only [ByteArray.size_append, M.ba_size1]; omega
    · have e : (s.natAbs : Int) = s := by omega
      rw [e] at h3
      rw [if_neg hs, e]
      refine M.evn hs (M.evp ?_ ?_)
      · simp only [ByteArray.size_append, M.ba_size1]; omega
      · refine Ev.bind (l1Num s (by omega) (by omega)) (M.evp ?_ (Ev.now _))
        simp only [ByteArray.size_append, M.ba_size1]; omega
theorem sWalkerText_ev (h p s : Int) : Ev (fun k => spec_WalkerText.f k h p s) (if M.Wk 200 h p s then (M.tx h ++ (⟨#[64]⟩ : ByteArray) ++ M.tx p ++ (if s < 0 then (⟨#[45]⟩ : ByteArray) else ⟨#[43]⟩) ++ M.tx s.natAbs, true) else ((⟨#[]⟩ : ByteArray), false)) := by
  simp only [spec_WalkerText.f, wkAny_eq, Option.bind_some, decide_eq_true_eq]
  by_cases hw : M.Wk 200 h p s
  · rw [if_pos hw]; exact M.evp hw (Ev.bind (wkText_ev h p s hw) (Ev.now _))
  · rw [if_neg hw]; exact M.evn hw (Ev.now _)
theorem text_eq (n : Int) (h0 : -9223372036854775808 ≤ n) (h1 : n ≤ 9223372036854775807) : impl_text.f n = some (M.tx n) := by unfold impl_text.f; rw [if_pos ⟨h0, h1⟩]; rfl
theorem within_eq (a b c : Int) : impl_within.f a b c = some (decide (b ≤ a ∧ a ≤ c)) := by
  unfold impl_within.f
  by_cases h : b ≤ a <;> simp [h]
theorem isLamp_eq (a : Int) : impl_isLamp.f a = some (decide (2 ≤ a ∧ a ≤ 200)) := by simp [impl_isLamp.f, within_eq]
theorem IsWalker_eq (l h p s : Int) : impl_IsWalker.f l h p s = some (decide (M.Wk l h p s)) := by
  unfold impl_IsWalker.f M.Wk
  by_cases h1 : 2 ≤ l ∧ l ≤ 200
  · have e : wrap64 (l - 1) = l - 1 := M.wrap_id (by omega) (by omega)
    by_cases h2 : 1 ≤ h ∧ h ≤ l - 1 <;> by_cases h3 : 0 ≤ p ∧ p ≤ 500 <;> simp [within_eq, isLamp_eq, h1, h2, h3, e]
  · simp [isLamp_eq, h1]
theorem iWalkerText_eq (h p s : Int) : impl_WalkerText.f h p s = some (if M.Wk 200 h p s then (M.tx h ++ (⟨#[64]⟩ : ByteArray) ++ M.tx p ++ (if s < 0 then (⟨#[45]⟩ : ByteArray) else ⟨#[43]⟩) ++ M.tx s.natAbs, true) else ((⟨#[]⟩ : ByteArray), false)) := by
  unfold impl_WalkerText.f
  rw [IsWalker_eq]
  simp only [Option.bind_some, decide_eq_true_eq]
  by_cases hw : M.Wk 200 h p s
  · rw [if_pos hw, if_pos hw]
    obtain ⟨_, a1, a2, a3⟩ := hw
    have h1 := M.tx_size h (by omega) (by omega)
    have h2 := M.tx_size p (by omega) (by omega)
    have h3 := M.tx_size s (by omega) (by omega)
    rw [text_eq h (by omega) (by omega), text_eq p (by omega) (by omega), text_eq s (by omega) (by omega)]
    simp only [Option.bind_some]
    by_cases hs : s < 0
    · have e : (s.natAbs : Int) = -s := by omega
      rw [if_neg (show ¬ s ≥ 0 by omega), if_pos hs, e, if_pos (by omega), if_pos (by simp only [ByteArray.size_append, M.ba_size1]; omega), if_pos (by simp only [ByteArray.size_append, M.ba_size1]; omega)]
      have e2 := M.tx_neg hs
      rw [M.ba_assoc _ (⟨#[45]⟩ : ByteArray), ← e2]
    · have e : (s.natAbs : Int) = s := by omega
      rw [if_pos (show s ≥ 0 by omega), if_neg hs, e, if_pos (by omega), if_pos (by simp only [ByteArray.size_append, M.ba_size1]; omega), if_pos (by simp only [ByteArray.size_append, M.ba_size1]; omega), if_pos (by simp only [ByteArray.size_append, M.ba_size1]; omega)]
  · rw [if_neg hw, if_neg hw]
theorem law : StFnExactWalkerText.Pure := by
  intro h p s _ _ _
  simp only [laws_FnExactWalkerText.f, laws_toWalker.f, Option.bind_some]
  refine Ev.rounds (Ev.bind (sWalkerText_ev h p s) ?_)
  rw [iWalkerText_eq h p s]
  simp only [Option.bind_some, if_true, bne_self_eq_false, Bool.false_eq_true, if_false]
  exact Ev.now _
end Go.Proofs.YtglndeegcbiooaaDoor.PbFnExactWalkerText
namespace Go.Proofs.YtglndeegcbiooaaDoor.Pure
theorem FnExactWalkerText : StFnExactWalkerText.Pure := PbFnExactWalkerText.law
end Go.Proofs.YtglndeegcbiooaaDoor.Pure
