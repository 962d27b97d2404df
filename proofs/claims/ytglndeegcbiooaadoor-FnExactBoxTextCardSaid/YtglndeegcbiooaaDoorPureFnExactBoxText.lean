/- The plain part of FnExactBoxText: what the printed functions of the program and of the reference answer, in plain Lean, and that the law answers true. No condition. -/
import Derived.Test.YtglndeegcbiooaaDoorStFnExactBoxText
import Derived.Test.YtglndeegcbiooaaDoorM
namespace Go.Proofs.YtglndeegcbiooaaDoor.PbFnExactBoxText
open Go.RowKit Go.Proofs.YtglndeegcbiooaaDoor Go.Proofs.YtglndeegcbiooaaDoor.PFnExactBoxText Go.Proofs.YtglndeegcbiooaaDoorW.PrintWords Go.Proofs.YtglndeegcbiooaaDoorW.PrintLast
set_option linter.unusedVariables false
set_option linter.unusedSimpArgs false

theorem l1In_eq (a b c : Int) : spec_l1In.f a b c = some (decide (b ≤ a ∧ a ≤ c)) := by
  unfold spec_l1In.f
  by_cases h : b ≤ a <;> simp [h]
theorem lnBox_eq (a b : Int) : spec_lnBox.f a b = some (decide ((1 ≤ a ∧ a ≤ 60) ∧ 1 ≤ b ∧ b ≤ 60)) := by
  unfold spec_lnBox.f
  by_cases h : 1 ≤ a ∧ a ≤ 60 <;> simp [l1In_eq, h]
theorem l1Num_step {r : ByteArray} (n : Int) (h : Ev (fun k => if n < 10 then (some (strOfNums (([(wrap64 (48 + n)) % 256] : List Int)))) else ((spec_l1Num.f k (wrap64 (Int.tdiv n 10))).bind fun t107 => ((some (([(wrap64 (48 + (Int.tmod n 10))) % 256] : List Int) : List Int)).bind fun y108 => (if t107.size + (strOfNums y108).size ≤ 9223372036854775807 then (some (t107 ++ (strOfNums y108))) else (none))))) r) : Ev (fun k => spec_l1Num.f k n) r := Ev.step (fun k => by simp only [spec_l1Num.f]) h
theorem l1Num_ev : ∀ (q : Nat) (n : Int), n.toNat < q → 0 ≤ n → n ≤ 9223372036854775807 → Ev (fun k => spec_l1Num.f k n) (M.tx n)
  | 0, _, h, _, _ => by omega
  | q + 1, n, h, h0, h1 => by
    refine l1Num_step n ?_
    by_cases hn : n < 10
    · rw [M.tx_small h0 hn]
      exact M.evp hn (Ev.now _)
    · have ed : Int.tdiv n 10 = n / 10 := Int.tdiv_eq_ediv_of_nonneg h0
      refine M.evn hn ?_
      rw [ed, M.wrap_id (n := n / 10) (by omega) (by omega), M.tx_big (by omega) h1]
      refine Ev.bind (l1Num_ev q (n / 10) (by omega) (by omega) (by omega)) ?_
      have := M.tx_size (n / 10) (by omega) (by omega)
      simp only [Option.bind_some]
      exact M.evp (by rw [strOfNums_size]; simp only [List.length_cons, List.length_nil]; omega) (Ev.now _)
theorem l1Num (n : Int) (h0 : 0 ≤ n) (h1 : n ≤ 9223372036854775807) : Ev (fun k => spec_l1Num.f k n) (M.tx n) := l1Num_ev (n.toNat + 1) n (by omega) h0 h1
theorem lnText_ev (a b : Int) (ha : 1 ≤ a ∧ a ≤ 60) (hb : 1 ≤ b ∧ b ≤ 60) : Ev (fun k => spec_lnText.f k a b) (M.tx a ++ (⟨#[42]⟩ : ByteArray) ++ M.tx b) := by
  unfold spec_lnText.f
  have h1 := M.tx_size a (by omega) (by omega)
  have h2 := M.tx_size b (by omega) (by omega)
  refine Ev.bind (l1Num a (by omega) (by omega)) (M.evp (by omega) (Ev.bind (l1Num b (by omega) (by omega)) (M.evp ?_ (Ev.now _))))
  simp only [ByteArray.size_append, M.ba_size1]; omega
theorem sBoxText_ev (a b : Int) : Ev (fun k => spec_BoxText.f k a b) (if (1 ≤ a ∧ a ≤ 60) ∧ 1 ≤ b ∧ b ≤ 60 then (M.tx a ++ (⟨#[42]⟩ : ByteArray) ++ M.tx b, true) else ((⟨#[]⟩ : ByteArray), false)) := by
  simp only [spec_BoxText.f, lnBox_eq, Option.bind_some, decide_eq_true_eq]
  by_cases h : (1 ≤ a ∧ a ≤ 60) ∧ 1 ≤ b ∧ b ≤ 60
  · rw [if_pos h]; exact M.evp h (Ev.bind (lnText_ev a b h.1 h.2) (Ev.now _))
  · rw [if_neg h]; exact M.evn h (Ev.now _)
theorem within_eq (a b c : Int) : impl_within.f a b c = some (decide (b ≤ a ∧ a ≤ c)) := by
  unfold impl_within.f
  by_cases h : b ≤ a <;> simp [h]
theorem IsBox_eq (a b : Int) : impl_IsBox.f a b = some (decide ((1 ≤ a ∧ a ≤ 60) ∧ 1 ≤ b ∧ b ≤ 60)) := by
  unfold impl_IsBox.f
  by_cases h : 1 ≤ a ∧ a ≤ 60 <;> simp [within_eq, h]
theorem text_eq (n : Int) (h0 : -9223372036854775808 ≤ n) (h1 : n ≤ 9223372036854775807) : impl_text.f n = some (M.tx n) := by unfold impl_text.f; rw [if_pos ⟨h0, h1⟩]; rfl
theorem iBoxText_eq (a b : Int) : impl_BoxText.f a b = some (if (1 ≤ a ∧ a ≤ 60) ∧ 1 ≤ b ∧ b ≤ 60 then (M.tx a ++ (⟨#[42]⟩ : ByteArray) ++ M.tx b, true) else ((⟨#[]⟩ : ByteArray), false)) := by
  unfold impl_BoxText.f
  rw [IsBox_eq]
  simp only [Option.bind_some, decide_eq_true_eq]
  by_cases h : (1 ≤ a ∧ a ≤ 60) ∧ 1 ≤ b ∧ b ≤ 60
  · have h1 := M.tx_size a (by omega) (by omega)
    have h2 := M.tx_size b (by omega) (by omega)
    rw [if_pos h, if_pos h, text_eq a (by omega) (by omega), Option.bind_some, if_pos (by omega), text_eq b (by omega) (by omega), Option.bind_some, if_pos (by simp only [ByteArray.size_append, M.ba_size1]; omega)]
  · rw [if_neg h, if_neg h]
theorem law : StFnExactBoxText.Pure := by
  intro a b _ _
  simp only [laws_FnExactBoxText.f, laws_toBox.f, Option.bind_some]
  refine Ev.rounds (Ev.bind (sBoxText_ev a b) ?_)
  rw [iBoxText_eq a b]
  simp only [Option.bind_some, if_true, bne_self_eq_false, Bool.false_eq_true, if_false]
  exact Ev.now _
end Go.Proofs.YtglndeegcbiooaaDoor.PbFnExactBoxText
namespace Go.Proofs.YtglndeegcbiooaaDoor.Pure
theorem FnExactBoxText : StFnExactBoxText.Pure := PbFnExactBoxText.law
end Go.Proofs.YtglndeegcbiooaaDoor.Pure
