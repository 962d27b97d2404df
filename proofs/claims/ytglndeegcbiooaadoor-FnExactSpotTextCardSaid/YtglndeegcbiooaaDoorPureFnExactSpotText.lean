/- The plain part of FnExactSpotText: what the printed functions of the program and of the reference answer, in plain Lean, and that the law answers true. No condition. -/
import Derived.Test.YtglndeegcbiooaaDoorStFnExactSpotText
import Derived.Test.YtglndeegcbiooaaDoorM
namespace Go.Proofs.YtglndeegcbiooaaDoor.PbFnExactSpotText
open Go.RowKit Go.Proofs.YtglndeegcbiooaaDoor Go.Proofs.YtglndeegcbiooaaDoor.PFnExactSpotText Go.Proofs.YtglndeegcbiooaaDoorW.PrintWords Go.Proofs.YtglndeegcbiooaaDoorW.PrintLast
set_option linter.unusedVariables false
set_option linter.unusedSimpArgs false

theorem l1In_eq (a b c : Int) : spec_l1In.f a b c = some (decide (b ≤ a ∧ a ≤ c)) := by
  unfold spec_l1In.f
  by_cases h : b ≤ a <;> simp [h]
theorem lwSpot_eq (x y : Int) : spec_lwSpot.f x y = some (decide ((-1000 ≤ x ∧ x ≤ 1000) ∧ 1 ≤ y ∧ y ≤ 1000)) := by
  unfold spec_lwSpot.f
  by_cases h : -1000 ≤ x ∧ x ≤ 1000 <;> simp [l1In_eq, h]
theorem l1Num_step {r : ByteArray} (n : Int) (h : Ev (fun k => if n < 10 then (some (strOfNums (([(wrap64 (48 + n)) % 256] : List Int)))) else ((spec_l1Num.f k (wrap64 (Int.tdiv n 10))).bind fun t107 => ((some (([(wrap64 (48 + (Int.tmod n 10))) % 256] : List Int) : List Int)).bind fun y108 => (if t107.size + (strOfNums y108).size ≤ 9223372036854775807 then (some (t107 ++ (strOfNums y108))) else (none))))) r) : Ev (fun k => spec_l1Num.f k n) r := Ev.step (fun k => by simp only [spec_l1Num.f]) h
theorem l1Num_ev : ∀ (q : Nat) (n : Int), n.toNat < q → 0 ≤ n → n ≤ 9223372036854775807 → Ev (fun k => spec_l1Num.f k n) (M.tx n)
  | 0, _, h, _, _ => by omega
  | q + 1, n, h, h0, h1 => by
    refine l1Num_step n ?_
    by_cases hn : n < 10
    · rw [M.tx_small h0 hn]
      exact M.evp hn (Ev.now _)
    · have ed : Int.tdiv n 10 = n / 10 := Int.tdiv_eq_ediv_of_nonneg h0
      refine M.evn hn ?_
      rw [ed, M.wrap_id (n := n / 10) (by omega) (by omega), M.tx_big (by omega) h1]
      refine Ev.bind (l1Num_ev q (n / 10) (by omega) (by omega) (by omega)) ?_
      have := M.tx_size (n / 10) (by omega) (by omega)
      simp only [Option.bind_some]
      exact M.evp (by rw [strOfNums_size]; simp only [List.length_cons, List.length_nil]; omega) (Ev.now _)
theorem l1Num (n : Int) (h0 : 0 ≤ n) (h1 : n ≤ 9223372036854775807) : Ev (fun k => spec_l1Num.f k n) (M.tx n) := l1Num_ev (n.toNat + 1) n (by omega) h0 h1
theorem lwText_ev (a b : Int) (ha : -1000 ≤ a ∧ a ≤ 1000) (hb : 1 ≤ b ∧ b ≤ 1000) : Ev (fun k => spec_lwText.f k a b) (M.tx a ++ (⟨#[44]⟩ : ByteArray) ++ M.tx b) := by
  unfold spec_lwText.f
  have h1 := M.tx_size a (by omega) (by omega)
  have h2 := M.tx_size b (by omega) (by omega)
  by_cases hn : a < 0
  · have h3 := M.tx_size (-a) (by omega) (by omega)
    rw [M.tx_neg hn]
    refine M.evp hn ?_
    rw [M.wrap_id (n := -a) (by omega) (by omega)]
    refine Ev.bind (l1Num (-a) (by omega) (by omega)) (M.evp (by omega) (M.evp ?_ (Ev.bind (l1Num b (by omega) (by omega)) (M.evp ?_ (Ev.now _)))))
    · simp only [ByteArray.size_append, M.ba_size1]; omega
    · simp only [ByteArray.size_append, M.ba_size1]; omega
  · refine M.evn hn (Ev.bind (l1Num a (by omega) (by omega)) (M.evp (by omega) (Ev.bind (l1Num b (by omega) (by omega)) (M.evp ?_ (Ev.now _)))))
    simp only [ByteArray.size_append, M.ba_size1]; omega
theorem sSpotText_ev (a b : Int) : Ev (fun k => spec_SpotText.f k a b) (if (-1000 ≤ a ∧ a ≤ 1000) ∧ 1 ≤ b ∧ b ≤ 1000 then (M.tx a ++ (⟨#[44]⟩ : ByteArray) ++ M.tx b, true) else ((⟨#[]⟩ : ByteArray), false)) := by
  simp only [spec_SpotText.f, lwSpot_eq, Option.bind_some, decide_eq_true_eq]
  by_cases h : (-1000 ≤ a ∧ a ≤ 1000) ∧ 1 ≤ b ∧ b ≤ 1000
  · rw [if_pos h]; exact M.evp h (Ev.bind (lwText_ev a b h.1 h.2) (Ev.now _))
  · rw [if_neg h]; exact M.evn h (Ev.now _)
theorem text_eq (n : Int) (h0 : -9223372036854775808 ≤ n) (h1 : n ≤ 9223372036854775807) : impl_text.f n = some (M.tx n) := by unfold impl_text.f; rw [if_pos ⟨h0, h1⟩]; rfl
theorem within_eq (a b c : Int) : impl_within.f a b c = some (decide (b ≤ a ∧ a ≤ c)) := by
  unfold impl_within.f
  by_cases h : b ≤ a <;> simp [h]
theorem isShift_eq (a : Int) : impl_isShift.f a = some (decide (-1000 ≤ a ∧ a ≤ 1000)) := by simp [impl_isShift.f, within_eq]
theorem IsSpot_eq (x y : Int) : impl_IsSpot.f x y = some (decide ((-1000 ≤ x ∧ x ≤ 1000) ∧ 1 ≤ y ∧ y ≤ 1000)) := by
  unfold impl_IsSpot.f
  by_cases h : -1000 ≤ x ∧ x ≤ 1000 <;> simp [isShift_eq, within_eq, h]
theorem iSpotText_eq (a b : Int) : impl_SpotText.f a b = some (if (-1000 ≤ a ∧ a ≤ 1000) ∧ 1 ≤ b ∧ b ≤ 1000 then (M.tx a ++ (⟨#[44]⟩ : ByteArray) ++ M.tx b, true) else ((⟨#[]⟩ : ByteArray), false)) := by
  unfold impl_SpotText.f
  rw [IsSpot_eq]
  simp only [Option.bind_some, decide_eq_true_eq]
  by_cases h : (-1000 ≤ a ∧ a ≤ 1000) ∧ 1 ≤ b ∧ b ≤ 1000
  · have h1 := M.tx_size a (by omega) (by omega)
    have h2 := M.tx_size b (by omega) (by omega)
    rw [if_pos h, if_pos h, text_eq a (by omega) (by omega), Option.bind_some, if_pos (by omega), text_eq b (by omega) (by omega), Option.bind_some, if_pos (by simp only [ByteArray.size_append, M.ba_size1]; omega)]
  · rw [if_neg h, if_neg h]
theorem law : StFnExactSpotText.Pure := by
  intro a b _ _
  simp only [laws_FnExactSpotText.f, laws_toSpot.f, Option.bind_some]
  refine Ev.rounds (Ev.bind (sSpotText_ev a b) ?_)
  rw [iSpotText_eq a b]
  simp only [Option.bind_some, if_true, bne_self_eq_false, Bool.false_eq_true, if_false]
  exact Ev.now _
end Go.Proofs.YtglndeegcbiooaaDoor.PbFnExactSpotText
namespace Go.Proofs.YtglndeegcbiooaaDoor.Pure
theorem FnExactSpotText : StFnExactSpotText.Pure := PbFnExactSpotText.law
end Go.Proofs.YtglndeegcbiooaaDoor.Pure
