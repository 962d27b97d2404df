/- The plain part of FnWaysReflect: what the printed functions of the program and of the reference answer, in plain Lean, and that the law answers true. No condition. -/
import Derived.Test.YthjkpjncamahhaaStFnWaysReflect
import Derived.Test.YthjkpjncamahhaaM
namespace Go.Proofs.Ythjkpjncamahhaa.PbFnWaysReflect
open Go.RowKit Go.Proofs.Ythjkpjncamahhaa Go.Proofs.Ythjkpjncamahhaa.PFnWaysReflect Go.Proofs.YthjkpjncamahhaaW.PrintWords Go.Proofs.YthjkpjncamahhaaW.PrintLast Go.Proofs.Ythjkpjncamahhaa.LwFnWaysReflect
set_option linter.unusedVariables false
set_option linter.unusedSimpArgs false

theorem within_eq (a b c : Int) : impl_within.f a b c = some (decide (b ≤ a ∧ a ≤ c)) := by
  unfold impl_within.f
  by_cases h : b ≤ a <;> simp [h]
theorem isShift_eq (a : Int) : impl_isShift.f a = some (decide (-1000 ≤ a ∧ a ≤ 1000)) := by simp [impl_isShift.f, within_eq]
theorem IsSpot_eq (x y : Int) : impl_IsSpot.f x y = some (decide ((-1000 ≤ x ∧ x ≤ 1000) ∧ 1 ≤ y ∧ y ≤ 1000)) := by
  unfold impl_IsSpot.f
  by_cases h : -1000 ≤ x ∧ x ≤ 1000 <;> simp [isShift_eq, within_eq, h]
theorem impl_gcd_l0_ev (x0 : Int) (x1 : Int) {r : (Int)} (h : Ev (fun k => if x1 = 0 then (some (mx x0 (wrap64 (-x0)))) else (impl_gcd.l0 k x1 (Int.tmod x0 x1))) r) : Ev (fun k => impl_gcd.l0 k x0 x1) r := Ev.step (fun k => by simp only [impl_gcd.l0]) h
theorem gcd_l0 : ∀ (n : Nat) (a b : Int), b.natAbs ≤ n → -9223372036854775807 ≤ a → a ≤ 9223372036854775807 → -9223372036854775807 ≤ b → b ≤ 9223372036854775807 →
    impl_gcd.l0 (n + 1) a b = some (M.g a b)
  | n, a, b, hn, h1, h2, h3, h4 => by
    simp only [impl_gcd.l0]
    by_cases hb : b = 0
    · subst hb
      rw [if_pos rfl, M.g_zero, M.wrap_id (by omega) (by omega)]
      unfold mx; congr 1; omega
    · rw [if_neg hb]
      have e : (Int.tmod a b).natAbs = a.natAbs % b.natAbs := Int.natAbs_tmod ..
      have lt : a.natAbs % b.natAbs < b.natAbs := Nat.mod_lt _ (by omega)
      cases n with
      | zero => omega
      | succ n => rw [gcd_l0 n b (Int.tmod a b) (by omega) h3 h4 (by omega) (by omega), M.g_tmod]
theorem gcd_ev (a b : Int) (h1 : -9223372036854775807 ≤ a) (h2 : a ≤ 9223372036854775807) (h3 : -9223372036854775807 ≤ b) (h4 : b ≤ 9223372036854775807) :
    Ev (fun k => impl_gcd.f k a b) (M.g a b) :=
  Ev.of (impl_gcd.mono a b) (k := b.natAbs + 1) (by unfold impl_gcd.f; exact gcd_l0 _ a b (Nat.le_refl _) h1 h2 h3 h4)
theorem fraction_ev (a b : Int) (h1 : -9223372036854775807 ≤ a) (h2 : a ≤ 9223372036854775807) (h3 : 0 < b) (h4 : b ≤ 9223372036854775807) :
    Ev (fun k => impl_fraction.f k a b) (M.l1 a b, M.l2 a b, true) := by
  simp only [impl_fraction.f]
  refine Ev.bind (gcd_ev a b h1 h2 (by omega) h4) ?_
  have hg := M.g_pos_r (a := a) h3
  have ha := M.l1_abs (a := a) h3
  have hl := M.l2_le (a := a) h3
  have hp := M.l2_pos (a := a) h3
  rw [if_neg (by omega), M.tdiv_l1 h3, M.tdiv_l2 h3, M.wrap_id (by omega) (by omega), M.wrap_id (by omega) (by omega)]
  exact Ev.now _
theorem l1In_eq (a b c : Int) : spec_l1In.f a b c = some (decide (b ≤ a ∧ a ≤ c)) := by
  unfold spec_l1In.f
  by_cases h : b ≤ a <;> simp [h]
theorem lwSpot_eq (x y : Int) : spec_lwSpot.f x y = some (decide ((-1000 ≤ x ∧ x ≤ 1000) ∧ 1 ≤ y ∧ y ≤ 1000)) := by
  unfold spec_lwSpot.f
  by_cases h : -1000 ≤ x ∧ x ≤ 1000 <;> simp [l1In_eq, h]
theorem lwTwo_eq (x y a b : Int) : spec_lwTwo.f x y a b = some (decide (((-1000 ≤ x ∧ x ≤ 1000) ∧ 1 ≤ y ∧ y ≤ 1000) ∧ (-1000 ≤ a ∧ a ≤ 1000) ∧ 1 ≤ b ∧ b ≤ 1000)) := by
  unfold spec_lwTwo.f
  by_cases h : (-1000 ≤ x ∧ x ≤ 1000) ∧ 1 ≤ y ∧ y ≤ 1000 <;> simp [lwSpot_eq, h]
theorem spec_clLow_l0_ev (x0 : Int) (x1 : Int) (x6 : Int) (x7 : Int) {r : (Int × Int)} (h : Ev (fun k => if x7 > 0 then (if x7 = 0 then (none) else (spec_clLow.l0 k x0 x1 x7 (Int.tmod x6 x7))) else (if x6 = 0 then (none) else (some (wrap64 (Int.tdiv x0 x6), wrap64 (Int.tdiv x1 x6))))) r) : Ev (fun k => spec_clLow.l0 k x0 x1 x6 x7) r := Ev.step (fun k => by simp only [spec_clLow.l0]) h
theorem clLow_l0 (x y : Int) : ∀ (n : Nat) (a b : Int), b.toNat ≤ n → 0 ≤ a → 0 ≤ b → 0 < M.g a b →
    spec_clLow.l0 (n + 1) x y a b = some (wrap64 (Int.tdiv x (M.g a b)), wrap64 (Int.tdiv y (M.g a b)))
  | n, a, b, hn, h1, h3, h5 => by
    simp only [spec_clLow.l0]
    by_cases hb : b = 0
    · subst hb
      have e : M.g a 0 = a := by rw [M.g_zero]; omega
      rw [e] at h5 ⊢
      rw [if_neg (by omega), if_neg (by omega)]
    · rw [if_pos (by omega), if_neg hb]
      have e : (Int.tmod a b).natAbs = a.natAbs % b.natAbs := Int.natAbs_tmod ..
      have lt : a.natAbs % b.natAbs < b.natAbs := Nat.mod_lt _ (by omega)
      have nn : 0 ≤ Int.tmod a b := Int.tmod_nonneg b h1
      cases n with
      | zero => omega
      | succ n => rw [clLow_l0 x y n b (Int.tmod a b) (by omega) h3 nn (by rw [M.g_tmod]; exact h5), M.g_tmod]
theorem clLow_ev (a b : Int) (h1 : 0 ≤ a) (h2 : a ≤ 9223372036854775807) (h3 : 0 < b) (h4 : b ≤ 9223372036854775807) :
    Ev (fun k => spec_clLow.f k a b) (M.l1 a b, M.l2 a b) := by
  refine Ev.of (spec_clLow.mono a b) (k := b.toNat + 1) ?_
  have hg := M.g_pos_r (a := a) h3
  have ha := M.l1_abs (a := a) h3
  have hl := M.l2_le (a := a) h3
  have hp := M.l2_pos (a := a) h3
  unfold spec_clLow.f
  rw [clLow_l0 a b b.toNat a b (Nat.le_refl _) h1 (by omega) hg, M.tdiv_l1 h3, M.tdiv_l2 h3, M.wrap_id (by omega) (by omega), M.wrap_id (by omega) (by omega)]
theorem lwLow_ev (n d : Int) (h1 : -1000000000000 ≤ n) (h2 : n ≤ 1000000000000) (h3 : 0 < d) (h4 : d ≤ 1000000000000) : Ev (fun k => spec_lwLow.f k n d) (M.l1 n d, M.l2 n d) := by
  unfold spec_lwLow.f
  by_cases hn : n < 0
  · refine M.evp hn ?_
    rw [M.wrap_id (n := -n) (by omega) (by omega)]
    refine Ev.bind (clLow_ev (-n) d (by omega) (by omega) h3 (by omega)) ?_
    have ha := M.l1_abs (a := -n) h3
    have e : wrap64 (-(M.l1 (-n) d)) = M.l1 n d := by rw [M.l1_neg]; rw [M.l1_neg] at ha; rw [M.wrap_id (by omega) (by omega)]; omega
    simp only [e, M.l2_neg]
    exact Ev.now _
  · refine M.evn hn ?_
    exact Ev.bind (clLow_ev n d (by omega) (by omega) h3 (by omega)) (Ev.now _)
theorem lwTouch_ev (x1 x2 y d : Int) (h1 : -1000 ≤ x1 ∧ x1 ≤ 1000) (h2 : -1000 ≤ x2 ∧ x2 ≤ 1000) (h3 : 0 ≤ y ∧ y ≤ 1000000) (h4 : 0 < d ∧ d ≤ 1000000) :
    Ev (fun k => spec_lwTouch.f k x1 x2 y d) (M.l1 (x1 * d + (x2 - x1) * y) d, M.l2 (x1 * d + (x2 - x1) * y) d) := by
  have b1 := M.mulabs 1000 1000000 (a := x1) (b := d) (by omega) (by omega) (by omega) (by omega)
  have b2 := M.mulabs 2000 1000000 (a := x2 - x1) (b := y) (by omega) (by omega) (by omega) (by omega)
  unfold spec_lwTouch.f
  rw [M.wrap_id (n := x1 * d) (by omega) (by omega), M.wrap_id (n := x2 - x1) (by omega) (by omega), M.wrap_id (n := (x2 - x1) * y) (by omega) (by omega), M.wrap_id (n := x1 * d + (x2 - x1) * y) (by omega) (by omega)]
  exact Ev.bind (lwLow_ev _ _ (by omega) (by omega) (by omega) (by omega)) (Ev.now _)
theorem square_eq (a b : Int) (ha : -1000000 ≤ a ∧ a ≤ 1000000) (hb : -1000000 ≤ b ∧ b ≤ 1000000) : impl_square.f a b = some (a * a + b * b) := by
  have h1 := M.mulabs 1000000 1000000 (a := a) (b := a) (by omega) (by omega) (by omega) (by omega)
  have h2 := M.mulabs 1000000 1000000 (a := b) (b := b) (by omega) (by omega) (by omega) (by omega)
  unfold impl_square.f
  rw [M.wrap_id (n := a * a) (by omega) (by omega), M.wrap_id (n := b * b) (by omega) (by omega), M.wrap_id (by omega) (by omega)]
theorem laws_jLow_j0_ev (x5 : Int) (x6 : Int) {r : (Bool)} (h : Ev (fun k => laws_jLow.l0 k x5 x6) r) : Ev (fun k => laws_jLow.j0 k x5 x6) r := Ev.step (fun k => by simp only [laws_jLow.j0]) h
theorem laws_jLow_l0_ev (x5 : Int) (x6 : Int) {r : (Bool)} (h : Ev (fun k => if x6 > 0 then (if x6 = 0 then (none) else (laws_jLow.l0 k x6 (Int.tmod x5 x6))) else (some (x5 == 1))) r) : Ev (fun k => laws_jLow.l0 k x5 x6) r := Ev.step (fun k => by simp only [laws_jLow.l0]) h
theorem jLow_l0 : ∀ (k : Nat) (a b : Int), b.toNat < k → 0 ≤ a → 0 ≤ b → laws_jLow.l0 k a b = some (M.g a b == 1)
  | 0, _, _, h, _, _ => by omega
  | k + 1, a, b, h, h1, h2 => by
    simp only [laws_jLow.l0]
    by_cases hb : b = 0
    · subst hb
      have e : M.g a 0 = a := by rw [M.g_zero]; omega
      rw [if_neg (by omega), e]
    · have e : (Int.tmod a b).natAbs = a.natAbs % b.natAbs := Int.natAbs_tmod ..
      have lt : a.natAbs % b.natAbs < b.natAbs := Nat.mod_lt _ (by omega)
      have nn : 0 ≤ Int.tmod a b := Int.tmod_nonneg b h1
      rw [if_pos (by omega), if_neg hb, jLow_l0 k b (Int.tmod a b) (by omega) h2 nn, M.g_tmod]
theorem jLow_ev (a b : Int) (h1 : -9223372036854775807 ≤ a) (h2 : a ≤ 9223372036854775807) : Ev (fun k => laws_jLow.f k a b) (decide (1 ≤ b ∧ M.g a b = 1)) := by
  unfold laws_jLow.f
  by_cases hb : b < 1
  · refine M.evp hb ?_
    rw [decide_eq_false (fun h => by omega)]
    exact Ev.now _
  · refine M.evn hb ?_
    have e : decide (1 ≤ b ∧ M.g a b = 1) = (M.g a b == 1) := by
      by_cases hg : M.g a b = 1
      · rw [decide_eq_true ⟨by omega, hg⟩, hg]; rfl
      · rw [decide_eq_false (fun h => hg h.2)]; simp [hg]
    rw [e]
    by_cases ha : a < 0
    · refine M.evp ha ?_
      rw [M.wrap_id (n := -a) (by omega) (by omega)]
      refine laws_jLow_j0_ev _ _ ⟨b.toNat + 1, fun k hk => ?_⟩
      show laws_jLow.l0 k (-a) b = _
      rw [jLow_l0 k (-a) b (by omega) (by omega) (by omega), M.g_neg]
    · refine M.evn ha ?_
      refine laws_jLow_j0_ev _ _ ⟨b.toNat + 1, fun k hk => ?_⟩
      show laws_jLow.l0 k a b = _
      rw [jLow_l0 k a b (by omega) (by omega) (by omega)]
theorem jLow_true {a b : Int} (h1 : -9223372036854775807 ≤ a) (h2 : a ≤ 9223372036854775807) (hb : 0 < b) (hg : Int.gcd a b = 1) : Ev (fun k => laws_jLow.f k a b) true := by
  have := jLow_ev a b h1 h2
  rw [decide_eq_true ⟨by omega, by unfold M.g; rw [hg]; rfl⟩] at this
  exact this
theorem impl_HeightForTouch_j0_ev (x1 : Int) (x2 : Int) (x32 : Bool) (x173000 : Int) (x173001 : Int) {r : (Int × Int × Bool)} (h : Ev (fun k => if x32 = true then (some (0, 0, false)) else ((impl_distance.f x1 x2).bind fun t176 => ((impl_distance.f x2 x173000).bind fun t177 => ((impl_fraction.f k (wrap64 (x173001 * t176)) t177).bind fun bt178 => (some (bt178.1, bt178.2.1, bt178.2.2)))))) r) : Ev (fun k => impl_HeightForTouch.j0 k x1 x2 x32 x173000 x173001) r := Ev.step (fun k => by simp only [impl_HeightForTouch.j0]) h
theorem l1Sign_eq (a : Int) : spec_l1Sign.f a = some (if a > 0 then 1 else if a < 0 then -1 else 0) := by
  unfold spec_l1Sign.f; split
  · rfl
  · split <;> rfl
theorem l1Most_eq (a b : Int) : spec_l1Most.f a b = some (if a > b then a else b) := by unfold spec_l1Most.f; split <;> rfl
theorem l1Abs_eq (a : Int) (h1 : -9223372036854775807 ≤ a) (h2 : a ≤ 9223372036854775807) : spec_l1Abs.f a = some (a.natAbs : Int) := by
  simp only [spec_l1Abs.f, l1Most_eq, Option.bind_some]
  rw [M.wrap_id (by omega) (by omega)]
  congr 1; split <;> omega
theorem spec_HeightForTouch_j0_ev (x1 : Int) (x2 : Int) (x23 : Bool) (x238000 : Int) (x238001 : Int) {r : (Int × Int × Bool)} (h : Ev (fun k => if x23 = true then (some (0, 0, false)) else (if (wrap64 ((wrap64 (x2 - x238000)) * (wrap64 (x1 - x2)))) ≤ 0 then (some (0, 0, false)) else ((spec_l1Abs.f (wrap64 (x1 - x2))).bind fun t241 => ((spec_l1Abs.f (wrap64 (x2 - x238000))).bind fun t242 => ((spec_clLow.f k (wrap64 (x238001 * t241)) t242).bind fun bt243 => (some (bt243.1, bt243.2, true))))))) r) : Ev (fun k => spec_HeightForTouch.j0 k x1 x2 x23 x238000 x238001) r := Ev.step (fun k => by simp only [spec_HeightForTouch.j0]) h
theorem laws_jSame_l0_ev (x0 : List Int) (x1 : List Int) (x12 : Int) (x13 : Int) {r : (Bool)} (h : Ev (fun k => if x13 < x12 then (if 0 ≤ x13 then (if x13 < (x0.length : Int) then (if x13 < (x1.length : Int) then (if (rd x0 x13) = (rd x1 x13) then (laws_jSame.l0 k x0 x1 x12 (wrap64 (x13 + 1))) else (some false)) else (none)) else (none)) else (none)) else (some true)) r) : Ev (fun k => laws_jSame.l0 k x0 x1 x12 x13) r := Ev.step (fun k => by simp only [laws_jSame.l0]) h
def Two (x y a b : Int) : Prop := ((-1000 ≤ x ∧ x ≤ 1000) ∧ 1 ≤ y ∧ y ≤ 1000) ∧ (-1000 ≤ a ∧ a ≤ 1000) ∧ 1 ≤ b ∧ b ≤ 1000
instance (x y a b : Int) : Decidable (Two x y a b) := by unfold Two; infer_instance
def Cr (x y a b : Int) : Prop := Two x y a b ∧ 1 ≤ x ∧ 1 ≤ a
instance (x y a b : Int) : Decidable (Cr x y a b) := by unfold Cr; infer_instance
theorem two_flip {x y a b : Int} (h : Two x y a b) : Two a b x y := ⟨h.2, h.1⟩
theorem areSpots2 (x y a b : Int) : impl_areSpots.f [⟨x, y⟩, ⟨a, b⟩] = some (decide (Two x y a b)) := by
  unfold impl_areSpots.f
  rw [if_pos (by simp)]
  simp only [List.all_cons, List.all_nil, impl_areSpots.ok, Bool.and_true, ← Bool.decide_and]
  rfl
theorem lwTwo2 (x y a b : Int) : spec_lwTwo.f x y a b = some (decide (Two x y a b)) := lwTwo_eq x y a b
theorem inCorner_eq (x y a b : Int) : impl_areInCorner.f x y a b = some (decide (Cr x y a b)) := by
  unfold impl_areInCorner.f Cr
  rw [areSpots2]
  by_cases h : Two x y a b <;> by_cases h1 : 1 ≤ x <;> by_cases h2 : 1 ≤ a <;> simp [h, h1, h2]
theorem lwCorner_eq (x y a b : Int) : spec_lwCorner.f x y a b = some (decide (Cr x y a b)) := by
  unfold spec_lwCorner.f Cr
  rw [lwTwo2]
  have e1 : (0 < x) = (1 ≤ x) := propext ⟨fun h => by omega, fun h => by omega⟩
  have e2 : (0 < a) = (1 ≤ a) := propext ⟨fun h => by omega, fun h => by omega⟩
  by_cases h : Two x y a b <;> by_cases h1 : 1 ≤ x <;> by_cases h2 : 1 ≤ a <;> simp [h, h1, h2, e1, e2]
/-! ### the touch -/
def T3 (x y a b : Int) : Int × Int × Bool := if Two x y a b then (M.l1 (x * b + a * y) (y + b), M.l2 (x * b + a * y) (y + b), true) else (0, 0, false)
theorem two_b {x y a b : Int} (h : Two x y a b) : (-1000000 ≤ x * b ∧ x * b ≤ 1000000) ∧ (-1000000 ≤ a * y ∧ a * y ≤ 1000000) := by
  obtain ⟨⟨⟨h1, h2⟩, h3, h4⟩, ⟨h5, h6⟩, h7, h8⟩ := h
  have b1 := M.mulabs 1000 1000 (a := x) (b := b) (by omega) (by omega) (by omega) (by omega)
  have b2 := M.mulabs 1000 1000 (a := a) (b := y) (by omega) (by omega) (by omega) (by omega)
  omega
theorem iTouch_ev (x y a b : Int) : Ev (fun k => impl_TouchOf.f k x y a b) (T3 x y a b) := by
  simp only [impl_TouchOf.f, areSpots2, Option.bind_some, decide_eq_true_eq]
  unfold T3
  by_cases h : Two x y a b
  · rw [if_pos h]
    refine M.evp h ?_
    obtain ⟨b1, b2⟩ := two_b h
    obtain ⟨⟨⟨h1, h2⟩, h3, h4⟩, ⟨h5, h6⟩, h7, h8⟩ := h
    rw [M.wrap_id (n := x * b) (by omega) (by omega), M.wrap_id (n := a * y) (by omega) (by omega), M.wrap_id (n := x * b + a * y) (by omega) (by omega), M.wrap_id (n := y + b) (by omega) (by omega)]
    exact Ev.bind (fraction_ev _ _ (by omega) (by omega) (by omega) (by omega)) (Ev.now _)
  · rw [if_neg h]
    exact M.evn h (Ev.now _)
theorem touch_num (x y a b : Int) : x * (y + b) + (a - x) * y = x * b + a * y := by
  rw [Int.mul_add, Int.sub_mul]; omega
theorem lwT2 {x y a b : Int} (h : Two x y a b) : Ev (fun k => spec_lwTouch.f k x a y (wrap64 (y + b))) (M.l1 (x * b + a * y) (y + b), M.l2 (x * b + a * y) (y + b)) := by
  obtain ⟨⟨⟨h1, h2⟩, h3, h4⟩, ⟨h5, h6⟩, h7, h8⟩ := h
  have := lwTouch_ev x a y (y + b) (by omega) (by omega) (by omega) (by omega)
  rw [touch_num] at this
  rw [M.wrap_id (n := y + b) (by omega) (by omega)]
  exact this
theorem sTouch_ev (x y a b : Int) : Ev (fun k => spec_TouchOf.f k x y a b) (T3 x y a b) := by
  simp only [spec_TouchOf.f, lwTwo2, Option.bind_some, decide_eq_true_eq]
  unfold T3
  by_cases h : Two x y a b
  · rw [if_pos h]
    exact M.evp h (Ev.bind (lwT2 h) (Ev.now _))
  · rw [if_neg h]
    exact M.evn h (Ev.now _)
theorem iWhole_ev (x y a b : Int) : Ev (fun k => impl_IsWholeTouch.f k x y a b) ((T3 x y a b).2.1 == 1, (T3 x y a b).2.2) := by
  unfold impl_IsWholeTouch.f
  exact Ev.bind (iTouch_ev x y a b) (Ev.now _)
theorem sWhole_ev (x y a b : Int) : Ev (fun k => spec_IsWholeTouch.f k x y a b) ((T3 x y a b).2.1 == 1, (T3 x y a b).2.2) := by
  simp only [spec_IsWholeTouch.f, lwTwo2, Option.bind_some, decide_eq_true_eq]
  unfold T3
  by_cases h : Two x y a b
  · rw [if_pos h]
    exact M.evp h (Ev.bind (lwT2 h) (Ev.now _))
  · rw [if_neg h]
    exact M.evn h (Ev.now _)
/-! ### squares -/
def sq (u v : Int) : Int := u * u + v * v
theorem sq_eq {u v : Int} (hu : -2000 ≤ u ∧ u ≤ 2000) (hv : -2000 ≤ v ∧ v ≤ 2000) : impl_square.f u v = some (sq u v) ∧ spec_lwSquare.f u v = some (sq u v) := by
  have b1 := M.mulabs 2000 2000 (a := u) (b := u) (by omega) (by omega) (by omega) (by omega)
  have b2 := M.mulabs 2000 2000 (a := v) (b := v) (by omega) (by omega) (by omega) (by omega)
  unfold impl_square.f spec_lwSquare.f sq
  rw [M.wrap_id (n := u * u) (by omega) (by omega), M.wrap_id (n := v * v) (by omega) (by omega), M.wrap_id (n := u * u + v * v) (by omega) (by omega)]
  exact ⟨rfl, rfl⟩
def SM (x y a b : Int) : Int × Bool := if Two x y a b then (sq (x - a) (y + b), true) else (0, false)
def SS (x y a b : Int) : Int × Bool := if Two x y a b then (sq (x - a) (y - b), true) else (0, false)
def SC (x y a b : Int) : Int × Bool := if Cr x y a b then (sq (x + a) (y + b), true) else (0, false)
theorem sm_eq (x y a b : Int) : impl_SquareByMirror.f x y a b = some (SM x y a b) ∧ spec_SquareByMirror.f x y a b = some (SM x y a b) := by
  unfold impl_SquareByMirror.f spec_SquareByMirror.f SM
  rw [areSpots2, lwTwo2]
  by_cases h : Two x y a b
  · have h' := h
    obtain ⟨⟨⟨h1, h2⟩, h3, h4⟩, ⟨h5, h6⟩, h7, h8⟩ := h'
    have := sq_eq (u := x - a) (v := y + b) (by omega) (by omega)
    simp only [h, decide_true, Option.bind_some, if_true, M.wrap_id (n := x - a) (by omega) (by omega), M.wrap_id (n := y + b) (by omega) (by omega), this.1, this.2, and_self]
  · simp [h]
theorem ss_eq (x y a b : Int) : impl_SquareStraight.f x y a b = some (SS x y a b) ∧ spec_SquareStraight.f x y a b = some (SS x y a b) := by
  unfold impl_SquareStraight.f spec_SquareStraight.f SS
  rw [areSpots2, lwTwo2]
  by_cases h : Two x y a b
  · have h' := h
    obtain ⟨⟨⟨h1, h2⟩, h3, h4⟩, ⟨h5, h6⟩, h7, h8⟩ := h'
    have := sq_eq (u := x - a) (v := y - b) (by omega) (by omega)
    simp only [h, decide_true, Option.bind_some, if_true, M.wrap_id (n := x - a) (by omega) (by omega), M.wrap_id (n := y - b) (by omega) (by omega), this.1, this.2, and_self]
  · simp [h]
theorem sc_eq (x y a b : Int) : impl_SquareByCorner.f x y a b = some (SC x y a b) ∧ spec_SquareByCorner.f x y a b = some (SC x y a b) := by
  unfold impl_SquareByCorner.f spec_SquareByCorner.f SC
  rw [inCorner_eq, lwCorner_eq]
  by_cases h : Cr x y a b
  · have h' := h
    obtain ⟨⟨⟨⟨h1, h2⟩, h3, h4⟩, ⟨h5, h6⟩, h7, h8⟩, _⟩ := h'
    have := sq_eq (u := x + a) (v := y + b) (by omega) (by omega)
    simp only [h, decide_true, Option.bind_some, if_true, M.wrap_id (n := x + a) (by omega) (by omega), M.wrap_id (n := y + b) (by omega) (by omega), this.1, this.2, and_self]
  · simp [h]
theorem sq_add (u v w : Int) : sq u (v + w) = sq u (v - w) + 4 * v * w := by
  unfold sq
  rw [Int.add_mul, Int.mul_add, Int.mul_add, Int.sub_mul, Int.mul_sub, Int.mul_sub, Int.mul_comm w v, Int.mul_assoc]
  omega
theorem sq_left (u w v : Int) : sq (u + w) v = sq (u - w) v + 4 * u * w := by
  unfold sq
  rw [Int.add_mul, Int.mul_add, Int.mul_add, Int.sub_mul, Int.mul_sub, Int.mul_sub, Int.mul_comm w u, Int.mul_assoc]
  omega
theorem sq_flip (x a v w : Int) : sq (x - a) (v + w) = sq (a - x) (w + v) := by
  unfold sq
  rw [show a - x = -(x - a) by omega, Int.neg_mul_neg, Int.add_comm w v]
theorem sq_b {u v : Int} (hu : -2000 ≤ u ∧ u ≤ 2000) (hv : -2000 ≤ v ∧ v ≤ 2000) : 0 ≤ sq u v ∧ sq u v ≤ 8000000 := by
  have b1 := M.mulb 2000 2000 (a := u.natAbs) (b := u.natAbs) (by omega) (by omega) (by omega) (by omega)
  have b2 := M.mulb 2000 2000 (a := v.natAbs) (b := v.natAbs) (by omega) (by omega) (by omega) (by omega)
  have e1 : u * u = (u.natAbs : Int) * u.natAbs := by rw [Int.natAbs_mul_self']
  have e2 : v * v = (v.natAbs : Int) * v.natAbs := by rw [Int.natAbs_mul_self']
  unfold sq
  rw [e1, e2]
  omega
/-! ### turned, and heights -/
theorem turn_eq (x y : Int) (h : (-1000 ≤ x ∧ x ≤ 1000) ∧ 1 ≤ y ∧ y ≤ 1000) : impl_TurnSpot.f x y = some (-x, y, true) := by
  unfold impl_TurnSpot.f
  rw [IsSpot_eq, decide_eq_true h, M.wrap_id (n := -x) (by omega) (by omega)]
  rfl
def Hok (x y s p : Int) : Prop := ((-1000 ≤ x ∧ x ≤ 1000) ∧ 1 ≤ y ∧ y ≤ 1000) ∧ (-1000 ≤ s ∧ s ≤ 1000) ∧ (-1000 ≤ p ∧ p ≤ 1000) ∧ 0 < (p - x) * (s - p)
instance (x y s p : Int) : Decidable (Hok x y s p) := by unfold Hok; infer_instance
def H3 (x y s p : Int) : Int × Int × Bool := if Hok x y s p then (M.l1 (y * (s - p).natAbs) (p - x).natAbs, M.l2 (y * (s - p).natAbs) (p - x).natAbs, true) else (0, 0, false)
theorem dist_eq {s p : Int} (hs : -3000000 ≤ s ∧ s ≤ 3000000) (hp : -3000000 ≤ p ∧ p ≤ 3000000) : impl_distance.f s p = some (((s - p).natAbs : Nat) : Int) := by
  unfold impl_distance.f mx
  rw [M.wrap_id (n := s - p) (by omega) (by omega), M.wrap_id (n := p - s) (by omega) (by omega)]
  congr 1
  split <;> omega
theorem abs_eq {s : Int} (hs : -3000000 ≤ s ∧ s ≤ 3000000) : spec_l1Abs.f s = some ((s.natAbs : Nat) : Int) := by
  unfold spec_l1Abs.f spec_l1Most.f
  rw [M.wrap_id (n := -s) (by omega) (by omega)]
  by_cases h : s > -s
  · rw [if_pos h]; simp only [Option.bind_some]; congr 1; omega
  · rw [if_neg h]; simp only [Option.bind_some]; congr 1; omega
theorem hok_pos {x y s p : Int} (h : Hok x y s p) : 0 < (p - x).natAbs ∧ 0 < (s - p).natAbs := by
  have h4 := h.2.2.2
  constructor
  · rcases Nat.eq_zero_or_pos (p - x).natAbs with e | e
    · have : p - x = 0 := by omega
      rw [this, Int.zero_mul] at h4; omega
    · exact e
  · rcases Nat.eq_zero_or_pos (s - p).natAbs with e | e
    · have : s - p = 0 := by omega
      rw [this, Int.mul_zero] at h4; omega
    · exact e
theorem iHeight_ev (x y s p : Int) : Ev (fun k => impl_HeightForTouch.f k x y s p) (H3 x y s p) := by
  unfold impl_HeightForTouch.f
  simp only [IsSpot_eq, isShift_eq, Option.bind_some, decide_eq_true_eq]
  by_cases h1 : (-1000 ≤ x ∧ x ≤ 1000) ∧ 1 ≤ y ∧ y ≤ 1000
  · refine M.evp h1 ?_
    by_cases h2 : -1000 ≤ s ∧ s ≤ 1000
    · refine M.evp h2 ?_
      by_cases h3 : -1000 ≤ p ∧ p ≤ 1000
      · refine M.evp h3 ?_
        have b := M.mulabs 2000 2000 (a := p - x) (b := s - p) (by omega) (by omega) (by omega) (by omega)
        rw [M.wrap_id (n := p - x) (by omega) (by omega), M.wrap_id (n := s - p) (by omega) (by omega), M.wrap_id (n := (p - x) * (s - p)) (by omega) (by omega)]
        by_cases h4 : 0 < (p - x) * (s - p)
        · have hk : Hok x y s p := ⟨h1, h2, h3, h4⟩
          have hp := hok_pos hk
          refine impl_HeightForTouch_j0_ev _ _ _ _ _ (M.evn (by simp; omega) ?_)
          rw [dist_eq (by omega) (by omega), dist_eq (by omega) (by omega)]
          simp only [Option.bind_some]
          have b1 := M.mulb 1000 2000 (a := y) (b := (s - p).natAbs) (by omega) (by omega) (by omega) (by omega)
          rw [M.wrap_id (n := y * ((s - p).natAbs : Int)) (by omega) (by omega)]
          unfold H3
          rw [if_pos hk]
          exact Ev.bind (fraction_ev _ _ (by omega) (by omega) (by omega) (by omega)) (Ev.now _)
        · unfold H3
          rw [if_neg (fun hk : Hok x y s p => h4 hk.2.2.2)]
          exact impl_HeightForTouch_j0_ev _ _ _ _ _ (M.evp (by simp; omega) (Ev.now _))
      · unfold H3
        rw [if_neg (fun hk : Hok x y s p => h3 hk.2.2.1)]
        exact M.evn h3 (impl_HeightForTouch_j0_ev _ _ _ _ _ (M.evp rfl (Ev.now _)))
    · unfold H3
      rw [if_neg (fun hk : Hok x y s p => h2 hk.2.1)]
      exact M.evn h2 (impl_HeightForTouch_j0_ev _ _ _ _ _ (M.evp rfl (Ev.now _)))
  · unfold H3
    rw [if_neg (fun hk : Hok x y s p => h1 hk.1)]
    exact M.evn h1 (impl_HeightForTouch_j0_ev _ _ _ _ _ (M.evp rfl (Ev.now _)))
theorem sHeight_ev (x y s p : Int) : Ev (fun k => spec_HeightForTouch.f k x y s p) (H3 x y s p) := by
  unfold spec_HeightForTouch.f
  simp only [lwSpot_eq, l1In_eq, Option.bind_some, decide_eq_true_eq]
  by_cases h1 : (-1000 ≤ x ∧ x ≤ 1000) ∧ 1 ≤ y ∧ y ≤ 1000
  · refine M.evp h1 ?_
    by_cases h2 : -1000 ≤ s ∧ s ≤ 1000
    · refine M.evp h2 ?_
      by_cases h3 : -1000 ≤ p ∧ p ≤ 1000
      · refine spec_HeightForTouch_j0_ev _ _ _ _ _ (M.evn (by simp [h3]) ?_)
        have b := M.mulabs 2000 2000 (a := p - x) (b := s - p) (by omega) (by omega) (by omega) (by omega)
        rw [M.wrap_id (n := p - x) (by omega) (by omega), M.wrap_id (n := s - p) (by omega) (by omega), M.wrap_id (n := (p - x) * (s - p)) (by omega) (by omega)]
        by_cases h4 : 0 < (p - x) * (s - p)
        · have hk : Hok x y s p := ⟨h1, h2, h3, h4⟩
          have hp := hok_pos hk
          refine M.evn (by omega) ?_
          rw [abs_eq (by omega), abs_eq (by omega)]
          simp only [Option.bind_some]
          have b1 := M.mulb 1000 2000 (a := y) (b := (s - p).natAbs) (by omega) (by omega) (by omega) (by omega)
          rw [M.wrap_id (n := y * ((s - p).natAbs : Int)) (by omega) (by omega)]
          unfold H3
          rw [if_pos hk]
          exact Ev.bind (clLow_ev _ _ (by omega) (by omega) (by omega) (by omega)) (Ev.now _)
        · unfold H3
          rw [if_neg (fun hk : Hok x y s p => h4 hk.2.2.2)]
          exact M.evp (by omega) (Ev.now _)
      · unfold H3
        rw [if_neg (fun hk : Hok x y s p => h3 hk.2.2.1)]
        exact spec_HeightForTouch_j0_ev _ _ _ _ _ (M.evp (by simp [h3]) (Ev.now _))
    · unfold H3
      rw [if_neg (fun hk : Hok x y s p => h2 hk.2.1)]
      exact M.evn h2 (spec_HeightForTouch_j0_ev _ _ _ _ _ (M.evp rfl (Ev.now _)))
  · unfold H3
    rw [if_neg (fun hk : Hok x y s p => h1 hk.1)]
    exact M.evn h1 (spec_HeightForTouch_j0_ev _ _ _ _ _ (M.evp rfl (Ev.now _)))
/-! ### corners -/
def Od (x y a b : Int) : ByteArray × Bool := if Cr x y a b then (if y * a < x * b then (⟨#[103, 119]⟩, true) else if x * b < y * a then (⟨#[119, 103]⟩, true) else (⟨#[99]⟩, true)) else (⟨#[]⟩, false)
theorem cr_b {x y a b : Int} (h : Cr x y a b) : (0 ≤ y * a ∧ y * a ≤ 1000000) ∧ (0 ≤ x * b ∧ x * b ≤ 1000000) := by
  obtain ⟨⟨⟨⟨h1, h2⟩, h3, h4⟩, ⟨h5, h6⟩, h7, h8⟩, h9, h10⟩ := h
  have b1 := M.mulb 1000 1000 (a := y) (b := a) (by omega) (by omega) (by omega) (by omega)
  have b2 := M.mulb 1000 1000 (a := x) (b := b) (by omega) (by omega) (by omega) (by omega)
  omega
theorem iOrder_eq (x y a b : Int) : impl_OrderByCorner.f x y a b = some (Od x y a b) := by
  unfold impl_OrderByCorner.f Od
  rw [inCorner_eq]
  by_cases h : Cr x y a b
  · have hb := cr_b h
    simp only [h, decide_true, Option.bind_some, if_true, M.wrap_id (n := y * a) (by omega) (by omega), M.wrap_id (n := x * b) (by omega) (by omega)]
    by_cases c : y * a < x * b
    · simp only [c, if_true]
    · by_cases c2 : x * b < y * a
      · simp only [c, c2, if_false, if_true, gt_iff_lt]
      · simp only [c, c2, if_false, gt_iff_lt]
  · simp [h]
theorem sOrder_eq (x y a b : Int) : spec_OrderByCorner.f x y a b = some (Od x y a b) := by
  unfold spec_OrderByCorner.f Od
  rw [lwCorner_eq]
  by_cases h : Cr x y a b
  · have hb := cr_b h
    have h' := h
    obtain ⟨⟨⟨⟨h1, h2⟩, h3, h4⟩, ⟨h5, h6⟩, h7, h8⟩, h9, h10⟩ := h'
    have b1 := M.mulb 1000 1000 (a := y) (b := x) (by omega) (by omega) (by omega) (by omega)
    have e1 : y * (x + a) = y * x + y * a := Int.mul_add _ _ _
    have e2 : x * (y + b) = y * x + x * b := by rw [Int.mul_add, Int.mul_comm x y]
    simp only [h, decide_true, Option.bind_some, if_true, M.wrap_id (n := x + a) (by omega) (by omega), M.wrap_id (n := y + b) (by omega) (by omega), e1, e2, M.wrap_id (n := y * x + y * a) (by omega) (by omega), M.wrap_id (n := y * x + x * b) (by omega) (by omega), M.wrap_id (n := y * x + y * a - (y * x + x * b)) (by omega) (by omega)]
    unfold spec_l1Sign.f
    by_cases c : y * a < x * b
    · rw [if_neg (by omega), if_pos (by omega)]; simp [c]
    · by_cases c2 : x * b < y * a
      · rw [if_pos (by omega)]; simp [c, c2]
      · rw [if_neg (by omega), if_neg (by omega)]; simp [c, c2]
  · simp [h]
def Tc (x y a b : Int) : List Int × List Int × Bool := if Cr x y a b then ([M.l1 (x * b - a * y).natAbs (y + b), M.l2 (x * b - a * y).natAbs (y + b)], [M.l1 (x * b - a * y).natAbs (x + a), M.l2 (x * b - a * y).natAbs (x + a)], true) else ([], [], false)
theorem iTc_ev (x y a b : Int) : Ev (fun k => impl_TouchesByCorner.f k x y a b) (Tc x y a b) := by
  simp only [impl_TouchesByCorner.f, inCorner_eq, Option.bind_some, decide_eq_true_eq]
  unfold Tc
  by_cases h : Cr x y a b
  · rw [if_pos h]
    refine M.evp h ?_
    have hb := two_b h.1
    obtain ⟨⟨⟨⟨h1, h2⟩, h3, h4⟩, ⟨h5, h6⟩, h7, h8⟩, h9, h10⟩ := h
    rw [M.wrap_id (n := x * b) (by omega) (by omega), M.wrap_id (n := a * y) (by omega) (by omega), M.wrap_id (n := y + b) (by omega) (by omega), M.wrap_id (n := x + a) (by omega) (by omega), dist_eq (by omega) (by omega)]
    simp only [Option.bind_some]
    exact Ev.bind (fraction_ev _ _ (by omega) (by omega) (by omega) (by omega)) (Ev.bind (fraction_ev _ _ (by omega) (by omega) (by omega) (by omega)) (Ev.now _))
  · rw [if_neg h]
    exact M.evn h (Ev.now _)
theorem l1_natAbs {n d : Int} (hd : 0 < d) : (((M.l1 n d).natAbs : Nat) : Int) = M.l1 n.natAbs d ∧ M.l2 n d = M.l2 n.natAbs d := by
  rcases Int.lt_or_le n 0 with h | h
  · have e : ((n.natAbs : Nat) : Int) = -n := by omega
    have := M.l1_nonneg (a := -n) (by omega) hd
    rw [e, M.l2_neg]
    rw [M.l1_neg] at this ⊢
    exact ⟨by omega, rfl⟩
  · have e : ((n.natAbs : Nat) : Int) = n := by omega
    have := M.l1_nonneg h hd
    rw [e]
    exact ⟨by omega, rfl⟩
theorem sTc_ev (x y a b : Int) : Ev (fun k => spec_TouchesByCorner.f k x y a b) (Tc x y a b) := by
  simp only [spec_TouchesByCorner.f, lwCorner_eq, Option.bind_some, decide_eq_true_eq]
  unfold Tc
  by_cases h : Cr x y a b
  · rw [if_pos h]
    refine M.evp h ?_
    have hb := two_b h.1
    obtain ⟨⟨⟨⟨h1, h2⟩, h3, h4⟩, ⟨h5, h6⟩, h7, h8⟩, h9, h10⟩ := h
    rw [M.wrap_id (n := -a) (by omega) (by omega), M.wrap_id (n := -b) (by omega) (by omega), M.wrap_id (n := y + b) (by omega) (by omega), M.wrap_id (n := x + a) (by omega) (by omega)]
    have t1 := lwTouch_ev x (-a) y (y + b) (by omega) (by omega) (by omega) (by omega)
    have t2 := lwTouch_ev y (-b) x (x + a) (by omega) (by omega) (by omega) (by omega)
    have n1 : x * (y + b) + (-a - x) * y = x * b - a * y := by rw [Int.mul_add, Int.sub_mul, Int.neg_mul]; omega
    have n2 : y * (x + a) + (-b - y) * x = -(x * b - a * y) := by rw [Int.mul_add, Int.sub_mul, Int.neg_mul, Int.mul_comm b x, Int.mul_comm y a]; omega
    rw [n1] at t1
    rw [n2, M.l1_neg, M.l2_neg] at t2
    have a1 := M.l1_abs (a := x * b - a * y) (b := y + b) (by omega)
    have a2 := M.l1_abs (a := x * b - a * y) (b := x + a) (by omega)
    refine Ev.bind t1 (Ev.bind t2 ?_)
    simp only
    rw [abs_eq (by omega), abs_eq (by omega)]
    have c1 := l1_natAbs (n := x * b - a * y) (d := y + b) (by omega)
    have c2 := l1_natAbs (n := x * b - a * y) (d := x + a) (by omega)
    simp only [Option.bind_some, Int.natAbs_neg, c1.1, c2.1]
    rw [c1.2, c2.2]
    exact Ev.now _
  · rw [if_neg h]
    exact M.evn h (Ev.now _)
theorem same2 (p q : Int) : Ev (fun k => laws_jSame.f k [p, q] [p, q]) true := ⟨3, fun k hk => by
  obtain ⟨m, rfl⟩ : ∃ m, k = m + 3 := ⟨k - 3, by omega⟩
  simp [laws_jSame.f, laws_jSame.l0, rd, wrap64]⟩
theorem same0 : Ev (fun k => laws_jSame.f k [] []) true := ⟨1, fun k hk => by
  obtain ⟨m, rfl⟩ : ∃ m, k = m + 1 := ⟨k - 1, by omega⟩
  simp [laws_jSame.f, laws_jSame.l0]⟩
theorem ne_f {α : Type} [BEq α] [LawfulBEq α] {a b : α} (h : a = b) : (a != b) = false := by
  subst h; exact bne_self_eq_false _
theorem evx {α : Type} {g : Nat → Option α} {r : α} (h : Ev g r) : ∃ k, g k = some r := by
  obtain ⟨K, h⟩ := h
  exact ⟨K, h K (Nat.le_refl _)⟩
abbrev Cgw : ByteArray := ⟨#[103, 119]⟩
abbrev Cwg : ByteArray := ⟨#[119, 103]⟩
abbrev Cc : ByteArray := ⟨#[99]⟩
theorem gw_l : (⟨#[103, 119]⟩ : ByteArray).toList = [103, 119] := by simp [ByteArray.toList, ByteArray.toList.loop, ByteArray.size, ByteArray.get!]
theorem wg_l : (⟨#[119, 103]⟩ : ByteArray).toList = [119, 103] := by simp [ByteArray.toList, ByteArray.toList.loop, ByteArray.size, ByteArray.get!]
theorem c_l : (⟨#[99]⟩ : ByteArray).toList = [99] := by simp [ByteArray.toList, ByteArray.toList.loop, ByteArray.size, ByteArray.get!]
theorem pos_of_mul {v y : Int} (hy : 0 < y) (h : 0 < v * y) : 0 < v := by
  rcases Int.lt_or_le 0 v with hv | hv
  · exact hv
  · have := Int.mul_le_mul_of_nonneg_right hv (show 0 ≤ y by omega)
    rw [Int.zero_mul] at this
    omega
/-- The height that makes a whole touch. -/
theorem whole_height {x y a b n : Int} (h : Two x y a b) (hn : n * (y + b) = x * b + a * y) (hne : x ≠ a) : H3 x y a n = (b, 1, true) := by
  have hs := h
  obtain ⟨⟨⟨h1, h2⟩, h3, h4⟩, ⟨h5, h6⟩, h7, h8⟩ := h
  have key : (n - x) * b = (a - n) * y := by rw [Int.mul_add] at hn; rw [Int.sub_mul, Int.sub_mul]; omega
  have hu : n - x ≠ 0 := fun e => by
    rw [e, Int.zero_mul] at key
    have : (a - n) = 0 := by
      rcases Int.lt_trichotomy (a - n) 0 with hv | hv | hv
      · have := Int.mul_neg_of_neg_of_pos hv (show 0 < y by omega); omega
      · exact hv
      · have := Int.mul_pos hv (show 0 < y by omega); omega
    omega
  have hk : Hok x y a n ∧ ((n - x).natAbs : Int) * b = ((a - n).natAbs : Int) * y := by
    rcases Int.lt_trichotomy (n - x) 0 with hv | hv | hv
    · have k1 := Int.mul_neg_of_neg_of_pos hv (show 0 < b by omega)
      have k2 : 0 < (n - a) * y := by
        have : (n - a) * y = -((a - n) * y) := by rw [← Int.neg_mul]; congr 1; omega
        omega
      have k3 := pos_of_mul (show 0 < y by omega) k2
      have k4 : 0 < (n - x) * (a - n) := by
        rw [← Int.neg_mul_neg]; exact Int.mul_pos (by omega) (by omega)
      refine ⟨⟨⟨⟨h1, h2⟩, h3, h4⟩, ⟨h5, h6⟩, ⟨by omega, by omega⟩, k4⟩, ?_⟩
      rw [show ((n - x).natAbs : Int) = -(n - x) by omega, show ((a - n).natAbs : Int) = -(a - n) by omega, Int.neg_mul, Int.neg_mul, key]
    · exact absurd hv hu
    · have k1 := Int.mul_pos hv (show 0 < b by omega)
      have k3 := pos_of_mul (v := a - n) (show 0 < y by omega) (by omega)
      have k4 : 0 < (n - x) * (a - n) := Int.mul_pos (by omega) (by omega)
      refine ⟨⟨⟨⟨h1, h2⟩, h3, h4⟩, ⟨h5, h6⟩, ⟨by omega, by omega⟩, k4⟩, ?_⟩
      rw [show ((n - x).natAbs : Int) = n - x by omega, show ((a - n).natAbs : Int) = a - n by omega, key]
  have hp := hok_pos hk.1
  unfold H3
  rw [if_pos hk.1]
  have e1 : y * ((a - n).natAbs : Int) = ((n - x).natAbs : Int) * b := by rw [hk.2, Int.mul_comm]
  have sc := M.l_scale (k := ((n - x).natAbs : Int)) (a := b) (b := 1) (by omega) (by omega)
  rw [Int.mul_one] at sc
  have l1 := M.l_one b
  rw [e1, sc.1, sc.2, l1.1, l1.2]
/-- The touch of two spots. -/
theorem touchPart (x y a b : Int) : ∃ (n d : Int) (o : Bool) (m t : Int), T3 x y a b = (n, d, o) ∧ SM x y a b = (m, o) ∧ SS x y a b = (t, o) ∧ o = decide (Two x y a b) ∧ (o = true →
    T3 a b x y = (n, d, true) ∧ SM a b x y = (m, true) ∧ impl_TurnSpot.f x y = some (-x, y, true) ∧ impl_TurnSpot.f a b = some (-a, b, true) ∧ T3 (-x) y (-a) b = (wrap64 (-n), d, true) ∧ Ev (fun k => laws_jLow.f k n d) true ∧
    m = wrap64 (t + wrap64 (wrap64 (4 * y) * b)) ∧ wrap64 (wrap64 (n - wrap64 (x * d)) * b) = wrap64 (wrap64 (wrap64 (a * d) - n) * y) ∧ ((bif (d == 1) then (x != a) else false) = true → H3 x y a n = (b, 1, true))) := by
  by_cases h : Two x y a b
  · have hb := two_b h
    have hD : 0 < y + b := by have := h.1.2; have := h.2.2; omega
    have e : T3 x y a b = (M.l1 (x * b + a * y) (y + b), M.l2 (x * b + a * y) (y + b), true) := if_pos h
    have x1 := M.l1_abs (a := x * b + a * y) hD
    have x2 := M.l2_pos (a := x * b + a * y) hD
    have x3 := M.l2_le (a := x * b + a * y) hD
    have x4 := M.l_cross (x * b + a * y) (y + b)
    have x5 := M.l_coprime (a := x * b + a * y) hD
    have em : SM x y a b = (sq (x - a) (y + b), true) := if_pos h
    have et : SS x y a b = (sq (x - a) (y - b), true) := if_pos h
    refine ⟨_, _, true, _, _, e, em, et, (decide_eq_true h).symm, fun _ => ⟨?_, ?_, turn_eq _ _ h.1, turn_eq _ _ h.2, ?_, jLow_true (by omega) (by omega) x2 x5, ?_, ?_, ?_⟩⟩
    · unfold T3
      rw [if_pos (two_flip h), Int.add_comm (a * y), Int.add_comm b y]
    · unfold SM
      rw [if_pos (two_flip h), sq_flip]
    · have hT : Two (-x) y (-a) b := by
        obtain ⟨⟨⟨h1, h2⟩, h3, h4⟩, ⟨h5, h6⟩, h7, h8⟩ := h
        exact ⟨⟨⟨by omega, by omega⟩, h3, h4⟩, ⟨by omega, by omega⟩, h7, h8⟩
      unfold T3
      rw [if_pos hT, show -x * b + -a * y = -(x * b + a * y) by rw [Int.neg_mul, Int.neg_mul]; omega, M.l1_neg, M.l2_neg, M.wrap_id (by omega) (by omega)]
    · obtain ⟨⟨⟨h1, h2⟩, h3, h4⟩, ⟨h5, h6⟩, h7, h8⟩ := h
      have q1 := M.mulb 4000 1000 (a := 4 * y) (b := b) (by omega) (by omega) (by omega) (by omega)
      have q2 := sq_b (u := x - a) (v := y - b) (by omega) (by omega)
      rw [M.wrap_id (n := 4 * y) (by omega) (by omega), M.wrap_id (n := 4 * y * b) (by omega) (by omega), M.wrap_id (by omega) (by omega)]
      exact sq_add _ _ _
    · obtain ⟨⟨⟨h1, h2⟩, h3, h4⟩, ⟨h5, h6⟩, h7, h8⟩ := h
      generalize M.l1 (x * b + a * y) (y + b) = n at *
      generalize M.l2 (x * b + a * y) (y + b) = d at *
      have q1 := M.mulabs 1000 2000 (a := x) (b := d) (by omega) (by omega) (by omega) (by omega)
      have q2 := M.mulabs 1000 2000 (a := a) (b := d) (by omega) (by omega) (by omega) (by omega)
      have q3 := M.mulabs 10000000 1000 (a := n - x * d) (b := b) (by omega) (by omega) (by omega) (by omega)
      have q4 := M.mulabs 10000000 1000 (a := a * d - n) (b := y) (by omega) (by omega) (by omega) (by omega)
      rw [M.wrap_id (n := x * d) (by omega) (by omega), M.wrap_id (n := a * d) (by omega) (by omega), M.wrap_id (n := n - x * d) (by omega) (by omega), M.wrap_id (n := a * d - n) (by omega) (by omega), M.wrap_id (n := (n - x * d) * b) (by omega) (by omega), M.wrap_id (n := (a * d - n) * y) (by omega) (by omega)]
      rw [Int.mul_add, Int.add_mul, Int.mul_assoc x b d, Int.mul_comm b d, ← Int.mul_assoc, Int.mul_assoc a y d, Int.mul_comm y d, ← Int.mul_assoc] at x4
      rw [Int.sub_mul, Int.sub_mul]
      omega
    · intro hc
      cases hd : (M.l2 (x * b + a * y) (y + b) == 1) with
      | false => rw [hd] at hc; cases hc
      | true =>
        rw [hd] at hc
        have hd := eq_of_beq hd
        rw [hd, Int.mul_one] at x4
        exact whole_height h x4 (bne_iff_ne.1 hc)
  · have e : T3 x y a b = (0, 0, false) := if_neg h
    have em : SM x y a b = (0, false) := if_neg h
    have et : SS x y a b = (0, false) := if_neg h
    exact ⟨0, 0, false, 0, 0, e, em, et, (decide_eq_false h).symm, fun h => by cases h⟩
/-- Corners. -/
theorem cornerPart (x y a b : Int) : ∃ (o o' : ByteArray) (r : Bool) (m t : Int) (l l' : List Int) (p q p' q' : Int), Od x y a b = (o, r) ∧ SC x y a b = (m, r) ∧ Tc x y a b = (l, l', r) ∧ Ev (fun k => laws_jSame.f k l l) true ∧ Ev (fun k => laws_jSame.f k l' l') true ∧ (r = true →
    l = [p, q] ∧ l' = [p', q'] ∧ SM x y a b = (t, true) ∧ Od a b x y = (o', true) ∧ m = wrap64 (t + wrap64 (wrap64 (4 * x) * a)) ∧ Ev (fun k => laws_jLow.f k p q) true ∧ Ev (fun k => laws_jLow.f k p' q') true ∧ ¬ p < 0 ∧ ¬ p' < 0 ∧
    ((o = ⟨#[103, 119]⟩ ∧ o' = ⟨#[119, 103]⟩ ∧ p ≠ 0 ∧ p' ≠ 0 ∧ wrap64 (x * b) ≠ wrap64 (a * y)) ∨ (o = ⟨#[119, 103]⟩ ∧ o' = ⟨#[103, 119]⟩ ∧ p ≠ 0 ∧ p' ≠ 0 ∧ wrap64 (x * b) ≠ wrap64 (a * y)) ∨ (o = ⟨#[99]⟩ ∧ o' = ⟨#[99]⟩ ∧ p = 0 ∧ p' = 0 ∧ wrap64 (x * b) = wrap64 (a * y)))) := by
  by_cases h : Cr x y a b
  · have hb := two_b h.1
    have hcb := cr_b h
    have hT := h.1
    have hf : Cr a b x y := ⟨two_flip h.1, h.2.2, h.2.1⟩
    have es : SC x y a b = (sq (x + a) (y + b), true) := if_pos h
    have et : Tc x y a b = ([M.l1 (x * b - a * y).natAbs (y + b), M.l2 (x * b - a * y).natAbs (y + b)], [M.l1 (x * b - a * y).natAbs (x + a), M.l2 (x * b - a * y).natAbs (x + a)], true) := if_pos h
    have em : SM x y a b = (sq (x - a) (y + b), true) := if_pos h.1
    have hD : 0 < y + b := by have := hT.1.2; have := hT.2.2; omega
    have hE : 0 < x + a := by have := h.2; omega
    have x1 := M.l1_abs (a := ((x * b - a * y).natAbs : Int)) hD
    have x2 := M.l2_pos (a := ((x * b - a * y).natAbs : Int)) hD
    have x3 := M.l1_nonneg (a := ((x * b - a * y).natAbs : Int)) (by omega) hD
    have y1 := M.l1_abs (a := ((x * b - a * y).natAbs : Int)) hE
    have y2 := M.l2_pos (a := ((x * b - a * y).natAbs : Int)) hE
    have y3 := M.l1_nonneg (a := ((x * b - a * y).natAbs : Int)) (by omega) hE
    have hm : sq (x + a) (y + b) = wrap64 (sq (x - a) (y + b) + wrap64 (wrap64 (4 * x) * a)) := by
      obtain ⟨⟨⟨h1, h2⟩, h3, h4⟩, ⟨h5, h6⟩, h7, h8⟩ := hT
      have q1 := M.mulabs 4000 1000 (a := 4 * x) (b := a) (by omega) (by omega) (by omega) (by omega)
      have q2 := sq_b (u := x - a) (v := y + b) (by omega) (by omega)
      rw [M.wrap_id (n := 4 * x) (by omega) (by omega), M.wrap_id (n := 4 * x * a) (by omega) (by omega), M.wrap_id (by omega) (by omega)]
      exact sq_left _ _ _
    have j1 := jLow_true (a := M.l1 (x * b - a * y).natAbs (y + b)) (b := M.l2 (x * b - a * y).natAbs (y + b)) (by omega) (by omega) x2 (M.l_coprime hD)
    have j2 := jLow_true (a := M.l1 (x * b - a * y).natAbs (x + a)) (b := M.l2 (x * b - a * y).natAbs (x + a)) (by omega) (by omega) y2 (M.l_coprime hE)
    have w1 : wrap64 (x * b) = x * b := M.wrap_id (by omega) (by omega)
    have w2 : wrap64 (a * y) = a * y := M.wrap_id (by omega) (by omega)
    have c1 : a * y = y * a := Int.mul_comm _ _
    have c2 : b * x = x * b := Int.mul_comm _ _
    have hpos : x * b ≠ a * y → M.l1 (x * b - a * y).natAbs (y + b) ≠ 0 ∧ M.l1 (x * b - a * y).natAbs (x + a) ≠ 0 := fun hne => by
      have := M.l1_pos (a := ((x * b - a * y).natAbs : Int)) (by omega) hD
      have := M.l1_pos (a := ((x * b - a * y).natAbs : Int)) (by omega) hE
      omega
    rcases Int.lt_trichotomy (y * a) (x * b) with hl | hl | hl
    · have eo : Od x y a b = (⟨#[103, 119]⟩, true) := by unfold Od; rw [if_pos h, if_pos hl]
      have eb : Od a b x y = (⟨#[119, 103]⟩, true) := by unfold Od; rw [if_pos hf, if_neg (by omega), if_pos (by omega)]
      exact ⟨_, _, true, _, _, _, _, _, _, _, _, eo, es, et, same2 _ _, same2 _ _, fun _ => ⟨rfl, rfl, em, eb, hm, j1, j2, by omega, by omega, .inl ⟨rfl, rfl, (hpos (by omega)).1, (hpos (by omega)).2, by rw [w1, w2]; omega⟩⟩⟩
    · have eo : Od x y a b = (⟨#[99]⟩, true) := by unfold Od; rw [if_pos h, if_neg (by omega), if_neg (by omega)]
      have eb : Od a b x y = (⟨#[99]⟩, true) := by unfold Od; rw [if_pos hf, if_neg (by omega), if_neg (by omega)]
      have z : (((x * b - a * y).natAbs : Nat) : Int) = 0 := by omega
      have z1 := M.l_zero hD
      have z2 := M.l_zero hE
      exact ⟨_, _, true, _, _, _, _, _, _, _, _, eo, es, et, same2 _ _, same2 _ _, fun _ => ⟨rfl, rfl, em, eb, hm, j1, j2, by omega, by omega, .inr (.inr ⟨rfl, rfl, by rw [z]; exact z1.1, by rw [z]; exact z2.1, by rw [w1, w2]; omega⟩)⟩⟩
    · have eo : Od x y a b = (⟨#[119, 103]⟩, true) := by unfold Od; rw [if_pos h, if_neg (by omega), if_pos (by omega)]
      have eb : Od a b x y = (⟨#[103, 119]⟩, true) := by unfold Od; rw [if_pos hf, if_pos (by omega)]
      exact ⟨_, _, true, _, _, _, _, _, _, _, _, eo, es, et, same2 _ _, same2 _ _, fun _ => ⟨rfl, rfl, em, eb, hm, j1, j2, by omega, by omega, .inr (.inl ⟨rfl, rfl, (hpos (by omega)).1, (hpos (by omega)).2, by rw [w1, w2]; omega⟩)⟩⟩
  · have eo : Od x y a b = (⟨#[]⟩, false) := if_neg h
    have es : SC x y a b = (0, false) := if_neg h
    have et : Tc x y a b = ([], [], false) := if_neg h
    exact ⟨_, ⟨#[]⟩, false, _, 0, _, _, 0, 0, 0, 0, eo, es, et, same0, same0, fun h => by cases h⟩
/-- Heights for a touch. -/
theorem heightPart (x y s p : Int) : ∃ (n d : Int) (o : Bool) (u v : Int), H3 x y s p = (n, d, o) ∧ (o = true → Ev (fun k => laws_jLow.f k n d) true ∧ laws_jSize.f (wrap64 (p - x)) = some u ∧ laws_jSize.f (wrap64 (s - p)) = some v ∧ ¬ n < 1 ∧ wrap64 (n * u) = wrap64 (wrap64 (y * v) * d)) := by
  by_cases h : Hok x y s p
  · have e : H3 x y s p = (M.l1 (y * (s - p).natAbs) (p - x).natAbs, M.l2 (y * (s - p).natAbs) (p - x).natAbs, true) := if_pos h
    have hp := hok_pos h
    obtain ⟨⟨⟨h1, h2⟩, h3, h4⟩, ⟨h5, h6⟩, ⟨h7, h8⟩, h9⟩ := h
    have size : ∀ z : Int, -3000 ≤ z → z ≤ 3000 → laws_jSize.f (wrap64 z) = some ((z.natAbs : Nat) : Int) := fun z z1 z2 => by
      unfold laws_jSize.f
      rw [M.wrap_id (n := z) (by omega) (by omega)]
      by_cases hz : z < 0
      · rw [if_pos hz, M.wrap_id (by omega) (by omega)]; congr 1; omega
      · rw [if_neg hz]; congr 1; omega
    have hd : 0 < ((p - x).natAbs : Int) := by omega
    have b1 := M.mulb 1000 2000 (a := y) (b := (s - p).natAbs) (by omega) (by omega) (by omega) (by omega)
    have b0 := Int.mul_pos (show 0 < y by omega) (show 0 < ((s - p).natAbs : Int) by omega)
    have x1 := M.l1_abs (a := y * ((s - p).natAbs : Int)) hd
    have x2 := M.l2_pos (a := y * ((s - p).natAbs : Int)) hd
    have x3 := M.l2_le (a := y * ((s - p).natAbs : Int)) hd
    have x4 := M.l_cross (y * ((s - p).natAbs : Int)) (p - x).natAbs
    have x5 := M.l1_pos b0 hd
    refine ⟨_, _, true, _, _, e, fun _ => ⟨jLow_true (by omega) (by omega) x2 (M.l_coprime hd), size _ (by omega) (by omega), size _ (by omega) (by omega), by omega, ?_⟩⟩
    generalize M.l1 (y * ((s - p).natAbs : Int)) (p - x).natAbs = n at *
    generalize M.l2 (y * ((s - p).natAbs : Int)) (p - x).natAbs = d at *
    have q1 := M.mulb 2000000 2000 (a := n) (b := (p - x).natAbs) (by omega) (by omega) (by omega) (by omega)
    rw [M.wrap_id (n := y * ((s - p).natAbs : Int)) (by omega) (by omega), x4]
  · exact ⟨0, 0, false, 0, 0, if_neg h, fun h => by cases h⟩
theorem sIsSpot_eq (x y : Int) : spec_IsSpot.f x y = some (decide ((-1000 ≤ x ∧ x ≤ 1000) ∧ 1 ≤ y ∧ y ≤ 1000)) := by
  unfold spec_IsSpot.f
  rw [lwSpot_eq]
  rfl
theorem big_tot (l0 l1 : List Int) : ∃ r, laws_big.f l0 l1 = some r := by
  unfold laws_big.f
  split <;> exact ⟨_, rfl⟩
theorem law : StFnWaysReflect.Pure := by
  refine ⟨fun l0 l1 => ?_, fun x y a b => ?_, fun cx cy ex ey => ?_, fun ux uy s p => ?_⟩
  · obtain ⟨r, hr⟩ := big_tot l0 l1
    exact ⟨r, hr, trivial⟩
  · obtain ⟨n, d, o, m, t, e1, e2, e3, ho, F⟩ := touchPart x y a b
    have iT := iTouch_ev x y a b
    have sT := sTouch_ev x y a b
    have iW := iWhole_ev x y a b
    have sW := sWhole_ev x y a b
    have iB := iTouch_ev a b x y
    have iN := iTouch_ev (-x) y (-a) b
    have hH := iHeight_ev x y a n
    have iM := sm_eq x y a b
    have iS := ss_eq x y a b
    have iMb := (sm_eq a b x y).1
    rw [e1] at iT sT iW sW
    rw [e2] at iM
    rw [e3] at iS
    refine ⟨n, d, o, n, d, o, m, o, m, o, t, o, t, o, d == 1, o, d == 1, o, decide ((-1000 ≤ x ∧ x ≤ 1000) ∧ 1 ≤ y ∧ y ≤ 1000), decide ((-1000 ≤ a ∧ a ≤ 1000) ∧ 1 ≤ b ∧ b ≤ 1000), decide ((-1000 ≤ x ∧ x ≤ 1000) ∧ 1 ≤ y ∧ y ≤ 1000), n, d, true, m, true, -x, y, true, -a, b, true, wrap64 (-n), d, true, true, b, 1, true, ?_, ?_⟩
    · refine ⟨evx iT, evx sT, iM.1, iM.2, iS.1, iS.2, evx iW, evx sW, IsSpot_eq x y, fun _ => IsSpot_eq a b, sIsSpot_eq x y, fun h => ?_, fun h => ?_, fun h => (F h).2.2.1, fun h => (F h).2.2.2.1, fun h => ?_, fun h => evx (F h).2.2.2.2.2.1, fun h hc => ?_⟩
      · rw [(F h).1] at iB; exact evx iB
      · rw [(F h).2.1] at iMb; exact iMb
      · rw [(F h).2.2.2.2.1] at iN; exact evx iN
      · rw [(F h).2.2.2.2.2.2.2.2 hc] at hH; exact evx hH
    · refine ⟨ne_f rfl, ne_f rfl, ne_f rfl, ne_f rfl, ne_f rfl, ne_f rfl, ne_f rfl, ne_f rfl, ne_f rfl, fun h => ne_f (by rw [ho]; exact decide_eq_decide.2 ⟨fun t => t.2, fun t => ⟨of_decide_eq_true h, t⟩⟩), fun _ => ne_f rfl, fun _ => ne_f rfl, fun _ => ne_f rfl, fun _ => ne_f rfl, fun h => ne_f (by rw [ho]; exact decide_eq_false (fun t => of_decide_eq_false h t.1)), fun _ => ne_f rfl, fun _ => ne_f rfl, fun _ => ne_f rfl, fun _ => ne_f rfl, fun _ => rfl, fun _ => ne_f rfl, fun h => ne_f (F h).2.2.2.2.2.2.1, fun h => ne_f (F h).2.2.2.2.2.2.2.1, fun _ => rfl, fun _ => ne_f rfl, fun _ => ne_f rfl, fun _ => rfl, fun _ => ne_f rfl, fun _ => rfl, fun _ => rfl, fun _ => rfl, fun _ => ne_f rfl, fun _ => ne_f rfl, fun _ _ => rfl, fun _ _ => ne_f rfl, fun _ _ => ne_f rfl⟩
  · obtain ⟨ord, back, r, cm, ct, l, l', p1, q1, p2, q2, g1, g2, g3, g4, g5, G⟩ := cornerPart cx cy ex ey
    have iO := iOrder_eq cx cy ex ey
    have sO := sOrder_eq cx cy ex ey
    have iOb := iOrder_eq ex ey cx cy
    have iC := sc_eq cx cy ex ey
    have iTc := iTc_ev cx cy ex ey
    have sTc := sTc_ev cx cy ex ey
    have iMc := (sm_eq cx cy ex ey).1
    rw [g1] at iO sO
    rw [g2] at iC
    rw [g3] at iTc sTc
    refine ⟨ord, r, ord, r, cm, r, cm, r, l, l', r, l, l', r, true, true, ct, true, back, true, true, true, ?_, ?_⟩
    · refine ⟨iO, sO, iC.1, iC.2, evx iTc, evx sTc, evx g4, evx g5, fun h => ?_, fun h => ?_, fun h => ?_, fun h => ?_⟩
      · rw [(G h).2.2.1] at iMc; exact iMc
      · rw [(G h).2.2.2.1] at iOb; exact iOb
      · rw [(G h).1]; exact evx (G h).2.2.2.2.2.1
      · rw [(G h).2.1]; exact evx (G h).2.2.2.2.2.2.1
    · refine ⟨ne_f rfl, ne_f rfl, ne_f rfl, ne_f rfl, ne_f rfl, rfl, rfl, ne_f rfl, ne_f rfl, fun _ => rfl, fun h => ne_f (G h).2.2.2.2.1, fun _ => rfl, fun h => by rw [(G h).1]; rfl, fun h => by rw [(G h).2.1]; rfl, fun h => by rw [(G h).1]; rfl, fun h => by rw [(G h).1]; rfl, fun _ => rfl, fun h => by rw [(G h).2.1]; rfl, fun h => by rw [(G h).2.1]; rfl, fun _ => rfl, fun h => by rw [(G h).1]; rfl, fun h => by rw [(G h).1]; exact decide_eq_false (G h).2.2.2.2.2.2.2.1, fun h => by rw [(G h).2.1]; rfl, fun h => by rw [(G h).2.1]; exact decide_eq_false (G h).2.2.2.2.2.2.2.2.1, fun h => by rw [(G h).1]; rfl, ?_, fun h => by rw [(G h).2.1]; rfl, ?_, ?_, ?_, ?_, ?_, ?_, ?_, ?_, ?_⟩
      · intro h
        rw [(G h).1]
        rcases (G h).2.2.2.2.2.2.2.2.2 with ⟨rfl, rfl, z1, z2, z3⟩ | ⟨rfl, rfl, z1, z2, z3⟩ | ⟨rfl, rfl, z1, z2, z3⟩ <;> simp [gw_l, wg_l, c_l, rd, z1]
      · intro h
        rw [(G h).2.1]
        rcases (G h).2.2.2.2.2.2.2.2.2 with ⟨rfl, rfl, z1, z2, z3⟩ | ⟨rfl, rfl, z1, z2, z3⟩ | ⟨rfl, rfl, z1, z2, z3⟩ <;> simp [gw_l, wg_l, c_l, rd, z2]
      · intro h
        rcases (G h).2.2.2.2.2.2.2.2.2 with ⟨rfl, rfl, z1, z2, z3⟩ | ⟨rfl, rfl, z1, z2, z3⟩ | ⟨rfl, rfl, z1, z2, z3⟩ <;> simp [gw_l, wg_l, c_l, z3]
      · intro h
        rcases (G h).2.2.2.2.2.2.2.2.2 with ⟨rfl, rfl, z1, z2, z3⟩ | ⟨rfl, rfl, z1, z2, z3⟩ | ⟨rfl, rfl, z1, z2, z3⟩ <;> simp [gw_l, wg_l, c_l]
      · intro h
        rcases (G h).2.2.2.2.2.2.2.2.2 with ⟨rfl, rfl, z1, z2, z3⟩ | ⟨rfl, rfl, z1, z2, z3⟩ | ⟨rfl, rfl, z1, z2, z3⟩ <;> simp [gw_l, wg_l, c_l]
      · intro h
        rcases (G h).2.2.2.2.2.2.2.2.2 with ⟨rfl, rfl, z1, z2, z3⟩ | ⟨rfl, rfl, z1, z2, z3⟩ | ⟨rfl, rfl, z1, z2, z3⟩ <;> simp [gw_l, wg_l, c_l]
      · intro h
        rcases (G h).2.2.2.2.2.2.2.2.2 with ⟨rfl, rfl, z1, z2, z3⟩ | ⟨rfl, rfl, z1, z2, z3⟩ | ⟨rfl, rfl, z1, z2, z3⟩ <;> simp [gw_l, wg_l, c_l]
      · intro h
        rcases (G h).2.2.2.2.2.2.2.2.2 with ⟨rfl, rfl, z1, z2, z3⟩ | ⟨rfl, rfl, z1, z2, z3⟩ | ⟨rfl, rfl, z1, z2, z3⟩ <;> simp [gw_l, wg_l, c_l]
      · intro h
        rcases (G h).2.2.2.2.2.2.2.2.2 with ⟨rfl, rfl, z1, z2, z3⟩ | ⟨rfl, rfl, z1, z2, z3⟩ | ⟨rfl, rfl, z1, z2, z3⟩ <;> simp [gw_l, wg_l, c_l]
      · intro h
        rcases (G h).2.2.2.2.2.2.2.2.2 with ⟨rfl, rfl, z1, z2, z3⟩ | ⟨rfl, rfl, z1, z2, z3⟩ | ⟨rfl, rfl, z1, z2, z3⟩ <;> simp [gw_l, wg_l, c_l]
  · obtain ⟨hn, hd, hb, hu, hv, k1, K⟩ := heightPart ux uy s p
    have iH := iHeight_ev ux uy s p
    have sH := sHeight_ev ux uy s p
    rw [k1] at iH sH
    refine ⟨hn, hd, hb, hn, hd, hb, true, hu, hv, ?_, ?_⟩
    · exact ⟨evx iH, evx sH, fun h => evx (K h).1, fun h => (K h).2.1, fun h => (K h).2.2.1⟩
    · refine ⟨ne_f rfl, ne_f rfl, ne_f rfl, fun _ => rfl, fun h => decide_eq_false (K h).2.2.2.1, fun h => ne_f (K h).2.2.2.2⟩
end Go.Proofs.Ythjkpjncamahhaa.PbFnWaysReflect
namespace Go.Proofs.Ythjkpjncamahhaa.Pure
theorem FnWaysReflect : StFnWaysReflect.Pure := PbFnWaysReflect.law
end Go.Proofs.Ythjkpjncamahhaa.Pure
