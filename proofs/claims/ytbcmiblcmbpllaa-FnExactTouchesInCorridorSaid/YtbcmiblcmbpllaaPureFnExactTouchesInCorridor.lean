/- The plain part of FnExactTouchesInCorridor: what the printed functions of the program and of the reference answer, in plain Lean, and that the law answers true. No condition. -/
import Derived.Test.YtbcmiblcmbpllaaStFnExactTouchesInCorridor
import Derived.Test.YtbcmiblcmbpllaaM
namespace Go.Proofs.Ytbcmiblcmbpllaa.PbFnExactTouchesInCorridor
open Go.RowKit Go.Proofs.Ytbcmiblcmbpllaa Go.Proofs.Ytbcmiblcmbpllaa.PFnExactTouchesInCorridor Go.Proofs.YtbcmiblcmbpllaaW.PrintWords Go.Proofs.YtbcmiblcmbpllaaW.PrintLast
set_option linter.unusedVariables false
set_option linter.unusedSimpArgs false

theorem l1In_eq (a b c : Int) : spec_l1In.f a b c = some (decide (b ≤ a ∧ a ≤ c)) := by
  unfold spec_l1In.f
  by_cases h : b ≤ a <;> simp [h]
theorem lwSpot_eq (x y : Int) : spec_lwSpot.f x y = some (decide ((-1000 ≤ x ∧ x ≤ 1000) ∧ 1 ≤ y ∧ y ≤ 1000)) := by
  unfold spec_lwSpot.f
  by_cases h : -1000 ≤ x ∧ x ≤ 1000 <;> simp [l1In_eq, h]
theorem lwTwo_eq (x y a b : Int) : spec_lwTwo.f x y a b = some (decide (((-1000 ≤ x ∧ x ≤ 1000) ∧ 1 ≤ y ∧ y ≤ 1000) ∧ (-1000 ≤ a ∧ a ≤ 1000) ∧ 1 ≤ b ∧ b ≤ 1000)) := by
  unfold spec_lwTwo.f
  by_cases h : (-1000 ≤ x ∧ x ≤ 1000) ∧ 1 ≤ y ∧ y ≤ 1000 <;> simp [lwSpot_eq, h]
theorem lwCorridor_eq (x y a b h t : Int) : spec_lwCorridor.f x y a b h t = some (decide (M.Cor x y a b h t)) := by
  unfold spec_lwCorridor.f M.Cor
  by_cases h1 : ((-1000 ≤ x ∧ x ≤ 1000) ∧ 1 ≤ y ∧ y ≤ 1000) ∧ (-1000 ≤ a ∧ a ≤ 1000) ∧ 1 ≤ b ∧ b ≤ 1000
  · by_cases h2 : 2 ≤ h ∧ h ≤ 1000 <;> by_cases h3 : y < h <;> by_cases h4 : b < h <;> simp [lwTwo_eq, l1In_eq, h1, h2, h3, h4]
  · simp only [lwTwo_eq, h1, decide_false, Option.bind_some, Bool.false_eq_true, if_false, false_and]
theorem lwRise_eq (x y a b h t : Int) (g : Bool) (hc : M.Cor x y a b h t) : spec_lwRise.f x y a b h t g = some (M.corFirst y h g, M.corRise y b h t g) := by
  obtain ⟨⟨⟨h1, h2⟩, h3, h4⟩, h5, h6, h7, h8⟩ := hc
  have b1 := M.mulb 49 1000 (a := t - 1) (b := h) (by omega) (by omega) (by omega) (by omega)
  have e1 : wrap64 (t - 1) = t - 1 := M.wrap_id (by omega) (by omega)
  have e2 : wrap64 ((t - 1) * h) = (t - 1) * h := M.wrap_id (by omega) (by omega)
  have e3 : wrap64 (y + (t - 1) * h) = y + (t - 1) * h := M.wrap_id (by omega) (by omega)
  have e4 : wrap64 (h - b) = h - b := M.wrap_id (by omega) (by omega)
  have e5 : wrap64 (h - y) = h - y := M.wrap_id (by omega) (by omega)
  have e6 : wrap64 (h - y + (t - 1) * h) = h - y + (t - 1) * h := M.wrap_id (by omega) (by omega)
  have e7 : wrap64 (y + (t - 1) * h + (h - b)) = y + (t - 1) * h + (h - b) := M.wrap_id (by omega) (by omega)
  have e8 : wrap64 (y + (t - 1) * h + b) = y + (t - 1) * h + b := M.wrap_id (by omega) (by omega)
  have e9 : wrap64 (h - y + (t - 1) * h + (h - b)) = h - y + (t - 1) * h + (h - b) := M.wrap_id (by omega) (by omega)
  have e10 : wrap64 (h - y + (t - 1) * h + b) = h - y + (t - 1) * h + b := M.wrap_id (by omega) (by omega)
  unfold spec_lwRise.f M.corRise M.corFirst
  simp only [e1, e2, e3, e4, e5, e6, e7, e8, e9, e10]
  by_cases ht : Int.tmod t 2 = 1 <;> cases g <;> simp [ht]
theorem spec_clLow_l0_ev (x0 : Int) (x1 : Int) (x6 : Int) (x7 : Int) {r : (Int × Int)} (h : Ev (fun k => if x7 > 0 then (if x7 = 0 then (none) else (spec_clLow.l0 k x0 x1 x7 (Int.tmod x6 x7))) else (if x6 = 0 then (none) else (some (wrap64 (Int.tdiv x0 x6), wrap64 (Int.tdiv x1 x6))))) r) : Ev (fun k => spec_clLow.l0 k x0 x1 x6 x7) r := Ev.step (fun k => by simp only [spec_clLow.l0]) h
theorem clLow_l0 (x y : Int) : ∀ (n : Nat) (a b : Int), b.toNat ≤ n → 0 ≤ a → 0 ≤ b → 0 < M.g a b →
    spec_clLow.l0 (n + 1) x y a b = some (wrap64 (Int.tdiv x (M.g a b)), wrap64 (Int.tdiv y (M.g a b)))
  | n, a, b, hn, h1, h3, h5 => by
    simp only [spec_clLow.l0]
    by_cases hb : b = 0
    · subst hb
      have e : M.g a 0 = a := by rw [M.g_zero]; omega
      rw [e] at h5 ⊢
      rw [if_neg (by omega), if_neg (by omega)]
    · rw [if_pos (by omega), if_neg hb]
      have e : (Int.tmod a b).natAbs = a.natAbs % b.natAbs := Int.natAbs_tmod ..
      have lt : a.natAbs % b.natAbs < b.natAbs := Nat.mod_lt _ (by omega)
      have nn : 0 ≤ Int.tmod a b := Int.tmod_nonneg b h1
      cases n with
      | zero => omega
      | succ n => rw [clLow_l0 x y n b (Int.tmod a b) (by omega) h3 nn (by rw [M.g_tmod]; exact h5), M.g_tmod]
theorem clLow_ev (a b : Int) (h1 : 0 ≤ a) (h2 : a ≤ 9223372036854775807) (h3 : 0 < b) (h4 : b ≤ 9223372036854775807) :
    Ev (fun k => spec_clLow.f k a b) (M.l1 a b, M.l2 a b) := by
  refine Ev.of (spec_clLow.mono a b) (k := b.toNat + 1) ?_
  have hg := M.g_pos_r (a := a) h3
  have ha := M.l1_abs (a := a) h3
  have hl := M.l2_le (a := a) h3
  have hp := M.l2_pos (a := a) h3
  unfold spec_clLow.f
  rw [clLow_l0 a b b.toNat a b (Nat.le_refl _) h1 (by omega) hg, M.tdiv_l1 h3, M.tdiv_l2 h3, M.wrap_id (by omega) (by omega), M.wrap_id (by omega) (by omega)]
theorem lwLow_ev (n d : Int) (h1 : -1000000000000 ≤ n) (h2 : n ≤ 1000000000000) (h3 : 0 < d) (h4 : d ≤ 1000000000000) : Ev (fun k => spec_lwLow.f k n d) (M.l1 n d, M.l2 n d) := by
  unfold spec_lwLow.f
  by_cases hn : n < 0
  · refine M.evp hn ?_
    rw [M.wrap_id (n := -n) (by omega) (by omega)]
    refine Ev.bind (clLow_ev (-n) d (by omega) (by omega) h3 (by omega)) ?_
    have ha := M.l1_abs (a := -n) h3
    have e : wrap64 (-(M.l1 (-n) d)) = M.l1 n d := by rw [M.l1_neg]; rw [M.l1_neg] at ha; rw [M.wrap_id (by omega) (by omega)]; omega
    simp only [e, M.l2_neg]
    exact Ev.now _
  · refine M.evn hn ?_
    exact Ev.bind (clLow_ev n d (by omega) (by omega) h3 (by omega)) (Ev.now _)
theorem lwTouch_ev (x1 x2 y d : Int) (h1 : -1000 ≤ x1 ∧ x1 ≤ 1000) (h2 : -1000 ≤ x2 ∧ x2 ≤ 1000) (h3 : 0 ≤ y ∧ y ≤ 1000000) (h4 : 0 < d ∧ d ≤ 1000000) :
    Ev (fun k => spec_lwTouch.f k x1 x2 y d) (M.l1 (x1 * d + (x2 - x1) * y) d, M.l2 (x1 * d + (x2 - x1) * y) d) := by
  have b1 := M.mulabs 1000 1000000 (a := x1) (b := d) (by omega) (by omega) (by omega) (by omega)
  have b2 := M.mulabs 2000 1000000 (a := x2 - x1) (b := y) (by omega) (by omega) (by omega) (by omega)
  unfold spec_lwTouch.f
  rw [M.wrap_id (n := x1 * d) (by omega) (by omega), M.wrap_id (n := x2 - x1) (by omega) (by omega), M.wrap_id (n := (x2 - x1) * y) (by omega) (by omega), M.wrap_id (n := x1 * d + (x2 - x1) * y) (by omega) (by omega)]
  exact Ev.bind (lwLow_ev _ _ (by omega) (by omega) (by omega) (by omega)) (Ev.now _)
theorem spec_TouchesInCorridor_l0_ev (x2 : Int) (x3 : Int) (x12 : List (List Int)) (x13 : Int) (x14 : Int) (x15 : Int) (x122000 : Int) (x122001 : Int) (x123000 : Int) (x123001 : Int) {r : ((List (List Int)) × Bool)} (h : Ev (fun k => if x15 < x3 then ((spec_lwTouch.f k x122000 x123000 (wrap64 (x13 + (wrap64 (x15 * x2)))) x14).bind fun bt126 => (if x12.length < 5864062014805 then (spec_TouchesInCorridor.l0 k x2 x3 (x12 ++ [(([bt126.1, bt126.2] : List Int))]) x13 x14 (wrap64 (x15 + 1)) x122000 x122001 x123000 x123001) else (none))) else (some (x12, true))) r) : Ev (fun k => spec_TouchesInCorridor.l0 k x2 x3 x12 x13 x14 x15 x122000 x122001 x123000 x123001) r := Ev.step (fun k => by simp only [spec_TouchesInCorridor.l0]) h
theorem sTouch_l0 (x y a b h t f R : Int) (hx : -1000 ≤ x ∧ x ≤ 1000) (ha : -1000 ≤ a ∧ a ≤ 1000) (hh : 2 ≤ h ∧ h ≤ 1000) (ht : 1 ≤ t ∧ t ≤ 50) (hf : 1 ≤ f ∧ f ≤ 1000) (hR : 0 < R ∧ R ≤ 1000000) : ∀ (n : Nat) (i : Int) (out : List (List Int)), 0 ≤ i → i + n = t → out.length = i.toNat →
    Ev (fun k => spec_TouchesInCorridor.l0 k h t out f R i x y a b) (out ++ M.tab (M.corRow x a h f R) i n, true)
  | 0, i, out, h0, h1, h2 => by
    refine spec_TouchesInCorridor_l0_ev _ _ _ _ _ _ _ _ _ _ (M.evn (by omega) ?_)
    simp only [M.tab, List.append_nil]; exact Ev.now _
  | n + 1, i, out, h0, h1, h2 => by
    have b1 := M.mulb 50 1000 (a := i) (b := h) (by omega) (by omega) (by omega) (by omega)
    refine spec_TouchesInCorridor_l0_ev _ _ _ _ _ _ _ _ _ _ (M.evp (by omega) ?_)
    rw [M.wrap_id (n := i * h) (by omega) (by omega), M.wrap_id (n := f + i * h) (by omega) (by omega), M.wrap_id (n := i + 1) (by omega) (by omega)]
    refine Ev.bind (lwTouch_ev x a (f + i * h) R hx ha (by omega) hR) (M.evp (by omega) ?_)
    have ih := sTouch_l0 x y a b h t f R hx ha hh ht hf hR n (i + 1) (out ++ [M.corRow x a h f R i]) (by omega) (by omega) (by simp; omega)
    simp only [M.tab]
    rw [List.append_assoc] at ih
    exact ih
theorem sTouches_ev (x y a b h t : Int) (g : Bool) : Ev (fun k => spec_TouchesInCorridor.f k x y a b h t g) (if M.Cor x y a b h t then (M.tab (M.corRow x a h (M.corFirst y h g) (M.corRise y b h t g)) 0 t.toNat, true) else ([], false)) := by
  simp only [spec_TouchesInCorridor.f, lwCorridor_eq, Option.bind_some, decide_eq_true_eq]
  by_cases hc : M.Cor x y a b h t
  · rw [if_pos hc]
    refine M.evp hc ?_
    rw [lwRise_eq x y a b h t g hc]
    simp only [Option.bind_some]
    have hb := M.cor_b (g := g) hc
    obtain ⟨⟨⟨h1, h2⟩, h3, h4⟩, h5, h6, h7, h8⟩ := hc
    have := sTouch_l0 x y a b h t (M.corFirst y h g) (M.corRise y b h t g) h1 h3 h5 h8 hb.1 hb.2 t.toNat 0 [] (by omega) (by omega) rfl
    simpa using this
  · rw [if_neg hc]
    exact M.evn hc (Ev.now _)
theorem within_eq (a b c : Int) : impl_within.f a b c = some (decide (b ≤ a ∧ a ≤ c)) := by
  unfold impl_within.f
  by_cases h : b ≤ a <;> simp [h]
theorem isShift_eq (a : Int) : impl_isShift.f a = some (decide (-1000 ≤ a ∧ a ≤ 1000)) := by simp [impl_isShift.f, within_eq]
theorem areInCorridor_eq (x y a b h t : Int) : impl_areInCorridor.f x y a b h t = some (decide (M.Cor x y a b h t)) := by
  unfold impl_areInCorridor.f M.Cor impl_areSpots.f
  rw [if_pos (by simp)]
  simp only [List.all_cons, List.all_nil, impl_areSpots.ok, Option.bind_some, Bool.and_true, ← Bool.decide_and, decide_eq_true_eq]
  by_cases h1 : ((-1000 ≤ x ∧ x ≤ 1000) ∧ 1 ≤ y ∧ y ≤ 1000) ∧ (-1000 ≤ a ∧ a ≤ 1000) ∧ 1 ≤ b ∧ b ≤ 1000
  · by_cases h2 : 2 ≤ h ∧ h ≤ 1000 <;> by_cases h3 : y < h <;> by_cases h4 : b < h <;> simp [within_eq, h1, h2, h3, h4]
  · simp only [h1, decide_false, if_false, false_and]
theorem riseBefore_eq (x y h : Int) (g : Bool) (hy : 1 ≤ y ∧ y ≤ 1000) (hh : 2 ≤ h ∧ h ≤ 1000) : impl_riseBefore.f x y h g = some (M.corFirst y h g) := by
  have e5 : wrap64 (h - y) = h - y := M.wrap_id (by omega) (by omega)
  unfold impl_riseBefore.f M.corFirst
  rw [e5]
  cases g <;> simp
theorem riseIn_eq (x y a b h t : Int) (g : Bool) (hc : M.Cor x y a b h t) : impl_riseIn.f x y a b h t g = some (M.corRise y b h t g) := by
  obtain ⟨⟨⟨h1, h2⟩, h3, h4⟩, h5, h6, h7, h8⟩ := hc
  have b1 := M.mulb 49 1000 (a := t - 1) (b := h) (by omega) (by omega) (by omega) (by omega)
  have e1 : wrap64 (t - 1) = t - 1 := M.wrap_id (by omega) (by omega)
  have e2 : wrap64 ((t - 1) * h) = (t - 1) * h := M.wrap_id (by omega) (by omega)
  have e3 : wrap64 (y + (t - 1) * h) = y + (t - 1) * h := M.wrap_id (by omega) (by omega)
  have e6 : wrap64 (h - y + (t - 1) * h) = h - y + (t - 1) * h := M.wrap_id (by omega) (by omega)
  have e7 : wrap64 (y + (t - 1) * h + (h - b)) = y + (t - 1) * h + (h - b) := M.wrap_id (by omega) (by omega)
  have e8 : wrap64 (y + (t - 1) * h + b) = y + (t - 1) * h + b := M.wrap_id (by omega) (by omega)
  have e9 : wrap64 (h - y + (t - 1) * h + (h - b)) = h - y + (t - 1) * h + (h - b) := M.wrap_id (by omega) (by omega)
  have e10 : wrap64 (h - y + (t - 1) * h + b) = h - y + (t - 1) * h + b := M.wrap_id (by omega) (by omega)
  unfold impl_riseIn.f
  rw [riseBefore_eq x y h g h2 h5, riseBefore_eq a b h _ h4 h5]
  unfold M.corRise M.corFirst
  simp only [Option.bind_some, e1, e2]
  by_cases ht : Int.tmod t 2 = 1 <;> cases g <;> simp [ht, e3, e6, e7, e8, e9, e10]
theorem impl_gcd_l0_ev (x0 : Int) (x1 : Int) {r : (Int)} (h : Ev (fun k => if x1 = 0 then (some (mx x0 (wrap64 (-x0)))) else (impl_gcd.l0 k x1 (Int.tmod x0 x1))) r) : Ev (fun k => impl_gcd.l0 k x0 x1) r := Ev.step (fun k => by simp only [impl_gcd.l0]) h
theorem gcd_l0 : ∀ (n : Nat) (a b : Int), b.natAbs ≤ n → -9223372036854775807 ≤ a → a ≤ 9223372036854775807 → -9223372036854775807 ≤ b → b ≤ 9223372036854775807 →
    impl_gcd.l0 (n + 1) a b = some (M.g a b)
  | n, a, b, hn, h1, h2, h3, h4 => by
    simp only [impl_gcd.l0]
    by_cases hb : b = 0
    · subst hb
      rw [if_pos rfl, M.g_zero, M.wrap_id (by omega) (by omega)]
      unfold mx; congr 1; omega
    · rw [if_neg hb]
      have e : (Int.tmod a b).natAbs = a.natAbs % b.natAbs := Int.natAbs_tmod ..
      have lt : a.natAbs % b.natAbs < b.natAbs := Nat.mod_lt _ (by omega)
      cases n with
      | zero => omega
      | succ n => rw [gcd_l0 n b (Int.tmod a b) (by omega) h3 h4 (by omega) (by omega), M.g_tmod]
theorem gcd_ev (a b : Int) (h1 : -9223372036854775807 ≤ a) (h2 : a ≤ 9223372036854775807) (h3 : -9223372036854775807 ≤ b) (h4 : b ≤ 9223372036854775807) :
    Ev (fun k => impl_gcd.f k a b) (M.g a b) :=
  Ev.of (impl_gcd.mono a b) (k := b.natAbs + 1) (by unfold impl_gcd.f; exact gcd_l0 _ a b (Nat.le_refl _) h1 h2 h3 h4)
theorem fraction_ev (a b : Int) (h1 : -9223372036854775807 ≤ a) (h2 : a ≤ 9223372036854775807) (h3 : 0 < b) (h4 : b ≤ 9223372036854775807) :
    Ev (fun k => impl_fraction.f k a b) (M.l1 a b, M.l2 a b, true) := by
  simp only [impl_fraction.f]
  refine Ev.bind (gcd_ev a b h1 h2 (by omega) h4) ?_
  have hg := M.g_pos_r (a := a) h3
  have ha := M.l1_abs (a := a) h3
  have hl := M.l2_le (a := a) h3
  have hp := M.l2_pos (a := a) h3
  rw [if_neg (by omega), M.tdiv_l1 h3, M.tdiv_l2 h3, M.wrap_id (by omega) (by omega), M.wrap_id (by omega) (by omega)]
  exact Ev.now _
theorem impl_TouchesInCorridor_l0_ev (x2 : Int) (x4 : Bool) (x12 : List (List Int)) (x13 : Int) (x31 : Int) (x32 : Int) (x158000 : Int) (x158001 : Int) (x159000 : Int) (x159001 : Int) {r : ((List (List Int)) × Bool)} (h : Ev (fun k => if x32 < x31 then ((impl_riseBefore.f x158000 x158001 x2 x4).bind fun t164 => ((impl_fraction.f k (wrap64 ((wrap64 (x158000 * x13)) + (wrap64 ((wrap64 (x159000 - x158000)) * (wrap64 (t164 + (wrap64 (x32 * x2)))))))) x13).bind fun bt165 => (if x12.length < 5864062014805 then (impl_TouchesInCorridor.l0 k x2 x4 (x12 ++ [(([bt165.1, bt165.2.1] : List Int))]) x13 x31 (wrap64 (x32 + 1)) x158000 x158001 x159000 x159001) else (none)))) else (some (x12, true))) r) : Ev (fun k => impl_TouchesInCorridor.l0 k x2 x4 x12 x13 x31 x32 x158000 x158001 x159000 x159001) r := Ev.step (fun k => by simp only [impl_TouchesInCorridor.l0]) h
theorem iTouch_l0 (x y a b h t R : Int) (g : Bool) (hx : -1000 ≤ x ∧ x ≤ 1000) (hy : 1 ≤ y ∧ y ≤ 1000) (hyh : y < h) (ha : -1000 ≤ a ∧ a ≤ 1000) (hh : 2 ≤ h ∧ h ≤ 1000) (ht : 1 ≤ t ∧ t ≤ 50) (hR : 0 < R ∧ R ≤ 1000000) : ∀ (n : Nat) (i : Int) (out : List (List Int)), 0 ≤ i → i + n = t → out.length = i.toNat →
    Ev (fun k => impl_TouchesInCorridor.l0 k h g out R t i x y a b) (out ++ M.tab (M.corRow x a h (M.corFirst y h g) R) i n, true)
  | 0, i, out, h0, h1, h2 => by
    refine impl_TouchesInCorridor_l0_ev _ _ _ _ _ _ _ _ _ _ (M.evn (by omega) ?_)
    simp only [M.tab, List.append_nil]; exact Ev.now _
  | n + 1, i, out, h0, h1, h2 => by
    have hf : 1 ≤ M.corFirst y h g ∧ M.corFirst y h g ≤ 1000 := by unfold M.corFirst; split <;> omega
    have b1 := M.mulb 50 1000 (a := i) (b := h) (by omega) (by omega) (by omega) (by omega)
    have b2 := M.mulabs 1000 1000000 (a := x) (b := R) (by omega) (by omega) (by omega) (by omega)
    have b3 := M.mulabs 2000 1000000 (a := a - x) (b := M.corFirst y h g + i * h) (by omega) (by omega) (by omega) (by omega)
    refine impl_TouchesInCorridor_l0_ev _ _ _ _ _ _ _ _ _ _ (M.evp (by omega) ?_)
    simp only [riseBefore_eq x y h g hy hh, Option.bind_some]
    rw [M.wrap_id (n := i * h) (by omega) (by omega), M.wrap_id (n := M.corFirst y h g + i * h) (by omega) (by omega), M.wrap_id (n := i + 1) (by omega) (by omega), M.wrap_id (n := x * R) (by omega) (by omega), M.wrap_id (n := a - x) (by omega) (by omega), M.wrap_id (n := (a - x) * (M.corFirst y h g + i * h)) (by omega) (by omega), M.wrap_id (n := x * R + (a - x) * (M.corFirst y h g + i * h)) (by omega) (by omega)]
    refine Ev.bind (fraction_ev _ R (by omega) (by omega) hR.1 (by omega)) (M.evp (by omega) ?_)
    have ih := iTouch_l0 x y a b h t R g hx hy hyh ha hh ht hR n (i + 1) (out ++ [M.corRow x a h (M.corFirst y h g) R i]) (by omega) (by omega) (by simp; omega)
    simp only [M.tab]
    rw [List.append_assoc] at ih
    exact ih
theorem iTouches_ev (x y a b h t : Int) (g : Bool) : Ev (fun k => impl_TouchesInCorridor.f k x y a b h t g) (if M.Cor x y a b h t then (M.tab (M.corRow x a h (M.corFirst y h g) (M.corRise y b h t g)) 0 t.toNat, true) else ([], false)) := by
  simp only [impl_TouchesInCorridor.f, areInCorridor_eq, Option.bind_some, decide_eq_true_eq]
  by_cases hc : M.Cor x y a b h t
  · rw [if_pos hc]
    refine M.evp hc ?_
    rw [riseIn_eq x y a b h t g hc]
    simp only [Option.bind_some]
    have hb := M.cor_b (g := g) hc
    obtain ⟨⟨⟨h1, h2⟩, h3, h4⟩, h5, h6, h7, h8⟩ := hc
    have := iTouch_l0 x y a b h t (M.corRise y b h t g) g h1 h2 h6 h3 h5 h8 hb.2 t.toNat 0 [] (by omega) (by omega) rfl
    simpa using this
  · rw [if_neg hc]
    exact M.evn hc (Ev.now _)
theorem laws_eqIntS_l0_ev (x0 : List Int) (x1 : List Int) (x5 : Int) {r : (Bool)} (h : Ev (fun k => if x5 < (x0.length : Int) then (if 0 ≤ x5 then (if x5 < (x1.length : Int) then (if (rd x0 x5) = (rd x1 x5) then (laws_eqIntS.l0 k x0 x1 (wrap64 (x5 + 1))) else (some false)) else (none)) else (none)) else (some true)) r) : Ev (fun k => laws_eqIntS.l0 k x0 x1 x5) r := Ev.step (fun k => by simp only [laws_eqIntS.l0]) h
theorem rd_mid (done rest : List Int) (x : Int) : rd (done ++ x :: rest) (done.length : Int) = x := by simp [rd]
theorem eqIntS_l0 : ∀ (rest done : List Int), (done ++ rest).length ≤ 1000000000000 → Ev (fun k => laws_eqIntS.l0 k (done ++ rest) (done ++ rest) done.length) true
  | [], done, _ => laws_eqIntS_l0_ev _ _ _ (M.evn (by simp) (Ev.now _))
  | x :: rest, done, hl => by
    have h2 : (done ++ x :: rest).length = done.length + rest.length + 1 := by simp; omega
    have hlt : ((done.length : Nat) : Int) < (((done ++ x :: rest).length : Nat) : Int) := by omega
    refine laws_eqIntS_l0_ev _ _ _ (M.evp hlt (M.evp (by omega) (M.evp hlt (M.evp rfl ?_))))
    have ih := eqIntS_l0 rest (done ++ [x]) (by simpa using hl)
    have e : wrap64 ((done.length : Int) + 1) = ((done ++ [x]).length : Int) := by rw [M.wrap_id (by omega) (by omega)]; simp
    rw [e]
    simpa using ih
theorem eqIntS_self (l : List Int) (h : l.length ≤ 1000000000000) : Ev (fun k => laws_eqIntS.f k l l) true := by
  unfold laws_eqIntS.f
  exact M.evp rfl (by simpa using eqIntS_l0 l [] (by simpa using h))
theorem laws_eqIntSS_l0_ev (x0 : List (List Int)) (x1 : List (List Int)) (x5 : Int) {r : (Bool)} (h : Ev (fun k => if x5 < (x0.length : Int) then (if 0 ≤ x5 then (if x5 < (x1.length : Int) then ((laws_eqIntS.f k (rd_L1 x0 x5) (rd_L1 x1 x5)).bind fun t178 => (if t178 = true then (laws_eqIntSS.l0 k x0 x1 (wrap64 (x5 + 1))) else (some false))) else (none)) else (none)) else (some true)) r) : Ev (fun k => laws_eqIntSS.l0 k x0 x1 x5) r := Ev.step (fun k => by simp only [laws_eqIntSS.l0]) h
theorem rdL_mid (done rest : List (List Int)) (x : List Int) : rd_L1 (done ++ x :: rest) (done.length : Int) = x := by simp [rd_L1]
theorem eqIntSS_l0 : ∀ (rest done : List (List Int)), (done ++ rest).length ≤ 1000000000000 → (∀ x ∈ rest, x.length ≤ 1000000) → Ev (fun k => laws_eqIntSS.l0 k (done ++ rest) (done ++ rest) done.length) true
  | [], done, _, _ => laws_eqIntSS_l0_ev _ _ _ (M.evn (by simp) (Ev.now _))
  | x :: rest, done, hl, hx => by
    have h2 : (done ++ x :: rest).length = done.length + rest.length + 1 := by simp; omega
    have hlt : ((done.length : Nat) : Int) < (((done ++ x :: rest).length : Nat) : Int) := by omega
    refine laws_eqIntSS_l0_ev _ _ _ (M.evp hlt (M.evp (by omega) (M.evp hlt ?_)))
    rw [rdL_mid]
    have hx1 := hx x List.mem_cons_self
    refine Ev.bind (eqIntS_self x (by omega)) (M.evp rfl ?_)
    have ih := eqIntSS_l0 rest (done ++ [x]) (by simpa using hl) (fun y hy => hx y (List.mem_cons_of_mem _ hy))
    have e : wrap64 ((done.length : Int) + 1) = ((done ++ [x]).length : Int) := by rw [M.wrap_id (by omega) (by omega)]; simp
    rw [e]
    simpa using ih
theorem eqIntSS_self (l : List (List Int)) (h : l.length ≤ 1000000000000) (hx : ∀ x ∈ l, x.length ≤ 1000000) : Ev (fun k => laws_eqIntSS.f k l l) true := by
  unfold laws_eqIntSS.f
  exact M.evp rfl (by simpa using eqIntSS_l0 l [] (by simpa using h) hx)
theorem laws_markIntS_l0_ev (x0 : List Int) (x1 : Int) (x5 : Int) {r : (Int × List Int)} (h : Ev (fun k => if x5 < (x0.length : Int) then (if 0 ≤ x5 then (laws_markIntS.l0 k (x0.set (x5 : Int).toNat x1) (wrap64 (x1 + 1)) (wrap64 (x5 + 1))) else (none)) else (some (x1, x0))) r) : Ev (fun k => laws_markIntS.l0 k x0 x1 x5) r := Ev.step (fun k => by simp only [laws_markIntS.l0]) h
theorem markIntS_l0 : ∀ (rest done : List Int) (a : Int), (done ++ rest).length ≤ 1000000000000 → 0 ≤ a → a + rest.length ≤ 1000000000000 →
    Ev (fun k => laws_markIntS.l0 k (done ++ rest) a done.length) (a + rest.length, done ++ M.cnt a rest.length)
  | [], done, a, _, _, _ => by
    have e : (a + (([] : List Int).length : Int), done ++ M.cnt a ([] : List Int).length) = (a, done ++ []) := by simp [M.cnt]
    rw [e]
    exact laws_markIntS_l0_ev _ _ _ (M.evn (by simp) (Ev.now _))
  | x :: rest, done, a, hl, h0, h1 => by
    have h2 : (done ++ x :: rest).length = done.length + rest.length + 1 := by simp; omega
    have hlt : ((done.length : Nat) : Int) < (((done ++ x :: rest).length : Nat) : Int) := by omega
    refine laws_markIntS_l0_ev _ _ _ (M.evp hlt (M.evp (by omega) ?_))
    have e : wrap64 ((done.length : Int) + 1) = ((done ++ [a]).length : Int) := by rw [M.wrap_id (by omega) (by omega)]; simp
    have e2 : wrap64 (a + 1) = a + 1 := M.wrap_id (by omega) (by omega)
    have e3 : (done ++ x :: rest).set ((done.length : Int)).toNat a = (done ++ [a]) ++ rest := by simp
    have e4 : (a + ((x :: rest).length : Int), done ++ M.cnt a (x :: rest).length) = (a + 1 + (rest.length : Int), (done ++ [a]) ++ M.cnt (a + 1) rest.length) := by
      simp only [List.length_cons, M.cnt, List.append_assoc, List.singleton_append, Prod.mk.injEq, and_true]; omega
    rw [e, e2, e3, e4]
    exact markIntS_l0 rest (done ++ [a]) (a + 1) (by simpa using hl) (by omega) (by rw [List.length_cons] at h1; omega)
theorem markIntS_ev (l : List Int) (a : Int) (h : l.length ≤ 100000000000) (h0 : 0 ≤ a) (h1 : a ≤ 100000000000) : Ev (fun k => laws_markIntS.f k l a) (a + l.length, M.cnt a l.length) := by
  unfold laws_markIntS.f
  simpa using markIntS_l0 l [] a (by simp; omega) h0 (by omega)
theorem laws_heldIntS_l0_ev (x0 : List Int) (x1 : Int) (x5 : Int) {r : (Int)} (h : Ev (fun k => if x5 < (x0.length : Int) then (if 0 ≤ x5 then (if (rd x0 x5) = x1 then (laws_heldIntS.l0 k x0 (wrap64 (x1 + 1)) (wrap64 (x5 + 1))) else (some (-1))) else (none)) else (some x1)) r) : Ev (fun k => laws_heldIntS.l0 k x0 x1 x5) r := Ev.step (fun k => by simp only [laws_heldIntS.l0]) h
theorem heldIntS_l0 : ∀ (n : Nat) (done : List Int) (a : Int), done.length + n ≤ 1000000000000 → 0 ≤ a → a + n ≤ 2000000000000 →
    Ev (fun k => laws_heldIntS.l0 k (done ++ M.cnt a n) a done.length) (a + n)
  | 0, done, a, _, _, _ => by
    have e : a + ((0 : Nat) : Int) = a := by omega
    rw [e]
    exact laws_heldIntS_l0_ev _ _ _ (M.evn (by simp [M.cnt]) (Ev.now _))
  | n + 1, done, a, hl, h0, h1 => by
    have h2 : (done ++ M.cnt a (n + 1)).length = done.length + n + 1 := by simp [M.cnt_length]; omega
    have hlt : ((done.length : Nat) : Int) < (((done ++ M.cnt a (n + 1)).length : Nat) : Int) := by omega
    have e0 : rd (done ++ M.cnt a (n + 1)) (done.length : Int) = a := by rw [M.cnt]; simp [rd]
    refine laws_heldIntS_l0_ev _ _ _ (M.evp hlt (M.evp (by omega) (M.evp e0 ?_)))
    have ih := heldIntS_l0 n (done ++ [a]) (a + 1) (by simp; omega) (by omega) (by omega)
    have e : wrap64 ((done.length : Int) + 1) = ((done ++ [a]).length : Int) := by rw [M.wrap_id (by omega) (by omega)]; simp
    have e2 : wrap64 (a + 1) = a + 1 := M.wrap_id (by omega) (by omega)
    have e3 : done ++ M.cnt a (n + 1) = (done ++ [a]) ++ M.cnt (a + 1) n := by simp [M.cnt]
    have e4 : a + ((n + 1 : Nat) : Int) = a + 1 + (n : Int) := by omega
    rw [e, e2, e3, e4]; exact ih
theorem heldIntS_ev (n : Nat) (a : Int) (h : n ≤ 1000000000000) (h0 : 0 ≤ a) (h1 : a ≤ 1000000000000) : Ev (fun k => laws_heldIntS.f k (M.cnt a n) a) (a + n) := by
  unfold laws_heldIntS.f
  simpa using heldIntS_l0 n [] a (by simp; omega) h0 (by omega)
theorem laws_heldIntSS_l0_ev (x0 : List (List Int)) (x1 : Int) (x5 : Int) {r : (Int)} (h : Ev (fun k => if x5 < (x0.length : Int) then (if 0 ≤ x5 then ((laws_heldIntS.f k (rd_L1 x0 x5) x1).bind fun t183 => (if t183 < 0 then (some (-1)) else (laws_heldIntSS.l0 k x0 t183 (wrap64 (x5 + 1))))) else (none)) else (some x1)) r) : Ev (fun k => laws_heldIntSS.l0 k x0 x1 x5) r := Ev.step (fun k => by simp only [laws_heldIntSS.l0]) h
theorem rdL_mid' (done rest : List (List Int)) (x : List Int) : rd_L1 (done ++ x :: rest) (done.length : Int) = x := by simp [rd_L1]
theorem heldIntSS_l0 : ∀ (l done : List (List Int)) (a : Int), done.length + l.length ≤ 100000000 → (∀ x ∈ l, x.length ≤ 1000) → 0 ≤ a → M.tot l a ≤ 1000000000000 →
    Ev (fun k => laws_heldIntSS.l0 k (done ++ M.mkSS l a) a done.length) (M.tot l a)
  | [], done, a, _, _, _, _ => laws_heldIntSS_l0_ev _ _ _ (M.evn (by simp [M.mkSS]) (Ev.now _))
  | x :: rest, done, a, hl, hx, h0, h1 => by
    rw [List.length_cons] at hl
    have hx1 := hx x List.mem_cons_self
    have h2 : (done ++ M.mkSS (x :: rest) a).length = done.length + rest.length + 1 := by simp [M.mkSS_length]; omega
    have hlt : ((done.length : Nat) : Int) < (((done ++ M.mkSS (x :: rest) a).length : Nat) : Int) := by omega
    have h3 := M.tot_ge rest (a + x.length)
    have h4 : M.tot (x :: rest) a = M.tot rest (a + x.length) := rfl
    have e0 : rd_L1 (done ++ M.mkSS (x :: rest) a) (done.length : Int) = M.cnt a x.length := by rw [M.mkSS]; exact rdL_mid' _ _ _
    refine laws_heldIntSS_l0_ev _ _ _ (M.evp hlt (M.evp (by omega) ?_))
    rw [e0]
    refine Ev.bind (heldIntS_ev x.length a (by omega) h0 (by omega)) (M.evn (by omega) ?_)
    have ih := heldIntSS_l0 rest (done ++ [M.cnt a x.length]) (a + x.length) (by simp; omega) (fun y hy => hx y (List.mem_cons_of_mem _ hy)) (by omega) (by rw [← h4]; exact h1)
    have e : wrap64 ((done.length : Int) + 1) = ((done ++ [M.cnt a x.length]).length : Int) := by rw [M.wrap_id (by omega) (by omega)]; simp
    have e3 : done ++ M.mkSS (x :: rest) a = (done ++ [M.cnt a x.length]) ++ M.mkSS rest (a + x.length) := by simp [M.mkSS]
    rw [e, e3, h4]; exact ih
theorem heldIntSS_ev (l : List (List Int)) (h : l.length ≤ 100000000) (hx : ∀ x ∈ l, x.length ≤ 1000) : Ev (fun k => laws_heldIntSS.f k (M.mkSS l 1) 1) (M.tot l 1) := by
  unfold laws_heldIntSS.f
  have := M.tot_le l 1 hx
  simpa using heldIntSS_l0 l [] 1 (by simp; omega) hx (by omega) (by omega)
theorem marks_l0 : ∀ (rest done : List (List Int)) (a : Int), (done ++ rest).length ≤ 100000000 → (∀ x ∈ rest, x.length ≤ 1000) → 0 ≤ a → M.tot rest a ≤ 100000000000 →
    Ev (fun k => MkFnExactTouchesInCorridor.marks k (done ++ rest) a done.length) (M.tot rest a, done ++ M.mkSS rest a)
  | [], done, a, _, _, _, _ => by
    refine Ev.step (f := fun _ => some (a, done ++ [])) (fun k => ?_) (Ev.now _)
    simp only [MkFnExactTouchesInCorridor.marks]
    rw [if_neg (by simp)]
  | x :: rest, done, a, hl, hx, h0, h1 => by
    have h2 : (done ++ x :: rest).length = done.length + rest.length + 1 := by simp; omega
    have hlt : ((done.length : Nat) : Int) < (((done ++ x :: rest).length : Nat) : Int) := by omega
    have hx1 := hx x List.mem_cons_self
    have h3 := M.tot_ge rest (a + x.length)
    have h4 : M.tot (x :: rest) a = M.tot rest (a + x.length) := rfl
    have e0 : rd_L1 (done ++ x :: rest) (done.length : Int) = x := by simp [rd_L1]
    have e : wrap64 ((done.length : Int) + 1) = ((done ++ [M.cnt a x.length]).length : Int) := by rw [M.wrap_id (by omega) (by omega)]; simp
    have e2 : (done ++ x :: rest).set ((done.length : Int)).toNat (M.cnt a x.length) = (done ++ [M.cnt a x.length]) ++ rest := by simp
    refine Ev.step (f := fun k => (laws_markIntS.f k x a).bind fun t => MkFnExactTouchesInCorridor.marks k ((done ++ x :: rest).set ((done.length : Int)).toNat t.2) t.1 ((done ++ [M.cnt a x.length]).length : Int)) (fun k => ?_) (Ev.bind (markIntS_ev x a (by omega) h0 (by omega)) ?_)
    · simp only [MkFnExactTouchesInCorridor.marks]
      rw [if_pos hlt, if_pos (by omega), e0, e]
    · have ih := marks_l0 rest (done ++ [M.cnt a x.length]) (a + x.length) (by simp at hl ⊢; omega) (fun y hy => hx y (List.mem_cons_of_mem _ hy)) (by omega) (by rw [← h4]; exact h1)
      have e3 : (M.tot (x :: rest) a, done ++ M.mkSS (x :: rest) a) = (M.tot rest (a + x.length), (done ++ [M.cnt a x.length]) ++ M.mkSS rest (a + x.length)) := by simp [M.mkSS, M.tot]
      simp only [e2]
      rw [e3]; exact ih
theorem law_of {sf impf : Nat → Option (List (List Int) × Bool)} {r : List (List Int) × Bool} (q1 : Ev sf r) (q2 : Ev impf r) (hl : r.1.length ≤ 10000) (hx : ∀ x ∈ r.1, x.length ≤ 1000) :
    ∃ (k : Nat) (l : List (List Int)) (b : Bool) (m : Int) (l2 : List (List Int)), sf k = some (l, b) ∧ impf k = some (l, b) ∧ laws_eqIntSS.f k l l = some true ∧ MkFnExactTouchesInCorridor.marks k l 1 0 = some (m, l2) ∧ laws_heldIntSS.f k l2 1 = some m ∧ 0 ≤ m := by
  obtain ⟨l, b⟩ := r
  have t1 := M.tot_le l 1 hx
  have t2 := M.tot_ge l 1
  replace hl : l.length ≤ 10000 := hl
  obtain ⟨K1, h1⟩ := q1
  obtain ⟨K2, h2⟩ := q2
  obtain ⟨K3, h3⟩ := eqIntSS_self l (by omega) (fun x h => by have := hx x h; omega)
  obtain ⟨K4, h4⟩ := marks_l0 l [] 1 (by simp; omega) hx (by omega) (by omega)
  obtain ⟨K5, h5⟩ := heldIntSS_ev l (by omega) hx
  refine ⟨K1 + K2 + K3 + K4 + K5, l, b, M.tot l 1, M.mkSS l 1, h1 _ (by omega), h2 _ (by omega), h3 _ (by omega), ?_, h5 _ (by omega), by omega⟩
  simpa using h4 (K1 + K2 + K3 + K4 + K5) (by omega)
theorem law : StFnExactTouchesInCorridor.Pure := by
  intro x y a b h t g _ _ _ _ _ _
  refine law_of (sTouches_ev x y a b h t g) (iTouches_ev x y a b h t g) ?_ ?_
  · split
    · next hb => rw [M.tab_length]; have := hb.2.2.2.2; omega
    · simp
  · split
    · next hb =>
      intro x hx
      obtain ⟨i, _, _, rfl⟩ := M.tab_mem _ _ _ x hx
      simp [M.corRow]
    · simp
end Go.Proofs.Ytbcmiblcmbpllaa.PbFnExactTouchesInCorridor
namespace Go.Proofs.Ytbcmiblcmbpllaa.Pure
theorem FnExactTouchesInCorridor : StFnExactTouchesInCorridor.Pure := PbFnExactTouchesInCorridor.law
end Go.Proofs.Ytbcmiblcmbpllaa.Pure
