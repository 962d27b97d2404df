/- Plain facts about whole numbers for this seat's proofs: wraps, products within bounds, greatest divisors, lowest terms, whole roots. No program in sight. -/
import Derived.RowKit
import Derived.OpenShut
import Derived.Lib.ItoaNum
import Derived.Test.YtfnjfjkkdhomcaaDoorWWords
namespace Go.Proofs.YtfnjfjkkdhomcaaDoor.M
open Go.RowKit Go.Proofs.YtfnjfjkkdhomcaaDoorW.PrintWords

theorem evp {α : Type} {c : Prop} [Decidable c] {A B : Nat → Option α} {r : α} (h : c) (H : Ev A r) : Ev (fun k => if c then A k else B k) r := by simpa only [if_pos h] using H
theorem evn {α : Type} {c : Prop} [Decidable c] {A B : Nat → Option α} {r : α} (h : ¬ c) (H : Ev B r) : Ev (fun k => if c then A k else B k) r := by simpa only [if_neg h] using H

theorem evr {α : Type} {A : Nat → Option α} {r r' : α} (h : r = r') (H : Ev A r') : Ev A r := h ▸ H

theorem wrap_id {n : Int} (h : -9223372036854775808 ≤ n) (h' : n ≤ 9223372036854775807) : wrap64 n = n := by unfold wrap64; omega
theorem wf_b {n : Int} (h : (Lit.int .i64 n).wf = true) : -9223372036854775808 ≤ n ∧ n ≤ 9223372036854775807 := bounds_i64 h

/-- A lamp l high, and a walker of it: high, at a place, with a speed. -/
def Wk (l h p s : Int) : Prop := (2 ≤ l ∧ l ≤ 200) ∧ (1 ≤ h ∧ h ≤ l - 1) ∧ (0 ≤ p ∧ p ≤ 500) ∧ -50 ≤ s ∧ s ≤ 50
instance (l h p s : Int) : Decidable (Wk l h p s) := by unfold Wk; exact inferInstance

/-- Two lamps so far apart, and somebody who is lower. -/
def Tw (w l r h : Int) : Prop := (1 ≤ w ∧ w ≤ 500) ∧ (2 ≤ l ∧ l ≤ 200) ∧ (2 ≤ r ∧ r ≤ 200) ∧ 1 ≤ h ∧ h ≤ l - 1 ∧ h ≤ r - 1
instance (w l r h : Int) : Decidable (Tw w l r h) := by unfold Tw; exact inferInstance
/-- Where a walker is at a minute. -/
def PlOk (l h p s m : Int) : Prop := Wk l h p s ∧ (0 ≤ m ∧ m ≤ 60) ∧ 0 ≤ p + s * m
instance (l h p s m : Int) : Decidable (PlOk l h p s m) := by unfold PlOk; exact inferInstance

/-! ### products -/
theorem mulb {a b : Int} (A B : Int) (ha : 0 ≤ a) (hA : a ≤ A) (hb : 0 ≤ b) (hB : b ≤ B) : 0 ≤ a * b ∧ a * b ≤ A * B :=
  ⟨Int.mul_nonneg ha hb, Int.mul_le_mul hA hB hb (Int.le_trans ha hA)⟩
theorem mulabs {a b : Int} (A B : Int) (ha : -A ≤ a) (hA : a ≤ A) (hb : -B ≤ b) (hB : b ≤ B) : -(A * B) ≤ a * b ∧ a * b ≤ A * B := by
  have h1 : a.natAbs ≤ A.toNat := by omega
  have h2 : b.natAbs ≤ B.toNat := by omega
  have h3 := Nat.mul_le_mul h1 h2
  rw [← Int.natAbs_mul] at h3
  have hA0 : ((A.toNat : Nat) : Int) = A := by omega
  have hB0 : ((B.toNat : Nat) : Int) = B := by omega
  have h4 : ((a * b).natAbs : Int) ≤ A * B := by
    rw [← hA0, ← hB0, ← Int.natCast_mul]
    exact Int.ofNat_le.2 h3
  omega

theorem pl_b {l h p s m : Int} (hw : Wk l h p s) (hm : 0 ≤ m ∧ m ≤ 60) : -3000 ≤ s * m ∧ s * m ≤ 3000 := by
  obtain ⟨_, _, _, h1, h2⟩ := hw
  have := mulabs 50 60 (a := s) (b := m) (by omega) (by omega) (by omega) (by omega)
  omega

/-! ### greatest divisors -/
def g (a b : Int) : Int := ((Int.gcd a b : Nat) : Int)
theorem g_zero (a : Int) : g a 0 = (a.natAbs : Int) := by simp [g]
theorem g_tmod (a b : Int) : g b (Int.tmod a b) = g a b := by
  unfold g Int.gcd
  rw [Int.natAbs_tmod, Nat.gcd_comm a.natAbs b.natAbs, Nat.gcd_rec b.natAbs a.natAbs, Nat.gcd_comm]
theorem g_nonneg (a b : Int) : 0 ≤ g a b := Int.natCast_nonneg _
theorem g_pos_r {a b : Int} (h : 0 < b) : 0 < g a b := by
  have : 0 < Int.gcd a b := Int.gcd_pos_of_ne_zero_right a (by omega)
  unfold g; omega
theorem g_dvd_l (a b : Int) : g a b ∣ a := Int.gcd_dvd_left a b
theorem g_dvd_r (a b : Int) : g a b ∣ b := Int.gcd_dvd_right a b
theorem g_neg (a b : Int) : g (-a) b = g a b := by unfold g; rw [Int.neg_gcd]
theorem g_abs (a b : Int) : g (a.natAbs : Int) b = g a b := by unfold g Int.gcd; simp

/-! ### lowest terms -/
def l1 (a b : Int) : Int := a / g a b
def l2 (a b : Int) : Int := b / g a b
theorem l1_mul (a b : Int) : l1 a b * g a b = a := Int.ediv_mul_cancel (g_dvd_l a b)
theorem l2_mul (a b : Int) : l2 a b * g a b = b := Int.ediv_mul_cancel (g_dvd_r a b)
theorem l1_neg (a b : Int) : l1 (-a) b = - l1 a b := by
  unfold l1; rw [g_neg]; exact Int.neg_ediv_of_dvd (g_dvd_l a b)
theorem l2_neg (a b : Int) : l2 (-a) b = l2 a b := by unfold l2; rw [g_neg]
theorem l2_pos {a b : Int} (h : 0 < b) : 0 < l2 a b := by
  have h1 := l2_mul a b
  have h2 := g_pos_r (a := a) h
  rcases Int.lt_trichotomy (l2 a b) 0 with h3 | h3 | h3
  · have := Int.mul_neg_of_neg_of_pos h3 h2; omega
  · rw [h3] at h1; omega
  · exact h3
theorem l_cross (a b : Int) : l1 a b * b = a * l2 a b := by
  have h1 := l1_mul a b
  have h2 := l2_mul a b
  calc l1 a b * b = l1 a b * (l2 a b * g a b) := by rw [h2]
    _ = (l1 a b * g a b) * l2 a b := by rw [Int.mul_assoc, Int.mul_comm (g a b) (l2 a b)]
    _ = a * l2 a b := by rw [h1]
theorem l2_le {a b : Int} (h : 0 < b) : l2 a b ≤ b := by
  have h1 := l2_mul a b
  have h2 := g_pos_r (a := a) h
  have h3 := l2_pos (a := a) h
  have := Int.mul_le_mul_of_nonneg_left (show (1 : Int) ≤ g a b by omega) (Int.le_of_lt h3)
  omega
theorem l1_abs {a b : Int} (h : 0 < b) : (l1 a b).natAbs ≤ a.natAbs := by
  have h1 := l1_mul a b
  have h2 := g_pos_r (a := a) h
  have h3 : (l1 a b).natAbs * (g a b).natAbs = a.natAbs := by rw [← Int.natAbs_mul, h1]
  have h4 : 1 ≤ (g a b).natAbs := by omega
  have := Nat.mul_le_mul_left (l1 a b).natAbs h4
  omega
theorem l1_nonneg {a b : Int} (ha : 0 ≤ a) (_h : 0 < b) : 0 ≤ l1 a b := Int.ediv_nonneg ha (g_nonneg a b)
theorem l1_pos {a b : Int} (ha : 0 < a) (h : 0 < b) : 0 < l1 a b := by
  have h1 := l1_mul a b
  have h2 := l1_nonneg (Int.le_of_lt ha) h
  rcases Int.lt_or_eq_of_le h2 with h3 | h3
  · exact h3
  · rw [← h3] at h1; omega
theorem l_coprime {a b : Int} (h : 0 < b) : Int.gcd (l1 a b) (l2 a b) = 1 := by
  have h0 : 0 < Int.gcd a b := Int.gcd_pos_of_ne_zero_right a (by omega)
  exact Int.gcd_ediv_gcd_ediv_gcd h0
theorem dvd_co {k m n : Int} (hc : Int.gcd k m = 1) (h : k ∣ m * n) : k ∣ n := by
  have h1 : k.natAbs ∣ m.natAbs * n.natAbs := by rw [← Int.natAbs_mul]; exact Int.natAbs_dvd_natAbs.2 h
  exact Int.natAbs_dvd_natAbs.1 (Nat.Coprime.dvd_of_dvd_mul_left (show Nat.gcd k.natAbs m.natAbs = 1 from hc) h1)
/-- What is in lowest terms, and as great, is the same. -/
theorem l_unique {a b p q : Int} (h : 0 < b) (hq : 0 < q) (hc : Int.gcd p q = 1) (he : p * b = a * q) : p = l1 a b ∧ q = l2 a b := by
  have hx := l_cross a b
  have hl := l2_pos (a := a) h
  have hco := l_coprime (a := a) h
  -- q ∣ l2 and l2 ∣ q
  have e1 : p * l2 a b = l1 a b * q := by
    have h1 := l1_mul a b
    have h2 := l2_mul a b
    have hg := g_pos_r (a := a) h
    have : (p * l2 a b) * g a b = (l1 a b * q) * g a b := by
      calc (p * l2 a b) * g a b = p * (l2 a b * g a b) := Int.mul_assoc ..
        _ = p * b := by rw [h2]
        _ = a * q := he
        _ = (l1 a b * g a b) * q := by rw [h1]
        _ = (l1 a b * q) * g a b := by rw [Int.mul_assoc, Int.mul_comm (g a b) q, Int.mul_assoc]
    exact Int.eq_of_mul_eq_mul_right (by omega) this
  have d1 : q ∣ l2 a b := by
    have : q ∣ p * l2 a b := ⟨l1 a b, by rw [e1, Int.mul_comm]⟩
    exact dvd_co (by rw [Int.gcd_comm]; exact hc) this
  have d2 : l2 a b ∣ q := by
    have : l2 a b ∣ l1 a b * q := ⟨p, by rw [← e1, Int.mul_comm]⟩
    exact dvd_co (by rw [Int.gcd_comm]; exact hco) this
  have e2 : q = l2 a b := by
    have a1 := Int.le_of_dvd hl d1
    have a2 := Int.le_of_dvd hq d2
    omega
  refine ⟨?_, e2⟩
  rw [← e2] at e1
  exact Int.eq_of_mul_eq_mul_right (by omega) e1
theorem l_scale {k a b : Int} (hk : 0 < k) (h : 0 < b) : l1 (k * a) (k * b) = l1 a b ∧ l2 (k * a) (k * b) = l2 a b := by
  have hb : 0 < k * b := Int.mul_pos hk h
  have hx := l_cross a b
  have := l_unique (a := k * a) (b := k * b) (p := l1 a b) (q := l2 a b) hb (l2_pos h) (l_coprime h) (by
    calc l1 a b * (k * b) = k * (l1 a b * b) := by rw [← Int.mul_assoc, Int.mul_comm (l1 a b) k, Int.mul_assoc]
      _ = k * (a * l2 a b) := by rw [hx]
      _ = k * a * l2 a b := by rw [Int.mul_assoc])
  exact ⟨this.1.symm, this.2.symm⟩
theorem l_zero {b : Int} (h : 0 < b) : l1 0 b = 0 ∧ l2 0 b = 1 := by
  have := l_unique (a := 0) (b := b) (p := 0) (q := 1) h (by omega) (by simp) (by simp)
  exact ⟨this.1.symm, this.2.symm⟩
theorem l_one (a : Int) : l1 a 1 = a ∧ l2 a 1 = 1 := by
  have := l_unique (a := a) (b := 1) (p := a) (q := 1) (by omega) (by omega) (by simp) (by simp)
  exact ⟨this.1.symm, this.2.symm⟩
/-- Exact division by the greatest divisor, as Go divides. -/
theorem tdiv_l1 {a b : Int} (_h : 0 < b) : Int.tdiv a (g a b) = l1 a b := Int.tdiv_eq_ediv_of_dvd (g_dvd_l a b)
theorem tdiv_l2 {a b : Int} (_h : 0 < b) : Int.tdiv b (g a b) = l2 a b := Int.tdiv_eq_ediv_of_dvd (g_dvd_r a b)

/-! ### whole roots -/
def rootN : Nat → Nat
  | 0 => 0
  | n + 1 => if (rootN n + 1) * (rootN n + 1) ≤ n + 1 then rootN n + 1 else rootN n
theorem rootN_spec : ∀ n : Nat, rootN n * rootN n ≤ n ∧ n < (rootN n + 1) * (rootN n + 1)
  | 0 => by simp [rootN]
  | n + 1 => by
    have ⟨h1, h2⟩ := rootN_spec n
    unfold rootN
    split
    · next h =>
      refine ⟨h, ?_⟩
      have e : (rootN n + 1 + 1) * (rootN n + 1 + 1) = (rootN n + 1) * (rootN n + 1) + 2 * (rootN n + 1) + 1 := by grind
      omega
    · next h => exact ⟨by omega, by omega⟩
/-- The greatest whole number whose square is not greater. -/
def root (n : Int) : Int := (rootN n.toNat : Int)
theorem root_nonneg (n : Int) : 0 ≤ root n := Int.natCast_nonneg _
theorem root_spec {n : Int} (h : 0 ≤ n) : root n * root n ≤ n ∧ n < (root n + 1) * (root n + 1) := by
  have ⟨h1, h2⟩ := rootN_spec n.toNat
  unfold root
  constructor
  · have : ((rootN n.toNat * rootN n.toNat : Nat) : Int) ≤ (n.toNat : Int) := Int.ofNat_le.2 h1
    rw [Int.natCast_mul] at this; omega
  · have : (n.toNat : Int) < (((rootN n.toNat + 1) * (rootN n.toNat + 1) : Nat) : Int) := Int.ofNat_lt.2 h2
    rw [Int.natCast_mul, Int.natCast_add] at this
    have e : ((1 : Nat) : Int) = 1 := rfl
    rw [e] at this; omega
theorem sq_lt {a b : Int} (ha : 0 ≤ a) (h : a < b) : a * a < b * b := by
  have h1 : a * a ≤ a * b := Int.mul_le_mul_of_nonneg_left (Int.le_of_lt h) ha
  have h2 : a * b < b * b := Int.mul_lt_mul_of_pos_right h (by omega)
  omega
theorem sq_le {a b : Int} (ha : 0 ≤ a) (h : a ≤ b) : a * a ≤ b * b := by
  rcases Int.lt_or_eq_of_le h with h | h
  · exact Int.le_of_lt (sq_lt ha h)
  · rw [h]; exact Int.le_refl _
theorem lt_of_sq {a b : Int} (hb : 0 ≤ b) (h : a * a < b * b) : a < b := by
  rcases Int.lt_or_le a b with h1 | h1
  · exact h1
  · have := sq_le hb h1; omega
theorem le_of_sq {a b : Int} (hb : 0 ≤ b) (h : a * a ≤ b * b) : a ≤ b := by
  rcases Int.lt_or_le b a with h1 | h1
  · have := sq_lt hb h1; omega
  · exact h1
theorem root_unique {n r : Int} (hr : 0 ≤ r) (h1 : r * r ≤ n) (h2 : n < (r + 1) * (r + 1)) : root n = r := by
  have h0 : 0 ≤ n := Int.le_trans (Int.mul_nonneg hr hr) h1
  have ⟨h3, h4⟩ := root_spec h0
  have hn := root_nonneg n
  have a1 : root n < r + 1 := lt_of_sq (by omega) (by omega)
  have a2 : r < root n + 1 := lt_of_sq (by omega) (by omega)
  omega

/-- The least whole number whose square is not less. -/
def croot (n : Int) : Int := if root n * root n = n then root n else root n + 1
theorem croot_unique {n c : Int} (hc : 0 ≤ c) (h1 : n ≤ c * c) (h0 : 0 ≤ n) (h2 : c = 0 ∨ (c - 1) * (c - 1) < n) : c = croot n ∧ (c * c = n ↔ root n * root n = n) := by
  have ⟨r1, r2⟩ := root_spec h0
  have hn := root_nonneg n
  unfold croot
  by_cases e : c * c = n
  · have : root n = c := root_unique hc (by omega) (by
      have : (c + 1) * (c + 1) = c * c + 2 * c + 1 := by grind
      omega)
    rw [this]; simp [e]
  · have hc0 : c ≠ 0 := by
      intro h; subst h; apply e; omega
    have h3 : (c - 1) * (c - 1) < n := by
      rcases h2 with h | h
      · exact absurd h hc0
      · exact h
    have : root n = c - 1 := root_unique (by omega) (by omega) (by
      have e1 : c - 1 + 1 = c := by omega
      rw [e1]; omega)
    rw [this]
    have ne : ¬ ((c - 1) * (c - 1) = n) := by omega
    rw [if_neg ne]
    exact ⟨by omega, ⟨fun h => absurd h e, fun h => absurd h ne⟩⟩
theorem croot_floor (n : Int) : (if root n * root n = n then croot n else croot n - 1) = root n := by
  unfold croot
  split
  · rfl
  · omega
theorem root_le {n B : Int} (h0 : 0 ≤ n) (hB : 0 ≤ B) (h : n < (B + 1) * (B + 1)) : root n ≤ B := by
  have ⟨r1, _⟩ := root_spec h0
  have : root n < B + 1 := lt_of_sq (by omega) (by omega)
  omega

/-! ### numbers one behind the other -/
def cnt : Int → Nat → List Int
  | _, 0 => []
  | a, n + 1 => a :: cnt (a + 1) n
theorem cnt_length : ∀ (a : Int) (n : Nat), (cnt a n).length = n
  | _, 0 => rfl
  | a, n + 1 => by simp [cnt, cnt_length (a + 1) n]
theorem cnt_snoc : ∀ (a : Int) (n : Nat), cnt a (n + 1) = cnt a n ++ [a + n]
  | a, 0 => by simp [cnt]
  | a, n + 1 => by
    rw [cnt, cnt_snoc (a + 1) n, cnt, List.cons_append]
    congr 2
    have : a + 1 + (n : Int) = a + ((n + 1 : Nat) : Int) := by omega
    rw [this]
theorem cnt_get : ∀ (a : Int) (n i : Nat), i < n → (cnt a n)[i]? = some (a + i)
  | a, 0, i, h => by omega
  | a, n + 1, 0, _ => by simp [cnt]
  | a, n + 1, i + 1, h => by
    rw [cnt, List.getElem?_cons_succ, cnt_get (a + 1) n i (by omega)]
    congr 1; omega

/-! ### all numbers of some kind from a first one on -/
def sel (P : Int → Bool) : Int → Nat → List Int
  | _, 0 => []
  | a, n + 1 => if P a then a :: sel P (a + 1) n else sel P (a + 1) n
theorem sel_length (P : Int → Bool) : ∀ (a : Int) (n : Nat), (sel P a n).length ≤ n
  | _, 0 => Nat.le_refl _
  | a, n + 1 => by
    have := sel_length P (a + 1) n
    unfold sel; split <;> simp <;> omega
theorem sel_mem (P : Int → Bool) : ∀ (a : Int) (n : Nat) (x : Int), x ∈ sel P a n ↔ (a ≤ x ∧ x < a + n ∧ P x = true)
  | a, 0, x => by simp [sel]; omega
  | a, n + 1, x => by
    have ih := sel_mem P (a + 1) n x
    unfold sel
    split
    · next h =>
      rw [List.mem_cons, ih]
      constructor
      · rintro (rfl | ⟨h1, h2, h3⟩)
        · exact ⟨by omega, by omega, h⟩
        · exact ⟨by omega, by omega, h3⟩
      · rintro ⟨h1, h2, h3⟩
        by_cases e : x = a
        · exact .inl e
        · exact .inr ⟨by omega, by omega, h3⟩
    · next h =>
      rw [ih]
      constructor
      · rintro ⟨h1, h2, h3⟩; exact ⟨by omega, by omega, h3⟩
      · rintro ⟨h1, h2, h3⟩
        have : x ≠ a := by intro e; subst e; exact h h3
        exact ⟨by omega, by omega, h3⟩
theorem sel_congr (P Q : Int → Bool) : ∀ (a : Int) (n : Nat), (∀ x, a ≤ x → x < a + n → P x = Q x) → sel P a n = sel Q a n
  | _, 0, _ => rfl
  | a, n + 1, h => by
    unfold sel
    rw [h a (by omega) (by omega), sel_congr P Q (a + 1) n (fun x h1 h2 => h x (by omega) (by omega))]

/-! ### the first number of some kind -/
def first (P : Int → Bool) : Int → Nat → Int
  | a, 0 => a
  | a, n + 1 => if P a then a else first P (a + 1) n
theorem first_spec (P : Int → Bool) : ∀ (n : Nat) (a x : Int), a ≤ x → x < a + n → P x = true → P (first P a n) = true ∧ a ≤ first P a n ∧ first P a n ≤ x ∧ ∀ y, a ≤ y → y < first P a n → P y = false
  | 0, a, x, h1, h2, _ => by omega
  | n + 1, a, x, h1, h2, h3 => by
    unfold first
    by_cases h : P a = true
    · rw [if_pos h]; exact ⟨h, Int.le_refl _, h1, fun y a1 a2 => by omega⟩
    · rw [if_neg h]
      have hx : x ≠ a := by intro e; subst e; exact h h3
      obtain ⟨i1, i2, i3, i4⟩ := first_spec P n (a + 1) x (by omega) (by omega) h3
      refine ⟨i1, by omega, i3, fun y a1 a2 => ?_⟩
      by_cases e : y = a
      · subst e; simpa using h
      · exact i4 y (by omega) a2

/-! ### a fraction of at least 0, whatever the signs -/
def rn (n d : Int) : Int := if d < 0 then -n else n
def rdn (d : Int) : Int := if d < 0 then -d else d
def rat (n d : Int) : Int × Int × Bool := if rdn d = 0 ∨ rn n d < 0 then (0, 0, false) else (l1 (rn n d) (rdn d), l2 (rn n d) (rdn d), true)
theorem rat_neg (n d : Int) : rat (-n) (-d) = rat n d := by
  unfold rat
  by_cases h0 : d = 0
  · subst h0; simp [rdn]
  · have e1 : rdn (-d) = rdn d := by unfold rdn; split <;> split <;> omega
    have e2 : rn (-n) (-d) = rn n d := by unfold rn; split <;> split <;> omega
    rw [e1, e2]
theorem rat_ok {n d : Int} (h : (rat n d).2.2 = true) : 0 < rdn d ∧ 0 ≤ rn n d ∧ rat n d = (l1 (rn n d) (rdn d), l2 (rn n d) (rdn d), true) := by
  unfold rat at h ⊢
  split at h
  · simp at h
  · next hc =>
    rw [if_neg hc]
    have : 0 ≤ rdn d := by unfold rdn; split <;> omega
    exact ⟨by omega, by omega, rfl⟩
theorem rat_cross {n d : Int} (h : (rat n d).2.2 = true) : (rat n d).1 * d = n * (rat n d).2.1 := by
  obtain ⟨h1, h2, h3⟩ := rat_ok h
  rw [h3]
  have := l_cross (rn n d) (rdn d)
  simp only
  by_cases hd : d < 0
  · have e1 : rn n d = -n := by simp [rn, hd]
    have e2 : rdn d = -d := by simp [rdn, hd]
    rw [e1, e2] at this ⊢
    rw [Int.mul_neg, Int.neg_mul] at this
    omega
  · have e1 : rn n d = n := by simp [rn, hd]
    have e2 : rdn d = d := by simp [rdn, hd]
    rw [e1, e2] at this ⊢
    exact this
theorem rat_b {n d : Int} (h : (rat n d).2.2 = true) : 0 ≤ (rat n d).1 ∧ (rat n d).1 ≤ n.natAbs ∧ 0 < (rat n d).2.1 ∧ (rat n d).2.1 ≤ d.natAbs := by
  obtain ⟨h1, h2, h3⟩ := rat_ok h
  rw [h3]
  have a1 := l1_nonneg h2 h1
  have a2 := l1_abs (a := rn n d) h1
  have a3 := l2_pos (a := rn n d) h1
  have a4 := l2_le (a := rn n d) h1
  have e1 : (rn n d).natAbs = n.natAbs := by unfold rn; split <;> omega
  have e2 : rdn d = (d.natAbs : Int) := by unfold rdn; split <;> omega
  simp only
  omega

/-- When two walkers meet, if both are at a place of at least 0 then. -/
def meet (p s p' s' n d : Int) : Int × Int × Bool :=
  if (rat n d).2.2 = true ∧ 0 ≤ p * (rat n d).2.1 + s * (rat n d).1 ∧ 0 ≤ p' * (rat n d).2.1 + s' * (rat n d).1 then ((rat n d).1, (rat n d).2.1, true) else (0, 0, false)
theorem meet_b {p s p' s' n d : Int} (h : (meet p s p' s' n d).2.2 = true) : 0 ≤ (meet p s p' s' n d).1 ∧ (meet p s p' s' n d).1 ≤ n.natAbs ∧ 0 < (meet p s p' s' n d).2.1 ∧ (meet p s p' s' n d).2.1 ≤ d.natAbs ∧
    0 ≤ p * (meet p s p' s' n d).2.1 + s * (meet p s p' s' n d).1 ∧ 0 ≤ p' * (meet p s p' s' n d).2.1 + s' * (meet p s p' s' n d).1 := by
  unfold meet at h ⊢
  split at h
  · next hc =>
    rw [if_pos hc]
    obtain ⟨c1, c2, c3⟩ := hc
    obtain ⟨r1, r2, r3, r4⟩ := rat_b c1
    exact ⟨r1, r2, r3, r4, c2, c3⟩
  · simp at h
/-- When, and where, two tips meet. -/
def tips (l h p s h' p' s' : Int) : Int × Int × Int × Int × Bool :=
  let r := meet p s p' s' ((l - h') * p - (l - h) * p') ((l - h) * s' - (l - h') * s)
  if r.2.2 = true then (r.1, r.2.1, l1 ((p * r.2.1 + s * r.1) * l) (r.2.1 * (l - h)), l2 ((p * r.2.1 + s * r.1) * l) (r.2.1 * (l - h)), true) else (0, 0, 0, 0, false)

/-! ### heights of slips, and drops -/
def slips (long by' : Int) : Int → Nat → List Int
  | _, 0 => []
  | f, n + 1 => if f ≤ long then root (long * long - f * f) :: slips long by' (f + by') n else []
theorem slips_length (long by' : Int) : ∀ (f : Int) (n : Nat), (slips long by' f n).length ≤ n
  | _, 0 => Nat.le_refl _
  | f, n + 1 => by
    have := slips_length long by' (f + by') n
    unfold slips; split <;> simp <;> omega
theorem slips_b {long by' : Int} (hl : 1 ≤ long ∧ long ≤ 1000) (hb : 0 ≤ by') : ∀ (n : Nat) (f : Int), 0 ≤ f → ∀ x ∈ slips long by' f n, 0 ≤ x ∧ x ≤ 1000
  | 0, _, _ => by simp [slips]
  | n + 1, f, hf => by
    intro x hx
    unfold slips at hx
    split at hx
    · next hc =>
      rw [List.mem_cons] at hx
      rcases hx with rfl | hx
      · have h1 := mulb 1000 1000 (a := long) (b := long) (by omega) (by omega) (by omega) (by omega)
        have h2 := Int.mul_nonneg hf hf
        have h3 := sq_le hf hc
        exact ⟨root_nonneg _, root_le (by omega) (by omega) (by omega)⟩
      · exact slips_b hl hb n (f + by') (by omega) x hx
    · simp at hx
def drops : List Int → List Int
  | a :: b :: t => (a - b) :: drops (b :: t)
  | _ => []
theorem drops_length : ∀ (l : List Int), (drops l).length = l.length - 1
  | [] => rfl
  | [_] => rfl
  | a :: b :: t => by simp [drops, drops_length (b :: t)]

/-! ### whole leans -/
def leans (w h : Int) : List (List Int) := (sel (fun d => decide ((w * h) % d = 0)) 1 (w * h).toNat).map fun d => [w + d, h + w * h / d]
/-- A lean whose ladder is whole, with that. -/
def whole (l : List Int) : Option (List Int) := match l with
  | [a, b] => if root (a * a + b * b) * root (a * a + b * b) = a * a + b * b then some [a, b, root (a * a + b * b)] else none
  | _ => none
def flat (l : List Int) : Bool := match l with
  | [a, b] => decide (a ≤ b)
  | _ => false

/-! ### rows of numbers -/
/-- What is written into rows, one number behind the other. -/
def mkSS : List (List Int) → Int → List (List Int)
  | [], _ => []
  | x :: t, a => cnt a x.length :: mkSS t (a + x.length)
def tot : List (List Int) → Int → Int
  | [], a => a
  | x :: t, a => tot t (a + x.length)
theorem tot_ge : ∀ (l : List (List Int)) (a : Int), a ≤ tot l a
  | [], a => Int.le_refl _
  | x :: t, a => by
    have := tot_ge t (a + x.length)
    unfold tot; omega
theorem tot_le : ∀ (l : List (List Int)) (a : Int), (∀ x ∈ l, x.length ≤ 1000) → tot l a ≤ a + 1000 * l.length
  | [], a, _ => by simp [tot]
  | x :: t, a, h => by
    have h1 := tot_le t (a + x.length) (fun y hy => h y (List.mem_cons_of_mem _ hy))
    have h2 := h x List.mem_cons_self
    unfold tot; rw [List.length_cons]; omega
theorem mkSS_length : ∀ (l : List (List Int)) (a : Int), (mkSS l a).length = l.length
  | [], _ => rfl
  | x :: t, a => by simp [mkSS, mkSS_length t]
def tab (f : Int → List Int) : Int → Nat → List (List Int)
  | _, 0 => []
  | a, n + 1 => f a :: tab f (a + 1) n
theorem tab_length (f : Int → List Int) : ∀ (a : Int) (n : Nat), (tab f a n).length = n
  | _, 0 => rfl
  | a, n + 1 => by simp [tab, tab_length f (a + 1) n]
theorem tab_mem (f : Int → List Int) : ∀ (n : Nat) (a : Int) (x : List Int), x ∈ tab f a n → ∃ i, a ≤ i ∧ i < a + n ∧ x = f i
  | 0, a, x, h => by simp [tab] at h
  | n + 1, a, x, h => by
    unfold tab at h
    rw [List.mem_cons] at h
    rcases h with rfl | h
    · exact ⟨a, by omega, by omega, rfl⟩
    · obtain ⟨i, h1, h2, h3⟩ := tab_mem f n (a + 1) x h
      exact ⟨i, by omega, by omega, h3⟩
theorem leans_mem {w h : Int} (hb : (1 ≤ w ∧ w ≤ 60) ∧ 1 ≤ h ∧ h ≤ 60) : ∀ x ∈ leans w h, ∃ a b, x = [a, b] ∧ (1 ≤ a ∧ a ≤ 3660) ∧ 1 ≤ b ∧ b ≤ 3660 := by
  intro x hx
  unfold leans at hx
  rw [List.mem_map] at hx
  obtain ⟨d, hd, rfl⟩ := hx
  rw [sel_mem] at hd
  have ha := mulb 60 60 (a := w) (b := h) (by omega) (by omega) (by omega) (by omega)
  have e1 : 0 ≤ w * h / d := Int.ediv_nonneg ha.1 (by omega)
  have e2 : w * h / d ≤ w * h := Int.ediv_le_self _ ha.1
  exact ⟨_, _, rfl, ⟨by omega, by omega⟩, by omega, by omega⟩
theorem leans_length {w h : Int} (hb : (1 ≤ w ∧ w ≤ 60) ∧ 1 ≤ h ∧ h ≤ 60) : (leans w h).length ≤ 3600 := by
  have ha := mulb 60 60 (a := w) (b := h) (by omega) (by omega) (by omega) (by omega)
  unfold leans
  rw [List.length_map]
  have := sel_length (fun d => decide ((w * h) % d = 0)) 1 (w * h).toNat
  omega

/-! ### ways in a corridor -/
def Cor (x y a b h t : Int) : Prop := (((-1000 ≤ x ∧ x ≤ 1000) ∧ 1 ≤ y ∧ y ≤ 1000) ∧ (-1000 ≤ a ∧ a ≤ 1000) ∧ 1 ≤ b ∧ b ≤ 1000) ∧ (2 ≤ h ∧ h ≤ 1000) ∧ y < h ∧ b < h ∧ 1 ≤ t ∧ t ≤ 50
instance (x y a b h t : Int) : Decidable (Cor x y a b h t) := by unfold Cor; infer_instance
def corFirst (y h : Int) (g : Bool) : Int := if g = true then y else h - y
def corRise (y b h t : Int) (g : Bool) : Int := corFirst y h g + (t - 1) * h + (if (decide (Int.tmod t 2 = 1) != g) = true then h - b else b)
def corRow (x a h f R i : Int) : List Int := [l1 (x * R + (a - x) * (f + i * h)) R, l2 (x * R + (a - x) * (f + i * h)) R]
theorem cor_b {x y a b h t : Int} {g : Bool} (hc : Cor x y a b h t) : (1 ≤ corFirst y h g ∧ corFirst y h g ≤ 1000) ∧ 0 < corRise y b h t g ∧ corRise y b h t g ≤ 1000000 := by
  obtain ⟨⟨⟨h1, h2⟩, h3, h4⟩, h5, h6, h7, h8⟩ := hc
  have b1 := mulb 49 1000 (a := t - 1) (b := h) (by omega) (by omega) (by omega) (by omega)
  have hf : 1 ≤ corFirst y h g ∧ corFirst y h g ≤ 1000 := by unfold corFirst; split <;> omega
  refine ⟨hf, ?_⟩
  unfold corRise
  split <;> omega

/-! ### fractions that are as great -/
theorem l_same {a b a' b' : Int} (hb : 0 < b) (hb' : 0 < b') (h : a * b' = a' * b) : l1 a b = l1 a' b' ∧ l2 a b = l2 a' b' := by
  have hx := l_cross a b
  have hp := l2_pos (a := a) hb
  refine l_unique hb' hp (l_coprime hb) ?_
  have : (l1 a b * b') * b = (a' * l2 a b) * b := by
    calc (l1 a b * b') * b = (l1 a b * b) * b' := by rw [Int.mul_assoc, Int.mul_comm b' b, ← Int.mul_assoc]
      _ = (a * l2 a b) * b' := by rw [hx]
      _ = (a * b') * l2 a b := by rw [Int.mul_assoc, Int.mul_comm (l2 a b) b', ← Int.mul_assoc]
      _ = (a' * b) * l2 a b := by rw [h]
      _ = (a' * l2 a b) * b := by rw [Int.mul_assoc, Int.mul_comm b (l2 a b), ← Int.mul_assoc]
  exact Int.eq_of_mul_eq_mul_right (by omega) this
theorem rat_co {n d : Int} (h : (rat n d).2.2 = true) : Int.gcd (rat n d).1 (rat n d).2.1 = 1 := by
  obtain ⟨h1, h2, h3⟩ := rat_ok h
  rw [h3]
  exact l_coprime h1
theorem rat_scale {k : Int} (hk : 0 < k) (n d : Int) : rat (k * n) (k * d) = rat n d := by
  have e1 : rn (k * n) (k * d) = k * rn n d := by
    unfold rn
    by_cases hd : d < 0
    · rw [if_pos hd, if_pos (Int.mul_neg_of_pos_of_neg hk hd), Int.mul_neg]
    · rw [if_neg hd, if_neg (by have := Int.mul_nonneg (Int.le_of_lt hk) (show 0 ≤ d by omega); omega)]
  have e2 : rdn (k * d) = k * rdn d := by
    unfold rdn
    by_cases hd : d < 0
    · rw [if_pos hd, if_pos (Int.mul_neg_of_pos_of_neg hk hd), Int.mul_neg]
    · rw [if_neg hd, if_neg (by have := Int.mul_nonneg (Int.le_of_lt hk) (show 0 ≤ d by omega); omega)]
  have hd0 : 0 ≤ rdn d := by unfold rdn; split <;> omega
  unfold rat
  rw [e1, e2]
  by_cases h0 : rdn d = 0
  · rw [h0]; simp
  · have h0' : ¬ k * rdn d = 0 := by
      intro h
      rcases Int.mul_eq_zero.1 h with h | h <;> omega
    by_cases hn : rn n d < 0
    · rw [if_pos (.inr (Int.mul_neg_of_pos_of_neg hk hn)), if_pos (.inr hn)]
    · have hn' : ¬ k * rn n d < 0 := by have := Int.mul_nonneg (Int.le_of_lt hk) (show 0 ≤ rn n d by omega); omega
      rw [if_neg (fun h => h.elim h0' hn'), if_neg (fun h => h.elim h0 hn)]
      have := l_scale (a := rn n d) hk (show 0 < rdn d by omega)
      rw [this.1, this.2]
theorem meet_co {p s p' s' n d : Int} (h : (meet p s p' s' n d).2.2 = true) : Int.gcd (meet p s p' s' n d).1 (meet p s p' s' n d).2.1 = 1 ∧ (meet p s p' s' n d).1 * d = n * (meet p s p' s' n d).2.1 := by
  unfold meet at h ⊢
  split at h
  · next hc =>
    rw [if_pos hc]
    exact ⟨rat_co hc.1, rat_cross hc.1⟩
  · simp at h
theorem meet_flip (p s p' s' n d : Int) : meet p' s' p s (-n) (-d) = meet p s p' s' n d := by
  unfold meet
  rw [rat_neg]
  by_cases h : (rat n d).2.2 = true ∧ 0 ≤ p * (rat n d).2.1 + s * (rat n d).1 ∧ 0 ≤ p' * (rat n d).2.1 + s' * (rat n d).1
  · rw [if_pos h, if_pos ⟨h.1, h.2.2, h.2.1⟩]
  · rw [if_neg h, if_neg (fun k => h ⟨k.1, k.2.2, k.2.1⟩)]
/-- What is told of two tips that meet. -/
theorem tips_facts {l h p s h' p' s' : Int} (hw : Wk l h p s) (hw' : Wk l h' p' s') (ok : (tips l h p s h' p' s').2.2.2.2 = true) :
    ∃ n d x y, tips l h p s h' p' s' = (n, d, x, y, true) ∧ tips l h' p' s' h p s = (n, d, x, y, true) ∧ (0 ≤ n ∧ n ≤ 1000000) ∧ (0 < d ∧ d ≤ 100000) ∧ Int.gcd n d = 1 ∧ (0 ≤ x ∧ x ≤ 100000000000) ∧ (0 < y ∧ y ≤ 100000000) ∧ Int.gcd x y = 1 ∧
    (0 ≤ p * d + s * n ∧ p * d + s * n ≤ 100000000) ∧ (0 ≤ p' * d + s' * n ∧ p' * d + s' * n ≤ 100000000) ∧ (p * d + s * n) * l * y = x * d * (l - h) ∧ (p' * d + s' * n) * l * y = x * d * (l - h') := by
  have eflip : tips l h' p' s' h p s = (let r := meet p s p' s' ((l - h') * p - (l - h) * p') ((l - h) * s' - (l - h') * s); if r.2.2 = true then (r.1, r.2.1, l1 ((p' * r.2.1 + s' * r.1) * l) (r.2.1 * (l - h')), l2 ((p' * r.2.1 + s' * r.1) * l) (r.2.1 * (l - h')), true) else (0, 0, 0, 0, false)) := by
    unfold tips
    have e1 : (l - h) * p' - (l - h') * p = -((l - h') * p - (l - h) * p') := by omega
    have e2 : (l - h') * s - (l - h) * s' = -((l - h) * s' - (l - h') * s) := by omega
    rw [e1, e2, meet_flip]
  unfold tips at ok
  have hm : (meet p s p' s' ((l - h') * p - (l - h) * p') ((l - h) * s' - (l - h') * s)).2.2 = true := by
    simp only at ok
    split at ok
    · assumption
    · simp at ok
  have eT : tips l h p s h' p' s' = (let r := meet p s p' s' ((l - h') * p - (l - h) * p') ((l - h) * s' - (l - h') * s); if r.2.2 = true then (r.1, r.2.1, l1 ((p * r.2.1 + s * r.1) * l) (r.2.1 * (l - h)), l2 ((p * r.2.1 + s * r.1) * l) (r.2.1 * (l - h)), true) else (0, 0, 0, 0, false)) := rfl
  obtain ⟨m1, m2, m3, m4, m5, m6⟩ := meet_b hm
  obtain ⟨c1, c2⟩ := meet_co hm
  simp only [if_pos hm] at eflip eT
  generalize (meet p s p' s' ((l - h') * p - (l - h) * p') ((l - h) * s' - (l - h') * s)).1 = n at *
  generalize (meet p s p' s' ((l - h') * p - (l - h) * p') ((l - h) * s' - (l - h') * s)).2.1 = d at *
  obtain ⟨⟨a1, a2⟩, ⟨b1, b2⟩, ⟨e1, e2⟩, f1, f2⟩ := hw
  obtain ⟨_, ⟨b1', b2'⟩, ⟨e1', e2'⟩, f1', f2'⟩ := hw'
  have q1 := mulb 200 500 (a := l - h') (b := p) (by omega) (by omega) (by omega) (by omega)
  have q2 := mulb 200 500 (a := l - h) (b := p') (by omega) (by omega) (by omega) (by omega)
  have q3 := mulabs 200 50 (a := l - h) (b := s') (by omega) (by omega) (by omega) (by omega)
  have q4 := mulabs 200 50 (a := l - h') (b := s) (by omega) (by omega) (by omega) (by omega)
  have hn : n ≤ 200000 := by omega
  have hd : d ≤ 20000 := by omega
  have q5 := mulb 500 20000 (a := p) (b := d) (by omega) (by omega) (by omega) (by omega)
  have q6 := mulb 500 20000 (a := p') (b := d) (by omega) (by omega) (by omega) (by omega)
  have q7 := mulabs 50 200000 (a := s) (b := n) (by omega) (by omega) (by omega) (by omega)
  have q8 := mulabs 50 200000 (a := s') (b := n) (by omega) (by omega) (by omega) (by omega)
  -- (l - h) q = (l - h') P
  have key : (l - h) * (p' * d + s' * n) = (l - h') * (p * d + s * n) := by
    have := c2
    rw [Int.mul_sub n, Int.sub_mul ((l - h') * p)] at this
    have w1 : n * ((l - h) * s') = (l - h) * (s' * n) := by rw [Int.mul_comm, Int.mul_assoc]
    have w2 : n * ((l - h') * s) = (l - h') * (s * n) := by rw [Int.mul_comm, Int.mul_assoc]
    have w3 : (l - h') * p * d = (l - h') * (p * d) := Int.mul_assoc ..
    have w4 : (l - h) * p' * d = (l - h) * (p' * d) := Int.mul_assoc ..
    rw [w1, w2, w3, w4] at this
    rw [Int.mul_add, Int.mul_add]
    omega
  have hden : 0 < d * (l - h) := Int.mul_pos m3 (by omega)
  have hden' : 0 < d * (l - h') := Int.mul_pos m3 (by omega)
  have q9 := mulb 20000 200 (a := d) (b := l - h) (by omega) (by omega) (by omega) (by omega)
  have q10 := mulb 100000000 200 (a := p * d + s * n) (b := l) (by omega) (by omega) (by omega) (by omega)
  have cr : ((p' * d + s' * n) * l) * (d * (l - h)) = ((p * d + s * n) * l) * (d * (l - h')) := by
    calc ((p' * d + s' * n) * l) * (d * (l - h)) = ((l - h) * (p' * d + s' * n)) * (l * d) := by
          rw [Int.mul_comm (l - h), Int.mul_assoc, Int.mul_assoc, ← Int.mul_assoc l d, Int.mul_comm (l * d) (l - h)]
      _ = ((l - h') * (p * d + s * n)) * (l * d) := by rw [key]
      _ = ((p * d + s * n) * l) * (d * (l - h')) := by
          rw [Int.mul_comm (l - h'), Int.mul_assoc, Int.mul_assoc, ← Int.mul_assoc l d, Int.mul_comm (l * d) (l - h')]
  have hs := l_same hden' hden cr
  have x1 := l_cross ((p * d + s * n) * l) (d * (l - h))
  have x2 := l1_nonneg q10.1 hden
  have x3 := l1_abs (a := (p * d + s * n) * l) hden
  have x4 := l2_pos (a := (p * d + s * n) * l) hden
  have x5 := l2_le (a := (p * d + s * n) * l) hden
  have x6 := l_coprime (a := (p * d + s * n) * l) hden
  have x7 := l_cross ((p' * d + s' * n) * l) (d * (l - h'))
  rw [hs.1, hs.2] at x7 eflip
  refine ⟨n, d, _, _, eT, eflip, ⟨m1, by omega⟩, ⟨m3, by omega⟩, c1, ⟨x2, by omega⟩, ⟨x4, by omega⟩, x6, ⟨m5, by omega⟩, ⟨m6, by omega⟩, ?_, ?_⟩
  · rw [← x1, Int.mul_assoc]
  · rw [← x7, Int.mul_assoc]
theorem tips_flat {l h p s p' s' : Int} (hw : Wk l h p s) (_hw' : Wk l h p' s') : (tips l h p s h p' s').1 = (meet p s p' s' (p - p') (s' - s)).1 ∧ (tips l h p s h p' s').2.1 = (meet p s p' s' (p - p') (s' - s)).2.1 ∧ (tips l h p s h p' s').2.2.2.2 = (meet p s p' s' (p - p') (s' - s)).2.2 := by
  have e1 : (l - h) * p - (l - h) * p' = (l - h) * (p - p') := (Int.mul_sub ..).symm
  have e2 : (l - h) * s' - (l - h) * s = (l - h) * (s' - s) := (Int.mul_sub ..).symm
  have em : meet p s p' s' ((l - h) * (p - p')) ((l - h) * (s' - s)) = meet p s p' s' (p - p') (s' - s) := by
    unfold meet
    rw [rat_scale (by have := hw.2.1; omega)]
  unfold tips
  rw [e1, e2, em]
  by_cases hm : (meet p s p' s' (p - p') (s' - s)).2.2 = true
  · simp [hm]
  · have : meet p s p' s' (p - p') (s' - s) = (0, 0, false) := by
      unfold meet at hm ⊢
      split
      · next hc => rw [if_pos hc] at hm; exact absurd rfl hm
      · rfl
    rw [this]; simp
theorem meet_facts {l h p s h' p' s' : Int} (hw : Wk l h p s) (hw' : Wk l h' p' s') (ok : (meet p s p' s' (p - p') (s' - s)).2.2 = true) :
    ∃ n d, meet p s p' s' (p - p') (s' - s) = (n, d, true) ∧ (0 ≤ n ∧ n ≤ 1000) ∧ (0 < d ∧ d ≤ 1000) ∧ Int.gcd n d = 1 ∧ p * d + s * n = p' * d + s' * n ∧ (0 ≤ p * d + s * n ∧ p * d + s * n ≤ 100000000) := by
  obtain ⟨m1, m2, m3, m4, m5, m6⟩ := meet_b ok
  obtain ⟨c1, c2⟩ := meet_co ok
  obtain ⟨⟨a1, a2⟩, ⟨b1, b2⟩, ⟨e1, e2⟩, f1, f2⟩ := hw
  obtain ⟨_, ⟨b1', b2'⟩, ⟨e1', e2'⟩, f1', f2'⟩ := hw'
  have e : meet p s p' s' (p - p') (s' - s) = ((meet p s p' s' (p - p') (s' - s)).1, (meet p s p' s' (p - p') (s' - s)).2.1, true) := by rw [← ok]
  generalize (meet p s p' s' (p - p') (s' - s)).1 = n at *
  generalize (meet p s p' s' (p - p') (s' - s)).2.1 = d at *
  have q5 := mulb 500 1000 (a := p) (b := d) (by omega) (by omega) (by omega) (by omega)
  have q7 := mulabs 50 1000 (a := s) (b := n) (by omega) (by omega) (by omega) (by omega)
  refine ⟨n, d, e, ⟨m1, by omega⟩, ⟨m3, by omega⟩, c1, ?_, m5, by omega⟩
  rw [Int.mul_sub, Int.sub_mul, Int.mul_comm n, Int.mul_comm n] at c2
  omega

/-! ### numerals -/
/-- A number in decimal. -/
def tx (n : Int) : ByteArray := ⟨(Lib.itoa n).toArray⟩
theorem nd_le : ∀ k u, u < 10 ^ (k + 1) → Lib.nDigits u ≤ k + 1
  | 0, u, h => by rw [Lib.nDigits_small (by simpa using h)]; omega
  | k + 1, u, h => by
    by_cases h2 : u < 10
    · rw [Lib.nDigits_small h2]; omega
    · rw [Lib.nDigits_big h2]
      have := nd_le k (u / 10) (by rw [Nat.pow_succ] at h; omega)
      omega
theorem tx_size (n : Int) (h0 : -9223372036854775808 ≤ n) (h1 : n ≤ 9223372036854775807) : (tx n).size ≤ 21 := by
  unfold tx Lib.itoa
  have e : ∀ l : List UInt8, (⟨l.toArray⟩ : ByteArray).size = l.length := fun l => by simp [ByteArray.size]
  rw [e]
  split
  · have := nd_le 19 n.natAbs (by omega)
    rw [List.length_cons, Lib.decDigits_length]; omega
  · have := nd_le 19 n.toNat (by omega)
    rw [Lib.decDigits_length]; omega
theorem ba_append (a b : List UInt8) : (⟨a.toArray⟩ : ByteArray) ++ ⟨b.toArray⟩ = ⟨(a ++ b).toArray⟩ := by
  apply ByteArray.ext
  rw [ByteArray.data_append]
  simp
theorem tx_small {n : Int} (h0 : 0 ≤ n) (h1 : n < 10) : tx n = strOfNums [(wrap64 (48 + n)) % 256] := by
  obtain ⟨u, rfl⟩ : ∃ u : Nat, n = u := ⟨n.toNat, by omega⟩
  have e : (wrap64 (48 + (u : Int)) % 256).toNat = 48 + u := by rw [wrap_id (by omega) (by omega)]; omega
  unfold tx Lib.itoa strOfNums
  rw [if_neg (by omega), Int.toNat_natCast, Lib.decDigits_one (by omega)]
  simp [e]
theorem tx_big {n : Int} (h0 : 10 ≤ n) (h1 : n ≤ 9223372036854775807) : tx n = tx (n / 10) ++ strOfNums [(wrap64 (48 + (Int.tmod n 10))) % 256] := by
  obtain ⟨u, rfl⟩ : ∃ u : Nat, n = u := ⟨n.toNat, by omega⟩
  have ed : ((u : Int) / 10).toNat = u / 10 := by omega
  have et : Int.tmod (u : Int) 10 = ((u % 10 : Nat) : Int) := by rw [Int.tmod_eq_emod_of_nonneg (by omega)]; omega
  have e : (wrap64 (48 + ((u % 10 : Nat) : Int)) % 256).toNat = 48 + u % 10 := by rw [wrap_id (by omega) (by omega)]; omega
  unfold tx Lib.itoa strOfNums
  rw [if_neg (by omega), if_neg (by omega), Int.toNat_natCast, ed, et, Lib.decDigits, dif_neg (by omega), ba_append]
  rw [List.map_cons, List.map_nil, e]
theorem tx_neg {n : Int} (h : n < 0) : tx n = (⟨#[45]⟩ : ByteArray) ++ tx (-n) := by
  have e : (-n).toNat = n.natAbs := by omega
  unfold tx Lib.itoa
  rw [if_pos h, if_neg (by omega), e]
  exact (ba_append [45] _).symm
theorem ba_assoc (a b c : ByteArray) : a ++ b ++ c = a ++ (b ++ c) := by
  apply ByteArray.ext
  simp only [ByteArray.data_append, Array.append_assoc]
theorem ba_size1 (b : UInt8) : (⟨#[b]⟩ : ByteArray).size = 1 := rfl
end Go.Proofs.YtfnjfjkkdhomcaaDoor.M
