/- Plain facts about whole numbers for this seat's proofs: wraps, products within bounds, greatest divisors, lowest terms, whole roots. No program in sight. -/
import Derived.RowKit
import Derived.OpenShut
import Derived.Lib.ItoaNum
import Derived.Test.YthjkpjncamahhaaWWords
namespace Go.Proofs.Ythjkpjncamahhaa.M
open Go.RowKit Go.Proofs.YthjkpjncamahhaaW.PrintWords

theorem evp {α : Type} {c : Prop} [Decidable c] {A B : Nat → Option α} {r : α} (h : c) (H : Ev A r) : Ev (fun k => if c then A k else B k) r := by simpa only [if_pos h] using H
theorem evn {α : Type} {c : Prop} [Decidable c] {A B : Nat → Option α} {r : α} (h : ¬ c) (H : Ev B r) : Ev (fun k => if c then A k else B k) r := by simpa only [if_neg h] using H

theorem wrap_id {n : Int} (h : -9223372036854775808 ≤ n) (h' : n ≤ 9223372036854775807) : wrap64 n = n := by unfold wrap64; omega
/-- A lamp l high, and a walker of it: high, at a place, with a speed. -/
def Wk (l h p s : Int) : Prop := (2 ≤ l ∧ l ≤ 200) ∧ (1 ≤ h ∧ h ≤ l - 1) ∧ (0 ≤ p ∧ p ≤ 500) ∧ -50 ≤ s ∧ s ≤ 50
instance (l h p s : Int) : Decidable (Wk l h p s) := by unfold Wk; exact inferInstance

/-- Two lamps so far apart, and somebody who is lower. -/
def Tw (w l r h : Int) : Prop := (1 ≤ w ∧ w ≤ 500) ∧ (2 ≤ l ∧ l ≤ 200) ∧ (2 ≤ r ∧ r ≤ 200) ∧ 1 ≤ h ∧ h ≤ l - 1 ∧ h ≤ r - 1
instance (w l r h : Int) : Decidable (Tw w l r h) := by unfold Tw; exact inferInstance
/-- Where a walker is at a minute. -/
def PlOk (l h p s m : Int) : Prop := Wk l h p s ∧ (0 ≤ m ∧ m ≤ 60) ∧ 0 ≤ p + s * m
instance (l h p s m : Int) : Decidable (PlOk l h p s m) := by unfold PlOk; exact inferInstance

/-! ### products -/
theorem mulb {a b : Int} (A B : Int) (ha : 0 ≤ a) (hA : a ≤ A) (hb : 0 ≤ b) (hB : b ≤ B) : 0 ≤ a * b ∧ a * b ≤ A * B :=
  ⟨Int.mul_nonneg ha hb, Int.mul_le_mul hA hB hb (Int.le_trans ha hA)⟩
theorem mulabs {a b : Int} (A B : Int) (ha : -A ≤ a) (hA : a ≤ A) (hb : -B ≤ b) (hB : b ≤ B) : -(A * B) ≤ a * b ∧ a * b ≤ A * B := by
  have h1 : a.natAbs ≤ A.toNat := by omega
  have h2 : b.natAbs ≤ B.toNat := by omega
  have h3 := Nat.mul_le_mul h1 h2
  rw [← Int.natAbs_mul] at h3
  have hA0 : ((A.toNat : Nat) : Int) = A := by omega
  have hB0 : ((B.toNat : Nat) : Int) = B := by omega
  have h4 : ((a * b).natAbs : Int) ≤ A * B := by
    rw [← hA0, ← hB0, ← Int.natCast_mul]
    exact Int.ofNat_le.2 h3
  omega

/-! ### greatest divisors -/
def g (a b : Int) : Int := ((Int.gcd a b : Nat) : Int)
theorem g_zero (a : Int) : g a 0 = (a.natAbs : Int) := by simp [g]
theorem g_tmod (a b : Int) : g b (Int.tmod a b) = g a b := by
  unfold g Int.gcd
  rw [Int.natAbs_tmod, Nat.gcd_comm a.natAbs b.natAbs, Nat.gcd_rec b.natAbs a.natAbs, Nat.gcd_comm]
theorem g_nonneg (a b : Int) : 0 ≤ g a b := Int.natCast_nonneg _
theorem g_pos_r {a b : Int} (h : 0 < b) : 0 < g a b := by
  have : 0 < Int.gcd a b := Int.gcd_pos_of_ne_zero_right a (by omega)
  unfold g; omega
theorem g_dvd_l (a b : Int) : g a b ∣ a := Int.gcd_dvd_left a b
theorem g_dvd_r (a b : Int) : g a b ∣ b := Int.gcd_dvd_right a b
theorem g_neg (a b : Int) : g (-a) b = g a b := by unfold g; rw [Int.neg_gcd]
/-! ### lowest terms -/
def l1 (a b : Int) : Int := a / g a b
def l2 (a b : Int) : Int := b / g a b
theorem l1_mul (a b : Int) : l1 a b * g a b = a := Int.ediv_mul_cancel (g_dvd_l a b)
theorem l2_mul (a b : Int) : l2 a b * g a b = b := Int.ediv_mul_cancel (g_dvd_r a b)
theorem l1_neg (a b : Int) : l1 (-a) b = - l1 a b := by
  unfold l1; rw [g_neg]; exact Int.neg_ediv_of_dvd (g_dvd_l a b)
theorem l2_neg (a b : Int) : l2 (-a) b = l2 a b := by unfold l2; rw [g_neg]
theorem l2_pos {a b : Int} (h : 0 < b) : 0 < l2 a b := by
  have h1 := l2_mul a b
  have h2 := g_pos_r (a := a) h
  rcases Int.lt_trichotomy (l2 a b) 0 with h3 | h3 | h3
  · have := Int.mul_neg_of_neg_of_pos h3 h2; omega
  · rw [h3] at h1; omega
  · exact h3
theorem l_cross (a b : Int) : l1 a b * b = a * l2 a b := by
  have h1 := l1_mul a b
  have h2 := l2_mul a b
  calc l1 a b * b = l1 a b * (l2 a b * g a b) := by rw [h2]
    _ = (l1 a b * g a b) * l2 a b := by rw [Int.mul_assoc, Int.mul_comm (g a b) (l2 a b)]
    _ = a * l2 a b := by rw [h1]
theorem l2_le {a b : Int} (h : 0 < b) : l2 a b ≤ b := by
  have h1 := l2_mul a b
  have h2 := g_pos_r (a := a) h
  have h3 := l2_pos (a := a) h
  have := Int.mul_le_mul_of_nonneg_left (show (1 : Int) ≤ g a b by omega) (Int.le_of_lt h3)
  omega
theorem l1_abs {a b : Int} (h : 0 < b) : (l1 a b).natAbs ≤ a.natAbs := by
  have h1 := l1_mul a b
  have h2 := g_pos_r (a := a) h
  have h3 : (l1 a b).natAbs * (g a b).natAbs = a.natAbs := by rw [← Int.natAbs_mul, h1]
  have h4 : 1 ≤ (g a b).natAbs := by omega
  have := Nat.mul_le_mul_left (l1 a b).natAbs h4
  omega
theorem l1_nonneg {a b : Int} (ha : 0 ≤ a) (_h : 0 < b) : 0 ≤ l1 a b := Int.ediv_nonneg ha (g_nonneg a b)
theorem l1_pos {a b : Int} (ha : 0 < a) (h : 0 < b) : 0 < l1 a b := by
  have h1 := l1_mul a b
  have h2 := l1_nonneg (Int.le_of_lt ha) h
  rcases Int.lt_or_eq_of_le h2 with h3 | h3
  · exact h3
  · rw [← h3] at h1; omega
theorem l_coprime {a b : Int} (h : 0 < b) : Int.gcd (l1 a b) (l2 a b) = 1 := by
  have h0 : 0 < Int.gcd a b := Int.gcd_pos_of_ne_zero_right a (by omega)
  exact Int.gcd_ediv_gcd_ediv_gcd h0
theorem dvd_co {k m n : Int} (hc : Int.gcd k m = 1) (h : k ∣ m * n) : k ∣ n := by
  have h1 : k.natAbs ∣ m.natAbs * n.natAbs := by rw [← Int.natAbs_mul]; exact Int.natAbs_dvd_natAbs.2 h
  exact Int.natAbs_dvd_natAbs.1 (Nat.Coprime.dvd_of_dvd_mul_left (show Nat.gcd k.natAbs m.natAbs = 1 from hc) h1)
/-- What is in lowest terms, and as great, is the same. -/
theorem l_unique {a b p q : Int} (h : 0 < b) (hq : 0 < q) (hc : Int.gcd p q = 1) (he : p * b = a * q) : p = l1 a b ∧ q = l2 a b := by
  have hx := l_cross a b
  have hl := l2_pos (a := a) h
  have hco := l_coprime (a := a) h
  -- q ∣ l2 and l2 ∣ q
  have e1 : p * l2 a b = l1 a b * q := by
    have h1 := l1_mul a b
    have h2 := l2_mul a b
    have hg := g_pos_r (a := a) h
    have : (p * l2 a b) * g a b = (l1 a b * q) * g a b := by
      calc (p * l2 a b) * g a b = p * (l2 a b * g a b) := Int.mul_assoc ..
        _ = p * b := by rw [h2]
        _ = a * q := he
        _ = (l1 a b * g a b) * q := by rw [h1]
        _ = (l1 a b * q) * g a b := by rw [Int.mul_assoc, Int.mul_comm (g a b) q, Int.mul_assoc]
    exact Int.eq_of_mul_eq_mul_right (by omega) this
  have d1 : q ∣ l2 a b := by
    have : q ∣ p * l2 a b := ⟨l1 a b, by rw [e1, Int.mul_comm]⟩
    exact dvd_co (by rw [Int.gcd_comm]; exact hc) this
  have d2 : l2 a b ∣ q := by
    have : l2 a b ∣ l1 a b * q := ⟨p, by rw [← e1, Int.mul_comm]⟩
    exact dvd_co (by rw [Int.gcd_comm]; exact hco) this
  have e2 : q = l2 a b := by
    have a1 := Int.le_of_dvd hl d1
    have a2 := Int.le_of_dvd hq d2
    omega
  refine ⟨?_, e2⟩
  rw [← e2] at e1
  exact Int.eq_of_mul_eq_mul_right (by omega) e1
theorem l_scale {k a b : Int} (hk : 0 < k) (h : 0 < b) : l1 (k * a) (k * b) = l1 a b ∧ l2 (k * a) (k * b) = l2 a b := by
  have hb : 0 < k * b := Int.mul_pos hk h
  have hx := l_cross a b
  have := l_unique (a := k * a) (b := k * b) (p := l1 a b) (q := l2 a b) hb (l2_pos h) (l_coprime h) (by
    calc l1 a b * (k * b) = k * (l1 a b * b) := by rw [← Int.mul_assoc, Int.mul_comm (l1 a b) k, Int.mul_assoc]
      _ = k * (a * l2 a b) := by rw [hx]
      _ = k * a * l2 a b := by rw [Int.mul_assoc])
  exact ⟨this.1.symm, this.2.symm⟩
theorem l_zero {b : Int} (h : 0 < b) : l1 0 b = 0 ∧ l2 0 b = 1 := by
  have := l_unique (a := 0) (b := b) (p := 0) (q := 1) h (by omega) (by simp) (by simp)
  exact ⟨this.1.symm, this.2.symm⟩
theorem l_one (a : Int) : l1 a 1 = a ∧ l2 a 1 = 1 := by
  have := l_unique (a := a) (b := 1) (p := a) (q := 1) (by omega) (by omega) (by simp) (by simp)
  exact ⟨this.1.symm, this.2.symm⟩
/-- Exact division by the greatest divisor, as Go divides. -/
theorem tdiv_l1 {a b : Int} (_h : 0 < b) : Int.tdiv a (g a b) = l1 a b := Int.tdiv_eq_ediv_of_dvd (g_dvd_l a b)
theorem tdiv_l2 {a b : Int} (_h : 0 < b) : Int.tdiv b (g a b) = l2 a b := Int.tdiv_eq_ediv_of_dvd (g_dvd_r a b)

/-! ### whole roots -/
def rootN : Nat → Nat
  | 0 => 0
  | n + 1 => if (rootN n + 1) * (rootN n + 1) ≤ n + 1 then rootN n + 1 else rootN n
/-- The greatest whole number whose square is not greater. -/
def root (n : Int) : Int := (rootN n.toNat : Int)
/-! ### numbers one behind the other -/
/-! ### all numbers of some kind from a first one on -/
def sel (P : Int → Bool) : Int → Nat → List Int
  | _, 0 => []
  | a, n + 1 => if P a then a :: sel P (a + 1) n else sel P (a + 1) n
/-! ### the first number of some kind -/
def first (P : Int → Bool) : Int → Nat → Int
  | a, 0 => a
  | a, n + 1 => if P a then a else first P (a + 1) n
/-! ### a fraction of at least 0, whatever the signs -/
/-! ### heights of slips, and drops -/
def slips (long by' : Int) : Int → Nat → List Int
  | _, 0 => []
  | f, n + 1 => if f ≤ long then root (long * long - f * f) :: slips long by' (f + by') n else []
def drops : List Int → List Int
  | a :: b :: t => (a - b) :: drops (b :: t)
  | _ => []
/-! ### whole leans -/
def leans (w h : Int) : List (List Int) := (sel (fun d => decide ((w * h) % d = 0)) 1 (w * h).toNat).map fun d => [w + d, h + w * h / d]
/-- A lean whose ladder is whole, with that. -/
def whole (l : List Int) : Option (List Int) := match l with
  | [a, b] => if root (a * a + b * b) * root (a * a + b * b) = a * a + b * b then some [a, b, root (a * a + b * b)] else none
  | _ => none
/-! ### rows of numbers -/
/-! ### ways in a corridor -/
def Cor (x y a b h t : Int) : Prop := (((-1000 ≤ x ∧ x ≤ 1000) ∧ 1 ≤ y ∧ y ≤ 1000) ∧ (-1000 ≤ a ∧ a ≤ 1000) ∧ 1 ≤ b ∧ b ≤ 1000) ∧ (2 ≤ h ∧ h ≤ 1000) ∧ y < h ∧ b < h ∧ 1 ≤ t ∧ t ≤ 50
instance (x y a b h t : Int) : Decidable (Cor x y a b h t) := by unfold Cor; infer_instance
/-! ### fractions that are as great -/
/-! ### numerals -/
end Go.Proofs.Ythjkpjncamahhaa.M
