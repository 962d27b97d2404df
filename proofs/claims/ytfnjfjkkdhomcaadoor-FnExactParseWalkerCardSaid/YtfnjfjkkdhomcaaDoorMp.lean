/- Plain facts about texts of numbers: what strings.Cut and strconv.Atoi's Lean functions say of a numeral; the spec's splitting and reading. No program in sight. -/
import Derived.Test.YtfnjfjkkdhomcaaDoorM
import Derived.Test.YtfnjfjkkdhomcaaDoorLaidP
import Derived.Lib.AtoiTie
import Derived.Lib.CutLaws
namespace Go.Proofs.YtfnjfjkkdhomcaaDoor.M
open Go.RowKit Go.Proofs.YtfnjfjkkdhomcaaDoorW.PrintWords

/-! ### digits -/
theorem dec_mem : ∀ (q u : Nat), u < q → ∀ b ∈ Lib.decDigits u, 48 ≤ b.toNat ∧ b.toNat ≤ 57
  | 0, _, h, _, _ => by omega
  | q + 1, u, h, b, hb => by
    rw [Lib.decDigits] at hb
    split at hb
    · next hu =>
      rw [List.mem_singleton] at hb
      subst hb
      rw [UInt8.toNat_ofNat_of_lt' (by show 48 + u < 256; omega)]
      omega
    · next hu =>
      rw [List.mem_append, List.mem_singleton] at hb
      rcases hb with hb | hb
      · exact dec_mem q (u / 10) (by omega) b hb
      · subst hb
        rw [UInt8.toNat_ofNat_of_lt' (by show 48 + u % 10 < 256; omega)]
        omega
theorem dec_digit {u : Nat} {b : UInt8} (h : b ∈ Lib.decDigits u) : 48 ≤ b.toNat ∧ b.toNat ≤ 57 := dec_mem (u + 1) u (by omega) b h
theorem dec_ne_nil (u : Nat) : Lib.decDigits u ≠ [] := by
  intro h
  have := Lib.decDigits_length u
  rw [h] at this
  have := Lib.nDigits_pos u
  simp at *
  omega
theorem dec_head : ∀ (q u : Nat), u < q → 1 ≤ u → ∀ b r, Lib.decDigits u = b :: r → 49 ≤ b.toNat
  | 0, _, h, _, _, _, _ => by omega
  | q + 1, u, h, h1, b, r, e => by
    rw [Lib.decDigits] at e
    split at e
    · next hu =>
      injection e with e1 e2
      subst e1
      rw [UInt8.toNat_ofNat_of_lt' (by show 48 + u < 256; omega)]
      omega
    · next hu =>
      cases hd : Lib.decDigits (u / 10) with
      | nil => exact absurd hd (dec_ne_nil _)
      | cons b' r' =>
        rw [hd, List.cons_append] at e
        injection e with e1 e2
        subst e1
        exact dec_head q (u / 10) (by omega) (by omega) b' r' hd
/-- The number that digits spell. -/
def valD (acc : Int) (l : List UInt8) : Int := l.foldl (fun n b => 10 * n + ((b.toNat : Int) - 48)) acc
theorem valD_dec : ∀ (q u : Nat), u < q → valD 0 (Lib.decDigits u) = u
  | 0, _, h => by omega
  | q + 1, u, h => by
    rw [Lib.decDigits]
    split
    · next hu =>
      simp only [valD, List.foldl_cons, List.foldl_nil]
      rw [UInt8.toNat_ofNat_of_lt' (by show 48 + u < 256; omega)]
      omega
    · next hu =>
      have := valD_dec q (u / 10) (by omega)
      unfold valD at *
      rw [List.foldl_append, this]
      simp only [List.foldl_cons, List.foldl_nil]
      rw [UInt8.toNat_ofNat_of_lt' (by show 48 + u % 10 < 256; omega)]
      omega
theorem decFrom_append : ∀ (l : List UInt8) (acc : Nat) (b : UInt8), Lib.decFrom acc (l ++ [b]) = (Lib.decFrom acc l).bind fun m => (Lib.digitVal b).map fun d => m * 10 + d
  | [], acc, b => by
    simp only [List.nil_append, Lib.decFrom, Option.bind_some]
    cases Lib.digitVal b <;> rfl
  | a :: l, acc, b => by
    simp only [List.cons_append, Lib.decFrom]
    cases Lib.digitVal a with
    | none => rfl
    | some d => exact decFrom_append l (acc * 10 + d) b
theorem decFrom_dec : ∀ (q u : Nat), u < q → Lib.decFrom 0 (Lib.decDigits u) = some u
  | 0, _, h => by omega
  | q + 1, u, h => by
    rw [Lib.decDigits]
    split
    · next hu =>
      have e : (UInt8.ofNat (48 + u)).toNat = 48 + u := UInt8.toNat_ofNat_of_lt' (by show 48 + u < 256; omega)
      simp only [Lib.decFrom, Lib.digitVal, e]
      rw [if_pos (by omega)]
      simp only [Nat.zero_mul, Nat.zero_add, Option.some.injEq]
      omega
    · next hu =>
      have e : (UInt8.ofNat (48 + u % 10)).toNat = 48 + u % 10 := UInt8.toNat_ofNat_of_lt' (by show 48 + u % 10 < 256; omega)
      rw [decFrom_append, decFrom_dec q (u / 10) (by omega)]
      simp only [Option.bind_some, Lib.digitVal, e]
      rw [if_pos (by omega)]
      simp only [Option.map_some, Option.some.injEq]
      omega
theorem decNat_dec (u : Nat) : Lib.decNat (Lib.decDigits u) = some u := by
  unfold Lib.decNat
  have : (Lib.decDigits u).isEmpty = false := by
    cases hd : Lib.decDigits u with
    | nil => exact absurd hd (dec_ne_nil u)
    | cons _ _ => rfl
  rw [this, if_neg (by decide), decFrom_dec (u + 1) u (by omega)]
theorem tx_data (n : Int) : (tx n).data.toList = Lib.itoa n := by simp [tx]
theorem tx_len (n : Int) : (tx n).size = (Lib.itoa n).length := by unfold tx ByteArray.size; simp
theorem atoi_itoa (n : Int) : Lib.atoi (Lib.itoa n) = some n := by
  unfold Lib.itoa
  split
  · next h =>
    simp only [Lib.atoi, beq_self_eq_true, if_true, decNat_dec, Option.map_some, Option.some.injEq]
    omega
  · next h =>
    cases hd : Lib.decDigits n.toNat with
    | nil => exact absurd hd (dec_ne_nil _)
    | cons b r =>
      have hb := dec_digit (u := n.toNat) (b := b) (by rw [hd]; exact List.mem_cons_self)
      have h1 : (b == 45) = false := by
        rw [beq_eq_false_iff_ne]
        rintro rfl
        exact absurd hb.1 (by decide)
      have h2 : (b == 43) = false := by
        rw [beq_eq_false_iff_ne]
        rintro rfl
        exact absurd hb.1 (by decide)
      simp only [Lib.atoi, h1, h2, Bool.false_eq_true, if_false]
      rw [← hd, decNat_dec]
      simp only [Option.map_some, Option.some.injEq]
      omega
theorem tx_small_len {n : Int} (h0 : -1000000 < n) (h1 : n < 1000000) : (Lib.itoa n).length ≤ 7 := by
  unfold Lib.itoa
  split
  · have := nd_le 5 n.natAbs (by omega)
    rw [List.length_cons, Lib.decDigits_length]; omega
  · have := nd_le 5 n.toNat (by omega)
    rw [Lib.decDigits_length]; omega
theorem numOf_tx {n : Int} (h0 : -1000000 < n) (h1 : n < 1000000) : numOf (tx n) = (n, true) := by
  unfold numOf
  rw [tx_data, Lib.atoiAll_short _ (by have := tx_small_len h0 h1; omega), atoi_itoa]
  simp [Lib.NumEnd.ofOption]
theorem numOf_true {s : ByteArray} {v : Int} (h : numOf s = (v, true)) : s = tx v := by
  unfold numOf at h
  split at h
  · next n hn =>
    simp only [Prod.mk.injEq, decide_eq_true_eq] at h
    obtain ⟨rfl, h⟩ := h
    apply ByteArray.ext
    rw [← Array.toList_inj, ← h, tx_data]
  · simp at h
  · simp at h
theorem numOf_empty : (numOf ByteArray.empty).2 = false := by
  unfold numOf
  rw [show ByteArray.empty.data.toList = [] from rfl, Lib.atoiAll_short [] (by decide)]
  rfl

/-! ### strings.Cut at one byte -/
theorem index_mid (c : UInt8) (B : List UInt8) : ∀ A : List UInt8, c ∉ A → Lib.index (A ++ c :: B) [c] = A.length
  | [], _ => by simp [Lib.index]
  | a :: A, h => by
    have ha : a ≠ c := fun e => h (by rw [e]; exact List.mem_cons_self)
    have hA := index_mid c B A (fun e => h (List.mem_cons_of_mem _ e))
    rw [List.cons_append, Lib.index, hA]
    have h1 : ([c] : List UInt8).isPrefixOf (a :: (A ++ c :: B)) = false := by simp [List.isPrefixOf]; exact fun e => ha e.symm
    have h2 : (((A.length : Nat) : Int) == -1) = false := by rw [beq_eq_false_iff_ne]; omega
    rw [h1, h2]
    simp
theorem cut_mid {A B : List UInt8} {c : UInt8} (h : c ∉ A) : Lib.cut (A ++ c :: B) [c] = (A, B, true) := by
  unfold Lib.cut
  rw [index_mid c B A h, if_pos (by omega)]
  simp
theorem cut_found {l a b : List UInt8} {c : UInt8} (h : Lib.cut l [c] = (a, b, true)) : l = a ++ c :: b := by
  unfold Lib.cut at h
  split at h
  · next h0 =>
    rcases Lib.index_spec l [c] with ⟨h1, _⟩ | ⟨i, h1, h2, h3, _⟩
    · omega
    · rw [h1] at h
      simp only [Int.toNat_natCast, List.length_cons, List.length_nil, Nat.zero_add, Prod.mk.injEq, and_true] at h
      obtain ⟨rfl, rfl⟩ := h
      unfold Lib.occAt at h3
      cases hd : l.drop i with
      | nil => rw [hd] at h3; simp [List.isPrefixOf] at h3
      | cons x t =>
        rw [hd] at h3
        simp only [List.isPrefixOf, Bool.and_true, beq_iff_eq] at h3
        subst h3
        have e2 : l.drop (i + 1) = t := by rw [← List.drop_drop, hd]; rfl
        rw [e2, ← hd, List.take_append_drop]
  · simp at h
theorem cut_lost {l a b : List UInt8} {c : UInt8} (h : Lib.cut l [c] = (a, b, false)) : b = [] := by
  unfold Lib.cut at h
  split at h
  · simp at h
  · simp only [Prod.mk.injEq] at h
    exact h.2.1.symm

/-! ### texts, as lists -/
theorem ba_list (l : List UInt8) : (⟨l.toArray⟩ : ByteArray).data.toList = l := by simp
theorem ba_mk (s : ByteArray) : (⟨s.data.toList.toArray⟩ : ByteArray) = s := by simp
theorem ba_inj {a b : ByteArray} (h : a.data.toList = b.data.toList) : a = b := by
  apply ByteArray.ext
  rwa [← Array.toList_inj]
theorem ba_app (a b : ByteArray) : (a ++ b).data.toList = a.data.toList ++ b.data.toList := by rw [ByteArray.data_append]; simp
theorem ba_len (s : ByteArray) : s.size = s.data.toList.length := by unfold ByteArray.size; simp
theorem ba_beq {a b : ByteArray} : (a.toList == b.toList) = decide (a = b) := by
  rw [ByteArray.toList_eq, ByteArray.toList_eq]
  refine Bool.eq_iff_iff.2 ?_
  rw [beq_iff_eq, decide_eq_true_eq]
  exact ⟨ba_inj, fun e => by rw [e]⟩
theorem bt_list (s : ByteArray) (i : Nat) : bt s i = ((s.data.toList[i]?.map fun b => (b.toNat : Int)).getD 0) := by
  unfold bt
  split
  · next h =>
    rw [Int.toNat_natCast] at h
    have hl : i < s.data.toList.length := by rw [← ba_len]; exact h
    rw [List.getElem?_eq_getElem hl]
    simp only [Option.map_some, Option.getD_some, Int.toNat_natCast]
    rfl
  · next h =>
    rw [Int.toNat_natCast] at h
    have hl : ¬ i < s.data.toList.length := by rw [← ba_len]; exact h
    rw [List.getElem?_eq_none (by omega)]
    rfl
/-- What the spec's l1Split answers. -/
def spl (s : ByteArray) (c : Int) : Nat → List ByteArray → Nat → Nat → List ByteArray
  | 0, acc, from_, _ => acc ++ [s.extract from_ s.size]
  | q + 1, acc, from_, i => if bt s i = c then spl s c q (acc ++ [s.extract from_ i]) (i + 1) (i + 1) else spl s c q acc from_ (i + 1)
theorem spl_none {s : ByteArray} {c : Int} : ∀ (q : Nat) (acc : List ByteArray) (from_ i : Nat), i + q = s.size → (∀ j, i ≤ j → j < s.size → bt s j ≠ c) → spl s c q acc from_ i = acc ++ [s.extract from_ s.size]
  | 0, _, _, _, _, _ => rfl
  | q + 1, acc, from_, i, hq, h => by
    rw [spl, if_neg (h i (Nat.le_refl _) (by omega))]
    exact spl_none q acc from_ (i + 1) (by omega) (fun j h1 h2 => h j (by omega) h2)
theorem spl_hit {s : ByteArray} {c : Int} {j : Nat} (hj : j < s.size) (hc : bt s j = c) : ∀ (d q : Nat) (acc : List ByteArray) (from_ i : Nat), i + d = j → i + q = s.size → (∀ t, i ≤ t → t < j → bt s t ≠ c) →
    spl s c q acc from_ i = spl s c (s.size - j - 1) (acc ++ [s.extract from_ j]) (j + 1) (j + 1)
  | 0, q, acc, from_, i, hd, hq, h => by
    obtain rfl : i = j := by omega
    obtain ⟨q, rfl⟩ : ∃ q', q = q' + 1 := ⟨q - 1, by omega⟩
    rw [spl, if_pos hc, show s.size - i - 1 = q by omega]
  | d + 1, q, acc, from_, i, hd, hq, h => by
    obtain ⟨q, rfl⟩ : ∃ q', q = q' + 1 := ⟨q - 1, by omega⟩
    rw [spl, if_neg (h i (Nat.le_refl _) (by omega))]
    exact spl_hit hj hc d q acc from_ (i + 1) (by omega) (by omega) (fun t h1 h2 => h t (by omega) h2)
theorem ext_le (s : ByteArray) (a b : Nat) : (s.extract a b).size ≤ s.size := by rw [ByteArray.size_extract]; omega
theorem spl_le {s : ByteArray} {c : Int} : ∀ (q : Nat) (acc : List ByteArray) (from_ i : Nat), (∀ x ∈ acc, x.size ≤ s.size) → ∀ x ∈ spl s c q acc from_ i, x.size ≤ s.size
  | 0, acc, from_, i, h, x, hx => by
    rw [spl, List.mem_append, List.mem_singleton] at hx
    rcases hx with hx | rfl
    · exact h x hx
    · exact ext_le _ _ _
  | q + 1, acc, from_, i, h, x, hx => by
    rw [spl] at hx
    split at hx
    · refine spl_le q _ _ _ (fun y hy => ?_) x hx
      rw [List.mem_append, List.mem_singleton] at hy
      rcases hy with hy | rfl
      · exact h y hy
      · exact ext_le _ _ _
    · exact spl_le q _ _ _ h x hx
theorem spl_size {s : ByteArray} {c : Int} {n : Nat} (hs : s.size ≤ n) {x : ByteArray} (hx : x ∈ spl s c s.size [] 0 0) : x.size ≤ n := Nat.le_trans (spl_le _ _ _ _ (fun y hy => by cases hy) x hx) hs
theorem ext_list (s : ByteArray) (a b : Nat) : (s.extract a b).data.toList = (s.data.toList.drop a).take (b - a) := by rw [Lib.extract_eq]
theorem spl_two {A B : ByteArray} {c : UInt8} (hA : c ∉ A.data.toList) (hB : c ∉ B.data.toList) : spl (A ++ (⟨#[c]⟩ : ByteArray) ++ B) (c.toNat : Int) (A ++ (⟨#[c]⟩ : ByteArray) ++ B).size [] 0 0 = [A, B] := by
  obtain ⟨s, hs⟩ : ∃ s, s = A ++ (⟨#[c]⟩ : ByteArray) ++ B := ⟨_, rfl⟩
  have hl : s.data.toList = A.data.toList ++ c :: B.data.toList := by rw [hs, ba_app, ba_app]; simp
  have hn : s.size = A.size + 1 + B.size := by rw [ba_len, hl, ba_len, ba_len]; simp; omega
  rw [← hs]
  have hbt : ∀ (t : Nat) (x : UInt8), s.data.toList[t]? = some x → bt s t = x.toNat := fun t x hx => by rw [bt_list, hx]; rfl
  have hne : ∀ (x : UInt8), x ≠ c → ((x.toNat : Nat) : Int) ≠ (c.toNat : Int) := fun x hx e => hx (UInt8.toNat_inj.1 (by omega))
  rw [spl_hit (j := A.size) (by omega) (by
    refine hbt _ _ ?_
    rw [hl, ba_len, List.getElem?_append_right (Nat.le_refl _)]
    simp) A.size s.size [] 0 0 (by omega) (by omega) (fun t _ ht => by
    have ht' : t < A.data.toList.length := by rw [← ba_len]; exact ht
    rw [hbt t (A.data.toList[t]) (by rw [hl, List.getElem?_append_left ht', List.getElem?_eq_getElem ht'])]
    exact hne _ (fun e => hA (by rw [← e]; exact List.getElem_mem ht')))]
  rw [spl_none (s.size - A.size - 1) _ _ _ (by omega) (fun t h1 h2 => by
    have ht' : t - (A.size + 1) < B.data.toList.length := by rw [← ba_len]; omega
    rw [hbt t (B.data.toList[t - (A.size + 1)]) (by
      rw [hl, List.getElem?_append_right (by rw [← ba_len]; omega), show t - A.data.toList.length = (t - (A.size + 1)) + 1 by rw [← ba_len]; omega, List.getElem?_cons_succ, List.getElem?_eq_getElem ht'])]
    exact hne _ (fun e => hB (by rw [← e]; exact List.getElem_mem ht')))]
  have e1 : s.extract 0 A.size = A := ba_inj (by rw [ext_list, hl, ba_len A]; simp)
  have e2 : s.extract (A.size + 1) s.size = B := ba_inj (by
    rw [ext_list, hl]
    have e0 : (A.data.toList ++ c :: B.data.toList).drop (A.size + 1) = B.data.toList := by
      rw [ba_len A, ← List.drop_drop, List.drop_left]; rfl
    rw [e0]
    exact List.take_of_length_le (by rw [← ba_len]; omega))
  rw [e1, e2]; rfl
theorem tx_no {n : Int} {c : UInt8} (h1 : c.toNat ≠ 45) (h2 : c.toNat < 48 ∨ 57 < c.toNat) : c ∉ (tx n).data.toList := by
  rw [tx_data]
  unfold Lib.itoa
  split
  · intro h
    rcases List.mem_cons.1 h with h | h
    · subst h; exact h1 rfl
    · have := dec_digit h; omega
  · intro h
    have := dec_digit h; omega
theorem tx_no' {n : Int} {c : UInt8} (h0 : 0 ≤ n) (h2 : c.toNat < 48 ∨ 57 < c.toNat) : c ∉ (tx n).data.toList := by
  rw [tx_data]
  unfold Lib.itoa
  rw [if_neg (by omega)]
  intro h
  have := dec_digit h; omega
end Go.Proofs.YtfnjfjkkdhomcaaDoor.M
