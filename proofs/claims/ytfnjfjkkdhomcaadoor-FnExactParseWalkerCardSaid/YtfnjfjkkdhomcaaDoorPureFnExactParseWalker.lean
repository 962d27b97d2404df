/- The plain part of FnExactParseWalker: what the printed functions of the program and of the reference answer, in plain Lean, and that the law answers true. No condition. -/
import Derived.Test.YtfnjfjkkdhomcaaDoorStFnExactParseWalker
import Derived.Test.YtfnjfjkkdhomcaaDoorM
import Derived.Test.YtfnjfjkkdhomcaaDoorMp
namespace Go.Proofs.YtfnjfjkkdhomcaaDoor.PbFnExactParseWalker
open Go.RowKit Go.Proofs.YtfnjfjkkdhomcaaDoor Go.Proofs.YtfnjfjkkdhomcaaDoor.PFnExactParseWalker Go.Proofs.YtfnjfjkkdhomcaaDoorW.PrintWords Go.Proofs.YtfnjfjkkdhomcaaDoorW.PrintLast
set_option linter.unusedVariables false
set_option linter.unusedSimpArgs false

theorem spec_l1Split_l0_ev (x0 : ByteArray) (x1 : Int) (x5 : List ByteArray) (x6 : Int) (x7 : Int) {r : (List ByteArray)} (h : Ev (fun k => if x7 < (x0.size : Int) then (if 0 ≤ x7 then (if (bt x0 x7) = x1 then (if 0 ≤ x6 then (if x6 ≤ x7 then (if x7 ≤ (x0.size : Int) then (if x5.length < 8796093022208 then (spec_l1Split.l0 k x0 x1 (x5 ++ [x0.extract (x6 : Int).toNat (x7 : Int).toNat]) (wrap64 (x7 + 1)) (wrap64 (x7 + 1))) else (none)) else (none)) else (none)) else (none)) else (spec_l1Split.l0 k x0 x1 x5 x6 (wrap64 (x7 + 1)))) else (none)) else (if 0 ≤ x6 then (if x6 ≤ (x0.size : Int) then (if x5.length < 8796093022208 then (some (x5 ++ [x0.extract (x6 : Int).toNat x0.size])) else (none)) else (none)) else (none))) r) : Ev (fun k => spec_l1Split.l0 k x0 x1 x5 x6 x7) r := Ev.step (fun k => by simp only [spec_l1Split.l0]) h
theorem l1Split_l0 (s : ByteArray) (c : Int) (hs : s.size ≤ 1048576) : ∀ (q : Nat) (acc : List ByteArray) (from_ i : Nat), i + q = s.size → from_ ≤ i → acc.length ≤ i →
    Ev (fun k => spec_l1Split.l0 k s c acc (from_ : Int) (i : Int)) (M.spl s c q acc from_ i)
  | 0, acc, from_, i, hq, hf, ha => by
    refine spec_l1Split_l0_ev _ _ _ _ _ (M.evn (by omega) (M.evp (by omega) (M.evp (by omega) (M.evp (by omega) ?_))))
    rw [M.spl, Int.toNat_natCast]
    exact Ev.now _
  | q + 1, acc, from_, i, hq, hf, ha => by
    have hw : wrap64 ((i : Int) + 1) = ((i + 1 : Nat) : Int) := by rw [M.wrap_id (by omega) (by omega)]; omega
    refine spec_l1Split_l0_ev _ _ _ _ _ (M.evp (by omega) (M.evp (by omega) ?_))
    rw [M.spl, hw]
    by_cases hc : bt s i = c
    · rw [if_pos hc]
      refine M.evp hc (M.evp (by omega) (M.evp (by omega) (M.evp (by omega) (M.evp (by omega) ?_))))
      rw [Int.toNat_natCast, Int.toNat_natCast]
      exact l1Split_l0 s c hs q _ (i + 1) (i + 1) (by omega) (Nat.le_refl _) (by simp; omega)
    · rw [if_neg hc]
      exact M.evn hc (l1Split_l0 s c hs q acc from_ (i + 1) (by omega) (by omega) (by omega))
theorem l1Split_ev (s : ByteArray) (c : Int) (hs : s.size ≤ 1048576) : Ev (fun k => spec_l1Split.f k s c) (M.spl s c s.size [] 0 0) := by
  unfold spec_l1Split.f
  exact l1Split_l0 s c hs s.size [] 0 0 (by omega) (Nat.le_refl _) (by simp)
theorem l1In_eq (a b c : Int) : spec_l1In.f a b c = some (decide (b ≤ a ∧ a ≤ c)) := by
  unfold spec_l1In.f
  by_cases h : b ≤ a <;> simp [h]
theorem spec_l1Read_j0_ev (x0 : ByteArray) (x18 : Bool) {r : (Int)} (h : Ev (fun k => if x18 = true then (some (-1)) else (spec_l1Read.l0 k x0 0 0)) r) : Ev (fun k => spec_l1Read.j0 k x0 x18) r := Ev.step (fun k => by simp only [spec_l1Read.j0]) h
theorem spec_l1Read_l0_ev (x0 : ByteArray) (x3 : Int) (x4 : Int) {r : (Int)} (h : Ev (fun k => if x4 < (x0.size : Int) then (if 0 ≤ x4 then (if (bt x0 x4) < 48 then (some (-1)) else (if (bt x0 x4) > 57 then (some (-1)) else (spec_l1Read.l0 k x0 (wrap64 ((wrap64 (10 * x3)) + (((bt x0 x4) - 48) % 256))) (wrap64 (x4 + 1))))) else (none)) else (some x3)) r) : Ev (fun k => spec_l1Read.l0 k x0 x3 x4) r := Ev.step (fun k => by simp only [spec_l1Read.l0]) h
theorem l1Read_l0 (s : ByteArray) (hs : s.size ≤ 6) : ∀ (q : Nat) (n : Int) (i : Nat), i + q = s.size →
    ∃ r, Ev (fun k => spec_l1Read.l0 k s n (i : Int)) r ∧ ((∀ b ∈ s.data.toList.drop i, 48 ≤ b.toNat ∧ b.toNat ≤ 57) → 0 ≤ n → n < 10 ^ i → r = M.valD n (s.data.toList.drop i))
  | 0, n, i, hq => by
    refine ⟨n, spec_l1Read_l0_ev _ _ _ (M.evn (by omega) (Ev.now _)), fun _ _ _ => ?_⟩
    rw [List.drop_eq_nil_of_le (by rw [← M.ba_len]; omega)]
    rfl
  | q + 1, n, i, hq => by
    have hi : i < s.data.toList.length := by rw [← M.ba_len]; omega
    have hb : bt s i = ((s.data.toList[i]).toNat : Int) := by rw [M.bt_list, List.getElem?_eq_getElem hi]; rfl
    have hd : s.data.toList.drop i = s.data.toList[i] :: s.data.toList.drop (i + 1) := List.drop_eq_getElem_cons hi
    have hw : wrap64 ((i : Int) + 1) = ((i + 1 : Nat) : Int) := by rw [M.wrap_id (by omega) (by omega)]; omega
    have h0 : ∀ r, Ev (fun k => if bt s i < 48 then (some (-1)) else (if bt s i > 57 then (some (-1)) else (spec_l1Read.l0 k s (wrap64 ((wrap64 (10 * n)) + ((bt s i - 48) % 256))) (wrap64 ((i : Int) + 1))))) r → Ev (fun k => spec_l1Read.l0 k s n (i : Int)) r :=
      fun r h => spec_l1Read_l0_ev _ _ _ (M.evp (by omega) (M.evp (by omega) h))
    by_cases h1 : bt s i < 48
    · refine ⟨-1, h0 _ (M.evp h1 (Ev.now _)), fun h _ _ => ?_⟩
      have := h (s.data.toList[i]) (by rw [hd]; exact List.mem_cons_self)
      omega
    · by_cases h2 : bt s i > 57
      · refine ⟨-1, h0 _ (M.evn h1 (M.evp h2 (Ev.now _))), fun h _ _ => ?_⟩
        have := h (s.data.toList[i]) (by rw [hd]; exact List.mem_cons_self)
        omega
      · obtain ⟨r, hr, hv⟩ := l1Read_l0 s hs q (wrap64 ((wrap64 (10 * n)) + ((bt s i - 48) % 256))) (i + 1) (by omega)
        rw [← hw] at hr
        refine ⟨r, h0 _ (M.evn h1 (M.evn h2 hr)), fun h hn hn2 => ?_⟩
        have hp : (10 : Int) ^ i ≤ 100000 := by
          have : i ≤ 5 := by omega
          have e : ∀ j : Nat, j ≤ 5 → (10 : Int) ^ j ≤ 100000 := by
            intro j hj
            match j, hj with
            | 0, _ | 1, _ | 2, _ | 3, _ | 4, _ | 5, _ => decide
          exact e i this
        have e1 : wrap64 (10 * n) = 10 * n := M.wrap_id (by omega) (by omega)
        have e2 : (bt s i - 48) % 256 = bt s i - 48 := by omega
        rw [e1, e2, M.wrap_id (by omega) (by omega)] at hv
        have := hv (fun b hb => h b (by rw [hd]; exact List.mem_cons_of_mem _ hb)) (by omega) (by rw [Int.pow_succ]; omega)
        rw [this, hd, hb]
        rfl
theorem l1Read_ev (s : ByteArray) : ∃ r, Ev (fun k => spec_l1Read.f k s) r ∧ ∀ u : Int, 0 ≤ u → u < 1000000 → s = M.tx u → r = u := by
  have hf : ∀ r, Ev (fun k => if (decide (1 ≤ (s.size : Int) ∧ (s.size : Int) ≤ 6)) = true then (if 0 < (s.size : Int) then (if (bt s 0) = 48 then (spec_l1Read.j0 k s (decide ((s.size : Int) > 1))) else (spec_l1Read.j0 k s false)) else (none)) else (spec_l1Read.j0 k s true)) r → Ev (fun k => spec_l1Read.f k s) r := fun r h => by
    simp only [spec_l1Read.f, l1In_eq, Option.bind_some]; exact h
  by_cases hs : 1 ≤ (s.size : Int) ∧ (s.size : Int) ≤ 6
  · have hg : ∀ r, Ev (fun k => spec_l1Read.l0 k s 0 0) r → Ev (fun k => spec_l1Read.j0 k s false) r := fun r h => spec_l1Read_j0_ev _ _ (M.evn (by simp) h)
    obtain ⟨r, hr, hv⟩ := l1Read_l0 s (by omega) s.size 0 0 (by omega)
    by_cases hz : bt s 0 = 48
    · by_cases h1 : (s.size : Int) > 1
      · refine ⟨-1, hf _ (M.evp (by simpa using hs) (M.evp (by omega) (M.evp hz ?_))), fun u h0 h2 he => ?_⟩
        · rw [decide_eq_true h1]; exact spec_l1Read_j0_ev _ _ (M.evp rfl (Ev.now _))
        · exfalso
          subst he
          have hl : (M.tx u).data.toList = Lib.decDigits u.toNat := by rw [M.tx_data]; unfold Lib.itoa; rw [if_neg (by omega)]
          cases hd : Lib.decDigits u.toNat with
          | nil => exact M.dec_ne_nil _ hd
          | cons b t =>
            have hb : bt (M.tx u) 0 = (b.toNat : Int) := by
              rw [show (0 : Int) = ((0 : Nat) : Int) from rfl, M.bt_list, hl, hd]; rfl
            by_cases hu : u < 10
            · rw [M.ba_len, hl, Lib.decDigits_one (by omega)] at h1
              simp at h1
            · have := M.dec_head (u.toNat + 1) u.toNat (by omega) (by omega) b t hd
              omega
      · refine ⟨r, hf _ (M.evp (by simpa using hs) (M.evp (by omega) (M.evp hz ?_))), fun u h0 h2 he => ?_⟩
        · rw [decide_eq_false h1]; exact hg _ hr
        · subst he
          have hl : (M.tx u).data.toList = Lib.decDigits u.toNat := by rw [M.tx_data]; unfold Lib.itoa; rw [if_neg (by omega)]
          rw [hv (fun b hb => M.dec_digit (by rw [hl] at hb; exact hb)) (by omega) (by decide), hl]
          show M.valD 0 (Lib.decDigits u.toNat) = u
          rw [M.valD_dec (u.toNat + 1) u.toNat (by omega)]; omega
    · refine ⟨r, hf _ (M.evp (by simpa using hs) (M.evp (by omega) (M.evn hz (hg _ hr)))), fun u h0 h2 he => ?_⟩
      subst he
      have hl : (M.tx u).data.toList = Lib.decDigits u.toNat := by rw [M.tx_data]; unfold Lib.itoa; rw [if_neg (by omega)]
      rw [hv (fun b hb => M.dec_digit (by rw [hl] at hb; exact hb)) (by omega) (by decide), hl]
      show M.valD 0 (Lib.decDigits u.toNat) = u
      rw [M.valD_dec (u.toNat + 1) u.toNat (by omega)]; omega
  · refine ⟨-1, hf _ (M.evn (by simpa using hs) (spec_l1Read_j0_ev _ _ (M.evp rfl (Ev.now _)))), fun u h0 h2 he => ?_⟩
    exfalso
    apply hs
    subst he
    rw [M.tx_len]
    unfold Lib.itoa
    rw [if_neg (by omega), Lib.decDigits_length]
    have := M.nd_le 5 u.toNat (by omega)
    have := Lib.nDigits_pos u.toNat
    omega
theorem swLamp_eq (a : Int) : spec_swLamp.f a = some (decide (2 ≤ a ∧ a ≤ 200)) := by simp [spec_swLamp.f, l1In_eq]
theorem wkGood_eq (l h p s : Int) : spec_wkGood.f l h p s = some (decide (M.Wk l h p s)) := by
  unfold spec_wkGood.f M.Wk
  by_cases h1 : 2 ≤ l ∧ l ≤ 200
  · have e : wrap64 (l - 1) = l - 1 := M.wrap_id (by omega) (by omega)
    by_cases h2 : 1 ≤ h ∧ h ≤ l - 1 <;> by_cases h3 : 0 ≤ p ∧ p ≤ 500 <;> simp [l1In_eq, swLamp_eq, h1, h2, h3, e]
  · simp [swLamp_eq, h1]
theorem wkAny_eq (h p s : Int) : spec_wkAny.f h p s = some (decide (M.Wk 200 h p s)) := by simp [spec_wkAny.f, wkGood_eq]
theorem l1Num_step {r : ByteArray} (n : Int) (h : Ev (fun k => if n < 10 then (some (strOfNums (([(wrap64 (48 + n)) % 256] : List Int)))) else ((spec_l1Num.f k (wrap64 (Int.tdiv n 10))).bind fun t107 => ((some (([(wrap64 (48 + (Int.tmod n 10))) % 256] : List Int) : List Int)).bind fun y108 => (if t107.size + (strOfNums y108).size ≤ 9223372036854775807 then (some (t107 ++ (strOfNums y108))) else (none))))) r) : Ev (fun k => spec_l1Num.f k n) r := Ev.step (fun k => by simp only [spec_l1Num.f]) h
theorem l1Num_ev : ∀ (q : Nat) (n : Int), n.toNat < q → 0 ≤ n → n ≤ 9223372036854775807 → Ev (fun k => spec_l1Num.f k n) (M.tx n)
  | 0, _, h, _, _ => by omega
  | q + 1, n, h, h0, h1 => by
    refine l1Num_step n ?_
    by_cases hn : n < 10
    · rw [M.tx_small h0 hn]
      exact M.evp hn (Ev.now _)
    · have ed : Int.tdiv n 10 = n / 10 := Int.tdiv_eq_ediv_of_nonneg h0
      refine M.evn hn ?_
      rw [ed, M.wrap_id (n := n / 10) (by omega) (by omega), M.tx_big (by omega) h1]
      refine Ev.bind (l1Num_ev q (n / 10) (by omega) (by omega) (by omega)) ?_
      have := M.tx_size (n / 10) (by omega) (by omega)
      simp only [Option.bind_some]
      exact M.evp (by rw [strOfNums_size]; simp only [List.length_cons, List.length_nil]; omega) (Ev.now _)
theorem l1Num (n : Int) (h0 : 0 ≤ n) (h1 : n ≤ 9223372036854775807) : Ev (fun k => spec_l1Num.f k n) (M.tx n) := l1Num_ev (n.toNat + 1) n (by omega) h0 h1
theorem wkText_ev (h p s : Int) (hw : M.Wk 200 h p s) : Ev (fun k => spec_wkText.f k h p s) (M.tx h ++ (⟨#[64]⟩ : ByteArray) ++ M.tx p ++ (if s < 0 then (⟨#[45]⟩ : ByteArray) else ⟨#[43]⟩) ++ M.tx s.natAbs) := by
  unfold spec_wkText.f
  obtain ⟨_, a1, a2, a3⟩ := hw
  have h1 := M.tx_size h (by omega) (by omega)
  have h2 := M.tx_size p (by omega) (by omega)
  have h3 := M.tx_size (s.natAbs : Int) (by omega) (by omega)
  refine Ev.bind (l1Num h (by omega) (by omega)) (M.evp (by omega) (Ev.bind (l1Num p (by omega) (by omega)) (M.evp ?_ ?_)))
  · simp only [ByteArray.size_append, M.ba_size1]; omega
  · by_cases hs : s < 0
    · have e : (s.natAbs : Int) = -s := by omega
      rw [e] at h3
      rw [if_pos hs, e]
      refine M.evp hs (M.evp ?_ ?_)
      · simp only [ByteArray.size_append, M.ba_size1]; omega
      · rw [M.wrap_id (n := -s) (by omega) (by omega)]
        refine Ev.bind (l1Num (-s) (by omega) (by omega)) (M.evp ?_ (Ev.now _))
        simp only [ByteArray.size_append, M.ba_size1]; omega
    · have e : (s.natAbs : Int) = s := by omega
      rw [e] at h3
      rw [if_neg hs, e]
      refine M.evn hs (M.evp ?_ ?_)
      · simp only [ByteArray.size_append, M.ba_size1]; omega
      · refine Ev.bind (l1Num s (by omega) (by omega)) (M.evp ?_ (Ev.now _))
        simp only [ByteArray.size_append, M.ba_size1]; omega
theorem spec_wkParse_j0_ev (x0 : ByteArray) (x4 : List ByteArray) (x18 : Bool) {r : (Int × Int × Int × Bool)} (h : Ev (fun k => if x18 = true then (some (0, 0, 0, false)) else ((some (([43, 45] : List Int) : List Int)).bind fun y132 => (spec_wkParse.l0 k x0 x4 y132 (y132.length : Int) 0))) r) : Ev (fun k => spec_wkParse.j0 k x0 x4 x18) r := Ev.step (fun k => by simp only [spec_wkParse.j0]) h
theorem spec_wkParse_l0_ev (x0 : ByteArray) (x4 : List ByteArray) (x21 : List Int) (x22 : Int) (x23 : Int) {r : (Int × Int × Int × Bool)} (h : Ev (fun k => if x23 < x22 then (if 0 ≤ x23 then (if x23 < (x21.length : Int) then (if 1 < (x4.length : Int) then ((spec_l1Split.f k (rdOf ByteArray.empty x4 1) (rd x21 x23)).bind fun t137 => (if (t137.length : Int) = 2 then (if 0 < (x4.length : Int) then ((spec_l1Read.f k (rdOf ByteArray.empty x4 0)).bind fun t141 => (if 0 < (t137.length : Int) then ((spec_l1Read.f k (rdOf ByteArray.empty t137 0)).bind fun t143 => (if 1 < (t137.length : Int) then ((spec_l1Read.f k (rdOf ByteArray.empty t137 1)).bind fun t145 => (if t145 < 0 then (some (0, 0, 0, false)) else (if (rd x21 x23) = 45 then (spec_wkParse.j2 k x0 x4 x21 x22 x23 t141 t143 (wrap64 (-t145))) else (spec_wkParse.j2 k x0 x4 x21 x22 x23 t141 t143 t145)))) else (none))) else (none))) else (none)) else (spec_wkParse.l0 k x0 x4 x21 x22 (wrap64 (x23 + 1))))) else (none)) else (none)) else (none)) else (some (0, 0, 0, false))) r) : Ev (fun k => spec_wkParse.l0 k x0 x4 x21 x22 x23) r := Ev.step (fun k => by simp only [spec_wkParse.l0]) h
theorem spec_wkParse_j2_ev (x0 : ByteArray) (x4 : List ByteArray) (x21 : List Int) (x22 : Int) (x23 : Int) (x147000 : Int) (x147001 : Int) (x147002 : Int) {r : (Int × Int × Int × Bool)} (h : Ev (fun k => (spec_wkAny.f x147000 x147001 x147002).bind fun t147 => (if t147 = true then ((spec_wkText.f k x147000 x147001 x147002).bind fun t148 => (if t148.toList = x0.toList then (some (x147000, x147001, x147002, true)) else (spec_wkParse.l0 k x0 x4 x21 x22 (wrap64 (x23 + 1))))) else (spec_wkParse.l0 k x0 x4 x21 x22 (wrap64 (x23 + 1))))) r) : Ev (fun k => spec_wkParse.j2 k x0 x4 x21 x22 x23 x147000 x147001 x147002) r := Ev.step (fun k => by simp only [spec_wkParse.j2]) h
/-- The text of a walker. -/
def TW (h p v : Int) : ByteArray := M.tx h ++ (⟨#[64]⟩ : ByteArray) ++ M.tx p ++ (if v < 0 then (⟨#[45]⟩ : ByteArray) else ⟨#[43]⟩) ++ M.tx v.natAbs
def PW (s : ByteArray) (h p v : Int) : Prop := M.Wk 200 h p v ∧ s = TW h p v
/-- What stands behind the sign '@'. -/
def BW (p v : Int) : ByteArray := M.tx p ++ (if v < 0 then (⟨#[45]⟩ : ByteArray) else ⟨#[43]⟩) ++ M.tx v.natAbs
theorem TW_eq (h p v : Int) : TW h p v = M.tx h ++ (⟨#[64]⟩ : ByteArray) ++ BW p v := by
  unfold TW BW
  simp only [M.ba_assoc]
theorem wtx3 {n : Int} (h0 : 0 ≤ n) (h1 : n < 1000) : (M.tx n).size ≤ 3 := by
  rw [M.tx_len]; unfold Lib.itoa
  rw [if_neg (by omega), Lib.decDigits_length]
  exact M.nd_le 2 n.toNat (by omega)
theorem BW_no (p v : Int) : (64 : UInt8) ∉ (BW p v).data.toList := by
  unfold BW
  rw [M.ba_app, M.ba_app]
  intro h
  simp only [List.mem_append] at h
  rcases h with (h | h) | h
  · exact M.tx_no (by decide) (by decide) h
  · split at h <;> simp at h
  · exact M.tx_no (by decide) (by decide) h
theorem PW_split {s : ByteArray} {h p v : Int} (hw : PW s h p v) : M.spl s 64 s.size [] 0 0 = [M.tx h, BW p v] ∧ s.size ≤ 12 := by
  obtain ⟨⟨⟨a1, a2⟩, ⟨b1, b2⟩, ⟨c1, c2⟩, d1, d2⟩, rfl⟩ := hw
  rw [TW_eq]
  refine ⟨M.spl_two (c := 64) (M.tx_no (by decide) (by decide)) (BW_no p v), ?_⟩
  have e1 := wtx3 (n := h) (by omega) (by omega)
  have e2 := wtx3 (n := p) (by omega) (by omega)
  have e3 := wtx3 (n := (v.natAbs : Int)) (by omega) (by omega)
  unfold BW
  split <;> simp only [ByteArray.size_append, M.ba_size1] <;> omega
theorem BW_spl {p v : Int} (hp : 0 ≤ p) : M.spl (BW p v) (if v < 0 then 45 else 43) (BW p v).size [] 0 0 = [M.tx p, M.tx v.natAbs] := by
  unfold BW
  split
  · exact M.spl_two (c := 45) (M.tx_no' hp (by decide)) (M.tx_no' (by omega) (by decide))
  · exact M.spl_two (c := 43) (M.tx_no' hp (by decide)) (M.tx_no' (by omega) (by decide))
theorem BW_other {p v : Int} (hp : 0 ≤ p) (hv : v < 0) : (M.spl (BW p v) 43 (BW p v).size [] 0 0).length = 1 := by
  have hn : (43 : UInt8) ∉ (BW p v).data.toList := by
    unfold BW
    rw [if_pos hv, M.ba_app, M.ba_app]
    intro h
    simp only [List.mem_append] at h
    rcases h with (h | h) | h
    · exact M.tx_no' hp (by decide) h
    · simp at h
    · exact M.tx_no' (by omega) (by decide) h
  rw [M.spl_none _ _ _ _ (by omega) (fun j _ hj => ?_)]
  · rfl
  · rw [M.bt_list]
    have hl : j < (BW p v).data.toList.length := by rw [← M.ba_len]; exact hj
    rw [List.getElem?_eq_getElem hl]
    intro e
    have e2 : ((BW p v).data.toList[j]).toNat = 43 := Int.ofNat.inj e
    exact hn (by rw [show (43 : UInt8) = (BW p v).data.toList[j] from UInt8.toNat_inj.1 (by rw [e2]; rfl)]; exact List.getElem_mem hl)
theorem wk_l0 (s A B : ByteArray) (hB : B.size ≤ 1048576) (i : Nat) (sg : Int) (hi : i < 2) (hsg : rd [43, 45] (i : Int) = sg) (r1 : Int × Int × Int × Bool) (h1 : Ev (fun k => spec_wkParse.l0 k s [A, B] [43, 45] 2 (wrap64 ((i : Int) + 1))) r1) :
    ∃ r : Int × Int × Int × Bool, Ev (fun k => spec_wkParse.l0 k s [A, B] [43, 45] 2 (i : Int)) r ∧ (r = (0, 0, 0, false) ∨ (r.2.2.2 = true ∧ PW s r.1 r.2.1 r.2.2.1) ∨ r = r1) ∧
      (∀ a b c, PW s a b c → A = M.tx a → B = BW b c → sg = (if c < 0 then 45 else 43) → r = (a, b, c, true)) ∧ ((M.spl B sg B.size [] 0 0).length ≠ 2 → r = r1) := by
  have hL := l1Split_ev B sg hB
  have r0 : rdOf ByteArray.empty [A, B] 0 = A := rfl
  have r1' : rdOf ByteArray.empty [A, B] 1 = B := rfl
  by_cases h2 : (M.spl B sg B.size [] 0 0).length = 2
  · obtain ⟨P, Q, hPQ⟩ : ∃ P Q, M.spl B sg B.size [] 0 0 = [P, Q] := by
      match M.spl B sg B.size [] 0 0, h2 with
      | [P, Q], _ => exact ⟨P, Q, rfl⟩
    rw [hPQ] at hL
    obtain ⟨x, hx, hx'⟩ := l1Read_ev A
    obtain ⟨y, hy, hy'⟩ := l1Read_ev P
    obtain ⟨z, hz, hz'⟩ := l1Read_ev Q
    have q0 : rdOf ByteArray.empty [P, Q] 0 = P := rfl
    have q1 : rdOf ByteArray.empty [P, Q] 1 = Q := rfl
    have step : ∀ r, Ev (fun k => if z < 0 then (some ((0 : Int), (0 : Int), (0 : Int), false)) else (if sg = 45 then (spec_wkParse.j2 k s [A, B] [43, 45] 2 (i : Int) x y (wrap64 (-z))) else (spec_wkParse.j2 k s [A, B] [43, 45] 2 (i : Int) x y z))) r → Ev (fun k => spec_wkParse.l0 k s [A, B] [43, 45] 2 (i : Int)) r := fun r h => by
      refine spec_wkParse_l0_ev _ _ _ _ _ (M.evp (by omega) (M.evp (by omega) (M.evp (by simp; omega) (M.evp (by simp) ?_))))
      rw [r0, r1', hsg]
      exact Ev.bind hL (M.evp (by simp) (M.evp (by simp) (Ev.bind hx (M.evp (by simp) (Ev.bind hy (M.evp (by simp) (Ev.bind hz h)))))))
    by_cases hz0 : z < 0
    · refine ⟨(0, 0, 0, false), step _ (M.evp hz0 (Ev.now _)), .inl rfl, fun a b c hp hA hBw he => ?_, fun h => absurd h2 h⟩
      exfalso
      subst hBw
      rw [he, BW_spl (by have := hp.1.2.2.1; omega)] at hPQ
      simp only [List.cons.injEq, and_true] at hPQ
      have := hz' (c.natAbs : Int) (by omega) (by have := hp.1.2.2.2; omega) hPQ.2.symm
      omega
    · have fin : ∀ V : Int, (∀ r, Ev (fun k => spec_wkParse.j2 k s [A, B] [43, 45] 2 (i : Int) x y V) r → Ev (fun k => spec_wkParse.l0 k s [A, B] [43, 45] 2 (i : Int)) r) → (∀ a b c, PW s a b c → A = M.tx a → B = BW b c → sg = (if c < 0 then 45 else 43) → x = a ∧ y = b ∧ V = c) →
          ∃ r : Int × Int × Int × Bool, Ev (fun k => spec_wkParse.l0 k s [A, B] [43, 45] 2 (i : Int)) r ∧ (r = (0, 0, 0, false) ∨ (r.2.2.2 = true ∧ PW s r.1 r.2.1 r.2.2.1) ∨ r = r1) ∧
            (∀ a b c, PW s a b c → A = M.tx a → B = BW b c → sg = (if c < 0 then 45 else 43) → r = (a, b, c, true)) ∧ ((M.spl B sg B.size [] 0 0).length ≠ 2 → r = r1) := fun V go pV => by
        have go2 : ∀ r, Ev (fun k => if decide (M.Wk 200 x y V) = true then ((spec_wkText.f k x y V).bind fun t148 => (if t148.toList = s.toList then (some (x, y, V, true)) else (spec_wkParse.l0 k s [A, B] [43, 45] 2 (wrap64 ((i : Int) + 1))))) else (spec_wkParse.l0 k s [A, B] [43, 45] 2 (wrap64 ((i : Int) + 1)))) r → Ev (fun k => spec_wkParse.l0 k s [A, B] [43, 45] 2 (i : Int)) r := fun r h => by
          refine go r (spec_wkParse_j2_ev _ _ _ _ _ _ _ _ ?_)
          simp only [wkAny_eq, Option.bind_some]
          exact h
        by_cases hw : M.Wk 200 x y V
        · by_cases ht : (TW x y V).toList = s.toList
          · have hs : s = TW x y V := by
              have := M.ba_beq (a := TW x y V) (b := s)
              rw [ht, beq_self_eq_true] at this
              exact (of_decide_eq_true this.symm).symm
            refine ⟨(x, y, V, true), go2 _ (M.evp (decide_eq_true hw) (Ev.bind (wkText_ev x y V hw) (M.evp ht (Ev.now _)))), .inr (.inl ⟨rfl, hw, hs⟩), fun a b c hp hA hBw he => ?_, fun h => absurd h2 h⟩
            obtain ⟨e1, e2, e3⟩ := pV a b c hp hA hBw he
            rw [e1, e2, e3]
          · refine ⟨r1, go2 _ (M.evp (decide_eq_true hw) (Ev.bind (wkText_ev x y V hw) (M.evn ht h1))), .inr (.inr rfl), fun a b c hp hA hBw he => ?_, fun _ => rfl⟩
            obtain ⟨e1, e2, e3⟩ := pV a b c hp hA hBw he
            exact absurd (by rw [e1, e2, e3, ← hp.2]) ht
        · refine ⟨r1, go2 _ (M.evn (by simpa using hw) h1), .inr (.inr rfl), fun a b c hp hA hBw he => ?_, fun _ => rfl⟩
          obtain ⟨e1, e2, e3⟩ := pV a b c hp hA hBw he
          exact absurd (by rw [e1, e2, e3]; exact hp.1) hw
      have rds : ∀ a b c, PW s a b c → A = M.tx a → B = BW b c → sg = (if c < 0 then 45 else 43) → x = a ∧ y = b ∧ z = c.natAbs := fun a b c hp hA hBw he => by
        subst hBw
        rw [he, BW_spl (by have := hp.1.2.2.1; omega)] at hPQ
        simp only [List.cons.injEq, and_true] at hPQ
        obtain ⟨⟨_, _⟩, ⟨_, _⟩, ⟨_, _⟩, _, _⟩ := hp.1
        exact ⟨hx' a (by omega) (by omega) hA, hy' b (by omega) (by omega) hPQ.1.symm, hz' _ (by omega) (by omega) hPQ.2.symm⟩
      by_cases h45 : sg = 45
      · refine fin (wrap64 (-z)) (fun r h => step r (M.evn hz0 (M.evp h45 h))) (fun a b c hp hA hBw he => ?_)
        obtain ⟨e1, e2, e3⟩ := rds a b c hp hA hBw he
        refine ⟨e1, e2, ?_⟩
        have hc : c < 0 := by
          by_cases hc : c < 0
          · exact hc
          · rw [if_neg hc] at he; omega
        have := hp.1.2.2.2
        rw [M.wrap_id (by omega) (by omega)]; omega
      · refine fin z (fun r h => step r (M.evn hz0 (M.evn h45 h))) (fun a b c hp hA hBw he => ?_)
        obtain ⟨e1, e2, e3⟩ := rds a b c hp hA hBw he
        refine ⟨e1, e2, ?_⟩
        have hc : ¬ c < 0 := fun hc => by rw [if_pos hc] at he; exact h45 he
        omega
  · refine ⟨r1, ?_, .inr (.inr rfl), fun a b c hp hA hBw he => ?_, fun _ => rfl⟩
    · refine spec_wkParse_l0_ev _ _ _ _ _ (M.evp (by omega) (M.evp (by omega) (M.evp (by simp; omega) (M.evp (by simp) ?_))))
      rw [r1', hsg]
      exact Ev.bind hL (M.evn (by omega) h1)
    · exfalso
      subst hBw
      rw [he, BW_spl (by have := hp.1.2.2.1; omega)] at h2
      simp at h2
theorem wkParse_ev (s : ByteArray) (hs : s.size ≤ 1048576) : ∃ r : Int × Int × Int × Bool, Ev (fun k => spec_wkParse.f k s) r ∧ (r.2.2.2 = true → PW s r.1 r.2.1 r.2.2.1) ∧ (r.2.2.2 = false → r = (0, 0, 0, false)) ∧ ∀ a b c, PW s a b c → r = (a, b, c, true) := by
  have hL := l1Split_ev s 64 hs
  have no : ∀ L x, x = true → Ev (fun k => spec_wkParse.j0 k s L x) ((0 : Int), (0 : Int), (0 : Int), false) := fun L x hx => spec_wkParse_j0_ev _ _ _ (M.evp hx (Ev.now _))
  by_cases h5 : (s.size : Int) > 12
  · refine ⟨(0, 0, 0, false), ?_, fun h => by simp at h, fun _ => rfl, fun a b c h => by have := (PW_split h).2; omega⟩
    unfold spec_wkParse.f
    exact Ev.bind hL (M.evp h5 (no _ _ rfl))
  · by_cases h2 : (M.spl s 64 s.size [] 0 0).length = 2
    · obtain ⟨A, B, hAB⟩ : ∃ A B, M.spl s 64 s.size [] 0 0 = [A, B] := by
        match M.spl s 64 s.size [] 0 0, h2 with
        | [A, B], _ => exact ⟨A, B, rfl⟩
      have hB : B.size ≤ 1048576 := M.spl_size hs (by rw [hAB]; simp)
      rw [hAB] at hL
      have pb : ∀ a b c, PW s a b c → A = M.tx a ∧ B = BW b c := fun a b c h => by
        have := (PW_split h).1
        rw [hAB] at this
        simpa using this
      have last : Ev (fun k => spec_wkParse.l0 k s [A, B] [43, 45] 2 (wrap64 (((1 : Nat) : Int) + 1))) ((0 : Int), (0 : Int), (0 : Int), false) := spec_wkParse_l0_ev _ _ _ _ _ (M.evn (by rw [show (wrap64 (((1 : Nat) : Int) + 1)) = 2 by unfold wrap64; omega]; decide) (Ev.now _))
      obtain ⟨ra, a1, a2, a3, a4⟩ := wk_l0 s A B hB 1 45 (by omega) rfl _ last
      have a1' : Ev (fun k => spec_wkParse.l0 k s [A, B] [43, 45] 2 (wrap64 (((0 : Nat) : Int) + 1))) ra := by rw [show (wrap64 (((0 : Nat) : Int) + 1)) = ((1 : Nat) : Int) by unfold wrap64; omega]; exact a1
      obtain ⟨rb, b1, b2, b3, b4⟩ := wk_l0 s A B hB 0 43 (by omega) rfl _ a1'
      have hall : rb = (0, 0, 0, false) ∨ (rb.2.2.2 = true ∧ PW s rb.1 rb.2.1 rb.2.2.1) := by
        rcases b2 with b2 | b2 | b2
        · exact .inl b2
        · exact .inr b2
        · subst b2
          rcases a2 with a2 | a2 | a2
          · exact .inl a2
          · exact .inr a2
          · exact .inl a2
      refine ⟨rb, ?_, fun h => ?_, fun h => ?_, fun a b c hp => ?_⟩
      · unfold spec_wkParse.f
        refine Ev.bind hL (M.evn h5 (spec_wkParse_j0_ev _ _ _ (M.evn (by simp) ?_)))
        exact b1
      · rcases hall with e | e
        · rw [e] at h; simp at h
        · exact e.2
      · rcases hall with e | e
        · exact e
        · rw [e.1] at h; simp at h
      · obtain ⟨e1, e2⟩ := pb a b c hp
        by_cases hc : c < 0
        · have e3 := b4 (by rw [e2, BW_other (by have := hp.1.2.2.1; omega) hc]; decide)
          rw [e3]
          exact a3 a b c hp e1 e2 (by rw [if_pos hc])
        · exact b3 a b c hp e1 e2 (by rw [if_neg hc])
    · refine ⟨(0, 0, 0, false), ?_, fun h => by simp at h, fun _ => rfl, fun a b c h => by rw [(PW_split h).1] at h2; simp at h2⟩
      unfold spec_wkParse.f
      refine Ev.bind hL (M.evn h5 (no _ _ ?_))
      rw [bne_iff_ne]; omega
theorem sParseWalker_ev (s : ByteArray) (hs : s.size ≤ 1048576) : ∃ r : Int × Int × Int × Bool, Ev (fun k => spec_ParseWalker.f k s) r ∧ (r.2.2.2 = true → PW s r.1 r.2.1 r.2.2.1) ∧ (r.2.2.2 = false → r = (0, 0, 0, false)) ∧ ∀ a b c, PW s a b c → r = (a, b, c, true) := by
  obtain ⟨r, h1, h2⟩ := wkParse_ev s hs
  unfold spec_ParseWalker.f
  exact ⟨r, Ev.bind h1 (Ev.now _), h2⟩
theorem cut_eq (s sep : ByteArray) (hs : s.size ≤ 1048576) : strings_Cut.f s sep = some (⟨(Lib.cut s.data.toList sep.data.toList).1.toArray⟩, ⟨(Lib.cut s.data.toList sep.data.toList).2.1.toArray⟩, (Lib.cut s.data.toList sep.data.toList).2.2) := by unfold strings_Cut.f; rw [if_pos (by omega)]
/-- Both parts are numbers' own texts: the text is theirs. -/
theorem cut_two {s : ByteArray} {c : UInt8} {x y : Int} (hx : numOf ⟨(Lib.cut s.data.toList [c]).1.toArray⟩ = (x, true)) (hy : numOf ⟨(Lib.cut s.data.toList [c]).2.1.toArray⟩ = (y, true)) : s = M.tx x ++ (⟨#[c]⟩ : ByteArray) ++ M.tx y := by
  obtain ⟨⟨p, q, f⟩, hc⟩ : ∃ t, Lib.cut s.data.toList [c] = t := ⟨_, rfl⟩
  rw [hc] at hx hy
  have e1 := M.numOf_true hx
  have e2 := M.numOf_true hy
  cases f with
  | true =>
    have h := M.cut_found hc
    apply M.ba_inj
    rw [← e1, ← e2, M.ba_app, M.ba_app, h]
    simp
  | false =>
    have h := M.cut_lost hc
    subst h
    have := M.numOf_empty
    rw [show ByteArray.empty = (⟨([] : List UInt8).toArray⟩ : ByteArray) from rfl, hy] at this
    simp at this
theorem cut_tx {c : UInt8} {x y : Int} (h1 : c ∉ (M.tx x).data.toList) : Lib.cut (M.tx x ++ (⟨#[c]⟩ : ByteArray) ++ M.tx y).data.toList [c] = ((M.tx x).data.toList, (M.tx y).data.toList, true) := by
  rw [M.ba_app, M.ba_app]
  have := M.cut_mid (B := (M.tx y).data.toList) h1
  simpa using this
theorem cut_small (s : ByteArray) (c : UInt8) (hs : s.size ≤ 1048576) : (⟨(Lib.cut s.data.toList [c]).1.toArray⟩ : ByteArray).size ≤ 1048576 ∧ (⟨(Lib.cut s.data.toList [c]).2.1.toArray⟩ : ByteArray).size ≤ 1048576 := by
  have hl : s.data.toList.length ≤ 1048576 := by rw [← M.ba_len]; exact hs
  rw [M.ba_len, M.ba_len]
  simp only [M.ba_list]
  unfold Lib.cut
  split
  · simp only [List.length_take, List.length_drop]; omega
  · simp only [List.length_nil]; omega
theorem indexAny_le (chars : List UInt8) : ∀ l : List UInt8, Lib.indexAny l chars ≤ l.length
  | [] => by simp [Lib.indexAny]
  | b :: l => by
    have ih := indexAny_le chars l
    unfold Lib.indexAny
    split
    · simp; omega
    · split <;> simp <;> omega
theorem indexAny_eq (s : ByteArray) (hs : s.size ≤ 1048576) : strings_IndexAny.f s (⟨#[43, 45]⟩ : ByteArray) = some (Lib.indexAny s.data.toList [43, 45]) := by unfold strings_IndexAny.f; rw [if_pos ⟨rfl, by omega⟩]
theorem text_eq (n : Int) (h0 : -9223372036854775808 ≤ n) (h1 : n ≤ 9223372036854775807) : impl_text.f n = some (M.tx n) := by unfold impl_text.f; rw [if_pos ⟨h0, h1⟩]; rfl
theorem number_eq (s : ByteArray) (hs : s.size ≤ 1048576) : impl_number.f s = some (numOf s) := by unfold impl_number.f; rw [if_pos (by omega)]
theorem trimPrefix_eq (s p : ByteArray) : strings_TrimPrefix.f s p = some ⟨(Lib.trimPrefix s.data.toList p.data.toList).toArray⟩ := rfl
theorem within_eq (a b c : Int) : impl_within.f a b c = some (decide (b ≤ a ∧ a ≤ c)) := by
  unfold impl_within.f
  by_cases h : b ≤ a <;> simp [h]
theorem isLamp_eq (a : Int) : impl_isLamp.f a = some (decide (2 ≤ a ∧ a ≤ 200)) := by simp [impl_isLamp.f, within_eq]
theorem IsWalker_eq (l h p s : Int) : impl_IsWalker.f l h p s = some (decide (M.Wk l h p s)) := by
  unfold impl_IsWalker.f M.Wk
  by_cases h1 : 2 ≤ l ∧ l ≤ 200
  · have e : wrap64 (l - 1) = l - 1 := M.wrap_id (by omega) (by omega)
    by_cases h2 : 1 ≤ h ∧ h ≤ l - 1 <;> by_cases h3 : 0 ≤ p ∧ p ≤ 500 <;> simp [within_eq, isLamp_eq, h1, h2, h3, e]
  · simp [isLamp_eq, h1]
theorem iWalkerText_eq (h p s : Int) : impl_WalkerText.f h p s = some (if M.Wk 200 h p s then (M.tx h ++ (⟨#[64]⟩ : ByteArray) ++ M.tx p ++ (if s < 0 then (⟨#[45]⟩ : ByteArray) else ⟨#[43]⟩) ++ M.tx s.natAbs, true) else ((⟨#[]⟩ : ByteArray), false)) := by
  unfold impl_WalkerText.f
  rw [IsWalker_eq]
  simp only [Option.bind_some, decide_eq_true_eq]
  by_cases hw : M.Wk 200 h p s
  · rw [if_pos hw, if_pos hw]
    obtain ⟨_, a1, a2, a3⟩ := hw
    have h1 := M.tx_size h (by omega) (by omega)
    have h2 := M.tx_size p (by omega) (by omega)
    have h3 := M.tx_size s (by omega) (by omega)
    rw [text_eq h (by omega) (by omega), text_eq p (by omega) (by omega), text_eq s (by omega) (by omega)]
    simp only [Option.bind_some]
    by_cases hs : s < 0
    · have e : (s.natAbs : Int) = -s := by omega
      rw [if_neg (show ¬ s ≥ 0 by omega), if_pos hs, e, if_pos (by omega), if_pos (by simp only [ByteArray.size_append, M.ba_size1]; omega), if_pos (by simp only [ByteArray.size_append, M.ba_size1]; omega)]
      have e2 := M.tx_neg hs
      rw [M.ba_assoc _ (⟨#[45]⟩ : ByteArray), ← e2]
    · have e : (s.natAbs : Int) = s := by omega
      rw [if_pos (show s ≥ 0 by omega), if_neg hs, e, if_pos (by omega), if_pos (by simp only [ByteArray.size_append, M.ba_size1]; omega), if_pos (by simp only [ByteArray.size_append, M.ba_size1]; omega), if_pos (by simp only [ByteArray.size_append, M.ba_size1]; omega)]
  · rw [if_neg hw, if_neg hw]
theorem tx_neg_list {v : Int} (hv : v < 0) : (M.tx v).data.toList = 45 :: (M.tx (v.natAbs : Int)).data.toList := by
  rw [M.tx_data, M.tx_data]
  unfold Lib.itoa
  rw [if_pos hv, if_neg (by omega)]
  rfl
theorem iParseWalker_eq (s : ByteArray) (hs : s.size ≤ 1048576) : ∃ r : Int × Int × Int × Bool, impl_ParseWalker.f s = some r ∧ (r.2.2.2 = true → PW s r.1 r.2.1 r.2.2.1) ∧ (r.2.2.2 = false → r = (0, 0, 0, false)) ∧ ∀ a b c, PW s a b c → r = (a, b, c, true) := by
  have hc := cut_eq s (⟨#[64]⟩ : ByteArray) hs
  rw [show (⟨#[64]⟩ : ByteArray).data.toList = [64] from rfl] at hc
  obtain ⟨z1, z2⟩ := cut_small s 64 hs
  have cutW : ∀ a b c, PW s a b c → Lib.cut s.data.toList [64] = ((M.tx a).data.toList, (BW b c).data.toList, true) := fun a b c h => by
    rw [h.2, TW_eq, M.ba_app, M.ba_app]
    have := M.cut_mid (B := (BW b c).data.toList) (c := 64) (M.tx_no (n := a) (by decide) (by decide))
    simpa using this
  generalize hA : (Lib.cut s.data.toList [64]).1 = A at *
  generalize hB : (Lib.cut s.data.toList [64]).2.1 = B at *
  unfold impl_ParseWalker.f
  rw [hc, Option.bind_some]
  simp only
  rw [indexAny_eq _ z2, Option.bind_some]
  simp only [M.ba_list]
  have ge := Lib.indexAny_ge [43, 45] B
  have le := indexAny_le [43, 45] B
  have hBs : ((⟨B.toArray⟩ : ByteArray).size : Int) = B.length := by rw [M.ba_len, M.ba_list]
  -- the good case
  have good : ∀ a b c, PW s a b c → A = (M.tx a).data.toList ∧ B = (BW b c).data.toList ∧ Lib.indexAny B [43, 45] = ((M.tx b).data.toList.length : Int) := fun a b c h => by
    have e := cutW a b c h
    have eA : A = (M.tx a).data.toList := by rw [← hA, e]
    have eB : B = (BW b c).data.toList := by rw [← hB, e]
    refine ⟨eA, eB, ?_⟩
    rw [eB]
    have hb := h.1.2.2.1
    have nb : ∀ x ∈ (M.tx b).data.toList, ([43, 45] : List UInt8).contains x = false := fun x hx => by
      have n1 : x ≠ 43 := fun e => M.tx_no' (n := b) (c := 43) (by omega) (by decide) (e ▸ hx)
      have n2 : x ≠ 45 := fun e => M.tx_no' (n := b) (c := 45) (by omega) (by decide) (e ▸ hx)
      simp [n1, n2]
    have hl : (BW b c).data.toList = (M.tx b).data.toList ++ (if c < 0 then 45 else 43) :: (M.tx (c.natAbs : Int)).data.toList := by
      unfold BW
      rw [M.ba_app, M.ba_app]
      split <;> simp
    rw [hl]
    refine Lib.indexAny_hit (x := if c < 0 then 45 else 43) (fun j y hj hy => ?_) (by rw [List.getElem?_append_right (Nat.le_refl _)]; simp) (by split <;> rfl)
    rw [List.getElem?_append_left hj] at hy
    exact nb y (List.mem_of_getElem? hy)
  by_cases hk : Lib.indexAny B [43, 45] < 0
  · rw [if_pos hk]
    exact ⟨(0, 0, 0, false), rfl, fun h => by simp at h, fun _ => rfl, fun a b c h => by have := (good a b c h).2.2; omega⟩
  · rw [if_neg hk, number_eq _ z1, Option.bind_some, if_pos (by omega), if_pos (by omega)]
    obtain ⟨k, hkk⟩ := Int.eq_ofNat_of_zero_le (a := Lib.indexAny B [43, 45]) (by omega)
    rw [hkk] at le good ⊢
    simp only [Int.toNat_natCast]
    have hBl : B.length ≤ 1048576 := by have := z2; rw [M.ba_len, M.ba_list] at this; exact this
    have y1 : ((⟨B.toArray⟩ : ByteArray).extract 0 k).size ≤ 1048576 := by rw [M.ba_len, M.ext_list, M.ba_list]; simp; omega
    have y2 : ((⟨B.toArray⟩ : ByteArray).extract k (⟨B.toArray⟩ : ByteArray).size).data.toList = B.drop k := by
      rw [M.ext_list, M.ba_list, M.ba_len, M.ba_list]
      exact List.take_of_length_le (by rw [List.length_drop]; exact Nat.le_refl _)
    rw [number_eq _ y1, Option.bind_some, trimPrefix_eq, Option.bind_some, y2]
    have y3 : (⟨(Lib.trimPrefix (B.drop k) (⟨#[43]⟩ : ByteArray).data.toList).toArray⟩ : ByteArray).size ≤ 1048576 := by
      rw [M.ba_len, M.ba_list]
      unfold Lib.trimPrefix
      split <;> simp only [List.length_drop] <;> omega
    rw [number_eq _ y3, Option.bind_some, iWalkerText_eq, Option.bind_some]
    generalize hx : numOf ⟨A.toArray⟩ = X
    generalize hy : numOf ((⟨B.toArray⟩ : ByteArray).extract 0 k) = Y
    generalize hz : numOf ⟨(Lib.trimPrefix (B.drop k) (⟨#[43]⟩ : ByteArray).data.toList).toArray⟩ = Z
    have pb : ∀ a b c, PW s a b c → X = (a, true) ∧ Y = (b, true) ∧ Z = (c, true) := fun a b c h => by
      obtain ⟨eA, eB, eK⟩ := good a b c h
      obtain ⟨⟨_, _⟩, ⟨_, _⟩, ⟨_, _⟩, _, _⟩ := h.1
      have hl : B = (M.tx b).data.toList ++ (if c < 0 then 45 else 43) :: (M.tx (c.natAbs : Int)).data.toList := by
        rw [eB]; unfold BW
        rw [M.ba_app, M.ba_app]
        split <;> simp
      have eK2 : k = (M.tx b).data.toList.length := by omega
      refine ⟨?_, ?_, ?_⟩
      · rw [← hx, eA, M.ba_mk, M.numOf_tx (by omega) (by omega)]
      · have e : (⟨B.toArray⟩ : ByteArray).extract 0 k = M.tx b := M.ba_inj (by rw [M.ext_list, M.ba_list, hl, eK2]; simp)
        rw [← hy, e, M.numOf_tx (by omega) (by omega)]
      · have e : B.drop k = (if c < 0 then 45 else 43) :: (M.tx (c.natAbs : Int)).data.toList := by rw [hl, eK2, List.drop_left]
        have e2 : Lib.trimPrefix (B.drop k) (⟨#[43]⟩ : ByteArray).data.toList = (M.tx c).data.toList := by
          rw [e]
          by_cases hc : c < 0
          · rw [if_pos hc, tx_neg_list hc]; rfl
          · rw [if_neg hc, show ((c.natAbs : Nat) : Int) = c by omega]; rfl
        rw [← hz, e2, M.ba_mk, M.numOf_tx (by omega) (by omega)]
    obtain ⟨x, p⟩ := X
    obtain ⟨y, q⟩ := Y
    obtain ⟨z, t⟩ := Z
    simp only
    have bad : ∀ P : Prop, (∀ a b c, PW s a b c → ¬ P) → P → ∃ r : Int × Int × Int × Bool, some ((0 : Int), (0 : Int), (0 : Int), false) = some r ∧ (r.2.2.2 = true → PW s r.1 r.2.1 r.2.2.1) ∧ (r.2.2.2 = false → r = (0, 0, 0, false)) ∧ ∀ a b c, PW s a b c → r = (a, b, c, true) := fun P h hp =>
      ⟨(0, 0, 0, false), rfl, fun h => by simp at h, fun _ => rfl, fun a b c hw => absurd hp (h a b c hw)⟩
    cases p with
    | false => exact bad True (fun a b c h => by have := (pb a b c h).1; simp at this) trivial
    | true =>
      cases q with
      | false => exact bad True (fun a b c h => by have := (pb a b c h).2.1; simp at this) trivial
      | true =>
        cases t with
        | false => exact bad True (fun a b c h => by have := (pb a b c h).2.2; simp at this) trivial
        | true =>
          rw [if_pos rfl, if_pos rfl, if_pos rfl]
          by_cases hw : M.Wk 200 x y z
          · rw [if_pos hw]
            simp only [if_true]
            by_cases ht : (TW x y z).toList = s.toList
            · have hsT : s = TW x y z := by
                have := M.ba_beq (a := TW x y z) (b := s)
                rw [ht, beq_self_eq_true] at this
                exact (of_decide_eq_true this.symm).symm
              refine ⟨(x, y, z, true), if_pos ht, fun _ => ⟨hw, hsT⟩, fun h => by simp at h, fun a b c h => ?_⟩
              obtain ⟨e1, e2, e3⟩ := pb a b c h
              simp only [Prod.mk.injEq, and_true] at e1 e2 e3
              rw [e1, e2, e3]
            · have : (if (TW x y z).toList = s.toList then some (x, y, z, true) else some ((0 : Int), (0 : Int), (0 : Int), false)) = some (0, 0, 0, false) := if_neg ht
              refine ⟨(0, 0, 0, false), this, fun h => by simp at h, fun _ => rfl, fun a b c h => ?_⟩
              obtain ⟨e1, e2, e3⟩ := pb a b c h
              simp only [Prod.mk.injEq, and_true] at e1 e2 e3
              exact absurd (by rw [e1, e2, e3, ← h.2]) ht
          · rw [if_neg hw]
            refine bad True (fun a b c h => ?_) trivial
            obtain ⟨e1, e2, e3⟩ := pb a b c h
            simp only [Prod.mk.injEq, and_true] at e1 e2 e3
            exact absurd (by rw [e1, e2, e3]; exact h.1) hw
theorem eqWalker_self (a b c : Int) : laws_eqWalker.f a b c a b c = some true := by simp [laws_eqWalker.f]
theorem law : StFnExactParseWalker.Pure := by
  intro s _
  unfold laws_FnExactParseWalker.f
  by_cases hs : (s.size : Int) > 1048576
  · exact Ev.rounds (M.evp hs (Ev.now _))
  · obtain ⟨r, h1, h2, h3, h4⟩ := sParseWalker_ev s (by omega)
    obtain ⟨r', i1, i2, i3, i4⟩ := iParseWalker_eq s (by omega)
    have e : r' = r := by
      cases hb : r.2.2.2 with
      | true => rw [i4 _ _ _ (h2 hb)]; exact (h4 _ _ _ (h2 hb)).symm
      | false =>
        cases hb' : r'.2.2.2 with
        | true => have := h4 _ _ _ (i2 hb'); rw [this] at hb; simp at hb
        | false => rw [h3 hb, i3 hb']
    subst e
    refine Ev.rounds (M.evn hs (Ev.bind h1 ?_))
    rw [i1]
    simp only [Option.bind_some, laws_eqWalker.f, if_true, bne_self_eq_false, Bool.false_eq_true, if_false]
    exact Ev.now _
end Go.Proofs.YtfnjfjkkdhomcaaDoor.PbFnExactParseWalker
namespace Go.Proofs.YtfnjfjkkdhomcaaDoor.Pure
theorem FnExactParseWalker : StFnExactParseWalker.Pure := PbFnExactParseWalker.law
end Go.Proofs.YtfnjfjkkdhomcaaDoor.Pure
