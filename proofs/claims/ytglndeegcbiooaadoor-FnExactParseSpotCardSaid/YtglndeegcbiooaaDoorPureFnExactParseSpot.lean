/- The plain part of FnExactParseSpot: what the printed functions of the program and of the reference answer, in plain Lean, and that the law answers true. No condition. -/
import Derived.Test.YtglndeegcbiooaaDoorStFnExactParseSpot
import Derived.Test.YtglndeegcbiooaaDoorM
import Derived.Test.YtglndeegcbiooaaDoorMp
namespace Go.Proofs.YtglndeegcbiooaaDoor.PbFnExactParseSpot
open Go.RowKit Go.Proofs.YtglndeegcbiooaaDoor Go.Proofs.YtglndeegcbiooaaDoor.PFnExactParseSpot Go.Proofs.YtglndeegcbiooaaDoorW.PrintWords Go.Proofs.YtglndeegcbiooaaDoorW.PrintLast
set_option linter.unusedVariables false
set_option linter.unusedSimpArgs false

theorem l1In_eq (a b c : Int) : spec_l1In.f a b c = some (decide (b ≤ a ∧ a ≤ c)) := by
  unfold spec_l1In.f
  by_cases h : b ≤ a <;> simp [h]
theorem lwSpot_eq (x y : Int) : spec_lwSpot.f x y = some (decide ((-1000 ≤ x ∧ x ≤ 1000) ∧ 1 ≤ y ∧ y ≤ 1000)) := by
  unfold spec_lwSpot.f
  by_cases h : -1000 ≤ x ∧ x ≤ 1000 <;> simp [l1In_eq, h]
theorem l1Num_step {r : ByteArray} (n : Int) (h : Ev (fun k => if n < 10 then (some (strOfNums (([(wrap64 (48 + n)) % 256] : List Int)))) else ((spec_l1Num.f k (wrap64 (Int.tdiv n 10))).bind fun t107 => ((some (([(wrap64 (48 + (Int.tmod n 10))) % 256] : List Int) : List Int)).bind fun y108 => (if t107.size + (strOfNums y108).size ≤ 9223372036854775807 then (some (t107 ++ (strOfNums y108))) else (none))))) r) : Ev (fun k => spec_l1Num.f k n) r := Ev.step (fun k => by simp only [spec_l1Num.f]) h
theorem l1Num_ev : ∀ (q : Nat) (n : Int), n.toNat < q → 0 ≤ n → n ≤ 9223372036854775807 → Ev (fun k => spec_l1Num.f k n) (M.tx n)
  | 0, _, h, _, _ => by omega
  | q + 1, n, h, h0, h1 => by
    refine l1Num_step n ?_
    by_cases hn : n < 10
    · rw [M.tx_small h0 hn]
      exact M.evp hn (Ev.now _)
    · have ed : Int.tdiv n 10 = n / 10 := Int.tdiv_eq_ediv_of_nonneg h0
      refine M.evn hn ?_
      rw [ed, M.wrap_id (n := n / 10) (by omega) (by omega), M.tx_big (by omega) h1]
      refine Ev.bind (l1Num_ev q (n / 10) (by omega) (by omega) (by omega)) ?_
      have := M.tx_size (n / 10) (by omega) (by omega)
      simp only [Option.bind_some]
      exact M.evp (by rw [strOfNums_size]; simp only [List.length_cons, List.length_nil]; omega) (Ev.now _)
theorem l1Num (n : Int) (h0 : 0 ≤ n) (h1 : n ≤ 9223372036854775807) : Ev (fun k => spec_l1Num.f k n) (M.tx n) := l1Num_ev (n.toNat + 1) n (by omega) h0 h1
theorem lwText_ev (a b : Int) (ha : -1000 ≤ a ∧ a ≤ 1000) (hb : 1 ≤ b ∧ b ≤ 1000) : Ev (fun k => spec_lwText.f k a b) (M.tx a ++ (⟨#[44]⟩ : ByteArray) ++ M.tx b) := by
  unfold spec_lwText.f
  have h1 := M.tx_size a (by omega) (by omega)
  have h2 := M.tx_size b (by omega) (by omega)
  by_cases hn : a < 0
  · have h3 := M.tx_size (-a) (by omega) (by omega)
    rw [M.tx_neg hn]
    refine M.evp hn ?_
    rw [M.wrap_id (n := -a) (by omega) (by omega)]
    refine Ev.bind (l1Num (-a) (by omega) (by omega)) (M.evp (by omega) (M.evp ?_ (Ev.bind (l1Num b (by omega) (by omega)) (M.evp ?_ (Ev.now _)))))
    · simp only [ByteArray.size_append, M.ba_size1]; omega
    · simp only [ByteArray.size_append, M.ba_size1]; omega
  · refine M.evn hn (Ev.bind (l1Num a (by omega) (by omega)) (M.evp (by omega) (Ev.bind (l1Num b (by omega) (by omega)) (M.evp ?_ (Ev.now _)))))
    simp only [ByteArray.size_append, M.ba_size1]; omega
theorem spec_l1Split_l0_ev (x0 : ByteArray) (x1 : Int) (x5 : List ByteArray) (x6 : Int) (x7 : Int) {r : (List ByteArray)} (h : Ev (fun k => if x7 < (x0.size : Int) then (if 0 ≤ x7 then (if (bt x0 x7) = x1 then (if 0 ≤ x6 then (if x6 ≤ x7 then (if x7 ≤ (x0.size : Int) then (if x5.length < 8796093022208 then (spec_l1Split.l0 k x0 x1 (x5 ++ [x0.extract (x6 : Int).toNat (x7 : Int).toNat]) (wrap64 (x7 + 1)) (wrap64 (x7 + 1))) else (none)) else (none)) else (none)) else (none)) else (spec_l1Split.l0 k x0 x1 x5 x6 (wrap64 (x7 + 1)))) else (none)) else (if 0 ≤ x6 then (if x6 ≤ (x0.size : Int) then (if x5.length < 8796093022208 then (some (x5 ++ [x0.extract (x6 : Int).toNat x0.size])) else (none)) else (none)) else (none))) r) : Ev (fun k => spec_l1Split.l0 k x0 x1 x5 x6 x7) r := Ev.step (fun k => by simp only [spec_l1Split.l0]) h
theorem l1Split_l0 (s : ByteArray) (c : Int) (hs : s.size ≤ 1048576) : ∀ (q : Nat) (acc : List ByteArray) (from_ i : Nat), i + q = s.size → from_ ≤ i → acc.length ≤ i →
    Ev (fun k => spec_l1Split.l0 k s c acc (from_ : Int) (i : Int)) (M.spl s c q acc from_ i)
  | 0, acc, from_, i, hq, hf, ha => by
    refine spec_l1Split_l0_ev _ _ _ _ _ (M.evn (by omega) (M.evp (by omega) (M.evp (by omega) (M.evp (by omega) ?_))))
    rw [M.spl, Int.toNat_natCast]
    exact Ev.now _
  | q + 1, acc, from_, i, hq, hf, ha => by
    have hw : wrap64 ((i : Int) + 1) = ((i + 1 : Nat) : Int) := by rw [M.wrap_id (by omega) (by omega)]; omega
    refine spec_l1Split_l0_ev _ _ _ _ _ (M.evp (by omega) (M.evp (by omega) ?_))
    rw [M.spl, hw]
    by_cases hc : bt s i = c
    · rw [if_pos hc]
      refine M.evp hc (M.evp (by omega) (M.evp (by omega) (M.evp (by omega) (M.evp (by omega) ?_))))
      rw [Int.toNat_natCast, Int.toNat_natCast]
      exact l1Split_l0 s c hs q _ (i + 1) (i + 1) (by omega) (Nat.le_refl _) (by simp; omega)
    · rw [if_neg hc]
      exact M.evn hc (l1Split_l0 s c hs q acc from_ (i + 1) (by omega) (by omega) (by omega))
theorem l1Split_ev (s : ByteArray) (c : Int) (hs : s.size ≤ 1048576) : Ev (fun k => spec_l1Split.f k s c) (M.spl s c s.size [] 0 0) := by
  unfold spec_l1Split.f
  exact l1Split_l0 s c hs s.size [] 0 0 (by omega) (Nat.le_refl _) (by simp)
theorem spec_l1Read_j0_ev (x0 : ByteArray) (x18 : Bool) {r : (Int)} (h : Ev (fun k => if x18 = true then (some (-1)) else (spec_l1Read.l0 k x0 0 0)) r) : Ev (fun k => spec_l1Read.j0 k x0 x18) r := Ev.step (fun k => by simp only [spec_l1Read.j0]) h
theorem spec_l1Read_l0_ev (x0 : ByteArray) (x3 : Int) (x4 : Int) {r : (Int)} (h : Ev (fun k => if x4 < (x0.size : Int) then (if 0 ≤ x4 then (if (bt x0 x4) < 48 then (some (-1)) else (if (bt x0 x4) > 57 then (some (-1)) else (spec_l1Read.l0 k x0 (wrap64 ((wrap64 (10 * x3)) + (((bt x0 x4) - 48) % 256))) (wrap64 (x4 + 1))))) else (none)) else (some x3)) r) : Ev (fun k => spec_l1Read.l0 k x0 x3 x4) r := Ev.step (fun k => by simp only [spec_l1Read.l0]) h
theorem l1Read_l0 (s : ByteArray) (hs : s.size ≤ 6) : ∀ (q : Nat) (n : Int) (i : Nat), i + q = s.size →
    ∃ r, Ev (fun k => spec_l1Read.l0 k s n (i : Int)) r ∧ ((∀ b ∈ s.data.toList.drop i, 48 ≤ b.toNat ∧ b.toNat ≤ 57) → 0 ≤ n → n < 10 ^ i → r = M.valD n (s.data.toList.drop i))
  | 0, n, i, hq => by
    refine ⟨n, spec_l1Read_l0_ev _ _ _ (M.evn (by omega) (Ev.now _)), fun _ _ _ => ?_⟩
    rw [List.drop_eq_nil_of_le (by rw [← M.ba_len]; omega)]
    rfl
  | q + 1, n, i, hq => by
    have hi : i < s.data.toList.length := by rw [← M.ba_len]; omega
    have hb : bt s i = ((s.data.toList[i]).toNat : Int) := by rw [M.bt_list, List.getElem?_eq_getElem hi]; rfl
    have hd : s.data.toList.drop i = s.data.toList[i] :: s.data.toList.drop (i + 1) := List.drop_eq_getElem_cons hi
    have hw : wrap64 ((i : Int) + 1) = ((i + 1 : Nat) : Int) := by rw [M.wrap_id (by omega) (by omega)]; omega
    have h0 : ∀ r, Ev (fun k => if bt s i < 48 then (some (-1)) else (if bt s i > 57 then (some (-1)) else (spec_l1Read.l0 k s (wrap64 ((wrap64 (10 * n)) + ((bt s i - 48) % 256))) (wrap64 ((i : Int) + 1))))) r → Ev (fun k => spec_l1Read.l0 k s n (i : Int)) r :=
      fun r h => spec_l1Read_l0_ev _ _ _ (M.evp (by omega) (M.evp (by omega) h))
    by_cases h1 : bt s i < 48
    · refine ⟨-1, h0 _ (M.evp h1 (Ev.now _)), fun h _ _ => ?_⟩
      have := h (s.data.toList[i]) (by rw [hd]; exact List.mem_cons_self)
      omega
    · by_cases h2 : bt s i > 57
      · refine ⟨-1, h0 _ (M.evn h1 (M.evp h2 (Ev.now _))), fun h _ _ => ?_⟩
        have := h (s.data.toList[i]) (by rw [hd]; exact List.mem_cons_self)
        omega
      · obtain ⟨r, hr, hv⟩ := l1Read_l0 s hs q (wrap64 ((wrap64 (10 * n)) + ((bt s i - 48) % 256))) (i + 1) (by omega)
        rw [← hw] at hr
        refine ⟨r, h0 _ (M.evn h1 (M.evn h2 hr)), fun h hn hn2 => ?_⟩
        have hp : (10 : Int) ^ i ≤ 100000 := by
          have : i ≤ 5 := by omega
          have e : ∀ j : Nat, j ≤ 5 → (10 : Int) ^ j ≤ 100000 := by
            intro j hj
            match j, hj with
            | 0, _ | 1, _ | 2, _ | 3, _ | 4, _ | 5, _ => decide
          exact e i this
        have e1 : wrap64 (10 * n) = 10 * n := M.wrap_id (by omega) (by omega)
        have e2 : (bt s i - 48) % 256 = bt s i - 48 := by omega
        rw [e1, e2, M.wrap_id (by omega) (by omega)] at hv
        have := hv (fun b hb => h b (by rw [hd]; exact List.mem_cons_of_mem _ hb)) (by omega) (by rw [Int.pow_succ]; omega)
        rw [this, hd, hb]
        rfl
theorem l1Read_ev (s : ByteArray) : ∃ r, Ev (fun k => spec_l1Read.f k s) r ∧ ∀ u : Int, 0 ≤ u → u < 1000000 → s = M.tx u → r = u := by
  have hf : ∀ r, Ev (fun k => if (decide (1 ≤ (s.size : Int) ∧ (s.size : Int) ≤ 6)) = true then (if 0 < (s.size : Int) then (if (bt s 0) = 48 then (spec_l1Read.j0 k s (decide ((s.size : Int) > 1))) else (spec_l1Read.j0 k s false)) else (none)) else (spec_l1Read.j0 k s true)) r → Ev (fun k => spec_l1Read.f k s) r := fun r h => by
    simp only [spec_l1Read.f, l1In_eq, Option.bind_some]; exact h
  by_cases hs : 1 ≤ (s.size : Int) ∧ (s.size : Int) ≤ 6
  · have hg : ∀ r, Ev (fun k => spec_l1Read.l0 k s 0 0) r → Ev (fun k => spec_l1Read.j0 k s false) r := fun r h => spec_l1Read_j0_ev _ _ (M.evn (by simp) h)
    obtain ⟨r, hr, hv⟩ := l1Read_l0 s (by omega) s.size 0 0 (by omega)
    by_cases hz : bt s 0 = 48
    · by_cases h1 : (s.size : Int) > 1
      · refine ⟨-1, hf _ (M.evp (by simpa using hs) (M.evp (by omega) (M.evp hz ?_))), fun u h0 h2 he => ?_⟩
        · rw [decide_eq_true h1]; exact spec_l1Read_j0_ev _ _ (M.evp rfl (Ev.now _))
        · exfalso
          subst he
          have hl : (M.tx u).data.toList = Lib.decDigits u.toNat := by rw [M.tx_data]; unfold Lib.itoa; rw [if_neg (by omega)]
          cases hd : Lib.decDigits u.toNat with
          | nil => exact M.dec_ne_nil _ hd
          | cons b t =>
            have hb : bt (M.tx u) 0 = (b.toNat : Int) := by
              rw [show (0 : Int) = ((0 : Nat) : Int) from rfl, M.bt_list, hl, hd]; rfl
            by_cases hu : u < 10
            · rw [M.ba_len, hl, Lib.decDigits_one (by omega)] at h1
              simp at h1
            · have := M.dec_head (u.toNat + 1) u.toNat (by omega) (by omega) b t hd
              omega
      · refine ⟨r, hf _ (M.evp (by simpa using hs) (M.evp (by omega) (M.evp hz ?_))), fun u h0 h2 he => ?_⟩
        · rw [decide_eq_false h1]; exact hg _ hr
        · subst he
          have hl : (M.tx u).data.toList = Lib.decDigits u.toNat := by rw [M.tx_data]; unfold Lib.itoa; rw [if_neg (by omega)]
          rw [hv (fun b hb => M.dec_digit (by rw [hl] at hb; exact hb)) (by omega) (by decide), hl]
          show M.valD 0 (Lib.decDigits u.toNat) = u
          rw [M.valD_dec (u.toNat + 1) u.toNat (by omega)]; omega
    · refine ⟨r, hf _ (M.evp (by simpa using hs) (M.evp (by omega) (M.evn hz (hg _ hr)))), fun u h0 h2 he => ?_⟩
      subst he
      have hl : (M.tx u).data.toList = Lib.decDigits u.toNat := by rw [M.tx_data]; unfold Lib.itoa; rw [if_neg (by omega)]
      rw [hv (fun b hb => M.dec_digit (by rw [hl] at hb; exact hb)) (by omega) (by decide), hl]
      show M.valD 0 (Lib.decDigits u.toNat) = u
      rw [M.valD_dec (u.toNat + 1) u.toNat (by omega)]; omega
  · refine ⟨-1, hf _ (M.evn (by simpa using hs) (spec_l1Read_j0_ev _ _ (M.evp rfl (Ev.now _)))), fun u h0 h2 he => ?_⟩
    exfalso
    apply hs
    subst he
    rw [M.tx_len]
    unfold Lib.itoa
    rw [if_neg (by omega), Lib.decDigits_length]
    have := M.nd_le 5 u.toNat (by omega)
    have := Lib.nDigits_pos u.toNat
    omega
theorem spec_lwParse_j0_ev (x0 : ByteArray) (x4 : List ByteArray) (x21 : Bool) {r : (Int × Int × Bool)} (h : Ev (fun k => if x21 = true then (some (0, 0, false)) else (if 0 < (x4.length : Int) then ((spec_l1Read.f k (rdOf ByteArray.empty x4 0)).bind fun t129 => (if 1 < (x4.length : Int) then ((spec_l1Read.f k (rdOf ByteArray.empty x4 1)).bind fun t131 => (if 0 < ((rdOf ByteArray.empty x4 0).size : Int) then (if (bt (rdOf ByteArray.empty x4 0) 0) = 45 then (if 1 ≤ ((rdOf ByteArray.empty x4 0).size : Int) then ((spec_l1Read.f k ((rdOf ByteArray.empty x4 0).extract 1 (rdOf ByteArray.empty x4 0).size)).bind fun t135 => ((spec_lwSpot.f (wrap64 (-t135)) t131).bind fun t136 => (if t136 = true then ((spec_lwText.f k (wrap64 (-t135)) t131).bind fun t137 => (some (wrap64 (-t135), t131, (t137.toList == x0.toList)))) else (some (wrap64 (-t135), t131, false))))) else (none)) else ((spec_lwSpot.f t129 t131).bind fun t138 => (if t138 = true then ((spec_lwText.f k t129 t131).bind fun t139 => (some (t129, t131, (t139.toList == x0.toList)))) else (some (t129, t131, false))))) else (none))) else (none))) else (none))) r) : Ev (fun k => spec_lwParse.j0 k x0 x4 x21) r := Ev.step (fun k => by simp only [spec_lwParse.j0]) h
/-- s is the text of a spot. -/
def PS (s : ByteArray) (a b : Int) : Prop := (-1000 ≤ a ∧ a ≤ 1000) ∧ (1 ≤ b ∧ b ≤ 1000) ∧ s = M.tx a ++ (⟨#[44]⟩ : ByteArray) ++ M.tx b
theorem tx_len5 {n : Int} (h0 : -1000 ≤ n) (h1 : n ≤ 1000) : (M.tx n).size ≤ 5 ∧ (0 ≤ n → (M.tx n).size ≤ 4) ∧ 0 < (M.tx n).size := by
  rw [M.tx_len]; unfold Lib.itoa
  have := M.nd_le 3 n.natAbs (by omega)
  have := M.nd_le 3 n.toNat (by omega)
  have := Lib.nDigits_pos n.toNat
  split
  · rw [List.length_cons, Lib.decDigits_length]; omega
  · rw [Lib.decDigits_length]; omega
theorem PS_split {s : ByteArray} {a b : Int} (h : PS s a b) : M.spl s 44 s.size [] 0 0 = [M.tx a, M.tx b] ∧ s.size ≤ 10 := by
  obtain ⟨h1, h2, rfl⟩ := h
  refine ⟨M.spl_two (c := 44) (M.tx_no (by decide) (by decide)) (M.tx_no (by decide) (by decide)), ?_⟩
  have := (tx_len5 (n := a) (by omega) (by omega)).1
  have := (tx_len5 (n := b) (by omega) (by omega)).2.1 (by omega)
  simp only [ByteArray.size_append, M.ba_size1]; omega
theorem tx_first_neg {n : Int} (h : n < 0) : bt (M.tx n) 0 = 45 := by
  rw [show (0 : Int) = ((0 : Nat) : Int) from rfl, M.bt_list, M.tx_data]
  unfold Lib.itoa
  rw [if_pos h]; rfl
theorem tx_first_pos {n : Int} (h : 0 ≤ n) : bt (M.tx n) 0 ≠ 45 := by
  rw [show (0 : Int) = ((0 : Nat) : Int) from rfl, M.bt_list, M.tx_data]
  unfold Lib.itoa
  rw [if_neg (by omega)]
  cases hd : Lib.decDigits n.toNat with
  | nil => exact absurd hd (M.dec_ne_nil _)
  | cons b t =>
    have := M.dec_digit (u := n.toNat) (b := b) (by rw [hd]; exact List.mem_cons_self)
    show ((b.toNat : Nat) : Int) ≠ 45
    omega
theorem tx_tail {n : Int} (h : n < 0) : (M.tx n).extract 1 (M.tx n).size = M.tx (-n) := by
  apply M.ba_inj
  rw [M.ext_list, M.tx_data, M.tx_data, M.tx_len]
  have e : Lib.itoa n = 45 :: Lib.itoa (-n) := by
    unfold Lib.itoa
    rw [if_pos h, if_neg (by omega), show (-n).toNat = n.natAbs by omega]
  rw [e]
  simp only [List.drop_succ_cons, List.drop_zero, List.length_cons]
  exact List.take_of_length_le (by omega)
theorem lwParse_ev (s : ByteArray) (hs : s.size ≤ 1048576) : ∃ r : Int × Int × Bool, Ev (fun k => spec_lwParse.f k s) r ∧ (r.2.2 = true → PS s r.1 r.2.1) ∧ ∀ a b, PS s a b → r = (a, b, true) := by
  have hL := l1Split_ev s 44 hs
  have no : ∀ L x, x = true → Ev (fun k => spec_lwParse.j0 k s L x) ((0 : Int), (0 : Int), false) := fun L x hx => spec_lwParse_j0_ev _ _ _ (M.evp hx (Ev.now _))
  by_cases h5 : (s.size : Int) > 10
  · refine ⟨(0, 0, false), ?_, fun h => by simp at h, fun a b h => by have := (PS_split h).2; omega⟩
    unfold spec_lwParse.f
    exact Ev.bind hL (M.evp h5 (no _ _ rfl))
  · by_cases h2 : (M.spl s 44 s.size [] 0 0).length = 2
    · obtain ⟨A, B, hAB⟩ : ∃ A B, M.spl s 44 s.size [] 0 0 = [A, B] := by
        match M.spl s 44 s.size [] 0 0, h2 with
        | [A, B], _ => exact ⟨A, B, rfl⟩
      rw [hAB] at hL
      have pb : ∀ a b, PS s a b → A = M.tx a ∧ B = M.tx b := fun a b h => by
        have := (PS_split h).1
        rw [hAB] at this
        simpa using this
      by_cases hA : A.data.toList = []
      · refine ⟨(0, 0, false), ?_, fun h => by simp at h, fun a b h => ?_⟩
        · unfold spec_lwParse.f
          refine Ev.bind hL (M.evn h5 (M.evp (by simp) (M.evp (by simp) (no _ _ ?_))))
          show (A.toList == []) = true
          rw [ByteArray.toList_eq, hA]; rfl
        · exfalso
          have := (tx_len5 (n := a) (by have := h.1; omega) (by have := h.1; omega)).2.2
          rw [← (pb a b h).1, M.ba_len, hA] at this
          simp at this
      · have hA0 : 0 < A.size := by
          rw [M.ba_len]
          cases hq : A.data.toList with
          | nil => exact absurd hq hA
          | cons _ _ => simp
        obtain ⟨x, hx, hx'⟩ := l1Read_ev A
        obtain ⟨y, hy, hy'⟩ := l1Read_ev B
        obtain ⟨z, hz, hz'⟩ := l1Read_ev (A.extract 1 A.size)
        have step : ∀ r, Ev (fun k => if (bt A 0) = 45 then (if 1 ≤ (A.size : Int) then ((spec_l1Read.f k (A.extract 1 A.size)).bind fun t135 => ((spec_lwSpot.f (wrap64 (-t135)) y).bind fun t136 => (if t136 = true then ((spec_lwText.f k (wrap64 (-t135)) y).bind fun t137 => (some (wrap64 (-t135), y, (t137.toList == s.toList)))) else (some (wrap64 (-t135), y, false))))) else (none)) else ((spec_lwSpot.f x y).bind fun t138 => (if t138 = true then ((spec_lwText.f k x y).bind fun t139 => (some (x, y, (t139.toList == s.toList)))) else (some (x, y, false))))) r → Ev (fun k => spec_lwParse.f k s) r := fun r h => by
          unfold spec_lwParse.f
          refine Ev.bind hL (M.evn h5 (M.evp (by simp) (M.evp (by simp) ?_)))
          refine spec_lwParse_j0_ev _ _ _ (M.evn ?_ (M.evp (by simp) (Ev.bind hx (M.evp (by simp) (Ev.bind hy (M.evp ?_ h))))))
          · show ¬ (A.toList == []) = true
            rw [ByteArray.toList_eq, beq_iff_eq]; exact hA
          · show 0 < (A.size : Int)
            omega
        have fin : ∀ (X : Int), (∀ r, Ev (fun k => (spec_lwSpot.f X y).bind fun t138 => (if t138 = true then ((spec_lwText.f k X y).bind fun t139 => (some (X, y, (t139.toList == s.toList)))) else (some (X, y, false)))) r → Ev (fun k => spec_lwParse.f k s) r) →
            (∀ a b, PS s a b → X = a ∧ y = b) → ∃ r : Int × Int × Bool, Ev (fun k => spec_lwParse.f k s) r ∧ (r.2.2 = true → PS s r.1 r.2.1) ∧ ∀ a b, PS s a b → r = (a, b, true) := fun X go pX => by
          rw [lwSpot_eq] at go
          simp only [Option.bind_some, decide_eq_true_eq] at go
          by_cases hb : (-1000 ≤ X ∧ X ≤ 1000) ∧ 1 ≤ y ∧ y ≤ 1000
          · refine ⟨(X, y, ((M.tx X ++ (⟨#[44]⟩ : ByteArray) ++ M.tx y).toList == s.toList)), go _ (M.evp hb (Ev.bind (lwText_ev X y hb.1 hb.2) (Ev.now _))), fun h => ?_, fun a b h => ?_⟩
            · rw [M.ba_beq, decide_eq_true_eq] at h
              exact ⟨hb.1, hb.2, h.symm⟩
            · obtain ⟨e1, e2⟩ := pX a b h
              subst e1 e2
              rw [M.ba_beq, decide_eq_true h.2.2.symm]
          · refine ⟨(X, y, false), go _ (M.evn hb (Ev.now _)), fun h => by simp at h, fun a b h => ?_⟩
            obtain ⟨e1, e2⟩ := pX a b h
            subst e1 e2
            exact absurd ⟨h.1, h.2.1⟩ hb
        by_cases h45 : bt A 0 = 45
        · refine fin (wrap64 (-z)) (fun r h => step r (M.evp h45 (M.evp (by omega) (Ev.bind hz h)))) (fun a b h => ?_)
          obtain ⟨e1, e2⟩ := pb a b h
          have ha : a < 0 := by
            rcases Int.lt_or_le a 0 with hn | hn
            · exact hn
            · rw [e1] at h45; exact absurd h45 (tx_first_pos hn)
          have hz2 := hz' (-a) (by omega) (by have := h.1; omega) (by rw [e1]; exact tx_tail ha)
          subst hz2
          exact ⟨by rw [Int.neg_neg]; exact M.wrap_id (by have := h.1; omega) (by have := h.1; omega), hy' b (by have := h.2.1; omega) (by have := h.2.1; omega) e2⟩
        · refine fin x (fun r h => step r (M.evn h45 h)) (fun a b h => ?_)
          obtain ⟨e1, e2⟩ := pb a b h
          have ha : 0 ≤ a := by
            rcases Int.lt_or_le a 0 with hn | hn
            · rw [e1] at h45; exact absurd (tx_first_neg hn) h45
            · exact hn
          exact ⟨hx' a ha (by have := h.1; omega) e1, hy' b (by have := h.2.1; omega) (by have := h.2.1; omega) e2⟩
    · refine ⟨(0, 0, false), ?_, fun h => by simp at h, fun a b h => by rw [(PS_split h).1] at h2; simp at h2⟩
      unfold spec_lwParse.f
      exact Ev.bind hL (M.evn h5 (M.evn (by omega) (no _ _ rfl)))
theorem sParseSpot_ev (s : ByteArray) (hs : s.size ≤ 1048576) : ∃ r : Int × Int × Bool, Ev (fun k => spec_ParseSpot.f k s) r ∧ (r.2.2 = true → PS s r.1 r.2.1) ∧ (r.2.2 = false → r = (0, 0, false)) ∧ ∀ a b, PS s a b → r = (a, b, true) := by
  obtain ⟨⟨x, y, b⟩, h1, h2, h3⟩ := lwParse_ev s hs
  unfold spec_ParseSpot.f
  cases b with
  | true => exact ⟨(x, y, true), Ev.bind h1 (M.evp rfl (Ev.now _)), h2, fun h => by simp at h, h3⟩
  | false => exact ⟨(0, 0, false), Ev.bind h1 (M.evn (by simp) (Ev.now _)), fun h => by simp at h, fun _ => rfl, fun a b h => by have := h3 a b h; simp at this⟩
theorem cut_eq (s sep : ByteArray) (hs : s.size ≤ 1048576) : strings_Cut.f s sep = some (⟨(Lib.cut s.data.toList sep.data.toList).1.toArray⟩, ⟨(Lib.cut s.data.toList sep.data.toList).2.1.toArray⟩, (Lib.cut s.data.toList sep.data.toList).2.2) := by unfold strings_Cut.f; rw [if_pos (by omega)]
/-- Both parts are numbers' own texts: the text is theirs. -/
theorem cut_two {s : ByteArray} {c : UInt8} {x y : Int} (hx : numOf ⟨(Lib.cut s.data.toList [c]).1.toArray⟩ = (x, true)) (hy : numOf ⟨(Lib.cut s.data.toList [c]).2.1.toArray⟩ = (y, true)) : s = M.tx x ++ (⟨#[c]⟩ : ByteArray) ++ M.tx y := by
  obtain ⟨⟨p, q, f⟩, hc⟩ : ∃ t, Lib.cut s.data.toList [c] = t := ⟨_, rfl⟩
  rw [hc] at hx hy
  have e1 := M.numOf_true hx
  have e2 := M.numOf_true hy
  cases f with
  | true =>
    have h := M.cut_found hc
    apply M.ba_inj
    rw [← e1, ← e2, M.ba_app, M.ba_app, h]
    simp
  | false =>
    have h := M.cut_lost hc
    subst h
    have := M.numOf_empty
    rw [show ByteArray.empty = (⟨([] : List UInt8).toArray⟩ : ByteArray) from rfl, hy] at this
    simp at this
theorem cut_tx {c : UInt8} {x y : Int} (h1 : c ∉ (M.tx x).data.toList) : Lib.cut (M.tx x ++ (⟨#[c]⟩ : ByteArray) ++ M.tx y).data.toList [c] = ((M.tx x).data.toList, (M.tx y).data.toList, true) := by
  rw [M.ba_app, M.ba_app]
  have := M.cut_mid (B := (M.tx y).data.toList) h1
  simpa using this
theorem cut_small (s : ByteArray) (c : UInt8) (hs : s.size ≤ 1048576) : (⟨(Lib.cut s.data.toList [c]).1.toArray⟩ : ByteArray).size ≤ 1048576 ∧ (⟨(Lib.cut s.data.toList [c]).2.1.toArray⟩ : ByteArray).size ≤ 1048576 := by
  have hl : s.data.toList.length ≤ 1048576 := by rw [← M.ba_len]; exact hs
  rw [M.ba_len, M.ba_len]
  simp only [M.ba_list]
  unfold Lib.cut
  split
  · simp only [List.length_take, List.length_drop]; omega
  · simp only [List.length_nil]; omega
theorem text_eq (n : Int) (h0 : -9223372036854775808 ≤ n) (h1 : n ≤ 9223372036854775807) : impl_text.f n = some (M.tx n) := by unfold impl_text.f; rw [if_pos ⟨h0, h1⟩]; rfl
theorem number_eq (s : ByteArray) (hs : s.size ≤ 1048576) : impl_number.f s = some (numOf s) := by unfold impl_number.f; rw [if_pos (by omega)]
theorem within_eq (a b c : Int) : impl_within.f a b c = some (decide (b ≤ a ∧ a ≤ c)) := by
  unfold impl_within.f
  by_cases h : b ≤ a <;> simp [h]
theorem isShift_eq (a : Int) : impl_isShift.f a = some (decide (-1000 ≤ a ∧ a ≤ 1000)) := by simp [impl_isShift.f, within_eq]
theorem IsSpot_eq (x y : Int) : impl_IsSpot.f x y = some (decide ((-1000 ≤ x ∧ x ≤ 1000) ∧ 1 ≤ y ∧ y ≤ 1000)) := by
  unfold impl_IsSpot.f
  by_cases h : -1000 ≤ x ∧ x ≤ 1000 <;> simp [isShift_eq, within_eq, h]
theorem checkedSpot_eq (a b : Int) : impl_checkedSpot.f a b = some (if (-1000 ≤ a ∧ a ≤ 1000) ∧ 1 ≤ b ∧ b ≤ 1000 then (a, b, true) else (0, 0, false)) := by
  unfold impl_checkedSpot.f
  rw [IsSpot_eq]
  simp only [Option.bind_some, decide_eq_true_eq]
  split <;> rfl
theorem iParseSpot_eq (s : ByteArray) (hs : s.size ≤ 1048576) : ∃ r : Int × Int × Bool, impl_ParseSpot.f s = some r ∧ (r.2.2 = true → PS s r.1 r.2.1) ∧ (r.2.2 = false → r = (0, 0, false)) ∧ ∀ a b, PS s a b → r = (a, b, true) := by
  have hc := cut_eq s (⟨#[44]⟩ : ByteArray) hs
  rw [show (⟨#[44]⟩ : ByteArray).data.toList = [44] from rfl] at hc
  obtain ⟨z1, z2⟩ := cut_small s 44 hs
  obtain ⟨⟨x, p⟩, hx⟩ : ∃ t, numOf ⟨(Lib.cut s.data.toList [44]).1.toArray⟩ = t := ⟨_, rfl⟩
  obtain ⟨⟨y, q⟩, hy⟩ : ∃ t, numOf ⟨(Lib.cut s.data.toList [44]).2.1.toArray⟩ = t := ⟨_, rfl⟩
  have pb : ∀ a b, PS s a b → (x, p) = (a, true) ∧ (y, q) = (b, true) := fun a b h => by
    obtain ⟨h1, h2, rfl⟩ := h
    rw [cut_tx (M.tx_no (by decide) (by decide))] at hx hy
    rw [M.ba_mk, M.numOf_tx (by omega) (by omega)] at hx hy
    exact ⟨hx.symm, hy.symm⟩
  unfold impl_ParseSpot.f
  rw [hc, Option.bind_some]
  simp only
  rw [number_eq _ z1, number_eq _ z2, hx, hy]
  simp only [Option.bind_some]
  cases p with
  | false => exact ⟨(0, 0, false), rfl, fun h => by simp at h, fun _ => rfl, fun a b h => by have := (pb a b h).1; simp at this⟩
  | true =>
    cases q with
    | false => exact ⟨(0, 0, false), rfl, fun h => by simp at h, fun _ => rfl, fun a b h => by have := (pb a b h).2; simp at this⟩
    | true =>
      rw [if_pos rfl, if_pos rfl, checkedSpot_eq]
      simp only [Option.bind_some]
      by_cases hb : (-1000 ≤ x ∧ x ≤ 1000) ∧ 1 ≤ y ∧ y ≤ 1000
      · refine ⟨(x, y, true), by rw [if_pos hb], fun _ => ⟨hb.1, hb.2, cut_two hx hy⟩, fun h => by simp at h, fun a b h => ?_⟩
        have := pb a b h
        simp only [Prod.mk.injEq, and_true] at this
        rw [this.1, this.2]
      · refine ⟨(0, 0, false), by rw [if_neg hb], fun h => by simp at h, fun _ => rfl, fun a b h => ?_⟩
        have := pb a b h
        simp only [Prod.mk.injEq, and_true] at this
        exact absurd ⟨by rw [this.1]; exact h.1, by rw [this.2]; exact h.2.1⟩ hb
theorem law : StFnExactParseSpot.Pure := by
  intro s _
  unfold laws_FnExactParseSpot.f
  by_cases hs : (s.size : Int) > 1048576
  · exact Ev.rounds (M.evp hs (Ev.now _))
  · obtain ⟨r, h1, h2, h3, h4⟩ := sParseSpot_ev s (by omega)
    obtain ⟨r', i1, i2, i3, i4⟩ := iParseSpot_eq s (by omega)
    have e : r' = r := by
      cases hb : r.2.2 with
      | true => rw [i4 _ _ (h2 hb)]; exact (h4 _ _ (h2 hb)).symm
      | false =>
        cases hb' : r'.2.2 with
        | true => have := h4 _ _ (i2 hb'); rw [this] at hb; simp at hb
        | false => rw [h3 hb, i3 hb']
    subst e
    refine Ev.rounds (M.evn hs (Ev.bind h1 ?_))
    rw [i1]
    simp only [Option.bind_some, laws_eqSpot.f, if_true, bne_self_eq_false, Bool.false_eq_true, if_false]
    exact Ev.now _
end Go.Proofs.YtglndeegcbiooaaDoor.PbFnExactParseSpot
namespace Go.Proofs.YtglndeegcbiooaaDoor.Pure
theorem FnExactParseSpot : StFnExactParseSpot.Pure := PbFnExactParseSpot.law
end Go.Proofs.YtglndeegcbiooaaDoor.Pure
