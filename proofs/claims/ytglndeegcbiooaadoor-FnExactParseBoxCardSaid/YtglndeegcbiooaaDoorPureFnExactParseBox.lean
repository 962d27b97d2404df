/- The plain part of FnExactParseBox: what the printed functions of the program and of the reference answer, in plain Lean, and that the law answers true. No condition. -/
import Derived.Test.YtglndeegcbiooaaDoorStFnExactParseBox
import Derived.Test.YtglndeegcbiooaaDoorM
import Derived.Test.YtglndeegcbiooaaDoorMp
namespace Go.Proofs.YtglndeegcbiooaaDoor.PbFnExactParseBox
open Go.RowKit Go.Proofs.YtglndeegcbiooaaDoor Go.Proofs.YtglndeegcbiooaaDoor.PFnExactParseBox Go.Proofs.YtglndeegcbiooaaDoorW.PrintWords Go.Proofs.YtglndeegcbiooaaDoorW.PrintLast
set_option linter.unusedVariables false
set_option linter.unusedSimpArgs false

theorem l1In_eq (a b c : Int) : spec_l1In.f a b c = some (decide (b ≤ a ∧ a ≤ c)) := by
  unfold spec_l1In.f
  by_cases h : b ≤ a <;> simp [h]
theorem lnBox_eq (a b : Int) : spec_lnBox.f a b = some (decide ((1 ≤ a ∧ a ≤ 60) ∧ 1 ≤ b ∧ b ≤ 60)) := by
  unfold spec_lnBox.f
  by_cases h : 1 ≤ a ∧ a ≤ 60 <;> simp [l1In_eq, h]
theorem l1Num_step {r : ByteArray} (n : Int) (h : Ev (fun k => if n < 10 then (some (strOfNums (([(wrap64 (48 + n)) % 256] : List Int)))) else ((spec_l1Num.f k (wrap64 (Int.tdiv n 10))).bind fun t107 => ((some (([(wrap64 (48 + (Int.tmod n 10))) % 256] : List Int) : List Int)).bind fun y108 => (if t107.size + (strOfNums y108).size ≤ 9223372036854775807 then (some (t107 ++ (strOfNums y108))) else (none))))) r) : Ev (fun k => spec_l1Num.f k n) r := Ev.step (fun k => by simp only [spec_l1Num.f]) h
theorem l1Num_ev : ∀ (q : Nat) (n : Int), n.toNat < q → 0 ≤ n → n ≤ 9223372036854775807 → Ev (fun k => spec_l1Num.f k n) (M.tx n)
  | 0, _, h, _, _ => by omega
  | q + 1, n, h, h0, h1 => by
    refine l1Num_step n ?_
    by_cases hn : n < 10
    · rw [M.tx_small h0 hn]
      exact M.evp hn (Ev.now _)
    · have ed : Int.tdiv n 10 = n / 10 := Int.tdiv_eq_ediv_of_nonneg h0
      refine M.evn hn ?_
      rw [ed, M.wrap_id (n := n / 10) (by omega) (by omega), M.tx_big (by omega) h1]
      refine Ev.bind (l1Num_ev q (n / 10) (by omega) (by omega) (by omega)) ?_
      have := M.tx_size (n / 10) (by omega) (by omega)
      simp only [Option.bind_some]
      exact M.evp (by rw [strOfNums_size]; simp only [List.length_cons, List.length_nil]; omega) (Ev.now _)
theorem l1Num (n : Int) (h0 : 0 ≤ n) (h1 : n ≤ 9223372036854775807) : Ev (fun k => spec_l1Num.f k n) (M.tx n) := l1Num_ev (n.toNat + 1) n (by omega) h0 h1
theorem lnText_ev (a b : Int) (ha : 1 ≤ a ∧ a ≤ 60) (hb : 1 ≤ b ∧ b ≤ 60) : Ev (fun k => spec_lnText.f k a b) (M.tx a ++ (⟨#[42]⟩ : ByteArray) ++ M.tx b) := by
  unfold spec_lnText.f
  have h1 := M.tx_size a (by omega) (by omega)
  have h2 := M.tx_size b (by omega) (by omega)
  refine Ev.bind (l1Num a (by omega) (by omega)) (M.evp (by omega) (Ev.bind (l1Num b (by omega) (by omega)) (M.evp ?_ (Ev.now _))))
  simp only [ByteArray.size_append, M.ba_size1]; omega
theorem spec_l1Split_l0_ev (x0 : ByteArray) (x1 : Int) (x5 : List ByteArray) (x6 : Int) (x7 : Int) {r : (List ByteArray)} (h : Ev (fun k => if x7 < (x0.size : Int) then (if 0 ≤ x7 then (if (bt x0 x7) = x1 then (if 0 ≤ x6 then (if x6 ≤ x7 then (if x7 ≤ (x0.size : Int) then (if x5.length < 8796093022208 then (spec_l1Split.l0 k x0 x1 (x5 ++ [x0.extract (x6 : Int).toNat (x7 : Int).toNat]) (wrap64 (x7 + 1)) (wrap64 (x7 + 1))) else (none)) else (none)) else (none)) else (none)) else (spec_l1Split.l0 k x0 x1 x5 x6 (wrap64 (x7 + 1)))) else (none)) else (if 0 ≤ x6 then (if x6 ≤ (x0.size : Int) then (if x5.length < 8796093022208 then (some (x5 ++ [x0.extract (x6 : Int).toNat x0.size])) else (none)) else (none)) else (none))) r) : Ev (fun k => spec_l1Split.l0 k x0 x1 x5 x6 x7) r := Ev.step (fun k => by simp only [spec_l1Split.l0]) h
theorem l1Split_l0 (s : ByteArray) (c : Int) (hs : s.size ≤ 1048576) : ∀ (q : Nat) (acc : List ByteArray) (from_ i : Nat), i + q = s.size → from_ ≤ i → acc.length ≤ i →
    Ev (fun k => spec_l1Split.l0 k s c acc (from_ : Int) (i : Int)) (M.spl s c q acc from_ i)
  | 0, acc, from_, i, hq, hf, ha => by
    refine spec_l1Split_l0_ev _ _ _ _ _ (M.evn (by omega) (M.evp (by omega) (M.evp (by omega) (M.evp (by omega) ?_))))
    rw [M.spl, Int.toNat_natCast]
    exact Ev.now _
  | q + 1, acc, from_, i, hq, hf, ha => by
    have hw : wrap64 ((i : Int) + 1) = ((i + 1 : Nat) : Int) := by rw [M.wrap_id (by omega) (by omega)]; omega
    refine spec_l1Split_l0_ev _ _ _ _ _ (M.evp (by omega) (M.evp (by omega) ?_))
    rw [M.spl, hw]
    by_cases hc : bt s i = c
    · rw [if_pos hc]
      refine M.evp hc (M.evp (by omega) (M.evp (by omega) (M.evp (by omega) (M.evp (by omega) ?_))))
      rw [Int.toNat_natCast, Int.toNat_natCast]
      exact l1Split_l0 s c hs q _ (i + 1) (i + 1) (by omega) (Nat.le_refl _) (by simp; omega)
    · rw [if_neg hc]
      exact M.evn hc (l1Split_l0 s c hs q acc from_ (i + 1) (by omega) (by omega) (by omega))
theorem l1Split_ev (s : ByteArray) (c : Int) (hs : s.size ≤ 1048576) : Ev (fun k => spec_l1Split.f k s c) (M.spl s c s.size [] 0 0) := by
  unfold spec_l1Split.f
  exact l1Split_l0 s c hs s.size [] 0 0 (by omega) (Nat.le_refl _) (by simp)
theorem spec_l1Read_j0_ev (x0 : ByteArray) (x18 : Bool) {r : (Int)} (h : Ev (fun k => if x18 = true then (some (-1)) else (spec_l1Read.l0 k x0 0 0)) r) : Ev (fun k => spec_l1Read.j0 k x0 x18) r := Ev.step (fun k => by simp only [spec_l1Read.j0]) h
theorem spec_l1Read_l0_ev (x0 : ByteArray) (x3 : Int) (x4 : Int) {r : (Int)} (h : Ev (fun k => if x4 < (x0.size : Int) then (if 0 ≤ x4 then (if (bt x0 x4) < 48 then (some (-1)) else (if (bt x0 x4) > 57 then (some (-1)) else (spec_l1Read.l0 k x0 (wrap64 ((wrap64 (10 * x3)) + (((bt x0 x4) - 48) % 256))) (wrap64 (x4 + 1))))) else (none)) else (some x3)) r) : Ev (fun k => spec_l1Read.l0 k x0 x3 x4) r := Ev.step (fun k => by simp only [spec_l1Read.l0]) h
theorem l1Read_l0 (s : ByteArray) (hs : s.size ≤ 6) : ∀ (q : Nat) (n : Int) (i : Nat), i + q = s.size →
    ∃ r, Ev (fun k => spec_l1Read.l0 k s n (i : Int)) r ∧ ((∀ b ∈ s.data.toList.drop i, 48 ≤ b.toNat ∧ b.toNat ≤ 57) → 0 ≤ n → n < 10 ^ i → r = M.valD n (s.data.toList.drop i))
  | 0, n, i, hq => by
    refine ⟨n, spec_l1Read_l0_ev _ _ _ (M.evn (by omega) (Ev.now _)), fun _ _ _ => ?_⟩
    rw [List.drop_eq_nil_of_le (by rw [← M.ba_len]; omega)]
    rfl
  | q + 1, n, i, hq => by
    have hi : i < s.data.toList.length := by rw [← M.ba_len]; omega
    have hb : bt s i = ((s.data.toList[i]).toNat : Int) := by rw [M.bt_list, List.getElem?_eq_getElem hi]; rfl
    have hd : s.data.toList.drop i = s.data.toList[i] :: s.data.toList.drop (i + 1) := List.drop_eq_getElem_cons hi
    have hw : wrap64 ((i : Int) + 1) = ((i + 1 : Nat) : Int) := by rw [M.wrap_id (by omega) (by omega)]; omega
    have h0 : ∀ r, Ev (fun k => if bt s i < 48 then (some (-1)) else (if bt s i > 57 then (some (-1)) else (spec_l1Read.l0 k s (wrap64 ((wrap64 (10 * n)) + ((bt s i - 48) % 256))) (wrap64 ((i : Int) + 1))))) r → Ev (fun k => spec_l1Read.l0 k s n (i : Int)) r :=
      fun r h => spec_l1Read_l0_ev _ _ _ (M.evp (by omega) (M.evp (by omega) h))
    by_cases h1 : bt s i < 48
    · refine ⟨-1, h0 _ (M.evp h1 (Ev.now _)), fun h _ _ => ?_⟩
      have := h (s.data.toList[i]) (by rw [hd]; exact List.mem_cons_self)
      omega
    · by_cases h2 : bt s i > 57
      · refine ⟨-1, h0 _ (M.evn h1 (M.evp h2 (Ev.now _))), fun h _ _ => ?_⟩
        have := h (s.data.toList[i]) (by rw [hd]; exact List.mem_cons_self)
        omega
      · obtain ⟨r, hr, hv⟩ := l1Read_l0 s hs q (wrap64 ((wrap64 (10 * n)) + ((bt s i - 48) % 256))) (i + 1) (by omega)
        rw [← hw] at hr
        refine ⟨r, h0 _ (M.evn h1 (M.evn h2 hr)), fun h hn hn2 => ?_⟩
        have hp : (10 : Int) ^ i ≤ 100000 := by
          have : i ≤ 5 := by omega
          have e : ∀ j : Nat, j ≤ 5 → (10 : Int) ^ j ≤ 100000 := by
            intro j hj
            match j, hj with
            | 0, _ | 1, _ | 2, _ | 3, _ | 4, _ | 5, _ => decide
          exact e i this
        have e1 : wrap64 (10 * n) = 10 * n := M.wrap_id (by omega) (by omega)
        have e2 : (bt s i - 48) % 256 = bt s i - 48 := by omega
        rw [e1, e2, M.wrap_id (by omega) (by omega)] at hv
        have := hv (fun b hb => h b (by rw [hd]; exact List.mem_cons_of_mem _ hb)) (by omega) (by rw [Int.pow_succ]; omega)
        rw [this, hd, hb]
        rfl
theorem l1Read_ev (s : ByteArray) : ∃ r, Ev (fun k => spec_l1Read.f k s) r ∧ ∀ u : Int, 0 ≤ u → u < 1000000 → s = M.tx u → r = u := by
  have hf : ∀ r, Ev (fun k => if (decide (1 ≤ (s.size : Int) ∧ (s.size : Int) ≤ 6)) = true then (if 0 < (s.size : Int) then (if (bt s 0) = 48 then (spec_l1Read.j0 k s (decide ((s.size : Int) > 1))) else (spec_l1Read.j0 k s false)) else (none)) else (spec_l1Read.j0 k s true)) r → Ev (fun k => spec_l1Read.f k s) r := fun r h => by
    simp only [spec_l1Read.f, l1In_eq, Option.bind_some]; exact h
  by_cases hs : 1 ≤ (s.size : Int) ∧ (s.size : Int) ≤ 6
  · have hg : ∀ r, Ev (fun k => spec_l1Read.l0 k s 0 0) r → Ev (fun k => spec_l1Read.j0 k s false) r := fun r h => spec_l1Read_j0_ev _ _ (M.evn (by simp) h)
    obtain ⟨r, hr, hv⟩ := l1Read_l0 s (by omega) s.size 0 0 (by omega)
    by_cases hz : bt s 0 = 48
    · by_cases h1 : (s.size : Int) > 1
      · refine ⟨-1, hf _ (M.evp (by simpa using hs) (M.evp (by omega) (M.evp hz ?_))), fun u h0 h2 he => ?_⟩
        · rw [decide_eq_true h1]; exact spec_l1Read_j0_ev _ _ (M.evp rfl (Ev.now _))
        · exfalso
          subst he
          have hl : (M.tx u).data.toList = Lib.decDigits u.toNat := by rw [M.tx_data]; unfold Lib.itoa; rw [if_neg (by omega)]
          cases hd : Lib.decDigits u.toNat with
          | nil => exact M.dec_ne_nil _ hd
          | cons b t =>
            have hb : bt (M.tx u) 0 = (b.toNat : Int) := by
              rw [show (0 : Int) = ((0 : Nat) : Int) from rfl, M.bt_list, hl, hd]; rfl
            by_cases hu : u < 10
            · rw [M.ba_len, hl, Lib.decDigits_one (by omega)] at h1
              simp at h1
            · have := M.dec_head (u.toNat + 1) u.toNat (by omega) (by omega) b t hd
              omega
      · refine ⟨r, hf _ (M.evp (by simpa using hs) (M.evp (by omega) (M.evp hz ?_))), fun u h0 h2 he => ?_⟩
        · rw [decide_eq_false h1]; exact hg _ hr
        · subst he
          have hl : (M.tx u).data.toList = Lib.decDigits u.toNat := by rw [M.tx_data]; unfold Lib.itoa; rw [if_neg (by omega)]
          rw [hv (fun b hb => M.dec_digit (by rw [hl] at hb; exact hb)) (by omega) (by decide), hl]
          show M.valD 0 (Lib.decDigits u.toNat) = u
          rw [M.valD_dec (u.toNat + 1) u.toNat (by omega)]; omega
    · refine ⟨r, hf _ (M.evp (by simpa using hs) (M.evp (by omega) (M.evn hz (hg _ hr)))), fun u h0 h2 he => ?_⟩
      subst he
      have hl : (M.tx u).data.toList = Lib.decDigits u.toNat := by rw [M.tx_data]; unfold Lib.itoa; rw [if_neg (by omega)]
      rw [hv (fun b hb => M.dec_digit (by rw [hl] at hb; exact hb)) (by omega) (by decide), hl]
      show M.valD 0 (Lib.decDigits u.toNat) = u
      rw [M.valD_dec (u.toNat + 1) u.toNat (by omega)]; omega
  · refine ⟨-1, hf _ (M.evn (by simpa using hs) (spec_l1Read_j0_ev _ _ (M.evp rfl (Ev.now _)))), fun u h0 h2 he => ?_⟩
    exfalso
    apply hs
    subst he
    rw [M.tx_len]
    unfold Lib.itoa
    rw [if_neg (by omega), Lib.decDigits_length]
    have := M.nd_le 5 u.toNat (by omega)
    have := Lib.nDigits_pos u.toNat
    omega
theorem spec_lnParse_j0_ev (x0 : ByteArray) (x4 : List ByteArray) (x15 : Bool) {r : (Int × Int × Bool)} (h : Ev (fun k => if x15 = true then (some (0, 0, false)) else (if 0 < (x4.length : Int) then ((spec_l1Read.f k (rdOf ByteArray.empty x4 0)).bind fun t126 => (if 1 < (x4.length : Int) then ((spec_l1Read.f k (rdOf ByteArray.empty x4 1)).bind fun t128 => ((spec_lnBox.f t126 t128).bind fun t130 => (if t130 = true then ((spec_lnText.f k t126 t128).bind fun t131 => (some (t126, t128, (t131.toList == x0.toList)))) else (some (t126, t128, false))))) else (none))) else (none))) r) : Ev (fun k => spec_lnParse.j0 k x0 x4 x15) r := Ev.step (fun k => by simp only [spec_lnParse.j0]) h
/-- s is the text of a box. -/
def PB (s : ByteArray) (a b : Int) : Prop := (1 ≤ a ∧ a ≤ 60) ∧ (1 ≤ b ∧ b ≤ 60) ∧ s = M.tx a ++ (⟨#[42]⟩ : ByteArray) ++ M.tx b
theorem tx_len2 {n : Int} (h0 : 0 ≤ n) (h1 : n < 100) : (M.tx n).size ≤ 2 := by
  rw [M.tx_len]; unfold Lib.itoa
  rw [if_neg (by omega), Lib.decDigits_length]
  exact M.nd_le 1 n.toNat (by omega)
theorem PB_split {s : ByteArray} {a b : Int} (h : PB s a b) : M.spl s 42 s.size [] 0 0 = [M.tx a, M.tx b] ∧ s.size ≤ 5 := by
  obtain ⟨h1, h2, rfl⟩ := h
  refine ⟨M.spl_two (c := 42) (M.tx_no (by decide) (by decide)) (M.tx_no (by decide) (by decide)), ?_⟩
  have := tx_len2 (n := a) (by omega) (by omega)
  have := tx_len2 (n := b) (by omega) (by omega)
  simp only [ByteArray.size_append, M.ba_size1]; omega
theorem lnParse_ev (s : ByteArray) (hs : s.size ≤ 1048576) : ∃ r : Int × Int × Bool, Ev (fun k => spec_lnParse.f k s) r ∧ (r.2.2 = true → PB s r.1 r.2.1) ∧ ∀ a b, PB s a b → r = (a, b, true) := by
  have hL := l1Split_ev s 42 hs
  have no : ∀ x, x = true → Ev (fun k => spec_lnParse.j0 k s (M.spl s 42 s.size [] 0 0) x) ((0 : Int), (0 : Int), false) := fun x hx => spec_lnParse_j0_ev _ _ _ (M.evp hx (Ev.now _))
  by_cases h5 : (s.size : Int) > 5
  · refine ⟨(0, 0, false), ?_, fun h => by simp at h, fun a b h => by have := (PB_split h).2; omega⟩
    unfold spec_lnParse.f
    exact Ev.bind hL (M.evp h5 (no _ rfl))
  · by_cases h2 : (M.spl s 42 s.size [] 0 0).length = 2
    · obtain ⟨A, B, hAB⟩ : ∃ A B, M.spl s 42 s.size [] 0 0 = [A, B] := by
        match M.spl s 42 s.size [] 0 0, h2 with
        | [A, B], _ => exact ⟨A, B, rfl⟩
      rw [hAB] at hL
      obtain ⟨x, hx, hx'⟩ := l1Read_ev A
      obtain ⟨y, hy, hy'⟩ := l1Read_ev B
      have go : ∀ r, Ev (fun k => (spec_lnBox.f x y).bind fun t130 => (if t130 = true then ((spec_lnText.f k x y).bind fun t131 => (some (x, y, (t131.toList == s.toList)))) else (some (x, y, false)))) r → Ev (fun k => spec_lnParse.f k s) r := fun r h => by
        unfold spec_lnParse.f
        refine Ev.bind hL (M.evn h5 (spec_lnParse_j0_ev _ _ _ (M.evn (by simp) (M.evp (by simp) (Ev.bind hx (M.evp (by simp) (Ev.bind hy h)))))))
      rw [lnBox_eq] at go
      simp only [Option.bind_some, decide_eq_true_eq] at go
      have pb : ∀ a b, PB s a b → A = M.tx a ∧ B = M.tx b := fun a b h => by
        have := (PB_split h).1
        rw [hAB] at this
        simpa using this
      by_cases hb : (1 ≤ x ∧ x ≤ 60) ∧ 1 ≤ y ∧ y ≤ 60
      · refine ⟨(x, y, ((M.tx x ++ (⟨#[42]⟩ : ByteArray) ++ M.tx y).toList == s.toList)), go _ (M.evp hb (Ev.bind (lnText_ev x y hb.1 hb.2) (Ev.now _))), fun h => ?_, fun a b h => ?_⟩
        · rw [M.ba_beq, decide_eq_true_eq] at h
          exact ⟨hb.1, hb.2, h.symm⟩
        · obtain ⟨e1, e2⟩ := pb a b h
          obtain rfl := hx' a (by have := h.1; omega) (by have := h.1; omega) e1
          obtain rfl := hy' b (by have := h.2.1; omega) (by have := h.2.1; omega) e2
          rw [M.ba_beq, decide_eq_true h.2.2.symm]
      · refine ⟨(x, y, false), go _ (M.evn hb (Ev.now _)), fun h => by simp at h, fun a b h => ?_⟩
        obtain ⟨e1, e2⟩ := pb a b h
        obtain rfl := hx' a (by have := h.1; omega) (by have := h.1; omega) e1
        obtain rfl := hy' b (by have := h.2.1; omega) (by have := h.2.1; omega) e2
        exact absurd ⟨h.1, h.2.1⟩ hb
    · refine ⟨(0, 0, false), ?_, fun h => by simp at h, fun a b h => by rw [(PB_split h).1] at h2; simp at h2⟩
      unfold spec_lnParse.f
      refine Ev.bind hL (M.evn h5 (no _ ?_))
      rw [bne_iff_ne]; omega
theorem sParseBox_ev (s : ByteArray) (hs : s.size ≤ 1048576) : ∃ r : Int × Int × Bool, Ev (fun k => spec_ParseBox.f k s) r ∧ (r.2.2 = true → PB s r.1 r.2.1) ∧ (r.2.2 = false → r = (0, 0, false)) ∧ ∀ a b, PB s a b → r = (a, b, true) := by
  obtain ⟨⟨x, y, b⟩, h1, h2, h3⟩ := lnParse_ev s hs
  unfold spec_ParseBox.f
  cases b with
  | true => exact ⟨(x, y, true), Ev.bind h1 (M.evp rfl (Ev.now _)), h2, fun h => by simp at h, h3⟩
  | false => exact ⟨(0, 0, false), Ev.bind h1 (M.evn (by simp) (Ev.now _)), fun h => by simp at h, fun _ => rfl, fun a b h => by have := h3 a b h; simp at this⟩
theorem cut_eq (s sep : ByteArray) (hs : s.size ≤ 1048576) : strings_Cut.f s sep = some (⟨(Lib.cut s.data.toList sep.data.toList).1.toArray⟩, ⟨(Lib.cut s.data.toList sep.data.toList).2.1.toArray⟩, (Lib.cut s.data.toList sep.data.toList).2.2) := by unfold strings_Cut.f; rw [if_pos (by omega)]
/-- Both parts are numbers' own texts: the text is theirs. -/
theorem cut_two {s : ByteArray} {c : UInt8} {x y : Int} (hx : numOf ⟨(Lib.cut s.data.toList [c]).1.toArray⟩ = (x, true)) (hy : numOf ⟨(Lib.cut s.data.toList [c]).2.1.toArray⟩ = (y, true)) : s = M.tx x ++ (⟨#[c]⟩ : ByteArray) ++ M.tx y := by
  obtain ⟨⟨p, q, f⟩, hc⟩ : ∃ t, Lib.cut s.data.toList [c] = t := ⟨_, rfl⟩
  rw [hc] at hx hy
  have e1 := M.numOf_true hx
  have e2 := M.numOf_true hy
  cases f with
  | true =>
    have h := M.cut_found hc
    apply M.ba_inj
    rw [← e1, ← e2, M.ba_app, M.ba_app, h]
    simp
  | false =>
    have h := M.cut_lost hc
    subst h
    have := M.numOf_empty
    rw [show ByteArray.empty = (⟨([] : List UInt8).toArray⟩ : ByteArray) from rfl, hy] at this
    simp at this
theorem cut_tx {c : UInt8} {x y : Int} (h1 : c ∉ (M.tx x).data.toList) : Lib.cut (M.tx x ++ (⟨#[c]⟩ : ByteArray) ++ M.tx y).data.toList [c] = ((M.tx x).data.toList, (M.tx y).data.toList, true) := by
  rw [M.ba_app, M.ba_app]
  have := M.cut_mid (B := (M.tx y).data.toList) h1
  simpa using this
theorem cut_small (s : ByteArray) (c : UInt8) (hs : s.size ≤ 1048576) : (⟨(Lib.cut s.data.toList [c]).1.toArray⟩ : ByteArray).size ≤ 1048576 ∧ (⟨(Lib.cut s.data.toList [c]).2.1.toArray⟩ : ByteArray).size ≤ 1048576 := by
  have hl : s.data.toList.length ≤ 1048576 := by rw [← M.ba_len]; exact hs
  rw [M.ba_len, M.ba_len]
  simp only [M.ba_list]
  unfold Lib.cut
  split
  · simp only [List.length_take, List.length_drop]; omega
  · simp only [List.length_nil]; omega
theorem text_eq (n : Int) (h0 : -9223372036854775808 ≤ n) (h1 : n ≤ 9223372036854775807) : impl_text.f n = some (M.tx n) := by unfold impl_text.f; rw [if_pos ⟨h0, h1⟩]; rfl
theorem number_eq (s : ByteArray) (hs : s.size ≤ 1048576) : impl_number.f s = some (numOf s) := by unfold impl_number.f; rw [if_pos (by omega)]
theorem within_eq (a b c : Int) : impl_within.f a b c = some (decide (b ≤ a ∧ a ≤ c)) := by
  unfold impl_within.f
  by_cases h : b ≤ a <;> simp [h]
theorem IsBox_eq (a b : Int) : impl_IsBox.f a b = some (decide ((1 ≤ a ∧ a ≤ 60) ∧ 1 ≤ b ∧ b ≤ 60)) := by
  unfold impl_IsBox.f
  by_cases h : 1 ≤ a ∧ a ≤ 60 <;> simp [within_eq, h]
theorem checkedBox_eq (a b : Int) : impl_checkedBox.f a b = some (if (1 ≤ a ∧ a ≤ 60) ∧ 1 ≤ b ∧ b ≤ 60 then (a, b, true) else (0, 0, false)) := by
  unfold impl_checkedBox.f
  rw [IsBox_eq]
  simp only [Option.bind_some, decide_eq_true_eq]
  split <;> rfl
theorem iParseBox_eq (s : ByteArray) (hs : s.size ≤ 1048576) : ∃ r : Int × Int × Bool, impl_ParseBox.f s = some r ∧ (r.2.2 = true → PB s r.1 r.2.1) ∧ (r.2.2 = false → r = (0, 0, false)) ∧ ∀ a b, PB s a b → r = (a, b, true) := by
  have hc := cut_eq s (⟨#[42]⟩ : ByteArray) hs
  rw [show (⟨#[42]⟩ : ByteArray).data.toList = [42] from rfl] at hc
  obtain ⟨z1, z2⟩ := cut_small s 42 hs
  obtain ⟨⟨x, p⟩, hx⟩ : ∃ t, numOf ⟨(Lib.cut s.data.toList [42]).1.toArray⟩ = t := ⟨_, rfl⟩
  obtain ⟨⟨y, q⟩, hy⟩ : ∃ t, numOf ⟨(Lib.cut s.data.toList [42]).2.1.toArray⟩ = t := ⟨_, rfl⟩
  have pb : ∀ a b, PB s a b → (x, p) = (a, true) ∧ (y, q) = (b, true) := fun a b h => by
    obtain ⟨h1, h2, rfl⟩ := h
    rw [cut_tx (M.tx_no (by decide) (by decide))] at hx hy
    rw [M.ba_mk, M.numOf_tx (by omega) (by omega)] at hx hy
    exact ⟨hx.symm, hy.symm⟩
  unfold impl_ParseBox.f
  rw [hc, Option.bind_some]
  simp only
  rw [number_eq _ z1, number_eq _ z2, hx, hy]
  simp only [Option.bind_some]
  cases p with
  | false => exact ⟨(0, 0, false), rfl, fun h => by simp at h, fun _ => rfl, fun a b h => by have := (pb a b h).1; simp at this⟩
  | true =>
    cases q with
    | false => exact ⟨(0, 0, false), rfl, fun h => by simp at h, fun _ => rfl, fun a b h => by have := (pb a b h).2; simp at this⟩
    | true =>
      rw [if_pos rfl, if_pos rfl, checkedBox_eq]
      simp only [Option.bind_some]
      by_cases hb : (1 ≤ x ∧ x ≤ 60) ∧ 1 ≤ y ∧ y ≤ 60
      · refine ⟨(x, y, true), by rw [if_pos hb], fun _ => ⟨hb.1, hb.2, cut_two hx hy⟩, fun h => by simp at h, fun a b h => ?_⟩
        have := pb a b h
        simp only [Prod.mk.injEq, and_true] at this
        rw [this.1, this.2]
      · refine ⟨(0, 0, false), by rw [if_neg hb], fun h => by simp at h, fun _ => rfl, fun a b h => ?_⟩
        have := pb a b h
        simp only [Prod.mk.injEq, and_true] at this
        exact absurd ⟨by rw [this.1]; exact h.1, by rw [this.2]; exact h.2.1⟩ hb
theorem eqBox_self (a b : Int) : laws_eqBox.f a b a b = some true := by simp [laws_eqBox.f]
theorem law : StFnExactParseBox.Pure := by
  intro s _
  unfold laws_FnExactParseBox.f
  by_cases hs : (s.size : Int) > 1048576
  · exact Ev.rounds (M.evp hs (Ev.now _))
  · obtain ⟨r, h1, h2, h3, h4⟩ := sParseBox_ev s (by omega)
    obtain ⟨r', i1, i2, i3, i4⟩ := iParseBox_eq s (by omega)
    have e : r' = r := by
      cases hb : r.2.2 with
      | true => rw [i4 _ _ (h2 hb)]; exact (h4 _ _ (h2 hb)).symm
      | false =>
        cases hb' : r'.2.2 with
        | true => have := h4 _ _ (i2 hb'); rw [this] at hb; simp at hb
        | false => rw [h3 hb, i3 hb']
    subst e
    refine Ev.rounds (M.evn hs (Ev.bind h1 ?_))
    rw [i1]
    simp only [Option.bind_some, laws_eqBox.f, if_true, bne_self_eq_false, Bool.false_eq_true, if_false]
    exact Ev.now _
end Go.Proofs.YtglndeegcbiooaaDoor.PbFnExactParseBox
namespace Go.Proofs.YtglndeegcbiooaaDoor.Pure
theorem FnExactParseBox : StFnExactParseBox.Pure := PbFnExactParseBox.law
end Go.Proofs.YtglndeegcbiooaaDoor.Pure
