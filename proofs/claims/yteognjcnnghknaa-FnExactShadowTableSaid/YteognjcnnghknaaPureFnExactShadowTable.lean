/- The plain part of FnExactShadowTable: what the printed functions of the program and of the reference answer, in plain Lean, and that the law answers true. No condition. -/
import Derived.Test.YteognjcnnghknaaStFnExactShadowTable
import Derived.Test.YteognjcnnghknaaM
namespace Go.Proofs.Yteognjcnnghknaa.PbFnExactShadowTable
open Go.RowKit Go.Proofs.Yteognjcnnghknaa Go.Proofs.Yteognjcnnghknaa.PFnExactShadowTable Go.Proofs.YteognjcnnghknaaW.PrintWords Go.Proofs.YteognjcnnghknaaW.PrintLast
set_option linter.unusedVariables false
set_option linter.unusedSimpArgs false

theorem laws_eqIntS_l0_ev (x0 : List Int) (x1 : List Int) (x5 : Int) {r : (Bool)} (h : Ev (fun k => if x5 < (x0.length : Int) then (if 0 ≤ x5 then (if x5 < (x1.length : Int) then (if (rd x0 x5) = (rd x1 x5) then (laws_eqIntS.l0 k x0 x1 (wrap64 (x5 + 1))) else (some false)) else (none)) else (none)) else (some true)) r) : Ev (fun k => laws_eqIntS.l0 k x0 x1 x5) r := Ev.step (fun k => by simp only [laws_eqIntS.l0]) h
theorem rd_mid (done rest : List Int) (x : Int) : rd (done ++ x :: rest) (done.length : Int) = x := by simp [rd]
theorem eqIntS_l0 : ∀ (rest done : List Int), (done ++ rest).length ≤ 1000000000000 → Ev (fun k => laws_eqIntS.l0 k (done ++ rest) (done ++ rest) done.length) true
  | [], done, _ => laws_eqIntS_l0_ev _ _ _ (M.evn (by simp) (Ev.now _))
  | x :: rest, done, hl => by
    have h2 : (done ++ x :: rest).length = done.length + rest.length + 1 := by simp; omega
    have hlt : ((done.length : Nat) : Int) < (((done ++ x :: rest).length : Nat) : Int) := by omega
    refine laws_eqIntS_l0_ev _ _ _ (M.evp hlt (M.evp (by omega) (M.evp hlt (M.evp rfl ?_))))
    have ih := eqIntS_l0 rest (done ++ [x]) (by simpa using hl)
    have e : wrap64 ((done.length : Int) + 1) = ((done ++ [x]).length : Int) := by rw [M.wrap_id (by omega) (by omega)]; simp
    rw [e]
    simpa using ih
theorem eqIntS_self (l : List Int) (h : l.length ≤ 1000000000000) : Ev (fun k => laws_eqIntS.f k l l) true := by
  unfold laws_eqIntS.f
  exact M.evp rfl (by simpa using eqIntS_l0 l [] (by simpa using h))
theorem laws_eqIntSS_l0_ev (x0 : List (List Int)) (x1 : List (List Int)) (x5 : Int) {r : (Bool)} (h : Ev (fun k => if x5 < (x0.length : Int) then (if 0 ≤ x5 then (if x5 < (x1.length : Int) then ((laws_eqIntS.f k (rd_L1 x0 x5) (rd_L1 x1 x5)).bind fun t108 => (if t108 = true then (laws_eqIntSS.l0 k x0 x1 (wrap64 (x5 + 1))) else (some false))) else (none)) else (none)) else (some true)) r) : Ev (fun k => laws_eqIntSS.l0 k x0 x1 x5) r := Ev.step (fun k => by simp only [laws_eqIntSS.l0]) h
theorem rdL_mid (done rest : List (List Int)) (x : List Int) : rd_L1 (done ++ x :: rest) (done.length : Int) = x := by simp [rd_L1]
theorem eqIntSS_l0 : ∀ (rest done : List (List Int)), (done ++ rest).length ≤ 1000000000000 → (∀ x ∈ rest, x.length ≤ 1000000) → Ev (fun k => laws_eqIntSS.l0 k (done ++ rest) (done ++ rest) done.length) true
  | [], done, _, _ => laws_eqIntSS_l0_ev _ _ _ (M.evn (by simp) (Ev.now _))
  | x :: rest, done, hl, hx => by
    have h2 : (done ++ x :: rest).length = done.length + rest.length + 1 := by simp; omega
    have hlt : ((done.length : Nat) : Int) < (((done ++ x :: rest).length : Nat) : Int) := by omega
    refine laws_eqIntSS_l0_ev _ _ _ (M.evp hlt (M.evp (by omega) (M.evp hlt ?_)))
    rw [rdL_mid]
    have hx1 := hx x List.mem_cons_self
    refine Ev.bind (eqIntS_self x (by omega)) (M.evp rfl ?_)
    have ih := eqIntSS_l0 rest (done ++ [x]) (by simpa using hl) (fun y hy => hx y (List.mem_cons_of_mem _ hy))
    have e : wrap64 ((done.length : Int) + 1) = ((done ++ [x]).length : Int) := by rw [M.wrap_id (by omega) (by omega)]; simp
    rw [e]
    simpa using ih
theorem eqIntSS_self (l : List (List Int)) (h : l.length ≤ 1000000000000) (hx : ∀ x ∈ l, x.length ≤ 1000000) : Ev (fun k => laws_eqIntSS.f k l l) true := by
  unfold laws_eqIntSS.f
  exact M.evp rfl (by simpa using eqIntSS_l0 l [] (by simpa using h) hx)
theorem laws_markIntS_l0_ev (x0 : List Int) (x1 : Int) (x5 : Int) {r : (Int × List Int)} (h : Ev (fun k => if x5 < (x0.length : Int) then (if 0 ≤ x5 then (laws_markIntS.l0 k (x0.set (x5 : Int).toNat x1) (wrap64 (x1 + 1)) (wrap64 (x5 + 1))) else (none)) else (some (x1, x0))) r) : Ev (fun k => laws_markIntS.l0 k x0 x1 x5) r := Ev.step (fun k => by simp only [laws_markIntS.l0]) h
theorem markIntS_l0 : ∀ (rest done : List Int) (a : Int), (done ++ rest).length ≤ 1000000000000 → 0 ≤ a → a + rest.length ≤ 1000000000000 →
    Ev (fun k => laws_markIntS.l0 k (done ++ rest) a done.length) (a + rest.length, done ++ M.cnt a rest.length)
  | [], done, a, _, _, _ => by
    have e : (a + (([] : List Int).length : Int), done ++ M.cnt a ([] : List Int).length) = (a, done ++ []) := by simp [M.cnt]
    rw [e]
    exact laws_markIntS_l0_ev _ _ _ (M.evn (by simp) (Ev.now _))
  | x :: rest, done, a, hl, h0, h1 => by
    have h2 : (done ++ x :: rest).length = done.length + rest.length + 1 := by simp; omega
    have hlt : ((done.length : Nat) : Int) < (((done ++ x :: rest).length : Nat) : Int) := by omega
    refine laws_markIntS_l0_ev _ _ _ (M.evp hlt (M.evp (by omega) ?_))
    have e : wrap64 ((done.length : Int) + 1) = ((done ++ [a]).length : Int) := by rw [M.wrap_id (by omega) (by omega)]; simp
    have e2 : wrap64 (a + 1) = a + 1 := M.wrap_id (by omega) (by omega)
    have e3 : (done ++ x :: rest).set ((done.length : Int)).toNat a = (done ++ [a]) ++ rest := by simp
    have e4 : (a + ((x :: rest).length : Int), done ++ M.cnt a (x :: rest).length) = (a + 1 + (rest.length : Int), (done ++ [a]) ++ M.cnt (a + 1) rest.length) := by
      simp only [List.length_cons, M.cnt, List.append_assoc, List.singleton_append, Prod.mk.injEq, and_true]; omega
    rw [e, e2, e3, e4]
    exact markIntS_l0 rest (done ++ [a]) (a + 1) (by simpa using hl) (by omega) (by rw [List.length_cons] at h1; omega)
theorem markIntS_ev (l : List Int) (a : Int) (h : l.length ≤ 100000000000) (h0 : 0 ≤ a) (h1 : a ≤ 100000000000) : Ev (fun k => laws_markIntS.f k l a) (a + l.length, M.cnt a l.length) := by
  unfold laws_markIntS.f
  simpa using markIntS_l0 l [] a (by simp; omega) h0 (by omega)
theorem laws_heldIntS_l0_ev (x0 : List Int) (x1 : Int) (x5 : Int) {r : (Int)} (h : Ev (fun k => if x5 < (x0.length : Int) then (if 0 ≤ x5 then (if (rd x0 x5) = x1 then (laws_heldIntS.l0 k x0 (wrap64 (x1 + 1)) (wrap64 (x5 + 1))) else (some (-1))) else (none)) else (some x1)) r) : Ev (fun k => laws_heldIntS.l0 k x0 x1 x5) r := Ev.step (fun k => by simp only [laws_heldIntS.l0]) h
theorem heldIntS_l0 : ∀ (n : Nat) (done : List Int) (a : Int), done.length + n ≤ 1000000000000 → 0 ≤ a → a + n ≤ 2000000000000 →
    Ev (fun k => laws_heldIntS.l0 k (done ++ M.cnt a n) a done.length) (a + n)
  | 0, done, a, _, _, _ => by
    have e : a + ((0 : Nat) : Int) = a := by omega
    rw [e]
    exact laws_heldIntS_l0_ev _ _ _ (M.evn (by simp [M.cnt]) (Ev.now _))
  | n + 1, done, a, hl, h0, h1 => by
    have h2 : (done ++ M.cnt a (n + 1)).length = done.length + n + 1 := by simp [M.cnt_length]; omega
    have hlt : ((done.length : Nat) : Int) < (((done ++ M.cnt a (n + 1)).length : Nat) : Int) := by omega
    have e0 : rd (done ++ M.cnt a (n + 1)) (done.length : Int) = a := by rw [M.cnt]; simp [rd]
    refine laws_heldIntS_l0_ev _ _ _ (M.evp hlt (M.evp (by omega) (M.evp e0 ?_)))
    have ih := heldIntS_l0 n (done ++ [a]) (a + 1) (by simp; omega) (by omega) (by omega)
    have e : wrap64 ((done.length : Int) + 1) = ((done ++ [a]).length : Int) := by rw [M.wrap_id (by omega) (by omega)]; simp
    have e2 : wrap64 (a + 1) = a + 1 := M.wrap_id (by omega) (by omega)
    have e3 : done ++ M.cnt a (n + 1) = (done ++ [a]) ++ M.cnt (a + 1) n := by simp [M.cnt]
    have e4 : a + ((n + 1 : Nat) : Int) = a + 1 + (n : Int) := by omega
    rw [e, e2, e3, e4]; exact ih
theorem heldIntS_ev (n : Nat) (a : Int) (h : n ≤ 1000000000000) (h0 : 0 ≤ a) (h1 : a ≤ 1000000000000) : Ev (fun k => laws_heldIntS.f k (M.cnt a n) a) (a + n) := by
  unfold laws_heldIntS.f
  simpa using heldIntS_l0 n [] a (by simp; omega) h0 (by omega)
theorem laws_heldIntSS_l0_ev (x0 : List (List Int)) (x1 : Int) (x5 : Int) {r : (Int)} (h : Ev (fun k => if x5 < (x0.length : Int) then (if 0 ≤ x5 then ((laws_heldIntS.f k (rd_L1 x0 x5) x1).bind fun t113 => (if t113 < 0 then (some (-1)) else (laws_heldIntSS.l0 k x0 t113 (wrap64 (x5 + 1))))) else (none)) else (some x1)) r) : Ev (fun k => laws_heldIntSS.l0 k x0 x1 x5) r := Ev.step (fun k => by simp only [laws_heldIntSS.l0]) h
theorem rdL_mid' (done rest : List (List Int)) (x : List Int) : rd_L1 (done ++ x :: rest) (done.length : Int) = x := by simp [rd_L1]
theorem heldIntSS_l0 : ∀ (l done : List (List Int)) (a : Int), done.length + l.length ≤ 100000000 → (∀ x ∈ l, x.length ≤ 1000) → 0 ≤ a → M.tot l a ≤ 1000000000000 →
    Ev (fun k => laws_heldIntSS.l0 k (done ++ M.mkSS l a) a done.length) (M.tot l a)
  | [], done, a, _, _, _, _ => laws_heldIntSS_l0_ev _ _ _ (M.evn (by simp [M.mkSS]) (Ev.now _))
  | x :: rest, done, a, hl, hx, h0, h1 => by
    rw [List.length_cons] at hl
    have hx1 := hx x List.mem_cons_self
    have h2 : (done ++ M.mkSS (x :: rest) a).length = done.length + rest.length + 1 := by simp [M.mkSS_length]; omega
    have hlt : ((done.length : Nat) : Int) < (((done ++ M.mkSS (x :: rest) a).length : Nat) : Int) := by omega
    have h3 := M.tot_ge rest (a + x.length)
    have h4 : M.tot (x :: rest) a = M.tot rest (a + x.length) := rfl
    have e0 : rd_L1 (done ++ M.mkSS (x :: rest) a) (done.length : Int) = M.cnt a x.length := by rw [M.mkSS]; exact rdL_mid' _ _ _
    refine laws_heldIntSS_l0_ev _ _ _ (M.evp hlt (M.evp (by omega) ?_))
    rw [e0]
    refine Ev.bind (heldIntS_ev x.length a (by omega) h0 (by omega)) (M.evn (by omega) ?_)
    have ih := heldIntSS_l0 rest (done ++ [M.cnt a x.length]) (a + x.length) (by simp; omega) (fun y hy => hx y (List.mem_cons_of_mem _ hy)) (by omega) (by rw [← h4]; exact h1)
    have e : wrap64 ((done.length : Int) + 1) = ((done ++ [M.cnt a x.length]).length : Int) := by rw [M.wrap_id (by omega) (by omega)]; simp
    have e3 : done ++ M.mkSS (x :: rest) a = (done ++ [M.cnt a x.length]) ++ M.mkSS rest (a + x.length) := by simp [M.mkSS]
    rw [e, e3, h4]; exact ih
theorem heldIntSS_ev (l : List (List Int)) (h : l.length ≤ 100000000) (hx : ∀ x ∈ l, x.length ≤ 1000) : Ev (fun k => laws_heldIntSS.f k (M.mkSS l 1) 1) (M.tot l 1) := by
  unfold laws_heldIntSS.f
  have := M.tot_le l 1 hx
  simpa using heldIntSS_l0 l [] 1 (by simp; omega) hx (by omega) (by omega)
theorem l1In_eq (a b c : Int) : spec_l1In.f a b c = some (decide (b ≤ a ∧ a ≤ c)) := by
  unfold spec_l1In.f
  by_cases h : b ≤ a <;> simp [h]
theorem swLamp_eq (a : Int) : spec_swLamp.f a = some (decide (2 ≤ a ∧ a ≤ 200)) := by simp [spec_swLamp.f, l1In_eq]
theorem wkGood_eq (l h p s : Int) : spec_wkGood.f l h p s = some (decide (M.Wk l h p s)) := by
  unfold spec_wkGood.f M.Wk
  by_cases h1 : 2 ≤ l ∧ l ≤ 200
  · have e : wrap64 (l - 1) = l - 1 := M.wrap_id (by omega) (by omega)
    by_cases h2 : 1 ≤ h ∧ h ≤ l - 1 <;> by_cases h3 : 0 ≤ p ∧ p ≤ 500 <;> simp [l1In_eq, swLamp_eq, h1, h2, h3, e]
  · simp [swLamp_eq, h1]
theorem spec_wkPlace_j0_ev (x2 : Int) (x17 : Bool) (x121000 : Int) (x121001 : Int) (x121002 : Int) {r : (Int × Bool)} (h : Ev (fun k => if x17 = true then (some (0, false)) else (if (wrap64 (x121001 + (wrap64 (x121002 * x2)))) < 0 then (some (0, false)) else (some (wrap64 (x121001 + (wrap64 (x121002 * x2))), true)))) r) : Ev (fun k => spec_wkPlace.j0 k x2 x17 x121000 x121001 x121002) r := Ev.step (fun k => by simp only [spec_wkPlace.j0]) h
theorem wkPlace_ev (l h p s m : Int) : Ev (fun k => spec_wkPlace.f k l h p s m) (if M.PlOk l h p s m then (p + s * m, true) else (0, false)) := by
  simp only [spec_wkPlace.f, wkGood_eq, l1In_eq, Option.bind_some, decide_eq_true_eq]
  by_cases hw : M.Wk l h p s
  · refine M.evp hw ?_
    by_cases hm : 0 ≤ m ∧ m ≤ 60
    · have hb := M.pl_b hw hm
      have hp := hw.2.2.1
      refine Ev.step (f := fun _ => some (if M.PlOk l h p s m then (p + s * m, true) else (0, false))) (fun k => ?_) (Ev.now _)
      simp only [spec_wkPlace.j0, hm, and_self, decide_true, Bool.not_true, Bool.false_eq_true, if_false]
      rw [M.wrap_id (n := s * m) (by omega) (by omega), M.wrap_id (n := p + s * m) (by omega) (by omega)]
      by_cases hn : p + s * m < 0
      · rw [if_pos hn, if_neg (fun h => by have := h.2.2; omega)]
      · rw [if_neg hn, if_pos ⟨hw, hm, by omega⟩]
    · rw [if_neg (fun h => hm h.2.1)]
      refine Ev.step (f := fun _ => some (0, false)) (fun k => ?_) (Ev.now _)
      simp [spec_wkPlace.j0, hm]
  · refine M.evn hw ?_
    rw [if_neg (fun h => hw h.1)]
    refine Ev.step (f := fun _ => some (0, false)) (fun k => ?_) (Ev.now _)
    simp [spec_wkPlace.j0]
theorem spec_clLow_l0_ev (x0 : Int) (x1 : Int) (x6 : Int) (x7 : Int) {r : (Int × Int)} (h : Ev (fun k => if x7 > 0 then (if x7 = 0 then (none) else (spec_clLow.l0 k x0 x1 x7 (Int.tmod x6 x7))) else (if x6 = 0 then (none) else (some (wrap64 (Int.tdiv x0 x6), wrap64 (Int.tdiv x1 x6))))) r) : Ev (fun k => spec_clLow.l0 k x0 x1 x6 x7) r := Ev.step (fun k => by simp only [spec_clLow.l0]) h
theorem clLow_l0 (x y : Int) : ∀ (n : Nat) (a b : Int), b.toNat ≤ n → 0 ≤ a → 0 ≤ b → 0 < M.g a b →
    spec_clLow.l0 (n + 1) x y a b = some (wrap64 (Int.tdiv x (M.g a b)), wrap64 (Int.tdiv y (M.g a b)))
  | n, a, b, hn, h1, h3, h5 => by
    simp only [spec_clLow.l0]
    by_cases hb : b = 0
    · subst hb
      have e : M.g a 0 = a := by rw [M.g_zero]; omega
      rw [e] at h5 ⊢
      rw [if_neg (by omega), if_neg (by omega)]
    · rw [if_pos (by omega), if_neg hb]
      have e : (Int.tmod a b).natAbs = a.natAbs % b.natAbs := Int.natAbs_tmod ..
      have lt : a.natAbs % b.natAbs < b.natAbs := Nat.mod_lt _ (by omega)
      have nn : 0 ≤ Int.tmod a b := Int.tmod_nonneg b h1
      cases n with
      | zero => omega
      | succ n => rw [clLow_l0 x y n b (Int.tmod a b) (by omega) h3 nn (by rw [M.g_tmod]; exact h5), M.g_tmod]
theorem clLow_ev (a b : Int) (h1 : 0 ≤ a) (h2 : a ≤ 9223372036854775807) (h3 : 0 < b) (h4 : b ≤ 9223372036854775807) :
    Ev (fun k => spec_clLow.f k a b) (M.l1 a b, M.l2 a b) := by
  refine Ev.of (spec_clLow.mono a b) (k := b.toNat + 1) ?_
  have hg := M.g_pos_r (a := a) h3
  have ha := M.l1_abs (a := a) h3
  have hl := M.l2_le (a := a) h3
  have hp := M.l2_pos (a := a) h3
  unfold spec_clLow.f
  rw [clLow_l0 a b b.toNat a b (Nat.le_refl _) h1 (by omega) hg, M.tdiv_l1 h3, M.tdiv_l2 h3, M.wrap_id (by omega) (by omega), M.wrap_id (by omega) (by omega)]
theorem sShadowAt_ev (l h p s m : Int) : Ev (fun k => spec_ShadowAt.f k l h p s m) (if M.PlOk l h p s m then (M.l1 ((p + s * m) * h) (l - h), M.l2 ((p + s * m) * h) (l - h), true) else (0, 0, false)) := by
  unfold spec_ShadowAt.f
  have hq := wkPlace_ev l h p s m
  by_cases hw : M.PlOk l h p s m
  · rw [if_pos hw] at hq ⊢
    refine Ev.bind hq (M.evp rfl ?_)
    have ⟨w1, w2, w3⟩ := hw
    have hb := M.pl_b w1 w2
    obtain ⟨⟨a1, a2⟩, ⟨b1, b2⟩, ⟨c1, c2⟩, d1, d2⟩ := w1
    have h1 := M.mulb 3500 200 (a := p + s * m) (b := h) (by omega) (by omega) (by omega) (by omega)
    simp only
    rw [M.wrap_id (n := (p + s * m) * h) (by omega) (by omega), M.wrap_id (n := l - h) (by omega) (by omega)]
    exact Ev.bind (clLow_ev _ _ (by omega) (by omega) (by omega) (by omega)) (Ev.now _)
  · rw [if_neg hw] at hq ⊢
    exact Ev.bind hq (M.evn (by simp) (Ev.now _))
theorem spec_ShadowTable_l0_ev (x0 : Int) (x2 : Int) (x10 : List (List Int)) (x11 : Int) (x129000 : Int) (x129001 : Int) (x129002 : Int) {r : ((List (List Int)) × Bool)} (h : Ev (fun k => if x11 ≤ x2 then ((spec_ShadowAt.f k x0 x129000 x129001 x129002 x11).bind fun bt131 => (if x10.length < 5864062014805 then (spec_ShadowTable.l0 k x0 x2 (x10 ++ [(([bt131.1, bt131.2.1] : List Int))]) (wrap64 (x11 + 1)) x129000 x129001 x129002) else (none))) else (some (x10, true))) r) : Ev (fun k => spec_ShadowTable.l0 k x0 x2 x10 x11 x129000 x129001 x129002) r := Ev.step (fun k => by simp only [spec_ShadowTable.l0]) h
/-- A shadow as a row of the table. -/
def shRow (l h p s : Int) (m : Int) : List Int := if M.PlOk l h p s m then [M.l1 ((p + s * m) * h) (l - h), M.l2 ((p + s * m) * h) (l - h)] else [0, 0]
theorem shRow_eq (l h p s m : Int) : [(if M.PlOk l h p s m then (M.l1 ((p + s * m) * h) (l - h), M.l2 ((p + s * m) * h) (l - h), true) else (0, 0, false)).1, (if M.PlOk l h p s m then (M.l1 ((p + s * m) * h) (l - h), M.l2 ((p + s * m) * h) (l - h), true) else (0, 0, false)).2.1] = shRow l h p s m := by
  unfold shRow; split <;> rfl
theorem sTable_l0 (l h p s n : Int) (hn : 0 ≤ n ∧ n ≤ 60) : ∀ (q : Nat) (acc : List (List Int)) (m : Int), (n + 1 - m).toNat = q → 0 ≤ m → m ≤ n + 1 → acc.length ≤ m →
    Ev (fun k => spec_ShadowTable.l0 k l n acc m h p s) (acc ++ M.tab (shRow l h p s) m q, true)
  | 0, acc, m, hq, h0, h1, ha => by
    have e : acc ++ M.tab (shRow l h p s) m 0 = acc := by simp [M.tab]
    rw [e]
    exact spec_ShadowTable_l0_ev _ _ _ _ _ _ _ (M.evn (by omega) (Ev.now _))
  | q + 1, acc, m, hq, h0, h1, ha => by
    refine spec_ShadowTable_l0_ev _ _ _ _ _ _ _ (M.evp (by omega) (Ev.bind (sShadowAt_ev l h p s m) (M.evp (by omega) ?_)))
    rw [shRow_eq, M.wrap_id (n := m + 1) (by omega) (by omega)]
    have := sTable_l0 l h p s n hn q (acc ++ [shRow l h p s m]) (m + 1) (by omega) (by omega) (by omega) (by simp; omega)
    simpa [M.tab] using this
theorem sTable_ev (l h p s n : Int) : Ev (fun k => spec_ShadowTable.f k l h p s n) (if M.PlOk l h p s n then (M.tab (shRow l h p s) 0 (n + 1).toNat, true) else ([], false)) := by
  unfold spec_ShadowTable.f
  have q := wkPlace_ev l h p s n
  by_cases hw : M.PlOk l h p s n
  · rw [if_pos hw] at q ⊢
    refine Ev.bind q (M.evp rfl ?_)
    simpa using sTable_l0 l h p s n hw.2.1 (n + 1).toNat [] 0 (by omega) (by omega) (by have := hw.2.1; omega) (by simp)
  · rw [if_neg hw] at q ⊢
    exact Ev.bind q (M.evn (by simp) (Ev.now _))
theorem within_eq (a b c : Int) : impl_within.f a b c = some (decide (b ≤ a ∧ a ≤ c)) := by
  unfold impl_within.f
  by_cases h : b ≤ a <;> simp [h]
theorem isLamp_eq (a : Int) : impl_isLamp.f a = some (decide (2 ≤ a ∧ a ≤ 200)) := by simp [impl_isLamp.f, within_eq]
theorem IsWalker_eq (l h p s : Int) : impl_IsWalker.f l h p s = some (decide (M.Wk l h p s)) := by
  unfold impl_IsWalker.f M.Wk
  by_cases h1 : 2 ≤ l ∧ l ≤ 200
  · have e : wrap64 (l - 1) = l - 1 := M.wrap_id (by omega) (by omega)
    by_cases h2 : 1 ≤ h ∧ h ≤ l - 1 <;> by_cases h3 : 0 ≤ p ∧ p ≤ 500 <;> simp [within_eq, isLamp_eq, h1, h2, h3, e]
  · simp [isLamp_eq, h1]
theorem isMinute_eq (a : Int) : impl_isMinute.f a = some (decide (0 ≤ a ∧ a ≤ 60)) := by simp [impl_isMinute.f, within_eq]
theorem iPlaceAt_eq (l h p s m : Int) : impl_PlaceAt.f l h p s m = some (if M.PlOk l h p s m then (p + s * m, true) else (0, false)) := by
  simp only [impl_PlaceAt.f, IsWalker_eq, isMinute_eq, Option.bind_some, decide_eq_true_eq]
  by_cases hw : M.Wk l h p s
  · rw [if_pos hw]
    by_cases hm : 0 ≤ m ∧ m ≤ 60
    · have hb := M.pl_b hw hm
      have hp := hw.2.2.1
      rw [if_pos hm, M.wrap_id (n := s * m) (by omega) (by omega), M.wrap_id (n := p + s * m) (by omega) (by omega)]
      by_cases hn : p + s * m < 0
      · rw [if_pos hn, if_neg (fun h => by have := h.2.2; omega)]
      · rw [if_neg hn, if_pos ⟨hw, hm, by omega⟩]
    · rw [if_neg hm, if_neg (fun h => hm h.2.1)]
  · rw [if_neg hw, if_neg (fun h => hw h.1)]
theorem impl_gcd_l0_ev (x0 : Int) (x1 : Int) {r : (Int)} (h : Ev (fun k => if x1 = 0 then (some (mx x0 (wrap64 (-x0)))) else (impl_gcd.l0 k x1 (Int.tmod x0 x1))) r) : Ev (fun k => impl_gcd.l0 k x0 x1) r := Ev.step (fun k => by simp only [impl_gcd.l0]) h
theorem gcd_l0 : ∀ (n : Nat) (a b : Int), b.natAbs ≤ n → -9223372036854775807 ≤ a → a ≤ 9223372036854775807 → -9223372036854775807 ≤ b → b ≤ 9223372036854775807 →
    impl_gcd.l0 (n + 1) a b = some (M.g a b)
  | n, a, b, hn, h1, h2, h3, h4 => by
    simp only [impl_gcd.l0]
    by_cases hb : b = 0
    · subst hb
      rw [if_pos rfl, M.g_zero, M.wrap_id (by omega) (by omega)]
      unfold mx; congr 1; omega
    · rw [if_neg hb]
      have e : (Int.tmod a b).natAbs = a.natAbs % b.natAbs := Int.natAbs_tmod ..
      have lt : a.natAbs % b.natAbs < b.natAbs := Nat.mod_lt _ (by omega)
      cases n with
      | zero => omega
      | succ n => rw [gcd_l0 n b (Int.tmod a b) (by omega) h3 h4 (by omega) (by omega), M.g_tmod]
theorem gcd_ev (a b : Int) (h1 : -9223372036854775807 ≤ a) (h2 : a ≤ 9223372036854775807) (h3 : -9223372036854775807 ≤ b) (h4 : b ≤ 9223372036854775807) :
    Ev (fun k => impl_gcd.f k a b) (M.g a b) :=
  Ev.of (impl_gcd.mono a b) (k := b.natAbs + 1) (by unfold impl_gcd.f; exact gcd_l0 _ a b (Nat.le_refl _) h1 h2 h3 h4)
theorem fraction_ev (a b : Int) (h1 : -9223372036854775807 ≤ a) (h2 : a ≤ 9223372036854775807) (h3 : 0 < b) (h4 : b ≤ 9223372036854775807) :
    Ev (fun k => impl_fraction.f k a b) (M.l1 a b, M.l2 a b, true) := by
  simp only [impl_fraction.f]
  refine Ev.bind (gcd_ev a b h1 h2 (by omega) h4) ?_
  have hg := M.g_pos_r (a := a) h3
  have ha := M.l1_abs (a := a) h3
  have hl := M.l2_le (a := a) h3
  have hp := M.l2_pos (a := a) h3
  rw [if_neg (by omega), M.tdiv_l1 h3, M.tdiv_l2 h3, M.wrap_id (by omega) (by omega), M.wrap_id (by omega) (by omega)]
  exact Ev.now _
theorem iShadowAt_ev (l h p s m : Int) : Ev (fun k => impl_ShadowAt.f k l h p s m) (if M.PlOk l h p s m then (M.l1 ((p + s * m) * h) (l - h), M.l2 ((p + s * m) * h) (l - h), true) else (0, 0, false)) := by
  simp only [impl_ShadowAt.f, iPlaceAt_eq, Option.bind_some]
  by_cases hw : M.PlOk l h p s m
  · simp only [if_pos hw, if_true]
    have ⟨w1, w2, w3⟩ := hw
    have hb := M.pl_b w1 w2
    obtain ⟨⟨a1, a2⟩, ⟨b1, b2⟩, ⟨c1, c2⟩, d1, d2⟩ := w1
    have h1 := M.mulb 3500 200 (a := p + s * m) (b := h) (by omega) (by omega) (by omega) (by omega)
    rw [M.wrap_id (n := (p + s * m) * h) (by omega) (by omega), M.wrap_id (n := l - h) (by omega) (by omega)]
    exact Ev.bind (fraction_ev _ _ (by omega) (by omega) (by omega) (by omega)) (Ev.now _)
  · simp only [if_neg hw, Bool.false_eq_true, if_false]; exact Ev.now _
theorem impl_ShadowTable_l0_ev (x0 : Int) (x2 : Int) (x10 : List (List Int)) (x11 : Int) (x158000 : Int) (x158001 : Int) (x158002 : Int) {r : ((List (List Int)) × Bool)} (h : Ev (fun k => if x11 ≤ x2 then ((impl_ShadowAt.f k x0 x158000 x158001 x158002 x11).bind fun bt163 => (if x10.length < 5864062014805 then (impl_ShadowTable.l0 k x0 x2 (x10 ++ [(([bt163.1, bt163.2.1] : List Int))]) (wrap64 (x11 + 1)) x158000 x158001 x158002) else (none))) else (some (x10, true))) r) : Ev (fun k => impl_ShadowTable.l0 k x0 x2 x10 x11 x158000 x158001 x158002) r := Ev.step (fun k => by simp only [impl_ShadowTable.l0]) h
theorem iTable_l0 (l h p s n : Int) (hn : 0 ≤ n ∧ n ≤ 60) : ∀ (q : Nat) (acc : List (List Int)) (m : Int), (n + 1 - m).toNat = q → 0 ≤ m → m ≤ n + 1 → acc.length ≤ m →
    Ev (fun k => impl_ShadowTable.l0 k l n acc m h p s) (acc ++ M.tab (shRow l h p s) m q, true)
  | 0, acc, m, hq, h0, h1, ha => by
    have e : acc ++ M.tab (shRow l h p s) m 0 = acc := by simp [M.tab]
    rw [e]
    exact impl_ShadowTable_l0_ev _ _ _ _ _ _ _ (M.evn (by omega) (Ev.now _))
  | q + 1, acc, m, hq, h0, h1, ha => by
    refine impl_ShadowTable_l0_ev _ _ _ _ _ _ _ (M.evp (by omega) (Ev.bind (iShadowAt_ev l h p s m) (M.evp (by omega) ?_)))
    rw [shRow_eq, M.wrap_id (n := m + 1) (by omega) (by omega)]
    have := iTable_l0 l h p s n hn q (acc ++ [shRow l h p s m]) (m + 1) (by omega) (by omega) (by omega) (by simp; omega)
    simpa [M.tab] using this
theorem iTable_ev (l h p s n : Int) : Ev (fun k => impl_ShadowTable.f k l h p s n) (if M.PlOk l h p s n then (M.tab (shRow l h p s) 0 (n + 1).toNat, true) else ([], false)) := by
  simp only [impl_ShadowTable.f, iPlaceAt_eq, Option.bind_some]
  by_cases hw : M.PlOk l h p s n
  · simp only [if_pos hw, if_true]
    simpa using iTable_l0 l h p s n hw.2.1 (n + 1).toNat [] 0 (by omega) (by omega) (by have := hw.2.1; omega) (by simp)
  · simp only [if_neg hw, Bool.false_eq_true, if_false]; exact Ev.now _
theorem marks_l0 : ∀ (rest done : List (List Int)) (a : Int), (done ++ rest).length ≤ 100000000 → (∀ x ∈ rest, x.length ≤ 1000) → 0 ≤ a → M.tot rest a ≤ 100000000000 →
    Ev (fun k => MkFnExactShadowTable.marks k (done ++ rest) a done.length) (M.tot rest a, done ++ M.mkSS rest a)
  | [], done, a, _, _, _, _ => by
    refine Ev.step (f := fun _ => some (a, done ++ [])) (fun k => ?_) (Ev.now _)
    simp only [MkFnExactShadowTable.marks]
    rw [if_neg (by simp)]
  | x :: rest, done, a, hl, hx, h0, h1 => by
    have h2 : (done ++ x :: rest).length = done.length + rest.length + 1 := by simp; omega
    have hlt : ((done.length : Nat) : Int) < (((done ++ x :: rest).length : Nat) : Int) := by omega
    have hx1 := hx x List.mem_cons_self
    have h3 := M.tot_ge rest (a + x.length)
    have h4 : M.tot (x :: rest) a = M.tot rest (a + x.length) := rfl
    have e0 : rd_L1 (done ++ x :: rest) (done.length : Int) = x := by simp [rd_L1]
    have e : wrap64 ((done.length : Int) + 1) = ((done ++ [M.cnt a x.length]).length : Int) := by rw [M.wrap_id (by omega) (by omega)]; simp
    have e2 : (done ++ x :: rest).set ((done.length : Int)).toNat (M.cnt a x.length) = (done ++ [M.cnt a x.length]) ++ rest := by simp
    refine Ev.step (f := fun k => (laws_markIntS.f k x a).bind fun t => MkFnExactShadowTable.marks k ((done ++ x :: rest).set ((done.length : Int)).toNat t.2) t.1 ((done ++ [M.cnt a x.length]).length : Int)) (fun k => ?_) (Ev.bind (markIntS_ev x a (by omega) h0 (by omega)) ?_)
    · simp only [MkFnExactShadowTable.marks]
      rw [if_pos hlt, if_pos (by omega), e0, e]
    · have ih := marks_l0 rest (done ++ [M.cnt a x.length]) (a + x.length) (by simp at hl ⊢; omega) (fun y hy => hx y (List.mem_cons_of_mem _ hy)) (by omega) (by rw [← h4]; exact h1)
      have e3 : (M.tot (x :: rest) a, done ++ M.mkSS (x :: rest) a) = (M.tot rest (a + x.length), (done ++ [M.cnt a x.length]) ++ M.mkSS rest (a + x.length)) := by simp [M.mkSS, M.tot]
      simp only [e2]
      rw [e3]; exact ih
theorem law_of {sf impf : Nat → Option (List (List Int) × Bool)} {r : List (List Int) × Bool} (q1 : Ev sf r) (q2 : Ev impf r) (hl : r.1.length ≤ 10000) (hx : ∀ x ∈ r.1, x.length ≤ 1000) :
    ∃ (k : Nat) (l : List (List Int)) (b : Bool) (m : Int) (l2 : List (List Int)), sf k = some (l, b) ∧ impf k = some (l, b) ∧ laws_eqIntSS.f k l l = some true ∧ MkFnExactShadowTable.marks k l 1 0 = some (m, l2) ∧ laws_heldIntSS.f k l2 1 = some m ∧ 0 ≤ m := by
  obtain ⟨l, b⟩ := r
  have t1 := M.tot_le l 1 hx
  have t2 := M.tot_ge l 1
  replace hl : l.length ≤ 10000 := hl
  obtain ⟨K1, h1⟩ := q1
  obtain ⟨K2, h2⟩ := q2
  obtain ⟨K3, h3⟩ := eqIntSS_self l (by omega) (fun x h => by have := hx x h; omega)
  obtain ⟨K4, h4⟩ := marks_l0 l [] 1 (by simp; omega) hx (by omega) (by omega)
  obtain ⟨K5, h5⟩ := heldIntSS_ev l (by omega) hx
  refine ⟨K1 + K2 + K3 + K4 + K5, l, b, M.tot l 1, M.mkSS l 1, h1 _ (by omega), h2 _ (by omega), h3 _ (by omega), ?_, h5 _ (by omega), by omega⟩
  simpa using h4 (K1 + K2 + K3 + K4 + K5) (by omega)
theorem law : StFnExactShadowTable.Pure := by
  intro l h p s n _ _ _ _ _
  refine law_of (sTable_ev l h p s n) (iTable_ev l h p s n) ?_ ?_
  · split
    · next hb => rw [M.tab_length]; have := hb.2.1; omega
    · simp
  · split
    · next hb =>
      intro x hx
      obtain ⟨i, _, _, rfl⟩ := M.tab_mem _ _ _ x hx
      unfold shRow; split <;> simp
    · simp
end Go.Proofs.Yteognjcnnghknaa.PbFnExactShadowTable
namespace Go.Proofs.Yteognjcnnghknaa.Pure
theorem FnExactShadowTable : StFnExactShadowTable.Pure := PbFnExactShadowTable.law
end Go.Proofs.Yteognjcnnghknaa.Pure
