/- The plain part of FnExactWholeLadders: what the printed functions of the program and of the reference answer, in plain Lean, and that the law answers true. No condition. -/
import Derived.Test.YteognjcnnghknaaStFnExactWholeLadders
import Derived.Test.YteognjcnnghknaaM
namespace Go.Proofs.Yteognjcnnghknaa.PbFnExactWholeLadders
open Go.RowKit Go.Proofs.Yteognjcnnghknaa Go.Proofs.Yteognjcnnghknaa.PFnExactWholeLadders Go.Proofs.YteognjcnnghknaaW.PrintWords Go.Proofs.YteognjcnnghknaaW.PrintLast
set_option linter.unusedVariables false
set_option linter.unusedSimpArgs false

theorem laws_eqIntS_l0_ev (x0 : List Int) (x1 : List Int) (x5 : Int) {r : (Bool)} (h : Ev (fun k => if x5 < (x0.length : Int) then (if 0 ≤ x5 then (if x5 < (x1.length : Int) then (if (rd x0 x5) = (rd x1 x5) then (laws_eqIntS.l0 k x0 x1 (wrap64 (x5 + 1))) else (some false)) else (none)) else (none)) else (some true)) r) : Ev (fun k => laws_eqIntS.l0 k x0 x1 x5) r := Ev.step (fun k => by simp only [laws_eqIntS.l0]) h
theorem rd_mid (done rest : List Int) (x : Int) : rd (done ++ x :: rest) (done.length : Int) = x := by simp [rd]
theorem eqIntS_l0 : ∀ (rest done : List Int), (done ++ rest).length ≤ 1000000000000 → Ev (fun k => laws_eqIntS.l0 k (done ++ rest) (done ++ rest) done.length) true
  | [], done, _ => laws_eqIntS_l0_ev _ _ _ (M.evn (by simp) (Ev.now _))
  | x :: rest, done, hl => by
    have h2 : (done ++ x :: rest).length = done.length + rest.length + 1 := by simp; omega
    have hlt : ((done.length : Nat) : Int) < (((done ++ x :: rest).length : Nat) : Int) := by omega
    refine laws_eqIntS_l0_ev _ _ _ (M.evp hlt (M.evp (by omega) (M.evp hlt (M.evp rfl ?_))))
    have ih := eqIntS_l0 rest (done ++ [x]) (by simpa using hl)
    have e : wrap64 ((done.length : Int) + 1) = ((done ++ [x]).length : Int) := by rw [M.wrap_id (by omega) (by omega)]; simp
    rw [e]
    simpa using ih
theorem eqIntS_self (l : List Int) (h : l.length ≤ 1000000000000) : Ev (fun k => laws_eqIntS.f k l l) true := by
  unfold laws_eqIntS.f
  exact M.evp rfl (by simpa using eqIntS_l0 l [] (by simpa using h))
theorem laws_eqIntSS_l0_ev (x0 : List (List Int)) (x1 : List (List Int)) (x5 : Int) {r : (Bool)} (h : Ev (fun k => if x5 < (x0.length : Int) then (if 0 ≤ x5 then (if x5 < (x1.length : Int) then ((laws_eqIntS.f k (rd_L1 x0 x5) (rd_L1 x1 x5)).bind fun t108 => (if t108 = true then (laws_eqIntSS.l0 k x0 x1 (wrap64 (x5 + 1))) else (some false))) else (none)) else (none)) else (some true)) r) : Ev (fun k => laws_eqIntSS.l0 k x0 x1 x5) r := Ev.step (fun k => by simp only [laws_eqIntSS.l0]) h
theorem rdL_mid (done rest : List (List Int)) (x : List Int) : rd_L1 (done ++ x :: rest) (done.length : Int) = x := by simp [rd_L1]
theorem eqIntSS_l0 : ∀ (rest done : List (List Int)), (done ++ rest).length ≤ 1000000000000 → (∀ x ∈ rest, x.length ≤ 1000000) → Ev (fun k => laws_eqIntSS.l0 k (done ++ rest) (done ++ rest) done.length) true
  | [], done, _, _ => laws_eqIntSS_l0_ev _ _ _ (M.evn (by simp) (Ev.now _))
  | x :: rest, done, hl, hx => by
    have h2 : (done ++ x :: rest).length = done.length + rest.length + 1 := by simp; omega
    have hlt : ((done.length : Nat) : Int) < (((done ++ x :: rest).length : Nat) : Int) := by omega
    refine laws_eqIntSS_l0_ev _ _ _ (M.evp hlt (M.evp (by omega) (M.evp hlt ?_)))
    rw [rdL_mid]
    have hx1 := hx x List.mem_cons_self
    refine Ev.bind (eqIntS_self x (by omega)) (M.evp rfl ?_)
    have ih := eqIntSS_l0 rest (done ++ [x]) (by simpa using hl) (fun y hy => hx y (List.mem_cons_of_mem _ hy))
    have e : wrap64 ((done.length : Int) + 1) = ((done ++ [x]).length : Int) := by rw [M.wrap_id (by omega) (by omega)]; simp
    rw [e]
    simpa using ih
theorem eqIntSS_self (l : List (List Int)) (h : l.length ≤ 1000000000000) (hx : ∀ x ∈ l, x.length ≤ 1000000) : Ev (fun k => laws_eqIntSS.f k l l) true := by
  unfold laws_eqIntSS.f
  exact M.evp rfl (by simpa using eqIntSS_l0 l [] (by simpa using h) hx)
theorem laws_markIntS_l0_ev (x0 : List Int) (x1 : Int) (x5 : Int) {r : (Int × List Int)} (h : Ev (fun k => if x5 < (x0.length : Int) then (if 0 ≤ x5 then (laws_markIntS.l0 k (x0.set (x5 : Int).toNat x1) (wrap64 (x1 + 1)) (wrap64 (x5 + 1))) else (none)) else (some (x1, x0))) r) : Ev (fun k => laws_markIntS.l0 k x0 x1 x5) r := Ev.step (fun k => by simp only [laws_markIntS.l0]) h
theorem markIntS_l0 : ∀ (rest done : List Int) (a : Int), (done ++ rest).length ≤ 1000000000000 → 0 ≤ a → a + rest.length ≤ 1000000000000 →
    Ev (fun k => laws_markIntS.l0 k (done ++ rest) a done.length) (a + rest.length, done ++ M.cnt a rest.length)
  | [], done, a, _, _, _ => by
    have e : (a + (([] : List Int).length : Int), done ++ M.cnt a ([] : List Int).length) = (a, done ++ []) := by simp [M.cnt]
    rw [e]
    exact laws_markIntS_l0_ev _ _ _ (M.evn (by simp) (Ev.now _))
  | x :: rest, done, a, hl, h0, h1 => by
    have h2 : (done ++ x :: rest).length = done.length + rest.length + 1 := by simp; omega
    have hlt : ((done.length : Nat) : Int) < (((done ++ x :: rest).length : Nat) : Int) := by omega
    refine laws_markIntS_l0_ev _ _ _ (M.evp hlt (M.evp (by omega) ?_))
    have e : wrap64 ((done.length : Int) + 1) = ((done ++ [a]).length : Int) := by rw [M.wrap_id (by omega) (by omega)]; simp
    have e2 : wrap64 (a + 1) = a + 1 := M.wrap_id (by omega) (by omega)
    have e3 : (done ++ x :: rest).set ((done.length : Int)).toNat a = (done ++ [a]) ++ rest := by simp
    have e4 : (a + ((x :: rest).length : Int), done ++ M.cnt a (x :: rest).length) = (a + 1 + (rest.length : Int), (done ++ [a]) ++ M.cnt (a + 1) rest.length) := by
      simp only [List.length_cons, M.cnt, List.append_assoc, List.singleton_append, Prod.mk.injEq, and_true]; omega
    rw [e, e2, e3, e4]
    exact markIntS_l0 rest (done ++ [a]) (a + 1) (by simpa using hl) (by omega) (by rw [List.length_cons] at h1; omega)
theorem markIntS_ev (l : List Int) (a : Int) (h : l.length ≤ 100000000000) (h0 : 0 ≤ a) (h1 : a ≤ 100000000000) : Ev (fun k => laws_markIntS.f k l a) (a + l.length, M.cnt a l.length) := by
  unfold laws_markIntS.f
  simpa using markIntS_l0 l [] a (by simp; omega) h0 (by omega)
theorem laws_heldIntS_l0_ev (x0 : List Int) (x1 : Int) (x5 : Int) {r : (Int)} (h : Ev (fun k => if x5 < (x0.length : Int) then (if 0 ≤ x5 then (if (rd x0 x5) = x1 then (laws_heldIntS.l0 k x0 (wrap64 (x1 + 1)) (wrap64 (x5 + 1))) else (some (-1))) else (none)) else (some x1)) r) : Ev (fun k => laws_heldIntS.l0 k x0 x1 x5) r := Ev.step (fun k => by simp only [laws_heldIntS.l0]) h
theorem heldIntS_l0 : ∀ (n : Nat) (done : List Int) (a : Int), done.length + n ≤ 1000000000000 → 0 ≤ a → a + n ≤ 2000000000000 →
    Ev (fun k => laws_heldIntS.l0 k (done ++ M.cnt a n) a done.length) (a + n)
  | 0, done, a, _, _, _ => by
    have e : a + ((0 : Nat) : Int) = a := by omega
    rw [e]
    exact laws_heldIntS_l0_ev _ _ _ (M.evn (by simp [M.cnt]) (Ev.now _))
  | n + 1, done, a, hl, h0, h1 => by
    have h2 : (done ++ M.cnt a (n + 1)).length = done.length + n + 1 := by simp [M.cnt_length]; omega
    have hlt : ((done.length : Nat) : Int) < (((done ++ M.cnt a (n + 1)).length : Nat) : Int) := by omega
    have e0 : rd (done ++ M.cnt a (n + 1)) (done.length : Int) = a := by rw [M.cnt]; simp [rd]
    refine laws_heldIntS_l0_ev _ _ _ (M.evp hlt (M.evp (by omega) (M.evp e0 ?_)))
    have ih := heldIntS_l0 n (done ++ [a]) (a + 1) (by simp; omega) (by omega) (by omega)
    have e : wrap64 ((done.length : Int) + 1) = ((done ++ [a]).length : Int) := by rw [M.wrap_id (by omega) (by omega)]; simp
    have e2 : wrap64 (a + 1) = a + 1 := M.wrap_id (by omega) (by omega)
    have e3 : done ++ M.cnt a (n + 1) = (done ++ [a]) ++ M.cnt (a + 1) n := by simp [M.cnt]
    have e4 : a + ((n + 1 : Nat) : Int) = a + 1 + (n : Int) := by omega
    rw [e, e2, e3, e4]; exact ih
theorem heldIntS_ev (n : Nat) (a : Int) (h : n ≤ 1000000000000) (h0 : 0 ≤ a) (h1 : a ≤ 1000000000000) : Ev (fun k => laws_heldIntS.f k (M.cnt a n) a) (a + n) := by
  unfold laws_heldIntS.f
  simpa using heldIntS_l0 n [] a (by simp; omega) h0 (by omega)
theorem laws_heldIntSS_l0_ev (x0 : List (List Int)) (x1 : Int) (x5 : Int) {r : (Int)} (h : Ev (fun k => if x5 < (x0.length : Int) then (if 0 ≤ x5 then ((laws_heldIntS.f k (rd_L1 x0 x5) x1).bind fun t113 => (if t113 < 0 then (some (-1)) else (laws_heldIntSS.l0 k x0 t113 (wrap64 (x5 + 1))))) else (none)) else (some x1)) r) : Ev (fun k => laws_heldIntSS.l0 k x0 x1 x5) r := Ev.step (fun k => by simp only [laws_heldIntSS.l0]) h
theorem rdL_mid' (done rest : List (List Int)) (x : List Int) : rd_L1 (done ++ x :: rest) (done.length : Int) = x := by simp [rd_L1]
theorem heldIntSS_l0 : ∀ (l done : List (List Int)) (a : Int), done.length + l.length ≤ 100000000 → (∀ x ∈ l, x.length ≤ 1000) → 0 ≤ a → M.tot l a ≤ 1000000000000 →
    Ev (fun k => laws_heldIntSS.l0 k (done ++ M.mkSS l a) a done.length) (M.tot l a)
  | [], done, a, _, _, _, _ => laws_heldIntSS_l0_ev _ _ _ (M.evn (by simp [M.mkSS]) (Ev.now _))
  | x :: rest, done, a, hl, hx, h0, h1 => by
    rw [List.length_cons] at hl
    have hx1 := hx x List.mem_cons_self
    have h2 : (done ++ M.mkSS (x :: rest) a).length = done.length + rest.length + 1 := by simp [M.mkSS_length]; omega
    have hlt : ((done.length : Nat) : Int) < (((done ++ M.mkSS (x :: rest) a).length : Nat) : Int) := by omega
    have h3 := M.tot_ge rest (a + x.length)
    have h4 : M.tot (x :: rest) a = M.tot rest (a + x.length) := rfl
    have e0 : rd_L1 (done ++ M.mkSS (x :: rest) a) (done.length : Int) = M.cnt a x.length := by rw [M.mkSS]; exact rdL_mid' _ _ _
    refine laws_heldIntSS_l0_ev _ _ _ (M.evp hlt (M.evp (by omega) ?_))
    rw [e0]
    refine Ev.bind (heldIntS_ev x.length a (by omega) h0 (by omega)) (M.evn (by omega) ?_)
    have ih := heldIntSS_l0 rest (done ++ [M.cnt a x.length]) (a + x.length) (by simp; omega) (fun y hy => hx y (List.mem_cons_of_mem _ hy)) (by omega) (by rw [← h4]; exact h1)
    have e : wrap64 ((done.length : Int) + 1) = ((done ++ [M.cnt a x.length]).length : Int) := by rw [M.wrap_id (by omega) (by omega)]; simp
    have e3 : done ++ M.mkSS (x :: rest) a = (done ++ [M.cnt a x.length]) ++ M.mkSS rest (a + x.length) := by simp [M.mkSS]
    rw [e, e3, h4]; exact ih
theorem heldIntSS_ev (l : List (List Int)) (h : l.length ≤ 100000000) (hx : ∀ x ∈ l, x.length ≤ 1000) : Ev (fun k => laws_heldIntSS.f k (M.mkSS l 1) 1) (M.tot l 1) := by
  unfold laws_heldIntSS.f
  have := M.tot_le l 1 hx
  simpa using heldIntSS_l0 l [] 1 (by simp; omega) hx (by omega) (by omega)
theorem l1In_eq (a b c : Int) : spec_l1In.f a b c = some (decide (b ≤ a ∧ a ≤ c)) := by
  unfold spec_l1In.f
  by_cases h : b ≤ a <;> simp [h]
theorem lnBox_eq (a b : Int) : spec_lnBox.f a b = some (decide ((1 ≤ a ∧ a ≤ 60) ∧ 1 ≤ b ∧ b ≤ 60)) := by
  unfold spec_lnBox.f
  by_cases h : 1 ≤ a ∧ a ≤ 60 <;> simp [l1In_eq, h]
theorem spec_lnLeans_l0_ev (x3 : List (List Int)) (x4 : Int) (x5 : Int) (x118000 : Int) (x118001 : Int) {r : ((List (List Int)))} (h : Ev (fun k => if x5 ≤ x4 then (if x5 = 0 then (none) else (if (Int.tmod x4 x5) = 0 then (if x3.length < 5864062014805 then (spec_lnLeans.l0 k (x3 ++ [(([wrap64 (x118000 + x5), wrap64 (x118001 + (wrap64 (Int.tdiv x4 x5)))] : List Int))]) x4 (wrap64 (x5 + 1)) x118000 x118001) else (none)) else (spec_lnLeans.l0 k x3 x4 (wrap64 (x5 + 1)) x118000 x118001))) else (some x3)) r) : Ev (fun k => spec_lnLeans.l0 k x3 x4 x5 x118000 x118001) r := Ev.step (fun k => by simp only [spec_lnLeans.l0]) h
theorem lnLeans_l0 (w h : Int) (hb : (1 ≤ w ∧ w ≤ 60) ∧ 1 ≤ h ∧ h ≤ 60) : ∀ (n : Nat) (acc : List (List Int)) (d : Int), (w * h + 1 - d).toNat = n → 1 ≤ d → d ≤ 3601 → acc.length ≤ d →
    Ev (fun k => spec_lnLeans.l0 k acc (w * h) d w h) (acc ++ (M.sel (fun d => decide ((w * h) % d = 0)) d n).map fun d => [w + d, h + w * h / d])
  | 0, acc, d, hn, h1, h2, ha => by
    have e : acc ++ (M.sel (fun d => decide ((w * h) % d = 0)) d 0).map (fun d => [w + d, h + w * h / d]) = acc := by simp [M.sel]
    rw [e]
    exact spec_lnLeans_l0_ev _ _ _ _ _ (M.evn (by omega) (Ev.now _))
  | n + 1, acc, d, hn, h1, h2, ha => by
    have hm := M.mulb 60 60 (a := w) (b := h) (by omega) (by omega) (by omega) (by omega)
    refine spec_lnLeans_l0_ev _ _ _ _ _ (M.evp (by omega) (M.evn (by omega) ?_))
    have t1 : Int.tmod (w * h) d = (w * h) % d := Int.tmod_eq_emod_of_nonneg hm.1
    have t2 : Int.tdiv (w * h) d = (w * h) / d := Int.tdiv_eq_ediv_of_nonneg hm.1
    have q1 : 0 ≤ w * h / d := Int.ediv_nonneg hm.1 (by omega)
    have q2 : w * h / d ≤ w * h := Int.ediv_le_self _ hm.1
    rw [t1, t2, M.wrap_id (n := w * h / d) (by omega) (by omega), M.wrap_id (n := w + d) (by omega) (by omega), M.wrap_id (n := h + w * h / d) (by omega) (by omega), M.wrap_id (n := d + 1) (by omega) (by omega)]
    rw [M.sel]
    by_cases hr : (w * h) % d = 0
    · rw [if_pos (decide_eq_true hr)]
      refine M.evp hr (M.evp (by omega) ?_)
      have := lnLeans_l0 w h hb n (acc ++ [[w + d, h + w * h / d]]) (d + 1) (by omega) (by omega) (by omega) (by simp; omega)
      simpa using this
    · rw [if_neg (by simpa using hr)]
      exact M.evn hr (lnLeans_l0 w h hb n acc (d + 1) (by omega) (by omega) (by omega) (by omega))
theorem lnLeans_ev (w h : Int) (hb : (1 ≤ w ∧ w ≤ 60) ∧ 1 ≤ h ∧ h ≤ 60) : Ev (fun k => spec_lnLeans.f k w h) (M.leans w h) := by
  have hm := M.mulb 60 60 (a := w) (b := h) (by omega) (by omega) (by omega) (by omega)
  unfold spec_lnLeans.f M.leans
  rw [M.wrap_id (n := w * h) (by omega) (by omega)]
  simpa using lnLeans_l0 w h hb (w * h).toNat [] 1 (by omega) (by omega) (by omega) (by simp)
theorem spec_clRoot_l0_ev (x0 : Int) (x3 : Int) (x4 : Int) {r : (Int)} (h : Ev (fun k => if x3 < (wrap64 (x4 - 1)) then (if (wrap64 ((wrap64 (Int.tdiv (wrap64 (x3 + x4)) 2)) * (wrap64 (Int.tdiv (wrap64 (x3 + x4)) 2)))) ≤ x0 then (spec_clRoot.l0 k x0 (wrap64 (Int.tdiv (wrap64 (x3 + x4)) 2)) x4) else (spec_clRoot.l0 k x0 x3 (wrap64 (Int.tdiv (wrap64 (x3 + x4)) 2)))) else (some x3)) r) : Ev (fun k => spec_clRoot.l0 k x0 x3 x4) r := Ev.step (fun k => by simp only [spec_clRoot.l0]) h
theorem clRoot_l0 (x : Int) (hx : 0 ≤ x) : ∀ (n : Nat) (lo hi : Int), (hi - lo).toNat ≤ n → 0 ≤ lo → lo < hi → hi ≤ 2147483648 → lo * lo ≤ x → x < hi * hi →
    Ev (fun k => spec_clRoot.l0 k x lo hi) (M.root x)
  | n, lo, hi, hn, h0, h1, h2, h3, h4 => by
    have w1 : wrap64 (hi - 1) = hi - 1 := M.wrap_id (by omega) (by omega)
    have w2 : wrap64 (lo + hi) = lo + hi := M.wrap_id (by omega) (by omega)
    have t1 : Int.tdiv (lo + hi) 2 = (lo + hi) / 2 := Int.tdiv_eq_ediv_of_nonneg (by omega)
    have w3 : wrap64 (Int.tdiv (lo + hi) 2) = (lo + hi) / 2 := by rw [t1]; exact M.wrap_id (by omega) (by omega)
    have hb := M.mulb 2147483648 2147483648 (a := (lo + hi) / 2) (b := (lo + hi) / 2) (by omega) (by omega) (by omega) (by omega)
    have w4 : wrap64 ((lo + hi) / 2 * ((lo + hi) / 2)) = (lo + hi) / 2 * ((lo + hi) / 2) := M.wrap_id (by omega) (by omega)
    by_cases hd : lo < hi - 1
    · cases n with
      | zero => omega
      | succ n =>
        by_cases hm : (lo + hi) / 2 * ((lo + hi) / 2) ≤ x
        · refine Ev.step (f := fun k => spec_clRoot.l0 k x ((lo + hi) / 2) hi) (fun k => ?_) (clRoot_l0 x hx n _ hi (by omega) (by omega) (by omega) h2 hm h4)
          simp only [spec_clRoot.l0, w1, w2, w3, w4, if_pos hd, if_pos hm]
        · refine Ev.step (f := fun k => spec_clRoot.l0 k x lo ((lo + hi) / 2)) (fun k => ?_) (clRoot_l0 x hx n lo _ (by omega) h0 (by omega) (by omega) h3 (by omega))
          simp only [spec_clRoot.l0, w1, w2, w3, w4, if_pos hd, if_neg hm]
    · have e : hi = lo + 1 := by omega
      subst e
      have : M.root x = lo := M.root_unique h0 h3 h4
      rw [this]
      refine Ev.step (f := fun _ => some lo) (fun k => ?_) (Ev.now _)
      simp only [spec_clRoot.l0, w1, if_neg hd]
theorem clRoot_ev (x : Int) (hx : 0 ≤ x) (hx2 : x ≤ 1000000000000) : Ev (fun k => spec_clRoot.f k x) (M.root x) := by
  unfold spec_clRoot.f
  exact clRoot_l0 x hx _ 0 2147483648 (Nat.le_refl _) (by omega) (by omega) (by omega) (by omega) (by omega)
theorem spec_WholeLadders_l0_ev (x4 : List (List Int)) (x13 : List (List Int)) (x14 : Int) (x15 : Int) {r : ((List (List Int)) × Bool)} (h : Ev (fun k => if x15 < x14 then (if 0 ≤ x15 then (if x15 < (x13.length : Int) then (if 0 < ((rd_L1 x13 x15).length : Int) then (if 1 < ((rd_L1 x13 x15).length : Int) then ((spec_clRoot.f k (wrap64 ((wrap64 ((rd (rd_L1 x13 x15) 0) * (rd (rd_L1 x13 x15) 0))) + (wrap64 ((rd (rd_L1 x13 x15) 1) * (rd (rd_L1 x13 x15) 1)))))).bind fun t134 => (if (wrap64 (t134 * t134)) = (wrap64 ((wrap64 ((rd (rd_L1 x13 x15) 0) * (rd (rd_L1 x13 x15) 0))) + (wrap64 ((rd (rd_L1 x13 x15) 1) * (rd (rd_L1 x13 x15) 1))))) then (if x4.length < 5864062014805 then (spec_WholeLadders.l0 k (x4 ++ [(([rd (rd_L1 x13 x15) 0, rd (rd_L1 x13 x15) 1, t134] : List Int))]) x13 x14 (wrap64 (x15 + 1))) else (none)) else (spec_WholeLadders.l0 k x4 x13 x14 (wrap64 (x15 + 1))))) else (none)) else (none)) else (none)) else (none)) else (some (x4, true))) r) : Ev (fun k => spec_WholeLadders.l0 k x4 x13 x14 x15) r := Ev.step (fun k => by simp only [spec_WholeLadders.l0]) h
theorem sLad_l0 (n : Int) : ∀ (rest done acc : List (List Int)), ((done ++ rest).length : Int) = n → n ≤ 1000000 → acc.length ≤ done.length → (∀ x ∈ rest, ∃ a b, x = [a, b] ∧ (1 ≤ a ∧ a ≤ 3660) ∧ 1 ≤ b ∧ b ≤ 3660) →
    Ev (fun k => spec_WholeLadders.l0 k acc (done ++ rest) n done.length) (acc ++ rest.filterMap M.whole, true)
  | [], done, acc, hn, hl, ha, hx => by
    have e : acc ++ ([] : List (List Int)).filterMap M.whole = acc := by simp
    rw [e]
    exact spec_WholeLadders_l0_ev _ _ _ _ (M.evn (by simp at hn; omega) (Ev.now _))
  | x :: rest, done, acc, hn, hl, ha, hx => by
    have h2 : (done ++ x :: rest).length = done.length + rest.length + 1 := by simp; omega
    have e0 : rd_L1 (done ++ x :: rest) (done.length : Int) = x := by simp [rd_L1]
    obtain ⟨a, b, rfl, ha1, hb1⟩ := hx x List.mem_cons_self
    have q1 := M.mulb 3660 3660 (a := a) (b := a) (by omega) (by omega) (by omega) (by omega)
    have q2 := M.mulb 3660 3660 (a := b) (b := b) (by omega) (by omega) (by omega) (by omega)
    have r0 := M.root_nonneg (a * a + b * b)
    have r1 : M.root (a * a + b * b) ≤ 10000 := M.root_le (by omega) (by omega) (by omega)
    have q3 := M.mulb 10000 10000 (a := M.root (a * a + b * b)) (b := M.root (a * a + b * b)) (by omega) (by omega) (by omega) (by omega)
    refine spec_WholeLadders_l0_ev _ _ _ _ (M.evp (by omega) (M.evp (by omega) (M.evp (by omega) ?_)))
    rw [e0]
    have d0 : rd [a, b] 0 = a := rfl
    have d1 : rd [a, b] 1 = b := rfl
    rw [d0, d1, M.wrap_id (n := a * a) (by omega) (by omega), M.wrap_id (n := b * b) (by omega) (by omega), M.wrap_id (n := a * a + b * b) (by omega) (by omega)]
    refine M.evp (by simp) (M.evp (by simp) (Ev.bind (clRoot_ev _ (by omega) (by omega)) ?_))
    rw [M.wrap_id (n := M.root (a * a + b * b) * M.root (a * a + b * b)) (by omega) (by omega)]
    have e : wrap64 ((done.length : Int) + 1) = ((done ++ [[a, b]]).length : Int) := by rw [M.wrap_id (by omega) (by omega)]; simp
    rw [e]
    by_cases hr : M.root (a * a + b * b) * M.root (a * a + b * b) = a * a + b * b
    · refine M.evp hr (M.evp (by omega) ?_)
      have := sLad_l0 n rest (done ++ [[a, b]]) (acc ++ [[a, b, M.root (a * a + b * b)]]) (by simpa using hn) hl (by simp; omega) (fun y hy => hx y (List.mem_cons_of_mem _ hy))
      have ew : M.whole [a, b] = some [a, b, M.root (a * a + b * b)] := by simp [M.whole, hr]
      rw [List.filterMap_cons, ew]
      simpa using this
    · refine M.evn hr ?_
      have := sLad_l0 n rest (done ++ [[a, b]]) acc (by simpa using hn) hl (by simp; omega) (fun y hy => hx y (List.mem_cons_of_mem _ hy))
      have ew : M.whole [a, b] = none := by simp [M.whole, hr]
      rw [List.filterMap_cons, ew]
      simpa using this
theorem sWholeLadders_ev (w h : Int) : Ev (fun k => spec_WholeLadders.f k w h) (if (1 ≤ w ∧ w ≤ 60) ∧ 1 ≤ h ∧ h ≤ 60 then ((M.leans w h).filterMap M.whole, true) else ([], false)) := by
  simp only [spec_WholeLadders.f, lnBox_eq, Option.bind_some, decide_eq_true_eq]
  by_cases hb : (1 ≤ w ∧ w ≤ 60) ∧ 1 ≤ h ∧ h ≤ 60
  · rw [if_pos hb]
    refine M.evp hb (Ev.bind (lnLeans_ev w h hb) ?_)
    have := M.leans_length hb
    simpa using sLad_l0 ((M.leans w h).length : Int) (M.leans w h) [] [] (by simp) (by omega) (by simp) (M.leans_mem hb)
  · rw [if_neg hb]; exact M.evn hb (Ev.now _)
theorem within_eq (a b c : Int) : impl_within.f a b c = some (decide (b ≤ a ∧ a ≤ c)) := by
  unfold impl_within.f
  by_cases h : b ≤ a <;> simp [h]
theorem IsBox_eq (a b : Int) : impl_IsBox.f a b = some (decide ((1 ≤ a ∧ a ≤ 60) ∧ 1 ≤ b ∧ b ≤ 60)) := by
  unfold impl_IsBox.f
  by_cases h : 1 ≤ a ∧ a ≤ 60 <;> simp [within_eq, h]
theorem impl_WholeLeans_l0_ev (x4 : List (List Int)) (x5 : Int) (x6 : Int) (x147000 : Int) (x147001 : Int) {r : ((List (List Int)) × Bool)} (h : Ev (fun k => if x6 ≤ x5 then (if x6 = 0 then (none) else (if (Int.tmod x5 x6) = 0 then (if x4.length < 5864062014805 then (impl_WholeLeans.l0 k (x4 ++ [(([wrap64 (x147000 + x6), wrap64 (x147001 + (wrap64 (Int.tdiv x5 x6)))] : List Int))]) x5 (wrap64 (x6 + 1)) x147000 x147001) else (none)) else (impl_WholeLeans.l0 k x4 x5 (wrap64 (x6 + 1)) x147000 x147001))) else (some (x4, true))) r) : Ev (fun k => impl_WholeLeans.l0 k x4 x5 x6 x147000 x147001) r := Ev.step (fun k => by simp only [impl_WholeLeans.l0]) h
theorem iLeans_l0 (w h : Int) (hb : (1 ≤ w ∧ w ≤ 60) ∧ 1 ≤ h ∧ h ≤ 60) : ∀ (n : Nat) (acc : List (List Int)) (d : Int), (w * h + 1 - d).toNat = n → 1 ≤ d → d ≤ 3601 → acc.length ≤ d →
    Ev (fun k => impl_WholeLeans.l0 k acc (w * h) d w h) (acc ++ (M.sel (fun d => decide ((w * h) % d = 0)) d n).map (fun d => [w + d, h + w * h / d]), true)
  | 0, acc, d, hn, h1, h2, ha => by
    have e : acc ++ (M.sel (fun d => decide ((w * h) % d = 0)) d 0).map (fun d => [w + d, h + w * h / d]) = acc := by simp [M.sel]
    rw [e]
    exact impl_WholeLeans_l0_ev _ _ _ _ _ (M.evn (by omega) (Ev.now _))
  | n + 1, acc, d, hn, h1, h2, ha => by
    have hm := M.mulb 60 60 (a := w) (b := h) (by omega) (by omega) (by omega) (by omega)
    refine impl_WholeLeans_l0_ev _ _ _ _ _ (M.evp (by omega) (M.evn (by omega) ?_))
    have t1 : Int.tmod (w * h) d = (w * h) % d := Int.tmod_eq_emod_of_nonneg hm.1
    have t2 : Int.tdiv (w * h) d = (w * h) / d := Int.tdiv_eq_ediv_of_nonneg hm.1
    have q1 : 0 ≤ w * h / d := Int.ediv_nonneg hm.1 (by omega)
    have q2 : w * h / d ≤ w * h := Int.ediv_le_self _ hm.1
    rw [t1, t2, M.wrap_id (n := w * h / d) (by omega) (by omega), M.wrap_id (n := w + d) (by omega) (by omega), M.wrap_id (n := h + w * h / d) (by omega) (by omega), M.wrap_id (n := d + 1) (by omega) (by omega)]
    rw [M.sel]
    by_cases hr : (w * h) % d = 0
    · rw [if_pos (decide_eq_true hr)]
      refine M.evp hr (M.evp (by omega) ?_)
      have := iLeans_l0 w h hb n (acc ++ [[w + d, h + w * h / d]]) (d + 1) (by omega) (by omega) (by omega) (by simp; omega)
      simpa using this
    · rw [if_neg (by simpa using hr)]
      exact M.evn hr (iLeans_l0 w h hb n acc (d + 1) (by omega) (by omega) (by omega) (by omega))
theorem iWholeLeans_ev (w h : Int) : Ev (fun k => impl_WholeLeans.f k w h) (if (1 ≤ w ∧ w ≤ 60) ∧ 1 ≤ h ∧ h ≤ 60 then (M.leans w h, true) else ([], false)) := by
  simp only [impl_WholeLeans.f, IsBox_eq, Option.bind_some, decide_eq_true_eq]
  by_cases hb : (1 ≤ w ∧ w ≤ 60) ∧ 1 ≤ h ∧ h ≤ 60
  · rw [if_pos hb]
    refine M.evp hb ?_
    have hm := M.mulb 60 60 (a := w) (b := h) (by omega) (by omega) (by omega) (by omega)
    rw [M.wrap_id (n := w * h) (by omega) (by omega)]
    unfold M.leans
    simpa using iLeans_l0 w h hb (w * h).toNat [] 1 (by omega) (by omega) (by omega) (by simp)
  · rw [if_neg hb]; exact M.evn hb (Ev.now _)
theorem impl_rootOf_l0_ev (x0 : Int) (x4 : Int) (x5 : Int) {r : (Int × Bool)} (h : Ev (fun k => if (wrap64 (x5 * x5)) < x0 then (impl_rootOf.l0 k x0 x4 (wrap64 (x5 * 2))) else (impl_rootOf.l1 k x0 x4 x5)) r) : Ev (fun k => impl_rootOf.l0 k x0 x4 x5) r := Ev.step (fun k => by simp only [impl_rootOf.l0]) h
theorem impl_rootOf_l1_ev (x0 : Int) (x4 : Int) (x5 : Int) {r : (Int × Bool)} (h : Ev (fun k => if x4 < x5 then (if (wrap64 ((wrap64 (Int.tdiv (wrap64 (x4 + x5)) 2)) * (wrap64 (Int.tdiv (wrap64 (x4 + x5)) 2)))) < x0 then (impl_rootOf.l1 k x0 (wrap64 ((wrap64 (Int.tdiv (wrap64 (x4 + x5)) 2)) + 1)) x5) else (impl_rootOf.l1 k x0 x4 (wrap64 (Int.tdiv (wrap64 (x4 + x5)) 2)))) else (some (x4, ((wrap64 (x4 * x4)) == x0)))) r) : Ev (fun k => impl_rootOf.l1 k x0 x4 x5) r := Ev.step (fun k => by simp only [impl_rootOf.l1]) h
theorem rootOf_l1 (x : Int) (hx : 0 ≤ x) : ∀ (n : Nat) (lo hi : Int), (hi - lo).toNat ≤ n → 0 ≤ lo → lo ≤ hi → hi ≤ 2147483648 → x ≤ hi * hi → (lo = 0 ∨ (lo - 1) * (lo - 1) < x) →
    Ev (fun k => impl_rootOf.l1 k x lo hi) (M.croot x, decide (M.root x * M.root x = x))
  | n, lo, hi, hn, h0, h1, h2, h3, h4 => by
    have w2 : wrap64 (lo + hi) = lo + hi := M.wrap_id (by omega) (by omega)
    have t1 : Int.tdiv (lo + hi) 2 = (lo + hi) / 2 := Int.tdiv_eq_ediv_of_nonneg (by omega)
    have w3 : wrap64 (Int.tdiv (lo + hi) 2) = (lo + hi) / 2 := by rw [t1]; exact M.wrap_id (by omega) (by omega)
    have hb := M.mulb 2147483648 2147483648 (a := (lo + hi) / 2) (b := (lo + hi) / 2) (by omega) (by omega) (by omega) (by omega)
    have w4 : wrap64 ((lo + hi) / 2 * ((lo + hi) / 2)) = (lo + hi) / 2 * ((lo + hi) / 2) := M.wrap_id (by omega) (by omega)
    have w5 : wrap64 ((lo + hi) / 2 + 1) = (lo + hi) / 2 + 1 := M.wrap_id (by omega) (by omega)
    by_cases hd : lo < hi
    · cases n with
      | zero => omega
      | succ n =>
        by_cases hm : (lo + hi) / 2 * ((lo + hi) / 2) < x
        · refine Ev.step (f := fun k => impl_rootOf.l1 k x ((lo + hi) / 2 + 1) hi) (fun k => ?_) (rootOf_l1 x hx n _ hi (by omega) (by omega) (by omega) h2 h3 (.inr (by
            have e : (lo + hi) / 2 + 1 - 1 = (lo + hi) / 2 := by omega
            rw [e]; exact hm)))
          simp only [impl_rootOf.l1, w2, w3, w4, w5, if_pos hd, if_pos hm]
        · refine Ev.step (f := fun k => impl_rootOf.l1 k x lo ((lo + hi) / 2)) (fun k => ?_) (rootOf_l1 x hx n lo _ (by omega) h0 (by omega) (by omega) (by omega) h4)
          simp only [impl_rootOf.l1, w2, w3, w4, if_pos hd, if_neg hm]
    · have e : lo = hi := by omega
      subst e
      have ⟨e1, e2⟩ := M.croot_unique h0 h3 hx h4
      have hb2 := M.mulb 2147483648 2147483648 (a := lo) (b := lo) (by omega) (by omega) (by omega) (by omega)
      have w6 : wrap64 (lo * lo) = lo * lo := M.wrap_id (by omega) (by omega)
      refine Ev.step (f := fun _ => some (lo, (lo * lo == x))) (fun k => ?_) ?_
      · simp only [impl_rootOf.l1, if_neg hd, w6]
      · have e3 : (lo * lo == x) = decide (M.root x * M.root x = x) := by
          rw [Bool.eq_iff_iff]; simp only [beq_iff_eq, decide_eq_true_eq]; exact e2
        rw [e3, e1]
        exact Ev.now _
theorem rootOf_l0 (x : Int) (hx : 0 ≤ x) (hx2 : x ≤ 1000000000000) : ∀ (n : Nat) (hi : Int), (2000000 - hi).toNat ≤ n → 1 ≤ hi → hi ≤ 2000000 →
    Ev (fun k => impl_rootOf.l0 k x 0 hi) (M.croot x, decide (M.root x * M.root x = x))
  | n, hi, hn, h0, h2 => by
    have hb := M.mulb 2000000 2000000 (a := hi) (b := hi) (by omega) (by omega) (by omega) (by omega)
    have w1 : wrap64 (hi * hi) = hi * hi := M.wrap_id (by omega) (by omega)
    have w2 : wrap64 (hi * 2) = hi * 2 := M.wrap_id (by omega) (by omega)
    by_cases hd : hi * hi < x
    · have hlt : hi < 1000000 := M.lt_of_sq (by omega) (by omega)
      cases n with
      | zero => omega
      | succ n =>
        refine Ev.step (f := fun k => impl_rootOf.l0 k x 0 (hi * 2)) (fun k => ?_) (rootOf_l0 x hx hx2 n (hi * 2) (by omega) (by omega) (by omega))
        simp only [impl_rootOf.l0, w1, w2, if_pos hd]
    · refine Ev.step (f := fun k => impl_rootOf.l1 k x 0 hi) (fun k => ?_) (rootOf_l1 x hx _ 0 hi (Nat.le_refl _) (by omega) (by omega) (by omega) (by omega) (.inl rfl))
      simp only [impl_rootOf.l0, w1, if_neg hd]
theorem rootOf_ev (x : Int) (hx : 0 ≤ x) (hx2 : x ≤ 1000000000000) : Ev (fun k => impl_rootOf.f k x) (M.croot x, decide (M.root x * M.root x = x)) := by
  unfold impl_rootOf.f
  exact rootOf_l0 x hx hx2 _ 1 (Nat.le_refl _) (by omega) (by omega)
theorem square_eq (a b : Int) (ha : -1000000 ≤ a ∧ a ≤ 1000000) (hb : -1000000 ≤ b ∧ b ≤ 1000000) : impl_square.f a b = some (a * a + b * b) := by
  have h1 := M.mulabs 1000000 1000000 (a := a) (b := a) (by omega) (by omega) (by omega) (by omega)
  have h2 := M.mulabs 1000000 1000000 (a := b) (b := b) (by omega) (by omega) (by omega) (by omega)
  unfold impl_square.f
  rw [M.wrap_id (n := a * a) (by omega) (by omega), M.wrap_id (n := b * b) (by omega) (by omega), M.wrap_id (by omega) (by omega)]
theorem impl_WholeLadders_l0_ev (x5 : Bool) (x6 : List (List Int)) (x17 : List (List Int)) (x18 : Int) (x19 : Int) {r : ((List (List Int)) × Bool)} (h : Ev (fun k => if x19 < x18 then (if 0 ≤ x19 then (if x19 < (x17.length : Int) then (if 0 < ((rd_L1 x17 x19).length : Int) then (if 1 < ((rd_L1 x17 x19).length : Int) then ((impl_square.f (rd (rd_L1 x17 x19) 0) (rd (rd_L1 x17 x19) 1)).bind fun t168 => ((impl_rootOf.f k t168).bind fun bt169 => (if bt169.2 = true then (if x6.length < 5864062014805 then (impl_WholeLadders.l0 k x5 (x6 ++ [(([rd (rd_L1 x17 x19) 0, rd (rd_L1 x17 x19) 1, bt169.1] : List Int))]) x17 x18 (wrap64 (x19 + 1))) else (none)) else (impl_WholeLadders.l0 k x5 x6 x17 x18 (wrap64 (x19 + 1)))))) else (none)) else (none)) else (none)) else (none)) else (some (x6, x5))) r) : Ev (fun k => impl_WholeLadders.l0 k x5 x6 x17 x18 x19) r := Ev.step (fun k => by simp only [impl_WholeLadders.l0]) h
theorem iLad_l0 (n : Int) (ok : Bool) : ∀ (rest done acc : List (List Int)), ((done ++ rest).length : Int) = n → n ≤ 1000000 → acc.length ≤ done.length → (∀ x ∈ rest, ∃ a b, x = [a, b] ∧ (1 ≤ a ∧ a ≤ 3660) ∧ 1 ≤ b ∧ b ≤ 3660) →
    Ev (fun k => impl_WholeLadders.l0 k ok acc (done ++ rest) n done.length) (acc ++ rest.filterMap M.whole, ok)
  | [], done, acc, hn, hl, ha, hx => by
    have e : acc ++ ([] : List (List Int)).filterMap M.whole = acc := by simp
    rw [e]
    exact impl_WholeLadders_l0_ev _ _ _ _ _ (M.evn (by simp at hn; omega) (Ev.now _))
  | x :: rest, done, acc, hn, hl, ha, hx => by
    have h2 : (done ++ x :: rest).length = done.length + rest.length + 1 := by simp; omega
    have e0 : rd_L1 (done ++ x :: rest) (done.length : Int) = x := by simp [rd_L1]
    obtain ⟨a, b, rfl, ha1, hb1⟩ := hx x List.mem_cons_self
    have q1 := M.mulb 3660 3660 (a := a) (b := a) (by omega) (by omega) (by omega) (by omega)
    have q2 := M.mulb 3660 3660 (a := b) (b := b) (by omega) (by omega) (by omega) (by omega)
    refine impl_WholeLadders_l0_ev _ _ _ _ _ (M.evp (by omega) (M.evp (by omega) (M.evp (by omega) ?_)))
    rw [e0]
    have d0 : rd [a, b] 0 = a := rfl
    have d1 : rd [a, b] 1 = b := rfl
    rw [d0, d1, square_eq a b (by omega) (by omega)]
    simp only [Option.bind_some]
    refine M.evp (by simp) (M.evp (by simp) (Ev.bind (rootOf_ev _ (by omega) (by omega)) ?_))
    have e : wrap64 ((done.length : Int) + 1) = ((done ++ [[a, b]]).length : Int) := by rw [M.wrap_id (by omega) (by omega)]; simp
    rw [e]
    by_cases hr : M.root (a * a + b * b) * M.root (a * a + b * b) = a * a + b * b
    · refine M.evp (by simpa using hr) (M.evp (by omega) ?_)
      have ec : M.croot (a * a + b * b) = M.root (a * a + b * b) := by unfold M.croot; rw [if_pos hr]
      simp only [ec]
      have := iLad_l0 n ok rest (done ++ [[a, b]]) (acc ++ [[a, b, M.root (a * a + b * b)]]) (by simpa using hn) hl (by simp; omega) (fun y hy => hx y (List.mem_cons_of_mem _ hy))
      have ew : M.whole [a, b] = some [a, b, M.root (a * a + b * b)] := by simp [M.whole, hr]
      rw [List.filterMap_cons, ew]
      simpa using this
    · refine M.evn (by simpa using hr) ?_
      have := iLad_l0 n ok rest (done ++ [[a, b]]) acc (by simpa using hn) hl (by simp; omega) (fun y hy => hx y (List.mem_cons_of_mem _ hy))
      have ew : M.whole [a, b] = none := by simp [M.whole, hr]
      rw [List.filterMap_cons, ew]
      simpa using this
theorem iWholeLadders_ev (w h : Int) : Ev (fun k => impl_WholeLadders.f k w h) (if (1 ≤ w ∧ w ≤ 60) ∧ 1 ≤ h ∧ h ≤ 60 then ((M.leans w h).filterMap M.whole, true) else ([], false)) := by
  unfold impl_WholeLadders.f
  have q := iWholeLeans_ev w h
  by_cases hb : (1 ≤ w ∧ w ≤ 60) ∧ 1 ≤ h ∧ h ≤ 60
  · rw [if_pos hb] at q ⊢
    refine Ev.bind q ?_
    have := M.leans_length hb
    simpa using iLad_l0 ((M.leans w h).length : Int) true (M.leans w h) [] [] (by simp) (by omega) (by simp) (M.leans_mem hb)
  · rw [if_neg hb] at q ⊢
    exact Ev.bind q (impl_WholeLadders_l0_ev _ _ _ _ _ (M.evn (by simp) (Ev.now _)))
theorem marks_l0 : ∀ (rest done : List (List Int)) (a : Int), (done ++ rest).length ≤ 100000000 → (∀ x ∈ rest, x.length ≤ 1000) → 0 ≤ a → M.tot rest a ≤ 100000000000 →
    Ev (fun k => MkFnExactWholeLadders.marks k (done ++ rest) a done.length) (M.tot rest a, done ++ M.mkSS rest a)
  | [], done, a, _, _, _, _ => by
    refine Ev.step (f := fun _ => some (a, done ++ [])) (fun k => ?_) (Ev.now _)
    simp only [MkFnExactWholeLadders.marks]
    rw [if_neg (by simp)]
  | x :: rest, done, a, hl, hx, h0, h1 => by
    have h2 : (done ++ x :: rest).length = done.length + rest.length + 1 := by simp; omega
    have hlt : ((done.length : Nat) : Int) < (((done ++ x :: rest).length : Nat) : Int) := by omega
    have hx1 := hx x List.mem_cons_self
    have h3 := M.tot_ge rest (a + x.length)
    have h4 : M.tot (x :: rest) a = M.tot rest (a + x.length) := rfl
    have e0 : rd_L1 (done ++ x :: rest) (done.length : Int) = x := by simp [rd_L1]
    have e : wrap64 ((done.length : Int) + 1) = ((done ++ [M.cnt a x.length]).length : Int) := by rw [M.wrap_id (by omega) (by omega)]; simp
    have e2 : (done ++ x :: rest).set ((done.length : Int)).toNat (M.cnt a x.length) = (done ++ [M.cnt a x.length]) ++ rest := by simp
    refine Ev.step (f := fun k => (laws_markIntS.f k x a).bind fun t => MkFnExactWholeLadders.marks k ((done ++ x :: rest).set ((done.length : Int)).toNat t.2) t.1 ((done ++ [M.cnt a x.length]).length : Int)) (fun k => ?_) (Ev.bind (markIntS_ev x a (by omega) h0 (by omega)) ?_)
    · simp only [MkFnExactWholeLadders.marks]
      rw [if_pos hlt, if_pos (by omega), e0, e]
    · have ih := marks_l0 rest (done ++ [M.cnt a x.length]) (a + x.length) (by simp at hl ⊢; omega) (fun y hy => hx y (List.mem_cons_of_mem _ hy)) (by omega) (by rw [← h4]; exact h1)
      have e3 : (M.tot (x :: rest) a, done ++ M.mkSS (x :: rest) a) = (M.tot rest (a + x.length), (done ++ [M.cnt a x.length]) ++ M.mkSS rest (a + x.length)) := by simp [M.mkSS, M.tot]
      simp only [e2]
      rw [e3]; exact ih
theorem law_of {sf impf : Nat → Option (List (List Int) × Bool)} {r : List (List Int) × Bool} (q1 : Ev sf r) (q2 : Ev impf r) (hl : r.1.length ≤ 10000) (hx : ∀ x ∈ r.1, x.length ≤ 1000) :
    ∃ (k : Nat) (l : List (List Int)) (b : Bool) (m : Int) (l2 : List (List Int)), sf k = some (l, b) ∧ impf k = some (l, b) ∧ laws_eqIntSS.f k l l = some true ∧ MkFnExactWholeLadders.marks k l 1 0 = some (m, l2) ∧ laws_heldIntSS.f k l2 1 = some m ∧ 0 ≤ m := by
  obtain ⟨l, b⟩ := r
  have t1 := M.tot_le l 1 hx
  have t2 := M.tot_ge l 1
  replace hl : l.length ≤ 10000 := hl
  obtain ⟨K1, h1⟩ := q1
  obtain ⟨K2, h2⟩ := q2
  obtain ⟨K3, h3⟩ := eqIntSS_self l (by omega) (fun x h => by have := hx x h; omega)
  obtain ⟨K4, h4⟩ := marks_l0 l [] 1 (by simp; omega) hx (by omega) (by omega)
  obtain ⟨K5, h5⟩ := heldIntSS_ev l (by omega) hx
  refine ⟨K1 + K2 + K3 + K4 + K5, l, b, M.tot l 1, M.mkSS l 1, h1 _ (by omega), h2 _ (by omega), h3 _ (by omega), ?_, h5 _ (by omega), by omega⟩
  simpa using h4 (K1 + K2 + K3 + K4 + K5) (by omega)
theorem law : StFnExactWholeLadders.Pure := by
  intro w h _ _
  refine law_of (sWholeLadders_ev w h) (iWholeLadders_ev w h) ?_ ?_
  · split
    · next hb => have := M.leans_length hb; have := List.length_filterMap_le M.whole (M.leans w h); simp only; omega
    · simp
  · split
    · next hb =>
      intro x hx
      simp only [List.mem_filterMap] at hx
      obtain ⟨y, _, hy⟩ := hx
      unfold M.whole at hy
      split at hy
      · split at hy <;> simp at hy
        subst hy; simp
      · simp at hy
    · simp
end Go.Proofs.Yteognjcnnghknaa.PbFnExactWholeLadders
namespace Go.Proofs.Yteognjcnnghknaa.Pure
theorem FnExactWholeLadders : StFnExactWholeLadders.Pure := PbFnExactWholeLadders.law
end Go.Proofs.Yteognjcnnghknaa.Pure
