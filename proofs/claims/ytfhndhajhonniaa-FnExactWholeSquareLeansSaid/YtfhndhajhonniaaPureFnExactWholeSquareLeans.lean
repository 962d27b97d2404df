/- The plain part of FnExactWholeSquareLeans: what the printed functions of the program and of the reference answer, in plain Lean, and that the law answers true. No condition. -/
import Derived.Test.YtfhndhajhonniaaStFnExactWholeSquareLeans
import Derived.Test.YtfhndhajhonniaaM
namespace Go.Proofs.Ytfhndhajhonniaa.PbFnExactWholeSquareLeans
open Go.RowKit Go.Proofs.Ytfhndhajhonniaa Go.Proofs.Ytfhndhajhonniaa.PFnExactWholeSquareLeans Go.Proofs.YtfhndhajhonniaaW.PrintWords Go.Proofs.YtfhndhajhonniaaW.PrintLast
set_option linter.unusedVariables false
set_option linter.unusedSimpArgs false

theorem l1In_eq (a b c : Int) : spec_l1In.f a b c = some (decide (b ≤ a ∧ a ≤ c)) := by
  unfold spec_l1In.f
  by_cases h : b ≤ a <;> simp [h]
theorem lnSide_eq (a : Int) : spec_lnSide.f a = some (decide (1 ≤ a ∧ a ≤ 60)) := by simp [spec_lnSide.f, l1In_eq]
theorem spec_lnLeans_l0_ev (x3 : List (List Int)) (x4 : Int) (x5 : Int) (x103000 : Int) (x103001 : Int) {r : ((List (List Int)))} (h : Ev (fun k => if x5 ≤ x4 then (if x5 = 0 then (none) else (if (Int.tmod x4 x5) = 0 then (if x3.length < 5864062014805 then (spec_lnLeans.l0 k (x3 ++ [(([wrap64 (x103000 + x5), wrap64 (x103001 + (wrap64 (Int.tdiv x4 x5)))] : List Int))]) x4 (wrap64 (x5 + 1)) x103000 x103001) else (none)) else (spec_lnLeans.l0 k x3 x4 (wrap64 (x5 + 1)) x103000 x103001))) else (some x3)) r) : Ev (fun k => spec_lnLeans.l0 k x3 x4 x5 x103000 x103001) r := Ev.step (fun k => by simp only [spec_lnLeans.l0]) h
theorem lnLeans_l0 (w h : Int) (hb : (1 ≤ w ∧ w ≤ 60) ∧ 1 ≤ h ∧ h ≤ 60) : ∀ (n : Nat) (acc : List (List Int)) (d : Int), (w * h + 1 - d).toNat = n → 1 ≤ d → d ≤ 3601 → acc.length ≤ d →
    Ev (fun k => spec_lnLeans.l0 k acc (w * h) d w h) (acc ++ (M.sel (fun d => decide ((w * h) % d = 0)) d n).map fun d => [w + d, h + w * h / d])
  | 0, acc, d, hn, h1, h2, ha => by
    have e : acc ++ (M.sel (fun d => decide ((w * h) % d = 0)) d 0).map (fun d => [w + d, h + w * h / d]) = acc := by simp [M.sel]
    rw [e]
    exact spec_lnLeans_l0_ev _ _ _ _ _ (M.evn (by omega) (Ev.now _))
  | n + 1, acc, d, hn, h1, h2, ha => by
    have hm := M.mulb 60 60 (a := w) (b := h) (by omega) (by omega) (by omega) (by omega)
    refine spec_lnLeans_l0_ev _ _ _ _ _ (M.evp (by omega) (M.evn (by omega) ?_))
    have t1 : Int.tmod (w * h) d = (w * h) % d := Int.tmod_eq_emod_of_nonneg hm.1
    have t2 : Int.tdiv (w * h) d = (w * h) / d := Int.tdiv_eq_ediv_of_nonneg hm.1
    have q1 : 0 ≤ w * h / d := Int.ediv_nonneg hm.1 (by omega)
    have q2 : w * h / d ≤ w * h := Int.ediv_le_self _ hm.1
    rw [t1, t2, M.wrap_id (n := w * h / d) (by omega) (by omega), M.wrap_id (n := w + d) (by omega) (by omega), M.wrap_id (n := h + w * h / d) (by omega) (by omega), M.wrap_id (n := d + 1) (by omega) (by omega)]
    rw [M.sel]
    by_cases hr : (w * h) % d = 0
    · rw [if_pos (decide_eq_true hr)]
      refine M.evp hr (M.evp (by omega) ?_)
      have := lnLeans_l0 w h hb n (acc ++ [[w + d, h + w * h / d]]) (d + 1) (by omega) (by omega) (by omega) (by simp; omega)
      simpa using this
    · rw [if_neg (by simpa using hr)]
      exact M.evn hr (lnLeans_l0 w h hb n acc (d + 1) (by omega) (by omega) (by omega) (by omega))
theorem lnLeans_ev (w h : Int) (hb : (1 ≤ w ∧ w ≤ 60) ∧ 1 ≤ h ∧ h ≤ 60) : Ev (fun k => spec_lnLeans.f k w h) (M.leans w h) := by
  have hm := M.mulb 60 60 (a := w) (b := h) (by omega) (by omega) (by omega) (by omega)
  unfold spec_lnLeans.f M.leans
  rw [M.wrap_id (n := w * h) (by omega) (by omega)]
  simpa using lnLeans_l0 w h hb (w * h).toNat [] 1 (by omega) (by omega) (by omega) (by simp)
theorem spec_WholeSquareLeans_l0_ev (x4 : List (List Int)) (x13 : List (List Int)) (x14 : Int) (x15 : Int) {r : ((List (List Int)) × Bool)} (h : Ev (fun k => if x15 < x14 then (if 0 ≤ x15 then (if x15 < (x13.length : Int) then (if 0 < ((rd_L1 x13 x15).length : Int) then (if 1 < ((rd_L1 x13 x15).length : Int) then (if (rd (rd_L1 x13 x15) 0) ≤ (rd (rd_L1 x13 x15) 1) then (if x4.length < 5864062014805 then (spec_WholeSquareLeans.l0 k (x4 ++ [rd_L1 x13 x15]) x13 x14 (wrap64 (x15 + 1))) else (none)) else (spec_WholeSquareLeans.l0 k x4 x13 x14 (wrap64 (x15 + 1)))) else (none)) else (none)) else (none)) else (none)) else (some (x4, true))) r) : Ev (fun k => spec_WholeSquareLeans.l0 k x4 x13 x14 x15) r := Ev.step (fun k => by simp only [spec_WholeSquareLeans.l0]) h
theorem sSq_l0 (n : Int) : ∀ (rest done acc : List (List Int)), ((done ++ rest).length : Int) = n → n ≤ 1000000 → acc.length ≤ done.length → (∀ x ∈ rest, ∃ a b, x = [a, b] ∧ (1 ≤ a ∧ a ≤ 3660) ∧ 1 ≤ b ∧ b ≤ 3660) →
    Ev (fun k => spec_WholeSquareLeans.l0 k acc (done ++ rest) n done.length) (acc ++ rest.filter M.flat, true)
  | [], done, acc, hn, hl, ha, hx => by
    have e : acc ++ ([] : List (List Int)).filter M.flat = acc := by simp
    rw [e]
    exact spec_WholeSquareLeans_l0_ev _ _ _ _ (M.evn (by simp at hn; omega) (Ev.now _))
  | x :: rest, done, acc, hn, hl, ha, hx => by
    have h2 : (done ++ x :: rest).length = done.length + rest.length + 1 := by simp; omega
    have e0 : rd_L1 (done ++ x :: rest) (done.length : Int) = x := by simp [rd_L1]
    obtain ⟨a, b, rfl, ha1, hb1⟩ := hx x List.mem_cons_self
    refine spec_WholeSquareLeans_l0_ev _ _ _ _ (M.evp (by omega) (M.evp (by omega) (M.evp (by omega) ?_)))
    rw [e0]
    have d0 : rd [a, b] 0 = a := rfl
    have d1 : rd [a, b] 1 = b := rfl
    rw [d0, d1]
    refine M.evp (by simp) (M.evp (by simp) ?_)
    have e : wrap64 ((done.length : Int) + 1) = ((done ++ [[a, b]]).length : Int) := by rw [M.wrap_id (by omega) (by omega)]; simp
    rw [e]
    by_cases hr : a ≤ b
    · refine M.evp hr (M.evp (by omega) ?_)
      have := sSq_l0 n rest (done ++ [[a, b]]) (acc ++ [[a, b]]) (by simpa using hn) hl (by simp; omega) (fun y hy => hx y (List.mem_cons_of_mem _ hy))
      have ew : M.flat [a, b] = true := by simp [M.flat, hr]
      rw [List.filter_cons, ew]
      simpa using this
    · refine M.evn hr ?_
      have := sSq_l0 n rest (done ++ [[a, b]]) acc (by simpa using hn) hl (by simp; omega) (fun y hy => hx y (List.mem_cons_of_mem _ hy))
      have ew : M.flat [a, b] = false := by simp [M.flat]; omega
      rw [List.filter_cons, ew]
      simpa using this
theorem sWholeSq_ev (w : Int) : Ev (fun k => spec_WholeSquareLeans.f k w) (if 1 ≤ w ∧ w ≤ 60 then ((M.leans w w).filter M.flat, true) else ([], false)) := by
  simp only [spec_WholeSquareLeans.f, lnSide_eq, Option.bind_some, decide_eq_true_eq]
  by_cases hb : 1 ≤ w ∧ w ≤ 60
  · rw [if_pos hb]
    refine M.evp hb (Ev.bind (lnLeans_ev w w ⟨hb, hb⟩) ?_)
    have := M.leans_length (w := w) (h := w) ⟨hb, hb⟩
    simpa using sSq_l0 ((M.leans w w).length : Int) (M.leans w w) [] [] (by simp) (by omega) (by simp) (M.leans_mem ⟨hb, hb⟩)
  · rw [if_neg hb]; exact M.evn hb (Ev.now _)
theorem within_eq (a b c : Int) : impl_within.f a b c = some (decide (b ≤ a ∧ a ≤ c)) := by
  unfold impl_within.f
  by_cases h : b ≤ a <;> simp [h]
theorem IsBox_eq (a b : Int) : impl_IsBox.f a b = some (decide ((1 ≤ a ∧ a ≤ 60) ∧ 1 ≤ b ∧ b ≤ 60)) := by
  unfold impl_IsBox.f
  by_cases h : 1 ≤ a ∧ a ≤ 60 <;> simp [within_eq, h]
theorem impl_WholeLeans_l0_ev (x4 : List (List Int)) (x5 : Int) (x6 : Int) (x123000 : Int) (x123001 : Int) {r : ((List (List Int)) × Bool)} (h : Ev (fun k => if x6 ≤ x5 then (if x6 = 0 then (none) else (if (Int.tmod x5 x6) = 0 then (if x4.length < 5864062014805 then (impl_WholeLeans.l0 k (x4 ++ [(([wrap64 (x123000 + x6), wrap64 (x123001 + (wrap64 (Int.tdiv x5 x6)))] : List Int))]) x5 (wrap64 (x6 + 1)) x123000 x123001) else (none)) else (impl_WholeLeans.l0 k x4 x5 (wrap64 (x6 + 1)) x123000 x123001))) else (some (x4, true))) r) : Ev (fun k => impl_WholeLeans.l0 k x4 x5 x6 x123000 x123001) r := Ev.step (fun k => by simp only [impl_WholeLeans.l0]) h
theorem iLeans_l0 (w h : Int) (hb : (1 ≤ w ∧ w ≤ 60) ∧ 1 ≤ h ∧ h ≤ 60) : ∀ (n : Nat) (acc : List (List Int)) (d : Int), (w * h + 1 - d).toNat = n → 1 ≤ d → d ≤ 3601 → acc.length ≤ d →
    Ev (fun k => impl_WholeLeans.l0 k acc (w * h) d w h) (acc ++ (M.sel (fun d => decide ((w * h) % d = 0)) d n).map (fun d => [w + d, h + w * h / d]), true)
  | 0, acc, d, hn, h1, h2, ha => by
    have e : acc ++ (M.sel (fun d => decide ((w * h) % d = 0)) d 0).map (fun d => [w + d, h + w * h / d]) = acc := by simp [M.sel]
    rw [e]
    exact impl_WholeLeans_l0_ev _ _ _ _ _ (M.evn (by omega) (Ev.now _))
  | n + 1, acc, d, hn, h1, h2, ha => by
    have hm := M.mulb 60 60 (a := w) (b := h) (by omega) (by omega) (by omega) (by omega)
    refine impl_WholeLeans_l0_ev _ _ _ _ _ (M.evp (by omega) (M.evn (by omega) ?_))
    have t1 : Int.tmod (w * h) d = (w * h) % d := Int.tmod_eq_emod_of_nonneg hm.1
    have t2 : Int.tdiv (w * h) d = (w * h) / d := Int.tdiv_eq_ediv_of_nonneg hm.1
    have q1 : 0 ≤ w * h / d := Int.ediv_nonneg hm.1 (by omega)
    have q2 : w * h / d ≤ w * h := Int.ediv_le_self _ hm.1
    rw [t1, t2, M.wrap_id (n := w * h / d) (by omega) (by omega), M.wrap_id (n := w + d) (by omega) (by omega), M.wrap_id (n := h + w * h / d) (by omega) (by omega), M.wrap_id (n := d + 1) (by omega) (by omega)]
    rw [M.sel]
    by_cases hr : (w * h) % d = 0
    · rw [if_pos (decide_eq_true hr)]
      refine M.evp hr (M.evp (by omega) ?_)
      have := iLeans_l0 w h hb n (acc ++ [[w + d, h + w * h / d]]) (d + 1) (by omega) (by omega) (by omega) (by simp; omega)
      simpa using this
    · rw [if_neg (by simpa using hr)]
      exact M.evn hr (iLeans_l0 w h hb n acc (d + 1) (by omega) (by omega) (by omega) (by omega))
theorem iWholeLeans_ev (w h : Int) : Ev (fun k => impl_WholeLeans.f k w h) (if (1 ≤ w ∧ w ≤ 60) ∧ 1 ≤ h ∧ h ≤ 60 then (M.leans w h, true) else ([], false)) := by
  simp only [impl_WholeLeans.f, IsBox_eq, Option.bind_some, decide_eq_true_eq]
  by_cases hb : (1 ≤ w ∧ w ≤ 60) ∧ 1 ≤ h ∧ h ≤ 60
  · rw [if_pos hb]
    refine M.evp hb ?_
    have hm := M.mulb 60 60 (a := w) (b := h) (by omega) (by omega) (by omega) (by omega)
    rw [M.wrap_id (n := w * h) (by omega) (by omega)]
    unfold M.leans
    simpa using iLeans_l0 w h hb (w * h).toNat [] 1 (by omega) (by omega) (by omega) (by simp)
  · rw [if_neg hb]; exact M.evn hb (Ev.now _)
theorem impl_WholeSquareLeans_l0_ev (x5 : Bool) (x6 : List (List Int)) (x17 : List (List Int)) (x18 : Int) (x19 : Int) {r : ((List (List Int)) × Bool)} (h : Ev (fun k => if x19 < x18 then (if 0 ≤ x19 then (if x19 < (x17.length : Int) then (if 0 < ((rd_L1 x17 x19).length : Int) then (if 1 < ((rd_L1 x17 x19).length : Int) then (if (rd (rd_L1 x17 x19) 0) ≤ (rd (rd_L1 x17 x19) 1) then (if x6.length < 5864062014805 then (impl_WholeSquareLeans.l0 k x5 (x6 ++ [rd_L1 x17 x19]) x17 x18 (wrap64 (x19 + 1))) else (none)) else (impl_WholeSquareLeans.l0 k x5 x6 x17 x18 (wrap64 (x19 + 1)))) else (none)) else (none)) else (none)) else (none)) else (some (x6, x5))) r) : Ev (fun k => impl_WholeSquareLeans.l0 k x5 x6 x17 x18 x19) r := Ev.step (fun k => by simp only [impl_WholeSquareLeans.l0]) h
theorem iSq_l0 (n : Int) (ok : Bool) : ∀ (rest done acc : List (List Int)), ((done ++ rest).length : Int) = n → n ≤ 1000000 → acc.length ≤ done.length → (∀ x ∈ rest, ∃ a b, x = [a, b] ∧ (1 ≤ a ∧ a ≤ 3660) ∧ 1 ≤ b ∧ b ≤ 3660) →
    Ev (fun k => impl_WholeSquareLeans.l0 k ok acc (done ++ rest) n done.length) (acc ++ rest.filter M.flat, ok)
  | [], done, acc, hn, hl, ha, hx => by
    have e : acc ++ ([] : List (List Int)).filter M.flat = acc := by simp
    rw [e]
    exact impl_WholeSquareLeans_l0_ev _ _ _ _ _ (M.evn (by simp at hn; omega) (Ev.now _))
  | x :: rest, done, acc, hn, hl, ha, hx => by
    have h2 : (done ++ x :: rest).length = done.length + rest.length + 1 := by simp; omega
    have e0 : rd_L1 (done ++ x :: rest) (done.length : Int) = x := by simp [rd_L1]
    obtain ⟨a, b, rfl, ha1, hb1⟩ := hx x List.mem_cons_self
    refine impl_WholeSquareLeans_l0_ev _ _ _ _ _ (M.evp (by omega) (M.evp (by omega) (M.evp (by omega) ?_)))
    rw [e0]
    have d0 : rd [a, b] 0 = a := rfl
    have d1 : rd [a, b] 1 = b := rfl
    rw [d0, d1]
    refine M.evp (by simp) (M.evp (by simp) ?_)
    have e : wrap64 ((done.length : Int) + 1) = ((done ++ [[a, b]]).length : Int) := by rw [M.wrap_id (by omega) (by omega)]; simp
    rw [e]
    by_cases hr : a ≤ b
    · refine M.evp hr (M.evp (by omega) ?_)
      have := iSq_l0 n ok rest (done ++ [[a, b]]) (acc ++ [[a, b]]) (by simpa using hn) hl (by simp; omega) (fun y hy => hx y (List.mem_cons_of_mem _ hy))
      have ew : M.flat [a, b] = true := by simp [M.flat, hr]
      rw [List.filter_cons, ew]
      simpa using this
    · refine M.evn hr ?_
      have := iSq_l0 n ok rest (done ++ [[a, b]]) acc (by simpa using hn) hl (by simp; omega) (fun y hy => hx y (List.mem_cons_of_mem _ hy))
      have ew : M.flat [a, b] = false := by simp [M.flat]; omega
      rw [List.filter_cons, ew]
      simpa using this
theorem iWholeSq_ev (w : Int) : Ev (fun k => impl_WholeSquareLeans.f k w) (if 1 ≤ w ∧ w ≤ 60 then ((M.leans w w).filter M.flat, true) else ([], false)) := by
  unfold impl_WholeSquareLeans.f
  have q := iWholeLeans_ev w w
  by_cases hb : 1 ≤ w ∧ w ≤ 60
  · rw [if_pos ⟨hb, hb⟩] at q
    rw [if_pos hb]
    refine Ev.bind q ?_
    have := M.leans_length (w := w) (h := w) ⟨hb, hb⟩
    simpa using iSq_l0 ((M.leans w w).length : Int) true (M.leans w w) [] [] (by simp) (by omega) (by simp) (M.leans_mem ⟨hb, hb⟩)
  · rw [if_neg (fun h => hb h.1)] at q
    rw [if_neg hb]
    exact Ev.bind q (impl_WholeSquareLeans_l0_ev _ _ _ _ _ (M.evn (by simp) (Ev.now _)))
theorem laws_eqIntS_l0_ev (x0 : List Int) (x1 : List Int) (x5 : Int) {r : (Bool)} (h : Ev (fun k => if x5 < (x0.length : Int) then (if 0 ≤ x5 then (if x5 < (x1.length : Int) then (if (rd x0 x5) = (rd x1 x5) then (laws_eqIntS.l0 k x0 x1 (wrap64 (x5 + 1))) else (some false)) else (none)) else (none)) else (some true)) r) : Ev (fun k => laws_eqIntS.l0 k x0 x1 x5) r := Ev.step (fun k => by simp only [laws_eqIntS.l0]) h
theorem rd_mid (done rest : List Int) (x : Int) : rd (done ++ x :: rest) (done.length : Int) = x := by simp [rd]
theorem eqIntS_l0 : ∀ (rest done : List Int), (done ++ rest).length ≤ 1000000000000 → Ev (fun k => laws_eqIntS.l0 k (done ++ rest) (done ++ rest) done.length) true
  | [], done, _ => laws_eqIntS_l0_ev _ _ _ (M.evn (by simp) (Ev.now _))
  | x :: rest, done, hl => by
    have h2 : (done ++ x :: rest).length = done.length + rest.length + 1 := by simp; omega
    have hlt : ((done.length : Nat) : Int) < (((done ++ x :: rest).length : Nat) : Int) := by omega
    refine laws_eqIntS_l0_ev _ _ _ (M.evp hlt (M.evp (by omega) (M.evp hlt (M.evp rfl ?_))))
    have ih := eqIntS_l0 rest (done ++ [x]) (by simpa using hl)
    have e : wrap64 ((done.length : Int) + 1) = ((done ++ [x]).length : Int) := by rw [M.wrap_id (by omega) (by omega)]; simp
    rw [e]
    simpa using ih
theorem eqIntS_self (l : List Int) (h : l.length ≤ 1000000000000) : Ev (fun k => laws_eqIntS.f k l l) true := by
  unfold laws_eqIntS.f
  exact M.evp rfl (by simpa using eqIntS_l0 l [] (by simpa using h))
theorem laws_eqIntSS_l0_ev (x0 : List (List Int)) (x1 : List (List Int)) (x5 : Int) {r : (Bool)} (h : Ev (fun k => if x5 < (x0.length : Int) then (if 0 ≤ x5 then (if x5 < (x1.length : Int) then ((laws_eqIntS.f k (rd_L1 x0 x5) (rd_L1 x1 x5)).bind fun t150 => (if t150 = true then (laws_eqIntSS.l0 k x0 x1 (wrap64 (x5 + 1))) else (some false))) else (none)) else (none)) else (some true)) r) : Ev (fun k => laws_eqIntSS.l0 k x0 x1 x5) r := Ev.step (fun k => by simp only [laws_eqIntSS.l0]) h
theorem rdL_mid (done rest : List (List Int)) (x : List Int) : rd_L1 (done ++ x :: rest) (done.length : Int) = x := by simp [rd_L1]
theorem eqIntSS_l0 : ∀ (rest done : List (List Int)), (done ++ rest).length ≤ 1000000000000 → (∀ x ∈ rest, x.length ≤ 1000000) → Ev (fun k => laws_eqIntSS.l0 k (done ++ rest) (done ++ rest) done.length) true
  | [], done, _, _ => laws_eqIntSS_l0_ev _ _ _ (M.evn (by simp) (Ev.now _))
  | x :: rest, done, hl, hx => by
    have h2 : (done ++ x :: rest).length = done.length + rest.length + 1 := by simp; omega
    have hlt : ((done.length : Nat) : Int) < (((done ++ x :: rest).length : Nat) : Int) := by omega
    refine laws_eqIntSS_l0_ev _ _ _ (M.evp hlt (M.evp (by omega) (M.evp hlt ?_)))
    rw [rdL_mid]
    have hx1 := hx x List.mem_cons_self
    refine Ev.bind (eqIntS_self x (by omega)) (M.evp rfl ?_)
    have ih := eqIntSS_l0 rest (done ++ [x]) (by simpa using hl) (fun y hy => hx y (List.mem_cons_of_mem _ hy))
    have e : wrap64 ((done.length : Int) + 1) = ((done ++ [x]).length : Int) := by rw [M.wrap_id (by omega) (by omega)]; simp
    rw [e]
    simpa using ih
theorem eqIntSS_self (l : List (List Int)) (h : l.length ≤ 1000000000000) (hx : ∀ x ∈ l, x.length ≤ 1000000) : Ev (fun k => laws_eqIntSS.f k l l) true := by
  unfold laws_eqIntSS.f
  exact M.evp rfl (by simpa using eqIntSS_l0 l [] (by simpa using h) hx)
theorem laws_markIntS_l0_ev (x0 : List Int) (x1 : Int) (x5 : Int) {r : (Int × List Int)} (h : Ev (fun k => if x5 < (x0.length : Int) then (if 0 ≤ x5 then (laws_markIntS.l0 k (x0.set (x5 : Int).toNat x1) (wrap64 (x1 + 1)) (wrap64 (x5 + 1))) else (none)) else (some (x1, x0))) r) : Ev (fun k => laws_markIntS.l0 k x0 x1 x5) r := Ev.step (fun k => by simp only [laws_markIntS.l0]) h
theorem markIntS_l0 : ∀ (rest done : List Int) (a : Int), (done ++ rest).length ≤ 1000000000000 → 0 ≤ a → a + rest.length ≤ 1000000000000 →
    Ev (fun k => laws_markIntS.l0 k (done ++ rest) a done.length) (a + rest.length, done ++ M.cnt a rest.length)
  | [], done, a, _, _, _ => by
    have e : (a + (([] : List Int).length : Int), done ++ M.cnt a ([] : List Int).length) = (a, done ++ []) := by simp [M.cnt]
    rw [e]
    exact laws_markIntS_l0_ev _ _ _ (M.evn (by simp) (Ev.now _))
  | x :: rest, done, a, hl, h0, h1 => by
    have h2 : (done ++ x :: rest).length = done.length + rest.length + 1 := by simp; omega
    have hlt : ((done.length : Nat) : Int) < (((done ++ x :: rest).length : Nat) : Int) := by omega
    refine laws_markIntS_l0_ev _ _ _ (M.evp hlt (M.evp (by omega) ?_))
    have e : wrap64 ((done.length : Int) + 1) = ((done ++ [a]).length : Int) := by rw [M.wrap_id (by omega) (by omega)]; simp
    have e2 : wrap64 (a + 1) = a + 1 := M.wrap_id (by omega) (by omega)
    have e3 : (done ++ x :: rest).set ((done.length : Int)).toNat a = (done ++ [a]) ++ rest := by simp
    have e4 : (a + ((x :: rest).length : Int), done ++ M.cnt a (x :: rest).length) = (a + 1 + (rest.length : Int), (done ++ [a]) ++ M.cnt (a + 1) rest.length) := by
      simp only [List.length_cons, M.cnt, List.append_assoc, List.singleton_append, Prod.mk.injEq, and_true]; omega
    rw [e, e2, e3, e4]
    exact markIntS_l0 rest (done ++ [a]) (a + 1) (by simpa using hl) (by omega) (by rw [List.length_cons] at h1; omega)
theorem markIntS_ev (l : List Int) (a : Int) (h : l.length ≤ 100000000000) (h0 : 0 ≤ a) (h1 : a ≤ 100000000000) : Ev (fun k => laws_markIntS.f k l a) (a + l.length, M.cnt a l.length) := by
  unfold laws_markIntS.f
  simpa using markIntS_l0 l [] a (by simp; omega) h0 (by omega)
theorem laws_heldIntS_l0_ev (x0 : List Int) (x1 : Int) (x5 : Int) {r : (Int)} (h : Ev (fun k => if x5 < (x0.length : Int) then (if 0 ≤ x5 then (if (rd x0 x5) = x1 then (laws_heldIntS.l0 k x0 (wrap64 (x1 + 1)) (wrap64 (x5 + 1))) else (some (-1))) else (none)) else (some x1)) r) : Ev (fun k => laws_heldIntS.l0 k x0 x1 x5) r := Ev.step (fun k => by simp only [laws_heldIntS.l0]) h
theorem heldIntS_l0 : ∀ (n : Nat) (done : List Int) (a : Int), done.length + n ≤ 1000000000000 → 0 ≤ a → a + n ≤ 2000000000000 →
    Ev (fun k => laws_heldIntS.l0 k (done ++ M.cnt a n) a done.length) (a + n)
  | 0, done, a, _, _, _ => by
    have e : a + ((0 : Nat) : Int) = a := by omega
    rw [e]
    exact laws_heldIntS_l0_ev _ _ _ (M.evn (by simp [M.cnt]) (Ev.now _))
  | n + 1, done, a, hl, h0, h1 => by
    have h2 : (done ++ M.cnt a (n + 1)).length = done.length + n + 1 := by simp [M.cnt_length]; omega
    have hlt : ((done.length : Nat) : Int) < (((done ++ M.cnt a (n + 1)).length : Nat) : Int) := by omega
    have e0 : rd (done ++ M.cnt a (n + 1)) (done.length : Int) = a := by rw [M.cnt]; simp [rd]
    refine laws_heldIntS_l0_ev _ _ _ (M.evp hlt (M.evp (by omega) (M.evp e0 ?_)))
    have ih := heldIntS_l0 n (done ++ [a]) (a + 1) (by simp; omega) (by omega) (by omega)
    have e : wrap64 ((done.length : Int) + 1) = ((done ++ [a]).length : Int) := by rw [M.wrap_id (by omega) (by omega)]; simp
    have e2 : wrap64 (a + 1) = a + 1 := M.wrap_id (by omega) (by omega)
    have e3 : done ++ M.cnt a (n + 1) = (done ++ [a]) ++ M.cnt (a + 1) n := by simp [M.cnt]
    have e4 : a + ((n + 1 : Nat) : Int) = a + 1 + (n : Int) := by omega
    rw [e, e2, e3, e4]; exact ih
theorem heldIntS_ev (n : Nat) (a : Int) (h : n ≤ 1000000000000) (h0 : 0 ≤ a) (h1 : a ≤ 1000000000000) : Ev (fun k => laws_heldIntS.f k (M.cnt a n) a) (a + n) := by
  unfold laws_heldIntS.f
  simpa using heldIntS_l0 n [] a (by simp; omega) h0 (by omega)
theorem laws_heldIntSS_l0_ev (x0 : List (List Int)) (x1 : Int) (x5 : Int) {r : (Int)} (h : Ev (fun k => if x5 < (x0.length : Int) then (if 0 ≤ x5 then ((laws_heldIntS.f k (rd_L1 x0 x5) x1).bind fun t155 => (if t155 < 0 then (some (-1)) else (laws_heldIntSS.l0 k x0 t155 (wrap64 (x5 + 1))))) else (none)) else (some x1)) r) : Ev (fun k => laws_heldIntSS.l0 k x0 x1 x5) r := Ev.step (fun k => by simp only [laws_heldIntSS.l0]) h
theorem rdL_mid' (done rest : List (List Int)) (x : List Int) : rd_L1 (done ++ x :: rest) (done.length : Int) = x := by simp [rd_L1]
theorem heldIntSS_l0 : ∀ (l done : List (List Int)) (a : Int), done.length + l.length ≤ 100000000 → (∀ x ∈ l, x.length ≤ 1000) → 0 ≤ a → M.tot l a ≤ 1000000000000 →
    Ev (fun k => laws_heldIntSS.l0 k (done ++ M.mkSS l a) a done.length) (M.tot l a)
  | [], done, a, _, _, _, _ => laws_heldIntSS_l0_ev _ _ _ (M.evn (by simp [M.mkSS]) (Ev.now _))
  | x :: rest, done, a, hl, hx, h0, h1 => by
    rw [List.length_cons] at hl
    have hx1 := hx x List.mem_cons_self
    have h2 : (done ++ M.mkSS (x :: rest) a).length = done.length + rest.length + 1 := by simp [M.mkSS_length]; omega
    have hlt : ((done.length : Nat) : Int) < (((done ++ M.mkSS (x :: rest) a).length : Nat) : Int) := by omega
    have h3 := M.tot_ge rest (a + x.length)
    have h4 : M.tot (x :: rest) a = M.tot rest (a + x.length) := rfl
    have e0 : rd_L1 (done ++ M.mkSS (x :: rest) a) (done.length : Int) = M.cnt a x.length := by rw [M.mkSS]; exact rdL_mid' _ _ _
    refine laws_heldIntSS_l0_ev _ _ _ (M.evp hlt (M.evp (by omega) ?_))
    rw [e0]
    refine Ev.bind (heldIntS_ev x.length a (by omega) h0 (by omega)) (M.evn (by omega) ?_)
    have ih := heldIntSS_l0 rest (done ++ [M.cnt a x.length]) (a + x.length) (by simp; omega) (fun y hy => hx y (List.mem_cons_of_mem _ hy)) (by omega) (by rw [← h4]; exact h1)
    have e : wrap64 ((done.length : Int) + 1) = ((done ++ [M.cnt a x.length]).length : Int) := by rw [M.wrap_id (by omega) (by omega)]; simp
    have e3 : done ++ M.mkSS (x :: rest) a = (done ++ [M.cnt a x.length]) ++ M.mkSS rest (a + x.length) := by simp [M.mkSS]
    rw [e, e3, h4]; exact ih
theorem heldIntSS_ev (l : List (List Int)) (h : l.length ≤ 100000000) (hx : ∀ x ∈ l, x.length ≤ 1000) : Ev (fun k => laws_heldIntSS.f k (M.mkSS l 1) 1) (M.tot l 1) := by
  unfold laws_heldIntSS.f
  have := M.tot_le l 1 hx
  simpa using heldIntSS_l0 l [] 1 (by simp; omega) hx (by omega) (by omega)
theorem marks_l0 : ∀ (rest done : List (List Int)) (a : Int), (done ++ rest).length ≤ 100000000 → (∀ x ∈ rest, x.length ≤ 1000) → 0 ≤ a → M.tot rest a ≤ 100000000000 →
    Ev (fun k => MkFnExactWholeSquareLeans.marks k (done ++ rest) a done.length) (M.tot rest a, done ++ M.mkSS rest a)
  | [], done, a, _, _, _, _ => by
    refine Ev.step (f := fun _ => some (a, done ++ [])) (fun k => ?_) (Ev.now _)
    simp only [MkFnExactWholeSquareLeans.marks]
    rw [if_neg (by simp)]
  | x :: rest, done, a, hl, hx, h0, h1 => by
    have h2 : (done ++ x :: rest).length = done.length + rest.length + 1 := by simp; omega
    have hlt : ((done.length : Nat) : Int) < (((done ++ x :: rest).length : Nat) : Int) := by omega
    have hx1 := hx x List.mem_cons_self
    have h3 := M.tot_ge rest (a + x.length)
    have h4 : M.tot (x :: rest) a = M.tot rest (a + x.length) := rfl
    have e0 : rd_L1 (done ++ x :: rest) (done.length : Int) = x := by simp [rd_L1]
    have e : wrap64 ((done.length : Int) + 1) = ((done ++ [M.cnt a x.length]).length : Int) := by rw [M.wrap_id (by omega) (by omega)]; simp
    have e2 : (done ++ x :: rest).set ((done.length : Int)).toNat (M.cnt a x.length) = (done ++ [M.cnt a x.length]) ++ rest := by simp
    refine Ev.step (f := fun k => (laws_markIntS.f k x a).bind fun t => MkFnExactWholeSquareLeans.marks k ((done ++ x :: rest).set ((done.length : Int)).toNat t.2) t.1 ((done ++ [M.cnt a x.length]).length : Int)) (fun k => ?_) (Ev.bind (markIntS_ev x a (by omega) h0 (by omega)) ?_)
    · simp only [MkFnExactWholeSquareLeans.marks]
      rw [if_pos hlt, if_pos (by omega), e0, e]
    · have ih := marks_l0 rest (done ++ [M.cnt a x.length]) (a + x.length) (by simp at hl ⊢; omega) (fun y hy => hx y (List.mem_cons_of_mem _ hy)) (by omega) (by rw [← h4]; exact h1)
      have e3 : (M.tot (x :: rest) a, done ++ M.mkSS (x :: rest) a) = (M.tot rest (a + x.length), (done ++ [M.cnt a x.length]) ++ M.mkSS rest (a + x.length)) := by simp [M.mkSS, M.tot]
      simp only [e2]
      rw [e3]; exact ih
theorem law_of {sf impf : Nat → Option (List (List Int) × Bool)} {r : List (List Int) × Bool} (q1 : Ev sf r) (q2 : Ev impf r) (hl : r.1.length ≤ 10000) (hx : ∀ x ∈ r.1, x.length ≤ 1000) :
    ∃ (k : Nat) (l : List (List Int)) (b : Bool) (m : Int) (l2 : List (List Int)), sf k = some (l, b) ∧ impf k = some (l, b) ∧ laws_eqIntSS.f k l l = some true ∧ MkFnExactWholeSquareLeans.marks k l 1 0 = some (m, l2) ∧ laws_heldIntSS.f k l2 1 = some m ∧ 0 ≤ m := by
  obtain ⟨l, b⟩ := r
  have t1 := M.tot_le l 1 hx
  have t2 := M.tot_ge l 1
  replace hl : l.length ≤ 10000 := hl
  obtain ⟨K1, h1⟩ := q1
  obtain ⟨K2, h2⟩ := q2
  obtain ⟨K3, h3⟩ := eqIntSS_self l (by omega) (fun x h => by have := hx x h; omega)
  obtain ⟨K4, h4⟩ := marks_l0 l [] 1 (by simp; omega) hx (by omega) (by omega)
  obtain ⟨K5, h5⟩ := heldIntSS_ev l (by omega) hx
  refine ⟨K1 + K2 + K3 + K4 + K5, l, b, M.tot l 1, M.mkSS l 1, h1 _ (by omega), h2 _ (by omega), h3 _ (by omega), ?_, h5 _ (by omega), by omega⟩
  simpa using h4 (K1 + K2 + K3 + K4 + K5) (by omega)
theorem law : StFnExactWholeSquareLeans.Pure := by
  intro w _
  refine law_of (sWholeSq_ev w) (iWholeSq_ev w) ?_ ?_
  · split
    · next hb => have := M.leans_length (w := w) (h := w) ⟨hb, hb⟩; have := List.length_filter_le M.flat (M.leans w w); simp only; omega
    · simp
  · split
    · next hb =>
      intro x hx
      simp only [List.mem_filter] at hx
      obtain ⟨a, b, rfl, _⟩ := M.leans_mem (w := w) (h := w) ⟨hb, hb⟩ x hx.1
      simp
    · simp
end Go.Proofs.Ytfhndhajhonniaa.PbFnExactWholeSquareLeans
namespace Go.Proofs.Ytfhndhajhonniaa.Pure
theorem FnExactWholeSquareLeans : StFnExactWholeSquareLeans.Pure := PbFnExactWholeSquareLeans.law
end Go.Proofs.Ytfhndhajhonniaa.Pure
