/- The plain part of FnExactFeetFor: what the printed functions of the program and of the reference answer, in plain Lean, and that the law answers true. No condition. -/
import Derived.Test.YteognjcnnghknaaStFnExactFeetFor
import Derived.Test.YteognjcnnghknaaM
namespace Go.Proofs.Yteognjcnnghknaa.PbFnExactFeetFor
open Go.RowKit Go.Proofs.Yteognjcnnghknaa Go.Proofs.Yteognjcnnghknaa.PFnExactFeetFor Go.Proofs.YteognjcnnghknaaW.PrintWords Go.Proofs.YteognjcnnghknaaW.PrintLast
set_option linter.unusedVariables false
set_option linter.unusedSimpArgs false

theorem l1In_eq (a b c : Int) : spec_l1In.f a b c = some (decide (b ≤ a ∧ a ≤ c)) := by
  unfold spec_l1In.f
  by_cases h : b ≤ a <;> simp [h]
theorem lnBox_eq (a b : Int) : spec_lnBox.f a b = some (decide ((1 ≤ a ∧ a ≤ 60) ∧ 1 ≤ b ∧ b ≤ 60)) := by
  unfold spec_lnBox.f
  by_cases h : 1 ≤ a ∧ a ≤ 60 <;> simp [l1In_eq, h]
theorem lnLong_eq (a : Int) : spec_lnLong.f a = some (decide (1 ≤ a ∧ a ≤ 1000)) := by simp [spec_lnLong.f, l1In_eq]
theorem lnReaches_eq (w h f x : Int) (hb : (1 ≤ w ∧ w ≤ 60) ∧ 1 ≤ h ∧ h ≤ 60) (hf : 1 ≤ f ∧ f ≤ 1000) (hx : 1 ≤ x ∧ x ≤ 1000) (hw : w < f) :
    spec_lnReaches.f w h f x = some (decide (f * f * ((f - w) * (f - w) + h * h) ≤ x * x * (f - w) * (f - w))) := by
  have h1 := M.mulb 1000 1000 (a := f) (b := f) (by omega) (by omega) (by omega) (by omega)
  have h2 := M.mulb 1000 1000 (a := x) (b := x) (by omega) (by omega) (by omega) (by omega)
  have h3 := M.mulb 1000 1000 (a := f - w) (b := f - w) (by omega) (by omega) (by omega) (by omega)
  have h4 := M.mulb 60 60 (a := h) (b := h) (by omega) (by omega) (by omega) (by omega)
  have h5 := M.mulb 1000000 1003600 (a := f * f) (b := (f - w) * (f - w) + h * h) (by omega) (by omega) (by omega) (by omega)
  have h6 := M.mulb 1000000 1000 (a := x * x) (b := f - w) (by omega) (by omega) (by omega) (by omega)
  have h7 := M.mulb 1000000000 1000 (a := x * x * (f - w)) (b := f - w) (by omega) (by omega) (by omega) (by omega)
  unfold spec_lnReaches.f
  rw [M.wrap_id (n := f - w) (by omega) (by omega), M.wrap_id (n := f * f) (by omega) (by omega), M.wrap_id (n := (f - w) * (f - w)) (by omega) (by omega), M.wrap_id (n := h * h) (by omega) (by omega),
    M.wrap_id (n := (f - w) * (f - w) + h * h) (by omega) (by omega), M.wrap_id (n := f * f * ((f - w) * (f - w) + h * h)) (by omega) (by omega), M.wrap_id (n := x * x) (by omega) (by omega),
    M.wrap_id (n := x * x * (f - w)) (by omega) (by omega), M.wrap_id (n := x * x * (f - w) * (f - w)) (by omega) (by omega)]
theorem spec_lnFeet_l0_ev (x1 : Int) (x5 : List Int) (x6 : Int) (x107000 : Int) (x107001 : Int) {r : (List Int)} (h : Ev (fun k => if x6 ≤ x1 then ((spec_lnReaches.f x107000 x107001 x6 x1).bind fun t107 => (if t107 = true then (if x5.length < 17592186044416 then (spec_lnFeet.l0 k x1 (x5 ++ [x6]) (wrap64 (x6 + 1)) x107000 x107001) else (none)) else (spec_lnFeet.l0 k x1 x5 (wrap64 (x6 + 1)) x107000 x107001))) else (some x5)) r) : Ev (fun k => spec_lnFeet.l0 k x1 x5 x6 x107000 x107001) r := Ev.step (fun k => by simp only [spec_lnFeet.l0]) h
def reach (w h x f : Int) : Bool := decide (f * f * ((f - w) * (f - w) + h * h) ≤ x * x * (f - w) * (f - w))
theorem lnFeet_l0 (w h x : Int) (hb : (1 ≤ w ∧ w ≤ 60) ∧ 1 ≤ h ∧ h ≤ 60) (hx : 1 ≤ x ∧ x ≤ 1000) : ∀ (n : Nat) (acc : List Int) (f : Int), (x + 1 - f).toNat = n → w < f → f ≤ 1001 → acc.length ≤ f →
    Ev (fun k => spec_lnFeet.l0 k x acc f w h) (acc ++ M.sel (reach w h x) f n)
  | 0, acc, f, hn, hw, h1, ha => by
    have e : acc ++ M.sel (reach w h x) f 0 = acc := by simp [M.sel]
    rw [e]
    exact spec_lnFeet_l0_ev _ _ _ _ _ (M.evn (by omega) (Ev.now _))
  | n + 1, acc, f, hn, hw, h1, ha => by
    refine spec_lnFeet_l0_ev _ _ _ _ _ (M.evp (by omega) ?_)
    rw [lnReaches_eq w h f x hb (by omega) hx hw, M.wrap_id (n := f + 1) (by omega) (by omega)]
    simp only [Option.bind_some]
    rw [M.sel]
    by_cases hr : reach w h x f = true
    · rw [if_pos hr]
      refine M.evp hr (M.evp (by omega) ?_)
      have := lnFeet_l0 w h x hb hx n (acc ++ [f]) (f + 1) (by omega) (by omega) (by omega) (by simp; omega)
      simpa using this
    · rw [if_neg hr]
      exact M.evn hr (lnFeet_l0 w h x hb hx n acc (f + 1) (by omega) (by omega) (by omega) (by omega))
theorem lnFeet_ev (w h x : Int) (hb : (1 ≤ w ∧ w ≤ 60) ∧ 1 ≤ h ∧ h ≤ 60) (hx : 1 ≤ x ∧ x ≤ 1000) : Ev (fun k => spec_lnFeet.f k w h x) (M.sel (reach w h x) (w + 1) (x - w).toNat) := by
  unfold spec_lnFeet.f
  rw [M.wrap_id (n := w + 1) (by omega) (by omega)]
  simpa using lnFeet_l0 w h x hb hx (x - w).toNat [] (w + 1) (by omega) (by omega) (by omega) (by simp; omega)
theorem sFeetFor_ev (w h x : Int) : Ev (fun k => spec_FeetFor.f k w h x) (if ((1 ≤ w ∧ w ≤ 60) ∧ 1 ≤ h ∧ h ≤ 60) ∧ 1 ≤ x ∧ x ≤ 1000 then (M.sel (reach w h x) (w + 1) (x - w).toNat, true) else ([], false)) := by
  simp only [spec_FeetFor.f, lnBox_eq, lnLong_eq, Option.bind_some, decide_eq_true_eq]
  by_cases hb : (1 ≤ w ∧ w ≤ 60) ∧ 1 ≤ h ∧ h ≤ 60
  · refine M.evp hb ?_
    by_cases hx : 1 ≤ x ∧ x ≤ 1000
    · rw [if_pos ⟨hb, hx⟩]
      exact M.evp hx (Ev.bind (lnFeet_ev w h x hb hx) (Ev.now _))
    · rw [if_neg (fun h => hx h.2)]; exact M.evn hx (Ev.now _)
  · rw [if_neg (fun h => hb h.1)]; exact M.evn hb (Ev.now _)
theorem within_eq (a b c : Int) : impl_within.f a b c = some (decide (b ≤ a ∧ a ≤ c)) := by
  unfold impl_within.f
  by_cases h : b ≤ a <;> simp [h]
theorem IsBox_eq (a b : Int) : impl_IsBox.f a b = some (decide ((1 ≤ a ∧ a ≤ 60) ∧ 1 ≤ b ∧ b ≤ 60)) := by
  unfold impl_IsBox.f
  by_cases h : 1 ≤ a ∧ a ≤ 60 <;> simp [within_eq, h]
theorem isLong_eq (a : Int) : impl_isLong.f a = some (decide (1 ≤ a ∧ a ≤ 1000)) := by simp [impl_isLong.f, within_eq]
theorem square_eq (a b : Int) (ha : -1000000 ≤ a ∧ a ≤ 1000000) (hb : -1000000 ≤ b ∧ b ≤ 1000000) : impl_square.f a b = some (a * a + b * b) := by
  have h1 := M.mulabs 1000000 1000000 (a := a) (b := a) (by omega) (by omega) (by omega) (by omega)
  have h2 := M.mulabs 1000000 1000000 (a := b) (b := b) (by omega) (by omega) (by omega) (by omega)
  unfold impl_square.f
  rw [M.wrap_id (n := a * a) (by omega) (by omega), M.wrap_id (n := b * b) (by omega) (by omega), M.wrap_id (by omega) (by omega)]
theorem reachesOver_eq (w h f x : Int) (hb : (1 ≤ w ∧ w ≤ 60) ∧ 1 ≤ h ∧ h ≤ 60) (hf : 1 ≤ f ∧ f ≤ 1000) (hx : 1 ≤ x ∧ x ≤ 1000) (hw : w < f) :
    impl_reachesOver.f w h f x = some (decide (f * f * ((f - w) * (f - w) + h * h) ≤ x * x * (f - w) * (f - w))) := by
  have h1 := M.mulb 1000 1000 (a := f) (b := f) (by omega) (by omega) (by omega) (by omega)
  have h2 := M.mulb 1000 1000 (a := x) (b := x) (by omega) (by omega) (by omega) (by omega)
  have h3 := M.mulb 1000 1000 (a := f - w) (b := f - w) (by omega) (by omega) (by omega) (by omega)
  have h4 := M.mulb 60 60 (a := h) (b := h) (by omega) (by omega) (by omega) (by omega)
  have h5 := M.mulb 1000000 1003600 (a := f * f) (b := (f - w) * (f - w) + h * h) (by omega) (by omega) (by omega) (by omega)
  have h6 := M.mulb 1000000 1000 (a := x * x) (b := f - w) (by omega) (by omega) (by omega) (by omega)
  have h7 := M.mulb 1000000000 1000 (a := x * x * (f - w)) (b := f - w) (by omega) (by omega) (by omega) (by omega)
  unfold impl_reachesOver.f
  rw [M.wrap_id (n := f - w) (by omega) (by omega), square_eq _ _ (by omega) (by omega), Option.bind_some, M.wrap_id (n := f * f) (by omega) (by omega), M.wrap_id (n := f * f * ((f - w) * (f - w) + h * h)) (by omega) (by omega), M.wrap_id (n := x * x) (by omega) (by omega),
    M.wrap_id (n := x * x * (f - w)) (by omega) (by omega), M.wrap_id (n := x * x * (f - w) * (f - w)) (by omega) (by omega)]
theorem impl_feetFor_l0_ev (x1 : Int) (x5 : List Int) (x6 : Int) (x127000 : Int) (x127001 : Int) {r : (List Int)} (h : Ev (fun k => if x6 ≤ x1 then ((impl_reachesOver.f x127000 x127001 x6 x1).bind fun t130 => (if t130 = true then (if x5.length < 17592186044416 then (impl_feetFor.l0 k x1 (x5 ++ [x6]) (wrap64 (x6 + 1)) x127000 x127001) else (none)) else (impl_feetFor.l0 k x1 x5 (wrap64 (x6 + 1)) x127000 x127001))) else (some x5)) r) : Ev (fun k => impl_feetFor.l0 k x1 x5 x6 x127000 x127001) r := Ev.step (fun k => by simp only [impl_feetFor.l0]) h
theorem feetFor_l0 (w h x : Int) (hb : (1 ≤ w ∧ w ≤ 60) ∧ 1 ≤ h ∧ h ≤ 60) (hx : 1 ≤ x ∧ x ≤ 1000) : ∀ (n : Nat) (acc : List Int) (f : Int), (x + 1 - f).toNat = n → w < f → f ≤ 1001 → acc.length ≤ f →
    Ev (fun k => impl_feetFor.l0 k x acc f w h) (acc ++ M.sel (reach w h x) f n)
  | 0, acc, f, hn, hw, h1, ha => by
    have e : acc ++ M.sel (reach w h x) f 0 = acc := by simp [M.sel]
    rw [e]
    exact impl_feetFor_l0_ev _ _ _ _ _ (M.evn (by omega) (Ev.now _))
  | n + 1, acc, f, hn, hw, h1, ha => by
    refine impl_feetFor_l0_ev _ _ _ _ _ (M.evp (by omega) ?_)
    rw [reachesOver_eq w h f x hb (by omega) hx hw, M.wrap_id (n := f + 1) (by omega) (by omega)]
    simp only [Option.bind_some]
    rw [M.sel]
    by_cases hr : reach w h x f = true
    · rw [if_pos hr]
      refine M.evp hr (M.evp (by omega) ?_)
      have := feetFor_l0 w h x hb hx n (acc ++ [f]) (f + 1) (by omega) (by omega) (by omega) (by simp; omega)
      simpa using this
    · rw [if_neg hr]
      exact M.evn hr (feetFor_l0 w h x hb hx n acc (f + 1) (by omega) (by omega) (by omega) (by omega))
theorem feetFor_ev (w h x : Int) (hb : (1 ≤ w ∧ w ≤ 60) ∧ 1 ≤ h ∧ h ≤ 60) (hx : 1 ≤ x ∧ x ≤ 1000) : Ev (fun k => impl_feetFor.f k w h x) (M.sel (reach w h x) (w + 1) (x - w).toNat) := by
  unfold impl_feetFor.f
  rw [M.wrap_id (n := w + 1) (by omega) (by omega)]
  simpa using feetFor_l0 w h x hb hx (x - w).toNat [] (w + 1) (by omega) (by omega) (by omega) (by simp; omega)
theorem iFeetFor_ev (w h x : Int) : Ev (fun k => impl_FeetFor.f k w h x) (if ((1 ≤ w ∧ w ≤ 60) ∧ 1 ≤ h ∧ h ≤ 60) ∧ 1 ≤ x ∧ x ≤ 1000 then (M.sel (reach w h x) (w + 1) (x - w).toNat, true) else ([], false)) := by
  simp only [impl_FeetFor.f, IsBox_eq, isLong_eq, Option.bind_some, decide_eq_true_eq]
  by_cases hb : (1 ≤ w ∧ w ≤ 60) ∧ 1 ≤ h ∧ h ≤ 60
  · refine M.evp hb ?_
    by_cases hx : 1 ≤ x ∧ x ≤ 1000
    · rw [if_pos ⟨hb, hx⟩]
      exact M.evp hx (Ev.bind (feetFor_ev w h x hb hx) (Ev.now _))
    · rw [if_neg (fun h => hx h.2)]; exact M.evn hx (Ev.now _)
  · rw [if_neg (fun h => hb h.1)]; exact M.evn hb (Ev.now _)
theorem laws_eqIntS_l0_ev (x0 : List Int) (x1 : List Int) (x5 : Int) {r : (Bool)} (h : Ev (fun k => if x5 < (x0.length : Int) then (if 0 ≤ x5 then (if x5 < (x1.length : Int) then (if (rd x0 x5) = (rd x1 x5) then (laws_eqIntS.l0 k x0 x1 (wrap64 (x5 + 1))) else (some false)) else (none)) else (none)) else (some true)) r) : Ev (fun k => laws_eqIntS.l0 k x0 x1 x5) r := Ev.step (fun k => by simp only [laws_eqIntS.l0]) h
theorem rd_mid (done rest : List Int) (x : Int) : rd (done ++ x :: rest) (done.length : Int) = x := by simp [rd]
theorem eqIntS_l0 : ∀ (rest done : List Int), (done ++ rest).length ≤ 1000000000000 → Ev (fun k => laws_eqIntS.l0 k (done ++ rest) (done ++ rest) done.length) true
  | [], done, _ => laws_eqIntS_l0_ev _ _ _ (M.evn (by simp) (Ev.now _))
  | x :: rest, done, hl => by
    have h2 : (done ++ x :: rest).length = done.length + rest.length + 1 := by simp; omega
    have hlt : ((done.length : Nat) : Int) < (((done ++ x :: rest).length : Nat) : Int) := by omega
    refine laws_eqIntS_l0_ev _ _ _ (M.evp hlt (M.evp (by omega) (M.evp hlt (M.evp rfl ?_))))
    have ih := eqIntS_l0 rest (done ++ [x]) (by simpa using hl)
    have e : wrap64 ((done.length : Int) + 1) = ((done ++ [x]).length : Int) := by rw [M.wrap_id (by omega) (by omega)]; simp
    rw [e]
    simpa using ih
theorem eqIntS_self (l : List Int) (h : l.length ≤ 1000000000000) : Ev (fun k => laws_eqIntS.f k l l) true := by
  unfold laws_eqIntS.f
  exact M.evp rfl (by simpa using eqIntS_l0 l [] (by simpa using h))
theorem laws_markIntS_l0_ev (x0 : List Int) (x1 : Int) (x5 : Int) {r : (Int × List Int)} (h : Ev (fun k => if x5 < (x0.length : Int) then (if 0 ≤ x5 then (laws_markIntS.l0 k (x0.set (x5 : Int).toNat x1) (wrap64 (x1 + 1)) (wrap64 (x5 + 1))) else (none)) else (some (x1, x0))) r) : Ev (fun k => laws_markIntS.l0 k x0 x1 x5) r := Ev.step (fun k => by simp only [laws_markIntS.l0]) h
theorem markIntS_l0 : ∀ (rest done : List Int) (a : Int), (done ++ rest).length ≤ 1000000000000 → 0 ≤ a → a + rest.length ≤ 1000000000000 →
    Ev (fun k => laws_markIntS.l0 k (done ++ rest) a done.length) (a + rest.length, done ++ M.cnt a rest.length)
  | [], done, a, _, _, _ => by
    have e : (a + (([] : List Int).length : Int), done ++ M.cnt a ([] : List Int).length) = (a, done ++ []) := by simp [M.cnt]
    rw [e]
    exact laws_markIntS_l0_ev _ _ _ (M.evn (by simp) (Ev.now _))
  | x :: rest, done, a, hl, h0, h1 => by
    have h2 : (done ++ x :: rest).length = done.length + rest.length + 1 := by simp; omega
    have hlt : ((done.length : Nat) : Int) < (((done ++ x :: rest).length : Nat) : Int) := by omega
    refine laws_markIntS_l0_ev _ _ _ (M.evp hlt (M.evp (by omega) ?_))
    have e : wrap64 ((done.length : Int) + 1) = ((done ++ [a]).length : Int) := by rw [M.wrap_id (by omega) (by omega)]; simp
    have e2 : wrap64 (a + 1) = a + 1 := M.wrap_id (by omega) (by omega)
    have e3 : (done ++ x :: rest).set ((done.length : Int)).toNat a = (done ++ [a]) ++ rest := by simp
    have e4 : (a + ((x :: rest).length : Int), done ++ M.cnt a (x :: rest).length) = (a + 1 + (rest.length : Int), (done ++ [a]) ++ M.cnt (a + 1) rest.length) := by
      simp only [List.length_cons, M.cnt, List.append_assoc, List.singleton_append, Prod.mk.injEq, and_true]; omega
    rw [e, e2, e3, e4]
    exact markIntS_l0 rest (done ++ [a]) (a + 1) (by simpa using hl) (by omega) (by rw [List.length_cons] at h1; omega)
theorem markIntS_ev (l : List Int) (a : Int) (h : l.length ≤ 100000000000) (h0 : 0 ≤ a) (h1 : a ≤ 100000000000) : Ev (fun k => laws_markIntS.f k l a) (a + l.length, M.cnt a l.length) := by
  unfold laws_markIntS.f
  simpa using markIntS_l0 l [] a (by simp; omega) h0 (by omega)
theorem laws_heldIntS_l0_ev (x0 : List Int) (x1 : Int) (x5 : Int) {r : (Int)} (h : Ev (fun k => if x5 < (x0.length : Int) then (if 0 ≤ x5 then (if (rd x0 x5) = x1 then (laws_heldIntS.l0 k x0 (wrap64 (x1 + 1)) (wrap64 (x5 + 1))) else (some (-1))) else (none)) else (some x1)) r) : Ev (fun k => laws_heldIntS.l0 k x0 x1 x5) r := Ev.step (fun k => by simp only [laws_heldIntS.l0]) h
theorem heldIntS_l0 : ∀ (n : Nat) (done : List Int) (a : Int), done.length + n ≤ 1000000000000 → 0 ≤ a → a + n ≤ 2000000000000 →
    Ev (fun k => laws_heldIntS.l0 k (done ++ M.cnt a n) a done.length) (a + n)
  | 0, done, a, _, _, _ => by
    have e : a + ((0 : Nat) : Int) = a := by omega
    rw [e]
    exact laws_heldIntS_l0_ev _ _ _ (M.evn (by simp [M.cnt]) (Ev.now _))
  | n + 1, done, a, hl, h0, h1 => by
    have h2 : (done ++ M.cnt a (n + 1)).length = done.length + n + 1 := by simp [M.cnt_length]; omega
    have hlt : ((done.length : Nat) : Int) < (((done ++ M.cnt a (n + 1)).length : Nat) : Int) := by omega
    have e0 : rd (done ++ M.cnt a (n + 1)) (done.length : Int) = a := by rw [M.cnt]; simp [rd]
    refine laws_heldIntS_l0_ev _ _ _ (M.evp hlt (M.evp (by omega) (M.evp e0 ?_)))
    have ih := heldIntS_l0 n (done ++ [a]) (a + 1) (by simp; omega) (by omega) (by omega)
    have e : wrap64 ((done.length : Int) + 1) = ((done ++ [a]).length : Int) := by rw [M.wrap_id (by omega) (by omega)]; simp
    have e2 : wrap64 (a + 1) = a + 1 := M.wrap_id (by omega) (by omega)
    have e3 : done ++ M.cnt a (n + 1) = (done ++ [a]) ++ M.cnt (a + 1) n := by simp [M.cnt]
    have e4 : a + ((n + 1 : Nat) : Int) = a + 1 + (n : Int) := by omega
    rw [e, e2, e3, e4]; exact ih
theorem heldIntS_ev (n : Nat) (a : Int) (h : n ≤ 1000000000000) (h0 : 0 ≤ a) (h1 : a ≤ 1000000000000) : Ev (fun k => laws_heldIntS.f k (M.cnt a n) a) (a + n) := by
  unfold laws_heldIntS.f
  simpa using heldIntS_l0 n [] a (by simp; omega) h0 (by omega)
theorem laws_FnExactFeetFor_j0_ev (x1 : Int) (x5 : List Int) (x6 : Bool) (x7 : List Int) (x35 : Bool) (x145000 : Int) (x145001 : Int) {r : (Bool)} (h : Ev (fun k => if x35 = true then (some false) else ((laws_markIntS.f k x7 1).bind fun bt158 => ((laws_heldIntS.f k bt158.2 1).bind fun t160 => (if t160 < 0 then (some false) else (if t160 = bt158.1 then ((laws_toBox.f x145000 x145001).bind fun bt161 => ((impl_FeetFor.f k bt161.1 bt161.2 x1).bind fun bt163 => ((laws_eqIntS.f k bt163.1 x5).bind fun t167 => (if t167 = true then (laws_FnExactFeetFor.j1 k bt158.2 bt158.1 (bt163.2 != x6)) else (laws_FnExactFeetFor.j1 k bt158.2 bt158.1 true))))) else (some false)))))) r) : Ev (fun k => laws_FnExactFeetFor.j0 k x1 x5 x6 x7 x35 x145000 x145001) r := Ev.step (fun k => by simp only [laws_FnExactFeetFor.j0]) h
theorem laws_FnExactFeetFor_j1_ev (x7 : List Int) (x9 : Int) (x62 : Bool) {r : (Bool)} (h : Ev (fun k => if x62 = true then (some false) else ((laws_heldIntS.f k x7 1).bind fun t168 => (if t168 < 0 then (some false) else (if t168 = x9 then (some true) else (some false))))) r) : Ev (fun k => laws_FnExactFeetFor.j1 k x7 x9 x62) r := Ev.step (fun k => by simp only [laws_FnExactFeetFor.j1]) h
theorem law : StFnExactFeetFor.Pure := by
  intro w h x _ _ _
  refine Ev.rounds ?_
  simp only [laws_FnExactFeetFor.f, laws_toBox.f, Option.bind_some]
  have q1 := sFeetFor_ev w h x
  have q2 := iFeetFor_ev w h x
  have hl : (if ((1 ≤ w ∧ w ≤ 60) ∧ 1 ≤ h ∧ h ≤ 60) ∧ 1 ≤ x ∧ x ≤ 1000 then (M.sel (reach w h x) (w + 1) (x - w).toNat, true) else ([], false)).1.length ≤ 1000 := by
    split
    · next hc => have := M.sel_length (reach w h x) (w + 1) (x - w).toNat; simp only; omega
    · simp
  generalize (if ((1 ≤ w ∧ w ≤ 60) ∧ 1 ≤ h ∧ h ≤ 60) ∧ 1 ≤ x ∧ x ≤ 1000 then (M.sel (reach w h x) (w + 1) (x - w).toNat, true) else ([], false)) = r at q1 q2 hl
  obtain ⟨l, b⟩ := r
  replace hl : l.length ≤ 1000 := hl
  refine Ev.bind q1 (Ev.bind q2 (Ev.bind (eqIntS_self l (by omega)) (M.evp rfl ?_)))
  simp only [bne_self_eq_false]
  refine laws_FnExactFeetFor_j0_ev _ _ _ _ _ _ _ (M.evn (by simp) (Ev.bind (markIntS_ev l 1 (by omega) (by omega) (by omega)) (Ev.bind (heldIntS_ev l.length 1 (by omega) (by omega) (by omega)) (M.evn (by omega) (M.evp rfl ?_)))))
  simp only [laws_toBox.f, Option.bind_some]
  refine Ev.bind q2 (Ev.bind (eqIntS_self l (by omega)) (M.evp rfl ?_))
  simp only [bne_self_eq_false]
  exact laws_FnExactFeetFor_j1_ev _ _ _ (M.evn (by simp) (Ev.bind (heldIntS_ev l.length 1 (by omega) (by omega) (by omega)) (M.evn (by omega) (M.evp rfl (Ev.now _)))))
end Go.Proofs.Yteognjcnnghknaa.PbFnExactFeetFor
namespace Go.Proofs.Yteognjcnnghknaa.Pure
theorem FnExactFeetFor : StFnExactFeetFor.Pure := PbFnExactFeetFor.law
end Go.Proofs.Yteognjcnnghknaa.Pure
