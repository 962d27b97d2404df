/- What is drawn out of bytes: each draw yields some numbers, and stays within its state. No condition. -/
import Derived.Test.YtlajkepgmmfbhaaQFnLaddersSlipx0
import Derived.Test.YtlajkepgmmfbhaaQFnLaddersSlipx1
import Derived.Test.YtlajkepgmmfbhaaQFnLaddersSlipx2
import Derived.Test.YtlajkepgmmfbhaaQFnLaddersSlipx3
import Derived.Test.YtlajkepgmmfbhaaQFnLaddersSlipx4
import Derived.Test.YtlajkepgmmfbhaaQFnLaddersSlipx5
import Derived.Test.YtlajkepgmmfbhaaQFnLaddersSlipx6
import Derived.Test.YtlajkepgmmfbhaaQFnLaddersSlipx7
import Derived.Test.YtlajkepgmmfbhaaQFnLaddersSlipx8
import Derived.Test.YtlajkepgmmfbhaaDrw
import Derived.Laws.BitsLemmas
namespace Go.Proofs.Ytlajkepgmmfbhaa.DwFnLaddersSlip
open Go Go.RowKit Go.Proofs.Ytlajkepgmmfbhaa.E Go.Proofs.Ytlajkepgmmfbhaa.PFnLaddersSlip Go.Proofs.YtlajkepgmmfbhaaW.PrintWords Go.Proofs.YtlajkepgmmfbhaaW.PrintLast
set_option linter.unusedVariables false
def By (l : List Int) : Prop := ∀ x ∈ l, 0 ≤ x ∧ x ≤ 255
theorem wid {n : Int} (h : -9223372036854775808 ≤ n) (h' : n ≤ 9223372036854775807) : wrap64 n = n := by unfold wrap64; omega
theorem rd_by {l : List Int} (h : By l) {i : Int} (h0 : 0 ≤ i) (h1 : i < l.length) : 0 ≤ rd l i ∧ rd l i ≤ 255 := by
  unfold rd
  have hlt : i.toNat < l.length := by omega
  rw [List.getD_eq_getElem?_getD, List.getElem?_eq_getElem hlt]
  exact h _ (List.getElem_mem hlt)
theorem and255 (x : Int) : 0 ≤ Go.bits .and .u64 ((IntKind.u64.wrap x) / 1099511627776) 255 ∧ Go.bits .and .u64 ((IntKind.u64.wrap x) / 1099511627776) 255 ≤ 255 := by
  have hw : ∀ n : Int, IntKind.u64.wrap n = n % 18446744073709551616 := fun n => by simp [IntKind.wrap, IntKind.bits, IntKind.signed]
  have h := bits_mask .u64 32 (by decide) (fun n h0 h1 => by rw [hw]; omega) 8 (by decide) ((IntKind.u64.wrap x) / 1099511627776) (by rw [hw]; omega) (by rw [hw]; omega)
  rw [show ((2 : Int) ^ 8 - 1) = 255 by decide, show ((2 : Int) ^ 8) = 256 by decide] at h
  rw [h]
  omega
section
variable {code : List Int} (hc : By code)
include hc
theorem next_tot (q sd : Int) (h0 : 0 ≤ q) (h1 : q ≤ 1000000000) : ∃ v sd', spec_l1Cur_next.f code q sd = some (v, q + 1, sd') ∧ 0 ≤ v ∧ v ≤ 255 := by
  have e : wrap64 (q + 1) = q + 1 := wid (by omega) (by omega)
  unfold spec_l1Cur_next.f
  rw [e]
  by_cases c1 : q < (code.length : Int)
  · rw [if_pos c1, if_pos h0]
    have hb := rd_by hc h0 c1
    rw [wid (n := rd code q) (by omega) (by omega)]
    by_cases c2 : q + 1 ≤ (code.length : Int)
    · rw [if_pos c2]; exact ⟨_, _, rfl, hb.1, hb.2⟩
    · omega
  · rw [if_neg c1]
    by_cases c2 : q + 1 ≤ (code.length : Int)
    · omega
    · rw [if_neg c2]
      have hb := and255 (IntKind.u64.wrap (IntKind.u64.wrap (sd * 6364136223846793005) + 0) + 1442695040888963407)
      rw [wid (n := Go.bits .and .u64 _ 255) (by omega) (by omega)]
      exact ⟨_, _, rfl, hb.1, hb.2⟩
theorem pick_tot (q sd n : Int) (h0 : 0 ≤ q) (h1 : q ≤ 999999990) : ∃ v q' sd', spec_l1Cur_pick.f code q sd n = some (v, q', sd') ∧ 0 ≤ v ∧ (1 ≤ n → v < n) ∧ q ≤ q' ∧ q' ≤ q + 2 := by
  unfold spec_l1Cur_pick.f
  by_cases c1 : n ≤ 1
  · rw [if_pos c1]; exact ⟨_, _, _, rfl, by omega, by omega, by omega, by omega⟩
  · rw [if_neg c1]
    obtain ⟨v, s1, e1, b1, b2⟩ := next_tot hc q sd h0 (by omega)
    rw [e1]
    simp only [Option.bind_some]
    by_cases c2 : n > 200
    · rw [if_pos c2]
      obtain ⟨v2, s2, e2, b3, b4⟩ := next_tot hc (q + 1) s1 (by omega) (by omega)
      rw [e2]
      simp only [Option.bind_some]
      rw [if_neg (by omega), wid (n := v * 256) (by omega) (by omega), wid (n := v * 256 + v2) (by omega) (by omega), Int.tmod_eq_emod_of_nonneg (by omega)]
      exact ⟨_, _, _, rfl, Int.emod_nonneg _ (by omega), fun _ => Int.emod_lt_of_pos _ (by omega), by omega, by omega⟩
    · rw [if_neg c2, if_neg (by omega), Int.tmod_eq_emod_of_nonneg (by omega)]
      exact ⟨_, _, _, rfl, Int.emod_nonneg _ (by omega), fun _ => Int.emod_lt_of_pos _ (by omega), by omega, by omega⟩
theorem among_tot (q sd : Int) (l : List Int) (hl : 1 ≤ l.length) (h0 : 0 ≤ q) (h1 : q ≤ 999999990) : ∃ v q' sd', spec_l1Cur_among.f code q sd l = some (v, q', sd') ∧ q ≤ q' ∧ q' ≤ q + 2 := by
  unfold spec_l1Cur_among.f
  obtain ⟨v, q', s', e, b1, b2, b3, b4⟩ := pick_tot hc q sd (l.length : Int) h0 h1
  rw [e]
  simp only [Option.bind_some]
  rw [if_pos b1, if_pos (b2 (by omega))]
  exact ⟨_, _, _, rfl, b3, b4⟩
theorem one_tot (q sd n : Int) (h0 : 0 ≤ q) (h1 : q ≤ 999999990) : ∃ v q' sd', spec_l1Cur_one.f code q sd n = some (v, q', sd') ∧ q ≤ q' ∧ q' ≤ q + 2 := by
  unfold spec_l1Cur_one.f
  obtain ⟨v, q', s', e, b1, b2, b3, b4⟩ := pick_tot hc q sd n h0 h1
  rw [e]
  exact ⟨_, _, _, rfl, b3, b4⟩
theorem reach_tot (q sd : Int) (h0 : 0 ≤ q) (h1 : q ≤ 999990000) : ∃ v q' sd', spec_l1Cur_reach.f code q sd = some (v, q', sd') ∧ q ≤ q' ∧ q' ≤ q + 4 := by
  unfold spec_l1Cur_reach.f
  obtain ⟨v, q1, s1, e, b1, b2⟩ := one_tot hc q sd 10 h0 (by omega)
  rw [e]
  simp only [Option.bind_some]
  cases v with
  | true =>
    obtain ⟨v, q2, s2, e2, b3, b4⟩ := among_tot hc q1 s1 [(-1), 0, 1, 60, 1000, 1001, 4611686018427387904] (by simp) (by omega) (by omega)
    rw [if_pos rfl, e2]
    exact ⟨_, q2, s2, rfl, by omega, by omega⟩
  | false =>
    obtain ⟨v, q2, s2, e2, _, _, b3, b4⟩ := pick_tot hc q1 s1 30 (by omega) (by omega)
    rw [if_neg (by decide), e2]
    exact ⟨_, q2, s2, rfl, by omega, by omega⟩

end
/-! ### the state beside variables in memory -/
def KS (w0 : World) (bs : List (Nat × Array Value × Nat)) (g : Nat) (code : List Int) (N : Int) (w : World) : Prop := K w0 bs w ∧ (∀ b ∈ bs, b.1 ≠ g) ∧ ∃ q sd, IsS51 w0 w g code q sd ∧ 0 ≤ q ∧ q ≤ N
section
variable {w0 w w' : World} {bs : List (Nat × Array Value × Nat)} {g : Nat} {code : List Int} {N : Int}
theorem KS.alloc (h : KS w0 bs g code N w) (cs : Array Value) (t : Nat) : KS w0 ((w.heap.size, cs, t) :: bs) g code N (w.alloc (.cells cs t)) := by
  obtain ⟨h1, h2, q, sd, h3, h4⟩ := h
  refine ⟨h1.alloc cs t, fun b hb => ?_, q, sd, IsS51.alloc h3 _, h4⟩
  rcases List.mem_cons.1 hb with rfl | hb
  · exact fun e => absurd e (Nat.ne_of_gt (IsS51.lt h3))
  · exact h2 b hb
theorem KS.below (h : KS w0 bs g code N w) (hb : Below w.heap.size w w') : KS w0 bs g code N w' := by
  obtain ⟨h1, h2, q, sd, h3, h4⟩ := h
  exact ⟨h1.below hb, h2, q, sd, IsS51.below h3 hb, h4⟩
theorem KS.call {q' sd' : Int} (h : KS w0 bs g code N w) (hi : IsS51 w0 w' g code q' sd') (hb : Below w0.heap.size w0 w') (hk : KeepBut w w' g none) {M : Int} (h0 : 0 ≤ q') (h1 : q' ≤ M) : KS w0 bs g code M w' :=
  ⟨⟨hb, h.1.2.1, fun b hb' => ⟨(h.1.2.2 b hb').1, KeepBut.blk hk (h.1.2.2 b hb').2 (h.2.1 b hb') (by simp)⟩⟩, h.2.1, q', sd', hi, h0, h1⟩
theorem KS.new (h : K w0 bs w) {A0 : Option Addr} {c0 : Nat} (hr : Kd.C (Kd.int .u8) w0 A0 code.length code) : KS w0 bs w.heap.size code 0 (w.alloc (.cells #[.slice A0 code.length c0, .int .i64 0, .int .u64 0] 51)) :=
  ⟨h.below (below_alloc (Below.refl _ _) _), fun b hb => Nat.ne_of_lt (h.lt b hb), 0, 0, IsS51.new w0 w A0 c0 code 0 0 h.1 hr, Int.le_refl _, Int.le_refl _⟩
end
section
variable {w0 : World} {bs : List (Nat × Array Value × Nat)} {g : Nat} {code : List Int} {N : Int} (hc : By code) (hN : N ≤ 1000)
include hc hN
theorem reachX (w : World) (h : KS w0 bs g code N w) : Calls Try.prog 34 #[.pointer (some ⟨g, 0, none⟩)] w fun e w' => ∃ i : Int, e = .returned (.int .i64 i) ∧ KS w0 bs g code (N + 4) w' := by
  obtain ⟨hK, hne, q, sd, hI, h0, h1⟩ := h
  obtain ⟨v1, q', sd', hf, b0, b1⟩ := reach_tot hc q sd h0 (by omega)
  exact (spec_l1Cur_reach.calls g code q sd v1 q' sd' w0 w hI hK.1 hf).mono fun e w' ⟨he, hi, hb, hk⟩ => ⟨v1, he, KS.call ⟨hK, hne, q, sd, hI, h0, h1⟩ hi hb hk (by omega) (by omega)⟩
theorem pickX (n : Int) (w : World) (h : KS w0 bs g code N w) : Calls Try.prog 35 #[.pointer (some ⟨g, 0, none⟩), .int .i64 n] w fun e w' => ∃ i : Int, e = .returned (.int .i64 i) ∧ KS w0 bs g code (N + 2) w' := by
  obtain ⟨hK, hne, q, sd, hI, h0, h1⟩ := h
  obtain ⟨v, q', sd', hf, _, _, b0, b1⟩ := pick_tot hc q sd n h0 (by omega)
  exact (spec_l1Cur_pick.calls g code q sd n v q' sd' w0 w hI hK.1 hf).mono fun e w' ⟨he, hi, hb, hk⟩ => ⟨v, he, KS.call ⟨hK, hne, q, sd, hI, h0, h1⟩ hi hb hk (by omega) (by omega)⟩
theorem oneX (n : Int) (w : World) (h : KS w0 bs g code N w) : Calls Try.prog 49 #[.pointer (some ⟨g, 0, none⟩), .int .i64 n] w fun e w' => ∃ i : Bool, e = .returned (.bool i) ∧ KS w0 bs g code (N + 2) w' := by
  obtain ⟨hK, hne, q, sd, hI, h0, h1⟩ := h
  obtain ⟨v, q', sd', hf, b0, b1⟩ := one_tot hc q sd n h0 (by omega)
  exact (spec_l1Cur_one.calls g code q sd n v q' sd' w0 w hI hK.1 hf).mono fun e w' ⟨he, hi, hb, hk⟩ => ⟨v, he, KS.call ⟨hK, hne, q, sd, hI, h0, h1⟩ hi hb hk (by omega) (by omega)⟩

end
theorem drawn_below (w : World) : Below w.heap.size w { w with drawn := w.drawn + 1 } := ⟨rfl, rfl, rfl, Nat.le_refl _, fun _ _ => rfl⟩
theorem Sim.getD {n i : Nat} {s : Sl} {a : Act} {v : Value} (h : Sim n s a) (hi : s i = some v) : a.tmps.getD i undef = v := by
  have := h.2.2 i v hi
  rw [Array.getD_eq_getD_getElem?, this]; rfl
theorem bld57 (A0 : Option Addr) (m c0 : Nat) (w : World) : (Instr.build 51 #[(0, .slice A0 m c0)]).run Try.prog w = .ok (.agg #[.slice A0 m c0, .int .i64 0, .int .u64 0]) w := by
  have h := Try.underlying51
  go_simp
theorem box57 (A0 : Option Addr) (m c0 : Nat) (w : World) : (Instr.box 51 (.agg #[.slice A0 m c0, .int .i64 0, .int .u64 0])).run Try.prog w = .ok (.pointer (some ⟨w.heap.size, 0, none⟩)) (w.alloc (.cells #[.slice A0 m c0, .int .i64 0, .int .u64 0] 51)) := by
  have h := Try.underlying51
  go_simp
theorem pv_bld57 {C : World → Prop} {n : Nat} {o : Oper} {s : Sl} {x1 : Operand} {A0 : Option Addr} {m c0 : Nat} (ho : o.op = .build 51 #[(0, x1)]) (hx : ev s x1 = some (.slice A0 m c0)) : PV Try.prog C n o s (.agg #[.slice A0 m c0, .int .i64 0, .int .u64 0]) := pv_run fun a ha w hw => by
  unfold execOp; simp only [ho]
  have := bld57 A0 m c0 w
  have e : (#[(0, x1)] : Array (Nat × Operand)).map (fun x => (x.1, a.eval x.2)) = #[(0, .slice A0 m c0)] := by simp [ha.ev hx]
  show ((Instr.build 51 ((#[(0, x1)] : Array (Nat × Operand)).map (fun x => (x.1, a.eval x.2)))) >>= fun v => pure (Next.value v)).run Try.prog w = _
  rw [e]
  simp only [Sem.run_bind, this]; rfl
theorem row_of_blk {w : World} {b : Nat} {l : List Int} {cs : Array Value} (hb : w.heap[b]? = some (.cells cs 3)) (hl : l.length ≤ 1000) (he : cs = (l.map (Value.int .i64)).toArray) : Kd.C (Kd.int .i64) w (some ⟨b, 0, none⟩) l.length l := by
  refine ⟨rfl, by omega, fun _ => ⟨⟨b, 0, none⟩, rfl, fun j p hj => ⟨[.int .i64 p], rfl, rfl, fun i u hu => ?_⟩⟩⟩
  cases i with
  | zero =>
    cases hu
    have e : (⟨b, 0, none⟩ : Addr).add (j * 1 + 0) = ⟨b, j, none⟩ := by unfold Addr.add; simp; omega
    show w.cell? ((⟨b, 0, none⟩ : Addr).add (j * 1 + 0)) = _
    rw [e, blk_cell hb j, he]
    simp [hj]
  | succ i => simp at hu
theorem amongX {w0 : World} {bs : List (Nat × Array Value × Nat)} {g : Nat} {code : List Int} {N : Int} (hc : By code) (hN : N ≤ 1000) (b : Nat) (l : List Int) (cs : Array Value) (hl : 1 ≤ l.length ∧ l.length ≤ 1000) (he : cs = (l.map (Value.int .i64)).toArray) (c : Nat) (hcl : l.length ≤ c) (w : World) (h : KS w0 ((b, cs, 3) :: bs) g code N w) :
    Calls Try.prog 38 #[.pointer (some ⟨g, 0, none⟩), .slice (some ⟨b, 0, none⟩) l.length c] w fun e w' => ∃ i : Int, e = .returned (.int .i64 i) ∧ KS w0 ((b, cs, 3) :: bs) g code (N + 2) w' := by
  obtain ⟨hK, hne, q, sd, hI, h0, h1⟩ := h
  obtain ⟨v, q', sd', hf, b0, b1⟩ := among_tot hc q sd l hl.1 h0 (by omega)
  exact (spec_l1Cur_among.calls g code q sd _ c l v q' sd' w0 w hI hK.1 (row_of_blk (hK.2.2 _ List.mem_cons_self).2 hl.2 he) hcl (fun ad had _ => by cases had; exact hne _ List.mem_cons_self) hf).mono fun e w' ⟨he, hi, hb, hk⟩ => ⟨v, he, KS.call ⟨hK, hne, q, sd, hI, h0, h1⟩ hi hb hk (by omega) (by omega)⟩
theorem KS.drop {w0 w : World} {bs : List (Nat × Array Value × Nat)} {b : Nat × Array Value × Nat} {g : Nat} {code : List Int} {N : Int} (h : KS w0 (b :: bs) g code N w) : KS w0 bs g code N w := ⟨h.1.sub, fun x hx => h.2.1 x (List.mem_cons_of_mem _ hx), h.2.2⟩
theorem ret1 {n t2 : Nat} {s : Sl} {a : Act} {w w0 : World} {fn : Func} {u : Int} (hf : fn.results = #[.tmp t2]) (ha : Sim n s a) (h2 : s t2 = some (.int .i64 u)) (hB : Below w0.heap.size w0 w) :
    bodyPost Try.prog fn (fun e w' => ∃ i : Int, e = .returned (.int .i64 i) ∧ Below w0.heap.size w0 w') .ret a w := by
  refine bodyPost_ret (v := .int .i64 u) ?_ ha.1 ⟨u, rfl, hB⟩
  rw [results_tmp hf, Sim.getD ha h2]
theorem ret2 {n t2 t3 : Nat} {s : Sl} {a : Act} {w w0 : World} {fn : Func} {u v : Int} (hf : fn.results = #[.tmp t2, .tmp t3]) (ha : Sim n s a) (h2 : s t2 = some (.int .i64 u)) (h3 : s t3 = some (.int .i64 v)) (hB : Below w0.heap.size w0 w) :
    bodyPost Try.prog fn (fun e w' => ∃ i : Int × Int, e = .returned (.tuple #[.int .i64 i.1, .int .i64 i.2]) ∧ Below w0.heap.size w0 w') .ret a w := by
  refine bodyPost_ret (v := .tuple #[.int .i64 u, .int .i64 v]) ?_ ha.1 ⟨(u, v), rfl, hB⟩
  rw [results_tmp2 hf, Sim.getD ha h2, Sim.getD ha h3]
theorem ret4 {n t2 t3 t4 t5 : Nat} {s : Sl} {a : Act} {w w0 : World} {fn : Func} {u v x y : Int} (hf : fn.results = #[.tmp t2, .tmp t3, .tmp t4, .tmp t5]) (ha : Sim n s a) (h2 : s t2 = some (.int .i64 u)) (h3 : s t3 = some (.int .i64 v)) (h4 : s t4 = some (.int .i64 x)) (h5 : s t5 = some (.int .i64 y)) (hB : Below w0.heap.size w0 w) :
    bodyPost Try.prog fn (fun e w' => ∃ i : Int × Int × Int × Int, e = .returned (.tuple #[.int .i64 i.1, .int .i64 i.2.1, .int .i64 i.2.2.1, .int .i64 i.2.2.2]) ∧ Below w0.heap.size w0 w') .ret a w := by
  have x5 := Vals.tmp (P := Try.prog) (u := t5) (Vals.nil (tmps := a.tmps) (w := w))
  rw [Sim.getD ha h5] at x5
  have x4 := Vals.tmp (u := t4) x5
  rw [Sim.getD ha h4] at x4
  have x3 := Vals.tmp (u := t3) x4
  rw [Sim.getD ha h3] at x3
  have x2 := Vals.tmp (u := t2) x3
  rw [Sim.getD ha h2] at x2
  exact bodyPost_ret (results_list (rs := [.tmp t2, .tmp t3, .tmp t4, .tmp t5]) hf (by simp) x2) ha.1 ⟨(u, v, x, y), rfl, hB⟩
theorem l1LeastX {w0 : World} {bs : List (Nat × Array Value × Nat)} {g : Nat} {code : List Int} {N : Int} (a b : Int) (w : World) (h : KS w0 bs g code N w) : Calls Try.prog 36 #[.int .i64 a, .int .i64 b] w fun e w' => ∃ i : Int, e = .returned (.int .i64 i) ∧ KS w0 bs g code N w' := by
  obtain ⟨r, hr⟩ : ∃ r, spec_l1Least.f a b = some r := by unfold spec_l1Least.f; split <;> exact ⟨_, rfl⟩
  exact (spec_l1Least.calls a b r w hr).mono fun e w' ⟨he, hb⟩ => ⟨r, he, h.below hb.below⟩
theorem l1MostX {w0 : World} {bs : List (Nat × Array Value × Nat)} {g : Nat} {code : List Int} {N : Int} (a b : Int) (w : World) (h : KS w0 bs g code N w) : Calls Try.prog 37 #[.int .i64 a, .int .i64 b] w fun e w' => ∃ i : Int, e = .returned (.int .i64 i) ∧ KS w0 bs g code N w' := by
  obtain ⟨r, hr⟩ : ∃ r, spec_l1Most.f a b = some r := by unfold spec_l1Most.f; split <;> exact ⟨_, rfl⟩
  exact (spec_l1Most.calls a b r w hr).mono fun e w' ⟨he, hb⟩ => ⟨r, he, h.below hb.below⟩
theorem bs0 (w : World) : (Instr.buildSlice 26 8 #[(0, .int .i64 1), (1, .int .i64 1), (2, .int .i64 2), (3, .int .i64 3), (4, .int .i64 7), (5, .int .i64 1000), (6, .int .i64 1001), (7, .int .i64 0)]).run Try.prog w = .ok (.slice (some ⟨w.heap.size, 0, none⟩) 8 8) (w.alloc (.cells #[.int .i64 1, .int .i64 1, .int .i64 2, .int .i64 3, .int .i64 7, .int .i64 1000, .int .i64 1001, .int .i64 0] 3)) := by
  have h := Try.underlying26
  go_simp
theorem bs1 (w : World) : (Instr.buildSlice 26 7 #[(0, .int .i64 0), (1, .int .i64 1), (2, .int .i64 3), (3, .int .i64 9), (4, .int .i64 50), (5, .int .i64 51), (6, .int .i64 (-1))]).run Try.prog w = .ok (.slice (some ⟨w.heap.size, 0, none⟩) 7 7) (w.alloc (.cells #[.int .i64 0, .int .i64 1, .int .i64 3, .int .i64 9, .int .i64 50, .int .i64 51, .int .i64 (-1)] 3)) := by
  have h := Try.underlying26
  go_simp
theorem bs2 (w : World) : (Instr.buildSlice 26 8 #[(0, .int .i64 1), (1, .int .i64 2), (2, .int .i64 3), (3, .int .i64 5), (4, .int .i64 10), (5, .int .i64 100), (6, .int .i64 101), (7, .int .i64 0)]).run Try.prog w = .ok (.slice (some ⟨w.heap.size, 0, none⟩) 8 8) (w.alloc (.cells #[.int .i64 1, .int .i64 2, .int .i64 3, .int .i64 5, .int .i64 10, .int .i64 100, .int .i64 101, .int .i64 0] 3)) := by
  have h := Try.underlying26
  go_simp
theorem bs3 (w : World) : (Instr.buildSlice 26 9 #[(0, .int .i64 1), (1, .int .i64 2), (2, .int .i64 3), (3, .int .i64 5), (4, .int .i64 6), (5, .int .i64 7), (6, .int .i64 60), (7, .int .i64 61), (8, .int .i64 0)]).run Try.prog w = .ok (.slice (some ⟨w.heap.size, 0, none⟩) 9 9) (w.alloc (.cells #[.int .i64 1, .int .i64 2, .int .i64 3, .int .i64 5, .int .i64 6, .int .i64 7, .int .i64 60, .int .i64 61, .int .i64 0] 3)) := by
  have h := Try.underlying26
  go_simp
theorem bs4 (w : World) : (Instr.buildSlice 26 3 #[(0, .int .i64 3), (1, .int .i64 5), (2, .int .i64 8)]).run Try.prog w = .ok (.slice (some ⟨w.heap.size, 0, none⟩) 3 3) (w.alloc (.cells #[.int .i64 3, .int .i64 5, .int .i64 8] 3)) := by
  have h := Try.underlying26
  go_simp
theorem bs5 (w : World) : (Instr.buildSlice 26 4 #[(0, .int .i64 12), (1, .int .i64 15), (2, .int .i64 17), (3, .int .i64 36)]).run Try.prog w = .ok (.slice (some ⟨w.heap.size, 0, none⟩) 4 4) (w.alloc (.cells #[.int .i64 12, .int .i64 15, .int .i64 17, .int .i64 36] 3)) := by
  have h := Try.underlying26
  go_simp
theorem bs6 (w : World) : (Instr.buildSlice 26 11 #[(0, .int .i64 1), (1, .int .i64 2), (2, .int .i64 3), (3, .int .i64 4), (4, .int .i64 6), (5, .int .i64 12), (6, .int .i64 30), (7, .int .i64 60), (8, .int .i64 61), (9, .int .i64 0), (10, .int .i64 (-1))]).run Try.prog w = .ok (.slice (some ⟨w.heap.size, 0, none⟩) 11 11) (w.alloc (.cells #[.int .i64 1, .int .i64 2, .int .i64 3, .int .i64 4, .int .i64 6, .int .i64 12, .int .i64 30, .int .i64 60, .int .i64 61, .int .i64 0, .int .i64 (-1)] 3)) := by
  have h := Try.underlying26
  go_simp
set_option maxRecDepth 100000 in
theorem drawSlipHeights {code : List Int} (hc : By code) (A0 : Option Addr) (c0 : Nat) (w0 : World) (hr : Kd.C (Kd.int .u8) w0 A0 code.length code) :
    Calls Try.prog 5 #[.slice A0 code.length c0] w0 fun e w' => ∃ i : Int × Int × Int × Int, e = .returned (.tuple #[.int .i64 i.1, .int .i64 i.2.1, .int .i64 i.2.2.1, .int .i64 i.2.2.2]) ∧ Below w0.heap.size w0 w' := by
  refine calls_start' (m := 30) (K w0 []) (K.nil w0) Try.func5 rfl Try.ntmps5 rfl (ofL [(0, .slice A0 code.length c0)]) (of_args _ _ rfl) ?_
  refine cw_seq (fun G1 h2 => ?_)
  refine cw_region ?_
  refine wl_op rfl rfl rfl (pv_assign rfl rfl) ?_
  refine wl_op rfl rfl rfl (pv_assign rfl rfl) ?_
  refine wl_op rfl rfl rfl (pv_assign rfl rfl) ?_
  refine wl_op rfl rfl rfl (pv_assign rfl rfl) ?_
  refine wl_end (s' := ofL [(0, .slice A0 code.length c0), (2, .int .i64 0), (3, .int .i64 0), (4, .int .i64 0), (5, .int .i64 0)]) (h2 _ _ ?_) (sub_cons rfl (sub_cons rfl (sub_cons rfl (sub_cons rfl (sub_cons rfl (sub_nil))))))
  refine cw_seq (fun G3 h4 => ?_)
  refine cw_region ?_
  refine wl_op rfl rfl rfl (pv_move rfl rfl) ?_
  refine wl_op rfl rfl rfl (pv_bld57 rfl rfl) ?_
  refine wl_boxC (fun g => KS w0 [] g code 0) rfl rfl rfl rfl rfl (box57 _ _ _) (fun w hw => KS.new hw hr) (fun g => ?_)
  refine wl_op rfl rfl rfl (pv_assign rfl rfl) ?_
  refine wl_end (s' := ofL [(2, .int .i64 0), (3, .int .i64 0), (4, .int .i64 0), (5, .int .i64 0), (6, .pointer (some ⟨g, 0, none⟩))]) (h4 _ _ ?_) (sub_cons rfl (sub_cons rfl (sub_cons rfl (sub_cons rfl (sub_cons rfl (sub_nil))))))
  refine cw_seq (fun G5 h6 => ?_)
  refine cw_region ?_
  refine wl_op rfl rfl rfl (pv_move rfl rfl) ?_
  refine wl_callX (fun i : Int => .int .i64 i) (fun _ => KS w0 [] g code (0 + 4)) rfl rfl rfl rfl rfl Try.func34 (by kernel_rfl) rfl (fun w hw => reachX hc (by omega) w hw) (fun v7 => ?_)
  refine wl_op rfl rfl rfl (pv_assign rfl rfl) ?_
  refine wl_end (s' := ofL [(2, .int .i64 0), (3, .int .i64 0), (4, .int .i64 0), (5, .int .i64 0), (6, .pointer (some ⟨g, 0, none⟩)), (7, .int .i64 v7)]) (h6 _ _ ?_) (sub_cons rfl (sub_cons rfl (sub_cons rfl (sub_cons rfl (sub_cons rfl (sub_cons rfl (sub_nil)))))))
  refine cw_seq (fun G8 h9 => ?_)
  refine cw_region ?_
  refine wl_op rfl rfl rfl (pv_move rfl rfl) ?_
  refine wl_op rfl rfl rfl (pv_move rfl rfl) ?_
  refine wl_op rfl rfl rfl (pv_move rfl rfl) ?_
  refine wl_callX (fun i : Int => .int .i64 i) (fun _ => KS w0 [] g code (0 + 4)) rfl rfl rfl rfl rfl Try.func37 (by kernel_rfl) rfl (fun w hw => l1MostX _ _ w hw) (fun v10 => ?_)
  refine wl_callX (fun i : Int => .int .i64 i) (fun _ => KS w0 [] g code (0 + 4)) rfl rfl rfl rfl rfl Try.func36 (by kernel_rfl) rfl (fun w hw => l1LeastX _ _ w hw) (fun v11 => ?_)
  refine wl_op rfl rfl rfl (pv_bin rfl rfl rfl (fun _ => b_add Try.underlying3)) ?_
  refine wl_callX (fun i : Int => .int .i64 i) (fun _ => KS w0 [] g code (0 + 4 + 2)) rfl rfl rfl rfl rfl Try.func35 (by kernel_rfl) rfl (fun w hw => pickX hc (by omega) (wrap64 (v11 + 1)) w hw) (fun v12 => ?_)
  refine wl_op rfl rfl rfl (pv_move rfl rfl) ?_
  refine wl_callX (fun i : Int => .int .i64 i) (fun _ => KS w0 [] g code (0 + 4 + 2 + 2)) rfl rfl rfl rfl rfl Try.func35 (by kernel_rfl) rfl (fun w hw => pickX hc (by omega) 16 w hw) (fun v13 => ?_)
  refine wl_op rfl rfl rfl (pv_bin rfl rfl rfl (fun _ => b_quo Try.underlying3 (by decide))) ?_
  refine wl_op rfl rfl rfl (pv_bin rfl rfl rfl (fun _ => b_sub Try.underlying3)) ?_
  refine wl_op rfl rfl rfl (pv_move rfl rfl) ?_
  refine wl_build (fun b => .slice (some ⟨b, 0, none⟩) 8 8) (fun b => KS w0 [(b, #[.int .i64 1, .int .i64 1, .int .i64 2, .int .i64 3, .int .i64 7, .int .i64 1000, .int .i64 1001, .int .i64 0], 3)] g code (0 + 4 + 2 + 2)) rfl rfl rfl rfl (fun _ => by first | rfl | simp [Act.eval]) (fun w hw => ⟨w.heap.size, _, bs0 w, KS.alloc hw _ _⟩) (fun b14 => ?_)
  refine wl_callX (fun i : Int => .int .i64 i) (fun _ => KS w0 [] g code (0 + 4 + 2 + 2 + 2)) rfl rfl rfl rfl rfl Try.func38 (by kernel_rfl) rfl (fun w hw => (amongX hc (by omega) b14 [1, 1, 2, 3, 7, 1000, 1001, 0] _ (by simp) rfl 8 (by simp) w hw).mono fun e w' ⟨i, he, h⟩ => ⟨i, he, h.drop⟩) (fun v15 => ?_)
  refine wl_op rfl rfl rfl (pv_move rfl rfl) ?_
  refine wl_build (fun b => .slice (some ⟨b, 0, none⟩) 7 7) (fun b => KS w0 [(b, #[.int .i64 0, .int .i64 1, .int .i64 3, .int .i64 9, .int .i64 50, .int .i64 51, .int .i64 (-1)], 3)] g code (0 + 4 + 2 + 2 + 2)) rfl rfl rfl rfl (fun _ => by first | rfl | simp [Act.eval]) (fun w hw => ⟨w.heap.size, _, bs1 w, KS.alloc hw _ _⟩) (fun b16 => ?_)
  refine wl_callX (fun i : Int => .int .i64 i) (fun _ => KS w0 [] g code (0 + 4 + 2 + 2 + 2 + 2)) rfl rfl rfl rfl rfl Try.func38 (by kernel_rfl) rfl (fun w hw => (amongX hc (by omega) b16 [0, 1, 3, 9, 50, 51, (-1)] _ (by simp) rfl 7 (by simp) w hw).mono fun e w' ⟨i, he, h⟩ => ⟨i, he, h.drop⟩) (fun v17 => ?_)
  refine wl_op rfl rfl rfl (pv_assign rfl rfl) ?_
  refine wl_op rfl rfl rfl (pv_assign rfl rfl) ?_
  refine wl_op rfl rfl rfl (pv_assign rfl rfl) ?_
  refine wl_op rfl rfl rfl (pv_assign rfl rfl) ?_
  refine wl_end (s' := ofL [(2, .int .i64 v7), (3, .int .i64 (wrap64 (v12 - (wrap64 (Int.tdiv v13 15))))), (4, .int .i64 v15), (5, .int .i64 v17)]) (h9 _ _ ?_) (sub_cons rfl (sub_cons rfl (sub_cons rfl (sub_cons rfl (sub_nil)))))
  exact cw_ret (fun a w ha hw => ret4 rfl ha rfl rfl rfl rfl hw.1.1)
set_option maxRecDepth 100000 in
theorem drawFootForHeight {code : List Int} (hc : By code) (A0 : Option Addr) (c0 : Nat) (w0 : World) (hr : Kd.C (Kd.int .u8) w0 A0 code.length code) :
    Calls Try.prog 11 #[.slice A0 code.length c0] w0 fun e w' => ∃ i : Int × Int, e = .returned (.tuple #[.int .i64 i.1, .int .i64 i.2]) ∧ Below w0.heap.size w0 w' := by
  refine calls_start' (m := 22) (K w0 []) (K.nil w0) Try.func11 rfl Try.ntmps11 rfl (ofL [(0, .slice A0 code.length c0)]) (of_args _ _ rfl) ?_
  refine cw_seq (fun G1 h2 => ?_)
  refine cw_region ?_
  refine wl_op rfl rfl rfl (pv_assign rfl rfl) ?_
  refine wl_op rfl rfl rfl (pv_assign rfl rfl) ?_
  refine wl_end (s' := ofL [(0, .slice A0 code.length c0), (2, .int .i64 0), (3, .int .i64 0)]) (h2 _ _ ?_) (sub_cons rfl (sub_cons rfl (sub_cons rfl (sub_nil))))
  refine cw_seq (fun G3 h4 => ?_)
  refine cw_region ?_
  refine wl_op rfl rfl rfl (pv_move rfl rfl) ?_
  refine wl_op rfl rfl rfl (pv_bld57 rfl rfl) ?_
  refine wl_boxC (fun g => KS w0 [] g code 0) rfl rfl rfl rfl rfl (box57 _ _ _) (fun w hw => KS.new hw hr) (fun g => ?_)
  refine wl_op rfl rfl rfl (pv_assign rfl rfl) ?_
  refine wl_end (s' := ofL [(2, .int .i64 0), (3, .int .i64 0), (4, .pointer (some ⟨g, 0, none⟩))]) (h4 _ _ ?_) (sub_cons rfl (sub_cons rfl (sub_cons rfl (sub_nil))))
  refine cw_seq (fun G5 h6 => ?_)
  refine cw_region ?_
  refine wl_op rfl rfl rfl (pv_move rfl rfl) ?_
  refine wl_callX (fun i : Int => .int .i64 i) (fun _ => KS w0 [] g code (0 + 4)) rfl rfl rfl rfl rfl Try.func34 (by kernel_rfl) rfl (fun w hw => reachX hc (by omega) w hw) (fun v7 => ?_)
  refine wl_op rfl rfl rfl (pv_assign rfl rfl) ?_
  refine wl_end (s' := ofL [(2, .int .i64 0), (3, .int .i64 0), (4, .pointer (some ⟨g, 0, none⟩)), (5, .int .i64 v7)]) (h6 _ _ ?_) (sub_cons rfl (sub_cons rfl (sub_cons rfl (sub_cons rfl (sub_nil)))))
  refine cw_seq (fun G8 h9 => ?_)
  refine cw_region ?_
  refine wl_op rfl rfl rfl (pv_move rfl rfl) ?_
  refine wl_op rfl rfl rfl (pv_move rfl rfl) ?_
  refine wl_op rfl rfl rfl (pv_move rfl rfl) ?_
  refine wl_callX (fun i : Int => .int .i64 i) (fun _ => KS w0 [] g code (0 + 4)) rfl rfl rfl rfl rfl Try.func37 (by kernel_rfl) rfl (fun w hw => l1MostX _ _ w hw) (fun v10 => ?_)
  refine wl_callX (fun i : Int => .int .i64 i) (fun _ => KS w0 [] g code (0 + 4)) rfl rfl rfl rfl rfl Try.func36 (by kernel_rfl) rfl (fun w hw => l1LeastX _ _ w hw) (fun v11 => ?_)
  refine wl_op rfl rfl rfl (pv_bin rfl rfl rfl (fun _ => b_add Try.underlying3)) ?_
  refine wl_callX (fun i : Int => .int .i64 i) (fun _ => KS w0 [] g code (0 + 4 + 2)) rfl rfl rfl rfl rfl Try.func35 (by kernel_rfl) rfl (fun w hw => pickX hc (by omega) (wrap64 (v11 + 2)) w hw) (fun v12 => ?_)
  refine wl_op rfl rfl rfl (pv_move rfl rfl) ?_
  refine wl_callX (fun i : Int => .int .i64 i) (fun _ => KS w0 [] g code (0 + 4 + 2 + 2)) rfl rfl rfl rfl rfl Try.func35 (by kernel_rfl) rfl (fun w hw => pickX hc (by omega) 16 w hw) (fun v13 => ?_)
  refine wl_op rfl rfl rfl (pv_bin rfl rfl rfl (fun _ => b_quo Try.underlying3 (by decide))) ?_
  refine wl_op rfl rfl rfl (pv_bin rfl rfl rfl (fun _ => b_sub Try.underlying3)) ?_
  refine wl_op rfl rfl rfl (pv_assign rfl rfl) ?_
  refine wl_op rfl rfl rfl (pv_assign rfl rfl) ?_
  refine wl_end (s' := ofL [(2, .int .i64 v7), (3, .int .i64 (wrap64 (v12 - (wrap64 (Int.tdiv v13 15)))))]) (h9 _ _ ?_) (sub_cons rfl (sub_cons rfl (sub_nil)))
  exact cw_ret (fun a w ha hw => ret2 rfl ha rfl rfl hw.1.1)
set_option maxRecDepth 100000 in
theorem drawMiddleOf {code : List Int} (hc : By code) (A0 : Option Addr) (c0 : Nat) (w0 : World) (hr : Kd.C (Kd.int .u8) w0 A0 code.length code) :
    Calls Try.prog 14 #[.slice A0 code.length c0] w0 fun e w' => ∃ i : Int × Int, e = .returned (.tuple #[.int .i64 i.1, .int .i64 i.2]) ∧ Below w0.heap.size w0 w' := by
  refine calls_start' (m := 12) (K w0 []) (K.nil w0) Try.func14 rfl Try.ntmps14 rfl (ofL [(0, .slice A0 code.length c0)]) (of_args _ _ rfl) ?_
  refine cw_seq (fun G1 h2 => ?_)
  refine cw_region ?_
  refine wl_op rfl rfl rfl (pv_assign rfl rfl) ?_
  refine wl_op rfl rfl rfl (pv_assign rfl rfl) ?_
  refine wl_end (s' := ofL [(0, .slice A0 code.length c0), (2, .int .i64 0), (3, .int .i64 0)]) (h2 _ _ ?_) (sub_cons rfl (sub_cons rfl (sub_cons rfl (sub_nil))))
  refine cw_seq (fun G3 h4 => ?_)
  refine cw_region ?_
  refine wl_op rfl rfl rfl (pv_move rfl rfl) ?_
  refine wl_op rfl rfl rfl (pv_bld57 rfl rfl) ?_
  refine wl_boxC (fun g => KS w0 [] g code 0) rfl rfl rfl rfl rfl (box57 _ _ _) (fun w hw => KS.new hw hr) (fun g => ?_)
  refine wl_op rfl rfl rfl (pv_assign rfl rfl) ?_
  refine wl_end (s' := ofL [(2, .int .i64 0), (3, .int .i64 0), (4, .pointer (some ⟨g, 0, none⟩))]) (h4 _ _ ?_) (sub_cons rfl (sub_cons rfl (sub_cons rfl (sub_nil))))
  refine cw_seq (fun G5 h6 => ?_)
  refine cw_region ?_
  refine wl_op rfl rfl rfl (pv_move rfl rfl) ?_
  refine wl_callX (fun i : Int => .int .i64 i) (fun _ => KS w0 [] g code (0 + 4)) rfl rfl rfl rfl rfl Try.func34 (by kernel_rfl) rfl (fun w hw => reachX hc (by omega) w hw) (fun v7 => ?_)
  refine wl_op rfl rfl rfl (pv_move rfl rfl) ?_
  refine wl_callX (fun i : Int => .int .i64 i) (fun _ => KS w0 [] g code (0 + 4 + 4)) rfl rfl rfl rfl rfl Try.func34 (by kernel_rfl) rfl (fun w hw => reachX hc (by omega) w hw) (fun v8 => ?_)
  refine wl_op rfl rfl rfl (pv_assign rfl rfl) ?_
  refine wl_op rfl rfl rfl (pv_assign rfl rfl) ?_
  refine wl_end (s' := ofL [(2, .int .i64 v7), (3, .int .i64 v8)]) (h6 _ _ ?_) (sub_cons rfl (sub_cons rfl (sub_nil)))
  exact cw_ret (fun a w ha hw => ret2 rfl ha rfl rfl hw.1.1)
set_option maxRecDepth 100000 in
theorem drawPartOfLadder {code : List Int} (hc : By code) (A0 : Option Addr) (c0 : Nat) (w0 : World) (hr : Kd.C (Kd.int .u8) w0 A0 code.length code) :
    Calls Try.prog 17 #[.slice A0 code.length c0] w0 fun e w' => ∃ i : Int × Int × Int × Int, e = .returned (.tuple #[.int .i64 i.1, .int .i64 i.2.1, .int .i64 i.2.2.1, .int .i64 i.2.2.2]) ∧ Below w0.heap.size w0 w' := by
  refine calls_start' (m := 25) (K w0 []) (K.nil w0) Try.func17 rfl Try.ntmps17 rfl (ofL [(0, .slice A0 code.length c0)]) (of_args _ _ rfl) ?_
  refine cw_seq (fun G1 h2 => ?_)
  refine cw_region ?_
  refine wl_op rfl rfl rfl (pv_assign rfl rfl) ?_
  refine wl_op rfl rfl rfl (pv_assign rfl rfl) ?_
  refine wl_op rfl rfl rfl (pv_assign rfl rfl) ?_
  refine wl_op rfl rfl rfl (pv_assign rfl rfl) ?_
  refine wl_end (s' := ofL [(0, .slice A0 code.length c0), (2, .int .i64 0), (3, .int .i64 0), (4, .int .i64 0), (5, .int .i64 0)]) (h2 _ _ ?_) (sub_cons rfl (sub_cons rfl (sub_cons rfl (sub_cons rfl (sub_cons rfl (sub_nil))))))
  refine cw_seq (fun G3 h4 => ?_)
  refine cw_region ?_
  refine wl_op rfl rfl rfl (pv_move rfl rfl) ?_
  refine wl_op rfl rfl rfl (pv_bld57 rfl rfl) ?_
  refine wl_boxC (fun g => KS w0 [] g code 0) rfl rfl rfl rfl rfl (box57 _ _ _) (fun w hw => KS.new hw hr) (fun g => ?_)
  refine wl_op rfl rfl rfl (pv_assign rfl rfl) ?_
  refine wl_end (s' := ofL [(2, .int .i64 0), (3, .int .i64 0), (4, .int .i64 0), (5, .int .i64 0), (6, .pointer (some ⟨g, 0, none⟩))]) (h4 _ _ ?_) (sub_cons rfl (sub_cons rfl (sub_cons rfl (sub_cons rfl (sub_cons rfl (sub_nil))))))
  refine cw_seq (fun G5 h6 => ?_)
  refine cw_region ?_
  refine wl_op rfl rfl rfl (pv_move rfl rfl) ?_
  refine wl_build (fun b => .slice (some ⟨b, 0, none⟩) 8 8) (fun b => KS w0 [(b, #[.int .i64 1, .int .i64 2, .int .i64 3, .int .i64 5, .int .i64 10, .int .i64 100, .int .i64 101, .int .i64 0], 3)] g code (0)) rfl rfl rfl rfl (fun _ => by first | rfl | simp [Act.eval]) (fun w hw => ⟨w.heap.size, _, bs2 w, KS.alloc hw _ _⟩) (fun b7 => ?_)
  refine wl_callX (fun i : Int => .int .i64 i) (fun _ => KS w0 [] g code (0 + 2)) rfl rfl rfl rfl rfl Try.func38 (by kernel_rfl) rfl (fun w hw => (amongX hc (by omega) b7 [1, 2, 3, 5, 10, 100, 101, 0] _ (by simp) rfl 8 (by simp) w hw).mono fun e w' ⟨i, he, h⟩ => ⟨i, he, h.drop⟩) (fun v8 => ?_)
  refine wl_op rfl rfl rfl (pv_assign rfl rfl) ?_
  refine wl_end (s' := ofL [(2, .int .i64 0), (3, .int .i64 0), (4, .int .i64 0), (5, .int .i64 0), (6, .pointer (some ⟨g, 0, none⟩)), (7, .int .i64 v8)]) (h6 _ _ ?_) (sub_cons rfl (sub_cons rfl (sub_cons rfl (sub_cons rfl (sub_cons rfl (sub_cons rfl (sub_nil)))))))
  refine cw_seq (fun G9 h10 => ?_)
  refine cw_region ?_
  refine wl_op rfl rfl rfl (pv_move rfl rfl) ?_
  refine wl_callX (fun i : Int => .int .i64 i) (fun _ => KS w0 [] g code (0 + 2 + 4)) rfl rfl rfl rfl rfl Try.func34 (by kernel_rfl) rfl (fun w hw => reachX hc (by omega) w hw) (fun v11 => ?_)
  refine wl_op rfl rfl rfl (pv_move rfl rfl) ?_
  refine wl_callX (fun i : Int => .int .i64 i) (fun _ => KS w0 [] g code (0 + 2 + 4 + 4)) rfl rfl rfl rfl rfl Try.func34 (by kernel_rfl) rfl (fun w hw => reachX hc (by omega) w hw) (fun v12 => ?_)
  refine wl_op rfl rfl rfl (pv_move rfl rfl) ?_
  refine wl_callX (fun i : Int => .int .i64 i) (fun _ => KS w0 [] g code (0 + 2 + 4 + 4 + 2)) rfl rfl rfl rfl rfl Try.func35 (by kernel_rfl) rfl (fun w hw => pickX hc (by omega) 6 w hw) (fun v13 => ?_)
  refine wl_op rfl rfl rfl (pv_move rfl rfl) ?_
  refine wl_callX (fun i : Int => .int .i64 i) (fun _ => KS w0 [] g code (0 + 2 + 4 + 4 + 2 + 2)) rfl rfl rfl rfl rfl Try.func35 (by kernel_rfl) rfl (fun w hw => pickX hc (by omega) 9 w hw) (fun v14 => ?_)
  refine wl_op rfl rfl rfl (pv_bin rfl rfl rfl (fun _ => b_quo Try.underlying3 (by decide))) ?_
  refine wl_op rfl rfl rfl (pv_bin rfl rfl rfl (fun _ => b_sub Try.underlying3)) ?_
  refine wl_op rfl rfl rfl (pv_move rfl rfl) ?_
  refine wl_op rfl rfl rfl (pv_assign rfl rfl) ?_
  refine wl_op rfl rfl rfl (pv_assign rfl rfl) ?_
  refine wl_op rfl rfl rfl (pv_assign rfl rfl) ?_
  refine wl_op rfl rfl rfl (pv_assign rfl rfl) ?_
  refine wl_end (s' := ofL [(2, .int .i64 v11), (3, .int .i64 v12), (4, .int .i64 (wrap64 (v13 - (wrap64 (Int.tdiv v14 8))))), (5, .int .i64 v8)]) (h10 _ _ ?_) (sub_cons rfl (sub_cons rfl (sub_cons rfl (sub_cons rfl (sub_nil)))))
  exact cw_ret (fun a w ha hw => ret4 rfl ha rfl rfl rfl rfl hw.1.1)
set_option maxRecDepth 100000 in
theorem drawCountSquareLeans {code : List Int} (hc : By code) (A0 : Option Addr) (c0 : Nat) (w0 : World) (hr : Kd.C (Kd.int .u8) w0 A0 code.length code) :
    Calls Try.prog 50 #[.slice A0 code.length c0] w0 fun e w' => ∃ i : Int × Int, e = .returned (.tuple #[.int .i64 i.1, .int .i64 i.2]) ∧ Below w0.heap.size w0 w' := by
  refine calls_start' (m := 13) (K w0 []) (K.nil w0) Try.func50 rfl Try.ntmps50 rfl (ofL [(0, .slice A0 code.length c0)]) (of_args _ _ rfl) ?_
  refine cw_seq (fun G1 h2 => ?_)
  refine cw_region ?_
  refine wl_op rfl rfl rfl (pv_assign rfl rfl) ?_
  refine wl_op rfl rfl rfl (pv_assign rfl rfl) ?_
  refine wl_end (s' := ofL [(0, .slice A0 code.length c0), (2, .int .i64 0), (3, .int .i64 0)]) (h2 _ _ ?_) (sub_cons rfl (sub_cons rfl (sub_cons rfl (sub_nil))))
  refine cw_seq (fun G3 h4 => ?_)
  refine cw_region ?_
  refine wl_op rfl rfl rfl (pv_move rfl rfl) ?_
  refine wl_op rfl rfl rfl (pv_bld57 rfl rfl) ?_
  refine wl_boxC (fun g => KS w0 [] g code 0) rfl rfl rfl rfl rfl (box57 _ _ _) (fun w hw => KS.new hw hr) (fun g => ?_)
  refine wl_op rfl rfl rfl (pv_assign rfl rfl) ?_
  refine wl_end (s' := ofL [(2, .int .i64 0), (3, .int .i64 0), (4, .pointer (some ⟨g, 0, none⟩))]) (h4 _ _ ?_) (sub_cons rfl (sub_cons rfl (sub_cons rfl (sub_nil))))
  refine cw_seq (fun G5 h6 => ?_)
  refine cw_region ?_
  refine wl_op rfl rfl rfl (pv_move rfl rfl) ?_
  refine wl_build (fun b => .slice (some ⟨b, 0, none⟩) 9 9) (fun b => KS w0 [(b, #[.int .i64 1, .int .i64 2, .int .i64 3, .int .i64 5, .int .i64 6, .int .i64 7, .int .i64 60, .int .i64 61, .int .i64 0], 3)] g code (0)) rfl rfl rfl rfl (fun _ => by first | rfl | simp [Act.eval]) (fun w hw => ⟨w.heap.size, _, bs3 w, KS.alloc hw _ _⟩) (fun b7 => ?_)
  refine wl_callX (fun i : Int => .int .i64 i) (fun _ => KS w0 [] g code (0 + 2)) rfl rfl rfl rfl rfl Try.func38 (by kernel_rfl) rfl (fun w hw => (amongX hc (by omega) b7 [1, 2, 3, 5, 6, 7, 60, 61, 0] _ (by simp) rfl 9 (by simp) w hw).mono fun e w' ⟨i, he, h⟩ => ⟨i, he, h.drop⟩) (fun v8 => ?_)
  refine wl_op rfl rfl rfl (pv_move rfl rfl) ?_
  refine wl_callX (fun i : Int => .int .i64 i) (fun _ => KS w0 [] g code (0 + 2 + 4)) rfl rfl rfl rfl rfl Try.func34 (by kernel_rfl) rfl (fun w hw => reachX hc (by omega) w hw) (fun v9 => ?_)
  refine wl_op rfl rfl rfl (pv_assign rfl rfl) ?_
  refine wl_op rfl rfl rfl (pv_assign rfl rfl) ?_
  refine wl_end (s' := ofL [(2, .int .i64 v8), (3, .int .i64 v9)]) (h6 _ _ ?_) (sub_cons rfl (sub_cons rfl (sub_nil)))
  exact cw_ret (fun a w ha hw => ret2 rfl ha rfl rfl hw.1.1)
set_option maxRecDepth 100000 in
theorem drawSquareLeanSum {code : List Int} (hc : By code) (A0 : Option Addr) (c0 : Nat) (w0 : World) (hr : Kd.C (Kd.int .u8) w0 A0 code.length code) :
    Calls Try.prog 20 #[.slice A0 code.length c0] w0 fun e w' => ∃ i : Int × Int, e = .returned (.tuple #[.int .i64 i.1, .int .i64 i.2]) ∧ Below w0.heap.size w0 w' := by
  refine calls_start' (m := 28) (K w0 []) (K.nil w0) Try.func20 rfl Try.ntmps20 rfl (ofL [(0, .slice A0 code.length c0)]) (of_args _ _ rfl) ?_
  refine cw_seq (fun G1 h2 => ?_)
  refine cw_region ?_
  refine wl_op rfl rfl rfl (pv_assign rfl rfl) ?_
  refine wl_op rfl rfl rfl (pv_assign rfl rfl) ?_
  refine wl_end (s' := ofL [(0, .slice A0 code.length c0), (2, .int .i64 0), (3, .int .i64 0)]) (h2 _ _ ?_) (sub_cons rfl (sub_cons rfl (sub_cons rfl (sub_nil))))
  refine cw_seq (fun G3 h4 => ?_)
  refine cw_region ?_
  refine wl_op rfl rfl rfl (pv_move rfl rfl) ?_
  refine wl_op rfl rfl rfl (pv_bld57 rfl rfl) ?_
  refine wl_boxC (fun g => KS w0 [] g code 0) rfl rfl rfl rfl rfl (box57 _ _ _) (fun w hw => KS.new hw hr) (fun g => ?_)
  refine wl_op rfl rfl rfl (pv_assign rfl rfl) ?_
  refine wl_end (s' := ofL [(0, .slice A0 code.length c0), (2, .int .i64 0), (3, .int .i64 0), (4, .pointer (some ⟨g, 0, none⟩))]) (h4 _ _ ?_) (sub_cons rfl (sub_cons rfl (sub_cons rfl (sub_cons rfl (sub_nil)))))
  refine cw_seq (fun G5 h6 => ?_)
  refine cw_seq (fun G7 h8 => ?_)
  refine cw_region ?_
  refine wl_op rfl rfl rfl (pv_move rfl rfl) ?_
  refine wl_callX (fun i : Bool => .bool i) (fun _ => KS w0 [] g code (0 + 2)) rfl rfl rfl rfl rfl Try.func49 (by kernel_rfl) rfl (fun w hw => oneX hc (by omega) 4 w hw) (fun v9 => ?_)
  refine wl_end (s' := ofL [(0, .slice A0 code.length c0), (2, .int .i64 0), (3, .int .i64 0), (4, .pointer (some ⟨g, 0, none⟩)), (10, .bool v9)]) (h8 _ _ ?_) (sub_cons rfl (sub_cons rfl (sub_cons rfl (sub_cons rfl (sub_cons rfl (sub_nil))))))
  refine cw_cond (b := v9) rfl (fun hb10 => ?_) (fun hb10 => ?_)
  ·
    refine cw_seq (fun G11 h12 => ?_)
    refine cw_region ?_
    refine wl_op rfl rfl rfl (pv_move rfl rfl) ?_
    refine wl_callX (fun i : Int => .int .i64 i) (fun _ => KS w0 [] g code (0 + 2 + 2)) rfl rfl rfl rfl rfl Try.func35 (by kernel_rfl) rfl (fun w hw => pickX hc (by omega) 9 w hw) (fun v13 => ?_)
    refine wl_op rfl rfl rfl (pv_bin rfl rfl rfl (fun _ => b_add Try.underlying3)) ?_
    refine wl_op rfl rfl rfl (pv_assign rfl rfl) ?_
    refine wl_end (s' := ofL [(0, .slice A0 code.length c0), (2, .int .i64 0), (3, .int .i64 0), (4, .pointer (some ⟨g, 0, none⟩)), (5, .int .i64 (wrap64 (1 + v13)))]) (h12 _ _ ?_) (sub_cons rfl (sub_cons rfl (sub_cons rfl (sub_cons rfl (sub_cons rfl (sub_nil))))))
    refine cw_seq (fun G14 h15 => ?_)
    refine cw_region ?_
    refine wl_op rfl rfl rfl (pv_move rfl rfl) ?_
    refine wl_build (fun b => .slice (some ⟨b, 0, none⟩) 3 3) (fun b => KS w0 [(b, #[.int .i64 3, .int .i64 5, .int .i64 8], 3)] g code (0 + 2 + 2)) rfl rfl rfl rfl (fun _ => by first | rfl | simp [Act.eval]) (fun w hw => ⟨w.heap.size, _, bs4 w, KS.alloc hw _ _⟩) (fun b16 => ?_)
    refine wl_callX (fun i : Int => .int .i64 i) (fun _ => KS w0 [] g code (0 + 2 + 2 + 2)) rfl rfl rfl rfl rfl Try.func38 (by kernel_rfl) rfl (fun w hw => (amongX hc (by omega) b16 [3, 5, 8] _ (by simp) rfl 3 (by simp) w hw).mono fun e w' ⟨i, he, h⟩ => ⟨i, he, h.drop⟩) (fun v17 => ?_)
    refine wl_op rfl rfl rfl (pv_move rfl rfl) ?_
    refine wl_op rfl rfl rfl (pv_bin rfl rfl rfl (fun _ => b_mul Try.underlying3)) ?_
    refine wl_op rfl rfl rfl (pv_move rfl rfl) ?_
    refine wl_build (fun b => .slice (some ⟨b, 0, none⟩) 4 4) (fun b => KS w0 [(b, #[.int .i64 12, .int .i64 15, .int .i64 17, .int .i64 36], 3)] g code (0 + 2 + 2 + 2)) rfl rfl rfl rfl (fun _ => by first | rfl | simp [Act.eval]) (fun w hw => ⟨w.heap.size, _, bs5 w, KS.alloc hw _ _⟩) (fun b18 => ?_)
    refine wl_callX (fun i : Int => .int .i64 i) (fun _ => KS w0 [] g code (0 + 2 + 2 + 2 + 2)) rfl rfl rfl rfl rfl Try.func38 (by kernel_rfl) rfl (fun w hw => (amongX hc (by omega) b18 [12, 15, 17, 36] _ (by simp) rfl 4 (by simp) w hw).mono fun e w' ⟨i, he, h⟩ => ⟨i, he, h.drop⟩) (fun v19 => ?_)
    refine wl_op rfl rfl rfl (pv_move rfl rfl) ?_
    refine wl_op rfl rfl rfl (pv_bin rfl rfl rfl (fun _ => b_mul Try.underlying3)) ?_
    refine wl_op rfl rfl rfl (pv_assign rfl rfl) ?_
    refine wl_op rfl rfl rfl (pv_assign rfl rfl) ?_
    refine wl_end (s' := ofL [(0, .slice A0 code.length c0), (2, .int .i64 (wrap64 (v17 * (wrap64 (1 + v13))))), (3, .int .i64 (wrap64 (v19 * (wrap64 (1 + v13)))))]) (h15 _ _ ?_) (sub_cons rfl (sub_cons rfl (sub_cons rfl (sub_nil))))
    exact cw_ret (fun a w ha hw => ret2 rfl ha rfl rfl hw.1.1)
  ·
    refine cw_skip (GS.sub (s' := ofL [(0, .slice A0 code.length c0), (2, .int .i64 0), (3, .int .i64 0)]) (h6 _ _ ?_) (sub_cons rfl (sub_cons rfl (sub_cons rfl (sub_nil)))))
    refine cw_seq (fun G20 h21 => ?_)
    refine cw_region ?_
    refine wl_op rfl rfl rfl (pv_move rfl rfl) ?_
    refine wl_callX (fun i : Int × Int => .tuple #[.int .i64 i.1, .int .i64 i.2]) (fun _ => KS w0 [] g code (0 + 2)) rfl rfl rfl rfl rfl Try.func50 (by kernel_rfl) rfl (fun w hw => (drawCountSquareLeans hc A0 c0 w (Kd.C_below hr hw.1.1)).mono fun e w' ⟨i, he, hb⟩ => ⟨i, he, hw.below hb⟩) (fun v22 => ?_)
    refine wl_op rfl rfl rfl (pv_extract rfl rfl rfl) ?_
    refine wl_op rfl rfl rfl (pv_extract rfl rfl rfl) ?_
    refine wl_op rfl rfl rfl (pv_assign rfl rfl) ?_
    refine wl_op rfl rfl rfl (pv_assign rfl rfl) ?_
    refine wl_end (s' := ofL [(2, .int .i64 v22.1), (3, .int .i64 v22.2)]) (h21 _ _ ?_) (sub_cons rfl (sub_cons rfl (sub_nil)))
    exact cw_ret (fun a w ha hw => ret2 rfl ha rfl rfl hw.1.1)
set_option maxRecDepth 100000 in
theorem drawGreatestSquareBox {code : List Int} (hc : By code) (A0 : Option Addr) (c0 : Nat) (w0 : World) (hr : Kd.C (Kd.int .u8) w0 A0 code.length code) :
    Calls Try.prog 25 #[.slice A0 code.length c0] w0 fun e w' => ∃ i : Int, e = .returned (.int .i64 i) ∧ Below w0.heap.size w0 w' := by
  refine calls_start' (m := 9) (K w0 []) (K.nil w0) Try.func25 rfl Try.ntmps25 rfl (ofL [(0, .slice A0 code.length c0)]) (of_args _ _ rfl) ?_
  refine cw_seq (fun G1 h2 => ?_)
  refine cw_region ?_
  refine wl_op rfl rfl rfl (pv_assign rfl rfl) ?_
  refine wl_end (s' := ofL [(0, .slice A0 code.length c0), (2, .int .i64 0)]) (h2 _ _ ?_) (sub_cons rfl (sub_cons rfl (sub_nil)))
  refine cw_seq (fun G3 h4 => ?_)
  refine cw_region ?_
  refine wl_op rfl rfl rfl (pv_move rfl rfl) ?_
  refine wl_op rfl rfl rfl (pv_bld57 rfl rfl) ?_
  refine wl_boxC (fun g => KS w0 [] g code 0) rfl rfl rfl rfl rfl (box57 _ _ _) (fun w hw => KS.new hw hr) (fun g => ?_)
  refine wl_op rfl rfl rfl (pv_assign rfl rfl) ?_
  refine wl_end (s' := ofL [(2, .int .i64 0), (3, .pointer (some ⟨g, 0, none⟩))]) (h4 _ _ ?_) (sub_cons rfl (sub_cons rfl (sub_nil)))
  refine cw_seq (fun G5 h6 => ?_)
  refine cw_region ?_
  refine wl_op rfl rfl rfl (pv_move rfl rfl) ?_
  refine wl_callX (fun i : Int => .int .i64 i) (fun _ => KS w0 [] g code (0 + 4)) rfl rfl rfl rfl rfl Try.func34 (by kernel_rfl) rfl (fun w hw => reachX hc (by omega) w hw) (fun v7 => ?_)
  refine wl_op rfl rfl rfl (pv_assign rfl rfl) ?_
  refine wl_end (s' := ofL [(2, .int .i64 v7)]) (h6 _ _ ?_) (sub_cons rfl (sub_nil))
  exact cw_ret (fun a w ha hw => ret1 rfl ha rfl hw.1.1)
set_option maxRecDepth 100000 in
theorem drawWholeSquareLeans {code : List Int} (hc : By code) (A0 : Option Addr) (c0 : Nat) (w0 : World) (hr : Kd.C (Kd.int .u8) w0 A0 code.length code) :
    Calls Try.prog 28 #[.slice A0 code.length c0] w0 fun e w' => ∃ i : Int, e = .returned (.int .i64 i) ∧ Below w0.heap.size w0 w' := by
  refine calls_start' (m := 10) (K w0 []) (K.nil w0) Try.func28 rfl Try.ntmps28 rfl (ofL [(0, .slice A0 code.length c0)]) (of_args _ _ rfl) ?_
  refine cw_seq (fun G1 h2 => ?_)
  refine cw_region ?_
  refine wl_op rfl rfl rfl (pv_assign rfl rfl) ?_
  refine wl_end (s' := ofL [(0, .slice A0 code.length c0), (2, .int .i64 0)]) (h2 _ _ ?_) (sub_cons rfl (sub_cons rfl (sub_nil)))
  refine cw_seq (fun G3 h4 => ?_)
  refine cw_region ?_
  refine wl_op rfl rfl rfl (pv_move rfl rfl) ?_
  refine wl_op rfl rfl rfl (pv_bld57 rfl rfl) ?_
  refine wl_boxC (fun g => KS w0 [] g code 0) rfl rfl rfl rfl rfl (box57 _ _ _) (fun w hw => KS.new hw hr) (fun g => ?_)
  refine wl_op rfl rfl rfl (pv_assign rfl rfl) ?_
  refine wl_end (s' := ofL [(2, .int .i64 0), (3, .pointer (some ⟨g, 0, none⟩))]) (h4 _ _ ?_) (sub_cons rfl (sub_cons rfl (sub_nil)))
  refine cw_seq (fun G5 h6 => ?_)
  refine cw_region ?_
  refine wl_op rfl rfl rfl (pv_move rfl rfl) ?_
  refine wl_build (fun b => .slice (some ⟨b, 0, none⟩) 11 11) (fun b => KS w0 [(b, #[.int .i64 1, .int .i64 2, .int .i64 3, .int .i64 4, .int .i64 6, .int .i64 12, .int .i64 30, .int .i64 60, .int .i64 61, .int .i64 0, .int .i64 (-1)], 3)] g code (0)) rfl rfl rfl rfl (fun _ => by first | rfl | simp [Act.eval]) (fun w hw => ⟨w.heap.size, _, bs6 w, KS.alloc hw _ _⟩) (fun b7 => ?_)
  refine wl_callX (fun i : Int => .int .i64 i) (fun _ => KS w0 [] g code (0 + 2)) rfl rfl rfl rfl rfl Try.func38 (by kernel_rfl) rfl (fun w hw => (amongX hc (by omega) b7 [1, 2, 3, 4, 6, 12, 30, 60, 61, 0, (-1)] _ (by simp) rfl 11 (by simp) w hw).mono fun e w' ⟨i, he, h⟩ => ⟨i, he, h.drop⟩) (fun v8 => ?_)
  refine wl_op rfl rfl rfl (pv_assign rfl rfl) ?_
  refine wl_end (s' := ofL [(2, .int .i64 v8)]) (h6 _ _ ?_) (sub_cons rfl (sub_nil))
  exact cw_ret (fun a w ha hw => ret1 rfl ha rfl hw.1.1)
end Go.Proofs.Ytlajkepgmmfbhaa.DwFnLaddersSlip
