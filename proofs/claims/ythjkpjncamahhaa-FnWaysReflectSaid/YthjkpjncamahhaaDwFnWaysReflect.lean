/- What is drawn out of bytes: each draw yields some numbers, and stays within its state. No condition. -/
import Derived.Test.YthjkpjncamahhaaQFnWaysReflectx0
import Derived.Test.YthjkpjncamahhaaQFnWaysReflectx1
import Derived.Test.YthjkpjncamahhaaQFnWaysReflectx2
import Derived.Test.YthjkpjncamahhaaQFnWaysReflectx3
import Derived.Test.YthjkpjncamahhaaQFnWaysReflectx4
import Derived.Test.YthjkpjncamahhaaDrw
import Derived.Laws.BitsLemmas
namespace Go.Proofs.Ythjkpjncamahhaa.DwFnWaysReflect
open Go Go.RowKit Go.Proofs.Ythjkpjncamahhaa.E Go.Proofs.Ythjkpjncamahhaa.PFnWaysReflect Go.Proofs.YthjkpjncamahhaaW.PrintWords Go.Proofs.YthjkpjncamahhaaW.PrintLast
set_option linter.unusedVariables false
def By (l : List Int) : Prop := ∀ x ∈ l, 0 ≤ x ∧ x ≤ 255
theorem wid {n : Int} (h : -9223372036854775808 ≤ n) (h' : n ≤ 9223372036854775807) : wrap64 n = n := by unfold wrap64; omega
theorem rd_by {l : List Int} (h : By l) {i : Int} (h0 : 0 ≤ i) (h1 : i < l.length) : 0 ≤ rd l i ∧ rd l i ≤ 255 := by
  unfold rd
  have hlt : i.toNat < l.length := by omega
  rw [List.getD_eq_getElem?_getD, List.getElem?_eq_getElem hlt]
  exact h _ (List.getElem_mem hlt)
theorem and255 (x : Int) : 0 ≤ Go.bits .and .u64 ((IntKind.u64.wrap x) / 1099511627776) 255 ∧ Go.bits .and .u64 ((IntKind.u64.wrap x) / 1099511627776) 255 ≤ 255 := by
  have hw : ∀ n : Int, IntKind.u64.wrap n = n % 18446744073709551616 := fun n => by simp [IntKind.wrap, IntKind.bits, IntKind.signed]
  have h := bits_mask .u64 32 (by decide) (fun n h0 h1 => by rw [hw]; omega) 8 (by decide) ((IntKind.u64.wrap x) / 1099511627776) (by rw [hw]; omega) (by rw [hw]; omega)
  rw [show ((2 : Int) ^ 8 - 1) = 255 by decide, show ((2 : Int) ^ 8) = 256 by decide] at h
  rw [h]
  omega
section
variable {code : List Int} (hc : By code)
include hc
theorem next_tot (q sd : Int) (h0 : 0 ≤ q) (h1 : q ≤ 1000000000) : ∃ v sd', spec_l1Cur_next.f code q sd = some (v, q + 1, sd') ∧ 0 ≤ v ∧ v ≤ 255 := by
  have e : wrap64 (q + 1) = q + 1 := wid (by omega) (by omega)
  unfold spec_l1Cur_next.f
  rw [e]
  by_cases c1 : q < (code.length : Int)
  · rw [if_pos c1, if_pos h0]
    have hb := rd_by hc h0 c1
    rw [wid (n := rd code q) (by omega) (by omega)]
    by_cases c2 : q + 1 ≤ (code.length : Int)
    · rw [if_pos c2]; exact ⟨_, _, rfl, hb.1, hb.2⟩
    · omega
  · rw [if_neg c1]
    by_cases c2 : q + 1 ≤ (code.length : Int)
    · omega
    · rw [if_neg c2]
      have hb := and255 (IntKind.u64.wrap (IntKind.u64.wrap (sd * 6364136223846793005) + 0) + 1442695040888963407)
      rw [wid (n := Go.bits .and .u64 _ 255) (by omega) (by omega)]
      exact ⟨_, _, rfl, hb.1, hb.2⟩
theorem pick_tot (q sd n : Int) (h0 : 0 ≤ q) (h1 : q ≤ 999999990) : ∃ v q' sd', spec_l1Cur_pick.f code q sd n = some (v, q', sd') ∧ 0 ≤ v ∧ (1 ≤ n → v < n) ∧ q ≤ q' ∧ q' ≤ q + 2 := by
  unfold spec_l1Cur_pick.f
  by_cases c1 : n ≤ 1
  · rw [if_pos c1]; exact ⟨_, _, _, rfl, by omega, by omega, by omega, by omega⟩
  · rw [if_neg c1]
    obtain ⟨v, s1, e1, b1, b2⟩ := next_tot hc q sd h0 (by omega)
    rw [e1]
    simp only [Option.bind_some]
    by_cases c2 : n > 200
    · rw [if_pos c2]
      obtain ⟨v2, s2, e2, b3, b4⟩ := next_tot hc (q + 1) s1 (by omega) (by omega)
      rw [e2]
      simp only [Option.bind_some]
      rw [if_neg (by omega), wid (n := v * 256) (by omega) (by omega), wid (n := v * 256 + v2) (by omega) (by omega), Int.tmod_eq_emod_of_nonneg (by omega)]
      exact ⟨_, _, _, rfl, Int.emod_nonneg _ (by omega), fun _ => Int.emod_lt_of_pos _ (by omega), by omega, by omega⟩
    · rw [if_neg c2, if_neg (by omega), Int.tmod_eq_emod_of_nonneg (by omega)]
      exact ⟨_, _, _, rfl, Int.emod_nonneg _ (by omega), fun _ => Int.emod_lt_of_pos _ (by omega), by omega, by omega⟩
theorem among_tot (q sd : Int) (l : List Int) (hl : 1 ≤ l.length) (h0 : 0 ≤ q) (h1 : q ≤ 999999990) : ∃ v q' sd', spec_l1Cur_among.f code q sd l = some (v, q', sd') ∧ q ≤ q' ∧ q' ≤ q + 2 := by
  unfold spec_l1Cur_among.f
  obtain ⟨v, q', s', e, b1, b2, b3, b4⟩ := pick_tot hc q sd (l.length : Int) h0 h1
  rw [e]
  simp only [Option.bind_some]
  rw [if_pos b1, if_pos (b2 (by omega))]
  exact ⟨_, _, _, rfl, b3, b4⟩
theorem one_tot (q sd n : Int) (h0 : 0 ≤ q) (h1 : q ≤ 999999990) : ∃ v q' sd', spec_l1Cur_one.f code q sd n = some (v, q', sd') ∧ q ≤ q' ∧ q' ≤ q + 2 := by
  unfold spec_l1Cur_one.f
  obtain ⟨v, q', s', e, b1, b2, b3, b4⟩ := pick_tot hc q sd n h0 h1
  rw [e]
  exact ⟨_, _, _, rfl, b3, b4⟩
theorem spot_tot (q sd : Int) (h0 : 0 ≤ q) (h1 : q ≤ 999990000) : ∃ v1 v2 q' sd', spec_l1Cur_spot.f code q sd = some (v1, v2, q', sd') ∧ q ≤ q' ∧ q' ≤ q + 8 := by
  unfold spec_l1Cur_spot.f spec_l1Cur_sureSpot.f
  obtain ⟨p1, q1, s1, e1, _, _, b1, b2⟩ := pick_tot hc q sd 25 h0 (by omega)
  rw [e1]
  simp only [Option.bind_some]
  obtain ⟨p2, q2, s2, e2, _, _, b3, b4⟩ := pick_tot hc q1 s1 9 (by omega) (by omega)
  rw [e2]
  simp only [Option.bind_some]
  obtain ⟨p4, q4, s4, e4, _, _, b7, b8⟩ := pick_tot hc q2 s2 24 (by omega) (by omega)
  rw [e4]
  simp only [Option.bind_some]
  split
  · obtain ⟨v, q5, s5, e5, b9, b10⟩ := among_tot hc q4 s4 [(-1001), (-1000), 0, 1000, 1001, (-9223372036854775808)] (by simp) (by omega) (by omega)
    rw [e5]
    exact ⟨_, _, q5, s5, rfl, by omega, by omega⟩
  · split
    · obtain ⟨v, q5, s5, e5, b9, b10⟩ := among_tot hc q4 s4 [(-1), 0, 1, 1000, 1001, 4611686018427387904] (by simp) (by omega) (by omega)
      rw [e5]
      exact ⟨_, _, q5, s5, rfl, by omega, by omega⟩
    · exact ⟨_, _, q4, s4, rfl, by omega, by omega⟩

end
/-! ### the state beside variables in memory -/
def KS (w0 : World) (bs : List (Nat × Array Value × Nat)) (g : Nat) (code : List Int) (N : Int) (w : World) : Prop := K w0 bs w ∧ (∀ b ∈ bs, b.1 ≠ g) ∧ ∃ q sd, IsS61 w0 w g code q sd ∧ 0 ≤ q ∧ q ≤ N
section
variable {w0 w w' : World} {bs : List (Nat × Array Value × Nat)} {g : Nat} {code : List Int} {N : Int}
theorem KS.alloc (h : KS w0 bs g code N w) (cs : Array Value) (t : Nat) : KS w0 ((w.heap.size, cs, t) :: bs) g code N (w.alloc (.cells cs t)) := by
  obtain ⟨h1, h2, q, sd, h3, h4⟩ := h
  refine ⟨h1.alloc cs t, fun b hb => ?_, q, sd, IsS61.alloc h3 _, h4⟩
  rcases List.mem_cons.1 hb with rfl | hb
  · exact fun e => absurd e (Nat.ne_of_gt (IsS61.lt h3))
  · exact h2 b hb
theorem KS.below (h : KS w0 bs g code N w) (hb : Below w.heap.size w w') : KS w0 bs g code N w' := by
  obtain ⟨h1, h2, q, sd, h3, h4⟩ := h
  exact ⟨h1.below hb, h2, q, sd, IsS61.below h3 hb, h4⟩
theorem KS.call {q' sd' : Int} (h : KS w0 bs g code N w) (hi : IsS61 w0 w' g code q' sd') (hb : Below w0.heap.size w0 w') (hk : KeepBut w w' g none) {M : Int} (h0 : 0 ≤ q') (h1 : q' ≤ M) : KS w0 bs g code M w' :=
  ⟨⟨hb, h.1.2.1, fun b hb' => ⟨(h.1.2.2 b hb').1, KeepBut.blk hk (h.1.2.2 b hb').2 (h.2.1 b hb') (by simp)⟩⟩, h.2.1, q', sd', hi, h0, h1⟩
theorem KS.new (h : K w0 bs w) {A0 : Option Addr} {c0 : Nat} (hr : Kd.C (Kd.int .u8) w0 A0 code.length code) : KS w0 bs w.heap.size code 0 (w.alloc (.cells #[.slice A0 code.length c0, .int .i64 0, .int .u64 0] 61)) :=
  ⟨h.below (below_alloc (Below.refl _ _) _), fun b hb => Nat.ne_of_lt (h.lt b hb), 0, 0, IsS61.new w0 w A0 c0 code 0 0 h.1 hr, Int.le_refl _, Int.le_refl _⟩
end
section
variable {w0 : World} {bs : List (Nat × Array Value × Nat)} {g : Nat} {code : List Int} {N : Int} (hc : By code) (hN : N ≤ 1000)
include hc hN
theorem spotX (w : World) (h : KS w0 bs g code N w) : Calls Try.prog 49 #[.pointer (some ⟨g, 0, none⟩)] w fun e w' => ∃ i : Int × Int, e = .returned (.agg #[.int .i64 i.1, .int .i64 i.2]) ∧ KS w0 bs g code (N + 8) w' := by
  obtain ⟨hK, hne, q, sd, hI, h0, h1⟩ := h
  obtain ⟨v1, v2, q', sd', hf, b0, b1⟩ := spot_tot hc q sd h0 (by omega)
  exact (spec_l1Cur_spot.calls g code q sd v1 v2 q' sd' w0 w hI hK.1 hf).mono fun e w' ⟨he, hi, hb, hk⟩ => ⟨(v1, v2), he, KS.call ⟨hK, hne, q, sd, hI, h0, h1⟩ hi hb hk (by omega) (by omega)⟩
theorem pickX (n : Int) (w : World) (h : KS w0 bs g code N w) : Calls Try.prog 52 #[.pointer (some ⟨g, 0, none⟩), .int .i64 n] w fun e w' => ∃ i : Int, e = .returned (.int .i64 i) ∧ KS w0 bs g code (N + 2) w' := by
  obtain ⟨hK, hne, q, sd, hI, h0, h1⟩ := h
  obtain ⟨v, q', sd', hf, _, _, b0, b1⟩ := pick_tot hc q sd n h0 (by omega)
  exact (spec_l1Cur_pick.calls g code q sd n v q' sd' w0 w hI hK.1 hf).mono fun e w' ⟨he, hi, hb, hk⟩ => ⟨v, he, KS.call ⟨hK, hne, q, sd, hI, h0, h1⟩ hi hb hk (by omega) (by omega)⟩
theorem oneX (n : Int) (w : World) (h : KS w0 bs g code N w) : Calls Try.prog 50 #[.pointer (some ⟨g, 0, none⟩), .int .i64 n] w fun e w' => ∃ i : Bool, e = .returned (.bool i) ∧ KS w0 bs g code (N + 2) w' := by
  obtain ⟨hK, hne, q, sd, hI, h0, h1⟩ := h
  obtain ⟨v, q', sd', hf, b0, b1⟩ := one_tot hc q sd n h0 (by omega)
  exact (spec_l1Cur_one.calls g code q sd n v q' sd' w0 w hI hK.1 hf).mono fun e w' ⟨he, hi, hb, hk⟩ => ⟨v, he, KS.call ⟨hK, hne, q, sd, hI, h0, h1⟩ hi hb hk (by omega) (by omega)⟩

end
/-! ### whole spots in memory -/
theorem al23 (w : World) : (Instr.alloc 23 true (.tuple #[])).run Try.prog w = .ok (.pointer (some ⟨w.heap.size, 0, none⟩)) (w.alloc (.cells #[.int .i64 0, .int .i64 0] 23)) := by
  have h := Try.underlying23
  go_simp
theorem ld23 (a0 a1 : Int) (g : Nat) (w : World) (hb : w.heap[g]? = some (.cells #[.int .i64 a0, .int .i64 a1] 23)) : (Instr.loadAt 23 (.pointer (some ⟨g, 0, none⟩))).run Try.prog w = .ok (.agg #[.int .i64 a0, .int .i64 a1]) w := by
  have h := Try.underlying23
  have h0 : w.cell? ⟨g, 0, none⟩ = some (.int .i64 a0) := (blk_cell hb 0).trans rfl
  have h1 : w.cell? ⟨g, 1, none⟩ = some (.int .i64 a1) := (blk_cell hb 1).trans rfl
  go_simp
theorem st23 (a0 a1 b0 b1 : Int) (g : Nat) (w : World) (hb : w.heap[g]? = some (.cells #[.int .i64 b0, .int .i64 b1] 23)) : ∃ w', (Instr.storeAt 23 (.pointer (some ⟨g, 0, none⟩)) (.agg #[.int .i64 a0, .int .i64 a1])).run Try.prog w = .ok () w' ∧
    (∀ w0 : World, Below w0.heap.size w0 w → w0.heap.size ≤ g → Below w0.heap.size w0 w') ∧ (∀ k, k ≠ g → w'.heap[k]? = w.heap[k]?) ∧ w'.heap[g]? = some (.cells #[.int .i64 a0, .int .i64 a1] 23) := by
  have h := Try.underlying23
  have h0 : w.cell? ⟨g, 0, none⟩ = some (.int .i64 b0) := (blk_cell hb 0).trans rfl
  have h1 : w.cell? ⟨g, 1, none⟩ = some (.int .i64 b1) := (blk_cell hb 1).trans rfl
  have f0 := blk_frozen hb 0
  have f1 := blk_frozen hb 1
  go_simp
  refine ⟨fun w0 hB hg => below_set (below_set hB hg) hg, fun k hk => ?_, blk_put (blk_put hb 0 _ rfl) 1 _ rfl⟩
  rw [Below.heap_setCell _ ⟨g, 1, none⟩ _ k hk, Below.heap_setCell _ ⟨g, 0, none⟩ _ k hk]
theorem Sim.getD {n i : Nat} {s : Sl} {a : Act} {v : Value} (h : Sim n s a) (hi : s i = some v) : a.tmps.getD i undef = v := by
  have := h.2.2 i v hi
  rw [Array.getD_eq_getD_getElem?, this]; rfl
theorem drawn_below (w : World) : Below w.heap.size w { w with drawn := w.drawn + 1 } := ⟨rfl, rfl, rfl, Nat.le_refl _, fun _ _ => rfl⟩
section
variable {w0 w w' : World} {bs : List (Nat × Array Value × Nat)} {g : Nat} {code : List Int} {N : Int}
/-- A whole spot is written into the first variable. -/
theorem K.put23 {b : Nat} {b0 b1 : Int} (a0 a1 : Int) (h : K w0 ((b, #[.int .i64 b0, .int .i64 b1], 23) :: bs) w) : ∃ w', (Instr.storeAt 23 (.pointer (some ⟨b, 0, none⟩)) (.agg #[.int .i64 a0, .int .i64 a1])).run Try.prog w = .ok () w' ∧ K w0 ((b, #[.int .i64 a0, .int .i64 a1], 23) :: bs) w' ∧ (∀ k, k ≠ b → w'.heap[k]? = w.heap[k]?) := by
  have hb := h.2.2 _ List.mem_cons_self
  obtain ⟨w', h1, h2, h3, h4⟩ := st23 a0 a1 b0 b1 b w hb.2
  exact ⟨w', h1, h.write (h2 w0 h.1 hb.1) h3 h4, h3⟩
theorem KS.put23 {b : Nat} {b0 b1 : Int} (a0 a1 : Int) (h : KS w0 ((b, #[.int .i64 b0, .int .i64 b1], 23) :: bs) g code N w) : ∃ w', (Instr.storeAt 23 (.pointer (some ⟨b, 0, none⟩)) (.agg #[.int .i64 a0, .int .i64 a1])).run Try.prog w = .ok () w' ∧ KS w0 ((b, #[.int .i64 a0, .int .i64 a1], 23) :: bs) g code N w' := by
  obtain ⟨hK, hne, q, sd, ⟨A0, c0, i1, i2, i3⟩, h0, h1⟩ := h
  obtain ⟨w', e1, e2, e3⟩ := K.put23 a0 a1 hK
  have hg : b ≠ g := hne _ List.mem_cons_self
  refine ⟨w', e1, e2, fun x hx => ?_, q, sd, ⟨A0, c0, by rw [e3 g (Ne.symm hg)]; exact i1, i2, i3⟩, h0, h1⟩
  rcases List.mem_cons.1 hx with rfl | hx
  · exact hg
  · exact hne x (List.mem_cons_of_mem _ hx)
theorem K.rd23 {b : Nat} {b0 b1 : Int} (h : K w0 bs w) (hm : (b, #[.int .i64 b0, .int .i64 b1], 23) ∈ bs) : (Instr.loadAt 23 (.pointer (some ⟨b, 0, none⟩))).run Try.prog w = .ok (.agg #[.int .i64 b0, .int .i64 b1]) w := ld23 b0 b1 b w (h.2.2 _ hm).2
end
theorem bld57 (A0 : Option Addr) (m c0 : Nat) (w : World) : (Instr.build 61 #[(0, .slice A0 m c0)]).run Try.prog w = .ok (.agg #[.slice A0 m c0, .int .i64 0, .int .u64 0]) w := by
  have h := Try.underlying61
  go_simp
theorem box57 (A0 : Option Addr) (m c0 : Nat) (w : World) : (Instr.box 61 (.agg #[.slice A0 m c0, .int .i64 0, .int .u64 0])).run Try.prog w = .ok (.pointer (some ⟨w.heap.size, 0, none⟩)) (w.alloc (.cells #[.slice A0 m c0, .int .i64 0, .int .u64 0] 61)) := by
  have h := Try.underlying61
  go_simp
theorem pv_bld57 {C : World → Prop} {n : Nat} {o : Oper} {s : Sl} {x1 : Operand} {A0 : Option Addr} {m c0 : Nat} (ho : o.op = .build 61 #[(0, x1)]) (hx : ev s x1 = some (.slice A0 m c0)) : PV Try.prog C n o s (.agg #[.slice A0 m c0, .int .i64 0, .int .u64 0]) := pv_run fun a ha w hw => by
  unfold execOp; simp only [ho]
  have := bld57 A0 m c0 w
  have e : (#[(0, x1)] : Array (Nat × Operand)).map (fun x => (x.1, a.eval x.2)) = #[(0, .slice A0 m c0)] := by simp [ha.ev hx]
  show ((Instr.build 61 ((#[(0, x1)] : Array (Nat × Operand)).map (fun x => (x.1, a.eval x.2)))) >>= fun v => pure (Next.value v)).run Try.prog w = _
  rw [e]
  simp only [Sem.run_bind, this]; rfl
abbrev Z2 : Array Value := #[.int .i64 0, .int .i64 0]
abbrev W2 (i : Int × Int) : Array Value := #[.int .i64 i.1, .int .i64 i.2]
theorem K.put2 {w0 w : World} {bs : List (Nat × Array Value × Nat)} {b c : Nat} {cs : Array Value} {t b0 b1 : _} (a0 a1 : Int) (h : K w0 ((c, cs, t) :: (b, #[.int .i64 b0, .int .i64 b1], 23) :: bs) w) : ∃ w', (Instr.storeAt 23 (.pointer (some ⟨b, 0, none⟩)) (.agg #[.int .i64 a0, .int .i64 a1])).run Try.prog w = .ok () w' ∧ K w0 ((b, #[.int .i64 a0, .int .i64 a1], 23) :: (c, cs, t) :: bs) w' := by
  obtain ⟨w', e1, e2, _⟩ := K.put23 a0 a1 h.swap
  exact ⟨w', e1, e2⟩
theorem KS.k {w0 w : World} {bs : List (Nat × Array Value × Nat)} {g : Nat} {code : List Int} {N : Int} (h : KS w0 bs g code N w) : K w0 bs w := h.1
/-- Two results that are variables. -/
theorem ret2 {n : Nat} {s : Sl} {a : Act} {w : World} {w0 : World} {fn : Func} {g2 g3 : Nat} {i j : Int × Int} (hf : fn.results = #[.cell 2 23, .cell 3 23]) (ha : Sim n s a) (h2 : s 2 = some (.pointer (some ⟨g2, 0, none⟩))) (h3 : s 3 = some (.pointer (some ⟨g3, 0, none⟩)))
    (b2 : w.heap[g2]? = some (.cells (W2 i) 23)) (b3 : w.heap[g3]? = some (.cells (W2 j) 23)) (hB : Below w0.heap.size w0 w) :
    bodyPost Try.prog fn (fun e w' => ∃ i : (Int × Int) × (Int × Int), e = .returned (.tuple #[.agg #[.int .i64 i.1.1, .int .i64 i.1.2], .agg #[.int .i64 i.2.1, .int .i64 i.2.2]]) ∧ Below w0.heap.size w0 w') .ret a w := by
  have hv := Vals.cell (P := Try.prog) (ty := 23) g2 23 (W2 i) (0, 0) _ (Sim.getD (i := 2) ha h2) b2 Try.underlying23 rfl (by kernel_rfl) (Vals.cell (ty := 23) g3 23 (W2 j) (0, 0) _ (Sim.getD (i := 3) ha h3) b3 Try.underlying23 rfl (by kernel_rfl) (Vals.nil (tmps := a.tmps) (w := w)))
  exact bodyPost_ret (results_list (rs := [.cell 2 23, .cell 3 23]) hf (by simp) hv) ha.1 ⟨(i, j), rfl, hB⟩
set_option maxRecDepth 100000 in
theorem sqDraw {code : List Int} (hc : By code) (A0 : Option Addr) (c0 : Nat) (w0 : World) (hr : Kd.C (Kd.int .u8) w0 A0 code.length code) :
    Calls Try.prog 47 #[.slice A0 code.length c0] w0 fun e w' => ∃ i : (Int × Int) × (Int × Int), e = .returned (.tuple #[.agg #[.int .i64 i.1.1, .int .i64 i.1.2], .agg #[.int .i64 i.2.1, .int .i64 i.2.2]]) ∧ Below w0.heap.size w0 w' := by
  refine calls_start' (m := 12) (K w0 []) (K.nil w0) Try.func47 rfl Try.ntmps47 rfl (ofL [(0, .slice A0 code.length c0)]) (of_args _ _ rfl) ?_
  refine cw_seq (fun G1 h1 => ?_)
  refine cw_region ?_
  refine wl_alloc (fun g => K w0 [(g, Z2, 23)]) rfl rfl rfl rfl al23 (fun w hw => hw.alloc _ _) (fun g2 => ?_)
  refine wl_alloc (fun g => K w0 [(g, Z2, 23), (g2, Z2, 23)]) rfl rfl rfl rfl al23 (fun w hw => hw.alloc _ _) (fun g3 => ?_)
  refine wl_end (s' := ofL [(0, .slice A0 code.length c0), (2, .pointer (some ⟨g2, 0, none⟩)), (3, .pointer (some ⟨g3, 0, none⟩))]) (h1 _ _ ?_) (sub_cons rfl (sub_cons rfl (sub_cons rfl sub_nil)))
  refine cw_seq (fun G2 h2 => ?_)
  refine cw_region ?_
  refine wl_op rfl rfl rfl (pv_move rfl rfl) (wl_op rfl rfl rfl (pv_bld57 rfl rfl) ?_)
  refine wl_boxC (fun g => KS w0 [(g3, Z2, 23), (g2, Z2, 23)] g code 0) rfl rfl rfl rfl rfl (box57 _ _ _) (fun w hw => KS.new hw hr) (fun g => ?_)
  refine wl_op rfl rfl rfl (pv_assign rfl rfl) ?_
  refine wl_end (s' := ofL [(2, .pointer (some ⟨g2, 0, none⟩)), (3, .pointer (some ⟨g3, 0, none⟩)), (4, .pointer (some ⟨g, 0, none⟩))]) (h2 _ _ ?_) (sub_cons rfl (sub_cons rfl (sub_cons rfl sub_nil)))
  refine cw_seq (fun G3 h3 => ?_)
  refine cw_region ?_
  refine wl_op rfl rfl rfl (pv_move rfl rfl) ?_
  refine wl_callX (fun i : Int × Int => .agg (W2 i)) (fun _ => KS w0 [(g3, Z2, 23), (g2, Z2, 23)] g code (0 + 8)) rfl rfl rfl rfl rfl Try.func49 (by kernel_rfl) rfl (fun w hw => spotX hc (by omega) w hw) (fun i => ?_)
  refine wl_op rfl rfl rfl (pv_move rfl rfl) ?_
  refine wl_callX (fun i : Int × Int => .agg (W2 i)) (fun _ => K w0 [(g3, Z2, 23), (g2, Z2, 23)]) rfl rfl rfl rfl rfl Try.func49 (by kernel_rfl) rfl (fun w hw => (spotX hc (by omega) w hw).mono fun e w' ⟨i, he, h⟩ => ⟨i, he, h.k⟩) (fun j => ?_)
  refine wl_store (K w0 [(g2, W2 i, 23), (g3, Z2, 23)]) rfl rfl rfl rfl rfl (fun w hw => K.put2 _ _ hw) ?_
  refine wl_store (K w0 [(g3, W2 j, 23), (g2, W2 i, 23)]) rfl rfl rfl rfl rfl (fun w hw => K.put2 _ _ hw) ?_
  refine wl_end (s' := ofL [(2, .pointer (some ⟨g2, 0, none⟩)), (3, .pointer (some ⟨g3, 0, none⟩))]) (h3 _ _ ?_) (sub_cons rfl (sub_cons rfl sub_nil))
  exact cw_ret (fun a w ha hw => ret2 rfl ha rfl rfl (hw.2.2 (g2, W2 i, 23) (by simp)).2 (hw.2.2 (g3, W2 j, 23) (by simp)).2 hw.1)
set_option maxRecDepth 100000 in
theorem drawTouch {code : List Int} (hc : By code) (A0 : Option Addr) (c0 : Nat) (w0 : World) (hr : Kd.C (Kd.int .u8) w0 A0 code.length code) :
    Calls Try.prog 28 #[.slice A0 code.length c0] w0 fun e w' => ∃ i : (Int × Int) × (Int × Int), e = .returned (.tuple #[.agg #[.int .i64 i.1.1, .int .i64 i.1.2], .agg #[.int .i64 i.2.1, .int .i64 i.2.2]]) ∧ Below w0.heap.size w0 w' := by
  refine calls_start' (m := 8) (K w0 []) (K.nil w0) Try.func28 rfl Try.ntmps28 rfl (ofL [(0, .slice A0 code.length c0)]) (of_args _ _ rfl) ?_
  refine cw_seq (fun G1 h1 => ?_)
  refine cw_region ?_
  refine wl_alloc (fun g => K w0 [(g, Z2, 23)]) rfl rfl rfl rfl al23 (fun w hw => hw.alloc _ _) (fun g2 => ?_)
  refine wl_alloc (fun g => K w0 [(g, Z2, 23), (g2, Z2, 23)]) rfl rfl rfl rfl al23 (fun w hw => hw.alloc _ _) (fun g3 => ?_)
  refine wl_end (s' := ofL [(0, .slice A0 code.length c0), (2, .pointer (some ⟨g2, 0, none⟩)), (3, .pointer (some ⟨g3, 0, none⟩))]) (h1 _ _ ?_) (sub_cons rfl (sub_cons rfl (sub_cons rfl sub_nil)))
  refine cw_seq (fun G2 h2 => ?_)
  refine cw_region ?_
  refine wl_op rfl rfl rfl (pv_move rfl rfl) ?_
  refine wl_callX (fun i : (Int × Int) × (Int × Int) => .tuple #[.agg (W2 i.1), .agg (W2 i.2)]) (fun _ => K w0 [(g3, Z2, 23), (g2, Z2, 23)]) rfl rfl rfl rfl rfl Try.func47 (by kernel_rfl) rfl (fun w hw => (sqDraw hc A0 c0 w (Kd.C_below hr hw.1)).mono fun e w' ⟨i, he, hb⟩ => ⟨i, he, hw.below hb⟩) (fun i => ?_)
  refine wl_op rfl rfl rfl (pv_extract rfl rfl rfl) (wl_op rfl rfl rfl (pv_extract rfl rfl rfl) ?_)
  refine wl_store (K w0 [(g2, W2 i.1, 23), (g3, Z2, 23)]) rfl rfl rfl rfl rfl (fun w hw => K.put2 _ _ hw) ?_
  refine wl_store (K w0 [(g3, W2 i.2, 23), (g2, W2 i.1, 23)]) rfl rfl rfl rfl rfl (fun w hw => K.put2 _ _ hw) ?_
  refine wl_end (s' := ofL [(2, .pointer (some ⟨g2, 0, none⟩)), (3, .pointer (some ⟨g3, 0, none⟩))]) (h2 _ _ ?_) (sub_cons rfl (sub_cons rfl sub_nil))
  exact cw_ret (fun a w ha hw => ret2 rfl ha rfl rfl (hw.2.2 (g2, W2 i.1, 23) (by simp)).2 (hw.2.2 (g3, W2 i.2, 23) (by simp)).2 hw.1)
theorem KS.swap {w0 w : World} {b c : Nat × Array Value × Nat} {bs : List (Nat × Array Value × Nat)} {g : Nat} {code : List Int} {N : Int} (h : KS w0 (b :: c :: bs) g code N w) : KS w0 (c :: b :: bs) g code N w := by
  obtain ⟨h1, h2, h3⟩ := h
  exact ⟨h1.swap, fun x hx => h2 x (by simp only [List.mem_cons] at hx ⊢; rcases hx with e | e | e <;> simp [e]), h3⟩
theorem fa0 (g : Nat) (w : World) : (Instr.fieldAt 23 (.pointer (some ⟨g, 0, none⟩)) 0).run Try.prog w = .ok (.pointer (some ⟨g, 0, none⟩)) w := by
  have h := Try.underlying23
  go_simp
theorem ldX {g : Nat} {a b : Int} {w : World} (hb : w.heap[g]? = some (.cells #[.int .i64 a, .int .i64 b] 23)) : (Instr.loadAt 3 (.pointer (some ⟨g, 0, none⟩))).run Try.prog w = .ok (.int .i64 a) w := by
  have h := Try.underlying3
  have h1 : w.cell? ⟨g, 0, none⟩ = some (.int .i64 a) := (blk_cell hb 0).trans rfl
  go_simp
theorem stX (v a b : Int) (g : Nat) (w : World) (hb : w.heap[g]? = some (.cells #[.int .i64 a, .int .i64 b] 23)) : ∃ w', (Instr.storeAt 3 (.pointer (some ⟨g, 0, none⟩)) (.int .i64 v)).run Try.prog w = .ok () w' ∧
    (∀ w0 : World, Below w0.heap.size w0 w → w0.heap.size ≤ g → Below w0.heap.size w0 w') ∧ (∀ k, k ≠ g → w'.heap[k]? = w.heap[k]?) ∧ w'.heap[g]? = some (.cells #[.int .i64 v, .int .i64 b] 23) := by
  have h := Try.underlying3
  have h0 : w.cell? ⟨g, 0, none⟩ = some (.int .i64 a) := (blk_cell hb 0).trans rfl
  have f0 := blk_frozen hb 0
  go_simp
  refine ⟨fun w0 hB hg => below_set hB hg, fun k hk => ?_, blk_put hb 0 _ rfl⟩
  rw [Below.heap_setCell _ ⟨g, 0, none⟩ _ k hk]
theorem KS.write {w0 w w' : World} {bs : List (Nat × Array Value × Nat)} {g b : Nat} {code : List Int} {N : Int} {cs cs' : Array Value} {t : Nat} (h : KS w0 ((b, cs, t) :: bs) g code N w) (hB : Below w0.heap.size w0 w') (hk : ∀ k, k ≠ b → w'.heap[k]? = w.heap[k]?) (hg : w'.heap[b]? = some (.cells cs' t)) : KS w0 ((b, cs', t) :: bs) g code N w' := by
  obtain ⟨hK, hne, q, sd, ⟨A0, c0, i1, i2, i3⟩, h0, h1⟩ := h
  have hgb : b ≠ g := hne _ List.mem_cons_self
  refine ⟨hK.write hB hk hg, fun x hx => ?_, q, sd, ⟨A0, c0, by rw [hk g (Ne.symm hgb)]; exact i1, i2, i3⟩, h0, h1⟩
  rcases List.mem_cons.1 hx with rfl | hx
  · exact hgb
  · exact hne x (List.mem_cons_of_mem _ hx)
theorem KS.putX {w0 w : World} {bs : List (Nat × Array Value × Nat)} {g b : Nat} {code : List Int} {N : Int} {x y : Int} (v : Int) (h : KS w0 ((b, #[.int .i64 x, .int .i64 y], 23) :: bs) g code N w) : ∃ w', (Instr.storeAt 3 (.pointer (some ⟨b, 0, none⟩)) (.int .i64 v)).run Try.prog w = .ok () w' ∧ KS w0 ((b, #[.int .i64 v, .int .i64 y], 23) :: bs) g code N w' := by
  have hb := h.1.2.2 _ List.mem_cons_self
  obtain ⟨w', e1, e2, e3, e4⟩ := stX v x y b w hb.2
  exact ⟨w', e1, h.write (e2 w0 h.1.1 hb.1) e3 e4⟩
theorem in_tot (a b c : Int) : ∃ r, spec_l1In.f a b c = some r := by
  unfold spec_l1In.f
  split <;> exact ⟨_, rfl⟩
set_option maxRecDepth 100000 in
theorem sqCorner {code : List Int} (hc : By code) (A0 : Option Addr) (c0 : Nat) (w0 : World) (hr : Kd.C (Kd.int .u8) w0 A0 code.length code) :
    Calls Try.prog 48 #[.slice A0 code.length c0] w0 fun e w' => ∃ i : (Int × Int) × (Int × Int), e = .returned (.tuple #[.agg #[.int .i64 i.1.1, .int .i64 i.1.2], .agg #[.int .i64 i.2.1, .int .i64 i.2.2]]) ∧ Below w0.heap.size w0 w' := by
  refine calls_start' (m := 40) (K w0 []) (K.nil w0) Try.func48 rfl Try.ntmps48 rfl (ofL [(0, .slice A0 code.length c0)]) (of_args _ _ rfl) ?_
  refine cw_seq (fun G1 h1 => ?_)
  refine cw_region ?_
  refine wl_alloc (fun g => K w0 [(g, Z2, 23)]) rfl rfl rfl rfl al23 (fun w hw => hw.alloc _ _) (fun g2 => ?_)
  refine wl_alloc (fun g => K w0 [(g, Z2, 23), (g2, Z2, 23)]) rfl rfl rfl rfl al23 (fun w hw => hw.alloc _ _) (fun g3 => ?_)
  refine wl_end (s' := ofL [(0, .slice A0 code.length c0), (2, .pointer (some ⟨g2, 0, none⟩)), (3, .pointer (some ⟨g3, 0, none⟩))]) (h1 _ _ ?_) (sub_cons rfl (sub_cons rfl (sub_cons rfl sub_nil)))
  refine cw_seq (fun G2 h2 => ?_)
  refine cw_region ?_
  refine wl_op rfl rfl rfl (pv_move rfl rfl) (wl_op rfl rfl rfl (pv_bld57 rfl rfl) ?_)
  refine wl_boxC (fun g => KS w0 [(g3, Z2, 23), (g2, Z2, 23)] g code 0) rfl rfl rfl rfl rfl (box57 _ _ _) (fun w hw => KS.new hw hr) (fun g => ?_)
  refine wl_op rfl rfl rfl (pv_assign rfl rfl) ?_
  refine wl_end (s' := ofL [(2, .pointer (some ⟨g2, 0, none⟩)), (3, .pointer (some ⟨g3, 0, none⟩)), (4, .pointer (some ⟨g, 0, none⟩))]) (h2 _ _ ?_) (sub_cons rfl (sub_cons rfl (sub_cons rfl sub_nil)))
  refine cw_seq (fun G3 h3 => ?_)
  refine cw_region ?_
  refine wl_op rfl rfl rfl (pv_move rfl rfl) ?_
  refine wl_callX (fun i : Int × Int => .agg (W2 i)) (fun _ => KS w0 [(g3, Z2, 23), (g2, Z2, 23)] g code (0 + 8)) rfl rfl rfl rfl rfl Try.func49 (by kernel_rfl) rfl (fun w hw => spotX hc (by omega) w hw) (fun i => ?_)
  refine wl_op rfl rfl rfl (pv_move rfl rfl) ?_
  refine wl_callX (fun i : Int × Int => .agg (W2 i)) (fun _ => KS w0 [(g3, Z2, 23), (g2, Z2, 23)] g code (0 + 8 + 8)) rfl rfl rfl rfl rfl Try.func49 (by kernel_rfl) rfl (fun w hw => spotX hc (by omega) w hw) (fun j => ?_)
  refine wl_alloc (fun b => KS w0 [(b, Z2, 23), (g3, Z2, 23), (g2, Z2, 23)] g code (0 + 8 + 8)) rfl rfl rfl rfl al23 (fun w hw => hw.alloc _ _) (fun g5 => ?_)
  refine wl_alloc (fun b => KS w0 [(b, Z2, 23), (g5, Z2, 23), (g3, Z2, 23), (g2, Z2, 23)] g code (0 + 8 + 8)) rfl rfl rfl rfl al23 (fun w hw => hw.alloc _ _) (fun g6 => ?_)
  refine wl_store (KS w0 [(g5, W2 i, 23), (g6, Z2, 23), (g3, Z2, 23), (g2, Z2, 23)] g code (0 + 8 + 8)) rfl rfl rfl rfl rfl (fun w hw => KS.put23 _ _ hw.swap) ?_
  refine wl_store (KS w0 [(g6, W2 j, 23), (g5, W2 i, 23), (g3, Z2, 23), (g2, Z2, 23)] g code (0 + 8 + 8)) rfl rfl rfl rfl rfl (fun w hw => KS.put23 _ _ hw.swap) ?_
  refine wl_end (s' := ofL [(2, .pointer (some ⟨g2, 0, none⟩)), (3, .pointer (some ⟨g3, 0, none⟩)), (4, .pointer (some ⟨g, 0, none⟩)), (5, .pointer (some ⟨g5, 0, none⟩)), (6, .pointer (some ⟨g6, 0, none⟩))]) (h3 _ _ ?_) (sub_cons rfl (sub_cons rfl (sub_cons rfl (sub_cons rfl (sub_cons rfl sub_nil)))))
  refine cw_sub (C' := KS w0 [(g5, W2 i, 23), (g6, W2 j, 23), (g3, Z2, 23), (g2, Z2, 23)] g code (0 + 8 + 8)) (fun w hw => hw.swap) ?_
  refine cw_seq (fun G4 h4 => ?_)
  have hE4 : GS (fun w => ∃ x : Int, KS w0 [(g5, #[.int .i64 x, .int .i64 i.2], 23), (g6, W2 j, 23), (g3, Z2, 23), (g2, Z2, 23)] g code (0 + 8 + 8 + 2) w) 40 G4 (ofL [(2, .pointer (some ⟨g2, 0, none⟩)), (3, .pointer (some ⟨g3, 0, none⟩)), (4, .pointer (some ⟨g, 0, none⟩)), (5, .pointer (some ⟨g5, 0, none⟩)), (6, .pointer (some ⟨g6, 0, none⟩))]) := by
    refine h4 _ _ ?_
    refine cw_ex (fun x4 => ?_)
    refine cw_sub (C' := KS w0 [(g6, W2 j, 23), (g5, #[.int .i64 x4, .int .i64 i.2], 23), (g3, Z2, 23), (g2, Z2, 23)] g code (0 + 8 + 8 + 2)) (fun w hw => hw.swap) ?_
    refine cw_seq (fun G6 h6 => ?_)
    have hE6 : GS (fun w => ∃ x : Int, KS w0 [(g6, #[.int .i64 x, .int .i64 j.2], 23), (g5, #[.int .i64 x4, .int .i64 i.2], 23), (g3, Z2, 23), (g2, Z2, 23)] g code (0 + 8 + 8 + 2 + 2) w) 40 G6 (ofL [(2, .pointer (some ⟨g2, 0, none⟩)), (3, .pointer (some ⟨g3, 0, none⟩)), (4, .pointer (some ⟨g, 0, none⟩)), (5, .pointer (some ⟨g5, 0, none⟩)), (6, .pointer (some ⟨g6, 0, none⟩))]) := by
      refine h6 _ _ ?_
      refine cw_ex (fun x6 => ?_)
      refine cw_seq (fun G8 h8 => ?_)
      refine cw_held (m := 4) (fun w => w.heap[g5]? = some (.cells (W2 (x4, i.2)) 23) ∧ w.heap[g6]? = some (.cells (W2 (x6, j.2)) 23)) (by kernel_rfl) rfl (fun w hw => hw.below (drawn_below w)) ?_
      refine wa_take (i := 0) (listed' := #[true, false, false, false]) rfl (by kernel_rfl) (by kernel_rfl) (by kernel_rfl) (fun _ _ _ h => h) rfl rfl rfl (by kernel_rfl) (rv_load rfl rfl (fun w hw => ld23 _ _ g5 w hw.1)) (fun w hw => ⟨(hw.1.2.2 (g5, W2 (x4, i.2), 23) (by simp)).2, (hw.1.2.2 (g6, W2 (x6, j.2), 23) (by simp)).2⟩) ?_
      refine wa_take (i := 1) (listed' := #[true, true, false, false]) rfl (by kernel_rfl) (by kernel_rfl) (by kernel_rfl) (fun _ _ _ h => h) rfl rfl rfl (by kernel_rfl) (rv_load rfl rfl (fun w hw => ld23 _ _ g6 w hw.2)) (fun w hw => ⟨(hw.1.2.2 (g5, W2 (x4, i.2), 23) (by simp)).2, (hw.1.2.2 (g6, W2 (x6, j.2), 23) (by simp)).2⟩) ?_
      refine wa_store (i := 2) (listed' := #[true, true, true, false]) (K w0 [(g3, Z2, 23), (g2, W2 (x4, i.2), 23), (g5, W2 (x4, i.2), 23), (g6, W2 (x6, j.2), 23)]) rfl (by kernel_rfl) (by kernel_rfl) rfl rfl rfl rfl rfl (fun w hw => by
        have h2 : K w0 [(g2, Z2, 23), (g3, Z2, 23), (g5, W2 (x4, i.2), 23), (g6, W2 (x6, j.2), 23)] w := hw.1.perm (List.reverse_perm _).symm
        obtain ⟨w', e1, e2, _⟩ := K.put23 x4 i.2 h2
        exact ⟨w', e1, e2.swap⟩) (fun w hw => ⟨(hw.2.2 (g5, W2 (x4, i.2), 23) (by simp)).2, (hw.2.2 (g6, W2 (x6, j.2), 23) (by simp)).2⟩) ?_
      refine wa_store (i := 3) (listed' := #[true, true, true, true]) (K w0 [(g3, W2 (x6, j.2), 23), (g2, W2 (x4, i.2), 23), (g5, W2 (x4, i.2), 23), (g6, W2 (x6, j.2), 23)]) rfl (by kernel_rfl) (by kernel_rfl) rfl rfl rfl rfl rfl (fun w hw => by
        obtain ⟨w', e1, e2, _⟩ := K.put23 x6 j.2 hw
        exact ⟨w', e1, e2⟩) (fun w hw => ⟨(hw.2.2 (g5, W2 (x4, i.2), 23) (by simp)).2, (hw.2.2 (g6, W2 (x6, j.2), 23) (by simp)).2⟩) ?_
      refine wa_done (s' := ofL [(2, .pointer (some ⟨g2, 0, none⟩)), (3, .pointer (some ⟨g3, 0, none⟩))]) (by kernel_rfl) (sub_cons rfl (sub_cons rfl sub_nil)) (h8 _ _ ?_)
      exact cw_ret (fun a w ha hw => ret2 rfl ha rfl rfl (hw.2.2 (g2, W2 (x4, i.2), 23) (by simp)).2 (hw.2.2 (g3, W2 (x6, j.2), 23) (by simp)).2 hw.1)
    refine cw_seq (fun G7 h7 => ?_)
    have hJ6 : ∀ b : Bool, GS (KS w0 [(g6, W2 j, 23), (g5, #[.int .i64 x4, .int .i64 i.2], 23), (g3, Z2, 23), (g2, Z2, 23)] g code (0 + 8 + 8 + 2 + 2)) 40 G7 (ofL [(2, .pointer (some ⟨g2, 0, none⟩)), (3, .pointer (some ⟨g3, 0, none⟩)), (4, .pointer (some ⟨g, 0, none⟩)), (5, .pointer (some ⟨g5, 0, none⟩)), (6, .pointer (some ⟨g6, 0, none⟩)), (33, .bool b)]) := by
      intro b
      refine h7 _ _ ?_
      refine cw_cond (b := b) rfl (fun hb => ?_) (fun hb => ?_)
      · refine cw_region ?_
        refine wl_op rfl rfl rfl (pv_fieldAddr rfl rfl (fun w => fa0 g6 w)) (wl_op rfl rfl rfl (pv_load rfl rfl (fun w hw => ldX (hw.1.2.2 _ List.mem_cons_self).2)) (wl_op rfl rfl rfl (pv_bin rfl rfl rfl (fun _ => b_sub Try.underlying3)) (wl_op rfl rfl rfl (pv_fieldAddr rfl rfl (fun w => fa0 g6 w)) ?_)))
        refine wl_store (fun w => ∃ x : Int, KS w0 [(g6, #[.int .i64 x, .int .i64 j.2], 23), (g5, #[.int .i64 x4, .int .i64 i.2], 23), (g3, Z2, 23), (g2, Z2, 23)] g code (0 + 8 + 8 + 2 + 2) w) rfl rfl rfl rfl rfl (fun w hw => by
          obtain ⟨w', e1, e2⟩ := KS.putX (wrap64 (1 - j.1)) hw
          exact ⟨w', e1, _, e2⟩) ?_
        exact wl_end hE6 (sub_cons rfl (sub_cons rfl (sub_cons rfl (sub_cons rfl (sub_cons rfl sub_nil)))))
      · exact cw_skip (GS.sub (hE6.mono (fun w hw => ⟨_, hw⟩)) (sub_cons rfl (sub_cons rfl (sub_cons rfl (sub_cons rfl (sub_cons rfl sub_nil))))))
    refine cw_region ?_
    obtain ⟨r, hr6⟩ := in_tot j.1 (-10) 0
    refine wl_op rfl rfl rfl (pv_fieldAddr rfl rfl (fun w => fa0 g6 w)) (wl_op rfl rfl rfl (pv_load rfl rfl (fun w hw => ldX (hw.1.2.2 _ List.mem_cons_self).2)) (wl_op rfl rfl rfl (pv_call (v := .bool r) rfl rfl Try.func45 (by kernel_rfl) rfl (fun w hw => (spec_l1In.calls _ (-10) 0 r w hr6).mono fun e w' ⟨he, hb⟩ => ⟨he, hw.below hb.below⟩)) (wl_op rfl rfl rfl (pv_move rfl rfl) ?_)))
    cases r with
    | true =>
      refine wl_yes rfl rfl rfl rfl rfl rfl (pv_move rfl rfl) ?_
      refine wl_callXg (fun i : Bool => .bool i) (fun _ => KS w0 [(g6, W2 j, 23), (g5, #[.int .i64 x4, .int .i64 i.2], 23), (g3, Z2, 23), (g2, Z2, 23)] g code (0 + 8 + 8 + 2 + 2)) rfl rfl rfl rfl rfl rfl rfl rfl Try.func50 (by kernel_rfl) rfl (fun w hw => oneX hc (by omega) 4 w hw) (fun b => ?_)
      refine wl_yes rfl rfl rfl rfl rfl rfl (pv_not rfl rfl) (wl_op rfl rfl rfl (pv_pick rfl rfl rfl) ?_)
      exact wl_end (hJ6 (!b)) (sub_cons rfl (sub_cons rfl (sub_cons rfl (sub_cons rfl (sub_cons rfl (sub_cons rfl sub_nil))))))
    | false =>
      refine wl_no rfl rfl rfl rfl rfl rfl (wl_no rfl rfl rfl rfl rfl rfl (wl_no rfl rfl rfl rfl rfl rfl (wl_op rfl rfl rfl (pv_pick rfl rfl rfl) ?_)))
      exact wl_end ((hJ6 false).mono (fun w hw => ⟨hw.1, hw.2.1, by obtain ⟨q, sd, e1, e2, e3⟩ := hw.2.2; exact ⟨q, sd, e1, e2, by omega⟩⟩)) (sub_cons rfl (sub_cons rfl (sub_cons rfl (sub_cons rfl (sub_cons rfl (sub_cons rfl sub_nil))))))
  refine cw_seq (fun G5 h5 => ?_)
  have hJ4 : ∀ b : Bool, GS (KS w0 [(g5, W2 i, 23), (g6, W2 j, 23), (g3, Z2, 23), (g2, Z2, 23)] g code (0 + 8 + 8 + 2)) 40 G5 (ofL [(2, .pointer (some ⟨g2, 0, none⟩)), (3, .pointer (some ⟨g3, 0, none⟩)), (4, .pointer (some ⟨g, 0, none⟩)), (5, .pointer (some ⟨g5, 0, none⟩)), (6, .pointer (some ⟨g6, 0, none⟩)), (21, .bool b)]) := by
    intro b
    refine h5 _ _ ?_
    refine cw_cond (b := b) rfl (fun hb => ?_) (fun hb => ?_)
    · refine cw_region ?_
      refine wl_op rfl rfl rfl (pv_fieldAddr rfl rfl (fun w => fa0 g5 w)) (wl_op rfl rfl rfl (pv_load rfl rfl (fun w hw => ldX (hw.1.2.2 _ List.mem_cons_self).2)) (wl_op rfl rfl rfl (pv_bin rfl rfl rfl (fun _ => b_sub Try.underlying3)) (wl_op rfl rfl rfl (pv_fieldAddr rfl rfl (fun w => fa0 g5 w)) ?_)))
      refine wl_store (fun w => ∃ x : Int, KS w0 [(g5, #[.int .i64 x, .int .i64 i.2], 23), (g6, W2 j, 23), (g3, Z2, 23), (g2, Z2, 23)] g code (0 + 8 + 8 + 2) w) rfl rfl rfl rfl rfl (fun w hw => by
        obtain ⟨w', e1, e2⟩ := KS.putX (wrap64 (1 - i.1)) hw
        exact ⟨w', e1, _, e2⟩) ?_
      exact wl_end hE4 (sub_cons rfl (sub_cons rfl (sub_cons rfl (sub_cons rfl (sub_cons rfl sub_nil)))))
    · exact cw_skip (GS.sub (hE4.mono (fun w hw => ⟨_, hw⟩)) (sub_cons rfl (sub_cons rfl (sub_cons rfl (sub_cons rfl (sub_cons rfl sub_nil))))))
  refine cw_region ?_
  obtain ⟨r, hr4⟩ := in_tot i.1 (-10) 0
  refine wl_op rfl rfl rfl (pv_fieldAddr rfl rfl (fun w => fa0 g5 w)) (wl_op rfl rfl rfl (pv_load rfl rfl (fun w hw => ldX (hw.1.2.2 _ List.mem_cons_self).2)) (wl_op rfl rfl rfl (pv_call (v := .bool r) rfl rfl Try.func45 (by kernel_rfl) rfl (fun w hw => (spec_l1In.calls _ (-10) 0 r w hr4).mono fun e w' ⟨he, hb⟩ => ⟨he, hw.below hb.below⟩)) (wl_op rfl rfl rfl (pv_move rfl rfl) ?_)))
  cases r with
  | true =>
    refine wl_yes rfl rfl rfl rfl rfl rfl (pv_move rfl rfl) ?_
    refine wl_callXg (fun i : Bool => .bool i) (fun _ => KS w0 [(g5, W2 i, 23), (g6, W2 j, 23), (g3, Z2, 23), (g2, Z2, 23)] g code (0 + 8 + 8 + 2)) rfl rfl rfl rfl rfl rfl rfl rfl Try.func50 (by kernel_rfl) rfl (fun w hw => oneX hc (by omega) 4 w hw) (fun b => ?_)
    refine wl_yes rfl rfl rfl rfl rfl rfl (pv_not rfl rfl) (wl_op rfl rfl rfl (pv_pick rfl rfl rfl) ?_)
    exact wl_end (hJ4 (!b)) (sub_cons rfl (sub_cons rfl (sub_cons rfl (sub_cons rfl (sub_cons rfl (sub_cons rfl sub_nil))))))
  | false =>
    refine wl_no rfl rfl rfl rfl rfl rfl (wl_no rfl rfl rfl rfl rfl rfl (wl_no rfl rfl rfl rfl rfl rfl (wl_op rfl rfl rfl (pv_pick rfl rfl rfl) ?_)))
    exact wl_end ((hJ4 false).mono (fun w hw => ⟨hw.1, hw.2.1, by obtain ⟨q, sd, e1, e2, e3⟩ := hw.2.2; exact ⟨q, sd, e1, e2, by omega⟩⟩)) (sub_cons rfl (sub_cons rfl (sub_cons rfl (sub_cons rfl (sub_cons rfl (sub_cons rfl sub_nil))))))
set_option maxRecDepth 100000 in
theorem drawOrder {code : List Int} (hc : By code) (A0 : Option Addr) (c0 : Nat) (w0 : World) (hr : Kd.C (Kd.int .u8) w0 A0 code.length code) :
    Calls Try.prog 29 #[.slice A0 code.length c0] w0 fun e w' => ∃ i : (Int × Int) × (Int × Int), e = .returned (.tuple #[.agg #[.int .i64 i.1.1, .int .i64 i.1.2], .agg #[.int .i64 i.2.1, .int .i64 i.2.2]]) ∧ Below w0.heap.size w0 w' := by
  refine calls_start' (m := 8) (K w0 []) (K.nil w0) Try.func29 rfl Try.ntmps29 rfl (ofL [(0, .slice A0 code.length c0)]) (of_args _ _ rfl) ?_
  refine cw_seq (fun G1 h1 => ?_)
  refine cw_region ?_
  refine wl_alloc (fun g => K w0 [(g, Z2, 23)]) rfl rfl rfl rfl al23 (fun w hw => hw.alloc _ _) (fun g2 => ?_)
  refine wl_alloc (fun g => K w0 [(g, Z2, 23), (g2, Z2, 23)]) rfl rfl rfl rfl al23 (fun w hw => hw.alloc _ _) (fun g3 => ?_)
  refine wl_end (s' := ofL [(0, .slice A0 code.length c0), (2, .pointer (some ⟨g2, 0, none⟩)), (3, .pointer (some ⟨g3, 0, none⟩))]) (h1 _ _ ?_) (sub_cons rfl (sub_cons rfl (sub_cons rfl sub_nil)))
  refine cw_seq (fun G2 h2 => ?_)
  refine cw_region ?_
  refine wl_op rfl rfl rfl (pv_move rfl rfl) ?_
  refine wl_callX (fun i : (Int × Int) × (Int × Int) => .tuple #[.agg (W2 i.1), .agg (W2 i.2)]) (fun _ => K w0 [(g3, Z2, 23), (g2, Z2, 23)]) rfl rfl rfl rfl rfl Try.func48 (by kernel_rfl) rfl (fun w hw => (sqCorner hc A0 c0 w (Kd.C_below hr hw.1)).mono fun e w' ⟨i, he, hb⟩ => ⟨i, he, hw.below hb⟩) (fun i => ?_)
  refine wl_op rfl rfl rfl (pv_extract rfl rfl rfl) (wl_op rfl rfl rfl (pv_extract rfl rfl rfl) ?_)
  refine wl_store (K w0 [(g2, W2 i.1, 23), (g3, Z2, 23)]) rfl rfl rfl rfl rfl (fun w hw => K.put2 _ _ hw) ?_
  refine wl_store (K w0 [(g3, W2 i.2, 23), (g2, W2 i.1, 23)]) rfl rfl rfl rfl rfl (fun w hw => K.put2 _ _ hw) ?_
  refine wl_end (s' := ofL [(2, .pointer (some ⟨g2, 0, none⟩)), (3, .pointer (some ⟨g3, 0, none⟩))]) (h2 _ _ ?_) (sub_cons rfl (sub_cons rfl sub_nil))
  exact cw_ret (fun a w ha hw => ret2 rfl ha rfl rfl (hw.2.2 (g2, W2 i.1, 23) (by simp)).2 (hw.2.2 (g3, W2 i.2, 23) (by simp)).2 hw.1)
theorem row_of_blk {w : World} {b : Nat} {l : List Int} {cs : Array Value} (hb : w.heap[b]? = some (.cells cs 3)) (hl : l.length ≤ 1000) (he : cs = (l.map (Value.int .i64)).toArray) : Kd.C (Kd.int .i64) w (some ⟨b, 0, none⟩) l.length l := by
  refine ⟨rfl, by omega, fun _ => ⟨⟨b, 0, none⟩, rfl, fun j p hj => ⟨[.int .i64 p], rfl, rfl, fun i u hu => ?_⟩⟩⟩
  cases i with
  | zero =>
    cases hu
    have e : (⟨b, 0, none⟩ : Addr).add (j * 1 + 0) = ⟨b, j, none⟩ := by unfold Addr.add; simp; omega
    show w.cell? ((⟨b, 0, none⟩ : Addr).add (j * 1 + 0)) = _
    rw [e, blk_cell hb j, he]
    simp [hj]
  | succ i => simp at hu
theorem amongX {w0 : World} {bs : List (Nat × Array Value × Nat)} {g : Nat} {code : List Int} {N : Int} (hc : By code) (hN : N ≤ 1000) (b : Nat) (l : List Int) (cs : Array Value) (hl : 1 ≤ l.length ∧ l.length ≤ 1000) (he : cs = (l.map (Value.int .i64)).toArray) (c : Nat) (hcl : l.length ≤ c) (w : World) (h : KS w0 ((b, cs, 3) :: bs) g code N w) :
    Calls Try.prog 51 #[.pointer (some ⟨g, 0, none⟩), .slice (some ⟨b, 0, none⟩) l.length c] w fun e w' => ∃ i : Int, e = .returned (.int .i64 i) ∧ KS w0 ((b, cs, 3) :: bs) g code (N + 2) w' := by
  obtain ⟨hK, hne, q, sd, hI, h0, h1⟩ := h
  obtain ⟨v, q', sd', hf, b0, b1⟩ := among_tot hc q sd l hl.1 h0 (by omega)
  exact (spec_l1Cur_among.calls g code q sd _ c l v q' sd' w0 w hI hK.1 (row_of_blk (hK.2.2 _ List.mem_cons_self).2 hl.2 he) hcl (fun ad had _ => by cases had; exact hne _ List.mem_cons_self) hf).mono fun e w' ⟨he, hi, hb, hk⟩ => ⟨v, he, KS.call ⟨hK, hne, q, sd, hI, h0, h1⟩ hi hb hk (by omega) (by omega)⟩
theorem bsA (w : World) : (Instr.buildSlice 37 4 #[(0, .int .i64 (-1001)), (1, .int .i64 (-1000)), (2, .int .i64 1000), (3, .int .i64 1001)]).run Try.prog w = .ok (.slice (some ⟨w.heap.size, 0, none⟩) 4 4) (w.alloc (.cells #[.int .i64 (-1001), .int .i64 (-1000), .int .i64 1000, .int .i64 1001] 3)) := by
  have h := Try.underlying37
  go_simp
theorem bsB (w : World) : (Instr.buildSlice 37 5 #[(0, .int .i64 (-1001)), (1, .int .i64 (-1000)), (2, .int .i64 0), (3, .int .i64 1000), (4, .int .i64 1001)]).run Try.prog w = .ok (.slice (some ⟨w.heap.size, 0, none⟩) 5 5) (w.alloc (.cells #[.int .i64 (-1001), .int .i64 (-1000), .int .i64 0, .int .i64 1000, .int .i64 1001] 3)) := by
  have h := Try.underlying37
  go_simp
theorem ret3 {n : Nat} {s : Sl} {a : Act} {w : World} {w0 : World} {fn : Func} {g2 : Nat} {i : Int × Int} {u v : Int} (hf : fn.results = #[.cell 2 23, .tmp 3, .tmp 4]) (ha : Sim n s a) (h2 : s 2 = some (.pointer (some ⟨g2, 0, none⟩))) (h3 : s 3 = some (.int .i64 u)) (h4 : s 4 = some (.int .i64 v))
    (b2 : w.heap[g2]? = some (.cells (W2 i) 23)) (hB : Below w0.heap.size w0 w) :
    bodyPost Try.prog fn (fun e w' => ∃ i : (Int × Int) × Int × Int, e = .returned (.tuple #[.agg #[.int .i64 i.1.1, .int .i64 i.1.2], .int .i64 i.2.1, .int .i64 i.2.2]) ∧ Below w0.heap.size w0 w') .ret a w := by
  have x4 := Vals.tmp (P := Try.prog) (u := 4) (Vals.nil (tmps := a.tmps) (w := w))
  rw [Sim.getD ha h4] at x4
  have x3 := Vals.tmp (u := 3) x4
  rw [Sim.getD ha h3] at x3
  have hv := Vals.cell (P := Try.prog) (ty := 23) g2 23 (W2 i) (0, 0) _ (Sim.getD (i := 2) ha h2) b2 Try.underlying23 rfl (by kernel_rfl) x3
  exact bodyPost_ret (results_list (rs := [.cell 2 23, .tmp 3, .tmp 4]) hf (by simp) hv) ha.1 ⟨(i, u, v), rfl, hB⟩
theorem KS.drop {w0 w : World} {bs : List (Nat × Array Value × Nat)} {b : Nat × Array Value × Nat} {g : Nat} {code : List Int} {N : Int} (h : KS w0 (b :: bs) g code N w) : KS w0 bs g code N w := ⟨h.1.sub, fun x hx => h.2.1 x (List.mem_cons_of_mem _ hx), h.2.2⟩
set_option maxRecDepth 100000 in
theorem drawHeight {code : List Int} (hc : By code) (A0 : Option Addr) (c0 : Nat) (w0 : World) (hr : Kd.C (Kd.int .u8) w0 A0 code.length code) :
    Calls Try.prog 30 #[.slice A0 code.length c0] w0 fun e w' => ∃ i : (Int × Int) × Int × Int, e = .returned (.tuple #[.agg #[.int .i64 i.1.1, .int .i64 i.1.2], .int .i64 i.2.1, .int .i64 i.2.2]) ∧ Below w0.heap.size w0 w' := by
  refine calls_start' (m := 28) (K w0 []) (K.nil w0) Try.func30 rfl Try.ntmps30 rfl (ofL [(0, .slice A0 code.length c0)]) (of_args _ _ rfl) ?_
  refine cw_seq (fun G1 h1 => ?_)
  refine cw_region ?_
  refine wl_alloc (fun g => K w0 [(g, Z2, 23)]) rfl rfl rfl rfl al23 (fun w hw => hw.alloc _ _) (fun g2 => ?_)
  refine wl_op rfl rfl rfl (pv_assign rfl rfl) (wl_op rfl rfl rfl (pv_assign rfl rfl) ?_)
  refine wl_end (s' := ofL [(0, .slice A0 code.length c0), (2, .pointer (some ⟨g2, 0, none⟩))]) (h1 _ _ ?_) (sub_cons rfl (sub_cons rfl sub_nil))
  refine cw_seq (fun G2 h2 => ?_)
  refine cw_region ?_
  refine wl_op rfl rfl rfl (pv_move rfl rfl) (wl_op rfl rfl rfl (pv_bld57 rfl rfl) ?_)
  refine wl_boxC (fun g => KS w0 [(g2, Z2, 23)] g code 0) rfl rfl rfl rfl rfl (box57 _ _ _) (fun w hw => KS.new hw hr) (fun g => ?_)
  refine wl_op rfl rfl rfl (pv_assign rfl rfl) ?_
  refine wl_end (s' := ofL [(2, .pointer (some ⟨g2, 0, none⟩)), (5, .pointer (some ⟨g, 0, none⟩))]) (h2 _ _ ?_) (sub_cons rfl (sub_cons rfl sub_nil))
  refine cw_seq (fun G3 h3 => ?_)
  refine cw_region ?_
  refine wl_op rfl rfl rfl (pv_move rfl rfl) ?_
  refine wl_callX (fun i : Int × Int => .agg (W2 i)) (fun _ => KS w0 [(g2, Z2, 23)] g code (0 + 8)) rfl rfl rfl rfl rfl Try.func49 (by kernel_rfl) rfl (fun w hw => spotX hc (by omega) w hw) (fun i => ?_)
  refine wl_alloc (fun b => KS w0 [(b, Z2, 23), (g2, Z2, 23)] g code (0 + 8)) rfl rfl rfl rfl al23 (fun w hw => hw.alloc _ _) (fun g6 => ?_)
  refine wl_store (KS w0 [(g6, W2 i, 23), (g2, Z2, 23)] g code (0 + 8)) rfl rfl rfl rfl rfl (fun w hw => KS.put23 _ _ hw) ?_
  refine wl_end (s' := ofL [(2, .pointer (some ⟨g2, 0, none⟩)), (5, .pointer (some ⟨g, 0, none⟩)), (6, .pointer (some ⟨g6, 0, none⟩))]) (h3 _ _ ?_) (sub_cons rfl (sub_cons rfl (sub_cons rfl sub_nil)))
  refine cw_seq (fun G4 h4 => ?_)
  have hE : GS (KS w0 [(g6, W2 i, 23), (g2, Z2, 23)] g code (0 + 8 + 2)) 28 G4 (ofL [(2, .pointer (some ⟨g2, 0, none⟩)), (5, .pointer (some ⟨g, 0, none⟩)), (6, .pointer (some ⟨g6, 0, none⟩))]) := by
    refine h4 _ _ ?_
    refine cw_seq (fun G5 h5 => ?_)
    refine cw_held (m := 10) (fun w => w.heap[g6]? = some (.cells (W2 i) 23)) (by kernel_rfl) rfl (fun w hw => hw.below (drawn_below w)) ?_
    refine wa_take (i := 0) (listed' := #[true, false, false, false, false, false, false, false, false, false]) rfl (by kernel_rfl) (by kernel_rfl) (by kernel_rfl) (fun _ _ _ h => h) rfl rfl rfl (by kernel_rfl) (rv_load rfl rfl (fun w hw => ld23 _ _ g6 w hw)) (fun w hw => (hw.1.2.2 (g6, W2 i, 23) (by simp)).2) ?_
    refine wa_take (i := 1) (listed' := #[true, true, false, false, false, false, false, false, false, false]) rfl (by kernel_rfl) (by kernel_rfl) (by kernel_rfl) (fun _ _ _ h => h) rfl rfl rfl (by kernel_rfl) (rv_move rfl rfl) (fun w hw => (hw.1.2.2 (g6, W2 i, 23) (by simp)).2) ?_
    refine wa_take (i := 4) (listed' := #[true, true, false, false, true, false, false, false, false, false]) rfl (by kernel_rfl) (by kernel_rfl) (by kernel_rfl) (fun _ _ _ h => h) rfl rfl rfl (by kernel_rfl) (rv_move rfl rfl) (fun w hw => (hw.1.2.2 (g6, W2 i, 23) (by simp)).2) ?_
    refine wa_call (i := 2) (listed' := #[true, true, true, false, true, false, false, false, false, false]) (fun i : Int => .int .i64 i) (fun _ => KS w0 [(g6, W2 i, 23), (g2, Z2, 23)] g code (0 + 8 + 2 + 2)) rfl (by kernel_rfl) (by kernel_rfl) rfl rfl rfl rfl rfl Try.func52 (by kernel_rfl) rfl (fun w hw => pickX hc (by omega) 30 w hw) (fun _ w hw => (hw.1.2.2 (g6, W2 i, 23) (by simp)).2) (fun u => ?_)
    refine wa_take (i := 3) (listed' := #[true, true, true, true, true, false, false, false, false, false]) rfl (by kernel_rfl) (by kernel_rfl) (by kernel_rfl) (fun _ _ _ h => h) rfl rfl rfl (by kernel_rfl) (rv_bin rfl rfl rfl (fun _ => b_sub Try.underlying3)) (fun w hw => (hw.1.2.2 (g6, W2 i, 23) (by simp)).2) ?_
    refine wa_call (i := 5) (listed' := #[true, true, true, true, true, true, false, false, false, false]) (fun i : Int => .int .i64 i) (fun _ => K w0 [(g2, Z2, 23), (g6, W2 i, 23)]) rfl (by kernel_rfl) (by kernel_rfl) rfl rfl rfl rfl rfl Try.func52 (by kernel_rfl) rfl (fun w hw => (pickX hc (by omega) 30 w hw).mono fun e w' ⟨i, he, h⟩ => ⟨i, he, h.k.swap⟩) (fun _ w hw => (hw.2.2 (g6, W2 i, 23) (by simp)).2) (fun v => ?_)
    refine wa_take (i := 6) (listed' := #[true, true, true, true, true, true, true, false, false, false]) rfl (by kernel_rfl) (by kernel_rfl) (by kernel_rfl) (fun _ _ _ h => h) rfl rfl rfl (by kernel_rfl) (rv_bin rfl rfl rfl (fun _ => b_sub Try.underlying3)) (fun w hw => (hw.2.2 (g6, W2 i, 23) (by simp)).2) ?_
    refine wa_store (i := 7) (listed' := #[true, true, true, true, true, true, true, true, false, false]) (K w0 [(g2, W2 i, 23), (g6, W2 i, 23)]) rfl (by kernel_rfl) (by kernel_rfl) rfl rfl rfl rfl rfl (fun w hw => by
        obtain ⟨w', e1, e2, _⟩ := K.put23 i.1 i.2 hw
        exact ⟨w', e1, e2⟩) (fun w hw => (hw.2.2 (g6, W2 i, 23) (by simp)).2) ?_
    refine wa_one (i := 8) (listed' := #[true, true, true, true, true, true, true, true, true, false]) rfl (by kernel_rfl) (by kernel_rfl) rfl rfl rfl (rv_assign rfl rfl) (fun w hw => (hw.2.2 (g6, W2 i, 23) (by simp)).2) ?_
    refine wa_one (i := 9) (listed' := #[true, true, true, true, true, true, true, true, true, true]) rfl (by kernel_rfl) (by kernel_rfl) rfl rfl rfl (rv_assign rfl rfl) (fun w hw => (hw.2.2 (g6, W2 i, 23) (by simp)).2) ?_
    refine wa_done (s' := ofL [(2, .pointer (some ⟨g2, 0, none⟩)), (3, .int .i64 (wrap64 (u - 8))), (4, .int .i64 (wrap64 (v - 8)))]) (by kernel_rfl) (sub_cons rfl (sub_cons rfl (sub_cons rfl sub_nil))) (h5 _ _ ?_)
    exact cw_ret (fun a w ha hw => ret3 rfl ha rfl rfl rfl (hw.2.2 (g2, W2 i, 23) (by simp)).2 hw.1)
  refine cw_seq (fun G6 h6 => ?_)
  refine cw_region ?_
  refine wl_op rfl rfl rfl (pv_move rfl rfl) ?_
  refine wl_callX (fun b : Bool => .bool b) (fun _ => KS w0 [(g6, W2 i, 23), (g2, Z2, 23)] g code (0 + 8 + 2)) rfl rfl rfl rfl rfl Try.func50 (by kernel_rfl) rfl (fun w hw => oneX hc (by omega) 8 w hw) (fun b => ?_)
  refine wl_end (s' := ofL [(2, .pointer (some ⟨g2, 0, none⟩)), (5, .pointer (some ⟨g, 0, none⟩)), (6, .pointer (some ⟨g6, 0, none⟩)), (13, .bool b)]) (h6 _ _ ?_) (sub_cons rfl (sub_cons rfl (sub_cons rfl (sub_cons rfl sub_nil))))
  refine cw_cond (b := b) rfl (fun hb => ?_) (fun hb => cw_skip (GS.sub hE (sub_cons rfl (sub_cons rfl (sub_cons rfl sub_nil)))))
  refine cw_seq (fun G7 h7 => ?_)
  refine cw_held (m := 10) (fun w => w.heap[g6]? = some (.cells (W2 i) 23)) (by kernel_rfl) rfl (fun w hw => hw.below (drawn_below w)) ?_
  refine wa_take (i := 0) (listed' := #[true, false, false, false, false, false, false, false, false, false]) rfl (by kernel_rfl) (by kernel_rfl) (by kernel_rfl) (fun _ _ _ h => h) rfl rfl rfl (by kernel_rfl) (rv_load rfl rfl (fun w hw => ld23 _ _ g6 w hw)) (fun w hw => (hw.1.2.2 (g6, W2 i, 23) (by simp)).2) ?_
  refine wa_take (i := 1) (listed' := #[true, true, false, false, false, false, false, false, false, false]) rfl (by kernel_rfl) (by kernel_rfl) (by kernel_rfl) (fun _ _ _ h => h) rfl rfl rfl (by kernel_rfl) (rv_move rfl rfl) (fun w hw => (hw.1.2.2 (g6, W2 i, 23) (by simp)).2) ?_
  refine wa_take (i := 4) (listed' := #[true, true, false, false, true, false, false, false, false, false]) rfl (by kernel_rfl) (by kernel_rfl) (by kernel_rfl) (fun _ _ _ h => h) rfl rfl rfl (by kernel_rfl) (rv_move rfl rfl) (fun w hw => (hw.1.2.2 (g6, W2 i, 23) (by simp)).2) ?_
  refine wa_cut (ι := Int × Nat) (fun p => KS w0 ((p.2, #[.int .i64 (-1001), .int .i64 (-1000), .int .i64 0, .int .i64 1000, .int .i64 1001], 3) :: [(g6, W2 i, 23), (g2, Z2, 23)]) g code (0 + 8 + 2 + 2)) (fun p => ofL [(2, .pointer (some ⟨g2, 0, none⟩)), (14, .agg (W2 i)), (17, .int .i64 p.1), (18, .pointer (some ⟨g, 0, none⟩)), (19, .slice (some ⟨p.2, 0, none⟩) 5 5)]) 4 #[true, true, true, true, true, true, false, false, false, false] (fun ⟨u, b5⟩ => ?_) (fun hT => ?_)
  ·
    refine wa_call (i := 6) (listed' := #[true, true, true, true, true, true, true, false, false, false]) (fun i : Int => .int .i64 i) (fun _ => K w0 [(g2, Z2, 23), (g6, W2 i, 23)]) rfl (by kernel_rfl) (by kernel_rfl) rfl rfl rfl rfl rfl Try.func51 (by kernel_rfl) rfl (fun w hw => (amongX hc (by omega) b5 [-1001, -1000, 0, 1000, 1001] _ (by simp) rfl 5 (by simp) w hw).mono fun e w' ⟨i, he, h⟩ => ⟨i, he, h.drop.k.swap⟩) (fun _ w hw => (hw.2.2 (g6, W2 i, 23) (by simp)).2) (fun v => ?_)
    refine wa_store (i := 7) (listed' := #[true, true, true, true, true, true, true, true, false, false]) (K w0 [(g2, W2 i, 23), (g6, W2 i, 23)]) rfl (by kernel_rfl) (by kernel_rfl) rfl rfl rfl rfl rfl (fun w hw => by
        obtain ⟨w', e1, e2, _⟩ := K.put23 i.1 i.2 hw
        exact ⟨w', e1, e2⟩) (fun w hw => (hw.2.2 (g6, W2 i, 23) (by simp)).2) ?_
    refine wa_one (i := 8) (listed' := #[true, true, true, true, true, true, true, true, true, false]) rfl (by kernel_rfl) (by kernel_rfl) rfl rfl rfl (rv_assign rfl rfl) (fun w hw => (hw.2.2 (g6, W2 i, 23) (by simp)).2) ?_
    refine wa_one (i := 9) (listed' := #[true, true, true, true, true, true, true, true, true, true]) rfl (by kernel_rfl) (by kernel_rfl) rfl rfl rfl (rv_assign rfl rfl) (fun w hw => (hw.2.2 (g6, W2 i, 23) (by simp)).2) ?_
    refine wa_done (s' := ofL [(2, .pointer (some ⟨g2, 0, none⟩)), (3, .int .i64 u), (4, .int .i64 v)]) (by kernel_rfl) (sub_cons rfl (sub_cons rfl (sub_cons rfl sub_nil))) (h7 _ _ ?_)
    exact cw_ret (fun a w ha hw => ret3 rfl ha rfl rfl rfl (hw.2.2 (g2, W2 i, 23) (by simp)).2 hw.1)
  refine wa_fork (i := 2) (j := 5) (by kernel_rfl) (wi_build (i := 2) (listed' := #[true, true, true, false, true, false, false, false, false, false]) (fun b : Nat => .slice (some ⟨b, 0, none⟩) 4 4) (fun b => KS w0 ((b, #[.int .i64 (-1001), .int .i64 (-1000), .int .i64 1000, .int .i64 1001], 3) :: [(g6, W2 i, 23), (g2, Z2, 23)]) g code (0 + 8 + 2)) rfl (by kernel_rfl) rfl rfl rfl rfl (fun a => by simp only [List.map_toArray, List.map_cons, List.map_nil]; rfl) (fun w hw => ⟨w.heap.size, _, bsA w, hw.alloc _ _⟩) (fun _ w hw => (hw.1.2.2 (g6, W2 i, 23) (by simp)).2) (fun b4 => ?_)) (wi_build (i := 5) (listed' := #[true, true, false, false, true, true, false, false, false, false]) (fun b : Nat => .slice (some ⟨b, 0, none⟩) 5 5) (fun b => KS w0 ((b, #[.int .i64 (-1001), .int .i64 (-1000), .int .i64 0, .int .i64 1000, .int .i64 1001], 3) :: [(g6, W2 i, 23), (g2, Z2, 23)]) g code (0 + 8 + 2)) rfl (by kernel_rfl) rfl rfl rfl rfl (fun a => by simp only [List.map_toArray, List.map_cons, List.map_nil]; rfl) (fun w hw => ⟨w.heap.size, _, bsB w, hw.alloc _ _⟩) (fun _ w hw => (hw.1.2.2 (g6, W2 i, 23) (by simp)).2) (fun b5 => ?_))
  · refine wa_fork (i := 3) (j := 5) (by kernel_rfl) (wi_call (i := 3) (listed' := #[true, true, true, true, true, false, false, false, false, false]) (fun i : Int => .int .i64 i) (fun _ => KS w0 [(g6, W2 i, 23), (g2, Z2, 23)] g code (0 + 8 + 2 + 2)) rfl (by kernel_rfl) rfl rfl rfl rfl rfl Try.func51 (by kernel_rfl) rfl (fun w hw => (amongX hc (by omega) b4 [-1001, -1000, 1000, 1001] _ (by simp) rfl 4 (by simp) w hw).mono fun e w' ⟨i, he, h⟩ => ⟨i, he, h.drop⟩) (fun _ w hw => (hw.1.2.2 (g6, W2 i, 23) (by simp)).2) (fun u => ?_)) (wi_build (i := 5) (listed' := #[true, true, true, false, true, true, false, false, false, false]) (fun b : Nat => .slice (some ⟨b, 0, none⟩) 5 5) (fun b => KS w0 ((b, #[.int .i64 (-1001), .int .i64 (-1000), .int .i64 0, .int .i64 1000, .int .i64 1001], 3) :: (b4, #[.int .i64 (-1001), .int .i64 (-1000), .int .i64 1000, .int .i64 1001], 3) :: [(g6, W2 i, 23), (g2, Z2, 23)]) g code (0 + 8 + 2)) rfl (by kernel_rfl) rfl rfl rfl rfl (fun a => by simp only [List.map_toArray, List.map_cons, List.map_nil]; rfl) (fun w hw => ⟨w.heap.size, _, bsB w, hw.alloc _ _⟩) (fun _ w hw => (hw.1.2.2 (g6, W2 i, 23) (by simp)).2) (fun b5 => ?_))
    · refine wa_sole (i := 5) (by kernel_rfl) (wi_build (i := 5) (listed' := #[true, true, true, true, true, true, false, false, false, false]) (fun b : Nat => .slice (some ⟨b, 0, none⟩) 5 5) (fun b => KS w0 ((b, #[.int .i64 (-1001), .int .i64 (-1000), .int .i64 0, .int .i64 1000, .int .i64 1001], 3) :: [(g6, W2 i, 23), (g2, Z2, 23)]) g code (0 + 8 + 2 + 2)) rfl (by kernel_rfl) rfl rfl rfl rfl (fun a => by simp only [List.map_toArray, List.map_cons, List.map_nil]; rfl) (fun w hw => ⟨w.heap.size, _, bsB w, hw.alloc _ _⟩) (fun _ w hw => (hw.1.2.2 (g6, W2 i, 23) (by simp)).2) (fun b5 => ?_))
      exact wa_sub (hT (u, b5)) (fun w hw => hw) (sub_cons rfl (sub_cons rfl (sub_cons rfl (sub_cons rfl (sub_cons rfl sub_nil)))))
    · refine wa_sole (i := 3) (by kernel_rfl) (wi_call (i := 3) (listed' := #[true, true, true, true, true, true, false, false, false, false]) (fun i : Int => .int .i64 i) (fun _ => KS w0 ((b5, #[.int .i64 (-1001), .int .i64 (-1000), .int .i64 0, .int .i64 1000, .int .i64 1001], 3) :: [(g6, W2 i, 23), (g2, Z2, 23)]) g code (0 + 8 + 2 + 2)) rfl (by kernel_rfl) rfl rfl rfl rfl rfl Try.func51 (by kernel_rfl) rfl (fun w hw => (amongX hc (by omega) b4 [-1001, -1000, 1000, 1001] _ (by simp) rfl 4 (by simp) w hw.swap).mono fun e w' ⟨i, he, h⟩ => ⟨i, he, h.drop⟩) (fun _ w hw => (hw.1.2.2 (g6, W2 i, 23) (by simp)).2) (fun u => ?_))
      exact wa_sub (hT (u, b5)) (fun w hw => hw) (sub_cons rfl (sub_cons rfl (sub_cons rfl (sub_cons rfl (sub_cons rfl sub_nil)))))
  · refine wa_sole (i := 2) (by kernel_rfl) (wi_build (i := 2) (listed' := #[true, true, true, false, true, true, false, false, false, false]) (fun b : Nat => .slice (some ⟨b, 0, none⟩) 4 4) (fun b => KS w0 ((b, #[.int .i64 (-1001), .int .i64 (-1000), .int .i64 1000, .int .i64 1001], 3) :: (b5, #[.int .i64 (-1001), .int .i64 (-1000), .int .i64 0, .int .i64 1000, .int .i64 1001], 3) :: [(g6, W2 i, 23), (g2, Z2, 23)]) g code (0 + 8 + 2)) rfl (by kernel_rfl) rfl rfl rfl rfl (fun a => by simp only [List.map_toArray, List.map_cons, List.map_nil]; rfl) (fun w hw => ⟨w.heap.size, _, bsA w, hw.alloc _ _⟩) (fun _ w hw => (hw.1.2.2 (g6, W2 i, 23) (by simp)).2) (fun b4 => ?_))
    refine wa_sole (i := 3) (by kernel_rfl) (wi_call (i := 3) (listed' := #[true, true, true, true, true, true, false, false, false, false]) (fun i : Int => .int .i64 i) (fun _ => KS w0 ((b5, #[.int .i64 (-1001), .int .i64 (-1000), .int .i64 0, .int .i64 1000, .int .i64 1001], 3) :: [(g6, W2 i, 23), (g2, Z2, 23)]) g code (0 + 8 + 2 + 2)) rfl (by kernel_rfl) rfl rfl rfl rfl rfl Try.func51 (by kernel_rfl) rfl (fun w hw => (amongX hc (by omega) b4 [-1001, -1000, 1000, 1001] _ (by simp) rfl 4 (by simp) w hw).mono fun e w' ⟨i, he, h⟩ => ⟨i, he, h.drop⟩) (fun _ w hw => (hw.1.2.2 (g6, W2 i, 23) (by simp)).2) (fun u => ?_))
    exact wa_sub (hT (u, b5)) (fun w hw => hw) (sub_cons rfl (sub_cons rfl (sub_cons rfl (sub_cons rfl (sub_cons rfl sub_nil)))))
end Go.Proofs.Ythjkpjncamahhaa.DwFnWaysReflect
