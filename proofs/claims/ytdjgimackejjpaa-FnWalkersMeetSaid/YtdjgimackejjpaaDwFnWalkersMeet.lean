/- What is drawn out of bytes: each draw yields some numbers, and stays within its state. No condition. -/
import Derived.Test.YtdjgimackejjpaaQFnWalkersMeetx0
import Derived.Test.YtdjgimackejjpaaQFnWalkersMeetx1
import Derived.Test.YtdjgimackejjpaaQFnWalkersMeetx2
import Derived.Test.YtdjgimackejjpaaQFnWalkersMeetx3
import Derived.Test.YtdjgimackejjpaaQFnWalkersMeetx4
import Derived.Test.YtdjgimackejjpaaQFnWalkersMeetx5
import Derived.Test.YtdjgimackejjpaaDrw
import Derived.Laws.BitsLemmas
namespace Go.Proofs.Ytdjgimackejjpaa.DwFnWalkersMeet
open Go Go.RowKit Go.Proofs.Ytdjgimackejjpaa.E Go.Proofs.Ytdjgimackejjpaa.PFnWalkersMeet Go.Proofs.YtdjgimackejjpaaW.PrintWords Go.Proofs.YtdjgimackejjpaaW.PrintLast
set_option linter.unusedVariables false
def By (l : List Int) : Prop := ∀ x ∈ l, 0 ≤ x ∧ x ≤ 255
theorem wid {n : Int} (h : -9223372036854775808 ≤ n) (h' : n ≤ 9223372036854775807) : wrap64 n = n := by unfold wrap64; omega
theorem rd_by {l : List Int} (h : By l) {i : Int} (h0 : 0 ≤ i) (h1 : i < l.length) : 0 ≤ rd l i ∧ rd l i ≤ 255 := by
  unfold rd
  have hlt : i.toNat < l.length := by omega
  rw [List.getD_eq_getElem?_getD, List.getElem?_eq_getElem hlt]
  exact h _ (List.getElem_mem hlt)
theorem and255 (x : Int) : 0 ≤ Go.bits .and .u64 ((IntKind.u64.wrap x) / 1099511627776) 255 ∧ Go.bits .and .u64 ((IntKind.u64.wrap x) / 1099511627776) 255 ≤ 255 := by
  have hw : ∀ n : Int, IntKind.u64.wrap n = n % 18446744073709551616 := fun n => by simp [IntKind.wrap, IntKind.bits, IntKind.signed]
  have h := bits_mask .u64 32 (by decide) (fun n h0 h1 => by rw [hw]; omega) 8 (by decide) ((IntKind.u64.wrap x) / 1099511627776) (by rw [hw]; omega) (by rw [hw]; omega)
  rw [show ((2 : Int) ^ 8 - 1) = 255 by decide, show ((2 : Int) ^ 8) = 256 by decide] at h
  rw [h]
  omega
section
variable {code : List Int} (hc : By code)
include hc
theorem next_tot (q sd : Int) (h0 : 0 ≤ q) (h1 : q ≤ 1000000000) : ∃ v sd', spec_l1Cur_next.f code q sd = some (v, q + 1, sd') ∧ 0 ≤ v ∧ v ≤ 255 := by
  have e : wrap64 (q + 1) = q + 1 := wid (by omega) (by omega)
  unfold spec_l1Cur_next.f
  rw [e]
  by_cases c1 : q < (code.length : Int)
  · rw [if_pos c1, if_pos h0]
    have hb := rd_by hc h0 c1
    rw [wid (n := rd code q) (by omega) (by omega)]
    by_cases c2 : q + 1 ≤ (code.length : Int)
    · rw [if_pos c2]; exact ⟨_, _, rfl, hb.1, hb.2⟩
    · omega
  · rw [if_neg c1]
    by_cases c2 : q + 1 ≤ (code.length : Int)
    · omega
    · rw [if_neg c2]
      have hb := and255 (IntKind.u64.wrap (IntKind.u64.wrap (sd * 6364136223846793005) + 0) + 1442695040888963407)
      rw [wid (n := Go.bits .and .u64 _ 255) (by omega) (by omega)]
      exact ⟨_, _, rfl, hb.1, hb.2⟩
theorem pick_tot (q sd n : Int) (h0 : 0 ≤ q) (h1 : q ≤ 999999990) : ∃ v q' sd', spec_l1Cur_pick.f code q sd n = some (v, q', sd') ∧ 0 ≤ v ∧ (1 ≤ n → v < n) ∧ q ≤ q' ∧ q' ≤ q + 2 := by
  unfold spec_l1Cur_pick.f
  by_cases c1 : n ≤ 1
  · rw [if_pos c1]; exact ⟨_, _, _, rfl, by omega, by omega, by omega, by omega⟩
  · rw [if_neg c1]
    obtain ⟨v, s1, e1, b1, b2⟩ := next_tot hc q sd h0 (by omega)
    rw [e1]
    simp only [Option.bind_some]
    by_cases c2 : n > 200
    · rw [if_pos c2]
      obtain ⟨v2, s2, e2, b3, b4⟩ := next_tot hc (q + 1) s1 (by omega) (by omega)
      rw [e2]
      simp only [Option.bind_some]
      rw [if_neg (by omega), wid (n := v * 256) (by omega) (by omega), wid (n := v * 256 + v2) (by omega) (by omega), Int.tmod_eq_emod_of_nonneg (by omega)]
      exact ⟨_, _, _, rfl, Int.emod_nonneg _ (by omega), fun _ => Int.emod_lt_of_pos _ (by omega), by omega, by omega⟩
    · rw [if_neg c2, if_neg (by omega), Int.tmod_eq_emod_of_nonneg (by omega)]
      exact ⟨_, _, _, rfl, Int.emod_nonneg _ (by omega), fun _ => Int.emod_lt_of_pos _ (by omega), by omega, by omega⟩
theorem among_tot (q sd : Int) (l : List Int) (hl : 1 ≤ l.length) (h0 : 0 ≤ q) (h1 : q ≤ 999999990) : ∃ v q' sd', spec_l1Cur_among.f code q sd l = some (v, q', sd') ∧ q ≤ q' ∧ q' ≤ q + 2 := by
  unfold spec_l1Cur_among.f
  obtain ⟨v, q', s', e, b1, b2, b3, b4⟩ := pick_tot hc q sd (l.length : Int) h0 h1
  rw [e]
  simp only [Option.bind_some]
  rw [if_pos b1, if_pos (b2 (by omega))]
  exact ⟨_, _, _, rfl, b3, b4⟩
theorem one_tot (q sd n : Int) (h0 : 0 ≤ q) (h1 : q ≤ 999999990) : ∃ v q' sd', spec_l1Cur_one.f code q sd n = some (v, q', sd') ∧ q ≤ q' ∧ q' ≤ q + 2 := by
  unfold spec_l1Cur_one.f
  obtain ⟨v, q', s', e, b1, b2, b3, b4⟩ := pick_tot hc q sd n h0 h1
  rw [e]
  exact ⟨_, _, _, rfl, b3, b4⟩
theorem lamp_tot (q sd : Int) (h0 : 0 ≤ q) (h1 : q ≤ 999990000) : ∃ v q' sd', spec_l1Cur_lamp.f code q sd = some (v, q', sd') ∧ q ≤ q' ∧ q' ≤ q + 4 := by
  unfold spec_l1Cur_lamp.f
  obtain ⟨v, q1, s1, e, b1, b2⟩ := one_tot hc q sd 14 h0 (by omega)
  rw [e]
  simp only [Option.bind_some]
  cases v with
  | true =>
    obtain ⟨v, q2, s2, e2, b3, b4⟩ := among_tot hc q1 s1 [0, 1, (-1), 200, 201, 4611686018427387904] (by simp) (by omega) (by omega)
    rw [if_pos rfl, e2]
    exact ⟨_, q2, s2, rfl, by omega, by omega⟩
  | false =>
    obtain ⟨v, q2, s2, e2, _, _, b3, b4⟩ := pick_tot hc q1 s1 9 (by omega) (by omega)
    rw [if_neg (by decide), e2]
    exact ⟨_, q2, s2, rfl, by omega, by omega⟩
theorem away_tot (q sd : Int) (h0 : 0 ≤ q) (h1 : q ≤ 999990000) : ∃ v q' sd', spec_l1Cur_away.f code q sd = some (v, q', sd') ∧ q ≤ q' ∧ q' ≤ q + 4 := by
  unfold spec_l1Cur_away.f
  obtain ⟨v, q1, s1, e, b1, b2⟩ := one_tot hc q sd 10 h0 (by omega)
  rw [e]
  simp only [Option.bind_some]
  cases v with
  | true =>
    obtain ⟨v, q2, s2, e2, b3, b4⟩ := among_tot hc q1 s1 [(-1), 60, 61, 4611686018427387904] (by simp) (by omega) (by omega)
    rw [if_pos rfl, e2]
    exact ⟨_, q2, s2, rfl, by omega, by omega⟩
  | false =>
    obtain ⟨v, q2, s2, e2, _, _, b3, b4⟩ := pick_tot hc q1 s1 8 (by omega) (by omega)
    rw [if_neg (by decide), e2]
    exact ⟨_, q2, s2, rfl, by omega, by omega⟩
theorem shadow_tot (q sd : Int) (h0 : 0 ≤ q) (h1 : q ≤ 999990000) : ∃ v q' sd', spec_l1Cur_shadow.f code q sd = some (v, q', sd') ∧ q ≤ q' ∧ q' ≤ q + 4 := by
  unfold spec_l1Cur_shadow.f
  obtain ⟨v, q1, s1, e, b1, b2⟩ := one_tot hc q sd 12 h0 (by omega)
  rw [e]
  simp only [Option.bind_some]
  cases v with
  | true =>
    obtain ⟨v, q2, s2, e2, b3, b4⟩ := among_tot hc q1 s1 [0, (-1), 500, 501, 4611686018427387904] (by simp) (by omega) (by omega)
    rw [if_pos rfl, e2]
    exact ⟨_, q2, s2, rfl, by omega, by omega⟩
  | false =>
    obtain ⟨v, q2, s2, e2, _, _, b3, b4⟩ := pick_tot hc q1 s1 12 (by omega) (by omega)
    rw [if_neg (by decide), e2]
    exact ⟨_, q2, s2, rfl, by omega, by omega⟩
theorem walker_tot (q sd : Int) (h0 : 0 ≤ q) (h1 : q ≤ 999990000) : ∃ v1 v2 v3 q' sd', spec_l1Cur_walker.f code q sd = some (v1, v2, v3, q', sd') ∧ q ≤ q' ∧ q' ≤ q + 10 := by
  unfold spec_l1Cur_walker.f spec_l1Cur_sureWalker.f
  obtain ⟨p1, q1, s1, e1, _, _, b1, b2⟩ := pick_tot hc q sd 3 h0 (by omega)
  rw [e1]
  simp only [Option.bind_some]
  obtain ⟨p2, q2, s2, e2, _, _, b3, b4⟩ := pick_tot hc q1 s1 13 (by omega) (by omega)
  rw [e2]
  simp only [Option.bind_some]
  obtain ⟨p3, q3, s3, e3, _, _, b5, b6⟩ := pick_tot hc q2 s2 9 (by omega) (by omega)
  rw [e3]
  simp only [Option.bind_some]
  obtain ⟨p4, q4, s4, e4, _, _, b7, b8⟩ := pick_tot hc q3 s3 16 (by omega) (by omega)
  rw [e4]
  simp only [Option.bind_some]
  split
  · obtain ⟨v, q5, s5, e5, b9, b10⟩ := among_tot hc q4 s4 [0, (-1), 9, 200, 4611686018427387904] (by simp) (by omega) (by omega)
    rw [e5]
    exact ⟨_, _, _, q5, s5, rfl, by omega, by omega⟩
  · split
    · obtain ⟨v, q5, s5, e5, b9, b10⟩ := among_tot hc q4 s4 [(-1), 500, 501, 4611686018427387904] (by simp) (by omega) (by omega)
      rw [e5]
      exact ⟨_, _, _, q5, s5, rfl, by omega, by omega⟩
    · split
      · obtain ⟨v, q5, s5, e5, b9, b10⟩ := among_tot hc q4 s4 [(-50), 50, 51, (-51), 4611686018427387904] (by simp) (by omega) (by omega)
        rw [e5]
        exact ⟨_, _, _, q5, s5, rfl, by omega, by omega⟩
      · exact ⟨_, _, _, q4, s4, rfl, by omega, by omega⟩

end
/-! ### the state beside variables in memory -/
def KS (w0 : World) (bs : List (Nat × Array Value × Nat)) (g : Nat) (code : List Int) (N : Int) (w : World) : Prop := K w0 bs w ∧ (∀ b ∈ bs, b.1 ≠ g) ∧ ∃ q sd, IsS57 w0 w g code q sd ∧ 0 ≤ q ∧ q ≤ N
section
variable {w0 w w' : World} {bs : List (Nat × Array Value × Nat)} {g : Nat} {code : List Int} {N : Int}
theorem KS.alloc (h : KS w0 bs g code N w) (cs : Array Value) (t : Nat) : KS w0 ((w.heap.size, cs, t) :: bs) g code N (w.alloc (.cells cs t)) := by
  obtain ⟨h1, h2, q, sd, h3, h4⟩ := h
  refine ⟨h1.alloc cs t, fun b hb => ?_, q, sd, IsS57.alloc h3 _, h4⟩
  rcases List.mem_cons.1 hb with rfl | hb
  · exact fun e => absurd e (Nat.ne_of_gt (IsS57.lt h3))
  · exact h2 b hb
theorem KS.below (h : KS w0 bs g code N w) (hb : Below w.heap.size w w') : KS w0 bs g code N w' := by
  obtain ⟨h1, h2, q, sd, h3, h4⟩ := h
  exact ⟨h1.below hb, h2, q, sd, IsS57.below h3 hb, h4⟩
theorem KS.call {q' sd' : Int} (h : KS w0 bs g code N w) (hi : IsS57 w0 w' g code q' sd') (hb : Below w0.heap.size w0 w') (hk : KeepBut w w' g none) {M : Int} (h0 : 0 ≤ q') (h1 : q' ≤ M) : KS w0 bs g code M w' :=
  ⟨⟨hb, h.1.2.1, fun b hb' => ⟨(h.1.2.2 b hb').1, KeepBut.blk hk (h.1.2.2 b hb').2 (h.2.1 b hb') (by simp)⟩⟩, h.2.1, q', sd', hi, h0, h1⟩
theorem KS.new (h : K w0 bs w) {A0 : Option Addr} {c0 : Nat} (hr : Kd.C (Kd.int .u8) w0 A0 code.length code) : KS w0 bs w.heap.size code 0 (w.alloc (.cells #[.slice A0 code.length c0, .int .i64 0, .int .u64 0] 57)) :=
  ⟨h.below (below_alloc (Below.refl _ _) _), fun b hb => Nat.ne_of_lt (h.lt b hb), 0, 0, IsS57.new w0 w A0 c0 code 0 0 h.1 hr, Int.le_refl _, Int.le_refl _⟩
end
section
variable {w0 : World} {bs : List (Nat × Array Value × Nat)} {g : Nat} {code : List Int} {N : Int} (hc : By code) (hN : N ≤ 1000)
include hc hN
theorem lampX (w : World) (h : KS w0 bs g code N w) : Calls Try.prog 38 #[.pointer (some ⟨g, 0, none⟩)] w fun e w' => ∃ i : Int, e = .returned (.int .i64 i) ∧ KS w0 bs g code (N + 4) w' := by
  obtain ⟨hK, hne, q, sd, hI, h0, h1⟩ := h
  obtain ⟨v1, q', sd', hf, b0, b1⟩ := lamp_tot hc q sd h0 (by omega)
  exact (spec_l1Cur_lamp.calls g code q sd v1 q' sd' w0 w hI hK.1 hf).mono fun e w' ⟨he, hi, hb, hk⟩ => ⟨v1, he, KS.call ⟨hK, hne, q, sd, hI, h0, h1⟩ hi hb hk (by omega) (by omega)⟩
theorem awayX (w : World) (h : KS w0 bs g code N w) : Calls Try.prog 40 #[.pointer (some ⟨g, 0, none⟩)] w fun e w' => ∃ i : Int, e = .returned (.int .i64 i) ∧ KS w0 bs g code (N + 4) w' := by
  obtain ⟨hK, hne, q, sd, hI, h0, h1⟩ := h
  obtain ⟨v1, q', sd', hf, b0, b1⟩ := away_tot hc q sd h0 (by omega)
  exact (spec_l1Cur_away.calls g code q sd v1 q' sd' w0 w hI hK.1 hf).mono fun e w' ⟨he, hi, hb, hk⟩ => ⟨v1, he, KS.call ⟨hK, hne, q, sd, hI, h0, h1⟩ hi hb hk (by omega) (by omega)⟩
theorem shadowX (w : World) (h : KS w0 bs g code N w) : Calls Try.prog 41 #[.pointer (some ⟨g, 0, none⟩)] w fun e w' => ∃ i : Int, e = .returned (.int .i64 i) ∧ KS w0 bs g code (N + 4) w' := by
  obtain ⟨hK, hne, q, sd, hI, h0, h1⟩ := h
  obtain ⟨v1, q', sd', hf, b0, b1⟩ := shadow_tot hc q sd h0 (by omega)
  exact (spec_l1Cur_shadow.calls g code q sd v1 q' sd' w0 w hI hK.1 hf).mono fun e w' ⟨he, hi, hb, hk⟩ => ⟨v1, he, KS.call ⟨hK, hne, q, sd, hI, h0, h1⟩ hi hb hk (by omega) (by omega)⟩
theorem walkerX (w : World) (h : KS w0 bs g code N w) : Calls Try.prog 39 #[.pointer (some ⟨g, 0, none⟩)] w fun e w' => ∃ i : Int × Int × Int, e = .returned (.agg #[.int .i64 i.1, .int .i64 i.2.1, .int .i64 i.2.2]) ∧ KS w0 bs g code (N + 10) w' := by
  obtain ⟨hK, hne, q, sd, hI, h0, h1⟩ := h
  obtain ⟨v1, v2, v3, q', sd', hf, b0, b1⟩ := walker_tot hc q sd h0 (by omega)
  exact (spec_l1Cur_walker.calls g code q sd v1 v2 v3 q' sd' w0 w hI hK.1 hf).mono fun e w' ⟨he, hi, hb, hk⟩ => ⟨(v1, v2, v3), he, KS.call ⟨hK, hne, q, sd, hI, h0, h1⟩ hi hb hk (by omega) (by omega)⟩
theorem pickX (n : Int) (w : World) (h : KS w0 bs g code N w) : Calls Try.prog 42 #[.pointer (some ⟨g, 0, none⟩), .int .i64 n] w fun e w' => ∃ i : Int, e = .returned (.int .i64 i) ∧ KS w0 bs g code (N + 2) w' := by
  obtain ⟨hK, hne, q, sd, hI, h0, h1⟩ := h
  obtain ⟨v, q', sd', hf, _, _, b0, b1⟩ := pick_tot hc q sd n h0 (by omega)
  exact (spec_l1Cur_pick.calls g code q sd n v q' sd' w0 w hI hK.1 hf).mono fun e w' ⟨he, hi, hb, hk⟩ => ⟨v, he, KS.call ⟨hK, hne, q, sd, hI, h0, h1⟩ hi hb hk (by omega) (by omega)⟩
theorem oneX (n : Int) (w : World) (h : KS w0 bs g code N w) : Calls Try.prog 50 #[.pointer (some ⟨g, 0, none⟩), .int .i64 n] w fun e w' => ∃ i : Bool, e = .returned (.bool i) ∧ KS w0 bs g code (N + 2) w' := by
  obtain ⟨hK, hne, q, sd, hI, h0, h1⟩ := h
  obtain ⟨v, q', sd', hf, b0, b1⟩ := one_tot hc q sd n h0 (by omega)
  exact (spec_l1Cur_one.calls g code q sd n v q' sd' w0 w hI hK.1 hf).mono fun e w' ⟨he, hi, hb, hk⟩ => ⟨v, he, KS.call ⟨hK, hne, q, sd, hI, h0, h1⟩ hi hb hk (by omega) (by omega)⟩

end
/-! ### whole walkers in memory -/
theorem al23 (w : World) : (Instr.alloc 23 true (.tuple #[])).run Try.prog w = .ok (.pointer (some ⟨w.heap.size, 0, none⟩)) (w.alloc (.cells #[.int .i64 0, .int .i64 0, .int .i64 0] 23)) := by
  have h := Try.underlying23
  go_simp
theorem ld23 (a0 a1 a2 : Int) (g : Nat) (w : World) (hb : w.heap[g]? = some (.cells #[.int .i64 a0, .int .i64 a1, .int .i64 a2] 23)) : (Instr.loadAt 23 (.pointer (some ⟨g, 0, none⟩))).run Try.prog w = .ok (.agg #[.int .i64 a0, .int .i64 a1, .int .i64 a2]) w := by
  have h := Try.underlying23
  have h0 : w.cell? ⟨g, 0, none⟩ = some (.int .i64 a0) := (blk_cell hb 0).trans rfl
  have h1 : w.cell? ⟨g, 1, none⟩ = some (.int .i64 a1) := (blk_cell hb 1).trans rfl
  have h2 : w.cell? ⟨g, 2, none⟩ = some (.int .i64 a2) := (blk_cell hb 2).trans rfl
  go_simp
theorem st23 (a0 a1 a2 b0 b1 b2 : Int) (g : Nat) (w : World) (hb : w.heap[g]? = some (.cells #[.int .i64 b0, .int .i64 b1, .int .i64 b2] 23)) : ∃ w', (Instr.storeAt 23 (.pointer (some ⟨g, 0, none⟩)) (.agg #[.int .i64 a0, .int .i64 a1, .int .i64 a2])).run Try.prog w = .ok () w' ∧
    (∀ w0 : World, Below w0.heap.size w0 w → w0.heap.size ≤ g → Below w0.heap.size w0 w') ∧ (∀ k, k ≠ g → w'.heap[k]? = w.heap[k]?) ∧ w'.heap[g]? = some (.cells #[.int .i64 a0, .int .i64 a1, .int .i64 a2] 23) := by
  have h := Try.underlying23
  have h0 : w.cell? ⟨g, 0, none⟩ = some (.int .i64 b0) := (blk_cell hb 0).trans rfl
  have h1 : w.cell? ⟨g, 1, none⟩ = some (.int .i64 b1) := (blk_cell hb 1).trans rfl
  have h2 : w.cell? ⟨g, 2, none⟩ = some (.int .i64 b2) := (blk_cell hb 2).trans rfl
  have f0 := blk_frozen hb 0
  have f1 := blk_frozen hb 1
  have f2 := blk_frozen hb 2
  go_simp
  refine ⟨fun w0 hB hg => below_set (below_set (below_set hB hg) hg) hg, fun k hk => ?_, blk_put (blk_put (blk_put hb 0 _ rfl) 1 _ rfl) 2 _ rfl⟩
  rw [Below.heap_setCell _ ⟨g, 2, none⟩ _ k hk, Below.heap_setCell _ ⟨g, 1, none⟩ _ k hk, Below.heap_setCell _ ⟨g, 0, none⟩ _ k hk]
theorem Sim.getD {n i : Nat} {s : Sl} {a : Act} {v : Value} (h : Sim n s a) (hi : s i = some v) : a.tmps.getD i undef = v := by
  have := h.2.2 i v hi
  rw [Array.getD_eq_getD_getElem?, this]; rfl
theorem drawn_below (w : World) : Below w.heap.size w { w with drawn := w.drawn + 1 } := ⟨rfl, rfl, rfl, Nat.le_refl _, fun _ _ => rfl⟩
section
variable {w0 w w' : World} {bs : List (Nat × Array Value × Nat)} {g : Nat} {code : List Int} {N : Int}
/-- A whole walker is written into the first variable. -/
theorem K.put23 {b : Nat} {b0 b1 b2 : Int} (a0 a1 a2 : Int) (h : K w0 ((b, #[.int .i64 b0, .int .i64 b1, .int .i64 b2], 23) :: bs) w) : ∃ w', (Instr.storeAt 23 (.pointer (some ⟨b, 0, none⟩)) (.agg #[.int .i64 a0, .int .i64 a1, .int .i64 a2])).run Try.prog w = .ok () w' ∧ K w0 ((b, #[.int .i64 a0, .int .i64 a1, .int .i64 a2], 23) :: bs) w' ∧ (∀ k, k ≠ b → w'.heap[k]? = w.heap[k]?) := by
  have hb := h.2.2 _ List.mem_cons_self
  obtain ⟨w', h1, h2, h3, h4⟩ := st23 a0 a1 a2 b0 b1 b2 b w hb.2
  exact ⟨w', h1, h.write (h2 w0 h.1 hb.1) h3 h4, h3⟩
theorem KS.put23 {b : Nat} {b0 b1 b2 : Int} (a0 a1 a2 : Int) (h : KS w0 ((b, #[.int .i64 b0, .int .i64 b1, .int .i64 b2], 23) :: bs) g code N w) : ∃ w', (Instr.storeAt 23 (.pointer (some ⟨b, 0, none⟩)) (.agg #[.int .i64 a0, .int .i64 a1, .int .i64 a2])).run Try.prog w = .ok () w' ∧ KS w0 ((b, #[.int .i64 a0, .int .i64 a1, .int .i64 a2], 23) :: bs) g code N w' := by
  obtain ⟨hK, hne, q, sd, ⟨A0, c0, i1, i2, i3⟩, h0, h1⟩ := h
  obtain ⟨w', e1, e2, e3⟩ := K.put23 a0 a1 a2 hK
  have hg : b ≠ g := hne _ List.mem_cons_self
  refine ⟨w', e1, e2, fun x hx => ?_, q, sd, ⟨A0, c0, by rw [e3 g (Ne.symm hg)]; exact i1, i2, i3⟩, h0, h1⟩
  rcases List.mem_cons.1 hx with rfl | hx
  · exact hg
  · exact hne x (List.mem_cons_of_mem _ hx)
theorem K.rd23 {b : Nat} {b0 b1 b2 : Int} (h : K w0 bs w) (hm : (b, #[.int .i64 b0, .int .i64 b1, .int .i64 b2], 23) ∈ bs) : (Instr.loadAt 23 (.pointer (some ⟨b, 0, none⟩))).run Try.prog w = .ok (.agg #[.int .i64 b0, .int .i64 b1, .int .i64 b2]) w := ld23 b0 b1 b2 b w (h.2.2 _ hm).2
end
theorem bld57 (A0 : Option Addr) (m c0 : Nat) (w : World) : (Instr.build 57 #[(0, .slice A0 m c0)]).run Try.prog w = .ok (.agg #[.slice A0 m c0, .int .i64 0, .int .u64 0]) w := by
  have h := Try.underlying57
  go_simp
theorem box57 (A0 : Option Addr) (m c0 : Nat) (w : World) : (Instr.box 57 (.agg #[.slice A0 m c0, .int .i64 0, .int .u64 0])).run Try.prog w = .ok (.pointer (some ⟨w.heap.size, 0, none⟩)) (w.alloc (.cells #[.slice A0 m c0, .int .i64 0, .int .u64 0] 57)) := by
  have h := Try.underlying57
  go_simp
theorem pv_bld57 {C : World → Prop} {n : Nat} {o : Oper} {s : Sl} {x1 : Operand} {A0 : Option Addr} {m c0 : Nat} (ho : o.op = .build 57 #[(0, x1)]) (hx : ev s x1 = some (.slice A0 m c0)) : PV Try.prog C n o s (.agg #[.slice A0 m c0, .int .i64 0, .int .u64 0]) := pv_run fun a ha w hw => by
  unfold execOp; simp only [ho]
  have := bld57 A0 m c0 w
  have e : (#[(0, x1)] : Array (Nat × Operand)).map (fun x => (x.1, a.eval x.2)) = #[(0, .slice A0 m c0)] := by simp [ha.ev hx]
  show ((Instr.build 57 ((#[(0, x1)] : Array (Nat × Operand)).map (fun x => (x.1, a.eval x.2)))) >>= fun v => pure (Next.value v)).run Try.prog w = _
  rw [e]
  simp only [Sem.run_bind, this]; rfl
abbrev Z3 : Array Value := #[.int .i64 0, .int .i64 0, .int .i64 0]
abbrev W3 (i : Int × Int × Int) : Array Value := #[.int .i64 i.1, .int .i64 i.2.1, .int .i64 i.2.2]
set_option maxRecDepth 100000 in
theorem drawTips {code : List Int} (hc : By code) (A0 : Option Addr) (c0 : Nat) (w0 : World) (hr : Kd.C (Kd.int .u8) w0 A0 code.length code) :
    Calls Try.prog 22 #[.slice A0 code.length c0] w0 fun e w' => ∃ i : Int × (Int × Int × Int) × Int × Int × Int, e = .returned (.tuple #[.int .i64 i.1, .agg (W3 i.2.1), .agg (W3 i.2.2)]) ∧ Below w0.heap.size w0 w' := by
  refine calls_start' (m := 19) (K w0 []) (K.nil w0) Try.func22 rfl Try.ntmps22 rfl (ofL [(0, .slice A0 code.length c0)]) (of_args _ _ rfl) ?_
  refine cw_seq (fun G1 h1 => ?_)
  refine cw_region ?_
  refine wl_op rfl rfl rfl (pv_assign rfl rfl) ?_
  refine wl_alloc (fun g => K w0 [(g, Z3, 23)]) rfl rfl rfl rfl al23 (fun w hw => hw.alloc _ _) (fun g3 => ?_)
  refine wl_alloc (fun g => K w0 [(g, Z3, 23), (g3, Z3, 23)]) rfl rfl rfl rfl al23 (fun w hw => hw.alloc _ _) (fun g4 => ?_)
  refine wl_end (s' := ofL [(0, .slice A0 code.length c0), (3, .pointer (some ⟨g3, 0, none⟩)), (4, .pointer (some ⟨g4, 0, none⟩))]) (h1 _ _ ?_) (sub_cons rfl (sub_cons rfl (sub_cons rfl sub_nil)))
  refine cw_seq (fun G2 h2 => ?_)
  refine cw_region ?_
  refine wl_op rfl rfl rfl (pv_move rfl rfl) (wl_op rfl rfl rfl (pv_bld57 rfl rfl) ?_)
  refine wl_boxC (fun g => KS w0 [(g4, Z3, 23), (g3, Z3, 23)] g code 0) rfl rfl rfl rfl rfl (box57 _ _ _) (fun w hw => KS.new hw hr) (fun g => ?_)
  refine wl_op rfl rfl rfl (pv_assign rfl rfl) ?_
  refine wl_end (s' := ofL [(3, .pointer (some ⟨g3, 0, none⟩)), (4, .pointer (some ⟨g4, 0, none⟩)), (5, .pointer (some ⟨g, 0, none⟩))]) (h2 _ _ ?_) (sub_cons rfl (sub_cons rfl (sub_cons rfl sub_nil)))
  refine cw_seq (fun G3 h3 => ?_)
  refine cw_region ?_
  refine wl_op rfl rfl rfl (pv_move rfl rfl) ?_
  refine wl_callX (fun i : Int => .int .i64 i) (fun _ => KS w0 [(g4, Z3, 23), (g3, Z3, 23)] g code (0 + 4)) rfl rfl rfl rfl rfl Try.func38 (by kernel_rfl) rfl (fun w hw => lampX hc (by omega) w hw) (fun v1 => ?_)
  refine wl_op rfl rfl rfl (pv_assign rfl rfl) ?_
  refine wl_end (s' := ofL [(3, .pointer (some ⟨g3, 0, none⟩)), (4, .pointer (some ⟨g4, 0, none⟩)), (5, .pointer (some ⟨g, 0, none⟩)), (6, .int .i64 v1)]) (h3 _ _ ?_) (sub_cons rfl (sub_cons rfl (sub_cons rfl (sub_cons rfl sub_nil))))
  refine cw_seq (fun G4 h4 => ?_)
  refine cw_region ?_
  refine wl_op rfl rfl rfl (pv_move rfl rfl) ?_
  refine wl_callX (fun i : Int × Int × Int => .agg (W3 i)) (fun _ => KS w0 [(g4, Z3, 23), (g3, Z3, 23)] g code (0 + 4 + 10)) rfl rfl rfl rfl rfl Try.func39 (by kernel_rfl) rfl (fun w hw => walkerX hc (by omega) w hw) (fun i2 => ?_)
  refine wl_alloc (fun b => KS w0 [(b, Z3, 23), (g4, Z3, 23), (g3, Z3, 23)] g code (0 + 4 + 10)) rfl rfl rfl rfl al23 (fun w hw => hw.alloc _ _) (fun g7 => ?_)
  refine wl_store (KS w0 [(g7, W3 i2, 23), (g4, Z3, 23), (g3, Z3, 23)] g code (0 + 4 + 10)) rfl rfl rfl rfl rfl (fun w hw => KS.put23 _ _ _ hw) ?_
  refine wl_end (s' := ofL [(3, .pointer (some ⟨g3, 0, none⟩)), (4, .pointer (some ⟨g4, 0, none⟩)), (5, .pointer (some ⟨g, 0, none⟩)), (6, .int .i64 v1), (7, .pointer (some ⟨g7, 0, none⟩))]) (h4 _ _ ?_) (sub_cons rfl (sub_cons rfl (sub_cons rfl (sub_cons rfl (sub_cons rfl sub_nil)))))
  refine cw_seq (fun G5 h5 => ?_)
  refine cw_held (m := 7) (fun w => w.heap[g7]? = some (.cells (W3 i2) 23)) (by kernel_rfl) rfl (fun w hw => hw.below (drawn_below w)) ?_
  refine wa_take (i := 0) (listed' := #[true, false, false, false, false, false, false]) rfl (by kernel_rfl) (by kernel_rfl) (by kernel_rfl) (fun _ _ _ h => h) rfl rfl rfl (by kernel_rfl) (rv_move rfl rfl) (fun w hw => (hw.1.2.2 _ List.mem_cons_self).2) ?_
  refine wa_take (i := 1) (listed' := #[true, true, false, false, false, false, false]) rfl (by kernel_rfl) (by kernel_rfl) (by kernel_rfl) (fun _ _ _ h => h) rfl rfl rfl (by kernel_rfl) (rv_load rfl rfl (fun w hw => ld23 _ _ _ g7 w hw)) (fun w hw => (hw.1.2.2 _ List.mem_cons_self).2) ?_
  refine wa_take (i := 2) (listed' := #[true, true, true, false, false, false, false]) rfl (by kernel_rfl) (by kernel_rfl) (by kernel_rfl) (fun _ _ _ h => h) rfl rfl rfl (by kernel_rfl) (rv_move rfl rfl) (fun w hw => (hw.1.2.2 _ List.mem_cons_self).2) ?_
  refine wa_call (i := 3) (listed' := #[true, true, true, true, false, false, false]) (fun i : Int × Int × Int => .agg (W3 i)) (fun _ => K w0 [(g3, Z3, 23), (g4, Z3, 23), (g7, W3 i2, 23)]) rfl (by kernel_rfl) (by kernel_rfl) rfl rfl rfl rfl rfl Try.func39 (by kernel_rfl) rfl (fun w hw => (walkerX hc (by omega) w hw).mono fun e w' ⟨i, he, h⟩ => ⟨i, he, h.1.perm (List.reverse_perm _).symm⟩) (fun i w hw => (hw.2.2 (g7, W3 i2, 23) (by simp)).2) (fun i3 => ?_)
  refine wa_one (i := 4) (listed' := #[true, true, true, true, true, false, false]) rfl (by kernel_rfl) (by kernel_rfl) rfl rfl rfl (rv_assign rfl rfl) (fun w hw => (hw.2.2 (g7, W3 i2, 23) (by simp)).2) ?_
  refine wa_store (i := 5) (listed' := #[true, true, true, true, true, true, false]) (K w0 [(g4, Z3, 23), (g3, W3 i2, 23), (g7, W3 i2, 23)]) rfl (by kernel_rfl) (by kernel_rfl) rfl rfl rfl rfl rfl (fun w hw => by
    obtain ⟨w', e1, e2, _⟩ := K.put23 i2.1 i2.2.1 i2.2.2 hw
    exact ⟨w', e1, e2.perm (List.Perm.swap _ _ _)⟩) (fun w hw => (hw.2.2 (g7, W3 i2, 23) (by simp)).2) ?_
  refine wa_store (i := 6) (listed' := #[true, true, true, true, true, true, true]) (K w0 [(g4, W3 i3, 23), (g3, W3 i2, 23), (g7, W3 i2, 23)]) rfl (by kernel_rfl) (by kernel_rfl) rfl rfl rfl rfl rfl (fun w hw => by
    obtain ⟨w', e1, e2, _⟩ := K.put23 i3.1 i3.2.1 i3.2.2 hw
    exact ⟨w', e1, e2⟩) (fun w hw => (hw.2.2 (g7, W3 i2, 23) (by simp)).2) ?_
  refine wa_done (s' := ofL [(2, .int .i64 v1), (3, .pointer (some ⟨g3, 0, none⟩)), (4, .pointer (some ⟨g4, 0, none⟩))]) (by kernel_rfl) (sub_cons rfl (sub_cons rfl (sub_cons rfl sub_nil))) (h5 _ _ ?_)
  refine cw_ret (fun a w ha hw => ?_)
  have b3 := (hw.2.2 (g3, W3 i2, 23) (by simp)).2
  have b4 := (hw.2.2 (g4, W3 i3, 23) (by simp)).2
  have hv := Vals.tmp (P := Try.prog) (u := 2) (Vals.cell (ty := 23) g3 23 (W3 i2) (0, 0) _ (Sim.getD (i := 3) ha rfl) b3 Try.underlying23 rfl (by kernel_rfl) (Vals.cell (ty := 23) g4 23 (W3 i3) (0, 0) _ (Sim.getD (i := 4) ha rfl) b4 Try.underlying23 rfl (by kernel_rfl) (Vals.nil (tmps := a.tmps) (w := w))))
  rw [Sim.getD ha (v := .int .i64 v1) rfl] at hv
  exact bodyPost_ret (results_list (rs := [.tmp 2, .cell 3 23, .cell 4 23]) rfl (by simp) hv) ha.1 ⟨(v1, i2, i3), rfl, hw.1⟩
set_option maxRecDepth 100000 in
theorem drawShade {code : List Int} (hc : By code) (A0 : Option Addr) (c0 : Nat) (w0 : World) (hr : Kd.C (Kd.int .u8) w0 A0 code.length code) :
    Calls Try.prog 23 #[.slice A0 code.length c0] w0 fun e w' => ∃ i : Int × (Int × Int × Int) × (Int × Int × Int) × Int, e = .returned (.tuple #[.int .i64 i.1, .agg (W3 i.2.1), .agg (W3 i.2.2.1), .int .i64 i.2.2.2]) ∧ Below w0.heap.size w0 w' := by
  refine calls_start' (m := 24) (K w0 []) (K.nil w0) Try.func23 rfl Try.ntmps23 rfl (ofL [(0, .slice A0 code.length c0)]) (of_args _ _ rfl) ?_
  refine cw_seq (fun G1 h1 => ?_)
  refine cw_region ?_
  refine wl_op rfl rfl rfl (pv_assign rfl rfl) ?_
  refine wl_alloc (fun g => K w0 [(g, Z3, 23)]) rfl rfl rfl rfl al23 (fun w hw => hw.alloc _ _) (fun g3 => ?_)
  refine wl_alloc (fun g => K w0 [(g, Z3, 23), (g3, Z3, 23)]) rfl rfl rfl rfl al23 (fun w hw => hw.alloc _ _) (fun g4 => ?_)
  refine wl_op rfl rfl rfl (pv_assign rfl rfl) ?_
  refine wl_end (s' := ofL [(0, .slice A0 code.length c0), (3, .pointer (some ⟨g3, 0, none⟩)), (4, .pointer (some ⟨g4, 0, none⟩))]) (h1 _ _ ?_) (sub_cons rfl (sub_cons rfl (sub_cons rfl sub_nil)))
  refine cw_seq (fun G2 h2 => ?_)
  refine cw_region ?_
  refine wl_op rfl rfl rfl (pv_move rfl rfl) (wl_op rfl rfl rfl (pv_bld57 rfl rfl) ?_)
  refine wl_boxC (fun g => KS w0 [(g4, Z3, 23), (g3, Z3, 23)] g code 0) rfl rfl rfl rfl rfl (box57 _ _ _) (fun w hw => KS.new hw hr) (fun g => ?_)
  refine wl_op rfl rfl rfl (pv_assign rfl rfl) ?_
  refine wl_end (s' := ofL [(3, .pointer (some ⟨g3, 0, none⟩)), (4, .pointer (some ⟨g4, 0, none⟩)), (6, .pointer (some ⟨g, 0, none⟩))]) (h2 _ _ ?_) (sub_cons rfl (sub_cons rfl (sub_cons rfl sub_nil)))
  refine cw_seq (fun G3 h3 => ?_)
  refine cw_region ?_
  refine wl_op rfl rfl rfl (pv_move rfl rfl) ?_
  refine wl_callX (fun i : Int => .int .i64 i) (fun _ => KS w0 [(g4, Z3, 23), (g3, Z3, 23)] g code (0 + 4)) rfl rfl rfl rfl rfl Try.func38 (by kernel_rfl) rfl (fun w hw => lampX hc (by omega) w hw) (fun v1 => ?_)
  refine wl_op rfl rfl rfl (pv_assign rfl rfl) ?_
  refine wl_end (s' := ofL [(3, .pointer (some ⟨g3, 0, none⟩)), (4, .pointer (some ⟨g4, 0, none⟩)), (6, .pointer (some ⟨g, 0, none⟩)), (7, .int .i64 v1)]) (h3 _ _ ?_) (sub_cons rfl (sub_cons rfl (sub_cons rfl (sub_cons rfl sub_nil))))
  refine cw_seq (fun G4 h4 => ?_)
  refine cw_region ?_
  refine wl_op rfl rfl rfl (pv_move rfl rfl) ?_
  refine wl_callX (fun i : Int × Int × Int => .agg (W3 i)) (fun _ => KS w0 [(g4, Z3, 23), (g3, Z3, 23)] g code (0 + 4 + 10)) rfl rfl rfl rfl rfl Try.func39 (by kernel_rfl) rfl (fun w hw => walkerX hc (by omega) w hw) (fun i2 => ?_)
  refine wl_alloc (fun b => KS w0 [(b, Z3, 23), (g4, Z3, 23), (g3, Z3, 23)] g code (0 + 4 + 10)) rfl rfl rfl rfl al23 (fun w hw => hw.alloc _ _) (fun g8 => ?_)
  refine wl_store (KS w0 [(g8, W3 i2, 23), (g4, Z3, 23), (g3, Z3, 23)] g code (0 + 4 + 10)) rfl rfl rfl rfl rfl (fun w hw => KS.put23 _ _ _ hw) ?_
  refine wl_end (s' := ofL [(3, .pointer (some ⟨g3, 0, none⟩)), (4, .pointer (some ⟨g4, 0, none⟩)), (6, .pointer (some ⟨g, 0, none⟩)), (7, .int .i64 v1), (8, .pointer (some ⟨g8, 0, none⟩))]) (h4 _ _ ?_) (sub_cons rfl (sub_cons rfl (sub_cons rfl (sub_cons rfl (sub_cons rfl sub_nil)))))
  refine cw_seq (fun G5 h5 => ?_)
  refine cw_region ?_
  refine wl_op rfl rfl rfl (pv_move rfl rfl) ?_
  refine wl_callX (fun i : Int × Int × Int => .agg (W3 i)) (fun _ => KS w0 [(g8, W3 i2, 23), (g4, Z3, 23), (g3, Z3, 23)] g code (0 + 4 + 10 + 10)) rfl rfl rfl rfl rfl Try.func39 (by kernel_rfl) rfl (fun w hw => walkerX hc (by omega) w hw) (fun i3 => ?_)
  refine wl_alloc (fun b => KS w0 [(b, Z3, 23), (g8, W3 i2, 23), (g4, Z3, 23), (g3, Z3, 23)] g code (0 + 4 + 10 + 10)) rfl rfl rfl rfl al23 (fun w hw => hw.alloc _ _) (fun g9 => ?_)
  refine wl_store (KS w0 [(g9, W3 i3, 23), (g8, W3 i2, 23), (g4, Z3, 23), (g3, Z3, 23)] g code (0 + 4 + 10 + 10)) rfl rfl rfl rfl rfl (fun w hw => KS.put23 _ _ _ hw) ?_
  refine wl_end (s' := ofL [(3, .pointer (some ⟨g3, 0, none⟩)), (4, .pointer (some ⟨g4, 0, none⟩)), (6, .pointer (some ⟨g, 0, none⟩)), (7, .int .i64 v1), (8, .pointer (some ⟨g8, 0, none⟩)), (9, .pointer (some ⟨g9, 0, none⟩))]) (h5 _ _ ?_) (sub_cons rfl (sub_cons rfl (sub_cons rfl (sub_cons rfl (sub_cons rfl (sub_cons rfl sub_nil))))))
  refine cw_seq (fun G6 h6 => ?_)
  refine cw_held (m := 9) (fun w => w.heap[g8]? = some (.cells (W3 i2) 23) ∧ w.heap[g9]? = some (.cells (W3 i3) 23)) (by kernel_rfl) rfl (fun w hw => hw.below (drawn_below w)) ?_
  refine wa_take (i := 0) (listed' := #[true, false, false, false, false, false, false, false, false]) rfl (by kernel_rfl) (by kernel_rfl) (by kernel_rfl) (fun _ _ _ h => h) rfl rfl rfl (by kernel_rfl) (rv_move rfl rfl) (fun w hw => ⟨(hw.1.2.2 (g8, W3 i2, 23) (by simp)).2, (hw.1.2.2 (g9, W3 i3, 23) (by simp)).2⟩) ?_
  refine wa_take (i := 1) (listed' := #[true, true, false, false, false, false, false, false, false]) rfl (by kernel_rfl) (by kernel_rfl) (by kernel_rfl) (fun _ _ _ h => h) rfl rfl rfl (by kernel_rfl) (rv_load rfl rfl (fun w hw => ld23 _ _ _ g8 w hw.1)) (fun w hw => ⟨(hw.1.2.2 (g8, W3 i2, 23) (by simp)).2, (hw.1.2.2 (g9, W3 i3, 23) (by simp)).2⟩) ?_
  refine wa_take (i := 2) (listed' := #[true, true, true, false, false, false, false, false, false]) rfl (by kernel_rfl) (by kernel_rfl) (by kernel_rfl) (fun _ _ _ h => h) rfl rfl rfl (by kernel_rfl) (rv_load rfl rfl (fun w hw => ld23 _ _ _ g9 w hw.2)) (fun w hw => ⟨(hw.1.2.2 (g8, W3 i2, 23) (by simp)).2, (hw.1.2.2 (g9, W3 i3, 23) (by simp)).2⟩) ?_
  refine wa_take (i := 3) (listed' := #[true, true, true, true, false, false, false, false, false]) rfl (by kernel_rfl) (by kernel_rfl) (by kernel_rfl) (fun _ _ _ h => h) rfl rfl rfl (by kernel_rfl) (rv_move rfl rfl) (fun w hw => ⟨(hw.1.2.2 (g8, W3 i2, 23) (by simp)).2, (hw.1.2.2 (g9, W3 i3, 23) (by simp)).2⟩) ?_
  refine wa_call (i := 4) (listed' := #[true, true, true, true, true, false, false, false, false]) (fun i : Int => .int .i64 i) (fun _ => K w0 [(g3, Z3, 23), (g4, Z3, 23), (g8, W3 i2, 23), (g9, W3 i3, 23)]) rfl (by kernel_rfl) (by kernel_rfl) rfl rfl rfl rfl rfl Try.func40 (by kernel_rfl) rfl (fun w hw => (awayX hc (by omega) w hw).mono fun e w' ⟨i, he, h⟩ => ⟨i, he, h.1.perm (List.reverse_perm _).symm⟩) (fun _ => (fun w hw => ⟨(hw.2.2 (g8, W3 i2, 23) (by simp)).2, (hw.2.2 (g9, W3 i3, 23) (by simp)).2⟩)) (fun v4 => ?_)
  refine wa_one (i := 5) (listed' := #[true, true, true, true, true, true, false, false, false]) rfl (by kernel_rfl) (by kernel_rfl) rfl rfl rfl (rv_assign rfl rfl) (fun w hw => ⟨(hw.2.2 (g8, W3 i2, 23) (by simp)).2, (hw.2.2 (g9, W3 i3, 23) (by simp)).2⟩) ?_
  refine wa_store (i := 6) (listed' := #[true, true, true, true, true, true, true, false, false]) (K w0 [(g4, Z3, 23), (g3, W3 i2, 23), (g8, W3 i2, 23), (g9, W3 i3, 23)]) rfl (by kernel_rfl) (by kernel_rfl) rfl rfl rfl rfl rfl (fun w hw => by
    obtain ⟨w', e1, e2, _⟩ := K.put23 i2.1 i2.2.1 i2.2.2 hw
    exact ⟨w', e1, e2.perm (List.Perm.swap _ _ _)⟩) (fun w hw => ⟨(hw.2.2 (g8, W3 i2, 23) (by simp)).2, (hw.2.2 (g9, W3 i3, 23) (by simp)).2⟩) ?_
  refine wa_store (i := 7) (listed' := #[true, true, true, true, true, true, true, true, false]) (K w0 [(g4, W3 i3, 23), (g3, W3 i2, 23), (g8, W3 i2, 23), (g9, W3 i3, 23)]) rfl (by kernel_rfl) (by kernel_rfl) rfl rfl rfl rfl rfl (fun w hw => by
    obtain ⟨w', e1, e2, _⟩ := K.put23 i3.1 i3.2.1 i3.2.2 hw
    exact ⟨w', e1, e2⟩) (fun w hw => ⟨(hw.2.2 (g8, W3 i2, 23) (by simp)).2, (hw.2.2 (g9, W3 i3, 23) (by simp)).2⟩) ?_
  refine wa_one (i := 8) (listed' := #[true, true, true, true, true, true, true, true, true]) rfl (by kernel_rfl) (by kernel_rfl) rfl rfl rfl (rv_assign rfl rfl) (fun w hw => ⟨(hw.2.2 (g8, W3 i2, 23) (by simp)).2, (hw.2.2 (g9, W3 i3, 23) (by simp)).2⟩) ?_
  refine wa_done (s' := ofL [(2, .int .i64 v1), (3, .pointer (some ⟨g3, 0, none⟩)), (4, .pointer (some ⟨g4, 0, none⟩)), (5, .int .i64 v4)]) (by kernel_rfl) (sub_cons rfl (sub_cons rfl (sub_cons rfl (sub_cons rfl sub_nil)))) (h6 _ _ ?_)
  refine cw_ret (fun a w ha hw => ?_)
  have b3 := (hw.2.2 (g3, W3 i2, 23) (by simp)).2
  have b4 := (hw.2.2 (g4, W3 i3, 23) (by simp)).2
  have h5 := Vals.tmp (P := Try.prog) (u := 5) (Vals.nil (tmps := a.tmps) (w := w))
  rw [Sim.getD ha (v := .int .i64 v4) rfl] at h5
  have hv := Vals.tmp (P := Try.prog) (u := 2) (Vals.cell (ty := 23) g3 23 (W3 i2) (0, 0) _ (Sim.getD (i := 3) ha rfl) b3 Try.underlying23 rfl (by kernel_rfl) (Vals.cell (ty := 23) g4 23 (W3 i3) (0, 0) _ (Sim.getD (i := 4) ha rfl) b4 Try.underlying23 rfl (by kernel_rfl) h5))
  rw [Sim.getD ha (v := .int .i64 v1) rfl] at hv
  exact bodyPost_ret (results_list (rs := [.tmp 2, .cell 3 23, .cell 4 23, .tmp 5]) rfl (by simp) hv) ha.1 ⟨(v1, i2, i3, v4), rfl, hw.1⟩
theorem bs63 (w : World) : (Instr.buildSlice 63 6 #[(0, .int .i64 1), (1, .int .i64 2), (2, .int .i64 3), (3, .int .i64 0), (4, .int .i64 (-1)), (5, .int .i64 12)]).run Try.prog w = .ok (.slice (some ⟨w.heap.size, 0, none⟩) 6 6) (w.alloc (.cells #[.int .i64 1, .int .i64 2, .int .i64 3, .int .i64 0, .int .i64 (-1), .int .i64 12] 3)) := by
  have h := Try.underlying63
  go_simp
theorem row_of_blk {w : World} {b : Nat} {l : List Int} {cs : Array Value} (hb : w.heap[b]? = some (.cells cs 3)) (hl : l.length ≤ 1000) (he : cs = (l.map (Value.int .i64)).toArray) : Kd.C (Kd.int .i64) w (some ⟨b, 0, none⟩) l.length l := by
  refine ⟨rfl, by omega, fun _ => ⟨⟨b, 0, none⟩, rfl, fun j p hj => ⟨[.int .i64 p], rfl, rfl, fun i u hu => ?_⟩⟩⟩
  cases i with
  | zero =>
    cases hu
    have e : (⟨b, 0, none⟩ : Addr).add (j * 1 + 0) = ⟨b, j, none⟩ := by unfold Addr.add; simp; omega
    show w.cell? ((⟨b, 0, none⟩ : Addr).add (j * 1 + 0)) = _
    rw [e, blk_cell hb j, he]
    simp [hj]
  | succ i => simp at hu
theorem amongX {w0 : World} {bs : List (Nat × Array Value × Nat)} {g : Nat} {code : List Int} {N : Int} (hc : By code) (hN : N ≤ 1000) (b : Nat) (l : List Int) (cs : Array Value) (hl : 1 ≤ l.length ∧ l.length ≤ 1000) (he : cs = (l.map (Value.int .i64)).toArray) (c : Nat) (hcl : l.length ≤ c) (w : World) (h : KS w0 ((b, cs, 3) :: bs) g code N w) :
    Calls Try.prog 45 #[.pointer (some ⟨g, 0, none⟩), .slice (some ⟨b, 0, none⟩) l.length c] w fun e w' => ∃ i : Int, e = .returned (.int .i64 i) ∧ KS w0 ((b, cs, 3) :: bs) g code (N + 2) w' := by
  obtain ⟨hK, hne, q, sd, hI, h0, h1⟩ := h
  obtain ⟨v, q', sd', hf, b0, b1⟩ := among_tot hc q sd l hl.1 h0 (by omega)
  exact (spec_l1Cur_among.calls g code q sd _ c l v q' sd' w0 w hI hK.1 (row_of_blk (hK.2.2 _ List.mem_cons_self).2 hl.2 he) hcl (fun ad had _ => by cases had; exact hne _ List.mem_cons_self) hf).mono fun e w' ⟨he, hi, hb, hk⟩ => ⟨v, he, KS.call ⟨hK, hne, q, sd, hI, h0, h1⟩ hi hb hk (by omega) (by omega)⟩
theorem most_tot (a b : Int) : ∃ r, spec_l1Most.f a b = some r := by unfold spec_l1Most.f; split <;> exact ⟨_, rfl⟩
theorem least_tot (a b : Int) : ∃ r, spec_l1Least.f a b = some r := by unfold spec_l1Least.f; split <;> exact ⟨_, rfl⟩
set_option maxRecDepth 100000 in
theorem drawSum {code : List Int} (hc : By code) (A0 : Option Addr) (c0 : Nat) (w0 : World) (hr : Kd.C (Kd.int .u8) w0 A0 code.length code) :
    Calls Try.prog 24 #[.slice A0 code.length c0] w0 fun e w' => ∃ i : Int × Int × Int × Int × Int, e = .returned (.tuple #[.int .i64 i.1, .int .i64 i.2.1, .int .i64 i.2.2.1, .int .i64 i.2.2.2.1, .int .i64 i.2.2.2.2]) ∧ Below w0.heap.size w0 w' := by
  refine calls_start' (m := 33) (K w0 []) (K.nil w0) Try.func24 rfl Try.ntmps24 rfl (ofL [(0, .slice A0 code.length c0)]) (of_args _ _ rfl) ?_
  refine cw_seq (fun G1 h1 => ?_)
  refine cw_region ?_
  refine wl_op rfl rfl rfl (pv_assign rfl rfl) (wl_op rfl rfl rfl (pv_assign rfl rfl) (wl_op rfl rfl rfl (pv_assign rfl rfl) (wl_op rfl rfl rfl (pv_assign rfl rfl) (wl_op rfl rfl rfl (pv_assign rfl rfl) ?_))))
  refine wl_end (s' := ofL [(0, .slice A0 code.length c0)]) (h1 _ _ ?_) (sub_cons rfl sub_nil)
  refine cw_seq (fun G2 h2 => ?_)
  refine cw_region ?_
  refine wl_op rfl rfl rfl (pv_move rfl rfl) (wl_op rfl rfl rfl (pv_bld57 rfl rfl) ?_)
  refine wl_boxC (fun g => KS w0 [] g code 0) rfl rfl rfl rfl rfl (box57 _ _ _) (fun w hw => KS.new hw hr) (fun g => ?_)
  refine wl_op rfl rfl rfl (pv_assign rfl rfl) ?_
  refine wl_end (s' := ofL [(7, .pointer (some ⟨g, 0, none⟩))]) (h2 _ _ ?_) (sub_cons rfl sub_nil)
  refine cw_seq (fun G3 h3 => ?_)
  refine cw_region ?_
  refine wl_op rfl rfl rfl (pv_move rfl rfl) ?_
  refine wl_callX (fun i : Int => .int .i64 i) (fun _ => KS w0 [] g code (0 + 4)) rfl rfl rfl rfl rfl Try.func41 (by kernel_rfl) rfl (fun w hw => shadowX hc (by omega) w hw) (fun u8 => ?_)
  refine wl_op rfl rfl rfl (pv_assign rfl rfl) ?_
  refine wl_end (s' := ofL [(7, .pointer (some ⟨g, 0, none⟩)), (8, .int .i64 u8)]) (h3 _ _ ?_) (sub_cons rfl (sub_cons rfl sub_nil))
  refine cw_seq (fun G4 h4 => ?_)
  refine cw_region ?_
  refine wl_op rfl rfl rfl (pv_move rfl rfl) ?_
  refine wl_callX (fun i : Int => .int .i64 i) (fun _ => KS w0 [] g code (0 + 4 + 4)) rfl rfl rfl rfl rfl Try.func38 (by kernel_rfl) rfl (fun w hw => lampX hc (by omega) w hw) (fun u9 => ?_)
  refine wl_op rfl rfl rfl (pv_assign rfl rfl) ?_
  refine wl_end (s' := ofL [(7, .pointer (some ⟨g, 0, none⟩)), (8, .int .i64 u8), (9, .int .i64 u9)]) (h4 _ _ ?_) (sub_cons rfl (sub_cons rfl (sub_cons rfl sub_nil)))
  refine cw_seq (fun G5 h5 => ?_)
  refine cw_region ?_
  refine wl_op rfl rfl rfl (pv_move rfl rfl) ?_
  refine wl_callX (fun i : Int => .int .i64 i) (fun _ => KS w0 [] g code (0 + 4 + 4 + 4)) rfl rfl rfl rfl rfl Try.func38 (by kernel_rfl) rfl (fun w hw => lampX hc (by omega) w hw) (fun u10 => ?_)
  refine wl_op rfl rfl rfl (pv_assign rfl rfl) ?_
  refine wl_end (s' := ofL [(7, .pointer (some ⟨g, 0, none⟩)), (8, .int .i64 u8), (9, .int .i64 u9), (10, .int .i64 u10)]) (h5 _ _ ?_) (sub_cons rfl (sub_cons rfl (sub_cons rfl (sub_cons rfl sub_nil))))
  refine cw_seq (fun G6 h6 => ?_)
  refine cw_region ?_
  obtain ⟨r1, hr1⟩ := most_tot u8 0
  obtain ⟨r2, hr2⟩ := least_tot r1 30
  refine wl_op rfl rfl rfl (pv_move rfl rfl) (wl_op rfl rfl rfl (pv_move rfl rfl) (wl_op rfl rfl rfl (pv_move rfl rfl) (wl_op rfl rfl rfl (pv_move rfl rfl) (wl_op rfl rfl rfl (pv_move rfl rfl) ?_))))
  refine wl_op rfl rfl rfl (pv_call (v := .int .i64 r1) rfl rfl Try.func44 (by kernel_rfl) rfl (fun w hw => (spec_l1Most.calls u8 0 r1 w hr1).mono fun e w' ⟨he, hb⟩ => ⟨he, hw.below hb.below⟩)) ?_
  refine wl_op rfl rfl rfl (pv_call (v := .int .i64 r2) rfl rfl Try.func43 (by kernel_rfl) rfl (fun w hw => (spec_l1Least.calls r1 30 r2 w hr2).mono fun e w' ⟨he, hb⟩ => ⟨he, hw.below hb.below⟩)) ?_
  refine wl_op rfl rfl rfl (pv_bin rfl rfl rfl (fun _ => b_add Try.underlying3)) ?_
  refine wl_callX (fun i : Int => .int .i64 i) (fun _ => KS w0 [] g code (0 + 4 + 4 + 4 + 2)) rfl rfl rfl rfl rfl Try.func42 (by kernel_rfl) rfl (fun w hw => pickX hc (by omega) _ w hw) (fun u28 => ?_)
  refine wl_op rfl rfl rfl (pv_bin rfl rfl rfl (fun _ => b_sub Try.underlying3)) ?_
  refine wl_op rfl rfl rfl (pv_move rfl rfl) ?_
  refine wl_run (fun b : Nat => .slice (some ⟨b, 0, none⟩) 6 6) (fun b => KS w0 [(b, #[.int .i64 1, .int .i64 2, .int .i64 3, .int .i64 0, .int .i64 (-1), .int .i64 12], 3)] g code (0 + 4 + 4 + 4 + 2)) rfl rfl rfl (fun a ha w hw => ⟨w.heap.size, _, by
    have := bs63 w
    unfold execOp
    simp only [List.map_toArray, List.map_cons, List.map_nil]
    show ((Instr.buildSlice 63 6 #[(0, .int .i64 1), (1, .int .i64 2), (2, .int .i64 3), (3, .int .i64 0), (4, .int .i64 (-1)), (5, .int .i64 12)]) >>= fun v => pure (Next.value v)).run Try.prog w = _
    simp only [Sem.run_bind, this]; rfl, hw.alloc _ _⟩) (fun b => ?_)
  refine wl_callX (fun i : Int => .int .i64 i) (fun _ => KS w0 [(b, #[.int .i64 1, .int .i64 2, .int .i64 3, .int .i64 0, .int .i64 (-1), .int .i64 12], 3)] g code (0 + 4 + 4 + 4 + 2 + 2)) rfl rfl rfl rfl rfl Try.func45 (by kernel_rfl) rfl (fun w hw => amongX hc (by omega) b [1, 2, 3, 0, -1, 12] _ (by simp) rfl 6 (by simp) w hw) (fun u32 => ?_)
  refine wl_op rfl rfl rfl (pv_assign rfl rfl) (wl_op rfl rfl rfl (pv_assign rfl rfl) (wl_op rfl rfl rfl (pv_assign rfl rfl) (wl_op rfl rfl rfl (pv_assign rfl rfl) (wl_op rfl rfl rfl (pv_assign rfl rfl) ?_))))
  refine wl_end (s' := ofL [(2, .int .i64 u8), (3, .int .i64 u9), (4, .int .i64 u10), (5, .int .i64 (wrap64 (u28 - 1))), (6, .int .i64 u32)]) (h6 _ _ ?_) (sub_cons rfl (sub_cons rfl (sub_cons rfl (sub_cons rfl (sub_cons rfl sub_nil)))))
  refine cw_ret (fun a w ha hw => ?_)
  have x6 := Vals.tmp (P := Try.prog) (u := 6) (Vals.nil (tmps := a.tmps) (w := w))
  rw [Sim.getD ha (v := .int .i64 u32) rfl] at x6
  have x5 := Vals.tmp (u := 5) x6
  rw [Sim.getD ha (v := .int .i64 (wrap64 (u28 - 1))) rfl] at x5
  have x4 := Vals.tmp (u := 4) x5
  rw [Sim.getD ha (v := .int .i64 u10) rfl] at x4
  have x3 := Vals.tmp (u := 3) x4
  rw [Sim.getD ha (v := .int .i64 u9) rfl] at x3
  have x2 := Vals.tmp (u := 2) x3
  rw [Sim.getD ha (v := .int .i64 u8) rfl] at x2
  exact bodyPost_ret (results_list (rs := [.tmp 2, .tmp 3, .tmp 4, .tmp 5, .tmp 6]) rfl (by simp) x2) ha.1 ⟨(u8, u9, u10, wrap64 (u28 - 1), u32), rfl, hw.1.1⟩
end Go.Proofs.Ytdjgimackejjpaa.DwFnWalkersMeet
