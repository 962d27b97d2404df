/- The walk of FnLaddersSlip: where its callees answer as told and what is asked of their answers holds, the call answers true. No condition. -/
import Derived.Test.YtlajkepgmmfbhaaQFnLaddersSlipx0
import Derived.Test.YtlajkepgmmfbhaaQFnLaddersSlipx1
import Derived.Test.YtlajkepgmmfbhaaQFnLaddersSlipx2
import Derived.Test.YtlajkepgmmfbhaaQFnLaddersSlipx3
import Derived.Test.YtlajkepgmmfbhaaQFnLaddersSlipx4
import Derived.Test.YtlajkepgmmfbhaaQFnLaddersSlipx5
import Derived.Test.YtlajkepgmmfbhaaQFnLaddersSlipx6
import Derived.Test.YtlajkepgmmfbhaaQFnLaddersSlipx7
import Derived.Test.YtlajkepgmmfbhaaQFnLaddersSlipx8
import Derived.Test.YtlajkepgmmfbhaaEng
import Derived.Test.YtlajkepgmmfbhaaDwFnLaddersSlip
namespace Go.Proofs.Ytlajkepgmmfbhaa.LwFnLaddersSlip
open Go Go.RowKit Go.Proofs.Ytlajkepgmmfbhaa.DwFnLaddersSlip Go.Proofs.Ytlajkepgmmfbhaa.E Go.Proofs.Ytlajkepgmmfbhaa.PFnLaddersSlip Go.Proofs.YtlajkepgmmfbhaaW.PrintWords Go.Proofs.YtlajkepgmmfbhaaW.PrintLast
set_option linter.unusedVariables false
set_option linter.unusedSimpArgs false
theorem box47 (a0 a1 : Int) (w : World) : (Instr.box 47 (.agg #[.int .i64 a0, .int .i64 a1])).run Try.prog w = .ok (.pointer (some ⟨w.heap.size, 0, none⟩)) (w.alloc (.cells #[.int .i64 a0, .int .i64 a1] 47)) := by
  have h := Try.underlying47
  go_simp
theorem qld47 (a0 a1 : Int) (g : Nat) (w : World) (hb : w.heap[g]? = some (.cells #[.int .i64 a0, .int .i64 a1] 47)) : (Instr.loadAt 47 (.pointer (some ⟨g, 0, none⟩))).run Try.prog w = .ok (.agg #[.int .i64 a0, .int .i64 a1]) w := by
  have h := Try.underlying47
  have h0 : w.cell? ⟨g, 0, none⟩ = some (.int .i64 a0) := (blk_cell hb 0).trans rfl
  have h1 : w.cell? ⟨g, 1, none⟩ = some (.int .i64 a1) := (blk_cell hb 1).trans rfl
  go_simp
theorem ldF {g f t : Nat} {cs : Array Value} {a : Int} {w : World} (hb : w.heap[g]? = some (.cells cs t)) (hf : cs[f]? = some (.int .i64 a)) : (Instr.loadAt 3 (.pointer (some ⟨g, f, none⟩))).run Try.prog w = .ok (.int .i64 a) w := by
  have h := Try.underlying3
  have h1 : w.cell? ⟨g, f, none⟩ = some (.int .i64 a) := (blk_cell hb f).trans hf
  go_simp
theorem ix26 (w : World) (ad : Addr) (m k : Nat) (i : Int) (h0 : 0 ≤ i) (h1 : i < m) : (Instr.indexAt 26 (.slice (some ad) m k) (.int .i64 i)).run Try.prog w = .ok (.pointer (some (ad.add i.toNat))) w := by
  have h := Try.underlying26
  have p1 : (0 ≤ i) = True := eq_true h0
  have p2 : (i < (m : Int)) = True := eq_true h1
  go_simp
theorem ix40 (w : World) (ad : Addr) (m k : Nat) (i : Int) (h0 : 0 ≤ i) (h1 : i < m) : (Instr.indexAt 40 (.slice (some ad) m k) (.int .i64 i)).run Try.prog w = .ok (.pointer (some (ad.add i.toNat))) w := by
  have h := Try.underlying40
  have p1 : (0 ≤ i) = True := eq_true h0
  have p2 : (i < (m : Int)) = True := eq_true h1
  go_simp
theorem ldR (w : World) (ad : Addr) (B : Option Addr) (m k : Nat) (hc : w.cell? ad = some (.slice B m k)) : (Instr.loadAt 26 (.pointer (some ad))).run Try.prog w = .ok (.slice B m k) w := by
  have h := Try.underlying26
  go_simp
theorem ldI (w : World) (ad : Addr) (v : Int) (hc : w.cell? ad = some (.int .i64 v)) : (Instr.loadAt 3 (.pointer (some ad))).run Try.prog w = .ok (.int .i64 v) w := by
  have h := Try.underlying3
  go_simp
theorem bld47 (a0 a1 : Int) (w : World) : (Instr.build 47 #[(0, .int .i64 a0), (1, .int .i64 a1)]).run Try.prog w = .ok (.agg #[.int .i64 a0, .int .i64 a1]) w := by
  have h := Try.underlying47
  go_simp
theorem pv_build47 {C : World → Prop} {n : Nat} {o : Oper} {s : Sl} {x0 x1 : Operand} {a0 a1 : Int} (ho : o.op = .build 47 #[(0, x0), (1, x1)]) (h0 : ev s x0 = some (.int .i64 a0)) (h1 : ev s x1 = some (.int .i64 a1)) : PV Try.prog C n o s (.agg #[.int .i64 a0, .int .i64 a1]) := pv_run fun a ha w hw => by
  unfold execOp; simp only [ho]
  have := bld47 a0 a1 w
  have e : (#[(0, x0), (1, x1)] : Array (Nat × Operand)).map (fun x => (x.1, a.eval x.2)) = #[(0, .int .i64 a0), (1, .int .i64 a1)] := by simp [ha.ev h0, ha.ev h1]
  show ((Instr.build 47 ((#[(0, x0), (1, x1)] : Array (Nat × Operand)).map (fun x => (x.1, a.eval x.2)))) >>= fun v => pure (Next.value v)).run Try.prog w = _
  rw [e]
  simp only [Sem.run_bind, this]; rfl
theorem bsI26_4 (a0 a1 a2 a3 : Int) (w : World) : (Instr.buildSlice 26 4 #[(0, .int .i64 a0), (1, .int .i64 a1), (2, .int .i64 a2), (3, .int .i64 a3)]).run Try.prog w = .ok (.slice (some ⟨w.heap.size, 0, none⟩) 4 4) (w.alloc (.cells #[.int .i64 a0, .int .i64 a1, .int .i64 a2, .int .i64 a3] 3)) := by
  have h := Try.underlying26
  go_simp
def Ans0 (l0 : List Int) (l1 : List Int) (r1 : Bool) : Prop :=
  (laws_big.f l0 l1 = some r1)
def Obl0 (l0 : List Int) (l1 : List Int) (r1 : Bool) : Prop :=
  True
def Pure0 : Prop := ∀ (l0 : List Int) (l1 : List Int), ∃ (r1 : Bool), Ans0 l0 l1 r1 ∧ Obl0 l0 l1 r1
def Ans1 (x1_0 : Int) (x1_1 : Int) (x1_2 : Int) (x1_3 : Int) (r2_1 : List Int) (r2_2 : Bool) (r3_1 : List Int) (r3_2 : Bool) (r4_1 : List Int) (r4_2 : Bool) (r5_1 : List Int) (r5_2 : Bool) (r6 : Bool) (r7 : Bool) (J1 : Int → Prop) (m1 : Int → Nat) : Prop :=
  (∃ k, impl_SlipHeights.f k x1_0 x1_1 x1_2 x1_3 = some (r2_1, r2_2)) ∧
  (∃ k, spec_SlipHeights.f k x1_0 x1_1 x1_2 x1_3 = some (r3_1, r3_2)) ∧
  (∃ k, impl_SlipDrops.f k x1_0 x1_1 x1_2 x1_3 = some (r4_1, r4_2)) ∧
  (∃ k, spec_SlipDrops.f k x1_0 x1_1 x1_2 x1_3 = some (r5_1, r5_2)) ∧
  (∃ k, laws_jSame.f k r2_1 r3_1 = some r6) ∧
  (∃ k, laws_jSame.f k r4_1 r5_1 = some r7)
def Obl1 (x1_0 : Int) (x1_1 : Int) (x1_2 : Int) (x1_3 : Int) (r2_1 : List Int) (r2_2 : Bool) (r3_1 : List Int) (r3_2 : Bool) (r4_1 : List Int) (r4_2 : Bool) (r5_1 : List Int) (r5_2 : Bool) (r6 : Bool) (r7 : Bool) (J1 : Int → Prop) (m1 : Int → Nat) : Prop :=
  /- 1393 -/ ((r2_2 != r3_2) = false) ∧
  /- 1393 -/ (r6 = true) ∧
  /- 1393 -/ ((r4_2 != r5_2) = false) ∧
  /- 1393 -/ (r7 = true) ∧
  /- 1393 -/ ((r4_2 != r2_2) = false) ∧
  /- 1397 -/ (r2_2 = true → (decide (((r2_1.length : Int)) < 1)) = false) ∧
  /- 1397 -/ (r2_2 = true → (decide ((wrap64 (x1_3 + 1)) < ((r2_1.length : Int)))) = false) ∧
  /- 1397 -/ (r2_2 = true → (((r4_1.length : Int)) != (wrap64 (((r2_1.length : Int)) - 1))) = false) ∧
  /- 1400 -/ (r2_2 = true → ∀ y1_0 : Int, J1 y1_0 → (decide (y1_0 < ((r2_1.length : Int)))) = true → 0 ≤ y1_0) ∧
  /- 1400 -/ (r2_2 = true → ∀ y1_0 : Int, J1 y1_0 → (decide (y1_0 < ((r2_1.length : Int)))) = true → y1_0 < (r2_1.length : Int)) ∧
  /- 1402 -/ (r2_2 = true → ∀ y1_0 : Int, J1 y1_0 → (decide (y1_0 < ((r2_1.length : Int)))) = true → (decide (x1_0 < (wrap64 (x1_1 + (wrap64 (y1_0 * x1_2)))))) = false) ∧
  /- 1402 -/ (r2_2 = true → ∀ y1_0 : Int, J1 y1_0 → (decide (y1_0 < ((r2_1.length : Int)))) = true → (decide ((rd r2_1 y1_0) < 0)) = false) ∧
  /- 1402 -/ (r2_2 = true → ∀ y1_0 : Int, J1 y1_0 → (decide (y1_0 < ((r2_1.length : Int)))) = true → (decide ((wrap64 (x1_0 * x1_0)) < (wrap64 ((wrap64 ((rd r2_1 y1_0) * (rd r2_1 y1_0))) + (wrap64 ((wrap64 (x1_1 + (wrap64 (y1_0 * x1_2)))) * (wrap64 (x1_1 + (wrap64 (y1_0 * x1_2)))))))))) = false) ∧
  /- 1402 -/ (r2_2 = true → ∀ y1_0 : Int, J1 y1_0 → (decide (y1_0 < ((r2_1.length : Int)))) = true → (decide ((wrap64 ((wrap64 ((wrap64 ((rd r2_1 y1_0) + 1)) * (wrap64 ((rd r2_1 y1_0) + 1)))) + (wrap64 ((wrap64 (x1_1 + (wrap64 (y1_0 * x1_2)))) * (wrap64 (x1_1 + (wrap64 (y1_0 * x1_2)))))))) ≤ (wrap64 (x1_0 * x1_0)))) = false) ∧
  /- 1402 -/ (r2_2 = true → ∀ y1_0 : Int, J1 y1_0 → (decide (y1_0 < ((r2_1.length : Int)))) = true → (decide (0 < y1_0)) = true → 0 ≤ wrap64 (y1_0 - 1)) ∧
  /- 1402 -/ (r2_2 = true → ∀ y1_0 : Int, J1 y1_0 → (decide (y1_0 < ((r2_1.length : Int)))) = true → (decide (0 < y1_0)) = true → wrap64 (y1_0 - 1) < (r2_1.length : Int)) ∧
  /- 1402 -/ (r2_2 = true → ∀ y1_0 : Int, J1 y1_0 → (decide (y1_0 < ((r2_1.length : Int)))) = true → (decide (0 < y1_0)) = true → 0 ≤ wrap64 (y1_0 - 1)) ∧
  /- 1402 -/ (r2_2 = true → ∀ y1_0 : Int, J1 y1_0 → (decide (y1_0 < ((r2_1.length : Int)))) = true → (decide (0 < y1_0)) = true → wrap64 (y1_0 - 1) < (r4_1.length : Int)) ∧
  /- 1402 -/ (r2_2 = true → ∀ y1_0 : Int, J1 y1_0 → (decide (y1_0 < ((r2_1.length : Int)))) = true → (decide (0 < y1_0)) = true → ((wrap64 ((rd r2_1 (wrap64 (y1_0 - 1))) - (rd r2_1 y1_0))) != (rd r4_1 (wrap64 (y1_0 - 1)))) = false) ∧
  /- 1402 -/ (r2_2 = true → ∀ y1_0 : Int, J1 y1_0 → (decide (y1_0 < ((r2_1.length : Int)))) = true → (decide (0 < y1_0)) = true → 0 ≤ wrap64 (y1_0 - 1)) ∧
  /- 1402 -/ (r2_2 = true → ∀ y1_0 : Int, J1 y1_0 → (decide (y1_0 < ((r2_1.length : Int)))) = true → (decide (0 < y1_0)) = true → wrap64 (y1_0 - 1) < (r4_1.length : Int)) ∧
  /- 1402 -/ (r2_2 = true → ∀ y1_0 : Int, J1 y1_0 → (decide (y1_0 < ((r2_1.length : Int)))) = true → (decide (0 < y1_0)) = true → (decide ((rd r4_1 (wrap64 (y1_0 - 1))) < 0)) = false) ∧
  /- 1406 -/ (r2_2 = true → (decide (((r2_1.length : Int)) ≤ x1_3)) = true → (decide ((wrap64 (x1_1 + (wrap64 (((r2_1.length : Int)) * x1_2)))) ≤ x1_0)) = false) ∧
  /- 1406 -/ (r2_2 = true → J1 0) ∧
  /- 1406 -/ (r2_2 = true → ∀ y1_0 : Int, J1 y1_0 → (decide (y1_0 < ((r2_1.length : Int)))) = true → J1 (wrap64 (y1_0 + 1))) ∧
  /- 1406 -/ (r2_2 = true → ∀ y1_0 : Int, J1 y1_0 → (decide (y1_0 < ((r2_1.length : Int)))) = true → m1 (wrap64 (y1_0 + 1)) < m1 y1_0)
def Pure1 : Prop := ∀ (x1_0 : Int) (x1_1 : Int) (x1_2 : Int) (x1_3 : Int), ∃ (r2_1 : List Int) (r2_2 : Bool) (r3_1 : List Int) (r3_2 : Bool) (r4_1 : List Int) (r4_2 : Bool) (r5_1 : List Int) (r5_2 : Bool) (r6 : Bool) (r7 : Bool) (J1 : Int → Prop) (m1 : Int → Nat), Ans1 x1_0 x1_1 x1_2 x1_3 r2_1 r2_2 r3_1 r3_2 r4_1 r4_2 r5_1 r5_2 r6 r7 J1 m1 ∧ Obl1 x1_0 x1_1 x1_2 x1_3 r2_1 r2_2 r3_1 r3_2 r4_1 r4_2 r5_1 r5_2 r6 r7 J1 m1
def Ans2 (x2_0 : Int) (x2_1 : Int) (r8_1 : Int) (r8_2 : Bool) (r9_1 : Int) (r9_2 : Bool) : Prop :=
  (∃ k, impl_FootForHeight.f k x2_0 x2_1 = some (r8_1, r8_2)) ∧
  (∃ k, spec_FootForHeight.f k x2_0 x2_1 = some (r9_1, r9_2))
def Obl2 (x2_0 : Int) (x2_1 : Int) (r8_1 : Int) (r8_2 : Bool) (r9_1 : Int) (r9_2 : Bool) : Prop :=
  /- 1430 -/ ((r8_2 != r9_2) = false) ∧
  /- 1430 -/ ((r8_1 != r9_1) = false) ∧
  /- 1433 -/ (r8_2 = true → (decide (r8_1 < 0)) = false) ∧
  /- 1433 -/ (r8_2 = true → (decide ((wrap64 (x2_0 * x2_0)) < (wrap64 ((wrap64 (r8_1 * r8_1)) + (wrap64 (x2_1 * x2_1)))))) = false) ∧
  /- 1433 -/ (r8_2 = true → (decide ((wrap64 ((wrap64 ((wrap64 (r8_1 + 1)) * (wrap64 (r8_1 + 1)))) + (wrap64 (x2_1 * x2_1)))) ≤ (wrap64 (x2_0 * x2_0)))) = false)
def Pure2 : Prop := ∀ (x2_0 : Int) (x2_1 : Int), ∃ (r8_1 : Int) (r8_2 : Bool) (r9_1 : Int) (r9_2 : Bool), Ans2 x2_0 x2_1 r8_1 r8_2 r9_1 r9_2 ∧ Obl2 x2_0 x2_1 r8_1 r8_2 r9_1 r9_2
def Ans3 (x3_0 : Int) (x3_1 : Int) (r10_1 : Int) (r10_2 : Int) (r10_3 : Int) (r10_4 : Int) (r10_5 : Bool) (r11_1 : Int) (r11_2 : Int) (r11_3 : Int) (r11_4 : Int) (r11_5 : Bool) (r26_1 : List Int) (r26_2 : Bool) (r27 : Bool) (r28 : Bool) (r29 : Bool) : Prop :=
  (∃ k, impl_MiddleOf.f k x3_0 x3_1 = some (r10_1, r10_2, r10_3, r10_4, r10_5)) ∧
  (∃ k, spec_MiddleOf.f k x3_0 x3_1 = some (r11_1, r11_2, r11_3, r11_4, r11_5)) ∧
  (r10_5 = true → ∃ k, impl_PartOfLadder.f k x3_0 x3_1 1 2 = some (r26_1, r26_2)) ∧
  (r10_5 = true → ∃ k, laws_jIs.f k r10_1 r10_2 x3_0 2 = some r27) ∧
  (r10_5 = true → ∃ k, laws_jIs.f k r10_3 r10_4 x3_1 2 = some r28) ∧
  (r10_5 = true → ∃ k, laws_jSame.f k r26_1 ([r10_1, r10_2, r10_3, r10_4]) = some r29)
def Obl3 (x3_0 : Int) (x3_1 : Int) (r10_1 : Int) (r10_2 : Int) (r10_3 : Int) (r10_4 : Int) (r10_5 : Bool) (r11_1 : Int) (r11_2 : Int) (r11_3 : Int) (r11_4 : Int) (r11_5 : Bool) (r26_1 : List Int) (r26_2 : Bool) (r27 : Bool) (r28 : Bool) (r29 : Bool) : Prop :=
  /- 1430 -/ ((r10_5 != r11_5) = false) ∧
  /- 1430 -/ ((r10_1 != r11_1) = false) ∧
  /- 1430 -/ ((r10_2 != r11_2) = false) ∧
  /- 1430 -/ ((r10_3 != r11_3) = false) ∧
  /- 1430 -/ ((r10_4 != r11_4) = false) ∧
  /- 1438 -/ (r10_5 = true → r27 = true) ∧
  /- 1438 -/ (r10_5 = true → r28 = true) ∧
  /- 1438 -/ (r10_5 = true → r26_2 = true) ∧
  /- 1438 -/ (r10_5 = true → r29 = true)
def Pure3 : Prop := ∀ (x3_0 : Int) (x3_1 : Int), ∃ (r10_1 : Int) (r10_2 : Int) (r10_3 : Int) (r10_4 : Int) (r10_5 : Bool) (r11_1 : Int) (r11_2 : Int) (r11_3 : Int) (r11_4 : Int) (r11_5 : Bool) (r26_1 : List Int) (r26_2 : Bool) (r27 : Bool) (r28 : Bool) (r29 : Bool), Ans3 x3_0 x3_1 r10_1 r10_2 r10_3 r10_4 r10_5 r11_1 r11_2 r11_3 r11_4 r11_5 r26_1 r26_2 r27 r28 r29 ∧ Obl3 x3_0 x3_1 r10_1 r10_2 r10_3 r10_4 r10_5 r11_1 r11_2 r11_3 r11_4 r11_5 r26_1 r26_2 r27 r28 r29
def Ans4 (x4_0 : Int) (x4_1 : Int) (x4_2 : Int) (x4_3 : Int) (r12_1 : List Int) (r12_2 : Bool) (r13_1 : List Int) (r13_2 : Bool) (r24 : Bool) (r25 : Bool) (r30 : Bool) : Prop :=
  (∃ k, impl_PartOfLadder.f k x4_0 x4_1 x4_2 x4_3 = some (r12_1, r12_2)) ∧
  (∃ k, spec_PartOfLadder.f k x4_0 x4_1 x4_2 x4_3 = some (r13_1, r13_2)) ∧
  (r12_2 = true → ∃ k, laws_jIs.f k (rd r12_1 0) (rd r12_1 1) (wrap64 (x4_0 * (wrap64 (x4_3 - x4_2)))) x4_3 = some r24) ∧
  (r12_2 = true → ∃ k, laws_jIs.f k (rd r12_1 2) (rd r12_1 3) (wrap64 (x4_1 * x4_2)) x4_3 = some r25) ∧
  (∃ k, laws_jSame.f k r12_1 r13_1 = some r30)
def Obl4 (x4_0 : Int) (x4_1 : Int) (x4_2 : Int) (x4_3 : Int) (r12_1 : List Int) (r12_2 : Bool) (r13_1 : List Int) (r13_2 : Bool) (r24 : Bool) (r25 : Bool) (r30 : Bool) : Prop :=
  /- 1430 -/ ((r12_2 != r13_2) = false) ∧
  /- 1430 -/ (r30 = true) ∧
  /- 1442 -/ (r12_2 = true → (((r12_1.length : Int)) != 4) = false) ∧
  /- 1442 -/ (r12_2 = true → 0 < (r12_1.length : Int)) ∧
  /- 1442 -/ (r12_2 = true → 1 < (r12_1.length : Int)) ∧
  /- 1442 -/ (r12_2 = true → r24 = true) ∧
  /- 1442 -/ (r12_2 = true → 2 < (r12_1.length : Int)) ∧
  /- 1442 -/ (r12_2 = true → 3 < (r12_1.length : Int)) ∧
  /- 1442 -/ (r12_2 = true → r25 = true)
def Pure4 : Prop := ∀ (x4_0 : Int) (x4_1 : Int) (x4_2 : Int) (x4_3 : Int), ∃ (r12_1 : List Int) (r12_2 : Bool) (r13_1 : List Int) (r13_2 : Bool) (r24 : Bool) (r25 : Bool) (r30 : Bool), Ans4 x4_0 x4_1 x4_2 x4_3 r12_1 r12_2 r13_1 r13_2 r24 r25 r30 ∧ Obl4 x4_0 x4_1 x4_2 x4_3 r12_1 r12_2 r13_1 r13_2 r24 r25 r30
def Ans5 (x5_0 : Int) (x5_1 : Int) (r14_1 : Int) (r14_2 : Int) (r14_3 : Bool) (r15_1 : Int) (r15_2 : Int) (r15_3 : Bool) (r16_1 : Int) (r16_2 : Bool) (r17_1 : Int) (r17_2 : Bool) : Prop :=
  (∃ k, impl_SquareLeanSum.f k x5_0 x5_1 = some (r14_1, r14_2, r14_3)) ∧
  (∃ k, spec_SquareLeanSum.f k x5_0 x5_1 = some (r15_1, r15_2, r15_3)) ∧
  (∃ k, impl_CountSquareLeans.f k x5_0 x5_1 = some (r16_1, r16_2)) ∧
  (∃ k, spec_CountSquareLeans.f k x5_0 x5_1 = some (r17_1, r17_2))
def Obl5 (x5_0 : Int) (x5_1 : Int) (r14_1 : Int) (r14_2 : Int) (r14_3 : Bool) (r15_1 : Int) (r15_2 : Int) (r15_3 : Bool) (r16_1 : Int) (r16_2 : Bool) (r17_1 : Int) (r17_2 : Bool) : Prop :=
  /- 1430 -/ ((r14_3 != r15_3) = false) ∧
  /- 1430 -/ ((r14_1 != r15_1) = false) ∧
  /- 1430 -/ ((r14_2 != r15_2) = false) ∧
  /- 1430 -/ ((r16_2 != r17_2) = false) ∧
  /- 1430 -/ ((r16_1 != r17_1) = false) ∧
  /- 1430 -/ (r16_2 = true → (r14_3 != (r16_1 == 2)) = false) ∧
  /- 1430 -/ (r16_2 = false → (r14_3 != false) = false) ∧
  /- 1445 -/ (r16_2 = true → (r16_1 != 0) = true → (r16_1 != 2) = false) ∧
  /- 1445 -/ (r16_2 = true → (r16_1 != 0) = true → ((r16_1 == 2) != (decide ((wrap64 ((wrap64 (8 * x5_0)) * x5_0)) ≤ (wrap64 (x5_1 * x5_1))))) = false) ∧
  /- 1445 -/ (r16_2 = true → (r16_1 != 0) = false → ((r16_1 == 2) != (decide ((wrap64 ((wrap64 (8 * x5_0)) * x5_0)) ≤ (wrap64 (x5_1 * x5_1))))) = false) ∧
  /- 1451 -/ (r14_3 = true → (decide ((wrap64 ((wrap64 (x5_0 * x5_0)) + (wrap64 (x5_1 * x5_1)))) < (wrap64 ((wrap64 (r14_1 - x5_0)) * (wrap64 (r14_1 - x5_0)))))) = false) ∧
  /- 1451 -/ (r14_3 = true → (decide ((wrap64 ((wrap64 ((wrap64 (r14_1 - x5_0)) + 1)) * (wrap64 ((wrap64 (r14_1 - x5_0)) + 1)))) ≤ (wrap64 ((wrap64 (x5_0 * x5_0)) + (wrap64 (x5_1 * x5_1)))))) = false) ∧
  /- 1451 -/ (r14_3 = true → (r14_2 != 0) = true → (r14_2 != 1) = false) ∧
  /- 1451 -/ (r14_3 = true → (r14_2 != 0) = true → ((r14_2 == 1) != ((wrap64 ((wrap64 (r14_1 - x5_0)) * (wrap64 (r14_1 - x5_0)))) == (wrap64 ((wrap64 (x5_0 * x5_0)) + (wrap64 (x5_1 * x5_1)))))) = false) ∧
  /- 1451 -/ (r14_3 = true → (r14_2 != 0) = false → ((r14_2 == 1) != ((wrap64 ((wrap64 (r14_1 - x5_0)) * (wrap64 (r14_1 - x5_0)))) == (wrap64 ((wrap64 (x5_0 * x5_0)) + (wrap64 (x5_1 * x5_1)))))) = false)
def Pure5 : Prop := ∀ (x5_0 : Int) (x5_1 : Int), ∃ (r14_1 : Int) (r14_2 : Int) (r14_3 : Bool) (r15_1 : Int) (r15_2 : Int) (r15_3 : Bool) (r16_1 : Int) (r16_2 : Bool) (r17_1 : Int) (r17_2 : Bool), Ans5 x5_0 x5_1 r14_1 r14_2 r14_3 r15_1 r15_2 r15_3 r16_1 r16_2 r17_1 r17_2 ∧ Obl5 x5_0 x5_1 r14_1 r14_2 r14_3 r15_1 r15_2 r15_3 r16_1 r16_2 r17_1 r17_2
def Ans6 (x6_0 : Int) (r18_1 : Int) (r18_2 : Bool) (r19_1 : Int) (r19_2 : Bool) : Prop :=
  (∃ k, impl_GreatestSquareBox.f k x6_0 = some (r18_1, r18_2)) ∧
  (∃ k, spec_GreatestSquareBox.f k x6_0 = some (r19_1, r19_2))
def Obl6 (x6_0 : Int) (r18_1 : Int) (r18_2 : Bool) (r19_1 : Int) (r19_2 : Bool) : Prop :=
  /- 1430 -/ ((r18_2 != r19_2) = false) ∧
  /- 1430 -/ ((r18_1 != r19_1) = false) ∧
  /- 1455 -/ (r18_2 = true → (decide ((wrap64 (x6_0 * x6_0)) < (wrap64 ((wrap64 (8 * r18_1)) * r18_1)))) = false) ∧
  /- 1455 -/ (r18_2 = true → (decide ((wrap64 ((wrap64 (8 * (wrap64 (r18_1 + 1)))) * (wrap64 (r18_1 + 1)))) ≤ (wrap64 (x6_0 * x6_0)))) = false)
def Pure6 : Prop := ∀ (x6_0 : Int), ∃ (r18_1 : Int) (r18_2 : Bool) (r19_1 : Int) (r19_2 : Bool), Ans6 x6_0 r18_1 r18_2 r19_1 r19_2 ∧ Obl6 x6_0 r18_1 r18_2 r19_1 r19_2
def Ans7 (x7_0 : Int) (r20_1 : List (List Int)) (r20_2 : Bool) (r21_1 : List (List Int)) (r21_2 : Bool) (r22_1 : List (List Int)) (r22_2 : Bool) (r23 : Int → Bool) (r31 : Bool) (J2 : Int → Prop) (m2 : Int → Nat) : Prop :=
  (∃ k, impl_WholeSquareLeans.f k x7_0 = some (r20_1, r20_2)) ∧
  (∃ k, spec_WholeSquareLeans.f k x7_0 = some (r21_1, r21_2)) ∧
  (r20_2 = true → ∃ k, impl_WholeLeans.f k x7_0 x7_0 = some (r22_1, r22_2)) ∧
  (r20_2 = true → ∀ y2_0 : Int, J2 y2_0 → (decide (y2_0 < ((r20_1.length : Int)))) = true → ∃ k, laws_jSame.f k ((r20_1.getD (y2_0 : Int).toNat [])) ((r22_1.getD (y2_0 : Int).toNat [])) = some (r23 y2_0)) ∧
  (∃ k, laws_jRows.f k r20_1 r21_1 = some r31)
def Obl7 (x7_0 : Int) (r20_1 : List (List Int)) (r20_2 : Bool) (r21_1 : List (List Int)) (r21_2 : Bool) (r22_1 : List (List Int)) (r22_2 : Bool) (r23 : Int → Bool) (r31 : Bool) (J2 : Int → Prop) (m2 : Int → Nat) : Prop :=
  /- 1430 -/ ((r20_2 != r21_2) = false) ∧
  /- 1430 -/ (r31 = true) ∧
  /- 1460 -/ (r20_2 = true → r22_2 = true) ∧
  /- 1460 -/ (r20_2 = true → (((r20_1.length : Int)) != (wrap64 (Int.tdiv (wrap64 (((r22_1.length : Int)) + 1)) 2))) = false) ∧
  /- 1463 -/ (r20_2 = true → J2 0) ∧
  /- 1463 -/ (r20_2 = true → ∀ y2_0 : Int, J2 y2_0 → (decide (y2_0 < ((r20_1.length : Int)))) = true → 0 ≤ y2_0) ∧
  /- 1463 -/ (r20_2 = true → ∀ y2_0 : Int, J2 y2_0 → (decide (y2_0 < ((r20_1.length : Int)))) = true → y2_0 < (r20_1.length : Int)) ∧
  /- 1463 -/ (r20_2 = true → ∀ y2_0 : Int, J2 y2_0 → (decide (y2_0 < ((r20_1.length : Int)))) = true → J2 (wrap64 (y2_0 + 1))) ∧
  /- 1463 -/ (r20_2 = true → ∀ y2_0 : Int, J2 y2_0 → (decide (y2_0 < ((r20_1.length : Int)))) = true → m2 (wrap64 (y2_0 + 1)) < m2 y2_0) ∧
  /- 1464 -/ (r20_2 = true → ∀ y2_0 : Int, J2 y2_0 → (decide (y2_0 < ((r20_1.length : Int)))) = true → (((((r20_1.getD (y2_0 : Int).toNat [])).length : Int)) != 2) = false) ∧
  /- 1464 -/ (r20_2 = true → ∀ y2_0 : Int, J2 y2_0 → (decide (y2_0 < ((r20_1.length : Int)))) = true → 0 < (((r20_1.getD (y2_0 : Int).toNat [])).length : Int)) ∧
  /- 1464 -/ (r20_2 = true → ∀ y2_0 : Int, J2 y2_0 → (decide (y2_0 < ((r20_1.length : Int)))) = true → 1 < (((r20_1.getD (y2_0 : Int).toNat [])).length : Int)) ∧
  /- 1464 -/ (r20_2 = true → ∀ y2_0 : Int, J2 y2_0 → (decide (y2_0 < ((r20_1.length : Int)))) = true → (decide ((rd ((r20_1.getD (y2_0 : Int).toNat [])) 1) < (rd ((r20_1.getD (y2_0 : Int).toNat [])) 0))) = false) ∧
  /- 1464 -/ (r20_2 = true → ∀ y2_0 : Int, J2 y2_0 → (decide (y2_0 < ((r20_1.length : Int)))) = true → 0 ≤ y2_0) ∧
  /- 1464 -/ (r20_2 = true → ∀ y2_0 : Int, J2 y2_0 → (decide (y2_0 < ((r20_1.length : Int)))) = true → y2_0 < (r22_1.length : Int)) ∧
  /- 1464 -/ (r20_2 = true → ∀ y2_0 : Int, J2 y2_0 → (decide (y2_0 < ((r20_1.length : Int)))) = true → ((r23 y2_0)) = true)
def Pure7 : Prop := ∀ (x7_0 : Int), ∃ (r20_1 : List (List Int)) (r20_2 : Bool) (r21_1 : List (List Int)) (r21_2 : Bool) (r22_1 : List (List Int)) (r22_2 : Bool) (r23 : Int → Bool) (r31 : Bool) (J2 : Int → Prop) (m2 : Int → Nat), Ans7 x7_0 r20_1 r20_2 r21_1 r21_2 r22_1 r22_2 r23 r31 J2 m2 ∧ Obl7 x7_0 r20_1 r20_2 r21_1 r21_2 r22_1 r22_2 r23 r31 J2 m2
set_option maxRecDepth 100000 in
set_option maxHeartbeats 4000000 in
theorem walk (A0 : Option Addr) (c0 : Nat) (l0 : List Int) (A1 : Option Addr) (c1 : Nat) (l1 : List Int) (hP0 : Pure0) (hP1 : Pure1) (hP2 : Pure2) (hP3 : Pure3) (hP4 : Pure4) (hP5 : Pure5) (hP6 : Pure6) (hP7 : Pure7) (w0 : World) (hr0 : Kd.C (Kd.int .u8) w0 A0 l0.length l0) (hc0 : l0.length ≤ c0) (hY_e0 : By l0) (hr1 : Kd.C (Kd.int .u8) w0 A1 l1.length l1) (hc1 : l1.length ≤ c1) (hY_e1 : By l1) :
    Calls Try.prog 3 #[.slice A0 l0.length c0, .slice A1 l1.length c1] w0 fun e w' => e = .returned (.bool true) ∧ Below w0.heap.size w0 w' := by
  refine calls_start Try.func3 rfl Try.ntmps3 rfl (ofL [(0, .slice A0 l0.length c0), (1, .slice A1 l1.length c1)]) ?_ ?_
  · exact of_args _ _ rfl
  refine cw_gen (D := fun w => Below w0.heap.size w0 w) (stab_below w0) (fun w hw => hw) (fun C hS hB => ?_)
  have h_e0 := fun w (hw : C w) => (⟨Kd.C_below hr0 (hB w hw), hc0⟩ : Kd.C (Kd.int .u8) w A0 l0.length l0 ∧ l0.length ≤ c0)
  have h_e1 := fun w (hw : C w) => (⟨Kd.C_below hr1 (hB w hw), hc1⟩ : Kd.C (Kd.int .u8) w A1 l1.length l1 ∧ l1.length ≤ c1)
  obtain ⟨r1, c_1, _⟩ := hP0 l0 l1
  have C1 : ∀ (A0 : Option Addr) (c0 : Nat) (A1 : Option Addr) (c1 : Nat) w, Kd.C (Kd.int .u8) w A0 l0.length l0 → l0.length ≤ c0 → Kd.C (Kd.int .u8) w A1 l1.length l1 → l1.length ≤ c1 → Calls Try.prog 4 #[.slice A0 l0.length c0, .slice A1 l1.length c1] w fun e w' => e = .returned (.bool r1) ∧ Below w.heap.size w w' := by
    have c := c_1; exact fun A0 c0 A1 c1 w p0 q0 p1 q1 => (laws_big.calls _ _ l0 _ _ l1 _ w p0 q0 p1 q1 c).mono fun e w' ⟨he, hb⟩ => ⟨he, hb.below⟩
  refine cw_seq (fun G1 hG1 => ?_)
  refine cw_region ?_
  refine wl_op rfl rfl rfl (pv_assign rfl rfl) ?_
  refine wl_end (s' := ofL [(0, .slice A0 l0.length c0), (1, .slice A1 l1.length c1)]) (hG1 _ _ ?_) (sub_cons rfl (sub_cons rfl (sub_nil)))
  refine cw_seq (fun G2 hG2 => ?_)
  refine cw_seq (fun G3 hG3 => ?_)
  refine cw_region ?_
  refine wl_op rfl rfl rfl (pv_move rfl rfl) (wl_op rfl rfl rfl (pv_move rfl rfl) (wl_op rfl rfl rfl (pv_call_c hS rfl rfl Try.func4 (by kernel_rfl) rfl (fun w hw => C1 A0 c0 A1 c1 w (h_e0 w hw).1 (h_e0 w hw).2 (h_e1 w hw).1 (h_e1 w hw).2)) ?_))
  refine wl_end (s' := ofL [(0, .slice A0 l0.length c0), (1, .slice A1 l1.length c1), (78, .bool r1)]) (hG3 _ _ ?_) (sub_cons rfl (sub_cons rfl (sub_cons rfl (sub_nil))))
  have hJ5 : GS C 706 G2 (ofL [(0, .slice A0 l0.length c0), (1, .slice A1 l1.length c1)]) := by as_aux_lemma =>
    refine hG2 _ _ ?_
    refine cw_seq (fun G6 hG6 => ?_)
    refine cw_region ?_
    refine wl_op rfl rfl rfl (pv_move rfl rfl) ?_
    refine wl_callE (ι := Int × Int × Int × Int) (fun j1 => .tuple #[.int .i64 j1.1, .int .i64 j1.2.1, .int .i64 j1.2.2.1, .int .i64 j1.2.2.2]) hS rfl rfl rfl rfl rfl Try.func5 (by kernel_rfl) rfl (fun w hw => drawSlipHeights (hY_e0) _ _ w (h_e0 w hw).1) (fun j1 => ?_)
    obtain ⟨r2_1, r2_2, r3_1, r3_2, r4_1, r4_2, r5_1, r5_2, r6, r7, J1, m1, ⟨c_2, c_3, c_4, c_5, c_6, c_7⟩, ⟨o1, o2, o3, o4, o5, o6, o7, o8, o9, o10, o11, o12, o13, o14, o15, o16, o17, o18, o19, o20, o21, o22, o23, o24, o25, o26⟩⟩ := hP1 j1.1 j1.2.1 j1.2.2.1 j1.2.2.2
    have C2 : ∀ w, Calls Try.prog 6 #[.int .i64 j1.1, .int .i64 j1.2.1, .int .i64 j1.2.2.1, .int .i64 j1.2.2.2] w fun e w' => ∃ i2 : Option Addr × Nat, e = .returned (.tuple #[.slice i2.1 r2_1.length i2.2, .bool r2_2]) ∧ ((Kd.C (Kd.int .i64) w' i2.1 r2_1.length r2_1 ∧ r2_1.length ≤ i2.2)) ∧ Below w.heap.size w w' := by
      have c := c_2; obtain ⟨k, c⟩ := c; exact fun w => (impl_SlipHeights.calls k j1.1 j1.2.1 j1.2.2.1 j1.2.2.2 _ _ w c).mono fun e w' ⟨v0_, he, k0, hb⟩ => by
        obtain ⟨A0, c0, rfl, n0, y0⟩ := Kd.R_reads k0
        exact ⟨(A0, c0), he, ⟨y0, n0⟩, hb⟩
    have C3 : ∀ w, Calls Try.prog 7 #[.int .i64 j1.1, .int .i64 j1.2.1, .int .i64 j1.2.2.1, .int .i64 j1.2.2.2] w fun e w' => ∃ i3 : Option Addr × Nat, e = .returned (.tuple #[.slice i3.1 r3_1.length i3.2, .bool r3_2]) ∧ ((Kd.C (Kd.int .i64) w' i3.1 r3_1.length r3_1 ∧ r3_1.length ≤ i3.2)) ∧ Below w.heap.size w w' := by
      have c := c_3; obtain ⟨k, c⟩ := c; exact fun w => (spec_SlipHeights.calls k j1.1 j1.2.1 j1.2.2.1 j1.2.2.2 _ _ w c).mono fun e w' ⟨v0_, he, k0, hb⟩ => by
        obtain ⟨A0, c0, rfl, n0, y0⟩ := Kd.R_reads k0
        exact ⟨(A0, c0), he, ⟨y0, n0⟩, hb⟩
    have C4 : ∀ w, Calls Try.prog 8 #[.int .i64 j1.1, .int .i64 j1.2.1, .int .i64 j1.2.2.1, .int .i64 j1.2.2.2] w fun e w' => ∃ i4 : Option Addr × Nat, e = .returned (.tuple #[.slice i4.1 r4_1.length i4.2, .bool r4_2]) ∧ ((Kd.C (Kd.int .i64) w' i4.1 r4_1.length r4_1 ∧ r4_1.length ≤ i4.2)) ∧ Below w.heap.size w w' := by
      have c := c_4; obtain ⟨k, c⟩ := c; exact fun w => (impl_SlipDrops.calls k j1.1 j1.2.1 j1.2.2.1 j1.2.2.2 _ _ w c).mono fun e w' ⟨v0_, he, k0, hb⟩ => by
        obtain ⟨A0, c0, rfl, n0, y0⟩ := Kd.R_reads k0
        exact ⟨(A0, c0), he, ⟨y0, n0⟩, hb⟩
    have C5 : ∀ w, Calls Try.prog 9 #[.int .i64 j1.1, .int .i64 j1.2.1, .int .i64 j1.2.2.1, .int .i64 j1.2.2.2] w fun e w' => ∃ i5 : Option Addr × Nat, e = .returned (.tuple #[.slice i5.1 r5_1.length i5.2, .bool r5_2]) ∧ ((Kd.C (Kd.int .i64) w' i5.1 r5_1.length r5_1 ∧ r5_1.length ≤ i5.2)) ∧ Below w.heap.size w w' := by
      have c := c_5; obtain ⟨k, c⟩ := c; exact fun w => (spec_SlipDrops.calls k j1.1 j1.2.1 j1.2.2.1 j1.2.2.2 _ _ w c).mono fun e w' ⟨v0_, he, k0, hb⟩ => by
        obtain ⟨A0, c0, rfl, n0, y0⟩ := Kd.R_reads k0
        exact ⟨(A0, c0), he, ⟨y0, n0⟩, hb⟩
    have C6 : ∀ (A0 : Option Addr) (c0 : Nat) (A1 : Option Addr) (c1 : Nat) w, Kd.C (Kd.int .i64) w A0 r2_1.length r2_1 → r2_1.length ≤ c0 → Kd.C (Kd.int .i64) w A1 r3_1.length r3_1 → r3_1.length ≤ c1 → Calls Try.prog 10 #[.slice A0 r2_1.length c0, .slice A1 r3_1.length c1] w fun e w' => e = .returned (.bool r6) ∧ Below w.heap.size w w' := by
      have c := c_6; obtain ⟨k, c⟩ := c; exact fun A0 c0 A1 c1 w p0 q0 p1 q1 => (laws_jSame.calls k _ _ r2_1 _ _ r3_1 _ w p0 q0 p1 q1 c).mono fun e w' ⟨he, hb⟩ => ⟨he, hb.below⟩
    have C7 : ∀ (A0 : Option Addr) (c0 : Nat) (A1 : Option Addr) (c1 : Nat) w, Kd.C (Kd.int .i64) w A0 r4_1.length r4_1 → r4_1.length ≤ c0 → Kd.C (Kd.int .i64) w A1 r5_1.length r5_1 → r5_1.length ≤ c1 → Calls Try.prog 10 #[.slice A0 r4_1.length c0, .slice A1 r5_1.length c1] w fun e w' => e = .returned (.bool r7) ∧ Below w.heap.size w w' := by
      have c := c_7; obtain ⟨k, c⟩ := c; exact fun A0 c0 A1 c1 w p0 q0 p1 q1 => (laws_jSame.calls k _ _ r4_1 _ _ r5_1 _ w p0 q0 p1 q1 c).mono fun e w' ⟨he, hb⟩ => ⟨he, hb.below⟩
    refine wl_op rfl rfl rfl (pv_move rfl rfl) (wl_op rfl rfl rfl (pv_extract rfl rfl rfl) (wl_op rfl rfl rfl (pv_extract rfl rfl rfl) (wl_op rfl rfl rfl (pv_extract rfl rfl rfl) (wl_op rfl rfl rfl (pv_extract rfl rfl rfl) (wl_op rfl rfl rfl (pv_assign rfl rfl) (wl_op rfl rfl rfl (pv_assign rfl rfl) (wl_op rfl rfl rfl (pv_assign rfl rfl) (wl_op rfl rfl rfl (pv_assign rfl rfl) ?_))))))))
    refine wl_end (s' := ofL [(1, .slice A1 l1.length c1), (5, .int .i64 j1.1), (6, .int .i64 j1.2.1), (7, .int .i64 j1.2.2.1), (8, .int .i64 j1.2.2.2)]) (hG6 _ _ ?_) (sub_cons rfl (sub_cons rfl (sub_cons rfl (sub_cons rfl (sub_cons rfl (sub_nil))))))
    refine cw_seq (fun G7 hG7 => ?_)
    refine cw_region ?_
    refine wl_op rfl rfl rfl (pv_move rfl rfl) (wl_op rfl rfl rfl (pv_move rfl rfl) (wl_op rfl rfl rfl (pv_move rfl rfl) (wl_op rfl rfl rfl (pv_move rfl rfl) ?_)))
    refine wl_callR (ι := Option Addr × Nat) (fun i2 => .tuple #[.slice i2.1 r2_1.length i2.2, .bool r2_2]) (fun i2 w => (Kd.C (Kd.int .i64) w i2.1 r2_1.length r2_1 ∧ r2_1.length ≤ i2.2)) hS rfl rfl rfl rfl rfl Try.func6 (by kernel_rfl) rfl (fun w hw => C2 w) (fun i2 => ?_)
    refine wl_op rfl rfl rfl (pv_move rfl rfl) (wl_op rfl rfl rfl (pv_extract rfl rfl rfl) (wl_op rfl rfl rfl (pv_extract rfl rfl rfl) (wl_op rfl rfl rfl (pv_assign rfl rfl) (wl_op rfl rfl rfl (pv_assign rfl rfl) ?_))))
    refine wl_end (s' := ofL [(1, .slice A1 l1.length c1), (5, .int .i64 j1.1), (6, .int .i64 j1.2.1), (7, .int .i64 j1.2.2.1), (8, .int .i64 j1.2.2.2), (9, .slice i2.1 r2_1.length i2.2), (10, .bool r2_2)]) (hG7 _ _ ?_) (sub_cons rfl (sub_cons rfl (sub_cons rfl (sub_cons rfl (sub_cons rfl (sub_cons rfl (sub_cons rfl (sub_nil))))))))
    refine cw_gen (D := fun w => (C w) ∧ ((Kd.C (Kd.int .i64) w i2.1 r2_1.length r2_1 ∧ r2_1.length ≤ i2.2))) (by first | exact hS | (repeat (first | exact hS | exact stab_below _ | exact stab_blk _ _ | exact stab_row | exact stab_rr | exact stab_const _ | refine Stab.and ?_ ?_))) (fun w hw => ⟨hw.1, hw.2⟩) (fun K1 hS hD => ?_)
    have upK1 : ∀ w, K1 w → C w := fun w hw => (hD w hw).1
    replace hB : ∀ w, K1 w → Below w0.heap.size w0 w := fun w hw => hB w (upK1 w hw)
    replace h_e0 := fun w hw => h_e0 w (upK1 w hw)
    replace h_e1 := fun w hw => h_e1 w (upK1 w hw)
    have h_m2_0 := fun w hw => (hD w hw).2
    clear hD
    refine cw_seq (fun G8 hG8 => ?_)
    refine cw_region ?_
    refine wl_op rfl rfl rfl (pv_move rfl rfl) (wl_op rfl rfl rfl (pv_move rfl rfl) (wl_op rfl rfl rfl (pv_move rfl rfl) (wl_op rfl rfl rfl (pv_move rfl rfl) ?_)))
    refine wl_callR (ι := Option Addr × Nat) (fun i3 => .tuple #[.slice i3.1 r3_1.length i3.2, .bool r3_2]) (fun i3 w => (Kd.C (Kd.int .i64) w i3.1 r3_1.length r3_1 ∧ r3_1.length ≤ i3.2)) hS rfl rfl rfl rfl rfl Try.func7 (by kernel_rfl) rfl (fun w hw => C3 w) (fun i3 => ?_)
    refine wl_op rfl rfl rfl (pv_move rfl rfl) (wl_op rfl rfl rfl (pv_extract rfl rfl rfl) (wl_op rfl rfl rfl (pv_extract rfl rfl rfl) (wl_op rfl rfl rfl (pv_assign rfl rfl) (wl_op rfl rfl rfl (pv_assign rfl rfl) ?_))))
    refine wl_end (s' := ofL [(1, .slice A1 l1.length c1), (5, .int .i64 j1.1), (6, .int .i64 j1.2.1), (7, .int .i64 j1.2.2.1), (8, .int .i64 j1.2.2.2), (9, .slice i2.1 r2_1.length i2.2), (10, .bool r2_2), (11, .slice i3.1 r3_1.length i3.2), (12, .bool r3_2)]) (hG8 _ _ ?_) (sub_cons rfl (sub_cons rfl (sub_cons rfl (sub_cons rfl (sub_cons rfl (sub_cons rfl (sub_cons rfl (sub_cons rfl (sub_cons rfl (sub_nil))))))))))
    refine cw_gen (D := fun w => (K1 w) ∧ ((Kd.C (Kd.int .i64) w i3.1 r3_1.length r3_1 ∧ r3_1.length ≤ i3.2))) (by first | exact hS | (repeat (first | exact hS | exact stab_below _ | exact stab_blk _ _ | exact stab_row | exact stab_rr | exact stab_const _ | refine Stab.and ?_ ?_))) (fun w hw => ⟨hw.1, hw.2⟩) (fun K2 hS hD => ?_)
    have upK2 : ∀ w, K2 w → K1 w := fun w hw => (hD w hw).1
    replace hB : ∀ w, K2 w → Below w0.heap.size w0 w := fun w hw => hB w (upK2 w hw)
    replace h_e0 := fun w hw => h_e0 w (upK2 w hw)
    replace h_e1 := fun w hw => h_e1 w (upK2 w hw)
    replace h_m2_0 := fun w hw => h_m2_0 w (upK2 w hw)
    have h_m3_0 := fun w hw => (hD w hw).2
    clear hD
    refine cw_seq (fun G9 hG9 => ?_)
    refine cw_region ?_
    refine wl_op rfl rfl rfl (pv_move rfl rfl) (wl_op rfl rfl rfl (pv_move rfl rfl) (wl_op rfl rfl rfl (pv_move rfl rfl) (wl_op rfl rfl rfl (pv_move rfl rfl) ?_)))
    refine wl_callR (ι := Option Addr × Nat) (fun i4 => .tuple #[.slice i4.1 r4_1.length i4.2, .bool r4_2]) (fun i4 w => (Kd.C (Kd.int .i64) w i4.1 r4_1.length r4_1 ∧ r4_1.length ≤ i4.2)) hS rfl rfl rfl rfl rfl Try.func8 (by kernel_rfl) rfl (fun w hw => C4 w) (fun i4 => ?_)
    refine wl_op rfl rfl rfl (pv_move rfl rfl) (wl_op rfl rfl rfl (pv_extract rfl rfl rfl) (wl_op rfl rfl rfl (pv_extract rfl rfl rfl) (wl_op rfl rfl rfl (pv_assign rfl rfl) (wl_op rfl rfl rfl (pv_assign rfl rfl) ?_))))
    refine wl_end (s' := ofL [(1, .slice A1 l1.length c1), (5, .int .i64 j1.1), (6, .int .i64 j1.2.1), (7, .int .i64 j1.2.2.1), (8, .int .i64 j1.2.2.2), (9, .slice i2.1 r2_1.length i2.2), (10, .bool r2_2), (11, .slice i3.1 r3_1.length i3.2), (12, .bool r3_2), (13, .slice i4.1 r4_1.length i4.2), (14, .bool r4_2)]) (hG9 _ _ ?_) (sub_cons rfl (sub_cons rfl (sub_cons rfl (sub_cons rfl (sub_cons rfl (sub_cons rfl (sub_cons rfl (sub_cons rfl (sub_cons rfl (sub_cons rfl (sub_cons rfl (sub_nil))))))))))))
    refine cw_gen (D := fun w => (K2 w) ∧ ((Kd.C (Kd.int .i64) w i4.1 r4_1.length r4_1 ∧ r4_1.length ≤ i4.2))) (by first | exact hS | (repeat (first | exact hS | exact stab_below _ | exact stab_blk _ _ | exact stab_row | exact stab_rr | exact stab_const _ | refine Stab.and ?_ ?_))) (fun w hw => ⟨hw.1, hw.2⟩) (fun K3 hS hD => ?_)
    have upK3 : ∀ w, K3 w → K2 w := fun w hw => (hD w hw).1
    replace hB : ∀ w, K3 w → Below w0.heap.size w0 w := fun w hw => hB w (upK3 w hw)
    replace h_e0 := fun w hw => h_e0 w (upK3 w hw)
    replace h_e1 := fun w hw => h_e1 w (upK3 w hw)
    replace h_m2_0 := fun w hw => h_m2_0 w (upK3 w hw)
    replace h_m3_0 := fun w hw => h_m3_0 w (upK3 w hw)
    have h_m4_0 := fun w hw => (hD w hw).2
    clear hD
    refine cw_seq (fun G10 hG10 => ?_)
    refine cw_region ?_
    refine wl_op rfl rfl rfl (pv_move rfl rfl) (wl_op rfl rfl rfl (pv_move rfl rfl) (wl_op rfl rfl rfl (pv_move rfl rfl) (wl_op rfl rfl rfl (pv_move rfl rfl) ?_)))
    refine wl_callR (ι := Option Addr × Nat) (fun i5 => .tuple #[.slice i5.1 r5_1.length i5.2, .bool r5_2]) (fun i5 w => (Kd.C (Kd.int .i64) w i5.1 r5_1.length r5_1 ∧ r5_1.length ≤ i5.2)) hS rfl rfl rfl rfl rfl Try.func9 (by kernel_rfl) rfl (fun w hw => C5 w) (fun i5 => ?_)
    refine wl_op rfl rfl rfl (pv_move rfl rfl) (wl_op rfl rfl rfl (pv_extract rfl rfl rfl) (wl_op rfl rfl rfl (pv_extract rfl rfl rfl) (wl_op rfl rfl rfl (pv_assign rfl rfl) (wl_op rfl rfl rfl (pv_assign rfl rfl) ?_))))
    refine wl_end (s' := ofL [(1, .slice A1 l1.length c1), (5, .int .i64 j1.1), (6, .int .i64 j1.2.1), (7, .int .i64 j1.2.2.1), (8, .int .i64 j1.2.2.2), (9, .slice i2.1 r2_1.length i2.2), (10, .bool r2_2), (11, .slice i3.1 r3_1.length i3.2), (12, .bool r3_2), (13, .slice i4.1 r4_1.length i4.2), (14, .bool r4_2), (15, .slice i5.1 r5_1.length i5.2), (16, .bool r5_2)]) (hG10 _ _ ?_) (sub_cons rfl (sub_cons rfl (sub_cons rfl (sub_cons rfl (sub_cons rfl (sub_cons rfl (sub_cons rfl (sub_cons rfl (sub_cons rfl (sub_cons rfl (sub_cons rfl (sub_cons rfl (sub_cons rfl (sub_nil))))))))))))))
    refine cw_gen (D := fun w => (K3 w) ∧ ((Kd.C (Kd.int .i64) w i5.1 r5_1.length r5_1 ∧ r5_1.length ≤ i5.2))) (by first | exact hS | (repeat (first | exact hS | exact stab_below _ | exact stab_blk _ _ | exact stab_row | exact stab_rr | exact stab_const _ | refine Stab.and ?_ ?_))) (fun w hw => ⟨hw.1, hw.2⟩) (fun K4 hS hD => ?_)
    have upK4 : ∀ w, K4 w → K3 w := fun w hw => (hD w hw).1
    replace hB : ∀ w, K4 w → Below w0.heap.size w0 w := fun w hw => hB w (upK4 w hw)
    replace h_e0 := fun w hw => h_e0 w (upK4 w hw)
    replace h_e1 := fun w hw => h_e1 w (upK4 w hw)
    replace h_m2_0 := fun w hw => h_m2_0 w (upK4 w hw)
    replace h_m3_0 := fun w hw => h_m3_0 w (upK4 w hw)
    replace h_m4_0 := fun w hw => h_m4_0 w (upK4 w hw)
    have h_m5_0 := fun w hw => (hD w hw).2
    clear hD
    refine cw_seq (fun G11 hG11 => ?_)
    refine cw_seq (fun G12 hG12 => ?_)
    refine cw_region ?_
    refine wl_op rfl rfl rfl (pv_move rfl rfl) (wl_op rfl rfl rfl (pv_move rfl rfl) (wl_op rfl rfl rfl (pv_bool (pv_bin rfl rfl rfl (fun _ => b_neqb Try.underlying4)) (o1)) (wl_op rfl rfl rfl (pv_move rfl rfl) (wl_yes rfl rfl rfl rfl rfl rfl (pv_move rfl rfl) (wl_yes rfl rfl rfl rfl rfl rfl (pv_move rfl rfl) (wl_yes rfl rfl rfl rfl rfl rfl (pv_bool (pv_call_c hS rfl rfl Try.func10 (by kernel_rfl) rfl (fun w hw => C6 i2.1 i2.2 i3.1 i3.2 w (h_m2_0 w hw).1 (h_m2_0 w hw).2 (h_m3_0 w hw).1 (h_m3_0 w hw).2)) (o2)) (wl_yes rfl rfl rfl rfl rfl rfl (pv_not rfl rfl) (wl_op rfl rfl rfl (pv_pick rfl rfl rfl) (wl_op rfl rfl rfl (pv_move rfl rfl) (wl_yes rfl rfl rfl rfl rfl rfl (pv_move rfl rfl) (wl_yes rfl rfl rfl rfl rfl rfl (pv_move rfl rfl) ?_)))))))))))
    refine wl_yes rfl rfl rfl rfl rfl rfl (pv_bool (pv_bin rfl rfl rfl (fun _ => b_neqb Try.underlying4)) (o3)) (wl_op rfl rfl rfl (pv_pick rfl rfl rfl) (wl_op rfl rfl rfl (pv_move rfl rfl) (wl_yes rfl rfl rfl rfl rfl rfl (pv_move rfl rfl) (wl_yes rfl rfl rfl rfl rfl rfl (pv_move rfl rfl) (wl_yes rfl rfl rfl rfl rfl rfl (pv_bool (pv_call_c hS rfl rfl Try.func10 (by kernel_rfl) rfl (fun w hw => C7 i4.1 i4.2 i5.1 i5.2 w (h_m4_0 w hw).1 (h_m4_0 w hw).2 (h_m5_0 w hw).1 (h_m5_0 w hw).2)) (o4)) (wl_yes rfl rfl rfl rfl rfl rfl (pv_not rfl rfl) (wl_op rfl rfl rfl (pv_pick rfl rfl rfl) (wl_op rfl rfl rfl (pv_move rfl rfl) (wl_yes rfl rfl rfl rfl rfl rfl (pv_move rfl rfl) (wl_yes rfl rfl rfl rfl rfl rfl (pv_move rfl rfl) (wl_yes rfl rfl rfl rfl rfl rfl (pv_bool (pv_bin rfl rfl rfl (fun _ => b_neqb Try.underlying4)) (o5)) ?_)))))))))))
    refine wl_op rfl rfl rfl (pv_pick rfl rfl rfl) ?_
    refine wl_end (s' := ofL [(1, .slice A1 l1.length c1), (5, .int .i64 j1.1), (6, .int .i64 j1.2.1), (7, .int .i64 j1.2.2.1), (8, .int .i64 j1.2.2.2), (9, .slice i2.1 r2_1.length i2.2), (10, .bool r2_2), (13, .slice i4.1 r4_1.length i4.2), (142, .bool false)]) (hG12 _ _ ?_) (sub_cons rfl (sub_cons rfl (sub_cons rfl (sub_cons rfl (sub_cons rfl (sub_cons rfl (sub_cons rfl (sub_cons rfl (sub_cons rfl (sub_nil))))))))))
    refine cw_false rfl rfl ?_
    refine cw_skip (GS.sub (s' := ofL [(1, .slice A1 l1.length c1), (5, .int .i64 j1.1), (6, .int .i64 j1.2.1), (7, .int .i64 j1.2.2.1), (8, .int .i64 j1.2.2.2), (9, .slice i2.1 r2_1.length i2.2), (10, .bool r2_2), (13, .slice i4.1 r4_1.length i4.2)]) (hG11 _ _ ?_) (sub_cons rfl (sub_cons rfl (sub_cons rfl (sub_cons rfl (sub_cons rfl (sub_cons rfl (sub_cons rfl (sub_cons rfl (sub_nil))))))))))
    refine cw_seq (fun G13 hG13 => ?_)
    refine cw_seq (fun G14 hG14 => ?_)
    refine cw_region ?_
    refine wl_op rfl rfl rfl (pv_move rfl rfl) ?_
    refine wl_end (s' := ofL [(1, .slice A1 l1.length c1), (5, .int .i64 j1.1), (6, .int .i64 j1.2.1), (7, .int .i64 j1.2.2.1), (8, .int .i64 j1.2.2.2), (9, .slice i2.1 r2_1.length i2.2), (13, .slice i4.1 r4_1.length i4.2), (143, .bool r2_2)]) (hG14 _ _ ?_) (sub_cons rfl (sub_cons rfl (sub_cons rfl (sub_cons rfl (sub_cons rfl (sub_cons rfl (sub_cons rfl (sub_cons rfl (sub_nil)))))))))
    have hJ16 : GS K4 706 G13 (ofL [(1, .slice A1 l1.length c1)]) := by as_aux_lemma =>
      refine hG13 _ _ ?_
      refine cw_seq (fun G17 hG17 => ?_)
      refine cw_region ?_
      refine wl_op rfl rfl rfl (pv_move rfl rfl) ?_
      refine wl_callE (ι := Int × Int) (fun j2 => .tuple #[.int .i64 j2.1, .int .i64 j2.2]) hS rfl rfl rfl rfl rfl Try.func11 (by kernel_rfl) rfl (fun w hw => drawFootForHeight (hY_e1) _ _ w (h_e1 w hw).1) (fun j2 => ?_)
      obtain ⟨r8_1, r8_2, r9_1, r9_2, ⟨c_8, c_9⟩, ⟨o27, o28, o47, o48, o49⟩⟩ := hP2 j2.1 j2.2
      have C8 : ∀ w, Calls Try.prog 12 #[.int .i64 j2.1, .int .i64 j2.2] w fun e w' => e = .returned (.tuple #[.int .i64 r8_1, .bool r8_2]) ∧ Below w.heap.size w w' := by
        have c := c_8; obtain ⟨k, c⟩ := c; exact fun w => (impl_FootForHeight.calls k j2.1 j2.2 _ _ w c).mono fun e w' ⟨he, hb⟩ => ⟨he, hb.below⟩
      have C9 : ∀ w, Calls Try.prog 13 #[.int .i64 j2.1, .int .i64 j2.2] w fun e w' => e = .returned (.tuple #[.int .i64 r9_1, .bool r9_2]) ∧ Below w.heap.size w w' := by
        have c := c_9; obtain ⟨k, c⟩ := c; exact fun w => (spec_FootForHeight.calls k j2.1 j2.2 _ _ w c).mono fun e w' ⟨he, hb⟩ => ⟨he, hb.below⟩
      refine wl_op rfl rfl rfl (pv_move rfl rfl) (wl_op rfl rfl rfl (pv_extract rfl rfl rfl) (wl_op rfl rfl rfl (pv_extract rfl rfl rfl) (wl_op rfl rfl rfl (pv_assign rfl rfl) (wl_op rfl rfl rfl (pv_assign rfl rfl) ?_))))
      refine wl_end (s' := ofL [(1, .slice A1 l1.length c1), (20, .int .i64 j2.1), (21, .int .i64 j2.2)]) (hG17 _ _ ?_) (sub_cons rfl (sub_cons rfl (sub_cons rfl (sub_nil))))
      refine cw_seq (fun G18 hG18 => ?_)
      refine cw_region ?_
      refine wl_op rfl rfl rfl (pv_move rfl rfl) (wl_op rfl rfl rfl (pv_move rfl rfl) (wl_op rfl rfl rfl (pv_call_b hS rfl rfl Try.func12 (by kernel_rfl) rfl C8) (wl_op rfl rfl rfl (pv_move rfl rfl) (wl_op rfl rfl rfl (pv_extract rfl rfl rfl) (wl_op rfl rfl rfl (pv_extract rfl rfl rfl) (wl_op rfl rfl rfl (pv_assign rfl rfl) (wl_op rfl rfl rfl (pv_assign rfl rfl) ?_)))))))
      refine wl_end (s' := ofL [(1, .slice A1 l1.length c1), (20, .int .i64 j2.1), (21, .int .i64 j2.2), (22, .int .i64 r8_1), (23, .bool r8_2)]) (hG18 _ _ ?_) (sub_cons rfl (sub_cons rfl (sub_cons rfl (sub_cons rfl (sub_cons rfl (sub_nil))))))
      refine cw_seq (fun G19 hG19 => ?_)
      refine cw_region ?_
      refine wl_op rfl rfl rfl (pv_move rfl rfl) (wl_op rfl rfl rfl (pv_move rfl rfl) (wl_op rfl rfl rfl (pv_call_b hS rfl rfl Try.func13 (by kernel_rfl) rfl C9) (wl_op rfl rfl rfl (pv_move rfl rfl) (wl_op rfl rfl rfl (pv_extract rfl rfl rfl) (wl_op rfl rfl rfl (pv_extract rfl rfl rfl) (wl_op rfl rfl rfl (pv_assign rfl rfl) (wl_op rfl rfl rfl (pv_assign rfl rfl) ?_)))))))
      refine wl_end (s' := ofL [(1, .slice A1 l1.length c1), (20, .int .i64 j2.1), (21, .int .i64 j2.2), (22, .int .i64 r8_1), (23, .bool r8_2), (24, .int .i64 r9_1), (25, .bool r9_2)]) (hG19 _ _ ?_) (sub_cons rfl (sub_cons rfl (sub_cons rfl (sub_cons rfl (sub_cons rfl (sub_cons rfl (sub_cons rfl (sub_nil))))))))
      refine cw_seq (fun G20 hG20 => ?_)
      refine cw_region ?_
      refine wl_op rfl rfl rfl (pv_move rfl rfl) ?_
      refine wl_callE (ι := Int × Int) (fun j3 => .tuple #[.int .i64 j3.1, .int .i64 j3.2]) hS rfl rfl rfl rfl rfl Try.func14 (by kernel_rfl) rfl (fun w hw => drawMiddleOf (hY_e1) _ _ w (h_e1 w hw).1) (fun j3 => ?_)
      obtain ⟨r10_1, r10_2, r10_3, r10_4, r10_5, r11_1, r11_2, r11_3, r11_4, r11_5, r26_1, r26_2, r27, r28, r29, ⟨c_10, c_11, c_26, c_27, c_28, c_29⟩, ⟨o29, o30, o31, o32, o33, o50, o51, o52, o53⟩⟩ := hP3 j3.1 j3.2
      have C10 : ∀ w, Calls Try.prog 15 #[.int .i64 j3.1, .int .i64 j3.2] w fun e w' => e = .returned (.tuple #[.int .i64 r10_1, .int .i64 r10_2, .int .i64 r10_3, .int .i64 r10_4, .bool r10_5]) ∧ Below w.heap.size w w' := by
        have c := c_10; obtain ⟨k, c⟩ := c; exact fun w => (impl_MiddleOf.calls k j3.1 j3.2 _ _ _ _ _ w c).mono fun e w' ⟨he, hb⟩ => ⟨he, hb⟩
      have C11 : ∀ w, Calls Try.prog 16 #[.int .i64 j3.1, .int .i64 j3.2] w fun e w' => e = .returned (.tuple #[.int .i64 r11_1, .int .i64 r11_2, .int .i64 r11_3, .int .i64 r11_4, .bool r11_5]) ∧ Below w.heap.size w w' := by
        have c := c_11; obtain ⟨k, c⟩ := c; exact fun w => (spec_MiddleOf.calls k j3.1 j3.2 _ _ _ _ _ w c).mono fun e w' ⟨he, hb⟩ => ⟨he, hb.below⟩
      have C26 : r10_5 = true → ∀ w, Calls Try.prog 18 #[.int .i64 j3.1, .int .i64 j3.2, .int .i64 1, .int .i64 2] w fun e w' => ∃ i26 : Option Addr × Nat, e = .returned (.tuple #[.slice i26.1 r26_1.length i26.2, .bool r26_2]) ∧ ((Kd.C (Kd.int .i64) w' i26.1 r26_1.length r26_1 ∧ r26_1.length ≤ i26.2)) ∧ Below w.heap.size w w' := by
        intro hb45; have c := c_26 hb45; obtain ⟨k, c⟩ := c; exact fun w => (impl_PartOfLadder.calls k j3.1 j3.2 1 2 _ _ w c).mono fun e w' ⟨v0_, he, k0, hb⟩ => by
          obtain ⟨A0, c0, rfl, n0, y0⟩ := Kd.R_reads k0
          exact ⟨(A0, c0), he, ⟨y0, n0⟩, hb⟩
      have C27 : r10_5 = true → ∀ w, Calls Try.prog 32 #[.int .i64 r10_1, .int .i64 r10_2, .int .i64 j3.1, .int .i64 2] w fun e w' => e = .returned (.bool r27) ∧ Below w.heap.size w w' := by
        intro hb45; have c := c_27 hb45; obtain ⟨k, c⟩ := c; exact fun w => (laws_jIs.calls k r10_1 r10_2 j3.1 2 _ w c).mono fun e w' ⟨he, hb⟩ => ⟨he, hb.below⟩
      have C28 : r10_5 = true → ∀ w, Calls Try.prog 32 #[.int .i64 r10_3, .int .i64 r10_4, .int .i64 j3.2, .int .i64 2] w fun e w' => e = .returned (.bool r28) ∧ Below w.heap.size w w' := by
        intro hb45; have c := c_28 hb45; obtain ⟨k, c⟩ := c; exact fun w => (laws_jIs.calls k r10_3 r10_4 j3.2 2 _ w c).mono fun e w' ⟨he, hb⟩ => ⟨he, hb.below⟩
      have C29 : r10_5 = true → ∀ (A0 : Option Addr) (c0 : Nat) (A1 : Option Addr) (c1 : Nat) w, Kd.C (Kd.int .i64) w A0 r26_1.length r26_1 → r26_1.length ≤ c0 → Kd.C (Kd.int .i64) w A1 ([r10_1, r10_2, r10_3, r10_4]).length ([r10_1, r10_2, r10_3, r10_4]) → ([r10_1, r10_2, r10_3, r10_4]).length ≤ c1 → Calls Try.prog 10 #[.slice A0 r26_1.length c0, .slice A1 ([r10_1, r10_2, r10_3, r10_4]).length c1] w fun e w' => e = .returned (.bool r29) ∧ Below w.heap.size w w' := by
        intro hb45; have c := c_29 hb45; obtain ⟨k, c⟩ := c; exact fun A0 c0 A1 c1 w p0 q0 p1 q1 => (laws_jSame.calls k _ _ r26_1 _ _ ([r10_1, r10_2, r10_3, r10_4]) _ w p0 q0 p1 q1 c).mono fun e w' ⟨he, hb⟩ => ⟨he, hb.below⟩
      refine wl_op rfl rfl rfl (pv_move rfl rfl) (wl_op rfl rfl rfl (pv_extract rfl rfl rfl) (wl_op rfl rfl rfl (pv_extract rfl rfl rfl) (wl_op rfl rfl rfl (pv_assign rfl rfl) (wl_op rfl rfl rfl (pv_assign rfl rfl) ?_))))
      refine wl_end (s' := ofL [(1, .slice A1 l1.length c1), (20, .int .i64 j2.1), (21, .int .i64 j2.2), (22, .int .i64 r8_1), (23, .bool r8_2), (24, .int .i64 r9_1), (25, .bool r9_2), (26, .int .i64 j3.1), (27, .int .i64 j3.2)]) (hG20 _ _ ?_) (sub_cons rfl (sub_cons rfl (sub_cons rfl (sub_cons rfl (sub_cons rfl (sub_cons rfl (sub_cons rfl (sub_cons rfl (sub_cons rfl (sub_nil))))))))))
      refine cw_seq (fun G21 hG21 => ?_)
      refine cw_region ?_
      refine wl_op rfl rfl rfl (pv_move rfl rfl) (wl_op rfl rfl rfl (pv_move rfl rfl) (wl_op rfl rfl rfl (pv_call_b hS rfl rfl Try.func15 (by kernel_rfl) rfl C10) (wl_op rfl rfl rfl (pv_move rfl rfl) (wl_op rfl rfl rfl (pv_extract rfl rfl rfl) (wl_op rfl rfl rfl (pv_extract rfl rfl rfl) (wl_op rfl rfl rfl (pv_extract rfl rfl rfl) (wl_op rfl rfl rfl (pv_extract rfl rfl rfl) (wl_op rfl rfl rfl (pv_extract rfl rfl rfl) (wl_op rfl rfl rfl (pv_assign rfl rfl) (wl_op rfl rfl rfl (pv_assign rfl rfl) (wl_op rfl rfl rfl (pv_assign rfl rfl) ?_)))))))))))
      refine wl_op rfl rfl rfl (pv_assign rfl rfl) (wl_op rfl rfl rfl (pv_assign rfl rfl) ?_)
      refine wl_end (s' := ofL [(1, .slice A1 l1.length c1), (20, .int .i64 j2.1), (21, .int .i64 j2.2), (22, .int .i64 r8_1), (23, .bool r8_2), (24, .int .i64 r9_1), (25, .bool r9_2), (26, .int .i64 j3.1), (27, .int .i64 j3.2), (28, .int .i64 r10_1), (29, .int .i64 r10_2), (30, .int .i64 r10_3), (31, .int .i64 r10_4), (32, .bool r10_5)]) (hG21 _ _ ?_) (sub_cons rfl (sub_cons rfl (sub_cons rfl (sub_cons rfl (sub_cons rfl (sub_cons rfl (sub_cons rfl (sub_cons rfl (sub_cons rfl (sub_cons rfl (sub_cons rfl (sub_cons rfl (sub_cons rfl (sub_cons rfl (sub_nil)))))))))))))))
      refine cw_seq (fun G22 hG22 => ?_)
      refine cw_region ?_
      refine wl_op rfl rfl rfl (pv_move rfl rfl) (wl_op rfl rfl rfl (pv_move rfl rfl) (wl_op rfl rfl rfl (pv_call_b hS rfl rfl Try.func16 (by kernel_rfl) rfl C11) (wl_op rfl rfl rfl (pv_move rfl rfl) (wl_op rfl rfl rfl (pv_extract rfl rfl rfl) (wl_op rfl rfl rfl (pv_extract rfl rfl rfl) (wl_op rfl rfl rfl (pv_extract rfl rfl rfl) (wl_op rfl rfl rfl (pv_extract rfl rfl rfl) (wl_op rfl rfl rfl (pv_extract rfl rfl rfl) (wl_op rfl rfl rfl (pv_assign rfl rfl) (wl_op rfl rfl rfl (pv_assign rfl rfl) (wl_op rfl rfl rfl (pv_assign rfl rfl) ?_)))))))))))
      refine wl_op rfl rfl rfl (pv_assign rfl rfl) (wl_op rfl rfl rfl (pv_assign rfl rfl) ?_)
      refine wl_end (s' := ofL [(1, .slice A1 l1.length c1), (20, .int .i64 j2.1), (21, .int .i64 j2.2), (22, .int .i64 r8_1), (23, .bool r8_2), (24, .int .i64 r9_1), (25, .bool r9_2), (26, .int .i64 j3.1), (27, .int .i64 j3.2), (28, .int .i64 r10_1), (29, .int .i64 r10_2), (30, .int .i64 r10_3), (31, .int .i64 r10_4), (32, .bool r10_5), (33, .int .i64 r11_1), (34, .int .i64 r11_2), (35, .int .i64 r11_3), (36, .int .i64 r11_4), (37, .bool r11_5)]) (hG22 _ _ ?_) (sub_cons rfl (sub_cons rfl (sub_cons rfl (sub_cons rfl (sub_cons rfl (sub_cons rfl (sub_cons rfl (sub_cons rfl (sub_cons rfl (sub_cons rfl (sub_cons rfl (sub_cons rfl (sub_cons rfl (sub_cons rfl (sub_cons rfl (sub_cons rfl (sub_cons rfl (sub_cons rfl (sub_cons rfl (sub_nil))))))))))))))))))))
      refine cw_seq (fun G23 hG23 => ?_)
      refine cw_region ?_
      refine wl_op rfl rfl rfl (pv_move rfl rfl) ?_
      refine wl_callE (ι := Int × Int × Int × Int) (fun j4 => .tuple #[.int .i64 j4.1, .int .i64 j4.2.1, .int .i64 j4.2.2.1, .int .i64 j4.2.2.2]) hS rfl rfl rfl rfl rfl Try.func17 (by kernel_rfl) rfl (fun w hw => drawPartOfLadder (hY_e1) _ _ w (h_e1 w hw).1) (fun j4 => ?_)
      obtain ⟨r12_1, r12_2, r13_1, r13_2, r24, r25, r30, ⟨c_12, c_13, c_24, c_25, c_30⟩, ⟨o34, o35, o54, o55, o56, o57, o58, o59, o60⟩⟩ := hP4 j4.1 j4.2.1 j4.2.2.1 j4.2.2.2
      have C12 : ∀ w, Calls Try.prog 18 #[.int .i64 j4.1, .int .i64 j4.2.1, .int .i64 j4.2.2.1, .int .i64 j4.2.2.2] w fun e w' => ∃ i12 : Option Addr × Nat, e = .returned (.tuple #[.slice i12.1 r12_1.length i12.2, .bool r12_2]) ∧ ((Kd.C (Kd.int .i64) w' i12.1 r12_1.length r12_1 ∧ r12_1.length ≤ i12.2)) ∧ Below w.heap.size w w' := by
        have c := c_12; obtain ⟨k, c⟩ := c; exact fun w => (impl_PartOfLadder.calls k j4.1 j4.2.1 j4.2.2.1 j4.2.2.2 _ _ w c).mono fun e w' ⟨v0_, he, k0, hb⟩ => by
          obtain ⟨A0, c0, rfl, n0, y0⟩ := Kd.R_reads k0
          exact ⟨(A0, c0), he, ⟨y0, n0⟩, hb⟩
      have C13 : ∀ w, Calls Try.prog 19 #[.int .i64 j4.1, .int .i64 j4.2.1, .int .i64 j4.2.2.1, .int .i64 j4.2.2.2] w fun e w' => ∃ i13 : Option Addr × Nat, e = .returned (.tuple #[.slice i13.1 r13_1.length i13.2, .bool r13_2]) ∧ ((Kd.C (Kd.int .i64) w' i13.1 r13_1.length r13_1 ∧ r13_1.length ≤ i13.2)) ∧ Below w.heap.size w w' := by
        have c := c_13; obtain ⟨k, c⟩ := c; exact fun w => (spec_PartOfLadder.calls k j4.1 j4.2.1 j4.2.2.1 j4.2.2.2 _ _ w c).mono fun e w' ⟨v0_, he, k0, hb⟩ => by
          obtain ⟨A0, c0, rfl, n0, y0⟩ := Kd.R_reads k0
          exact ⟨(A0, c0), he, ⟨y0, n0⟩, hb⟩
      have C24 : r12_2 = true → ∀ w, Calls Try.prog 32 #[.int .i64 (rd r12_1 0), .int .i64 (rd r12_1 1), .int .i64 (wrap64 (j4.1 * (wrap64 (j4.2.2.2 - j4.2.2.1)))), .int .i64 j4.2.2.2] w fun e w' => e = .returned (.bool r24) ∧ Below w.heap.size w w' := by
        intro hb86; have c := c_24 hb86; obtain ⟨k, c⟩ := c; exact fun w => (laws_jIs.calls k (rd r12_1 0) (rd r12_1 1) (wrap64 (j4.1 * (wrap64 (j4.2.2.2 - j4.2.2.1)))) j4.2.2.2 _ w c).mono fun e w' ⟨he, hb⟩ => ⟨he, hb.below⟩
      have C25 : r12_2 = true → ∀ w, Calls Try.prog 32 #[.int .i64 (rd r12_1 2), .int .i64 (rd r12_1 3), .int .i64 (wrap64 (j4.2.1 * j4.2.2.1)), .int .i64 j4.2.2.2] w fun e w' => e = .returned (.bool r25) ∧ Below w.heap.size w w' := by
        intro hb86; have c := c_25 hb86; obtain ⟨k, c⟩ := c; exact fun w => (laws_jIs.calls k (rd r12_1 2) (rd r12_1 3) (wrap64 (j4.2.1 * j4.2.2.1)) j4.2.2.2 _ w c).mono fun e w' ⟨he, hb⟩ => ⟨he, hb.below⟩
      have C30 : ∀ (A0 : Option Addr) (c0 : Nat) (A1 : Option Addr) (c1 : Nat) w, Kd.C (Kd.int .i64) w A0 r12_1.length r12_1 → r12_1.length ≤ c0 → Kd.C (Kd.int .i64) w A1 r13_1.length r13_1 → r13_1.length ≤ c1 → Calls Try.prog 10 #[.slice A0 r12_1.length c0, .slice A1 r13_1.length c1] w fun e w' => e = .returned (.bool r30) ∧ Below w.heap.size w w' := by
        have c := c_30; obtain ⟨k, c⟩ := c; exact fun A0 c0 A1 c1 w p0 q0 p1 q1 => (laws_jSame.calls k _ _ r12_1 _ _ r13_1 _ w p0 q0 p1 q1 c).mono fun e w' ⟨he, hb⟩ => ⟨he, hb.below⟩
      refine wl_op rfl rfl rfl (pv_move rfl rfl) (wl_op rfl rfl rfl (pv_extract rfl rfl rfl) (wl_op rfl rfl rfl (pv_extract rfl rfl rfl) (wl_op rfl rfl rfl (pv_extract rfl rfl rfl) (wl_op rfl rfl rfl (pv_extract rfl rfl rfl) (wl_op rfl rfl rfl (pv_assign rfl rfl) (wl_op rfl rfl rfl (pv_assign rfl rfl) (wl_op rfl rfl rfl (pv_assign rfl rfl) (wl_op rfl rfl rfl (pv_assign rfl rfl) ?_))))))))
      refine wl_end (s' := ofL [(1, .slice A1 l1.length c1), (20, .int .i64 j2.1), (21, .int .i64 j2.2), (22, .int .i64 r8_1), (23, .bool r8_2), (24, .int .i64 r9_1), (25, .bool r9_2), (26, .int .i64 j3.1), (27, .int .i64 j3.2), (28, .int .i64 r10_1), (29, .int .i64 r10_2), (30, .int .i64 r10_3), (31, .int .i64 r10_4), (32, .bool r10_5), (33, .int .i64 r11_1), (34, .int .i64 r11_2), (35, .int .i64 r11_3), (36, .int .i64 r11_4), (37, .bool r11_5), (38, .int .i64 j4.1), (39, .int .i64 j4.2.1), (40, .int .i64 j4.2.2.1), (41, .int .i64 j4.2.2.2)]) (hG23 _ _ ?_) (sub_cons rfl (sub_cons rfl (sub_cons rfl (sub_cons rfl (sub_cons rfl (sub_cons rfl (sub_cons rfl (sub_cons rfl (sub_cons rfl (sub_cons rfl (sub_cons rfl (sub_cons rfl (sub_cons rfl (sub_cons rfl (sub_cons rfl (sub_cons rfl (sub_cons rfl (sub_cons rfl (sub_cons rfl (sub_cons rfl (sub_cons rfl (sub_cons rfl (sub_cons rfl (sub_nil))))))))))))))))))))))))
      refine cw_seq (fun G24 hG24 => ?_)
      refine cw_region ?_
      refine wl_op rfl rfl rfl (pv_move rfl rfl) (wl_op rfl rfl rfl (pv_move rfl rfl) (wl_op rfl rfl rfl (pv_move rfl rfl) (wl_op rfl rfl rfl (pv_move rfl rfl) ?_)))
      refine wl_callR (ι := Option Addr × Nat) (fun i12 => .tuple #[.slice i12.1 r12_1.length i12.2, .bool r12_2]) (fun i12 w => (Kd.C (Kd.int .i64) w i12.1 r12_1.length r12_1 ∧ r12_1.length ≤ i12.2)) hS rfl rfl rfl rfl rfl Try.func18 (by kernel_rfl) rfl (fun w hw => C12 w) (fun i12 => ?_)
      refine wl_op rfl rfl rfl (pv_move rfl rfl) (wl_op rfl rfl rfl (pv_extract rfl rfl rfl) (wl_op rfl rfl rfl (pv_extract rfl rfl rfl) (wl_op rfl rfl rfl (pv_assign rfl rfl) (wl_op rfl rfl rfl (pv_assign rfl rfl) ?_))))
      refine wl_end (s' := ofL [(1, .slice A1 l1.length c1), (20, .int .i64 j2.1), (21, .int .i64 j2.2), (22, .int .i64 r8_1), (23, .bool r8_2), (24, .int .i64 r9_1), (25, .bool r9_2), (26, .int .i64 j3.1), (27, .int .i64 j3.2), (28, .int .i64 r10_1), (29, .int .i64 r10_2), (30, .int .i64 r10_3), (31, .int .i64 r10_4), (32, .bool r10_5), (33, .int .i64 r11_1), (34, .int .i64 r11_2), (35, .int .i64 r11_3), (36, .int .i64 r11_4), (37, .bool r11_5), (38, .int .i64 j4.1), (39, .int .i64 j4.2.1), (40, .int .i64 j4.2.2.1), (41, .int .i64 j4.2.2.2), (42, .slice i12.1 r12_1.length i12.2), (43, .bool r12_2)]) (hG24 _ _ ?_) (sub_cons rfl (sub_cons rfl (sub_cons rfl (sub_cons rfl (sub_cons rfl (sub_cons rfl (sub_cons rfl (sub_cons rfl (sub_cons rfl (sub_cons rfl (sub_cons rfl (sub_cons rfl (sub_cons rfl (sub_cons rfl (sub_cons rfl (sub_cons rfl (sub_cons rfl (sub_cons rfl (sub_cons rfl (sub_cons rfl (sub_cons rfl (sub_cons rfl (sub_cons rfl (sub_cons rfl (sub_cons rfl (sub_nil))))))))))))))))))))))))))
      refine cw_gen (D := fun w => (K4 w) ∧ ((Kd.C (Kd.int .i64) w i12.1 r12_1.length r12_1 ∧ r12_1.length ≤ i12.2))) (by first | exact hS | (repeat (first | exact hS | exact stab_below _ | exact stab_blk _ _ | exact stab_row | exact stab_rr | exact stab_const _ | refine Stab.and ?_ ?_))) (fun w hw => ⟨hw.1, hw.2⟩) (fun K5 hS hD => ?_)
      have upK5 : ∀ w, K5 w → K4 w := fun w hw => (hD w hw).1
      replace hB : ∀ w, K5 w → Below w0.heap.size w0 w := fun w hw => hB w (upK5 w hw)
      replace h_e0 := fun w hw => h_e0 w (upK5 w hw)
      replace h_e1 := fun w hw => h_e1 w (upK5 w hw)
      replace h_m2_0 := fun w hw => h_m2_0 w (upK5 w hw)
      replace h_m3_0 := fun w hw => h_m3_0 w (upK5 w hw)
      replace h_m4_0 := fun w hw => h_m4_0 w (upK5 w hw)
      replace h_m5_0 := fun w hw => h_m5_0 w (upK5 w hw)
      have h_m12_0 := fun w hw => (hD w hw).2
      clear hD
      refine cw_seq (fun G25 hG25 => ?_)
      refine cw_region ?_
      refine wl_op rfl rfl rfl (pv_move rfl rfl) (wl_op rfl rfl rfl (pv_move rfl rfl) (wl_op rfl rfl rfl (pv_move rfl rfl) (wl_op rfl rfl rfl (pv_move rfl rfl) ?_)))
      refine wl_callR (ι := Option Addr × Nat) (fun i13 => .tuple #[.slice i13.1 r13_1.length i13.2, .bool r13_2]) (fun i13 w => (Kd.C (Kd.int .i64) w i13.1 r13_1.length r13_1 ∧ r13_1.length ≤ i13.2)) hS rfl rfl rfl rfl rfl Try.func19 (by kernel_rfl) rfl (fun w hw => C13 w) (fun i13 => ?_)
      refine wl_op rfl rfl rfl (pv_move rfl rfl) (wl_op rfl rfl rfl (pv_extract rfl rfl rfl) (wl_op rfl rfl rfl (pv_extract rfl rfl rfl) (wl_op rfl rfl rfl (pv_assign rfl rfl) (wl_op rfl rfl rfl (pv_assign rfl rfl) ?_))))
      refine wl_end (s' := ofL [(1, .slice A1 l1.length c1), (20, .int .i64 j2.1), (21, .int .i64 j2.2), (22, .int .i64 r8_1), (23, .bool r8_2), (24, .int .i64 r9_1), (25, .bool r9_2), (26, .int .i64 j3.1), (27, .int .i64 j3.2), (28, .int .i64 r10_1), (29, .int .i64 r10_2), (30, .int .i64 r10_3), (31, .int .i64 r10_4), (32, .bool r10_5), (33, .int .i64 r11_1), (34, .int .i64 r11_2), (35, .int .i64 r11_3), (36, .int .i64 r11_4), (37, .bool r11_5), (38, .int .i64 j4.1), (39, .int .i64 j4.2.1), (40, .int .i64 j4.2.2.1), (41, .int .i64 j4.2.2.2), (42, .slice i12.1 r12_1.length i12.2), (43, .bool r12_2), (44, .slice i13.1 r13_1.length i13.2), (45, .bool r13_2)]) (hG25 _ _ ?_) (sub_cons rfl (sub_cons rfl (sub_cons rfl (sub_cons rfl (sub_cons rfl (sub_cons rfl (sub_cons rfl (sub_cons rfl (sub_cons rfl (sub_cons rfl (sub_cons rfl (sub_cons rfl (sub_cons rfl (sub_cons rfl (sub_cons rfl (sub_cons rfl (sub_cons rfl (sub_cons rfl (sub_cons rfl (sub_cons rfl (sub_cons rfl (sub_cons rfl (sub_cons rfl (sub_cons rfl (sub_cons rfl (sub_cons rfl (sub_cons rfl (sub_nil))))))))))))))))))))))))))))
      refine cw_gen (D := fun w => (K5 w) ∧ ((Kd.C (Kd.int .i64) w i13.1 r13_1.length r13_1 ∧ r13_1.length ≤ i13.2))) (by first | exact hS | (repeat (first | exact hS | exact stab_below _ | exact stab_blk _ _ | exact stab_row | exact stab_rr | exact stab_const _ | refine Stab.and ?_ ?_))) (fun w hw => ⟨hw.1, hw.2⟩) (fun K6 hS hD => ?_)
      have upK6 : ∀ w, K6 w → K5 w := fun w hw => (hD w hw).1
      replace hB : ∀ w, K6 w → Below w0.heap.size w0 w := fun w hw => hB w (upK6 w hw)
      replace h_e0 := fun w hw => h_e0 w (upK6 w hw)
      replace h_e1 := fun w hw => h_e1 w (upK6 w hw)
      replace h_m12_0 := fun w hw => h_m12_0 w (upK6 w hw)
      replace h_m2_0 := fun w hw => h_m2_0 w (upK6 w hw)
      replace h_m3_0 := fun w hw => h_m3_0 w (upK6 w hw)
      replace h_m4_0 := fun w hw => h_m4_0 w (upK6 w hw)
      replace h_m5_0 := fun w hw => h_m5_0 w (upK6 w hw)
      have h_m13_0 := fun w hw => (hD w hw).2
      clear hD
      refine cw_seq (fun G26 hG26 => ?_)
      refine cw_region ?_
      refine wl_op rfl rfl rfl (pv_move rfl rfl) ?_
      refine wl_callE (ι := Int × Int) (fun j5 => .tuple #[.int .i64 j5.1, .int .i64 j5.2]) hS rfl rfl rfl rfl rfl Try.func20 (by kernel_rfl) rfl (fun w hw => drawSquareLeanSum (hY_e1) _ _ w (h_e1 w hw).1) (fun j5 => ?_)
      obtain ⟨r14_1, r14_2, r14_3, r15_1, r15_2, r15_3, r16_1, r16_2, r17_1, r17_2, ⟨c_14, c_15, c_16, c_17⟩, ⟨o36, o37, o38, o39, o40, o45, o46, o61, o62, o63, o64, o65, o66, o67, o68⟩⟩ := hP5 j5.1 j5.2
      have C14 : ∀ w, Calls Try.prog 21 #[.int .i64 j5.1, .int .i64 j5.2] w fun e w' => e = .returned (.tuple #[.int .i64 r14_1, .int .i64 r14_2, .bool r14_3]) ∧ Below w.heap.size w w' := by
        have c := c_14; obtain ⟨k, c⟩ := c; exact fun w => (impl_SquareLeanSum.calls k j5.1 j5.2 _ _ _ w c).mono fun e w' ⟨he, hb⟩ => ⟨he, hb.below⟩
      have C15 : ∀ w, Calls Try.prog 22 #[.int .i64 j5.1, .int .i64 j5.2] w fun e w' => e = .returned (.tuple #[.int .i64 r15_1, .int .i64 r15_2, .bool r15_3]) ∧ Below w.heap.size w w' := by
        have c := c_15; obtain ⟨k, c⟩ := c; exact fun w => (spec_SquareLeanSum.calls k j5.1 j5.2 _ _ _ w c).mono fun e w' ⟨he, hb⟩ => ⟨he, hb.below⟩
      have C16 : ∀ w, Calls Try.prog 23 #[.int .i64 j5.1, .int .i64 j5.2] w fun e w' => e = .returned (.tuple #[.int .i64 r16_1, .bool r16_2]) ∧ Below w.heap.size w w' := by
        have c := c_16; obtain ⟨k, c⟩ := c; exact fun w => (impl_CountSquareLeans.calls k j5.1 j5.2 _ _ w c).mono fun e w' ⟨he, hb⟩ => ⟨he, hb.below⟩
      have C17 : ∀ w, Calls Try.prog 24 #[.int .i64 j5.1, .int .i64 j5.2] w fun e w' => e = .returned (.tuple #[.int .i64 r17_1, .bool r17_2]) ∧ Below w.heap.size w w' := by
        have c := c_17; obtain ⟨k, c⟩ := c; exact fun w => (spec_CountSquareLeans.calls k j5.1 j5.2 _ _ w c).mono fun e w' ⟨he, hb⟩ => ⟨he, hb.below⟩
      refine wl_op rfl rfl rfl (pv_move rfl rfl) (wl_op rfl rfl rfl (pv_extract rfl rfl rfl) (wl_op rfl rfl rfl (pv_extract rfl rfl rfl) (wl_op rfl rfl rfl (pv_assign rfl rfl) (wl_op rfl rfl rfl (pv_assign rfl rfl) ?_))))
      refine wl_end (s' := ofL [(1, .slice A1 l1.length c1), (20, .int .i64 j2.1), (21, .int .i64 j2.2), (22, .int .i64 r8_1), (23, .bool r8_2), (24, .int .i64 r9_1), (25, .bool r9_2), (26, .int .i64 j3.1), (27, .int .i64 j3.2), (28, .int .i64 r10_1), (29, .int .i64 r10_2), (30, .int .i64 r10_3), (31, .int .i64 r10_4), (32, .bool r10_5), (33, .int .i64 r11_1), (34, .int .i64 r11_2), (35, .int .i64 r11_3), (36, .int .i64 r11_4), (37, .bool r11_5), (38, .int .i64 j4.1), (39, .int .i64 j4.2.1), (40, .int .i64 j4.2.2.1), (41, .int .i64 j4.2.2.2), (42, .slice i12.1 r12_1.length i12.2), (43, .bool r12_2), (44, .slice i13.1 r13_1.length i13.2), (45, .bool r13_2), (46, .int .i64 j5.1), (47, .int .i64 j5.2)]) (hG26 _ _ ?_) (sub_cons rfl (sub_cons rfl (sub_cons rfl (sub_cons rfl (sub_cons rfl (sub_cons rfl (sub_cons rfl (sub_cons rfl (sub_cons rfl (sub_cons rfl (sub_cons rfl (sub_cons rfl (sub_cons rfl (sub_cons rfl (sub_cons rfl (sub_cons rfl (sub_cons rfl (sub_cons rfl (sub_cons rfl (sub_cons rfl (sub_cons rfl (sub_cons rfl (sub_cons rfl (sub_cons rfl (sub_cons rfl (sub_cons rfl (sub_cons rfl (sub_cons rfl (sub_cons rfl (sub_nil))))))))))))))))))))))))))))))
      refine cw_seq (fun G27 hG27 => ?_)
      refine cw_region ?_
      refine wl_op rfl rfl rfl (pv_move rfl rfl) (wl_op rfl rfl rfl (pv_move rfl rfl) (wl_op rfl rfl rfl (pv_call_b hS rfl rfl Try.func21 (by kernel_rfl) rfl C14) (wl_op rfl rfl rfl (pv_move rfl rfl) (wl_op rfl rfl rfl (pv_extract rfl rfl rfl) (wl_op rfl rfl rfl (pv_extract rfl rfl rfl) (wl_op rfl rfl rfl (pv_extract rfl rfl rfl) (wl_op rfl rfl rfl (pv_assign rfl rfl) (wl_op rfl rfl rfl (pv_assign rfl rfl) (wl_op rfl rfl rfl (pv_assign rfl rfl) ?_)))))))))
      refine wl_end (s' := ofL [(1, .slice A1 l1.length c1), (20, .int .i64 j2.1), (21, .int .i64 j2.2), (22, .int .i64 r8_1), (23, .bool r8_2), (24, .int .i64 r9_1), (25, .bool r9_2), (26, .int .i64 j3.1), (27, .int .i64 j3.2), (28, .int .i64 r10_1), (29, .int .i64 r10_2), (30, .int .i64 r10_3), (31, .int .i64 r10_4), (32, .bool r10_5), (33, .int .i64 r11_1), (34, .int .i64 r11_2), (35, .int .i64 r11_3), (36, .int .i64 r11_4), (37, .bool r11_5), (38, .int .i64 j4.1), (39, .int .i64 j4.2.1), (40, .int .i64 j4.2.2.1), (41, .int .i64 j4.2.2.2), (42, .slice i12.1 r12_1.length i12.2), (43, .bool r12_2), (44, .slice i13.1 r13_1.length i13.2), (45, .bool r13_2), (46, .int .i64 j5.1), (47, .int .i64 j5.2), (48, .int .i64 r14_1), (49, .int .i64 r14_2), (50, .bool r14_3)]) (hG27 _ _ ?_) (sub_cons rfl (sub_cons rfl (sub_cons rfl (sub_cons rfl (sub_cons rfl (sub_cons rfl (sub_cons rfl (sub_cons rfl (sub_cons rfl (sub_cons rfl (sub_cons rfl (sub_cons rfl (sub_cons rfl (sub_cons rfl (sub_cons rfl (sub_cons rfl (sub_cons rfl (sub_cons rfl (sub_cons rfl (sub_cons rfl (sub_cons rfl (sub_cons rfl (sub_cons rfl (sub_cons rfl (sub_cons rfl (sub_cons rfl (sub_cons rfl (sub_cons rfl (sub_cons rfl (sub_cons rfl (sub_cons rfl (sub_cons rfl (sub_nil)))))))))))))))))))))))))))))))))
      refine cw_seq (fun G28 hG28 => ?_)
      refine cw_region ?_
      refine wl_op rfl rfl rfl (pv_move rfl rfl) (wl_op rfl rfl rfl (pv_move rfl rfl) (wl_op rfl rfl rfl (pv_call_b hS rfl rfl Try.func22 (by kernel_rfl) rfl C15) (wl_op rfl rfl rfl (pv_move rfl rfl) (wl_op rfl rfl rfl (pv_extract rfl rfl rfl) (wl_op rfl rfl rfl (pv_extract rfl rfl rfl) (wl_op rfl rfl rfl (pv_extract rfl rfl rfl) (wl_op rfl rfl rfl (pv_assign rfl rfl) (wl_op rfl rfl rfl (pv_assign rfl rfl) (wl_op rfl rfl rfl (pv_assign rfl rfl) ?_)))))))))
      refine wl_end (s' := ofL [(1, .slice A1 l1.length c1), (20, .int .i64 j2.1), (21, .int .i64 j2.2), (22, .int .i64 r8_1), (23, .bool r8_2), (24, .int .i64 r9_1), (25, .bool r9_2), (26, .int .i64 j3.1), (27, .int .i64 j3.2), (28, .int .i64 r10_1), (29, .int .i64 r10_2), (30, .int .i64 r10_3), (31, .int .i64 r10_4), (32, .bool r10_5), (33, .int .i64 r11_1), (34, .int .i64 r11_2), (35, .int .i64 r11_3), (36, .int .i64 r11_4), (37, .bool r11_5), (38, .int .i64 j4.1), (39, .int .i64 j4.2.1), (40, .int .i64 j4.2.2.1), (41, .int .i64 j4.2.2.2), (42, .slice i12.1 r12_1.length i12.2), (43, .bool r12_2), (44, .slice i13.1 r13_1.length i13.2), (45, .bool r13_2), (46, .int .i64 j5.1), (47, .int .i64 j5.2), (48, .int .i64 r14_1), (49, .int .i64 r14_2), (50, .bool r14_3), (51, .int .i64 r15_1), (52, .int .i64 r15_2), (53, .bool r15_3)]) (hG28 _ _ ?_) (sub_cons rfl (sub_cons rfl (sub_cons rfl (sub_cons rfl (sub_cons rfl (sub_cons rfl (sub_cons rfl (sub_cons rfl (sub_cons rfl (sub_cons rfl (sub_cons rfl (sub_cons rfl (sub_cons rfl (sub_cons rfl (sub_cons rfl (sub_cons rfl (sub_cons rfl (sub_cons rfl (sub_cons rfl (sub_cons rfl (sub_cons rfl (sub_cons rfl (sub_cons rfl (sub_cons rfl (sub_cons rfl (sub_cons rfl (sub_cons rfl (sub_cons rfl (sub_cons rfl (sub_cons rfl (sub_cons rfl (sub_cons rfl (sub_cons rfl (sub_cons rfl (sub_cons rfl (sub_nil))))))))))))))))))))))))))))))))))))
      refine cw_seq (fun G29 hG29 => ?_)
      refine cw_region ?_
      refine wl_op rfl rfl rfl (pv_move rfl rfl) (wl_op rfl rfl rfl (pv_move rfl rfl) (wl_op rfl rfl rfl (pv_call_b hS rfl rfl Try.func23 (by kernel_rfl) rfl C16) (wl_op rfl rfl rfl (pv_move rfl rfl) (wl_op rfl rfl rfl (pv_extract rfl rfl rfl) (wl_op rfl rfl rfl (pv_extract rfl rfl rfl) (wl_op rfl rfl rfl (pv_assign rfl rfl) (wl_op rfl rfl rfl (pv_assign rfl rfl) ?_)))))))
      refine wl_end (s' := ofL [(1, .slice A1 l1.length c1), (20, .int .i64 j2.1), (21, .int .i64 j2.2), (22, .int .i64 r8_1), (23, .bool r8_2), (24, .int .i64 r9_1), (25, .bool r9_2), (26, .int .i64 j3.1), (27, .int .i64 j3.2), (28, .int .i64 r10_1), (29, .int .i64 r10_2), (30, .int .i64 r10_3), (31, .int .i64 r10_4), (32, .bool r10_5), (33, .int .i64 r11_1), (34, .int .i64 r11_2), (35, .int .i64 r11_3), (36, .int .i64 r11_4), (37, .bool r11_5), (38, .int .i64 j4.1), (39, .int .i64 j4.2.1), (40, .int .i64 j4.2.2.1), (41, .int .i64 j4.2.2.2), (42, .slice i12.1 r12_1.length i12.2), (43, .bool r12_2), (44, .slice i13.1 r13_1.length i13.2), (45, .bool r13_2), (46, .int .i64 j5.1), (47, .int .i64 j5.2), (48, .int .i64 r14_1), (49, .int .i64 r14_2), (50, .bool r14_3), (51, .int .i64 r15_1), (52, .int .i64 r15_2), (53, .bool r15_3), (54, .int .i64 r16_1), (55, .bool r16_2)]) (hG29 _ _ ?_) (sub_cons rfl (sub_cons rfl (sub_cons rfl (sub_cons rfl (sub_cons rfl (sub_cons rfl (sub_cons rfl (sub_cons rfl (sub_cons rfl (sub_cons rfl (sub_cons rfl (sub_cons rfl (sub_cons rfl (sub_cons rfl (sub_cons rfl (sub_cons rfl (sub_cons rfl (sub_cons rfl (sub_cons rfl (sub_cons rfl (sub_cons rfl (sub_cons rfl (sub_cons rfl (sub_cons rfl (sub_cons rfl (sub_cons rfl (sub_cons rfl (sub_cons rfl (sub_cons rfl (sub_cons rfl (sub_cons rfl (sub_cons rfl (sub_cons rfl (sub_cons rfl (sub_cons rfl (sub_cons rfl (sub_cons rfl (sub_nil))))))))))))))))))))))))))))))))))))))
      refine cw_seq (fun G30 hG30 => ?_)
      refine cw_region ?_
      refine wl_op rfl rfl rfl (pv_move rfl rfl) (wl_op rfl rfl rfl (pv_move rfl rfl) (wl_op rfl rfl rfl (pv_call_b hS rfl rfl Try.func24 (by kernel_rfl) rfl C17) (wl_op rfl rfl rfl (pv_move rfl rfl) (wl_op rfl rfl rfl (pv_extract rfl rfl rfl) (wl_op rfl rfl rfl (pv_extract rfl rfl rfl) (wl_op rfl rfl rfl (pv_assign rfl rfl) (wl_op rfl rfl rfl (pv_assign rfl rfl) ?_)))))))
      refine wl_end (s' := ofL [(1, .slice A1 l1.length c1), (20, .int .i64 j2.1), (21, .int .i64 j2.2), (22, .int .i64 r8_1), (23, .bool r8_2), (24, .int .i64 r9_1), (25, .bool r9_2), (26, .int .i64 j3.1), (27, .int .i64 j3.2), (28, .int .i64 r10_1), (29, .int .i64 r10_2), (30, .int .i64 r10_3), (31, .int .i64 r10_4), (32, .bool r10_5), (33, .int .i64 r11_1), (34, .int .i64 r11_2), (35, .int .i64 r11_3), (36, .int .i64 r11_4), (37, .bool r11_5), (38, .int .i64 j4.1), (39, .int .i64 j4.2.1), (40, .int .i64 j4.2.2.1), (41, .int .i64 j4.2.2.2), (42, .slice i12.1 r12_1.length i12.2), (43, .bool r12_2), (44, .slice i13.1 r13_1.length i13.2), (45, .bool r13_2), (46, .int .i64 j5.1), (47, .int .i64 j5.2), (48, .int .i64 r14_1), (49, .int .i64 r14_2), (50, .bool r14_3), (51, .int .i64 r15_1), (52, .int .i64 r15_2), (53, .bool r15_3), (54, .int .i64 r16_1), (55, .bool r16_2), (56, .int .i64 r17_1), (57, .bool r17_2)]) (hG30 _ _ ?_) (sub_cons rfl (sub_cons rfl (sub_cons rfl (sub_cons rfl (sub_cons rfl (sub_cons rfl (sub_cons rfl (sub_cons rfl (sub_cons rfl (sub_cons rfl (sub_cons rfl (sub_cons rfl (sub_cons rfl (sub_cons rfl (sub_cons rfl (sub_cons rfl (sub_cons rfl (sub_cons rfl (sub_cons rfl (sub_cons rfl (sub_cons rfl (sub_cons rfl (sub_cons rfl (sub_cons rfl (sub_cons rfl (sub_cons rfl (sub_cons rfl (sub_cons rfl (sub_cons rfl (sub_cons rfl (sub_cons rfl (sub_cons rfl (sub_cons rfl (sub_cons rfl (sub_cons rfl (sub_cons rfl (sub_cons rfl (sub_cons rfl (sub_cons rfl (sub_nil))))))))))))))))))))))))))))))))))))))))
      refine cw_seq (fun G31 hG31 => ?_)
      refine cw_region ?_
      refine wl_op rfl rfl rfl (pv_move rfl rfl) ?_
      refine wl_callE (ι := Int) (fun j6 => .int .i64 j6) hS rfl rfl rfl rfl rfl Try.func25 (by kernel_rfl) rfl (fun w hw => drawGreatestSquareBox (hY_e1) _ _ w (h_e1 w hw).1) (fun j6 => ?_)
      obtain ⟨r18_1, r18_2, r19_1, r19_2, ⟨c_18, c_19⟩, ⟨o41, o42, o69, o70⟩⟩ := hP6 j6
      have C18 : ∀ w, Calls Try.prog 26 #[.int .i64 j6] w fun e w' => e = .returned (.tuple #[.int .i64 r18_1, .bool r18_2]) ∧ Below w.heap.size w w' := by
        have c := c_18; obtain ⟨k, c⟩ := c; exact fun w => (impl_GreatestSquareBox.calls k j6 _ _ w c).mono fun e w' ⟨he, hb⟩ => ⟨he, hb.below⟩
      have C19 : ∀ w, Calls Try.prog 27 #[.int .i64 j6] w fun e w' => e = .returned (.tuple #[.int .i64 r19_1, .bool r19_2]) ∧ Below w.heap.size w w' := by
        have c := c_19; obtain ⟨k, c⟩ := c; exact fun w => (spec_GreatestSquareBox.calls k j6 _ _ w c).mono fun e w' ⟨he, hb⟩ => ⟨he, hb.below⟩
      refine wl_op rfl rfl rfl (pv_assign rfl rfl) ?_
      refine wl_end (s' := ofL [(1, .slice A1 l1.length c1), (20, .int .i64 j2.1), (21, .int .i64 j2.2), (22, .int .i64 r8_1), (23, .bool r8_2), (24, .int .i64 r9_1), (25, .bool r9_2), (26, .int .i64 j3.1), (27, .int .i64 j3.2), (28, .int .i64 r10_1), (29, .int .i64 r10_2), (30, .int .i64 r10_3), (31, .int .i64 r10_4), (32, .bool r10_5), (33, .int .i64 r11_1), (34, .int .i64 r11_2), (35, .int .i64 r11_3), (36, .int .i64 r11_4), (37, .bool r11_5), (38, .int .i64 j4.1), (39, .int .i64 j4.2.1), (40, .int .i64 j4.2.2.1), (41, .int .i64 j4.2.2.2), (42, .slice i12.1 r12_1.length i12.2), (43, .bool r12_2), (44, .slice i13.1 r13_1.length i13.2), (45, .bool r13_2), (46, .int .i64 j5.1), (47, .int .i64 j5.2), (48, .int .i64 r14_1), (49, .int .i64 r14_2), (50, .bool r14_3), (51, .int .i64 r15_1), (52, .int .i64 r15_2), (53, .bool r15_3), (54, .int .i64 r16_1), (55, .bool r16_2), (56, .int .i64 r17_1), (57, .bool r17_2), (58, .int .i64 j6)]) (hG31 _ _ ?_) (sub_cons rfl (sub_cons rfl (sub_cons rfl (sub_cons rfl (sub_cons rfl (sub_cons rfl (sub_cons rfl (sub_cons rfl (sub_cons rfl (sub_cons rfl (sub_cons rfl (sub_cons rfl (sub_cons rfl (sub_cons rfl (sub_cons rfl (sub_cons rfl (sub_cons rfl (sub_cons rfl (sub_cons rfl (sub_cons rfl (sub_cons rfl (sub_cons rfl (sub_cons rfl (sub_cons rfl (sub_cons rfl (sub_cons rfl (sub_cons rfl (sub_cons rfl (sub_cons rfl (sub_cons rfl (sub_cons rfl (sub_cons rfl (sub_cons rfl (sub_cons rfl (sub_cons rfl (sub_cons rfl (sub_cons rfl (sub_cons rfl (sub_cons rfl (sub_cons rfl (sub_nil)))))))))))))))))))))))))))))))))))))))))
      refine cw_seq (fun G32 hG32 => ?_)
      refine cw_region ?_
      refine wl_op rfl rfl rfl (pv_move rfl rfl) (wl_op rfl rfl rfl (pv_call_b hS rfl rfl Try.func26 (by kernel_rfl) rfl C18) (wl_op rfl rfl rfl (pv_move rfl rfl) (wl_op rfl rfl rfl (pv_extract rfl rfl rfl) (wl_op rfl rfl rfl (pv_extract rfl rfl rfl) (wl_op rfl rfl rfl (pv_assign rfl rfl) (wl_op rfl rfl rfl (pv_assign rfl rfl) ?_))))))
      refine wl_end (s' := ofL [(1, .slice A1 l1.length c1), (20, .int .i64 j2.1), (21, .int .i64 j2.2), (22, .int .i64 r8_1), (23, .bool r8_2), (24, .int .i64 r9_1), (25, .bool r9_2), (26, .int .i64 j3.1), (27, .int .i64 j3.2), (28, .int .i64 r10_1), (29, .int .i64 r10_2), (30, .int .i64 r10_3), (31, .int .i64 r10_4), (32, .bool r10_5), (33, .int .i64 r11_1), (34, .int .i64 r11_2), (35, .int .i64 r11_3), (36, .int .i64 r11_4), (37, .bool r11_5), (38, .int .i64 j4.1), (39, .int .i64 j4.2.1), (40, .int .i64 j4.2.2.1), (41, .int .i64 j4.2.2.2), (42, .slice i12.1 r12_1.length i12.2), (43, .bool r12_2), (44, .slice i13.1 r13_1.length i13.2), (45, .bool r13_2), (46, .int .i64 j5.1), (47, .int .i64 j5.2), (48, .int .i64 r14_1), (49, .int .i64 r14_2), (50, .bool r14_3), (51, .int .i64 r15_1), (52, .int .i64 r15_2), (53, .bool r15_3), (54, .int .i64 r16_1), (55, .bool r16_2), (56, .int .i64 r17_1), (57, .bool r17_2), (58, .int .i64 j6), (59, .int .i64 r18_1), (60, .bool r18_2)]) (hG32 _ _ ?_) (sub_cons rfl (sub_cons rfl (sub_cons rfl (sub_cons rfl (sub_cons rfl (sub_cons rfl (sub_cons rfl (sub_cons rfl (sub_cons rfl (sub_cons rfl (sub_cons rfl (sub_cons rfl (sub_cons rfl (sub_cons rfl (sub_cons rfl (sub_cons rfl (sub_cons rfl (sub_cons rfl (sub_cons rfl (sub_cons rfl (sub_cons rfl (sub_cons rfl (sub_cons rfl (sub_cons rfl (sub_cons rfl (sub_cons rfl (sub_cons rfl (sub_cons rfl (sub_cons rfl (sub_cons rfl (sub_cons rfl (sub_cons rfl (sub_cons rfl (sub_cons rfl (sub_cons rfl (sub_cons rfl (sub_cons rfl (sub_cons rfl (sub_cons rfl (sub_cons rfl (sub_cons rfl (sub_cons rfl (sub_nil)))))))))))))))))))))))))))))))))))))))))))
      refine cw_seq (fun G33 hG33 => ?_)
      refine cw_region ?_
      refine wl_op rfl rfl rfl (pv_move rfl rfl) (wl_op rfl rfl rfl (pv_call_b hS rfl rfl Try.func27 (by kernel_rfl) rfl C19) (wl_op rfl rfl rfl (pv_move rfl rfl) (wl_op rfl rfl rfl (pv_extract rfl rfl rfl) (wl_op rfl rfl rfl (pv_extract rfl rfl rfl) (wl_op rfl rfl rfl (pv_assign rfl rfl) (wl_op rfl rfl rfl (pv_assign rfl rfl) ?_))))))
      refine wl_end (s' := ofL [(1, .slice A1 l1.length c1), (20, .int .i64 j2.1), (21, .int .i64 j2.2), (22, .int .i64 r8_1), (23, .bool r8_2), (24, .int .i64 r9_1), (25, .bool r9_2), (26, .int .i64 j3.1), (27, .int .i64 j3.2), (28, .int .i64 r10_1), (29, .int .i64 r10_2), (30, .int .i64 r10_3), (31, .int .i64 r10_4), (32, .bool r10_5), (33, .int .i64 r11_1), (34, .int .i64 r11_2), (35, .int .i64 r11_3), (36, .int .i64 r11_4), (37, .bool r11_5), (38, .int .i64 j4.1), (39, .int .i64 j4.2.1), (40, .int .i64 j4.2.2.1), (41, .int .i64 j4.2.2.2), (42, .slice i12.1 r12_1.length i12.2), (43, .bool r12_2), (44, .slice i13.1 r13_1.length i13.2), (45, .bool r13_2), (46, .int .i64 j5.1), (47, .int .i64 j5.2), (48, .int .i64 r14_1), (49, .int .i64 r14_2), (50, .bool r14_3), (51, .int .i64 r15_1), (52, .int .i64 r15_2), (53, .bool r15_3), (54, .int .i64 r16_1), (55, .bool r16_2), (56, .int .i64 r17_1), (57, .bool r17_2), (58, .int .i64 j6), (59, .int .i64 r18_1), (60, .bool r18_2), (61, .int .i64 r19_1), (62, .bool r19_2)]) (hG33 _ _ ?_) (sub_cons rfl (sub_cons rfl (sub_cons rfl (sub_cons rfl (sub_cons rfl (sub_cons rfl (sub_cons rfl (sub_cons rfl (sub_cons rfl (sub_cons rfl (sub_cons rfl (sub_cons rfl (sub_cons rfl (sub_cons rfl (sub_cons rfl (sub_cons rfl (sub_cons rfl (sub_cons rfl (sub_cons rfl (sub_cons rfl (sub_cons rfl (sub_cons rfl (sub_cons rfl (sub_cons rfl (sub_cons rfl (sub_cons rfl (sub_cons rfl (sub_cons rfl (sub_cons rfl (sub_cons rfl (sub_cons rfl (sub_cons rfl (sub_cons rfl (sub_cons rfl (sub_cons rfl (sub_cons rfl (sub_cons rfl (sub_cons rfl (sub_cons rfl (sub_cons rfl (sub_cons rfl (sub_cons rfl (sub_cons rfl (sub_cons rfl (sub_nil)))))))))))))))))))))))))))))))))))))))))))))
      refine cw_seq (fun G34 hG34 => ?_)
      refine cw_region ?_
      refine wl_op rfl rfl rfl (pv_move rfl rfl) ?_
      refine wl_callE (ι := Int) (fun j7 => .int .i64 j7) hS rfl rfl rfl rfl rfl Try.func28 (by kernel_rfl) rfl (fun w hw => drawWholeSquareLeans (hY_e1) _ _ w (h_e1 w hw).1) (fun j7 => ?_)
      obtain ⟨r20_1, r20_2, r21_1, r21_2, r22_1, r22_2, r23, r31, J2, m2, ⟨c_20, c_21, c_22, c_23, c_31⟩, ⟨o43, o44, o71, o72, o73, o74, o75, o76, o77, o78, o79, o80, o81, o82, o83, o84⟩⟩ := hP7 j7
      have C20 : ∀ w, Calls Try.prog 29 #[.int .i64 j7] w fun e w' => ∃ i20 : Option Addr × Nat × (Nat → Option Addr × Nat), e = .returned (.tuple #[.slice i20.1 r20_1.length i20.2.1, .bool r20_2]) ∧ ((RR 3 w' i20.1 i20.2.2 r20_1 ∧ r20_1.length ≤ i20.2.1)) ∧ Below w.heap.size w w' := by
        have c := c_20; obtain ⟨k, c⟩ := c; exact fun w => (impl_WholeSquareLeans.calls k j7 _ _ w c).mono fun e w' ⟨v0_, he, k0, hb⟩ => by
          obtain ⟨A0, c0, rfl, n0, z0⟩ := rr_reads (by first | exact .inl k0 | exact .inr (.inl k0) | exact .inr (.inr k0))
          obtain ⟨hd0, y0⟩ := rr_of z0
          exact ⟨(A0, c0, hd0), he, ⟨y0, n0⟩, hb⟩
      have C21 : ∀ w, Calls Try.prog 30 #[.int .i64 j7] w fun e w' => ∃ i21 : Option Addr × Nat × (Nat → Option Addr × Nat), e = .returned (.tuple #[.slice i21.1 r21_1.length i21.2.1, .bool r21_2]) ∧ ((RR 3 w' i21.1 i21.2.2 r21_1 ∧ r21_1.length ≤ i21.2.1)) ∧ Below w.heap.size w w' := by
        have c := c_21; obtain ⟨k, c⟩ := c; exact fun w => (spec_WholeSquareLeans.calls k j7 _ _ w c).mono fun e w' ⟨v0_, he, k0, hb⟩ => by
          obtain ⟨A0, c0, rfl, n0, z0⟩ := rr_reads (by first | exact .inl k0 | exact .inr (.inl k0) | exact .inr (.inr k0))
          obtain ⟨hd0, y0⟩ := rr_of z0
          exact ⟨(A0, c0, hd0), he, ⟨y0, n0⟩, hb⟩
      have C22 : r20_2 = true → ∀ w, Calls Try.prog 33 #[.agg #[.int .i64 j7, .int .i64 j7]] w fun e w' => ∃ i22 : Option Addr × Nat × (Nat → Option Addr × Nat), e = .returned (.tuple #[.slice i22.1 r22_1.length i22.2.1, .bool r22_2]) ∧ ((RR 3 w' i22.1 i22.2.2 r22_1 ∧ r22_1.length ≤ i22.2.1)) ∧ Below w.heap.size w w' := by
        intro hb62; have c := c_22 hb62; obtain ⟨k, c⟩ := c; exact fun w => (impl_WholeLeans.calls k j7 j7 _ _ w c).mono fun e w' ⟨v0_, he, k0, hb⟩ => by
          obtain ⟨A0, c0, rfl, n0, z0⟩ := rr_reads (by first | exact .inl k0 | exact .inr (.inl k0) | exact .inr (.inr k0))
          obtain ⟨hd0, y0⟩ := rr_of z0
          exact ⟨(A0, c0, hd0), he, ⟨y0, n0⟩, hb⟩
      have C23 : r20_2 = true → ∀ y2_0 : Int, J2 y2_0 → (decide (y2_0 < ((r20_1.length : Int)))) = true → ∀ (A0 : Option Addr) (c0 : Nat) (A1 : Option Addr) (c1 : Nat) w, Kd.C (Kd.int .i64) w A0 ((r20_1.getD (y2_0 : Int).toNat [])).length ((r20_1.getD (y2_0 : Int).toNat [])) → ((r20_1.getD (y2_0 : Int).toNat [])).length ≤ c0 → Kd.C (Kd.int .i64) w A1 ((r22_1.getD (y2_0 : Int).toNat [])).length ((r22_1.getD (y2_0 : Int).toNat [])) → ((r22_1.getD (y2_0 : Int).toNat [])).length ≤ c1 → Calls Try.prog 10 #[.slice A0 ((r20_1.getD (y2_0 : Int).toNat [])).length c0, .slice A1 ((r22_1.getD (y2_0 : Int).toNat [])).length c1] w fun e w' => e = .returned (.bool ((r23 y2_0))) ∧ Below w.heap.size w w' := by
        intro hb62 y2_0 hL2 hb73; have c := c_23 hb62 y2_0 hL2 hb73; obtain ⟨k, c⟩ := c; exact fun A0 c0 A1 c1 w p0 q0 p1 q1 => (laws_jSame.calls k _ _ ((r20_1.getD (y2_0 : Int).toNat [])) _ _ ((r22_1.getD (y2_0 : Int).toNat [])) _ w p0 q0 p1 q1 c).mono fun e w' ⟨he, hb⟩ => ⟨he, hb.below⟩
      have C31 : ∀ (A0 : Option Addr) (c0 : Nat) (A1 : Option Addr) (c1 : Nat) w, Kd.C (Kd.slice 3 (Kd.int .i64)) w A0 r20_1.length r20_1 → r20_1.length ≤ c0 → Kd.C (Kd.slice 3 (Kd.int .i64)) w A1 r21_1.length r21_1 → r21_1.length ≤ c1 → Calls Try.prog 31 #[.slice A0 r20_1.length c0, .slice A1 r21_1.length c1] w fun e w' => e = .returned (.bool r31) ∧ Below w.heap.size w w' := by
        have c := c_31; obtain ⟨k, c⟩ := c; exact fun A0 c0 A1 c1 w p0 q0 p1 q1 => (laws_jRows.calls k _ _ r20_1 _ _ r21_1 _ w p0 q0 p1 q1 c).mono fun e w' ⟨he, hb⟩ => ⟨he, hb.below⟩
      refine wl_op rfl rfl rfl (pv_assign rfl rfl) ?_
      refine wl_end (s' := ofL [(20, .int .i64 j2.1), (21, .int .i64 j2.2), (22, .int .i64 r8_1), (23, .bool r8_2), (24, .int .i64 r9_1), (25, .bool r9_2), (26, .int .i64 j3.1), (27, .int .i64 j3.2), (28, .int .i64 r10_1), (29, .int .i64 r10_2), (30, .int .i64 r10_3), (31, .int .i64 r10_4), (32, .bool r10_5), (33, .int .i64 r11_1), (34, .int .i64 r11_2), (35, .int .i64 r11_3), (36, .int .i64 r11_4), (37, .bool r11_5), (38, .int .i64 j4.1), (39, .int .i64 j4.2.1), (40, .int .i64 j4.2.2.1), (41, .int .i64 j4.2.2.2), (42, .slice i12.1 r12_1.length i12.2), (43, .bool r12_2), (44, .slice i13.1 r13_1.length i13.2), (45, .bool r13_2), (46, .int .i64 j5.1), (47, .int .i64 j5.2), (48, .int .i64 r14_1), (49, .int .i64 r14_2), (50, .bool r14_3), (51, .int .i64 r15_1), (52, .int .i64 r15_2), (53, .bool r15_3), (54, .int .i64 r16_1), (55, .bool r16_2), (56, .int .i64 r17_1), (57, .bool r17_2), (58, .int .i64 j6), (59, .int .i64 r18_1), (60, .bool r18_2), (61, .int .i64 r19_1), (62, .bool r19_2), (63, .int .i64 j7)]) (hG34 _ _ ?_) (sub_cons rfl (sub_cons rfl (sub_cons rfl (sub_cons rfl (sub_cons rfl (sub_cons rfl (sub_cons rfl (sub_cons rfl (sub_cons rfl (sub_cons rfl (sub_cons rfl (sub_cons rfl (sub_cons rfl (sub_cons rfl (sub_cons rfl (sub_cons rfl (sub_cons rfl (sub_cons rfl (sub_cons rfl (sub_cons rfl (sub_cons rfl (sub_cons rfl (sub_cons rfl (sub_cons rfl (sub_cons rfl (sub_cons rfl (sub_cons rfl (sub_cons rfl (sub_cons rfl (sub_cons rfl (sub_cons rfl (sub_cons rfl (sub_cons rfl (sub_cons rfl (sub_cons rfl (sub_cons rfl (sub_cons rfl (sub_cons rfl (sub_cons rfl (sub_cons rfl (sub_cons rfl (sub_cons rfl (sub_cons rfl (sub_cons rfl (sub_nil)))))))))))))))))))))))))))))))))))))))))))))
      refine cw_seq (fun G35 hG35 => ?_)
      refine cw_region ?_
      refine wl_op rfl rfl rfl (pv_move rfl rfl) ?_
      refine wl_callR (ι := Option Addr × Nat × (Nat → Option Addr × Nat)) (fun i20 => .tuple #[.slice i20.1 r20_1.length i20.2.1, .bool r20_2]) (fun i20 w => (RR 3 w i20.1 i20.2.2 r20_1 ∧ r20_1.length ≤ i20.2.1)) hS rfl rfl rfl rfl rfl Try.func29 (by kernel_rfl) rfl (fun w hw => C20 w) (fun i20 => ?_)
      refine wl_op rfl rfl rfl (pv_move rfl rfl) (wl_op rfl rfl rfl (pv_extract rfl rfl rfl) (wl_op rfl rfl rfl (pv_extract rfl rfl rfl) (wl_op rfl rfl rfl (pv_assign rfl rfl) (wl_op rfl rfl rfl (pv_assign rfl rfl) ?_))))
      refine wl_end (s' := ofL [(20, .int .i64 j2.1), (21, .int .i64 j2.2), (22, .int .i64 r8_1), (23, .bool r8_2), (24, .int .i64 r9_1), (25, .bool r9_2), (26, .int .i64 j3.1), (27, .int .i64 j3.2), (28, .int .i64 r10_1), (29, .int .i64 r10_2), (30, .int .i64 r10_3), (31, .int .i64 r10_4), (32, .bool r10_5), (33, .int .i64 r11_1), (34, .int .i64 r11_2), (35, .int .i64 r11_3), (36, .int .i64 r11_4), (37, .bool r11_5), (38, .int .i64 j4.1), (39, .int .i64 j4.2.1), (40, .int .i64 j4.2.2.1), (41, .int .i64 j4.2.2.2), (42, .slice i12.1 r12_1.length i12.2), (43, .bool r12_2), (44, .slice i13.1 r13_1.length i13.2), (45, .bool r13_2), (46, .int .i64 j5.1), (47, .int .i64 j5.2), (48, .int .i64 r14_1), (49, .int .i64 r14_2), (50, .bool r14_3), (51, .int .i64 r15_1), (52, .int .i64 r15_2), (53, .bool r15_3), (54, .int .i64 r16_1), (55, .bool r16_2), (56, .int .i64 r17_1), (57, .bool r17_2), (58, .int .i64 j6), (59, .int .i64 r18_1), (60, .bool r18_2), (61, .int .i64 r19_1), (62, .bool r19_2), (63, .int .i64 j7), (64, .slice i20.1 r20_1.length i20.2.1), (65, .bool r20_2)]) (hG35 _ _ ?_) (sub_cons rfl (sub_cons rfl (sub_cons rfl (sub_cons rfl (sub_cons rfl (sub_cons rfl (sub_cons rfl (sub_cons rfl (sub_cons rfl (sub_cons rfl (sub_cons rfl (sub_cons rfl (sub_cons rfl (sub_cons rfl (sub_cons rfl (sub_cons rfl (sub_cons rfl (sub_cons rfl (sub_cons rfl (sub_cons rfl (sub_cons rfl (sub_cons rfl (sub_cons rfl (sub_cons rfl (sub_cons rfl (sub_cons rfl (sub_cons rfl (sub_cons rfl (sub_cons rfl (sub_cons rfl (sub_cons rfl (sub_cons rfl (sub_cons rfl (sub_cons rfl (sub_cons rfl (sub_cons rfl (sub_cons rfl (sub_cons rfl (sub_cons rfl (sub_cons rfl (sub_cons rfl (sub_cons rfl (sub_cons rfl (sub_cons rfl (sub_cons rfl (sub_cons rfl (sub_nil)))))))))))))))))))))))))))))))))))))))))))))))
      refine cw_gen (D := fun w => (K6 w) ∧ ((RR 3 w i20.1 i20.2.2 r20_1 ∧ r20_1.length ≤ i20.2.1))) (by first | exact hS | (repeat (first | exact hS | exact stab_below _ | exact stab_blk _ _ | exact stab_row | exact stab_rr | exact stab_const _ | refine Stab.and ?_ ?_))) (fun w hw => ⟨hw.1, hw.2⟩) (fun K7 hS hD => ?_)
      have upK7 : ∀ w, K7 w → K6 w := fun w hw => (hD w hw).1
      replace hB : ∀ w, K7 w → Below w0.heap.size w0 w := fun w hw => hB w (upK7 w hw)
      replace h_e0 := fun w hw => h_e0 w (upK7 w hw)
      replace h_e1 := fun w hw => h_e1 w (upK7 w hw)
      replace h_m12_0 := fun w hw => h_m12_0 w (upK7 w hw)
      replace h_m13_0 := fun w hw => h_m13_0 w (upK7 w hw)
      replace h_m2_0 := fun w hw => h_m2_0 w (upK7 w hw)
      replace h_m3_0 := fun w hw => h_m3_0 w (upK7 w hw)
      replace h_m4_0 := fun w hw => h_m4_0 w (upK7 w hw)
      replace h_m5_0 := fun w hw => h_m5_0 w (upK7 w hw)
      have h_m20_0 := fun w hw => (hD w hw).2
      clear hD
      refine cw_seq (fun G36 hG36 => ?_)
      refine cw_region ?_
      refine wl_op rfl rfl rfl (pv_move rfl rfl) ?_
      refine wl_callR (ι := Option Addr × Nat × (Nat → Option Addr × Nat)) (fun i21 => .tuple #[.slice i21.1 r21_1.length i21.2.1, .bool r21_2]) (fun i21 w => (RR 3 w i21.1 i21.2.2 r21_1 ∧ r21_1.length ≤ i21.2.1)) hS rfl rfl rfl rfl rfl Try.func30 (by kernel_rfl) rfl (fun w hw => C21 w) (fun i21 => ?_)
      refine wl_op rfl rfl rfl (pv_move rfl rfl) (wl_op rfl rfl rfl (pv_extract rfl rfl rfl) (wl_op rfl rfl rfl (pv_extract rfl rfl rfl) (wl_op rfl rfl rfl (pv_assign rfl rfl) (wl_op rfl rfl rfl (pv_assign rfl rfl) ?_))))
      refine wl_end (s' := ofL [(20, .int .i64 j2.1), (21, .int .i64 j2.2), (22, .int .i64 r8_1), (23, .bool r8_2), (24, .int .i64 r9_1), (25, .bool r9_2), (26, .int .i64 j3.1), (27, .int .i64 j3.2), (28, .int .i64 r10_1), (29, .int .i64 r10_2), (30, .int .i64 r10_3), (31, .int .i64 r10_4), (32, .bool r10_5), (33, .int .i64 r11_1), (34, .int .i64 r11_2), (35, .int .i64 r11_3), (36, .int .i64 r11_4), (37, .bool r11_5), (38, .int .i64 j4.1), (39, .int .i64 j4.2.1), (40, .int .i64 j4.2.2.1), (41, .int .i64 j4.2.2.2), (42, .slice i12.1 r12_1.length i12.2), (43, .bool r12_2), (44, .slice i13.1 r13_1.length i13.2), (45, .bool r13_2), (46, .int .i64 j5.1), (47, .int .i64 j5.2), (48, .int .i64 r14_1), (49, .int .i64 r14_2), (50, .bool r14_3), (51, .int .i64 r15_1), (52, .int .i64 r15_2), (53, .bool r15_3), (54, .int .i64 r16_1), (55, .bool r16_2), (56, .int .i64 r17_1), (57, .bool r17_2), (58, .int .i64 j6), (59, .int .i64 r18_1), (60, .bool r18_2), (61, .int .i64 r19_1), (62, .bool r19_2), (63, .int .i64 j7), (64, .slice i20.1 r20_1.length i20.2.1), (65, .bool r20_2), (66, .slice i21.1 r21_1.length i21.2.1), (67, .bool r21_2)]) (hG36 _ _ ?_) (sub_cons rfl (sub_cons rfl (sub_cons rfl (sub_cons rfl (sub_cons rfl (sub_cons rfl (sub_cons rfl (sub_cons rfl (sub_cons rfl (sub_cons rfl (sub_cons rfl (sub_cons rfl (sub_cons rfl (sub_cons rfl (sub_cons rfl (sub_cons rfl (sub_cons rfl (sub_cons rfl (sub_cons rfl (sub_cons rfl (sub_cons rfl (sub_cons rfl (sub_cons rfl (sub_cons rfl (sub_cons rfl (sub_cons rfl (sub_cons rfl (sub_cons rfl (sub_cons rfl (sub_cons rfl (sub_cons rfl (sub_cons rfl (sub_cons rfl (sub_cons rfl (sub_cons rfl (sub_cons rfl (sub_cons rfl (sub_cons rfl (sub_cons rfl (sub_cons rfl (sub_cons rfl (sub_cons rfl (sub_cons rfl (sub_cons rfl (sub_cons rfl (sub_cons rfl (sub_cons rfl (sub_cons rfl (sub_nil)))))))))))))))))))))))))))))))))))))))))))))))))
      refine cw_gen (D := fun w => (K7 w) ∧ ((RR 3 w i21.1 i21.2.2 r21_1 ∧ r21_1.length ≤ i21.2.1))) (by first | exact hS | (repeat (first | exact hS | exact stab_below _ | exact stab_blk _ _ | exact stab_row | exact stab_rr | exact stab_const _ | refine Stab.and ?_ ?_))) (fun w hw => ⟨hw.1, hw.2⟩) (fun K8 hS hD => ?_)
      have upK8 : ∀ w, K8 w → K7 w := fun w hw => (hD w hw).1
      replace hB : ∀ w, K8 w → Below w0.heap.size w0 w := fun w hw => hB w (upK8 w hw)
      replace h_e0 := fun w hw => h_e0 w (upK8 w hw)
      replace h_e1 := fun w hw => h_e1 w (upK8 w hw)
      replace h_m12_0 := fun w hw => h_m12_0 w (upK8 w hw)
      replace h_m13_0 := fun w hw => h_m13_0 w (upK8 w hw)
      replace h_m20_0 := fun w hw => h_m20_0 w (upK8 w hw)
      replace h_m2_0 := fun w hw => h_m2_0 w (upK8 w hw)
      replace h_m3_0 := fun w hw => h_m3_0 w (upK8 w hw)
      replace h_m4_0 := fun w hw => h_m4_0 w (upK8 w hw)
      replace h_m5_0 := fun w hw => h_m5_0 w (upK8 w hw)
      have h_m21_0 := fun w hw => (hD w hw).2
      clear hD
      refine cw_seq (fun G37 hG37 => ?_)
      refine cw_seq (fun G38 hG38 => ?_)
      have hJ39 : GS K8 706 G38 (ofL [(20, .int .i64 j2.1), (21, .int .i64 j2.2), (22, .int .i64 r8_1), (23, .bool r8_2), (26, .int .i64 j3.1), (27, .int .i64 j3.2), (28, .int .i64 r10_1), (29, .int .i64 r10_2), (30, .int .i64 r10_3), (31, .int .i64 r10_4), (32, .bool r10_5), (38, .int .i64 j4.1), (39, .int .i64 j4.2.1), (40, .int .i64 j4.2.2.1), (41, .int .i64 j4.2.2.2), (42, .slice i12.1 r12_1.length i12.2), (43, .bool r12_2), (46, .int .i64 j5.1), (47, .int .i64 j5.2), (48, .int .i64 r14_1), (49, .int .i64 r14_2), (50, .bool r14_3), (54, .int .i64 r16_1), (55, .bool r16_2), (58, .int .i64 j6), (59, .int .i64 r18_1), (60, .bool r18_2), (63, .int .i64 j7), (64, .slice i20.1 r20_1.length i20.2.1), (65, .bool r20_2), (467, .bool false)]) := by as_aux_lemma =>
        refine hG38 _ _ ?_
        refine cw_false rfl rfl ?_
        refine cw_skip (GS.sub (s' := ofL [(20, .int .i64 j2.1), (21, .int .i64 j2.2), (22, .int .i64 r8_1), (23, .bool r8_2), (26, .int .i64 j3.1), (27, .int .i64 j3.2), (28, .int .i64 r10_1), (29, .int .i64 r10_2), (30, .int .i64 r10_3), (31, .int .i64 r10_4), (32, .bool r10_5), (38, .int .i64 j4.1), (39, .int .i64 j4.2.1), (40, .int .i64 j4.2.2.1), (41, .int .i64 j4.2.2.2), (42, .slice i12.1 r12_1.length i12.2), (43, .bool r12_2), (46, .int .i64 j5.1), (47, .int .i64 j5.2), (48, .int .i64 r14_1), (49, .int .i64 r14_2), (50, .bool r14_3), (54, .int .i64 r16_1), (55, .bool r16_2), (58, .int .i64 j6), (59, .int .i64 r18_1), (60, .bool r18_2), (63, .int .i64 j7), (64, .slice i20.1 r20_1.length i20.2.1), (65, .bool r20_2)]) (hG37 _ _ ?_) (sub_cons rfl (sub_cons rfl (sub_cons rfl (sub_cons rfl (sub_cons rfl (sub_cons rfl (sub_cons rfl (sub_cons rfl (sub_cons rfl (sub_cons rfl (sub_cons rfl (sub_cons rfl (sub_cons rfl (sub_cons rfl (sub_cons rfl (sub_cons rfl (sub_cons rfl (sub_cons rfl (sub_cons rfl (sub_cons rfl (sub_cons rfl (sub_cons rfl (sub_cons rfl (sub_cons rfl (sub_cons rfl (sub_cons rfl (sub_cons rfl (sub_cons rfl (sub_cons rfl (sub_cons rfl (sub_nil))))))))))))))))))))))))))))))))
        refine cw_seq (fun G40 hG40 => ?_)
        refine cw_seq (fun G41 hG41 => ?_)
        have hJ42 : GS K8 706 G41 (ofL [(26, .int .i64 j3.1), (27, .int .i64 j3.2), (28, .int .i64 r10_1), (29, .int .i64 r10_2), (30, .int .i64 r10_3), (31, .int .i64 r10_4), (32, .bool r10_5), (38, .int .i64 j4.1), (39, .int .i64 j4.2.1), (40, .int .i64 j4.2.2.1), (41, .int .i64 j4.2.2.2), (42, .slice i12.1 r12_1.length i12.2), (43, .bool r12_2), (46, .int .i64 j5.1), (47, .int .i64 j5.2), (48, .int .i64 r14_1), (49, .int .i64 r14_2), (50, .bool r14_3), (54, .int .i64 r16_1), (55, .bool r16_2), (58, .int .i64 j6), (59, .int .i64 r18_1), (60, .bool r18_2), (63, .int .i64 j7), (64, .slice i20.1 r20_1.length i20.2.1), (65, .bool r20_2), (500, .bool false)]) := by as_aux_lemma =>
          refine hG41 _ _ ?_
          refine cw_false rfl rfl ?_
          refine cw_skip (GS.sub (s' := ofL [(26, .int .i64 j3.1), (27, .int .i64 j3.2), (28, .int .i64 r10_1), (29, .int .i64 r10_2), (30, .int .i64 r10_3), (31, .int .i64 r10_4), (32, .bool r10_5), (38, .int .i64 j4.1), (39, .int .i64 j4.2.1), (40, .int .i64 j4.2.2.1), (41, .int .i64 j4.2.2.2), (42, .slice i12.1 r12_1.length i12.2), (43, .bool r12_2), (46, .int .i64 j5.1), (47, .int .i64 j5.2), (48, .int .i64 r14_1), (49, .int .i64 r14_2), (50, .bool r14_3), (54, .int .i64 r16_1), (55, .bool r16_2), (58, .int .i64 j6), (59, .int .i64 r18_1), (60, .bool r18_2), (63, .int .i64 j7), (64, .slice i20.1 r20_1.length i20.2.1), (65, .bool r20_2)]) (hG40 _ _ ?_) (sub_cons rfl (sub_cons rfl (sub_cons rfl (sub_cons rfl (sub_cons rfl (sub_cons rfl (sub_cons rfl (sub_cons rfl (sub_cons rfl (sub_cons rfl (sub_cons rfl (sub_cons rfl (sub_cons rfl (sub_cons rfl (sub_cons rfl (sub_cons rfl (sub_cons rfl (sub_cons rfl (sub_cons rfl (sub_cons rfl (sub_cons rfl (sub_cons rfl (sub_cons rfl (sub_cons rfl (sub_cons rfl (sub_cons rfl (sub_nil))))))))))))))))))))))))))))
          refine cw_seq (fun G43 hG43 => ?_)
          refine cw_seq (fun G44 hG44 => ?_)
          refine cw_region ?_
          refine wl_op rfl rfl rfl (pv_move rfl rfl) ?_
          refine wl_end (s' := ofL [(26, .int .i64 j3.1), (27, .int .i64 j3.2), (28, .int .i64 r10_1), (29, .int .i64 r10_2), (30, .int .i64 r10_3), (31, .int .i64 r10_4), (38, .int .i64 j4.1), (39, .int .i64 j4.2.1), (40, .int .i64 j4.2.2.1), (41, .int .i64 j4.2.2.2), (42, .slice i12.1 r12_1.length i12.2), (43, .bool r12_2), (46, .int .i64 j5.1), (47, .int .i64 j5.2), (48, .int .i64 r14_1), (49, .int .i64 r14_2), (50, .bool r14_3), (54, .int .i64 r16_1), (55, .bool r16_2), (58, .int .i64 j6), (59, .int .i64 r18_1), (60, .bool r18_2), (63, .int .i64 j7), (64, .slice i20.1 r20_1.length i20.2.1), (65, .bool r20_2), (501, .bool r10_5)]) (hG44 _ _ ?_) (sub_cons rfl (sub_cons rfl (sub_cons rfl (sub_cons rfl (sub_cons rfl (sub_cons rfl (sub_cons rfl (sub_cons rfl (sub_cons rfl (sub_cons rfl (sub_cons rfl (sub_cons rfl (sub_cons rfl (sub_cons rfl (sub_cons rfl (sub_cons rfl (sub_cons rfl (sub_cons rfl (sub_cons rfl (sub_cons rfl (sub_cons rfl (sub_cons rfl (sub_cons rfl (sub_cons rfl (sub_cons rfl (sub_cons rfl (sub_nil)))))))))))))))))))))))))))
          have hJ46 : GS K8 706 G43 (ofL [(38, .int .i64 j4.1), (39, .int .i64 j4.2.1), (40, .int .i64 j4.2.2.1), (41, .int .i64 j4.2.2.2), (42, .slice i12.1 r12_1.length i12.2), (43, .bool r12_2), (46, .int .i64 j5.1), (47, .int .i64 j5.2), (48, .int .i64 r14_1), (49, .int .i64 r14_2), (50, .bool r14_3), (54, .int .i64 r16_1), (55, .bool r16_2), (58, .int .i64 j6), (59, .int .i64 r18_1), (60, .bool r18_2), (63, .int .i64 j7), (64, .slice i20.1 r20_1.length i20.2.1), (65, .bool r20_2)]) := by as_aux_lemma =>
            refine hG43 _ _ ?_
            refine cw_seq (fun G47 hG47 => ?_)
            refine cw_seq (fun G48 hG48 => ?_)
            have hJ49 : GS K8 706 G48 (ofL [(46, .int .i64 j5.1), (47, .int .i64 j5.2), (48, .int .i64 r14_1), (49, .int .i64 r14_2), (50, .bool r14_3), (54, .int .i64 r16_1), (55, .bool r16_2), (58, .int .i64 j6), (59, .int .i64 r18_1), (60, .bool r18_2), (63, .int .i64 j7), (64, .slice i20.1 r20_1.length i20.2.1), (65, .bool r20_2), (569, .bool false)]) := by as_aux_lemma =>
              refine hG48 _ _ ?_
              refine cw_false rfl rfl ?_
              refine cw_skip (GS.sub (s' := ofL [(46, .int .i64 j5.1), (47, .int .i64 j5.2), (48, .int .i64 r14_1), (49, .int .i64 r14_2), (50, .bool r14_3), (54, .int .i64 r16_1), (55, .bool r16_2), (58, .int .i64 j6), (59, .int .i64 r18_1), (60, .bool r18_2), (63, .int .i64 j7), (64, .slice i20.1 r20_1.length i20.2.1), (65, .bool r20_2)]) (hG47 _ _ ?_) (sub_cons rfl (sub_cons rfl (sub_cons rfl (sub_cons rfl (sub_cons rfl (sub_cons rfl (sub_cons rfl (sub_cons rfl (sub_cons rfl (sub_cons rfl (sub_cons rfl (sub_cons rfl (sub_cons rfl (sub_nil)))))))))))))))
              refine cw_seq (fun G50 hG50 => ?_)
              refine cw_seq (fun G51 hG51 => ?_)
              have hJ52 : GS K8 706 G51 (ofL [(46, .int .i64 j5.1), (47, .int .i64 j5.2), (48, .int .i64 r14_1), (49, .int .i64 r14_2), (50, .bool r14_3), (58, .int .i64 j6), (59, .int .i64 r18_1), (60, .bool r18_2), (63, .int .i64 j7), (64, .slice i20.1 r20_1.length i20.2.1), (65, .bool r20_2), (591, .bool false)]) := by as_aux_lemma =>
                refine hG51 _ _ ?_
                refine cw_false rfl rfl ?_
                refine cw_skip (GS.sub (s' := ofL [(46, .int .i64 j5.1), (47, .int .i64 j5.2), (48, .int .i64 r14_1), (49, .int .i64 r14_2), (50, .bool r14_3), (58, .int .i64 j6), (59, .int .i64 r18_1), (60, .bool r18_2), (63, .int .i64 j7), (64, .slice i20.1 r20_1.length i20.2.1), (65, .bool r20_2)]) (hG50 _ _ ?_) (sub_cons rfl (sub_cons rfl (sub_cons rfl (sub_cons rfl (sub_cons rfl (sub_cons rfl (sub_cons rfl (sub_cons rfl (sub_cons rfl (sub_cons rfl (sub_cons rfl (sub_nil)))))))))))))
                refine cw_seq (fun G53 hG53 => ?_)
                refine cw_seq (fun G54 hG54 => ?_)
                refine cw_region ?_
                refine wl_op rfl rfl rfl (pv_move rfl rfl) ?_
                refine wl_end (s' := ofL [(46, .int .i64 j5.1), (47, .int .i64 j5.2), (48, .int .i64 r14_1), (49, .int .i64 r14_2), (58, .int .i64 j6), (59, .int .i64 r18_1), (60, .bool r18_2), (63, .int .i64 j7), (64, .slice i20.1 r20_1.length i20.2.1), (65, .bool r20_2), (592, .bool r14_3)]) (hG54 _ _ ?_) (sub_cons rfl (sub_cons rfl (sub_cons rfl (sub_cons rfl (sub_cons rfl (sub_cons rfl (sub_cons rfl (sub_cons rfl (sub_cons rfl (sub_cons rfl (sub_cons rfl (sub_nil))))))))))))
                have hJ56 : GS K8 706 G53 (ofL [(58, .int .i64 j6), (59, .int .i64 r18_1), (60, .bool r18_2), (63, .int .i64 j7), (64, .slice i20.1 r20_1.length i20.2.1), (65, .bool r20_2)]) := by as_aux_lemma =>
                  refine hG53 _ _ ?_
                  refine cw_seq (fun G57 hG57 => ?_)
                  refine cw_seq (fun G58 hG58 => ?_)
                  have hJ59 : GS K8 706 G58 (ofL [(63, .int .i64 j7), (64, .slice i20.1 r20_1.length i20.2.1), (65, .bool r20_2), (657, .bool false)]) := by as_aux_lemma =>
                    refine hG58 _ _ ?_
                    refine cw_false rfl rfl ?_
                    refine cw_skip (GS.sub (s' := ofL [(63, .int .i64 j7), (64, .slice i20.1 r20_1.length i20.2.1), (65, .bool r20_2)]) (hG57 _ _ ?_) (sub_cons rfl (sub_cons rfl (sub_cons rfl (sub_nil)))))
                    refine cw_seq (fun G60 hG60 => ?_)
                    refine cw_seq (fun G61 hG61 => ?_)
                    refine cw_region ?_
                    refine wl_op rfl rfl rfl (pv_move rfl rfl) ?_
                    refine wl_end (s' := ofL [(63, .int .i64 j7), (64, .slice i20.1 r20_1.length i20.2.1), (658, .bool r20_2)]) (hG61 _ _ ?_) (sub_cons rfl (sub_cons rfl (sub_cons rfl (sub_nil))))
                    have hJ63 : GS K8 706 G60 (ofL []) := by as_aux_lemma =>
                      refine hG60 _ _ ?_
                      refine cw_seq (fun G64 hG64 => ?_)
                      refine cw_region ?_
                      refine wl_op rfl rfl rfl (pv_assign rfl rfl) ?_
                      refine wl_end (s' := ofL [(4, .bool true)]) (hG64 _ _ ?_) (sub_cons rfl (sub_nil))
                      exact cw_ret_true (w0 := w0) rfl rfl hB
                    refine cw_cond rfl (fun hb62 => ?_) (fun hb62 => ?_)
                    ·
                      refine cw_seq (fun G65 hG65 => ?_)
                      refine cw_region ?_
                      refine wl_op rfl rfl rfl (pv_move rfl rfl) (wl_op rfl rfl rfl (pv_move rfl rfl) (wl_op rfl rfl rfl (pv_build47 rfl rfl rfl) ?_))
                      refine wl_callR (ι := Option Addr × Nat × (Nat → Option Addr × Nat)) (fun i22 => .tuple #[.slice i22.1 r22_1.length i22.2.1, .bool r22_2]) (fun i22 w => (RR 3 w i22.1 i22.2.2 r22_1 ∧ r22_1.length ≤ i22.2.1)) hS rfl rfl rfl rfl rfl Try.func33 (by kernel_rfl) rfl (fun w hw => (C22 hb62) w) (fun i22 => ?_)
                      refine wl_op rfl rfl rfl (pv_move rfl rfl) (wl_op rfl rfl rfl (pv_extract rfl rfl rfl) (wl_op rfl rfl rfl (pv_extract rfl rfl rfl) (wl_op rfl rfl rfl (pv_assign rfl rfl) (wl_op rfl rfl rfl (pv_assign rfl rfl) ?_))))
                      refine wl_end (s' := ofL [(64, .slice i20.1 r20_1.length i20.2.1), (72, .slice i22.1 r22_1.length i22.2.1), (73, .bool r22_2)]) (hG65 _ _ ?_) (sub_cons rfl (sub_cons rfl (sub_cons rfl (sub_nil))))
                      refine cw_gen (D := fun w => (K8 w) ∧ ((RR 3 w i22.1 i22.2.2 r22_1 ∧ r22_1.length ≤ i22.2.1))) (by first | exact hS | (repeat (first | exact hS | exact stab_below _ | exact stab_blk _ _ | exact stab_row | exact stab_rr | exact stab_const _ | refine Stab.and ?_ ?_))) (fun w hw => ⟨hw.1, hw.2⟩) (fun K9 hS hD => ?_)
                      have upK9 : ∀ w, K9 w → K8 w := fun w hw => (hD w hw).1
                      replace hB : ∀ w, K9 w → Below w0.heap.size w0 w := fun w hw => hB w (upK9 w hw)
                      replace h_e0 := fun w hw => h_e0 w (upK9 w hw)
                      replace h_e1 := fun w hw => h_e1 w (upK9 w hw)
                      replace h_m12_0 := fun w hw => h_m12_0 w (upK9 w hw)
                      replace h_m13_0 := fun w hw => h_m13_0 w (upK9 w hw)
                      replace h_m20_0 := fun w hw => h_m20_0 w (upK9 w hw)
                      replace h_m21_0 := fun w hw => h_m21_0 w (upK9 w hw)
                      replace h_m2_0 := fun w hw => h_m2_0 w (upK9 w hw)
                      replace h_m3_0 := fun w hw => h_m3_0 w (upK9 w hw)
                      replace h_m4_0 := fun w hw => h_m4_0 w (upK9 w hw)
                      replace h_m5_0 := fun w hw => h_m5_0 w (upK9 w hw)
                      have h_m22_0 := fun w hw => (hD w hw).2
                      clear hD
                      refine cw_seq (fun G66 hG66 => ?_)
                      refine cw_seq (fun G67 hG67 => ?_)
                      refine cw_region ?_
                      refine wl_op rfl rfl rfl (pv_bool (pv_move rfl rfl) (o71 hb62)) (wl_op rfl rfl rfl (pv_not rfl rfl) (wl_op rfl rfl rfl (pv_move rfl rfl) (wl_yes rfl rfl rfl rfl rfl rfl (pv_move rfl rfl) (wl_yes rfl rfl rfl rfl rfl rfl (pv_len (t := 40) Try.underlying40 rfl rfl) (wl_yes rfl rfl rfl rfl rfl rfl (pv_move rfl rfl) (wl_yes rfl rfl rfl rfl rfl rfl (pv_len (t := 40) Try.underlying40 rfl rfl) (wl_yes rfl rfl rfl rfl rfl rfl (pv_bin rfl rfl rfl (fun _ => b_add Try.underlying3)) (wl_yes rfl rfl rfl rfl rfl rfl (pv_bin rfl rfl rfl (fun _ => b_quo Try.underlying3 (by decide))) (wl_yes rfl rfl rfl rfl rfl rfl (pv_bool (pv_bin rfl rfl rfl (fun _ => b_neq Try.underlying3)) (o72 hb62)) (wl_op rfl rfl rfl (pv_pick rfl rfl rfl) ?_))))))))))
                      refine wl_end (s' := ofL [(64, .slice i20.1 r20_1.length i20.2.1), (72, .slice i22.1 r22_1.length i22.2.1), (676, .bool false)]) (hG67 _ _ ?_) (sub_cons rfl (sub_cons rfl (sub_cons rfl (sub_nil))))
                      refine cw_false rfl rfl ?_
                      refine cw_skip (GS.sub (s' := ofL [(64, .slice i20.1 r20_1.length i20.2.1), (72, .slice i22.1 r22_1.length i22.2.1)]) (hG66 _ _ ?_) (sub_cons rfl (sub_cons rfl (sub_nil))))
                      refine cw_seq (fun G68 hG68 => ?_)
                      refine cw_region ?_
                      refine wl_op rfl rfl rfl (pv_move rfl rfl) (wl_op rfl rfl rfl (pv_len (t := 40) Try.underlying40 rfl rfl) (wl_op rfl rfl rfl (pv_move rfl rfl) ?_))
                      refine wl_end (s' := ofL [(72, .slice i22.1 r22_1.length i22.2.1), (677, .slice i20.1 r20_1.length i20.2.1), (678, .int .i64 ((r20_1.length : Int))), (679, .int .i64 0)]) (hG68 _ _ ?_) (sub_cons rfl (sub_cons rfl (sub_cons rfl (sub_cons rfl (sub_nil)))))
                      have hJ70 : GS K9 706 G60 (ofL []) := by as_aux_lemma =>
                        exact GS.sub (s' := ofL []) (GS.mono hJ63 (fun w hw => (upK9 w hw))) (sub_nil)
                      refine cw_block (fun Q69 hr69 he69 hX69 => ?_)
                      have hR69 := fun a w h => hr69 a w h
                      refine cw_loop (σ := Int) (fun x => J2 x) (fun x => ofL [(72, .slice i22.1 r22_1.length i22.2.1), (677, .slice i20.1 r20_1.length i20.2.1), (678, .int .i64 ((r20_1.length : Int))), (679, .int .i64 x)]) (fun x => m2 x) (0) (o73 hb62) (sub_cons rfl (sub_cons rfl (sub_cons rfl (sub_cons rfl (sub_nil))))) ?_
                      intro y2_0 hL2 GL2 hGL2
                      replace hL2 : J2 y2_0 := hL2
                      change CW _ _ _ _ _ _ (ofL [(72, .slice i22.1 r22_1.length i22.2.1), (677, .slice i20.1 r20_1.length i20.2.1), (678, .int .i64 ((r20_1.length : Int))), (679, .int .i64 y2_0)])
                      refine cw_seq (fun G71 hG71 => ?_)
                      refine cw_region ?_
                      refine wl_op rfl rfl rfl (pv_bin rfl rfl rfl (fun _ => b_lss Try.underlying3)) ?_
                      refine wl_end (s' := ofL [(72, .slice i22.1 r22_1.length i22.2.1), (677, .slice i20.1 r20_1.length i20.2.1), (678, .int .i64 ((r20_1.length : Int))), (679, .int .i64 y2_0), (680, .bool (decide (y2_0 < ((r20_1.length : Int)))))]) (hG71 _ _ ?_) (sub_cons rfl (sub_cons rfl (sub_cons rfl (sub_cons rfl (sub_cons rfl (sub_nil))))))
                      refine cw_seq (fun G72 hG72 => ?_)
                      refine cw_cond rfl (fun hb73 => ?_) (fun hb73 => ?_)
                      ·
                        refine cw_skip (GS.sub (s' := ofL [(72, .slice i22.1 r22_1.length i22.2.1), (677, .slice i20.1 r20_1.length i20.2.1), (678, .int .i64 ((r20_1.length : Int))), (679, .int .i64 y2_0)]) (hG72 _ _ ?_) (sub_cons rfl (sub_cons rfl (sub_cons rfl (sub_cons rfl (sub_nil))))))
                        refine cw_seq (fun G74 hG74 => ?_)
                        refine cw_block (fun Q75 hr75 he75 hX75 => ?_)
                        have hR75 := fun a w h => hr75 a w (hR69 a w h)
                        have hX75_2 := fun a w h => he75 2 a w (by decide) (hX69 a w h)
                        refine cw_seq (fun G76 hG76 => ?_)
                        refine cw_region ?_
                        refine wl_op rfl rfl rfl (pv_move rfl rfl) (wl_op rfl rfl rfl (pv_indexAddrR (k := i20.2.1) (e := 3) (hd := i20.2.2) (l := r20_1) (i := y2_0) ix40 rfl rfl rfl (o74 hb62 y2_0 hL2 hb73) (o75 hb62 y2_0 hL2 hb73) (fun w hw => (h_m20_0 w hw).1)) (wl_op rfl rfl rfl (pv_loadR (A := i20.1) (e := 3) (hd := i20.2.2) (l := r20_1) (i := y2_0) ldR rfl rfl (o74 hb62 y2_0 hL2 hb73) (o75 hb62 y2_0 hL2 hb73) (fun w hw => (h_m20_0 w hw).1)) (wl_op rfl rfl rfl (pv_assign rfl rfl) (wl_op rfl rfl rfl (pv_assign rfl rfl) ?_))))
                        refine wl_end (s' := ofL [(72, .slice i22.1 r22_1.length i22.2.1), (74, .int .i64 y2_0), (75, .slice (i20.2.2 (y2_0 : Int).toNat).1 ((r20_1.getD (y2_0 : Int).toNat [])).length (i20.2.2 (y2_0 : Int).toNat).2), (677, .slice i20.1 r20_1.length i20.2.1), (678, .int .i64 ((r20_1.length : Int))), (679, .int .i64 y2_0)]) (hG76 _ _ ?_) (sub_cons rfl (sub_cons rfl (sub_cons rfl (sub_cons rfl (sub_cons rfl (sub_cons rfl (sub_nil)))))))
                        refine cw_seq (fun G77 hG77 => ?_)
                        refine cw_draw hS (by kernel_rfl) (by as_aux_lemma => kernel_rfl) (fun F hF => ?_)
                        refine wq_op rfl rfl rfl (pv_move rfl rfl) (wq_op rfl rfl rfl (pv_len (t := 26) Try.underlying26 rfl rfl) (wq_op rfl rfl rfl (pv_bool (pv_bin rfl rfl rfl (fun _ => b_neq Try.underlying3)) (o78 hb62 y2_0 hL2 hb73)) (wq_op rfl rfl rfl (pv_move rfl rfl) (wq_yes rfl rfl rfl rfl rfl rfl (pv_move rfl rfl) (wq_yes rfl rfl rfl rfl rfl rfl (pv_indexAddr (k := (i20.2.2 (y2_0 : Int).toNat).2) (l := (r20_1.getD (y2_0 : Int).toNat [])) (i := 0) ix26 rfl rfl rfl (by decide) (o79 hb62 y2_0 hL2 hb73) (fun w hw => ((fun w hw => rr_row (o74 hb62 y2_0 hL2 hb73) (o75 hb62 y2_0 hL2 hb73) (h_m20_0 w hw).1) w hw).1)) (wq_yes rfl rfl rfl rfl rfl rfl (pv_loadI (A := (i20.2.2 (y2_0 : Int).toNat).1) (l := (r20_1.getD (y2_0 : Int).toNat [])) (i := 0) ldI rfl rfl (by decide) (o79 hb62 y2_0 hL2 hb73) (fun w hw => ((fun w hw => rr_row (o74 hb62 y2_0 hL2 hb73) (o75 hb62 y2_0 hL2 hb73) (h_m20_0 w hw).1) w hw).1)) (wq_yes rfl rfl rfl rfl rfl rfl (pv_move rfl rfl) (wq_yes rfl rfl rfl rfl rfl rfl (pv_indexAddr (k := (i20.2.2 (y2_0 : Int).toNat).2) (l := (r20_1.getD (y2_0 : Int).toNat [])) (i := 1) ix26 rfl rfl rfl (by decide) (o80 hb62 y2_0 hL2 hb73) (fun w hw => ((fun w hw => rr_row (o74 hb62 y2_0 hL2 hb73) (o75 hb62 y2_0 hL2 hb73) (h_m20_0 w hw).1) w hw).1)) (wq_yes rfl rfl rfl rfl rfl rfl (pv_loadI (A := (i20.2.2 (y2_0 : Int).toNat).1) (l := (r20_1.getD (y2_0 : Int).toNat [])) (i := 1) ldI rfl rfl (by decide) (o80 hb62 y2_0 hL2 hb73) (fun w hw => ((fun w hw => rr_row (o74 hb62 y2_0 hL2 hb73) (o75 hb62 y2_0 hL2 hb73) (h_m20_0 w hw).1) w hw).1)) (wq_yes rfl rfl rfl rfl rfl rfl (pv_bool (pv_bin rfl rfl rfl (fun _ => b_gtr Try.underlying3)) (o81 hb62 y2_0 hL2 hb73)) (wq_op rfl rfl rfl (pv_pick rfl rfl rfl) ?_)))))))))))
                        refine wq_op rfl rfl rfl (pv_move rfl rfl) (wq_yes rfl rfl rfl rfl rfl rfl (pv_move rfl rfl) (wq_yes rfl rfl rfl rfl rfl rfl (pv_move rfl rfl) (wq_yes rfl rfl rfl rfl rfl rfl (pv_move rfl rfl) (wq_yes rfl rfl rfl rfl rfl rfl (pv_indexAddrR (k := i22.2.1) (e := 3) (hd := i22.2.2) (l := r22_1) (i := y2_0) ix40 rfl rfl rfl (o82 hb62 y2_0 hL2 hb73) (o83 hb62 y2_0 hL2 hb73) (fun w hw => (h_m22_0 w hw).1)) (wq_yes rfl rfl rfl rfl rfl rfl (pv_loadR (A := i22.1) (e := 3) (hd := i22.2.2) (l := r22_1) (i := y2_0) ldR rfl rfl (o82 hb62 y2_0 hL2 hb73) (o83 hb62 y2_0 hL2 hb73) (fun w hw => (h_m22_0 w hw).1)) (wq_yes rfl rfl rfl rfl rfl rfl (pv_bool (pv_call_c hS rfl rfl Try.func10 (by kernel_rfl) rfl (fun w hw => (C23 hb62 y2_0 hL2 hb73) (i20.2.2 (y2_0 : Int).toNat).1 (i20.2.2 (y2_0 : Int).toNat).2 (i22.2.2 (y2_0 : Int).toNat).1 (i22.2.2 (y2_0 : Int).toNat).2 w ((fun w hw => rr_row (o74 hb62 y2_0 hL2 hb73) (o75 hb62 y2_0 hL2 hb73) (h_m20_0 w hw).1) w hw).1 ((fun w hw => rr_row (o74 hb62 y2_0 hL2 hb73) (o75 hb62 y2_0 hL2 hb73) (h_m20_0 w hw).1) w hw).2 ((fun w hw => rr_row (o82 hb62 y2_0 hL2 hb73) (o83 hb62 y2_0 hL2 hb73) (h_m22_0 w hw).1) w hw).1 ((fun w hw => rr_row (o82 hb62 y2_0 hL2 hb73) (o83 hb62 y2_0 hL2 hb73) (h_m22_0 w hw).1) w hw).2)) (o84 hb62 y2_0 hL2 hb73)) (wq_yes rfl rfl rfl rfl rfl rfl (pv_not rfl rfl) (wq_op rfl rfl rfl (pv_pick rfl rfl rfl) ?_))))))))
                        refine wq_end (s' := ofL [(72, .slice i22.1 r22_1.length i22.2.1), (677, .slice i20.1 r20_1.length i20.2.1), (678, .int .i64 ((r20_1.length : Int))), (679, .int .i64 y2_0), (704, .bool false)]) hF (sub_cons rfl (sub_cons rfl (sub_cons rfl (sub_cons rfl (sub_cons rfl (sub_nil)))))) (hG77 _ _ ?_)
                        refine cw_false rfl rfl ?_
                        refine cw_skip (GS.sub (s' := ofL [(72, .slice i22.1 r22_1.length i22.2.1), (677, .slice i20.1 r20_1.length i20.2.1), (678, .int .i64 ((r20_1.length : Int))), (679, .int .i64 y2_0)]) (hG74 _ _ ?_) (sub_cons rfl (sub_cons rfl (sub_cons rfl (sub_cons rfl (sub_nil))))))
                        refine cw_region ?_
                        refine wl_op rfl rfl rfl (pv_bin rfl rfl rfl (fun _ => b_add Try.underlying3)) (wl_op rfl rfl rfl (pv_move rfl rfl) ?_)
                        exact wl_end (s' := ofL [(72, .slice i22.1 r22_1.length i22.2.1), (677, .slice i20.1 r20_1.length i20.2.1), (678, .int .i64 ((r20_1.length : Int))), (679, .int .i64 (wrap64 (y2_0 + 1)))]) (hGL2 (wrap64 (y2_0 + 1)) (o76 hb62 y2_0 hL2 hb73) (o77 hb62 y2_0 hL2 hb73)) (sub_cons rfl (sub_cons rfl (sub_cons rfl (sub_cons rfl (sub_nil)))))
                      ·
                        exact cw_exit hX69 (GS.sub (s' := ofL []) hJ70 (sub_nil))
                    ·
                      exact cw_skip (GS.sub (s' := ofL []) hJ63 (sub_nil))
                  refine cw_region ?_
                  refine wl_op rfl rfl rfl (pv_move rfl rfl) (wl_op rfl rfl rfl (pv_move rfl rfl) ?_)
                  refine wl_split (t := 636) rfl (fun hb78 => ?_) (fun hb78 => ?_)
                  ·
                    refine wl_yes rfl rfl rfl rfl rfl rfl (pv_move rfl rfl) (wl_yes rfl rfl rfl rfl rfl rfl (pv_bin rfl rfl rfl (fun _ => b_mul Try.underlying3)) (wl_yes rfl rfl rfl rfl rfl rfl (pv_move rfl rfl) (wl_yes rfl rfl rfl rfl rfl rfl (pv_bin rfl rfl rfl (fun _ => b_mul Try.underlying3)) (wl_yes rfl rfl rfl rfl rfl rfl (pv_move rfl rfl) (wl_yes rfl rfl rfl rfl rfl rfl (pv_move rfl rfl) (wl_yes rfl rfl rfl rfl rfl rfl (pv_bin rfl rfl rfl (fun _ => b_mul Try.underlying3)) (wl_yes rfl rfl rfl rfl rfl rfl (pv_bool (pv_bin rfl rfl rfl (fun _ => b_gtr Try.underlying3)) (o69 hb78)) (wl_yes rfl rfl rfl rfl rfl rfl (pv_move rfl rfl) (wl_yes rfl rfl rfl rfl rfl rfl (pv_move rfl rfl) (wl_yes rfl rfl rfl rfl rfl rfl (pv_bin rfl rfl rfl (fun _ => b_add Try.underlying3)) (wl_yes rfl rfl rfl rfl rfl rfl (pv_bin rfl rfl rfl (fun _ => b_mul Try.underlying3)) ?_)))))))))))
                    refine wl_yes rfl rfl rfl rfl rfl rfl (pv_move rfl rfl) (wl_yes rfl rfl rfl rfl rfl rfl (pv_bin rfl rfl rfl (fun _ => b_add Try.underlying3)) (wl_yes rfl rfl rfl rfl rfl rfl (pv_bin rfl rfl rfl (fun _ => b_mul Try.underlying3)) (wl_yes rfl rfl rfl rfl rfl rfl (pv_move rfl rfl) (wl_yes rfl rfl rfl rfl rfl rfl (pv_move rfl rfl) (wl_yes rfl rfl rfl rfl rfl rfl (pv_bin rfl rfl rfl (fun _ => b_mul Try.underlying3)) (wl_yes rfl rfl rfl rfl rfl rfl (pv_bool (pv_bin rfl rfl rfl (fun _ => b_leq Try.underlying3)) (o70 hb78)) (wl_yes rfl rfl rfl rfl rfl rfl (pv_pick rfl rfl rfl) (wl_op rfl rfl rfl (pv_pick rfl rfl rfl) ?_))))))))
                    exact wl_end (s' := ofL [(63, .int .i64 j7), (64, .slice i20.1 r20_1.length i20.2.1), (65, .bool r20_2), (657, .bool false)]) hJ59 (sub_cons rfl (sub_cons rfl (sub_cons rfl (sub_cons rfl (sub_nil)))))
                  ·
                    refine wl_no rfl rfl rfl rfl rfl rfl (wl_no rfl rfl rfl rfl rfl rfl (wl_no rfl rfl rfl rfl rfl rfl (wl_no rfl rfl rfl rfl rfl rfl (wl_no rfl rfl rfl rfl rfl rfl (wl_no rfl rfl rfl rfl rfl rfl (wl_no rfl rfl rfl rfl rfl rfl (wl_no rfl rfl rfl rfl rfl rfl (wl_no rfl rfl rfl rfl rfl rfl (wl_off rfl rfl rfl rfl rfl (wl_off rfl rfl rfl rfl rfl (wl_off rfl rfl rfl rfl rfl (wl_off rfl rfl rfl rfl rfl (wl_off rfl rfl rfl rfl rfl (wl_off rfl rfl rfl rfl rfl (wl_off rfl rfl rfl rfl rfl (wl_off rfl rfl rfl rfl rfl (wl_off rfl rfl rfl rfl rfl (wl_off rfl rfl rfl rfl rfl (wl_no rfl rfl rfl rfl rfl rfl (wl_op rfl rfl rfl (pv_pick rfl rfl rfl) ?_))))))))))))))))))))
                    exact wl_end (s' := ofL [(63, .int .i64 j7), (64, .slice i20.1 r20_1.length i20.2.1), (65, .bool r20_2), (657, .bool false)]) hJ59 (sub_cons rfl (sub_cons rfl (sub_cons rfl (sub_cons rfl (sub_nil)))))
                refine cw_cond rfl (fun hb55 => ?_) (fun hb55 => ?_)
                ·
                  refine cw_seq (fun G79 hG79 => ?_)
                  refine cw_region ?_
                  refine wl_op rfl rfl rfl (pv_move rfl rfl) (wl_op rfl rfl rfl (pv_move rfl rfl) (wl_op rfl rfl rfl (pv_bin rfl rfl rfl (fun _ => b_sub Try.underlying3)) (wl_op rfl rfl rfl (pv_assign rfl rfl) ?_)))
                  refine wl_end (s' := ofL [(46, .int .i64 j5.1), (47, .int .i64 j5.2), (49, .int .i64 r14_2), (58, .int .i64 j6), (59, .int .i64 r18_1), (60, .bool r18_2), (63, .int .i64 j7), (64, .slice i20.1 r20_1.length i20.2.1), (65, .bool r20_2), (70, .int .i64 (wrap64 (r14_1 - j5.1)))]) (hG79 _ _ ?_) (sub_cons rfl (sub_cons rfl (sub_cons rfl (sub_cons rfl (sub_cons rfl (sub_cons rfl (sub_cons rfl (sub_cons rfl (sub_cons rfl (sub_cons rfl (sub_nil)))))))))))
                  refine cw_seq (fun G80 hG80 => ?_)
                  refine cw_region ?_
                  refine wl_op rfl rfl rfl (pv_move rfl rfl) (wl_op rfl rfl rfl (pv_move rfl rfl) (wl_op rfl rfl rfl (pv_bin rfl rfl rfl (fun _ => b_mul Try.underlying3)) (wl_op rfl rfl rfl (pv_move rfl rfl) (wl_op rfl rfl rfl (pv_move rfl rfl) (wl_op rfl rfl rfl (pv_bin rfl rfl rfl (fun _ => b_mul Try.underlying3)) (wl_op rfl rfl rfl (pv_bin rfl rfl rfl (fun _ => b_add Try.underlying3)) (wl_op rfl rfl rfl (pv_assign rfl rfl) ?_)))))))
                  refine wl_end (s' := ofL [(49, .int .i64 r14_2), (58, .int .i64 j6), (59, .int .i64 r18_1), (60, .bool r18_2), (63, .int .i64 j7), (64, .slice i20.1 r20_1.length i20.2.1), (65, .bool r20_2), (70, .int .i64 (wrap64 (r14_1 - j5.1))), (71, .int .i64 (wrap64 ((wrap64 (j5.1 * j5.1)) + (wrap64 (j5.2 * j5.2)))))]) (hG80 _ _ ?_) (sub_cons rfl (sub_cons rfl (sub_cons rfl (sub_cons rfl (sub_cons rfl (sub_cons rfl (sub_cons rfl (sub_cons rfl (sub_cons rfl (sub_nil))))))))))
                  refine cw_seq (fun G81 hG81 => ?_)
                  have hJ82 : GS K8 706 G81 (ofL [(58, .int .i64 j6), (59, .int .i64 r18_1), (60, .bool r18_2), (63, .int .i64 j7), (64, .slice i20.1 r20_1.length i20.2.1), (65, .bool r20_2), (634, .bool false)]) := by as_aux_lemma =>
                    refine hG81 _ _ ?_
                    refine cw_false rfl rfl ?_
                    exact cw_skip (GS.sub (s' := ofL [(58, .int .i64 j6), (59, .int .i64 r18_1), (60, .bool r18_2), (63, .int .i64 j7), (64, .slice i20.1 r20_1.length i20.2.1), (65, .bool r20_2)]) hJ56 (sub_cons rfl (sub_cons rfl (sub_cons rfl (sub_cons rfl (sub_cons rfl (sub_cons rfl (sub_nil))))))))
                  refine cw_region ?_
                  refine wl_op rfl rfl rfl (pv_move rfl rfl) (wl_op rfl rfl rfl (pv_move rfl rfl) (wl_op rfl rfl rfl (pv_bin rfl rfl rfl (fun _ => b_mul Try.underlying3)) (wl_op rfl rfl rfl (pv_move rfl rfl) (wl_op rfl rfl rfl (pv_bool (pv_bin rfl rfl rfl (fun _ => b_gtr Try.underlying3)) (o64 hb55)) (wl_op rfl rfl rfl (pv_move rfl rfl) (wl_yes rfl rfl rfl rfl rfl rfl (pv_move rfl rfl) (wl_yes rfl rfl rfl rfl rfl rfl (pv_bin rfl rfl rfl (fun _ => b_add Try.underlying3)) (wl_yes rfl rfl rfl rfl rfl rfl (pv_move rfl rfl) (wl_yes rfl rfl rfl rfl rfl rfl (pv_bin rfl rfl rfl (fun _ => b_add Try.underlying3)) (wl_yes rfl rfl rfl rfl rfl rfl (pv_bin rfl rfl rfl (fun _ => b_mul Try.underlying3)) (wl_yes rfl rfl rfl rfl rfl rfl (pv_move rfl rfl) ?_)))))))))))
                  refine wl_yes rfl rfl rfl rfl rfl rfl (pv_bool (pv_bin rfl rfl rfl (fun _ => b_leq Try.underlying3)) (o65 hb55)) (wl_op rfl rfl rfl (pv_pick rfl rfl rfl) (wl_op rfl rfl rfl (pv_move rfl rfl) (wl_yes rfl rfl rfl rfl rfl rfl (pv_move rfl rfl) (wl_yes rfl rfl rfl rfl rfl rfl (pv_bin rfl rfl rfl (fun _ => b_neq Try.underlying3)) (wl_yes rfl rfl rfl rfl rfl rfl (pv_move rfl rfl) ?_)))))
                  refine wl_split (t := 620) rfl (fun hb83 => ?_) (fun hb83 => ?_)
                  ·
                    refine wl_yes rfl rfl rfl rfl rfl rfl (pv_move rfl rfl) (wl_yes rfl rfl rfl rfl rfl rfl (pv_bool (pv_bin rfl rfl rfl (fun _ => b_neq Try.underlying3)) (o66 hb55 hb83)) (wl_yes rfl rfl rfl rfl rfl rfl (pv_pick rfl rfl rfl) (wl_op rfl rfl rfl (pv_pick rfl rfl rfl) (wl_op rfl rfl rfl (pv_move rfl rfl) (wl_yes rfl rfl rfl rfl rfl rfl (pv_move rfl rfl) (wl_yes rfl rfl rfl rfl rfl rfl (pv_bin rfl rfl rfl (fun _ => b_eql Try.underlying3)) (wl_yes rfl rfl rfl rfl rfl rfl (pv_move rfl rfl) (wl_yes rfl rfl rfl rfl rfl rfl (pv_move rfl rfl) (wl_yes rfl rfl rfl rfl rfl rfl (pv_bin rfl rfl rfl (fun _ => b_mul Try.underlying3)) (wl_yes rfl rfl rfl rfl rfl rfl (pv_move rfl rfl) (wl_yes rfl rfl rfl rfl rfl rfl (pv_bin rfl rfl rfl (fun _ => b_eql Try.underlying3)) ?_)))))))))))
                    refine wl_yes rfl rfl rfl rfl rfl rfl (pv_bool (pv_bin rfl rfl rfl (fun _ => b_neqb Try.underlying4)) (o67 hb55 hb83)) (wl_op rfl rfl rfl (pv_pick rfl rfl rfl) ?_)
                    exact wl_end (s' := ofL [(58, .int .i64 j6), (59, .int .i64 r18_1), (60, .bool r18_2), (63, .int .i64 j7), (64, .slice i20.1 r20_1.length i20.2.1), (65, .bool r20_2), (634, .bool false)]) hJ82 (sub_cons rfl (sub_cons rfl (sub_cons rfl (sub_cons rfl (sub_cons rfl (sub_cons rfl (sub_cons rfl (sub_nil))))))))
                  ·
                    refine wl_no rfl rfl rfl rfl rfl rfl (wl_no rfl rfl rfl rfl rfl rfl (wl_yes rfl rfl rfl rfl rfl rfl (pv_pick rfl rfl rfl) (wl_op rfl rfl rfl (pv_pick rfl rfl rfl) (wl_op rfl rfl rfl (pv_move rfl rfl) (wl_yes rfl rfl rfl rfl rfl rfl (pv_move rfl rfl) (wl_yes rfl rfl rfl rfl rfl rfl (pv_bin rfl rfl rfl (fun _ => b_eql Try.underlying3)) (wl_yes rfl rfl rfl rfl rfl rfl (pv_move rfl rfl) (wl_yes rfl rfl rfl rfl rfl rfl (pv_move rfl rfl) (wl_yes rfl rfl rfl rfl rfl rfl (pv_bin rfl rfl rfl (fun _ => b_mul Try.underlying3)) (wl_yes rfl rfl rfl rfl rfl rfl (pv_move rfl rfl) (wl_yes rfl rfl rfl rfl rfl rfl (pv_bin rfl rfl rfl (fun _ => b_eql Try.underlying3)) ?_)))))))))))
                    refine wl_yes rfl rfl rfl rfl rfl rfl (pv_bool (pv_bin rfl rfl rfl (fun _ => b_neqb Try.underlying4)) (o68 hb55 hb83)) (wl_op rfl rfl rfl (pv_pick rfl rfl rfl) ?_)
                    exact wl_end (s' := ofL [(58, .int .i64 j6), (59, .int .i64 r18_1), (60, .bool r18_2), (63, .int .i64 j7), (64, .slice i20.1 r20_1.length i20.2.1), (65, .bool r20_2), (634, .bool false)]) hJ82 (sub_cons rfl (sub_cons rfl (sub_cons rfl (sub_cons rfl (sub_cons rfl (sub_cons rfl (sub_cons rfl (sub_nil))))))))
                ·
                  exact cw_skip (GS.sub (s' := ofL [(58, .int .i64 j6), (59, .int .i64 r18_1), (60, .bool r18_2), (63, .int .i64 j7), (64, .slice i20.1 r20_1.length i20.2.1), (65, .bool r20_2)]) hJ56 (sub_cons rfl (sub_cons rfl (sub_cons rfl (sub_cons rfl (sub_cons rfl (sub_cons rfl (sub_nil))))))))
              refine cw_region ?_
              refine wl_op rfl rfl rfl (pv_move rfl rfl) (wl_op rfl rfl rfl (pv_move rfl rfl) ?_)
              refine wl_split (t := 571) rfl (fun hb84 => ?_) (fun hb84 => ?_)
              ·
                refine wl_yes rfl rfl rfl rfl rfl rfl (pv_move rfl rfl) (wl_yes rfl rfl rfl rfl rfl rfl (pv_bin rfl rfl rfl (fun _ => b_neq Try.underlying3)) (wl_yes rfl rfl rfl rfl rfl rfl (pv_move rfl rfl) ?_))
                refine wl_split (t := 574) rfl (fun hb85 => ?_) (fun hb85 => ?_)
                ·
                  refine wl_yes rfl rfl rfl rfl rfl rfl (pv_move rfl rfl) (wl_yes rfl rfl rfl rfl rfl rfl (pv_bool (pv_bin rfl rfl rfl (fun _ => b_neq Try.underlying3)) (o61 hb84 hb85)) (wl_yes rfl rfl rfl rfl rfl rfl (pv_pick rfl rfl rfl) (wl_yes rfl rfl rfl rfl rfl rfl (pv_move rfl rfl) (wl_yes rfl rfl rfl rfl rfl rfl (pv_move rfl rfl) (wl_yes rfl rfl rfl rfl rfl rfl (pv_bin rfl rfl rfl (fun _ => b_eql Try.underlying3)) (wl_yes rfl rfl rfl rfl rfl rfl (pv_move rfl rfl) (wl_yes rfl rfl rfl rfl rfl rfl (pv_bin rfl rfl rfl (fun _ => b_mul Try.underlying3)) (wl_yes rfl rfl rfl rfl rfl rfl (pv_move rfl rfl) (wl_yes rfl rfl rfl rfl rfl rfl (pv_bin rfl rfl rfl (fun _ => b_mul Try.underlying3)) (wl_yes rfl rfl rfl rfl rfl rfl (pv_move rfl rfl) (wl_yes rfl rfl rfl rfl rfl rfl (pv_move rfl rfl) ?_)))))))))))
                  refine wl_yes rfl rfl rfl rfl rfl rfl (pv_bin rfl rfl rfl (fun _ => b_mul Try.underlying3)) (wl_yes rfl rfl rfl rfl rfl rfl (pv_bin rfl rfl rfl (fun _ => b_leq Try.underlying3)) (wl_yes rfl rfl rfl rfl rfl rfl (pv_bool (pv_bin rfl rfl rfl (fun _ => b_neqb Try.underlying4)) (o62 hb84 hb85)) (wl_yes rfl rfl rfl rfl rfl rfl (pv_pick rfl rfl rfl) (wl_op rfl rfl rfl (pv_pick rfl rfl rfl) ?_))))
                  exact wl_end (s' := ofL [(46, .int .i64 j5.1), (47, .int .i64 j5.2), (48, .int .i64 r14_1), (49, .int .i64 r14_2), (50, .bool r14_3), (58, .int .i64 j6), (59, .int .i64 r18_1), (60, .bool r18_2), (63, .int .i64 j7), (64, .slice i20.1 r20_1.length i20.2.1), (65, .bool r20_2), (591, .bool false)]) hJ52 (sub_cons rfl (sub_cons rfl (sub_cons rfl (sub_cons rfl (sub_cons rfl (sub_cons rfl (sub_cons rfl (sub_cons rfl (sub_cons rfl (sub_cons rfl (sub_cons rfl (sub_cons rfl (sub_nil)))))))))))))
                ·
                  refine wl_no rfl rfl rfl rfl rfl rfl (wl_no rfl rfl rfl rfl rfl rfl (wl_yes rfl rfl rfl rfl rfl rfl (pv_pick rfl rfl rfl) (wl_yes rfl rfl rfl rfl rfl rfl (pv_move rfl rfl) (wl_yes rfl rfl rfl rfl rfl rfl (pv_move rfl rfl) (wl_yes rfl rfl rfl rfl rfl rfl (pv_bin rfl rfl rfl (fun _ => b_eql Try.underlying3)) (wl_yes rfl rfl rfl rfl rfl rfl (pv_move rfl rfl) (wl_yes rfl rfl rfl rfl rfl rfl (pv_bin rfl rfl rfl (fun _ => b_mul Try.underlying3)) (wl_yes rfl rfl rfl rfl rfl rfl (pv_move rfl rfl) (wl_yes rfl rfl rfl rfl rfl rfl (pv_bin rfl rfl rfl (fun _ => b_mul Try.underlying3)) (wl_yes rfl rfl rfl rfl rfl rfl (pv_move rfl rfl) (wl_yes rfl rfl rfl rfl rfl rfl (pv_move rfl rfl) ?_)))))))))))
                  refine wl_yes rfl rfl rfl rfl rfl rfl (pv_bin rfl rfl rfl (fun _ => b_mul Try.underlying3)) (wl_yes rfl rfl rfl rfl rfl rfl (pv_bin rfl rfl rfl (fun _ => b_leq Try.underlying3)) (wl_yes rfl rfl rfl rfl rfl rfl (pv_bool (pv_bin rfl rfl rfl (fun _ => b_neqb Try.underlying4)) (o63 hb84 hb85)) (wl_yes rfl rfl rfl rfl rfl rfl (pv_pick rfl rfl rfl) (wl_op rfl rfl rfl (pv_pick rfl rfl rfl) ?_))))
                  exact wl_end (s' := ofL [(46, .int .i64 j5.1), (47, .int .i64 j5.2), (48, .int .i64 r14_1), (49, .int .i64 r14_2), (50, .bool r14_3), (58, .int .i64 j6), (59, .int .i64 r18_1), (60, .bool r18_2), (63, .int .i64 j7), (64, .slice i20.1 r20_1.length i20.2.1), (65, .bool r20_2), (591, .bool false)]) hJ52 (sub_cons rfl (sub_cons rfl (sub_cons rfl (sub_cons rfl (sub_cons rfl (sub_cons rfl (sub_cons rfl (sub_cons rfl (sub_cons rfl (sub_cons rfl (sub_cons rfl (sub_cons rfl (sub_nil)))))))))))))
              ·
                refine wl_no rfl rfl rfl rfl rfl rfl (wl_no rfl rfl rfl rfl rfl rfl (wl_no rfl rfl rfl rfl rfl rfl (wl_off rfl rfl rfl rfl rfl (wl_off rfl rfl rfl rfl rfl (wl_no rfl rfl rfl rfl rfl rfl (wl_no rfl rfl rfl rfl rfl rfl (wl_off rfl rfl rfl rfl rfl (wl_off rfl rfl rfl rfl rfl (wl_off rfl rfl rfl rfl rfl (wl_off rfl rfl rfl rfl rfl (wl_off rfl rfl rfl rfl rfl (wl_off rfl rfl rfl rfl rfl (wl_off rfl rfl rfl rfl rfl (wl_off rfl rfl rfl rfl rfl (wl_off rfl rfl rfl rfl rfl (wl_off rfl rfl rfl rfl rfl (wl_off rfl rfl rfl rfl rfl (wl_no rfl rfl rfl rfl rfl rfl (wl_op rfl rfl rfl (pv_pick rfl rfl rfl) ?_)))))))))))))))))))
                exact wl_end (s' := ofL [(46, .int .i64 j5.1), (47, .int .i64 j5.2), (48, .int .i64 r14_1), (49, .int .i64 r14_2), (50, .bool r14_3), (58, .int .i64 j6), (59, .int .i64 r18_1), (60, .bool r18_2), (63, .int .i64 j7), (64, .slice i20.1 r20_1.length i20.2.1), (65, .bool r20_2), (591, .bool false)]) hJ52 (sub_cons rfl (sub_cons rfl (sub_cons rfl (sub_cons rfl (sub_cons rfl (sub_cons rfl (sub_cons rfl (sub_cons rfl (sub_cons rfl (sub_cons rfl (sub_cons rfl (sub_cons rfl (sub_nil)))))))))))))
            refine cw_draw hS (by kernel_rfl) (by as_aux_lemma => kernel_rfl) (fun F hF => ?_)
            refine wq_op rfl rfl rfl (pv_move rfl rfl) (wq_op rfl rfl rfl (pv_move rfl rfl) ?_)
            refine wq_split (t := 535) rfl (fun hb86 => ?_) (fun hb86 => ?_)
            ·
              refine wq_yes rfl rfl rfl rfl rfl rfl (pv_move rfl rfl) (wq_yes rfl rfl rfl rfl rfl rfl (pv_len (t := 26) Try.underlying26 rfl rfl) (wq_yes rfl rfl rfl rfl rfl rfl (pv_bool (pv_bin rfl rfl rfl (fun _ => b_neq Try.underlying3)) (o54 hb86)) (wq_yes rfl rfl rfl rfl rfl rfl (pv_move rfl rfl) (wq_yes rfl rfl rfl rfl rfl rfl (pv_move rfl rfl) (wq_yes rfl rfl rfl rfl rfl rfl (pv_indexAddr (k := i12.2) (l := r12_1) (i := 0) ix26 rfl rfl rfl (by decide) (o55 hb86) (fun w hw => (h_m12_0 w hw).1)) (wq_yes rfl rfl rfl rfl rfl rfl (pv_loadI (A := i12.1) (l := r12_1) (i := 0) ldI rfl rfl (by decide) (o55 hb86) (fun w hw => (h_m12_0 w hw).1)) (wq_yes rfl rfl rfl rfl rfl rfl (pv_move rfl rfl) (wq_yes rfl rfl rfl rfl rfl rfl (pv_indexAddr (k := i12.2) (l := r12_1) (i := 1) ix26 rfl rfl rfl (by decide) (o56 hb86) (fun w hw => (h_m12_0 w hw).1)) (wq_yes rfl rfl rfl rfl rfl rfl (pv_loadI (A := i12.1) (l := r12_1) (i := 1) ldI rfl rfl (by decide) (o56 hb86) (fun w hw => (h_m12_0 w hw).1)) (wq_yes rfl rfl rfl rfl rfl rfl (pv_move rfl rfl) (wq_yes rfl rfl rfl rfl rfl rfl (pv_move rfl rfl) ?_)))))))))))
              refine wq_yes rfl rfl rfl rfl rfl rfl (pv_move rfl rfl) (wq_yes rfl rfl rfl rfl rfl rfl (pv_bin rfl rfl rfl (fun _ => b_sub Try.underlying3)) (wq_yes rfl rfl rfl rfl rfl rfl (pv_bin rfl rfl rfl (fun _ => b_mul Try.underlying3)) (wq_yes rfl rfl rfl rfl rfl rfl (pv_move rfl rfl) (wq_yes rfl rfl rfl rfl rfl rfl (pv_bool (pv_call_b hS rfl rfl Try.func32 (by kernel_rfl) rfl (C24 hb86)) (o57 hb86)) (wq_yes rfl rfl rfl rfl rfl rfl (pv_not rfl rfl) (wq_yes rfl rfl rfl rfl rfl rfl (pv_pick rfl rfl rfl) (wq_yes rfl rfl rfl rfl rfl rfl (pv_move rfl rfl) (wq_yes rfl rfl rfl rfl rfl rfl (pv_move rfl rfl) (wq_yes rfl rfl rfl rfl rfl rfl (pv_indexAddr (k := i12.2) (l := r12_1) (i := 2) ix26 rfl rfl rfl (by decide) (o58 hb86) (fun w hw => (h_m12_0 w hw).1)) (wq_yes rfl rfl rfl rfl rfl rfl (pv_loadI (A := i12.1) (l := r12_1) (i := 2) ldI rfl rfl (by decide) (o58 hb86) (fun w hw => (h_m12_0 w hw).1)) (wq_yes rfl rfl rfl rfl rfl rfl (pv_move rfl rfl) ?_)))))))))))
              refine wq_yes rfl rfl rfl rfl rfl rfl (pv_indexAddr (k := i12.2) (l := r12_1) (i := 3) ix26 rfl rfl rfl (by decide) (o59 hb86) (fun w hw => (h_m12_0 w hw).1)) (wq_yes rfl rfl rfl rfl rfl rfl (pv_loadI (A := i12.1) (l := r12_1) (i := 3) ldI rfl rfl (by decide) (o59 hb86) (fun w hw => (h_m12_0 w hw).1)) (wq_yes rfl rfl rfl rfl rfl rfl (pv_move rfl rfl) (wq_yes rfl rfl rfl rfl rfl rfl (pv_move rfl rfl) (wq_yes rfl rfl rfl rfl rfl rfl (pv_bin rfl rfl rfl (fun _ => b_mul Try.underlying3)) (wq_yes rfl rfl rfl rfl rfl rfl (pv_move rfl rfl) (wq_yes rfl rfl rfl rfl rfl rfl (pv_bool (pv_call_b hS rfl rfl Try.func32 (by kernel_rfl) rfl (C25 hb86)) (o60 hb86)) (wq_yes rfl rfl rfl rfl rfl rfl (pv_not rfl rfl) (wq_yes rfl rfl rfl rfl rfl rfl (pv_pick rfl rfl rfl) (wq_op rfl rfl rfl (pv_pick rfl rfl rfl) ?_)))))))))
              exact wq_end (s' := ofL [(46, .int .i64 j5.1), (47, .int .i64 j5.2), (48, .int .i64 r14_1), (49, .int .i64 r14_2), (50, .bool r14_3), (54, .int .i64 r16_1), (55, .bool r16_2), (58, .int .i64 j6), (59, .int .i64 r18_1), (60, .bool r18_2), (63, .int .i64 j7), (64, .slice i20.1 r20_1.length i20.2.1), (65, .bool r20_2), (569, .bool false)]) hF (sub_cons rfl (sub_cons rfl (sub_cons rfl (sub_cons rfl (sub_cons rfl (sub_cons rfl (sub_cons rfl (sub_cons rfl (sub_cons rfl (sub_cons rfl (sub_cons rfl (sub_cons rfl (sub_cons rfl (sub_cons rfl (sub_nil))))))))))))))) hJ49
            ·
              refine wq_no rfl rfl rfl rfl rfl rfl (wq_no rfl rfl rfl rfl rfl rfl (wq_no rfl rfl rfl rfl rfl rfl (wq_no rfl rfl rfl rfl rfl rfl (wq_off rfl rfl rfl rfl rfl (wq_off rfl rfl rfl rfl rfl (wq_off rfl rfl rfl rfl rfl (wq_off rfl rfl rfl rfl rfl (wq_off rfl rfl rfl rfl rfl (wq_off rfl rfl rfl rfl rfl (wq_off rfl rfl rfl rfl rfl (wq_off rfl rfl rfl rfl rfl (wq_off rfl rfl rfl rfl rfl (wq_off rfl rfl rfl rfl rfl (wq_off rfl rfl rfl rfl rfl (wq_off rfl rfl rfl rfl rfl (wq_off rfl rfl rfl rfl rfl (wq_off rfl rfl rfl rfl rfl (wq_no rfl rfl rfl rfl rfl rfl (wq_no rfl rfl rfl rfl rfl rfl (wq_off rfl rfl rfl rfl rfl (wq_off rfl rfl rfl rfl rfl (wq_off rfl rfl rfl rfl rfl (wq_off rfl rfl rfl rfl rfl (wq_off rfl rfl rfl rfl rfl (wq_off rfl rfl rfl rfl rfl (wq_off rfl rfl rfl rfl rfl (wq_off rfl rfl rfl rfl rfl (wq_off rfl rfl rfl rfl rfl (wq_off rfl rfl rfl rfl rfl (wq_off rfl rfl rfl rfl rfl (wq_off rfl rfl rfl rfl rfl (wq_no rfl rfl rfl rfl rfl rfl (wq_op rfl rfl rfl (pv_pick rfl rfl rfl) ?_)))))))))))))))))))))))))))))))))
              exact wq_end (s' := ofL [(46, .int .i64 j5.1), (47, .int .i64 j5.2), (48, .int .i64 r14_1), (49, .int .i64 r14_2), (50, .bool r14_3), (54, .int .i64 r16_1), (55, .bool r16_2), (58, .int .i64 j6), (59, .int .i64 r18_1), (60, .bool r18_2), (63, .int .i64 j7), (64, .slice i20.1 r20_1.length i20.2.1), (65, .bool r20_2), (569, .bool false)]) hF (sub_cons rfl (sub_cons rfl (sub_cons rfl (sub_cons rfl (sub_cons rfl (sub_cons rfl (sub_cons rfl (sub_cons rfl (sub_cons rfl (sub_cons rfl (sub_cons rfl (sub_cons rfl (sub_cons rfl (sub_cons rfl (sub_nil))))))))))))))) hJ49
          refine cw_cond rfl (fun hb45 => ?_) (fun hb45 => ?_)
          ·
            refine cw_seq (fun G87 hG87 => ?_)
            refine cw_region ?_
            refine wl_op rfl rfl rfl (pv_move rfl rfl) (wl_op rfl rfl rfl (pv_move rfl rfl) ?_)
            refine wl_callR (ι := Option Addr × Nat) (fun i26 => .tuple #[.slice i26.1 r26_1.length i26.2, .bool r26_2]) (fun i26 w => (Kd.C (Kd.int .i64) w i26.1 r26_1.length r26_1 ∧ r26_1.length ≤ i26.2)) hS rfl rfl rfl rfl rfl Try.func18 (by kernel_rfl) rfl (fun w hw => (C26 hb45) w) (fun i26 => ?_)
            refine wl_op rfl rfl rfl (pv_move rfl rfl) (wl_op rfl rfl rfl (pv_extract rfl rfl rfl) (wl_op rfl rfl rfl (pv_extract rfl rfl rfl) (wl_op rfl rfl rfl (pv_assign rfl rfl) (wl_op rfl rfl rfl (pv_assign rfl rfl) ?_))))
            refine wl_end (s' := ofL [(26, .int .i64 j3.1), (27, .int .i64 j3.2), (28, .int .i64 r10_1), (29, .int .i64 r10_2), (30, .int .i64 r10_3), (31, .int .i64 r10_4), (38, .int .i64 j4.1), (39, .int .i64 j4.2.1), (40, .int .i64 j4.2.2.1), (41, .int .i64 j4.2.2.2), (42, .slice i12.1 r12_1.length i12.2), (43, .bool r12_2), (46, .int .i64 j5.1), (47, .int .i64 j5.2), (48, .int .i64 r14_1), (49, .int .i64 r14_2), (50, .bool r14_3), (54, .int .i64 r16_1), (55, .bool r16_2), (58, .int .i64 j6), (59, .int .i64 r18_1), (60, .bool r18_2), (63, .int .i64 j7), (64, .slice i20.1 r20_1.length i20.2.1), (65, .bool r20_2), (68, .slice i26.1 r26_1.length i26.2), (69, .bool r26_2)]) (hG87 _ _ ?_) (sub_cons rfl (sub_cons rfl (sub_cons rfl (sub_cons rfl (sub_cons rfl (sub_cons rfl (sub_cons rfl (sub_cons rfl (sub_cons rfl (sub_cons rfl (sub_cons rfl (sub_cons rfl (sub_cons rfl (sub_cons rfl (sub_cons rfl (sub_cons rfl (sub_cons rfl (sub_cons rfl (sub_cons rfl (sub_cons rfl (sub_cons rfl (sub_cons rfl (sub_cons rfl (sub_cons rfl (sub_cons rfl (sub_cons rfl (sub_cons rfl (sub_nil))))))))))))))))))))))))))))
            refine cw_gen (D := fun w => (K8 w) ∧ ((Kd.C (Kd.int .i64) w i26.1 r26_1.length r26_1 ∧ r26_1.length ≤ i26.2))) (by first | exact hS | (repeat (first | exact hS | exact stab_below _ | exact stab_blk _ _ | exact stab_row | exact stab_rr | exact stab_const _ | refine Stab.and ?_ ?_))) (fun w hw => ⟨hw.1, hw.2⟩) (fun K10 hS hD => ?_)
            have upK10 : ∀ w, K10 w → K8 w := fun w hw => (hD w hw).1
            replace hB : ∀ w, K10 w → Below w0.heap.size w0 w := fun w hw => hB w (upK10 w hw)
            replace h_e0 := fun w hw => h_e0 w (upK10 w hw)
            replace h_e1 := fun w hw => h_e1 w (upK10 w hw)
            replace h_m12_0 := fun w hw => h_m12_0 w (upK10 w hw)
            replace h_m13_0 := fun w hw => h_m13_0 w (upK10 w hw)
            replace h_m20_0 := fun w hw => h_m20_0 w (upK10 w hw)
            replace h_m21_0 := fun w hw => h_m21_0 w (upK10 w hw)
            replace h_m2_0 := fun w hw => h_m2_0 w (upK10 w hw)
            replace h_m3_0 := fun w hw => h_m3_0 w (upK10 w hw)
            replace h_m4_0 := fun w hw => h_m4_0 w (upK10 w hw)
            replace h_m5_0 := fun w hw => h_m5_0 w (upK10 w hw)
            have h_m26_0 := fun w hw => (hD w hw).2
            clear hD
            refine cw_seq (fun G88 hG88 => ?_)
            refine cw_region ?_
            refine wl_op rfl rfl rfl (pv_move rfl rfl) (wl_op rfl rfl rfl (pv_move rfl rfl) (wl_op rfl rfl rfl (pv_move rfl rfl) (wl_op rfl rfl rfl (pv_bool (pv_call_b hS rfl rfl Try.func32 (by kernel_rfl) rfl (C27 hb45)) (o50 hb45)) (wl_op rfl rfl rfl (pv_not rfl rfl) (wl_op rfl rfl rfl (pv_move rfl rfl) (wl_yes rfl rfl rfl rfl rfl rfl (pv_move rfl rfl) (wl_yes rfl rfl rfl rfl rfl rfl (pv_move rfl rfl) (wl_yes rfl rfl rfl rfl rfl rfl (pv_move rfl rfl) (wl_yes rfl rfl rfl rfl rfl rfl (pv_bool (pv_call_b hS rfl rfl Try.func32 (by kernel_rfl) rfl (C28 hb45)) (o51 hb45)) (wl_yes rfl rfl rfl rfl rfl rfl (pv_not rfl rfl) (wl_op rfl rfl rfl (pv_pick rfl rfl rfl) ?_)))))))))))
            refine wl_op rfl rfl rfl (pv_move rfl rfl) (wl_yes rfl rfl rfl rfl rfl rfl (pv_bool (pv_move rfl rfl) (o52 hb45)) (wl_yes rfl rfl rfl rfl rfl rfl (pv_not rfl rfl) (wl_op rfl rfl rfl (pv_pick rfl rfl rfl) (wl_op rfl rfl rfl (pv_move rfl rfl) (wl_yes rfl rfl rfl rfl rfl rfl (pv_move rfl rfl) (wl_yes rfl rfl rfl rfl rfl rfl (pv_move rfl rfl) (wl_yes rfl rfl rfl rfl rfl rfl (pv_move rfl rfl) (wl_yes rfl rfl rfl rfl rfl rfl (pv_move rfl rfl) (wl_yes rfl rfl rfl rfl rfl rfl (pv_move rfl rfl) ?_)))))))))
            refine wl_buildInts [r10_1, r10_2, r10_3, r10_4] (by first | exact hS | (repeat (first | exact hS | exact stab_below _ | exact stab_blk _ _ | exact stab_row | exact stab_rr | exact stab_const _ | refine Stab.and ?_ ?_))) (wanted_yes rfl rfl rfl rfl) rfl rfl rfl (fun a ha => by have := ha.evs [.tmp 526, .tmp 527, .tmp 528, .tmp 529] [.int .i64 r10_1, .int .i64 r10_2, .int .i64 r10_3, .int .i64 r10_4] rfl; simp only [List.map_cons, List.map_nil, List.cons.injEq, and_true] at this; simp [this]) (fun w => bsI26_4 r10_1 r10_2 r10_3 r10_4 w) rfl (by simp) (fun gs89 => ?_)
            refine wl_gen (D := fun w => (K10 w) ∧ ((Kd.C (Kd.int .i64) w (some ⟨gs89, 0, none⟩) ([r10_1, r10_2, r10_3, r10_4]).length ([r10_1, r10_2, r10_3, r10_4]) ∧ ([r10_1, r10_2, r10_3, r10_4]).length ≤ 4))) (by first | exact hS | (repeat (first | exact hS | exact stab_below _ | exact stab_blk _ _ | exact stab_row | exact stab_rr | exact stab_const _ | refine Stab.and ?_ ?_))) (fun w hw => ⟨hw.1, hw.2⟩) (fun K11 hS hD => ?_)
            have upK11 : ∀ w, K11 w → K10 w := fun w hw => (hD w hw).1
            replace hB : ∀ w, K11 w → Below w0.heap.size w0 w := fun w hw => hB w (upK11 w hw)
            replace h_e0 := fun w hw => h_e0 w (upK11 w hw)
            replace h_e1 := fun w hw => h_e1 w (upK11 w hw)
            replace h_m12_0 := fun w hw => h_m12_0 w (upK11 w hw)
            replace h_m13_0 := fun w hw => h_m13_0 w (upK11 w hw)
            replace h_m20_0 := fun w hw => h_m20_0 w (upK11 w hw)
            replace h_m21_0 := fun w hw => h_m21_0 w (upK11 w hw)
            replace h_m26_0 := fun w hw => h_m26_0 w (upK11 w hw)
            replace h_m2_0 := fun w hw => h_m2_0 w (upK11 w hw)
            replace h_m3_0 := fun w hw => h_m3_0 w (upK11 w hw)
            replace h_m4_0 := fun w hw => h_m4_0 w (upK11 w hw)
            replace h_m5_0 := fun w hw => h_m5_0 w (upK11 w hw)
            have h_mb89_0 := fun w hw => (hD w hw).2
            clear hD
            refine wl_yes rfl rfl rfl rfl rfl rfl (pv_bool (pv_call_c hS rfl rfl Try.func10 (by kernel_rfl) rfl (fun w hw => (C29 hb45) i26.1 i26.2 (some ⟨gs89, 0, none⟩) 4 w (h_m26_0 w hw).1 (h_m26_0 w hw).2 (h_mb89_0 w hw).1 (h_mb89_0 w hw).2)) (o53 hb45)) (wl_yes rfl rfl rfl rfl rfl rfl (pv_not rfl rfl) (wl_op rfl rfl rfl (pv_pick rfl rfl rfl) ?_))
            refine wl_end (s' := ofL [(38, .int .i64 j4.1), (39, .int .i64 j4.2.1), (40, .int .i64 j4.2.2.1), (41, .int .i64 j4.2.2.2), (42, .slice i12.1 r12_1.length i12.2), (43, .bool r12_2), (46, .int .i64 j5.1), (47, .int .i64 j5.2), (48, .int .i64 r14_1), (49, .int .i64 r14_2), (50, .bool r14_3), (54, .int .i64 r16_1), (55, .bool r16_2), (58, .int .i64 j6), (59, .int .i64 r18_1), (60, .bool r18_2), (63, .int .i64 j7), (64, .slice i20.1 r20_1.length i20.2.1), (65, .bool r20_2), (533, .bool false)]) (hG88 _ _ ?_) (sub_cons rfl (sub_cons rfl (sub_cons rfl (sub_cons rfl (sub_cons rfl (sub_cons rfl (sub_cons rfl (sub_cons rfl (sub_cons rfl (sub_cons rfl (sub_cons rfl (sub_cons rfl (sub_cons rfl (sub_cons rfl (sub_cons rfl (sub_cons rfl (sub_cons rfl (sub_cons rfl (sub_cons rfl (sub_cons rfl (sub_nil)))))))))))))))))))))
            refine cw_false rfl rfl ?_
            exact cw_skip (GS.sub (s' := ofL [(38, .int .i64 j4.1), (39, .int .i64 j4.2.1), (40, .int .i64 j4.2.2.1), (41, .int .i64 j4.2.2.2), (42, .slice i12.1 r12_1.length i12.2), (43, .bool r12_2), (46, .int .i64 j5.1), (47, .int .i64 j5.2), (48, .int .i64 r14_1), (49, .int .i64 r14_2), (50, .bool r14_3), (54, .int .i64 r16_1), (55, .bool r16_2), (58, .int .i64 j6), (59, .int .i64 r18_1), (60, .bool r18_2), (63, .int .i64 j7), (64, .slice i20.1 r20_1.length i20.2.1), (65, .bool r20_2)]) (GS.mono hJ46 (fun w hw => (upK10 w (upK11 w hw)))) (sub_cons rfl (sub_cons rfl (sub_cons rfl (sub_cons rfl (sub_cons rfl (sub_cons rfl (sub_cons rfl (sub_cons rfl (sub_cons rfl (sub_cons rfl (sub_cons rfl (sub_cons rfl (sub_cons rfl (sub_cons rfl (sub_cons rfl (sub_cons rfl (sub_cons rfl (sub_cons rfl (sub_cons rfl (sub_nil)))))))))))))))))))))
          ·
            exact cw_skip (GS.sub (s' := ofL [(38, .int .i64 j4.1), (39, .int .i64 j4.2.1), (40, .int .i64 j4.2.2.1), (41, .int .i64 j4.2.2.2), (42, .slice i12.1 r12_1.length i12.2), (43, .bool r12_2), (46, .int .i64 j5.1), (47, .int .i64 j5.2), (48, .int .i64 r14_1), (49, .int .i64 r14_2), (50, .bool r14_3), (54, .int .i64 r16_1), (55, .bool r16_2), (58, .int .i64 j6), (59, .int .i64 r18_1), (60, .bool r18_2), (63, .int .i64 j7), (64, .slice i20.1 r20_1.length i20.2.1), (65, .bool r20_2)]) hJ46 (sub_cons rfl (sub_cons rfl (sub_cons rfl (sub_cons rfl (sub_cons rfl (sub_cons rfl (sub_cons rfl (sub_cons rfl (sub_cons rfl (sub_cons rfl (sub_cons rfl (sub_cons rfl (sub_cons rfl (sub_cons rfl (sub_cons rfl (sub_cons rfl (sub_cons rfl (sub_cons rfl (sub_cons rfl (sub_nil)))))))))))))))))))))
        refine cw_region ?_
        refine wl_op rfl rfl rfl (pv_move rfl rfl) (wl_op rfl rfl rfl (pv_move rfl rfl) ?_)
        refine wl_split (t := 469) rfl (fun hb90 => ?_) (fun hb90 => ?_)
        ·
          refine wl_yes rfl rfl rfl rfl rfl rfl (pv_move rfl rfl) (wl_yes rfl rfl rfl rfl rfl rfl (pv_bool (pv_bin rfl rfl rfl (fun _ => b_lss Try.underlying3)) (o47 hb90)) (wl_yes rfl rfl rfl rfl rfl rfl (pv_move rfl rfl) (wl_yes rfl rfl rfl rfl rfl rfl (pv_move rfl rfl) (wl_yes rfl rfl rfl rfl rfl rfl (pv_move rfl rfl) (wl_yes rfl rfl rfl rfl rfl rfl (pv_bin rfl rfl rfl (fun _ => b_mul Try.underlying3)) (wl_yes rfl rfl rfl rfl rfl rfl (pv_move rfl rfl) (wl_yes rfl rfl rfl rfl rfl rfl (pv_move rfl rfl) (wl_yes rfl rfl rfl rfl rfl rfl (pv_bin rfl rfl rfl (fun _ => b_mul Try.underlying3)) (wl_yes rfl rfl rfl rfl rfl rfl (pv_bin rfl rfl rfl (fun _ => b_add Try.underlying3)) (wl_yes rfl rfl rfl rfl rfl rfl (pv_move rfl rfl) (wl_yes rfl rfl rfl rfl rfl rfl (pv_move rfl rfl) ?_)))))))))))
          refine wl_yes rfl rfl rfl rfl rfl rfl (pv_bin rfl rfl rfl (fun _ => b_mul Try.underlying3)) (wl_yes rfl rfl rfl rfl rfl rfl (pv_bool (pv_bin rfl rfl rfl (fun _ => b_gtr Try.underlying3)) (o48 hb90)) (wl_yes rfl rfl rfl rfl rfl rfl (pv_pick rfl rfl rfl) (wl_yes rfl rfl rfl rfl rfl rfl (pv_move rfl rfl) (wl_yes rfl rfl rfl rfl rfl rfl (pv_move rfl rfl) (wl_yes rfl rfl rfl rfl rfl rfl (pv_bin rfl rfl rfl (fun _ => b_add Try.underlying3)) (wl_yes rfl rfl rfl rfl rfl rfl (pv_move rfl rfl) (wl_yes rfl rfl rfl rfl rfl rfl (pv_bin rfl rfl rfl (fun _ => b_add Try.underlying3)) (wl_yes rfl rfl rfl rfl rfl rfl (pv_bin rfl rfl rfl (fun _ => b_mul Try.underlying3)) (wl_yes rfl rfl rfl rfl rfl rfl (pv_move rfl rfl) (wl_yes rfl rfl rfl rfl rfl rfl (pv_move rfl rfl) (wl_yes rfl rfl rfl rfl rfl rfl (pv_bin rfl rfl rfl (fun _ => b_mul Try.underlying3)) ?_)))))))))))
          refine wl_yes rfl rfl rfl rfl rfl rfl (pv_bin rfl rfl rfl (fun _ => b_add Try.underlying3)) (wl_yes rfl rfl rfl rfl rfl rfl (pv_move rfl rfl) (wl_yes rfl rfl rfl rfl rfl rfl (pv_move rfl rfl) (wl_yes rfl rfl rfl rfl rfl rfl (pv_bin rfl rfl rfl (fun _ => b_mul Try.underlying3)) (wl_yes rfl rfl rfl rfl rfl rfl (pv_bool (pv_bin rfl rfl rfl (fun _ => b_leq Try.underlying3)) (o49 hb90)) (wl_yes rfl rfl rfl rfl rfl rfl (pv_pick rfl rfl rfl) (wl_op rfl rfl rfl (pv_pick rfl rfl rfl) ?_))))))
          exact wl_end (s' := ofL [(26, .int .i64 j3.1), (27, .int .i64 j3.2), (28, .int .i64 r10_1), (29, .int .i64 r10_2), (30, .int .i64 r10_3), (31, .int .i64 r10_4), (32, .bool r10_5), (38, .int .i64 j4.1), (39, .int .i64 j4.2.1), (40, .int .i64 j4.2.2.1), (41, .int .i64 j4.2.2.2), (42, .slice i12.1 r12_1.length i12.2), (43, .bool r12_2), (46, .int .i64 j5.1), (47, .int .i64 j5.2), (48, .int .i64 r14_1), (49, .int .i64 r14_2), (50, .bool r14_3), (54, .int .i64 r16_1), (55, .bool r16_2), (58, .int .i64 j6), (59, .int .i64 r18_1), (60, .bool r18_2), (63, .int .i64 j7), (64, .slice i20.1 r20_1.length i20.2.1), (65, .bool r20_2), (500, .bool false)]) hJ42 (sub_cons rfl (sub_cons rfl (sub_cons rfl (sub_cons rfl (sub_cons rfl (sub_cons rfl (sub_cons rfl (sub_cons rfl (sub_cons rfl (sub_cons rfl (sub_cons rfl (sub_cons rfl (sub_cons rfl (sub_cons rfl (sub_cons rfl (sub_cons rfl (sub_cons rfl (sub_cons rfl (sub_cons rfl (sub_cons rfl (sub_cons rfl (sub_cons rfl (sub_cons rfl (sub_cons rfl (sub_cons rfl (sub_cons rfl (sub_cons rfl (sub_nil))))))))))))))))))))))))))))
        ·
          refine wl_no rfl rfl rfl rfl rfl rfl (wl_no rfl rfl rfl rfl rfl rfl (wl_no rfl rfl rfl rfl rfl rfl (wl_off rfl rfl rfl rfl rfl (wl_off rfl rfl rfl rfl rfl (wl_off rfl rfl rfl rfl rfl (wl_off rfl rfl rfl rfl rfl (wl_off rfl rfl rfl rfl rfl (wl_off rfl rfl rfl rfl rfl (wl_off rfl rfl rfl rfl rfl (wl_off rfl rfl rfl rfl rfl (wl_off rfl rfl rfl rfl rfl (wl_off rfl rfl rfl rfl rfl (wl_off rfl rfl rfl rfl rfl (wl_no rfl rfl rfl rfl rfl rfl (wl_no rfl rfl rfl rfl rfl rfl (wl_off rfl rfl rfl rfl rfl (wl_off rfl rfl rfl rfl rfl (wl_off rfl rfl rfl rfl rfl (wl_off rfl rfl rfl rfl rfl (wl_off rfl rfl rfl rfl rfl (wl_off rfl rfl rfl rfl rfl (wl_off rfl rfl rfl rfl rfl (wl_off rfl rfl rfl rfl rfl (wl_off rfl rfl rfl rfl rfl (wl_off rfl rfl rfl rfl rfl (wl_off rfl rfl rfl rfl rfl (wl_off rfl rfl rfl rfl rfl (wl_off rfl rfl rfl rfl rfl (wl_no rfl rfl rfl rfl rfl rfl (wl_op rfl rfl rfl (pv_pick rfl rfl rfl) ?_))))))))))))))))))))))))))))))
          exact wl_end (s' := ofL [(26, .int .i64 j3.1), (27, .int .i64 j3.2), (28, .int .i64 r10_1), (29, .int .i64 r10_2), (30, .int .i64 r10_3), (31, .int .i64 r10_4), (32, .bool r10_5), (38, .int .i64 j4.1), (39, .int .i64 j4.2.1), (40, .int .i64 j4.2.2.1), (41, .int .i64 j4.2.2.2), (42, .slice i12.1 r12_1.length i12.2), (43, .bool r12_2), (46, .int .i64 j5.1), (47, .int .i64 j5.2), (48, .int .i64 r14_1), (49, .int .i64 r14_2), (50, .bool r14_3), (54, .int .i64 r16_1), (55, .bool r16_2), (58, .int .i64 j6), (59, .int .i64 r18_1), (60, .bool r18_2), (63, .int .i64 j7), (64, .slice i20.1 r20_1.length i20.2.1), (65, .bool r20_2), (500, .bool false)]) hJ42 (sub_cons rfl (sub_cons rfl (sub_cons rfl (sub_cons rfl (sub_cons rfl (sub_cons rfl (sub_cons rfl (sub_cons rfl (sub_cons rfl (sub_cons rfl (sub_cons rfl (sub_cons rfl (sub_cons rfl (sub_cons rfl (sub_cons rfl (sub_cons rfl (sub_cons rfl (sub_cons rfl (sub_cons rfl (sub_cons rfl (sub_cons rfl (sub_cons rfl (sub_cons rfl (sub_cons rfl (sub_cons rfl (sub_cons rfl (sub_cons rfl (sub_nil))))))))))))))))))))))))))))
      refine cw_region ?_
      refine wl_op rfl rfl rfl (pv_move rfl rfl) (wl_op rfl rfl rfl (pv_move rfl rfl) (wl_op rfl rfl rfl (pv_bool (pv_bin rfl rfl rfl (fun _ => b_neqb Try.underlying4)) (o27)) (wl_op rfl rfl rfl (pv_move rfl rfl) (wl_yes rfl rfl rfl rfl rfl rfl (pv_move rfl rfl) (wl_yes rfl rfl rfl rfl rfl rfl (pv_move rfl rfl) (wl_yes rfl rfl rfl rfl rfl rfl (pv_bool (pv_bin rfl rfl rfl (fun _ => b_neq Try.underlying3)) (o28)) (wl_op rfl rfl rfl (pv_pick rfl rfl rfl) (wl_op rfl rfl rfl (pv_move rfl rfl) (wl_yes rfl rfl rfl rfl rfl rfl (pv_move rfl rfl) (wl_yes rfl rfl rfl rfl rfl rfl (pv_move rfl rfl) (wl_yes rfl rfl rfl rfl rfl rfl (pv_bool (pv_bin rfl rfl rfl (fun _ => b_neqb Try.underlying4)) (o29)) ?_)))))))))))
      refine wl_op rfl rfl rfl (pv_pick rfl rfl rfl) (wl_op rfl rfl rfl (pv_move rfl rfl) (wl_yes rfl rfl rfl rfl rfl rfl (pv_move rfl rfl) (wl_yes rfl rfl rfl rfl rfl rfl (pv_move rfl rfl) (wl_yes rfl rfl rfl rfl rfl rfl (pv_bool (pv_bin rfl rfl rfl (fun _ => b_neq Try.underlying3)) (o30)) (wl_op rfl rfl rfl (pv_pick rfl rfl rfl) (wl_op rfl rfl rfl (pv_move rfl rfl) (wl_yes rfl rfl rfl rfl rfl rfl (pv_move rfl rfl) (wl_yes rfl rfl rfl rfl rfl rfl (pv_move rfl rfl) (wl_yes rfl rfl rfl rfl rfl rfl (pv_bool (pv_bin rfl rfl rfl (fun _ => b_neq Try.underlying3)) (o31)) (wl_op rfl rfl rfl (pv_pick rfl rfl rfl) (wl_op rfl rfl rfl (pv_move rfl rfl) ?_)))))))))))
      refine wl_yes rfl rfl rfl rfl rfl rfl (pv_move rfl rfl) (wl_yes rfl rfl rfl rfl rfl rfl (pv_move rfl rfl) (wl_yes rfl rfl rfl rfl rfl rfl (pv_bool (pv_bin rfl rfl rfl (fun _ => b_neq Try.underlying3)) (o32)) (wl_op rfl rfl rfl (pv_pick rfl rfl rfl) (wl_op rfl rfl rfl (pv_move rfl rfl) (wl_yes rfl rfl rfl rfl rfl rfl (pv_move rfl rfl) (wl_yes rfl rfl rfl rfl rfl rfl (pv_move rfl rfl) (wl_yes rfl rfl rfl rfl rfl rfl (pv_bool (pv_bin rfl rfl rfl (fun _ => b_neq Try.underlying3)) (o33)) (wl_op rfl rfl rfl (pv_pick rfl rfl rfl) (wl_op rfl rfl rfl (pv_move rfl rfl) (wl_yes rfl rfl rfl rfl rfl rfl (pv_move rfl rfl) (wl_yes rfl rfl rfl rfl rfl rfl (pv_move rfl rfl) ?_)))))))))))
      refine wl_yes rfl rfl rfl rfl rfl rfl (pv_bool (pv_bin rfl rfl rfl (fun _ => b_neqb Try.underlying4)) (o34)) (wl_op rfl rfl rfl (pv_pick rfl rfl rfl) (wl_op rfl rfl rfl (pv_move rfl rfl) (wl_yes rfl rfl rfl rfl rfl rfl (pv_move rfl rfl) (wl_yes rfl rfl rfl rfl rfl rfl (pv_move rfl rfl) (wl_yes rfl rfl rfl rfl rfl rfl (pv_bool (pv_call_c hS rfl rfl Try.func10 (by kernel_rfl) rfl (fun w hw => C30 i12.1 i12.2 i13.1 i13.2 w (h_m12_0 w hw).1 (h_m12_0 w hw).2 (h_m13_0 w hw).1 (h_m13_0 w hw).2)) (o35)) (wl_yes rfl rfl rfl rfl rfl rfl (pv_not rfl rfl) (wl_op rfl rfl rfl (pv_pick rfl rfl rfl) (wl_op rfl rfl rfl (pv_move rfl rfl) (wl_yes rfl rfl rfl rfl rfl rfl (pv_move rfl rfl) (wl_yes rfl rfl rfl rfl rfl rfl (pv_move rfl rfl) (wl_yes rfl rfl rfl rfl rfl rfl (pv_bool (pv_bin rfl rfl rfl (fun _ => b_neqb Try.underlying4)) (o36)) ?_)))))))))))
      refine wl_op rfl rfl rfl (pv_pick rfl rfl rfl) (wl_op rfl rfl rfl (pv_move rfl rfl) (wl_yes rfl rfl rfl rfl rfl rfl (pv_move rfl rfl) (wl_yes rfl rfl rfl rfl rfl rfl (pv_move rfl rfl) (wl_yes rfl rfl rfl rfl rfl rfl (pv_bool (pv_bin rfl rfl rfl (fun _ => b_neq Try.underlying3)) (o37)) (wl_op rfl rfl rfl (pv_pick rfl rfl rfl) (wl_op rfl rfl rfl (pv_move rfl rfl) (wl_yes rfl rfl rfl rfl rfl rfl (pv_move rfl rfl) (wl_yes rfl rfl rfl rfl rfl rfl (pv_move rfl rfl) (wl_yes rfl rfl rfl rfl rfl rfl (pv_bool (pv_bin rfl rfl rfl (fun _ => b_neq Try.underlying3)) (o38)) (wl_op rfl rfl rfl (pv_pick rfl rfl rfl) (wl_op rfl rfl rfl (pv_move rfl rfl) ?_)))))))))))
      refine wl_yes rfl rfl rfl rfl rfl rfl (pv_move rfl rfl) (wl_yes rfl rfl rfl rfl rfl rfl (pv_move rfl rfl) (wl_yes rfl rfl rfl rfl rfl rfl (pv_bool (pv_bin rfl rfl rfl (fun _ => b_neqb Try.underlying4)) (o39)) (wl_op rfl rfl rfl (pv_pick rfl rfl rfl) (wl_op rfl rfl rfl (pv_move rfl rfl) (wl_yes rfl rfl rfl rfl rfl rfl (pv_move rfl rfl) (wl_yes rfl rfl rfl rfl rfl rfl (pv_move rfl rfl) (wl_yes rfl rfl rfl rfl rfl rfl (pv_bool (pv_bin rfl rfl rfl (fun _ => b_neq Try.underlying3)) (o40)) (wl_op rfl rfl rfl (pv_pick rfl rfl rfl) (wl_op rfl rfl rfl (pv_move rfl rfl) (wl_yes rfl rfl rfl rfl rfl rfl (pv_move rfl rfl) (wl_yes rfl rfl rfl rfl rfl rfl (pv_move rfl rfl) ?_)))))))))))
      refine wl_yes rfl rfl rfl rfl rfl rfl (pv_bool (pv_bin rfl rfl rfl (fun _ => b_neqb Try.underlying4)) (o41)) (wl_op rfl rfl rfl (pv_pick rfl rfl rfl) (wl_op rfl rfl rfl (pv_move rfl rfl) (wl_yes rfl rfl rfl rfl rfl rfl (pv_move rfl rfl) (wl_yes rfl rfl rfl rfl rfl rfl (pv_move rfl rfl) (wl_yes rfl rfl rfl rfl rfl rfl (pv_bool (pv_bin rfl rfl rfl (fun _ => b_neq Try.underlying3)) (o42)) (wl_op rfl rfl rfl (pv_pick rfl rfl rfl) (wl_op rfl rfl rfl (pv_move rfl rfl) (wl_yes rfl rfl rfl rfl rfl rfl (pv_move rfl rfl) (wl_yes rfl rfl rfl rfl rfl rfl (pv_move rfl rfl) (wl_yes rfl rfl rfl rfl rfl rfl (pv_bool (pv_bin rfl rfl rfl (fun _ => b_neqb Try.underlying4)) (o43)) (wl_op rfl rfl rfl (pv_pick rfl rfl rfl) ?_)))))))))))
      refine wl_op rfl rfl rfl (pv_move rfl rfl) (wl_yes rfl rfl rfl rfl rfl rfl (pv_move rfl rfl) (wl_yes rfl rfl rfl rfl rfl rfl (pv_move rfl rfl) (wl_yes rfl rfl rfl rfl rfl rfl (pv_bool (pv_call_c hS rfl rfl Try.func31 (by kernel_rfl) rfl (fun w hw => C31 i20.1 i20.2.1 i21.1 i21.2.1 w (h_m20_0 w hw).1.1 (h_m20_0 w hw).2 (h_m21_0 w hw).1.1 (h_m21_0 w hw).2)) (o44)) (wl_yes rfl rfl rfl rfl rfl rfl (pv_not rfl rfl) (wl_op rfl rfl rfl (pv_pick rfl rfl rfl) (wl_op rfl rfl rfl (pv_move rfl rfl) (wl_yes rfl rfl rfl rfl rfl rfl (pv_move rfl rfl) (wl_yes rfl rfl rfl rfl rfl rfl (pv_move rfl rfl) (wl_yes rfl rfl rfl rfl rfl rfl (pv_move rfl rfl) ?_)))))))))
      refine wl_split (t := 462) rfl (fun hb91 => ?_) (fun hb91 => ?_)
      ·
        refine wl_yes rfl rfl rfl rfl rfl rfl (pv_move rfl rfl) (wl_yes rfl rfl rfl rfl rfl rfl (pv_bin rfl rfl rfl (fun _ => b_eql Try.underlying3)) (wl_yes rfl rfl rfl rfl rfl rfl (pv_pick rfl rfl rfl) (wl_yes rfl rfl rfl rfl rfl rfl (pv_bool (pv_bin rfl rfl rfl (fun _ => b_neqb Try.underlying4)) (o45 hb91)) (wl_op rfl rfl rfl (pv_pick rfl rfl rfl) ?_))))
        exact wl_end (s' := ofL [(20, .int .i64 j2.1), (21, .int .i64 j2.2), (22, .int .i64 r8_1), (23, .bool r8_2), (26, .int .i64 j3.1), (27, .int .i64 j3.2), (28, .int .i64 r10_1), (29, .int .i64 r10_2), (30, .int .i64 r10_3), (31, .int .i64 r10_4), (32, .bool r10_5), (38, .int .i64 j4.1), (39, .int .i64 j4.2.1), (40, .int .i64 j4.2.2.1), (41, .int .i64 j4.2.2.2), (42, .slice i12.1 r12_1.length i12.2), (43, .bool r12_2), (46, .int .i64 j5.1), (47, .int .i64 j5.2), (48, .int .i64 r14_1), (49, .int .i64 r14_2), (50, .bool r14_3), (54, .int .i64 r16_1), (55, .bool r16_2), (58, .int .i64 j6), (59, .int .i64 r18_1), (60, .bool r18_2), (63, .int .i64 j7), (64, .slice i20.1 r20_1.length i20.2.1), (65, .bool r20_2), (467, .bool false)]) hJ39 (sub_cons rfl (sub_cons rfl (sub_cons rfl (sub_cons rfl (sub_cons rfl (sub_cons rfl (sub_cons rfl (sub_cons rfl (sub_cons rfl (sub_cons rfl (sub_cons rfl (sub_cons rfl (sub_cons rfl (sub_cons rfl (sub_cons rfl (sub_cons rfl (sub_cons rfl (sub_cons rfl (sub_cons rfl (sub_cons rfl (sub_cons rfl (sub_cons rfl (sub_cons rfl (sub_cons rfl (sub_cons rfl (sub_cons rfl (sub_cons rfl (sub_cons rfl (sub_cons rfl (sub_cons rfl (sub_cons rfl (sub_nil))))))))))))))))))))))))))))))))
      ·
        refine wl_no rfl rfl rfl rfl rfl rfl (wl_no rfl rfl rfl rfl rfl rfl (wl_yes rfl rfl rfl rfl rfl rfl (pv_pick rfl rfl rfl) (wl_yes rfl rfl rfl rfl rfl rfl (pv_bool (pv_bin rfl rfl rfl (fun _ => b_neqb Try.underlying4)) (o46 hb91)) (wl_op rfl rfl rfl (pv_pick rfl rfl rfl) ?_))))
        exact wl_end (s' := ofL [(20, .int .i64 j2.1), (21, .int .i64 j2.2), (22, .int .i64 r8_1), (23, .bool r8_2), (26, .int .i64 j3.1), (27, .int .i64 j3.2), (28, .int .i64 r10_1), (29, .int .i64 r10_2), (30, .int .i64 r10_3), (31, .int .i64 r10_4), (32, .bool r10_5), (38, .int .i64 j4.1), (39, .int .i64 j4.2.1), (40, .int .i64 j4.2.2.1), (41, .int .i64 j4.2.2.2), (42, .slice i12.1 r12_1.length i12.2), (43, .bool r12_2), (46, .int .i64 j5.1), (47, .int .i64 j5.2), (48, .int .i64 r14_1), (49, .int .i64 r14_2), (50, .bool r14_3), (54, .int .i64 r16_1), (55, .bool r16_2), (58, .int .i64 j6), (59, .int .i64 r18_1), (60, .bool r18_2), (63, .int .i64 j7), (64, .slice i20.1 r20_1.length i20.2.1), (65, .bool r20_2), (467, .bool false)]) hJ39 (sub_cons rfl (sub_cons rfl (sub_cons rfl (sub_cons rfl (sub_cons rfl (sub_cons rfl (sub_cons rfl (sub_cons rfl (sub_cons rfl (sub_cons rfl (sub_cons rfl (sub_cons rfl (sub_cons rfl (sub_cons rfl (sub_cons rfl (sub_cons rfl (sub_cons rfl (sub_cons rfl (sub_cons rfl (sub_cons rfl (sub_cons rfl (sub_cons rfl (sub_cons rfl (sub_cons rfl (sub_cons rfl (sub_cons rfl (sub_cons rfl (sub_cons rfl (sub_cons rfl (sub_cons rfl (sub_cons rfl (sub_nil))))))))))))))))))))))))))))))))
    refine cw_cond rfl (fun hb15 => ?_) (fun hb15 => ?_)
    ·
      refine cw_seq (fun G92 hG92 => ?_)
      refine cw_seq (fun G93 hG93 => ?_)
      refine cw_region ?_
      refine wl_op rfl rfl rfl (pv_move rfl rfl) (wl_op rfl rfl rfl (pv_len (t := 26) Try.underlying26 rfl rfl) (wl_op rfl rfl rfl (pv_bool (pv_bin rfl rfl rfl (fun _ => b_lss Try.underlying3)) (o6 hb15)) (wl_op rfl rfl rfl (pv_move rfl rfl) (wl_yes rfl rfl rfl rfl rfl rfl (pv_move rfl rfl) (wl_yes rfl rfl rfl rfl rfl rfl (pv_len (t := 26) Try.underlying26 rfl rfl) (wl_yes rfl rfl rfl rfl rfl rfl (pv_move rfl rfl) (wl_yes rfl rfl rfl rfl rfl rfl (pv_bin rfl rfl rfl (fun _ => b_add Try.underlying3)) (wl_yes rfl rfl rfl rfl rfl rfl (pv_bool (pv_bin rfl rfl rfl (fun _ => b_gtr Try.underlying3)) (o7 hb15)) (wl_op rfl rfl rfl (pv_pick rfl rfl rfl) (wl_op rfl rfl rfl (pv_move rfl rfl) (wl_yes rfl rfl rfl rfl rfl rfl (pv_move rfl rfl) ?_)))))))))))
      refine wl_yes rfl rfl rfl rfl rfl rfl (pv_len (t := 26) Try.underlying26 rfl rfl) (wl_yes rfl rfl rfl rfl rfl rfl (pv_move rfl rfl) (wl_yes rfl rfl rfl rfl rfl rfl (pv_len (t := 26) Try.underlying26 rfl rfl) (wl_yes rfl rfl rfl rfl rfl rfl (pv_bin rfl rfl rfl (fun _ => b_sub Try.underlying3)) (wl_yes rfl rfl rfl rfl rfl rfl (pv_bool (pv_bin rfl rfl rfl (fun _ => b_neq Try.underlying3)) (o8 hb15)) (wl_op rfl rfl rfl (pv_pick rfl rfl rfl) ?_)))))
      refine wl_end (s' := ofL [(1, .slice A1 l1.length c1), (5, .int .i64 j1.1), (6, .int .i64 j1.2.1), (7, .int .i64 j1.2.2.1), (8, .int .i64 j1.2.2.2), (9, .slice i2.1 r2_1.length i2.2), (13, .slice i4.1 r4_1.length i4.2), (161, .bool false)]) (hG93 _ _ ?_) (sub_cons rfl (sub_cons rfl (sub_cons rfl (sub_cons rfl (sub_cons rfl (sub_cons rfl (sub_cons rfl (sub_cons rfl (sub_nil)))))))))
      refine cw_false rfl rfl ?_
      refine cw_skip (GS.sub (s' := ofL [(1, .slice A1 l1.length c1), (5, .int .i64 j1.1), (6, .int .i64 j1.2.1), (7, .int .i64 j1.2.2.1), (8, .int .i64 j1.2.2.2), (9, .slice i2.1 r2_1.length i2.2), (13, .slice i4.1 r4_1.length i4.2)]) (hG92 _ _ ?_) (sub_cons rfl (sub_cons rfl (sub_cons rfl (sub_cons rfl (sub_cons rfl (sub_cons rfl (sub_cons rfl (sub_nil)))))))))
      refine cw_seq (fun G94 hG94 => ?_)
      refine cw_seq (fun G95 hG95 => ?_)
      refine cw_region ?_
      refine wl_op rfl rfl rfl (pv_move rfl rfl) (wl_op rfl rfl rfl (pv_len (t := 26) Try.underlying26 rfl rfl) (wl_op rfl rfl rfl (pv_move rfl rfl) ?_))
      refine wl_end (s' := ofL [(1, .slice A1 l1.length c1), (5, .int .i64 j1.1), (6, .int .i64 j1.2.1), (7, .int .i64 j1.2.2.1), (8, .int .i64 j1.2.2.2), (9, .slice i2.1 r2_1.length i2.2), (13, .slice i4.1 r4_1.length i4.2), (162, .slice i2.1 r2_1.length i2.2), (163, .int .i64 ((r2_1.length : Int))), (164, .int .i64 0)]) (hG95 _ _ ?_) (sub_cons rfl (sub_cons rfl (sub_cons rfl (sub_cons rfl (sub_cons rfl (sub_cons rfl (sub_cons rfl (sub_cons rfl (sub_cons rfl (sub_cons rfl (sub_nil)))))))))))
      have hJ97 : GS K4 706 G94 (ofL [(1, .slice A1 l1.length c1), (5, .int .i64 j1.1), (6, .int .i64 j1.2.1), (7, .int .i64 j1.2.2.1), (8, .int .i64 j1.2.2.2), (9, .slice i2.1 r2_1.length i2.2)]) := by as_aux_lemma =>
        refine hG94 _ _ ?_
        refine cw_seq (fun G98 hG98 => ?_)
        have hJ99 : GS K4 706 G98 (ofL [(1, .slice A1 l1.length c1), (250, .bool false)]) := by as_aux_lemma =>
          refine hG98 _ _ ?_
          refine cw_false rfl rfl ?_
          exact cw_skip (GS.sub (s' := ofL [(1, .slice A1 l1.length c1)]) hJ16 (sub_cons rfl (sub_nil)))
        refine cw_region ?_
        refine wl_op rfl rfl rfl (pv_move rfl rfl) (wl_op rfl rfl rfl (pv_len (t := 26) Try.underlying26 rfl rfl) (wl_op rfl rfl rfl (pv_move rfl rfl) (wl_op rfl rfl rfl (pv_bin rfl rfl rfl (fun _ => b_leq Try.underlying3)) (wl_op rfl rfl rfl (pv_move rfl rfl) ?_))))
        refine wl_split (t := 241) rfl (fun hb100 => ?_) (fun hb100 => ?_)
        ·
          refine wl_yes rfl rfl rfl rfl rfl rfl (pv_move rfl rfl) (wl_yes rfl rfl rfl rfl rfl rfl (pv_move rfl rfl) (wl_yes rfl rfl rfl rfl rfl rfl (pv_len (t := 26) Try.underlying26 rfl rfl) (wl_yes rfl rfl rfl rfl rfl rfl (pv_move rfl rfl) (wl_yes rfl rfl rfl rfl rfl rfl (pv_bin rfl rfl rfl (fun _ => b_mul Try.underlying3)) (wl_yes rfl rfl rfl rfl rfl rfl (pv_bin rfl rfl rfl (fun _ => b_add Try.underlying3)) (wl_yes rfl rfl rfl rfl rfl rfl (pv_move rfl rfl) (wl_yes rfl rfl rfl rfl rfl rfl (pv_bool (pv_bin rfl rfl rfl (fun _ => b_leq Try.underlying3)) (o23 hb15 hb100)) (wl_op rfl rfl rfl (pv_pick rfl rfl rfl) ?_))))))))
          exact wl_end (s' := ofL [(1, .slice A1 l1.length c1), (250, .bool false)]) hJ99 (sub_cons rfl (sub_cons rfl (sub_nil)))
        ·
          refine wl_no rfl rfl rfl rfl rfl rfl (wl_no rfl rfl rfl rfl rfl rfl (wl_no rfl rfl rfl rfl rfl rfl (wl_no rfl rfl rfl rfl rfl rfl (wl_no rfl rfl rfl rfl rfl rfl (wl_no rfl rfl rfl rfl rfl rfl (wl_no rfl rfl rfl rfl rfl rfl (wl_no rfl rfl rfl rfl rfl rfl (wl_op rfl rfl rfl (pv_pick rfl rfl rfl) ?_))))))))
          exact wl_end (s' := ofL [(1, .slice A1 l1.length c1), (250, .bool false)]) hJ99 (sub_cons rfl (sub_cons rfl (sub_nil)))
      refine cw_block (fun Q96 hr96 he96 hX96 => ?_)
      have hR96 := fun a w h => hr96 a w h
      refine cw_loop (σ := Int) (fun x => J1 x) (fun x => ofL [(1, .slice A1 l1.length c1), (5, .int .i64 j1.1), (6, .int .i64 j1.2.1), (7, .int .i64 j1.2.2.1), (8, .int .i64 j1.2.2.2), (9, .slice i2.1 r2_1.length i2.2), (13, .slice i4.1 r4_1.length i4.2), (162, .slice i2.1 r2_1.length i2.2), (163, .int .i64 ((r2_1.length : Int))), (164, .int .i64 x)]) (fun x => m1 x) (0) (o24 hb15) (sub_cons rfl (sub_cons rfl (sub_cons rfl (sub_cons rfl (sub_cons rfl (sub_cons rfl (sub_cons rfl (sub_cons rfl (sub_cons rfl (sub_cons rfl (sub_nil))))))))))) ?_
      intro y1_0 hL1 GL1 hGL1
      replace hL1 : J1 y1_0 := hL1
      change CW _ _ _ _ _ _ (ofL [(1, .slice A1 l1.length c1), (5, .int .i64 j1.1), (6, .int .i64 j1.2.1), (7, .int .i64 j1.2.2.1), (8, .int .i64 j1.2.2.2), (9, .slice i2.1 r2_1.length i2.2), (13, .slice i4.1 r4_1.length i4.2), (162, .slice i2.1 r2_1.length i2.2), (163, .int .i64 ((r2_1.length : Int))), (164, .int .i64 y1_0)])
      refine cw_seq (fun G101 hG101 => ?_)
      refine cw_region ?_
      refine wl_op rfl rfl rfl (pv_bin rfl rfl rfl (fun _ => b_lss Try.underlying3)) ?_
      refine wl_end (s' := ofL [(1, .slice A1 l1.length c1), (5, .int .i64 j1.1), (6, .int .i64 j1.2.1), (7, .int .i64 j1.2.2.1), (8, .int .i64 j1.2.2.2), (9, .slice i2.1 r2_1.length i2.2), (13, .slice i4.1 r4_1.length i4.2), (162, .slice i2.1 r2_1.length i2.2), (163, .int .i64 ((r2_1.length : Int))), (164, .int .i64 y1_0), (165, .bool (decide (y1_0 < ((r2_1.length : Int)))))]) (hG101 _ _ ?_) (sub_cons rfl (sub_cons rfl (sub_cons rfl (sub_cons rfl (sub_cons rfl (sub_cons rfl (sub_cons rfl (sub_cons rfl (sub_cons rfl (sub_cons rfl (sub_cons rfl (sub_nil))))))))))))
      refine cw_seq (fun G102 hG102 => ?_)
      refine cw_cond rfl (fun hb103 => ?_) (fun hb103 => ?_)
      ·
        refine cw_skip (GS.sub (s' := ofL [(1, .slice A1 l1.length c1), (5, .int .i64 j1.1), (6, .int .i64 j1.2.1), (7, .int .i64 j1.2.2.1), (8, .int .i64 j1.2.2.2), (9, .slice i2.1 r2_1.length i2.2), (13, .slice i4.1 r4_1.length i4.2), (162, .slice i2.1 r2_1.length i2.2), (163, .int .i64 ((r2_1.length : Int))), (164, .int .i64 y1_0)]) (hG102 _ _ ?_) (sub_cons rfl (sub_cons rfl (sub_cons rfl (sub_cons rfl (sub_cons rfl (sub_cons rfl (sub_cons rfl (sub_cons rfl (sub_cons rfl (sub_cons rfl (sub_nil))))))))))))
        refine cw_seq (fun G104 hG104 => ?_)
        refine cw_block (fun Q105 hr105 he105 hX105 => ?_)
        have hR105 := fun a w h => hr105 a w (hR96 a w h)
        have hX105_0 := fun a w h => he105 0 a w (by decide) (hX96 a w h)
        refine cw_seq (fun G106 hG106 => ?_)
        refine cw_region ?_
        refine wl_op rfl rfl rfl (pv_move rfl rfl) (wl_op rfl rfl rfl (pv_indexAddr (k := i2.2) (l := r2_1) (i := y1_0) ix26 rfl rfl rfl (o9 hb15 y1_0 hL1 hb103) (o10 hb15 y1_0 hL1 hb103) (fun w hw => (h_m2_0 w hw).1)) (wl_op rfl rfl rfl (pv_loadI (A := i2.1) (l := r2_1) (i := y1_0) ldI rfl rfl (o9 hb15 y1_0 hL1 hb103) (o10 hb15 y1_0 hL1 hb103) (fun w hw => (h_m2_0 w hw).1)) (wl_op rfl rfl rfl (pv_assign rfl rfl) (wl_op rfl rfl rfl (pv_assign rfl rfl) ?_))))
        refine wl_end (s' := ofL [(1, .slice A1 l1.length c1), (5, .int .i64 j1.1), (6, .int .i64 j1.2.1), (7, .int .i64 j1.2.2.1), (8, .int .i64 j1.2.2.2), (9, .slice i2.1 r2_1.length i2.2), (13, .slice i4.1 r4_1.length i4.2), (17, .int .i64 y1_0), (18, .int .i64 (rd r2_1 y1_0)), (162, .slice i2.1 r2_1.length i2.2), (163, .int .i64 ((r2_1.length : Int))), (164, .int .i64 y1_0)]) (hG106 _ _ ?_) (sub_cons rfl (sub_cons rfl (sub_cons rfl (sub_cons rfl (sub_cons rfl (sub_cons rfl (sub_cons rfl (sub_cons rfl (sub_cons rfl (sub_cons rfl (sub_cons rfl (sub_cons rfl (sub_nil)))))))))))))
        refine cw_seq (fun G107 hG107 => ?_)
        refine cw_region ?_
        refine wl_op rfl rfl rfl (pv_move rfl rfl) (wl_op rfl rfl rfl (pv_move rfl rfl) (wl_op rfl rfl rfl (pv_move rfl rfl) (wl_op rfl rfl rfl (pv_bin rfl rfl rfl (fun _ => b_mul Try.underlying3)) (wl_op rfl rfl rfl (pv_bin rfl rfl rfl (fun _ => b_add Try.underlying3)) (wl_op rfl rfl rfl (pv_assign rfl rfl) ?_)))))
        refine wl_end (s' := ofL [(1, .slice A1 l1.length c1), (5, .int .i64 j1.1), (6, .int .i64 j1.2.1), (7, .int .i64 j1.2.2.1), (8, .int .i64 j1.2.2.2), (9, .slice i2.1 r2_1.length i2.2), (13, .slice i4.1 r4_1.length i4.2), (17, .int .i64 y1_0), (18, .int .i64 (rd r2_1 y1_0)), (19, .int .i64 (wrap64 (j1.2.1 + (wrap64 (y1_0 * j1.2.2.1))))), (162, .slice i2.1 r2_1.length i2.2), (163, .int .i64 ((r2_1.length : Int))), (164, .int .i64 y1_0)]) (hG107 _ _ ?_) (sub_cons rfl (sub_cons rfl (sub_cons rfl (sub_cons rfl (sub_cons rfl (sub_cons rfl (sub_cons rfl (sub_cons rfl (sub_cons rfl (sub_cons rfl (sub_cons rfl (sub_cons rfl (sub_cons rfl (sub_nil))))))))))))))
        refine cw_seq (fun G108 hG108 => ?_)
        have hJ109 : GS K4 706 G108 (ofL [(1, .slice A1 l1.length c1), (5, .int .i64 j1.1), (6, .int .i64 j1.2.1), (7, .int .i64 j1.2.2.1), (8, .int .i64 j1.2.2.2), (9, .slice i2.1 r2_1.length i2.2), (13, .slice i4.1 r4_1.length i4.2), (162, .slice i2.1 r2_1.length i2.2), (163, .int .i64 ((r2_1.length : Int))), (164, .int .i64 y1_0), (235, .bool false)]) := by as_aux_lemma =>
          refine hG108 _ _ ?_
          refine cw_false rfl rfl ?_
          refine cw_skip (GS.sub (s' := ofL [(1, .slice A1 l1.length c1), (5, .int .i64 j1.1), (6, .int .i64 j1.2.1), (7, .int .i64 j1.2.2.1), (8, .int .i64 j1.2.2.2), (9, .slice i2.1 r2_1.length i2.2), (13, .slice i4.1 r4_1.length i4.2), (162, .slice i2.1 r2_1.length i2.2), (163, .int .i64 ((r2_1.length : Int))), (164, .int .i64 y1_0)]) (hG104 _ _ ?_) (sub_cons rfl (sub_cons rfl (sub_cons rfl (sub_cons rfl (sub_cons rfl (sub_cons rfl (sub_cons rfl (sub_cons rfl (sub_cons rfl (sub_cons rfl (sub_nil))))))))))))
          refine cw_region ?_
          refine wl_op rfl rfl rfl (pv_bin rfl rfl rfl (fun _ => b_add Try.underlying3)) (wl_op rfl rfl rfl (pv_move rfl rfl) ?_)
          exact wl_end (s' := ofL [(1, .slice A1 l1.length c1), (5, .int .i64 j1.1), (6, .int .i64 j1.2.1), (7, .int .i64 j1.2.2.1), (8, .int .i64 j1.2.2.2), (9, .slice i2.1 r2_1.length i2.2), (13, .slice i4.1 r4_1.length i4.2), (162, .slice i2.1 r2_1.length i2.2), (163, .int .i64 ((r2_1.length : Int))), (164, .int .i64 (wrap64 (y1_0 + 1)))]) (hGL1 (wrap64 (y1_0 + 1)) (o25 hb15 y1_0 hL1 hb103) (o26 hb15 y1_0 hL1 hb103)) (sub_cons rfl (sub_cons rfl (sub_cons rfl (sub_cons rfl (sub_cons rfl (sub_cons rfl (sub_cons rfl (sub_cons rfl (sub_cons rfl (sub_cons rfl (sub_nil)))))))))))
        refine cw_draw hS (by kernel_rfl) (by as_aux_lemma => kernel_rfl) (fun F hF => ?_)
        refine wq_op rfl rfl rfl (pv_move rfl rfl) (wq_op rfl rfl rfl (pv_move rfl rfl) (wq_op rfl rfl rfl (pv_bool (pv_bin rfl rfl rfl (fun _ => b_gtr Try.underlying3)) (o11 hb15 y1_0 hL1 hb103)) (wq_op rfl rfl rfl (pv_move rfl rfl) (wq_yes rfl rfl rfl rfl rfl rfl (pv_move rfl rfl) (wq_yes rfl rfl rfl rfl rfl rfl (pv_bool (pv_bin rfl rfl rfl (fun _ => b_lss Try.underlying3)) (o12 hb15 y1_0 hL1 hb103)) (wq_op rfl rfl rfl (pv_pick rfl rfl rfl) (wq_op rfl rfl rfl (pv_move rfl rfl) (wq_yes rfl rfl rfl rfl rfl rfl (pv_move rfl rfl) (wq_yes rfl rfl rfl rfl rfl rfl (pv_move rfl rfl) (wq_yes rfl rfl rfl rfl rfl rfl (pv_bin rfl rfl rfl (fun _ => b_mul Try.underlying3)) (wq_yes rfl rfl rfl rfl rfl rfl (pv_move rfl rfl) ?_)))))))))))
        refine wq_yes rfl rfl rfl rfl rfl rfl (pv_move rfl rfl) (wq_yes rfl rfl rfl rfl rfl rfl (pv_bin rfl rfl rfl (fun _ => b_mul Try.underlying3)) (wq_yes rfl rfl rfl rfl rfl rfl (pv_bin rfl rfl rfl (fun _ => b_add Try.underlying3)) (wq_yes rfl rfl rfl rfl rfl rfl (pv_move rfl rfl) (wq_yes rfl rfl rfl rfl rfl rfl (pv_move rfl rfl) (wq_yes rfl rfl rfl rfl rfl rfl (pv_bin rfl rfl rfl (fun _ => b_mul Try.underlying3)) (wq_yes rfl rfl rfl rfl rfl rfl (pv_bool (pv_bin rfl rfl rfl (fun _ => b_gtr Try.underlying3)) (o13 hb15 y1_0 hL1 hb103)) (wq_op rfl rfl rfl (pv_pick rfl rfl rfl) (wq_op rfl rfl rfl (pv_move rfl rfl) (wq_yes rfl rfl rfl rfl rfl rfl (pv_move rfl rfl) (wq_yes rfl rfl rfl rfl rfl rfl (pv_bin rfl rfl rfl (fun _ => b_add Try.underlying3)) (wq_yes rfl rfl rfl rfl rfl rfl (pv_move rfl rfl) ?_)))))))))))
        refine wq_yes rfl rfl rfl rfl rfl rfl (pv_bin rfl rfl rfl (fun _ => b_add Try.underlying3)) (wq_yes rfl rfl rfl rfl rfl rfl (pv_bin rfl rfl rfl (fun _ => b_mul Try.underlying3)) (wq_yes rfl rfl rfl rfl rfl rfl (pv_move rfl rfl) (wq_yes rfl rfl rfl rfl rfl rfl (pv_move rfl rfl) (wq_yes rfl rfl rfl rfl rfl rfl (pv_bin rfl rfl rfl (fun _ => b_mul Try.underlying3)) (wq_yes rfl rfl rfl rfl rfl rfl (pv_bin rfl rfl rfl (fun _ => b_add Try.underlying3)) (wq_yes rfl rfl rfl rfl rfl rfl (pv_move rfl rfl) (wq_yes rfl rfl rfl rfl rfl rfl (pv_move rfl rfl) (wq_yes rfl rfl rfl rfl rfl rfl (pv_bin rfl rfl rfl (fun _ => b_mul Try.underlying3)) (wq_yes rfl rfl rfl rfl rfl rfl (pv_bool (pv_bin rfl rfl rfl (fun _ => b_leq Try.underlying3)) (o14 hb15 y1_0 hL1 hb103)) (wq_op rfl rfl rfl (pv_pick rfl rfl rfl) (wq_op rfl rfl rfl (pv_move rfl rfl) ?_)))))))))))
        refine wq_yes rfl rfl rfl rfl rfl rfl (pv_move rfl rfl) (wq_yes rfl rfl rfl rfl rfl rfl (pv_bin rfl rfl rfl (fun _ => b_gtr Try.underlying3)) (wq_yes rfl rfl rfl rfl rfl rfl (pv_move rfl rfl) ?_))
        refine wq_split (t := 212) rfl (fun hb110 => ?_) (fun hb110 => ?_)
        ·
          refine wq_yes rfl rfl rfl rfl rfl rfl (pv_move rfl rfl) (wq_yes rfl rfl rfl rfl rfl rfl (pv_move rfl rfl) (wq_yes rfl rfl rfl rfl rfl rfl (pv_bin rfl rfl rfl (fun _ => b_sub Try.underlying3)) (wq_yes rfl rfl rfl rfl rfl rfl (pv_indexAddr (k := i2.2) (l := r2_1) (i := wrap64 (y1_0 - 1)) ix26 rfl rfl rfl (o15 hb15 y1_0 hL1 hb103 hb110) (o16 hb15 y1_0 hL1 hb103 hb110) (fun w hw => (h_m2_0 w hw).1)) (wq_yes rfl rfl rfl rfl rfl rfl (pv_loadI (A := i2.1) (l := r2_1) (i := wrap64 (y1_0 - 1)) ldI rfl rfl (o15 hb15 y1_0 hL1 hb103 hb110) (o16 hb15 y1_0 hL1 hb103 hb110) (fun w hw => (h_m2_0 w hw).1)) (wq_yes rfl rfl rfl rfl rfl rfl (pv_move rfl rfl) (wq_yes rfl rfl rfl rfl rfl rfl (pv_bin rfl rfl rfl (fun _ => b_sub Try.underlying3)) (wq_yes rfl rfl rfl rfl rfl rfl (pv_move rfl rfl) (wq_yes rfl rfl rfl rfl rfl rfl (pv_move rfl rfl) (wq_yes rfl rfl rfl rfl rfl rfl (pv_bin rfl rfl rfl (fun _ => b_sub Try.underlying3)) (wq_yes rfl rfl rfl rfl rfl rfl (pv_indexAddr (k := i4.2) (l := r4_1) (i := wrap64 (y1_0 - 1)) ix26 rfl rfl rfl (o17 hb15 y1_0 hL1 hb103 hb110) (o18 hb15 y1_0 hL1 hb103 hb110) (fun w hw => (h_m4_0 w hw).1)) (wq_yes rfl rfl rfl rfl rfl rfl (pv_loadI (A := i4.1) (l := r4_1) (i := wrap64 (y1_0 - 1)) ldI rfl rfl (o17 hb15 y1_0 hL1 hb103 hb110) (o18 hb15 y1_0 hL1 hb103 hb110) (fun w hw => (h_m4_0 w hw).1)) ?_)))))))))))
          refine wq_yes rfl rfl rfl rfl rfl rfl (pv_bool (pv_bin rfl rfl rfl (fun _ => b_neq Try.underlying3)) (o19 hb15 y1_0 hL1 hb103 hb110)) (wq_yes rfl rfl rfl rfl rfl rfl (pv_move rfl rfl) (wq_yes rfl rfl rfl rfl rfl rfl (pv_move rfl rfl) (wq_yes rfl rfl rfl rfl rfl rfl (pv_move rfl rfl) (wq_yes rfl rfl rfl rfl rfl rfl (pv_bin rfl rfl rfl (fun _ => b_sub Try.underlying3)) (wq_yes rfl rfl rfl rfl rfl rfl (pv_indexAddr (k := i4.2) (l := r4_1) (i := wrap64 (y1_0 - 1)) ix26 rfl rfl rfl (o20 hb15 y1_0 hL1 hb103 hb110) (o21 hb15 y1_0 hL1 hb103 hb110) (fun w hw => (h_m4_0 w hw).1)) (wq_yes rfl rfl rfl rfl rfl rfl (pv_loadI (A := i4.1) (l := r4_1) (i := wrap64 (y1_0 - 1)) ldI rfl rfl (o20 hb15 y1_0 hL1 hb103 hb110) (o21 hb15 y1_0 hL1 hb103 hb110) (fun w hw => (h_m4_0 w hw).1)) (wq_yes rfl rfl rfl rfl rfl rfl (pv_bool (pv_bin rfl rfl rfl (fun _ => b_lss Try.underlying3)) (o22 hb15 y1_0 hL1 hb103 hb110)) (wq_yes rfl rfl rfl rfl rfl rfl (pv_pick rfl rfl rfl) (wq_yes rfl rfl rfl rfl rfl rfl (pv_pick rfl rfl rfl) (wq_op rfl rfl rfl (pv_pick rfl rfl rfl) ?_))))))))))
          exact wq_end (s' := ofL [(1, .slice A1 l1.length c1), (5, .int .i64 j1.1), (6, .int .i64 j1.2.1), (7, .int .i64 j1.2.2.1), (8, .int .i64 j1.2.2.2), (9, .slice i2.1 r2_1.length i2.2), (13, .slice i4.1 r4_1.length i4.2), (162, .slice i2.1 r2_1.length i2.2), (163, .int .i64 ((r2_1.length : Int))), (164, .int .i64 y1_0), (235, .bool false)]) hF (sub_cons rfl (sub_cons rfl (sub_cons rfl (sub_cons rfl (sub_cons rfl (sub_cons rfl (sub_cons rfl (sub_cons rfl (sub_cons rfl (sub_cons rfl (sub_cons rfl (sub_nil)))))))))))) hJ109
        ·
          refine wq_no rfl rfl rfl rfl rfl rfl (wq_no rfl rfl rfl rfl rfl rfl (wq_no rfl rfl rfl rfl rfl rfl (wq_no rfl rfl rfl rfl rfl rfl (wq_no rfl rfl rfl rfl rfl rfl (wq_no rfl rfl rfl rfl rfl rfl (wq_no rfl rfl rfl rfl rfl rfl (wq_no rfl rfl rfl rfl rfl rfl (wq_no rfl rfl rfl rfl rfl rfl (wq_no rfl rfl rfl rfl rfl rfl (wq_no rfl rfl rfl rfl rfl rfl (wq_no rfl rfl rfl rfl rfl rfl (wq_no rfl rfl rfl rfl rfl rfl (wq_no rfl rfl rfl rfl rfl rfl (wq_off rfl rfl rfl rfl rfl (wq_off rfl rfl rfl rfl rfl (wq_off rfl rfl rfl rfl rfl (wq_off rfl rfl rfl rfl rfl (wq_off rfl rfl rfl rfl rfl (wq_off rfl rfl rfl rfl rfl (wq_no rfl rfl rfl rfl rfl rfl (wq_yes rfl rfl rfl rfl rfl rfl (pv_pick rfl rfl rfl) ?_)))))))))))))))))))))
          refine wq_op rfl rfl rfl (pv_pick rfl rfl rfl) ?_
          exact wq_end (s' := ofL [(1, .slice A1 l1.length c1), (5, .int .i64 j1.1), (6, .int .i64 j1.2.1), (7, .int .i64 j1.2.2.1), (8, .int .i64 j1.2.2.2), (9, .slice i2.1 r2_1.length i2.2), (13, .slice i4.1 r4_1.length i4.2), (162, .slice i2.1 r2_1.length i2.2), (163, .int .i64 ((r2_1.length : Int))), (164, .int .i64 y1_0), (235, .bool false)]) hF (sub_cons rfl (sub_cons rfl (sub_cons rfl (sub_cons rfl (sub_cons rfl (sub_cons rfl (sub_cons rfl (sub_cons rfl (sub_cons rfl (sub_cons rfl (sub_cons rfl (sub_nil)))))))))))) hJ109
      ·
        exact cw_exit hX96 (GS.sub (s' := ofL [(1, .slice A1 l1.length c1), (5, .int .i64 j1.1), (6, .int .i64 j1.2.1), (7, .int .i64 j1.2.2.1), (8, .int .i64 j1.2.2.2), (9, .slice i2.1 r2_1.length i2.2)]) hJ97 (sub_cons rfl (sub_cons rfl (sub_cons rfl (sub_cons rfl (sub_cons rfl (sub_cons rfl (sub_nil))))))))
    ·
      exact cw_skip (GS.sub (s' := ofL [(1, .slice A1 l1.length c1)]) hJ16 (sub_cons rfl (sub_nil)))
  refine cw_cond rfl (fun hb4 => ?_) (fun hb4 => ?_)
  ·
    refine cw_seq (fun G111 hG111 => ?_)
    refine cw_region ?_
    refine wl_op rfl rfl rfl (pv_assign rfl rfl) ?_
    refine wl_end (s' := ofL [(4, .bool true)]) (hG111 _ _ ?_) (sub_cons rfl (sub_nil))
    exact cw_ret_true (w0 := w0) rfl rfl hB
  ·
    exact cw_skip (GS.sub (s' := ofL [(0, .slice A0 l0.length c0), (1, .slice A1 l1.length c1)]) hJ5 (sub_cons rfl (sub_cons rfl (sub_nil))))
end Go.Proofs.Ytlajkepgmmfbhaa.LwFnLaddersSlip
