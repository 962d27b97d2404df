/- The walk of FnWaysReflect: where its callees answer as told and what is asked of their answers holds, the call answers true. No condition. -/
import Derived.Test.YthjkpjncamahhaaQFnWaysReflectx0
import Derived.Test.YthjkpjncamahhaaQFnWaysReflectx1
import Derived.Test.YthjkpjncamahhaaQFnWaysReflectx2
import Derived.Test.YthjkpjncamahhaaQFnWaysReflectx3
import Derived.Test.YthjkpjncamahhaaQFnWaysReflectx4
import Derived.Test.YthjkpjncamahhaaEng
import Derived.Test.YthjkpjncamahhaaDwFnWaysReflect
namespace Go.Proofs.Ythjkpjncamahhaa.LwFnWaysReflect
open Go Go.RowKit Go.Proofs.Ythjkpjncamahhaa.DwFnWaysReflect Go.Proofs.Ythjkpjncamahhaa.E Go.Proofs.Ythjkpjncamahhaa.PFnWaysReflect Go.Proofs.YthjkpjncamahhaaW.PrintWords Go.Proofs.YthjkpjncamahhaaW.PrintLast
set_option linter.unusedVariables false
set_option linter.unusedSimpArgs false
theorem box23 (a0 a1 : Int) (w : World) : (Instr.box 23 (.agg #[.int .i64 a0, .int .i64 a1])).run Try.prog w = .ok (.pointer (some ⟨w.heap.size, 0, none⟩)) (w.alloc (.cells #[.int .i64 a0, .int .i64 a1] 23)) := by
  have h := Try.underlying23
  go_simp
theorem qld23 (a0 a1 : Int) (g : Nat) (w : World) (hb : w.heap[g]? = some (.cells #[.int .i64 a0, .int .i64 a1] 23)) : (Instr.loadAt 23 (.pointer (some ⟨g, 0, none⟩))).run Try.prog w = .ok (.agg #[.int .i64 a0, .int .i64 a1]) w := by
  have h := Try.underlying23
  have h0 : w.cell? ⟨g, 0, none⟩ = some (.int .i64 a0) := (blk_cell hb 0).trans rfl
  have h1 : w.cell? ⟨g, 1, none⟩ = some (.int .i64 a1) := (blk_cell hb 1).trans rfl
  go_simp
theorem fa23_0 (g : Nat) (w : World) : (Instr.fieldAt 23 (.pointer (some ⟨g, 0, none⟩)) 0).run Try.prog w = .ok (.pointer (some ⟨g, 0, none⟩)) w := by
  have h := Try.underlying23
  go_simp
theorem fa23_1 (g : Nat) (w : World) : (Instr.fieldAt 23 (.pointer (some ⟨g, 0, none⟩)) 1).run Try.prog w = .ok (.pointer (some ⟨g, 1, none⟩)) w := by
  have h := Try.underlying23
  go_simp
theorem ldF {g f t : Nat} {cs : Array Value} {a : Int} {w : World} (hb : w.heap[g]? = some (.cells cs t)) (hf : cs[f]? = some (.int .i64 a)) : (Instr.loadAt 3 (.pointer (some ⟨g, f, none⟩))).run Try.prog w = .ok (.int .i64 a) w := by
  have h := Try.underlying3
  have h1 : w.cell? ⟨g, f, none⟩ = some (.int .i64 a) := (blk_cell hb f).trans hf
  go_simp
theorem qal23 (w : World) : (Instr.alloc 23 true (.tuple #[])).run Try.prog w = .ok (.pointer (some ⟨w.heap.size, 0, none⟩)) (w.alloc (.cells #[.int .i64 0, .int .i64 0] 23)) := by
  have h := Try.underlying23
  go_simp
theorem st23 (a0 a1 : Int) (w : World) : ∃ w', (Instr.storeAt 23 (.pointer (some ⟨w.heap.size, 0, none⟩)) (.agg #[.int .i64 a0, .int .i64 a1])).run Try.prog (w.alloc (.cells #[.int .i64 0, .int .i64 0] 23)) = .ok () w' ∧ Below w.heap.size w w' ∧ w'.heap[w.heap.size]? = some (.cells #[.int .i64 a0, .int .i64 a1] 23) := by
  have h := Try.underlying23
  have hb := blk_new w (.cells #[.int .i64 0, .int .i64 0] 23)
  have h0 : (w.alloc (.cells #[.int .i64 0, .int .i64 0] 23)).cell? ⟨w.heap.size, 0, none⟩ = some (.int .i64 0) := (blk_cell hb 0).trans rfl
  have h1 : (w.alloc (.cells #[.int .i64 0, .int .i64 0] 23)).cell? ⟨w.heap.size, 1, none⟩ = some (.int .i64 0) := (blk_cell hb 1).trans rfl
  go_simp
  exact ⟨below_alloc (Below.refl _ _) _, (Array.getElem?_eq_some_iff.1 (blk_new w _)).2⟩
theorem ix37 (w : World) (ad : Addr) (m k : Nat) (i : Int) (h0 : 0 ≤ i) (h1 : i < m) : (Instr.indexAt 37 (.slice (some ad) m k) (.int .i64 i)).run Try.prog w = .ok (.pointer (some (ad.add i.toNat))) w := by
  have h := Try.underlying37
  have p1 : (0 ≤ i) = True := eq_true h0
  have p2 : (i < (m : Int)) = True := eq_true h1
  go_simp
theorem ldI (w : World) (ad : Addr) (v : Int) (hc : w.cell? ad = some (.int .i64 v)) : (Instr.loadAt 3 (.pointer (some ad))).run Try.prog w = .ok (.int .i64 v) w := by
  have h := Try.underlying3
  go_simp
theorem sx23 (a0 a1 b0 b1 : Int) (g : Nat) (w : World) (hb : w.heap[g]? = some (.cells #[.int .i64 b0, .int .i64 b1] 23)) : ∃ w', (Instr.storeAt 23 (.pointer (some ⟨g, 0, none⟩)) (.agg #[.int .i64 a0, .int .i64 a1])).run Try.prog w = .ok () w' ∧
    (∀ w0 : World, Below w0.heap.size w0 w → w0.heap.size ≤ g → Below w0.heap.size w0 w') ∧ (∀ k, k ≠ g → w'.heap[k]? = w.heap[k]?) ∧ w'.heap[g]? = some (.cells #[.int .i64 a0, .int .i64 a1] 23) := by
  have h := Try.underlying23
  have h0 : w.cell? ⟨g, 0, none⟩ = some (.int .i64 b0) := (blk_cell hb 0).trans rfl
  have f0 := blk_frozen hb 0
  have h1 : w.cell? ⟨g, 1, none⟩ = some (.int .i64 b1) := (blk_cell hb 1).trans rfl
  have f1 := blk_frozen hb 1
  go_simp
  refine ⟨fun w0 hB hg => below_set (below_set hB hg) hg, fun k hk => ?_, blk_put (blk_put hb 0 _ rfl) 1 _ rfl⟩
  rw [Below.heap_setCell _ ⟨g, 1, none⟩ _ k hk, Below.heap_setCell _ ⟨g, 0, none⟩ _ k hk]
def Ans0 (l0 : List Int) (l1 : List Int) (r1 : Bool) : Prop :=
  (laws_big.f l0 l1 = some r1)
def Obl0 (l0 : List Int) (l1 : List Int) (r1 : Bool) : Prop :=
  True
def Pure0 : Prop := ∀ (l0 : List Int) (l1 : List Int), ∃ (r1 : Bool), Ans0 l0 l1 r1 ∧ Obl0 l0 l1 r1
def Ans1 (x1_0 : Int) (x1_1 : Int) (x1_2 : Int) (x1_3 : Int) (r2_1 : Int) (r2_2 : Int) (r2_3 : Bool) (r3_1 : Int) (r3_2 : Int) (r3_3 : Bool) (r4_1 : Int) (r4_2 : Bool) (r5_1 : Int) (r5_2 : Bool) (r6_1 : Int) (r6_2 : Bool) (r7_1 : Int) (r7_2 : Bool) (r8_1 : Bool) (r8_2 : Bool) (r9_1 : Bool) (r9_2 : Bool) (r10 : Bool) (r11 : Bool) (r12 : Bool) (r30_1 : Int) (r30_2 : Int) (r30_3 : Bool) (r31_1 : Int) (r31_2 : Bool) (r32_1 : Int) (r32_2 : Int) (r32_3 : Bool) (r33_1 : Int) (r33_2 : Int) (r33_3 : Bool) (r34_1 : Int) (r34_2 : Int) (r34_3 : Bool) (r35 : Bool) (r36_1 : Int) (r36_2 : Int) (r36_3 : Bool) : Prop :=
  (∃ k, impl_TouchOf.f k x1_0 x1_1 x1_2 x1_3 = some (r2_1, r2_2, r2_3)) ∧
  (∃ k, spec_TouchOf.f k x1_0 x1_1 x1_2 x1_3 = some (r3_1, r3_2, r3_3)) ∧
  (impl_SquareByMirror.f x1_0 x1_1 x1_2 x1_3 = some (r4_1, r4_2)) ∧
  (spec_SquareByMirror.f x1_0 x1_1 x1_2 x1_3 = some (r5_1, r5_2)) ∧
  (impl_SquareStraight.f x1_0 x1_1 x1_2 x1_3 = some (r6_1, r6_2)) ∧
  (spec_SquareStraight.f x1_0 x1_1 x1_2 x1_3 = some (r7_1, r7_2)) ∧
  (∃ k, impl_IsWholeTouch.f k x1_0 x1_1 x1_2 x1_3 = some (r8_1, r8_2)) ∧
  (∃ k, spec_IsWholeTouch.f k x1_0 x1_1 x1_2 x1_3 = some (r9_1, r9_2)) ∧
  (impl_IsSpot.f x1_0 x1_1 = some r10) ∧
  (r10 = true → impl_IsSpot.f x1_2 x1_3 = some r11) ∧
  (spec_IsSpot.f x1_0 x1_1 = some r12) ∧
  (r2_3 = true → ∃ k, impl_TouchOf.f k x1_2 x1_3 x1_0 x1_1 = some (r30_1, r30_2, r30_3)) ∧
  (r2_3 = true → impl_SquareByMirror.f x1_2 x1_3 x1_0 x1_1 = some (r31_1, r31_2)) ∧
  (r2_3 = true → impl_TurnSpot.f x1_0 x1_1 = some (r32_1, r32_2, r32_3)) ∧
  (r2_3 = true → impl_TurnSpot.f x1_2 x1_3 = some (r33_1, r33_2, r33_3)) ∧
  (r2_3 = true → ∃ k, impl_TouchOf.f k r32_1 r32_2 r33_1 r33_2 = some (r34_1, r34_2, r34_3)) ∧
  (r2_3 = true → ∃ k, laws_jLow.f k r2_1 r2_2 = some r35) ∧
  (r2_3 = true → (bif (r2_2 == 1) then (x1_0 != x1_2) else false) = true → ∃ k, impl_HeightForTouch.f k x1_0 x1_1 x1_2 r2_1 = some (r36_1, r36_2, r36_3))
def Obl1 (x1_0 : Int) (x1_1 : Int) (x1_2 : Int) (x1_3 : Int) (r2_1 : Int) (r2_2 : Int) (r2_3 : Bool) (r3_1 : Int) (r3_2 : Int) (r3_3 : Bool) (r4_1 : Int) (r4_2 : Bool) (r5_1 : Int) (r5_2 : Bool) (r6_1 : Int) (r6_2 : Bool) (r7_1 : Int) (r7_2 : Bool) (r8_1 : Bool) (r8_2 : Bool) (r9_1 : Bool) (r9_2 : Bool) (r10 : Bool) (r11 : Bool) (r12 : Bool) (r30_1 : Int) (r30_2 : Int) (r30_3 : Bool) (r31_1 : Int) (r31_2 : Bool) (r32_1 : Int) (r32_2 : Int) (r32_3 : Bool) (r33_1 : Int) (r33_2 : Int) (r33_3 : Bool) (r34_1 : Int) (r34_2 : Int) (r34_3 : Bool) (r35 : Bool) (r36_1 : Int) (r36_2 : Int) (r36_3 : Bool) : Prop :=
  /- 817 -/ ((r2_3 != r3_3) = false) ∧
  /- 817 -/ ((r2_1 != r3_1) = false) ∧
  /- 817 -/ ((r2_2 != r3_2) = false) ∧
  /- 817 -/ ((r4_2 != r5_2) = false) ∧
  /- 817 -/ ((r4_1 != r5_1) = false) ∧
  /- 817 -/ ((r6_2 != r7_2) = false) ∧
  /- 817 -/ ((r6_1 != r7_1) = false) ∧
  /- 817 -/ ((r8_2 != r9_2) = false) ∧
  /- 817 -/ ((r8_1 != r9_1) = false) ∧
  /- 817 -/ (r10 = true → (r2_3 != r11) = false) ∧
  /- 817 -/ (r10 = true → (r10 != r12) = false) ∧
  /- 817 -/ (r10 = true → (r4_2 != r2_3) = false) ∧
  /- 817 -/ (r10 = true → (r6_2 != r2_3) = false) ∧
  /- 817 -/ (r10 = true → (r8_2 != r2_3) = false) ∧
  /- 817 -/ (r10 = false → (r2_3 != false) = false) ∧
  /- 817 -/ (r10 = false → (r10 != r12) = false) ∧
  /- 817 -/ (r10 = false → (r4_2 != r2_3) = false) ∧
  /- 817 -/ (r10 = false → (r6_2 != r2_3) = false) ∧
  /- 817 -/ (r10 = false → (r8_2 != r2_3) = false) ∧
  /- 826 -/ (r2_3 = true → r35 = true) ∧
  /- 826 -/ (r2_3 = true → (r8_1 != (r2_2 == 1)) = false) ∧
  /- 826 -/ (r2_3 = true → (r4_1 != (wrap64 (r6_1 + (wrap64 ((wrap64 (4 * x1_1)) * x1_3))))) = false) ∧
  /- 826 -/ (r2_3 = true → ((wrap64 ((wrap64 (r2_1 - (wrap64 (x1_0 * r2_2)))) * x1_3)) != (wrap64 ((wrap64 ((wrap64 (x1_2 * r2_2)) - r2_1)) * x1_1))) = false) ∧
  /- 826 -/ (r2_3 = true → r30_3 = true) ∧
  /- 826 -/ (r2_3 = true → (r30_1 != r2_1) = false) ∧
  /- 826 -/ (r2_3 = true → (r30_2 != r2_2) = false) ∧
  /- 826 -/ (r2_3 = true → r31_2 = true) ∧
  /- 826 -/ (r2_3 = true → (r31_1 != r4_1) = false) ∧
  /- 826 -/ (r2_3 = true → r32_3 = true) ∧
  /- 826 -/ (r2_3 = true → r33_3 = true) ∧
  /- 826 -/ (r2_3 = true → r34_3 = true) ∧
  /- 826 -/ (r2_3 = true → (r34_1 != (wrap64 (-r2_1))) = false) ∧
  /- 826 -/ (r2_3 = true → (r34_2 != r2_2) = false) ∧
  /- 831 -/ (r2_3 = true → (bif (r2_2 == 1) then (x1_0 != x1_2) else false) = true → r36_3 = true) ∧
  /- 831 -/ (r2_3 = true → (bif (r2_2 == 1) then (x1_0 != x1_2) else false) = true → (r36_1 != x1_3) = false) ∧
  /- 831 -/ (r2_3 = true → (bif (r2_2 == 1) then (x1_0 != x1_2) else false) = true → (r36_2 != 1) = false)
def Pure1 : Prop := ∀ (x1_0 : Int) (x1_1 : Int) (x1_2 : Int) (x1_3 : Int), ∃ (r2_1 : Int) (r2_2 : Int) (r2_3 : Bool) (r3_1 : Int) (r3_2 : Int) (r3_3 : Bool) (r4_1 : Int) (r4_2 : Bool) (r5_1 : Int) (r5_2 : Bool) (r6_1 : Int) (r6_2 : Bool) (r7_1 : Int) (r7_2 : Bool) (r8_1 : Bool) (r8_2 : Bool) (r9_1 : Bool) (r9_2 : Bool) (r10 : Bool) (r11 : Bool) (r12 : Bool) (r30_1 : Int) (r30_2 : Int) (r30_3 : Bool) (r31_1 : Int) (r31_2 : Bool) (r32_1 : Int) (r32_2 : Int) (r32_3 : Bool) (r33_1 : Int) (r33_2 : Int) (r33_3 : Bool) (r34_1 : Int) (r34_2 : Int) (r34_3 : Bool) (r35 : Bool) (r36_1 : Int) (r36_2 : Int) (r36_3 : Bool), Ans1 x1_0 x1_1 x1_2 x1_3 r2_1 r2_2 r2_3 r3_1 r3_2 r3_3 r4_1 r4_2 r5_1 r5_2 r6_1 r6_2 r7_1 r7_2 r8_1 r8_2 r9_1 r9_2 r10 r11 r12 r30_1 r30_2 r30_3 r31_1 r31_2 r32_1 r32_2 r32_3 r33_1 r33_2 r33_3 r34_1 r34_2 r34_3 r35 r36_1 r36_2 r36_3 ∧ Obl1 x1_0 x1_1 x1_2 x1_3 r2_1 r2_2 r2_3 r3_1 r3_2 r3_3 r4_1 r4_2 r5_1 r5_2 r6_1 r6_2 r7_1 r7_2 r8_1 r8_2 r9_1 r9_2 r10 r11 r12 r30_1 r30_2 r30_3 r31_1 r31_2 r32_1 r32_2 r32_3 r33_1 r33_2 r33_3 r34_1 r34_2 r34_3 r35 r36_1 r36_2 r36_3
def Ans2 (x2_0 : Int) (x2_1 : Int) (x2_2 : Int) (x2_3 : Int) (r13_1 : ByteArray) (r13_2 : Bool) (r14_1 : ByteArray) (r14_2 : Bool) (r15_1 : Int) (r15_2 : Bool) (r16_1 : Int) (r16_2 : Bool) (r17_1 : List Int) (r17_2 : List Int) (r17_3 : Bool) (r18_1 : List Int) (r18_2 : List Int) (r18_3 : Bool) (r21 : Bool) (r22 : Bool) (r26_1 : Int) (r26_2 : Bool) (r27_1 : ByteArray) (r27_2 : Bool) (r28 : Bool) (r29 : Bool) : Prop :=
  (impl_OrderByCorner.f x2_0 x2_1 x2_2 x2_3 = some (r13_1, r13_2)) ∧
  (spec_OrderByCorner.f x2_0 x2_1 x2_2 x2_3 = some (r14_1, r14_2)) ∧
  (impl_SquareByCorner.f x2_0 x2_1 x2_2 x2_3 = some (r15_1, r15_2)) ∧
  (spec_SquareByCorner.f x2_0 x2_1 x2_2 x2_3 = some (r16_1, r16_2)) ∧
  (∃ k, impl_TouchesByCorner.f k x2_0 x2_1 x2_2 x2_3 = some (r17_1, r17_2, r17_3)) ∧
  (∃ k, spec_TouchesByCorner.f k x2_0 x2_1 x2_2 x2_3 = some (r18_1, r18_2, r18_3)) ∧
  (∃ k, laws_jSame.f k r17_1 r18_1 = some r21) ∧
  (∃ k, laws_jSame.f k r17_2 r18_2 = some r22) ∧
  (r13_2 = true → impl_SquareByMirror.f x2_0 x2_1 x2_2 x2_3 = some (r26_1, r26_2)) ∧
  (r13_2 = true → impl_OrderByCorner.f x2_2 x2_3 x2_0 x2_1 = some (r27_1, r27_2)) ∧
  (r13_2 = true → ∃ k, laws_jLow.f k (rd r17_1 0) (rd r17_1 1) = some r28) ∧
  (r13_2 = true → ∃ k, laws_jLow.f k (rd r17_2 0) (rd r17_2 1) = some r29)
def Obl2 (x2_0 : Int) (x2_1 : Int) (x2_2 : Int) (x2_3 : Int) (r13_1 : ByteArray) (r13_2 : Bool) (r14_1 : ByteArray) (r14_2 : Bool) (r15_1 : Int) (r15_2 : Bool) (r16_1 : Int) (r16_2 : Bool) (r17_1 : List Int) (r17_2 : List Int) (r17_3 : Bool) (r18_1 : List Int) (r18_2 : List Int) (r18_3 : Bool) (r21 : Bool) (r22 : Bool) (r26_1 : Int) (r26_2 : Bool) (r27_1 : ByteArray) (r27_2 : Bool) (r28 : Bool) (r29 : Bool) : Prop :=
  /- 846 -/ ((r13_2 != r14_2) = false) ∧
  /- 846 -/ ((r13_1.toList != r14_1.toList) = false) ∧
  /- 846 -/ ((r15_2 != r16_2) = false) ∧
  /- 846 -/ ((r15_1 != r16_1) = false) ∧
  /- 846 -/ ((r17_3 != r18_3) = false) ∧
  /- 846 -/ (r21 = true) ∧
  /- 846 -/ (r22 = true) ∧
  /- 846 -/ ((r15_2 != r13_2) = false) ∧
  /- 846 -/ ((r17_3 != r13_2) = false) ∧
  /- 852 -/ (r13_2 = true → r26_2 = true) ∧
  /- 852 -/ (r13_2 = true → (r15_1 != (wrap64 (r26_1 + (wrap64 ((wrap64 (4 * x2_0)) * x2_2))))) = false) ∧
  /- 852 -/ (r13_2 = true → r27_2 = true) ∧
  /- 852 -/ (r13_2 = true → (((r17_1.length : Int)) != 2) = false) ∧
  /- 852 -/ (r13_2 = true → (((r17_2.length : Int)) != 2) = false) ∧
  /- 852 -/ (r13_2 = true → (decide (0 < (r17_1.length : Int))) = true) ∧
  /- 852 -/ (r13_2 = true → (decide (1 < (r17_1.length : Int))) = true) ∧
  /- 852 -/ (r13_2 = true → r28 = true) ∧
  /- 852 -/ (r13_2 = true → (decide (0 < (r17_2.length : Int))) = true) ∧
  /- 852 -/ (r13_2 = true → (decide (1 < (r17_2.length : Int))) = true) ∧
  /- 852 -/ (r13_2 = true → r29 = true) ∧
  /- 852 -/ (r13_2 = true → (decide (0 < (r17_1.length : Int))) = true) ∧
  /- 852 -/ (r13_2 = true → (decide ((rd r17_1 0) < 0)) = false) ∧
  /- 852 -/ (r13_2 = true → (decide (0 < (r17_2.length : Int))) = true) ∧
  /- 852 -/ (r13_2 = true → (decide ((rd r17_2 0) < 0)) = false) ∧
  /- 852 -/ (r13_2 = true → (decide (0 < (r17_1.length : Int))) = true) ∧
  /- 852 -/ (r13_2 = true → ((r13_1.toList == ((⟨#[99]⟩ : ByteArray)).toList) != ((rd r17_1 0) == 0)) = false) ∧
  /- 852 -/ (r13_2 = true → (decide (0 < (r17_2.length : Int))) = true) ∧
  /- 852 -/ (r13_2 = true → ((r13_1.toList == ((⟨#[99]⟩ : ByteArray)).toList) != ((rd r17_2 0) == 0)) = false) ∧
  /- 852 -/ (r13_2 = true → ((r13_1.toList == ((⟨#[99]⟩ : ByteArray)).toList) != ((wrap64 (x2_0 * x2_3)) == (wrap64 (x2_2 * x2_1)))) = false) ∧
  /- 856 -/ (r13_2 = true → (r13_1.toList == ((⟨#[103, 119]⟩ : ByteArray)).toList) = true → (r27_1.toList != ((⟨#[119, 103]⟩ : ByteArray)).toList) = false) ∧
  /- 856 -/ (r13_2 = true → (r13_1.toList == ((⟨#[103, 119]⟩ : ByteArray)).toList) = true → (r13_1.toList == ((⟨#[119, 103]⟩ : ByteArray)).toList) = true → (r27_1.toList != ((⟨#[103, 119]⟩ : ByteArray)).toList) = false) ∧
  /- 856 -/ (r13_2 = true → (r13_1.toList == ((⟨#[103, 119]⟩ : ByteArray)).toList) = true → (r13_1.toList == ((⟨#[119, 103]⟩ : ByteArray)).toList) = true → (r13_1.toList == ((⟨#[99]⟩ : ByteArray)).toList) = true → (r27_1.toList != ((⟨#[99]⟩ : ByteArray)).toList) = false) ∧
  /- 856 -/ (r13_2 = true → (r13_1.toList == ((⟨#[103, 119]⟩ : ByteArray)).toList) = true → (r13_1.toList == ((⟨#[119, 103]⟩ : ByteArray)).toList) = false → (r13_1.toList == ((⟨#[99]⟩ : ByteArray)).toList) = true → (r27_1.toList != ((⟨#[99]⟩ : ByteArray)).toList) = false) ∧
  /- 856 -/ (r13_2 = true → (r13_1.toList == ((⟨#[103, 119]⟩ : ByteArray)).toList) = false → (r13_1.toList == ((⟨#[119, 103]⟩ : ByteArray)).toList) = true → (r27_1.toList != ((⟨#[103, 119]⟩ : ByteArray)).toList) = false) ∧
  /- 856 -/ (r13_2 = true → (r13_1.toList == ((⟨#[103, 119]⟩ : ByteArray)).toList) = false → (r13_1.toList == ((⟨#[119, 103]⟩ : ByteArray)).toList) = true → (r13_1.toList == ((⟨#[99]⟩ : ByteArray)).toList) = true → (r27_1.toList != ((⟨#[99]⟩ : ByteArray)).toList) = false) ∧
  /- 856 -/ (r13_2 = true → (r13_1.toList == ((⟨#[103, 119]⟩ : ByteArray)).toList) = false → (r13_1.toList == ((⟨#[119, 103]⟩ : ByteArray)).toList) = false → (r13_1.toList == ((⟨#[99]⟩ : ByteArray)).toList) = true → (r27_1.toList != ((⟨#[99]⟩ : ByteArray)).toList) = false)
def Pure2 : Prop := ∀ (x2_0 : Int) (x2_1 : Int) (x2_2 : Int) (x2_3 : Int), ∃ (r13_1 : ByteArray) (r13_2 : Bool) (r14_1 : ByteArray) (r14_2 : Bool) (r15_1 : Int) (r15_2 : Bool) (r16_1 : Int) (r16_2 : Bool) (r17_1 : List Int) (r17_2 : List Int) (r17_3 : Bool) (r18_1 : List Int) (r18_2 : List Int) (r18_3 : Bool) (r21 : Bool) (r22 : Bool) (r26_1 : Int) (r26_2 : Bool) (r27_1 : ByteArray) (r27_2 : Bool) (r28 : Bool) (r29 : Bool), Ans2 x2_0 x2_1 x2_2 x2_3 r13_1 r13_2 r14_1 r14_2 r15_1 r15_2 r16_1 r16_2 r17_1 r17_2 r17_3 r18_1 r18_2 r18_3 r21 r22 r26_1 r26_2 r27_1 r27_2 r28 r29 ∧ Obl2 x2_0 x2_1 x2_2 x2_3 r13_1 r13_2 r14_1 r14_2 r15_1 r15_2 r16_1 r16_2 r17_1 r17_2 r17_3 r18_1 r18_2 r18_3 r21 r22 r26_1 r26_2 r27_1 r27_2 r28 r29
def Ans3 (x3_0 : Int) (x3_1 : Int) (x3_2 : Int) (x3_3 : Int) (r19_1 : Int) (r19_2 : Int) (r19_3 : Bool) (r20_1 : Int) (r20_2 : Int) (r20_3 : Bool) (r23 : Bool) (r24 : Int) (r25 : Int) : Prop :=
  (∃ k, impl_HeightForTouch.f k x3_0 x3_1 x3_2 x3_3 = some (r19_1, r19_2, r19_3)) ∧
  (∃ k, spec_HeightForTouch.f k x3_0 x3_1 x3_2 x3_3 = some (r20_1, r20_2, r20_3)) ∧
  (r19_3 = true → ∃ k, laws_jLow.f k r19_1 r19_2 = some r23) ∧
  (r19_3 = true → laws_jSize.f (wrap64 (x3_3 - x3_0)) = some r24) ∧
  (r19_3 = true → laws_jSize.f (wrap64 (x3_2 - x3_3)) = some r25)
def Obl3 (x3_0 : Int) (x3_1 : Int) (x3_2 : Int) (x3_3 : Int) (r19_1 : Int) (r19_2 : Int) (r19_3 : Bool) (r20_1 : Int) (r20_2 : Int) (r20_3 : Bool) (r23 : Bool) (r24 : Int) (r25 : Int) : Prop :=
  /- 846 -/ ((r19_3 != r20_3) = false) ∧
  /- 846 -/ ((r19_1 != r20_1) = false) ∧
  /- 846 -/ ((r19_2 != r20_2) = false) ∧
  /- 860 -/ (r19_3 = true → r23 = true) ∧
  /- 860 -/ (r19_3 = true → (decide (r19_1 < 1)) = false) ∧
  /- 860 -/ (r19_3 = true → ((wrap64 (r19_1 * r24)) != (wrap64 ((wrap64 (x3_1 * r25)) * r19_2))) = false)
def Pure3 : Prop := ∀ (x3_0 : Int) (x3_1 : Int) (x3_2 : Int) (x3_3 : Int), ∃ (r19_1 : Int) (r19_2 : Int) (r19_3 : Bool) (r20_1 : Int) (r20_2 : Int) (r20_3 : Bool) (r23 : Bool) (r24 : Int) (r25 : Int), Ans3 x3_0 x3_1 x3_2 x3_3 r19_1 r19_2 r19_3 r20_1 r20_2 r20_3 r23 r24 r25 ∧ Obl3 x3_0 x3_1 x3_2 x3_3 r19_1 r19_2 r19_3 r20_1 r20_2 r20_3 r23 r24 r25
set_option maxRecDepth 100000 in
set_option maxHeartbeats 4000000 in
theorem walk (A0 : Option Addr) (c0 : Nat) (l0 : List Int) (A1 : Option Addr) (c1 : Nat) (l1 : List Int) (hP0 : Pure0) (hP1 : Pure1) (hP2 : Pure2) (hP3 : Pure3) (w0 : World) (hr0 : Kd.C (Kd.int .u8) w0 A0 l0.length l0) (hc0 : l0.length ≤ c0) (hY_e0 : By l0) (hr1 : Kd.C (Kd.int .u8) w0 A1 l1.length l1) (hc1 : l1.length ≤ c1) (hY_e1 : By l1) :
    Calls Try.prog 4 #[.slice A0 l0.length c0, .slice A1 l1.length c1] w0 fun e w' => e = .returned (.bool true) ∧ Below w0.heap.size w0 w' := by
  refine calls_start Try.func4 rfl Try.ntmps4 rfl (ofL [(0, .slice A0 l0.length c0), (1, .slice A1 l1.length c1)]) ?_ ?_
  · exact of_args _ _ rfl
  refine cw_gen (D := fun w => Below w0.heap.size w0 w) (stab_below w0) (fun w hw => hw) (fun C hS hB => ?_)
  have h_e0 := fun w (hw : C w) => (⟨Kd.C_below hr0 (hB w hw), hc0⟩ : Kd.C (Kd.int .u8) w A0 l0.length l0 ∧ l0.length ≤ c0)
  have h_e1 := fun w (hw : C w) => (⟨Kd.C_below hr1 (hB w hw), hc1⟩ : Kd.C (Kd.int .u8) w A1 l1.length l1 ∧ l1.length ≤ c1)
  obtain ⟨r1, c_1, _⟩ := hP0 l0 l1
  have C1 : ∀ (A0 : Option Addr) (c0 : Nat) (A1 : Option Addr) (c1 : Nat) w, Kd.C (Kd.int .u8) w A0 l0.length l0 → l0.length ≤ c0 → Kd.C (Kd.int .u8) w A1 l1.length l1 → l1.length ≤ c1 → Calls Try.prog 27 #[.slice A0 l0.length c0, .slice A1 l1.length c1] w fun e w' => e = .returned (.bool r1) ∧ Below w.heap.size w w' := by
    have c := c_1; exact fun A0 c0 A1 c1 w p0 q0 p1 q1 => (laws_big.calls _ _ l0 _ _ l1 _ w p0 q0 p1 q1 c).mono fun e w' ⟨he, hb⟩ => ⟨he, hb.below⟩
  refine cw_seq (fun G0 hG0 => ?_)
  refine cw_region ?_
  refine wl_op rfl rfl rfl (pv_assign rfl rfl) ?_
  refine wl_end (s' := ofL [(0, .slice A0 l0.length c0), (1, .slice A1 l1.length c1), (4, .bool false)]) (hG0 _ _ ?_) (sub_cons rfl (sub_cons rfl (sub_cons rfl (sub_nil))))
  refine cw_seq (fun G4 hG4 => ?_)
  refine cw_seq (fun G5 hG5 => ?_)
  refine cw_region ?_
  refine wl_op rfl rfl rfl (pv_move rfl rfl) (wl_op rfl rfl rfl (pv_move rfl rfl) (wl_op rfl rfl rfl (pv_call_c hS rfl rfl Try.func27 (by kernel_rfl) rfl (fun w hw => C1 A0 c0 A1 c1 w (h_e0 w hw).1 (h_e0 w hw).2 (h_e1 w hw).1 (h_e1 w hw).2)) ?_))
  refine wl_end (s' := ofL [(0, .slice A0 l0.length c0), (1, .slice A1 l1.length c1), (4, .bool false), (71, .bool r1)]) (hG5 _ _ ?_) (sub_cons rfl (sub_cons rfl (sub_cons rfl (sub_cons rfl (sub_nil)))))
  have hJ9 : GS C 636 G4 (ofL [(0, .slice A0 l0.length c0), (1, .slice A1 l1.length c1), (4, .bool false)]) := by as_aux_lemma =>
    refine hG4 _ _ ?_
    refine cw_seq (fun G11 hG11 => ?_)
    refine cw_region ?_
    refine wl_op rfl rfl rfl (pv_move rfl rfl) ?_
    refine wl_callE (ι := (Int × Int) × (Int × Int)) (fun j1 => .tuple #[.agg #[.int .i64 j1.1.1, .int .i64 j1.1.2], .agg #[.int .i64 j1.2.1, .int .i64 j1.2.2]]) hS rfl rfl rfl rfl rfl Try.func28 (by kernel_rfl) rfl (fun w hw => drawTouch (hY_e0) _ _ w (h_e0 w hw).1) (fun j1 => ?_)
    obtain ⟨r2_1, r2_2, r2_3, r3_1, r3_2, r3_3, r4_1, r4_2, r5_1, r5_2, r6_1, r6_2, r7_1, r7_2, r8_1, r8_2, r9_1, r9_2, r10, r11, r12, r30_1, r30_2, r30_3, r31_1, r31_2, r32_1, r32_2, r32_3, r33_1, r33_2, r33_3, r34_1, r34_2, r34_3, r35, r36_1, r36_2, r36_3, ⟨c_2, c_3, c_4, c_5, c_6, c_7, c_8, c_9, c_10, c_11, c_12, c_30, c_31, c_32, c_33, c_34, c_35, c_36⟩, ⟨o1, o2, o3, o4, o5, o6, o7, o8, o9, o10, o11, o12, o13, o14, o15, o16, o17, o18, o19, o20, o21, o22, o23, o24, o25, o26, o27, o28, o29, o30, o31, o32, o33, o34, o35, o36⟩⟩ := hP1 j1.1.1 j1.1.2 j1.2.1 j1.2.2
    have C2 : ∀ w, Calls Try.prog 5 #[.agg #[.int .i64 j1.1.1, .int .i64 j1.1.2], .agg #[.int .i64 j1.2.1, .int .i64 j1.2.2]] w fun e w' => e = .returned (.tuple #[.int .i64 r2_1, .int .i64 r2_2, .bool r2_3]) ∧ Below w.heap.size w w' := by
      have c := c_2; obtain ⟨k, c⟩ := c; exact fun w => (impl_TouchOf.calls k j1.1.1 j1.1.2 j1.2.1 j1.2.2 _ _ _ w c).mono fun e w' ⟨he, hb⟩ => ⟨he, hb⟩
    have C3 : ∀ w, Calls Try.prog 6 #[.agg #[.int .i64 j1.1.1, .int .i64 j1.1.2], .agg #[.int .i64 j1.2.1, .int .i64 j1.2.2]] w fun e w' => e = .returned (.tuple #[.int .i64 r3_1, .int .i64 r3_2, .bool r3_3]) ∧ Below w.heap.size w w' := by
      have c := c_3; obtain ⟨k, c⟩ := c; exact fun w => (spec_TouchOf.calls k j1.1.1 j1.1.2 j1.2.1 j1.2.2 _ _ _ w c).mono fun e w' ⟨he, hb⟩ => ⟨he, hb⟩
    have C4 : ∀ w, Calls Try.prog 7 #[.agg #[.int .i64 j1.1.1, .int .i64 j1.1.2], .agg #[.int .i64 j1.2.1, .int .i64 j1.2.2]] w fun e w' => e = .returned (.tuple #[.int .i64 r4_1, .bool r4_2]) ∧ Below w.heap.size w w' := by
      have c := c_4; exact fun w => (impl_SquareByMirror.calls j1.1.1 j1.1.2 j1.2.1 j1.2.2 _ _ w c).mono fun e w' ⟨he, hb⟩ => ⟨he, hb⟩
    have C5 : ∀ w, Calls Try.prog 8 #[.agg #[.int .i64 j1.1.1, .int .i64 j1.1.2], .agg #[.int .i64 j1.2.1, .int .i64 j1.2.2]] w fun e w' => e = .returned (.tuple #[.int .i64 r5_1, .bool r5_2]) ∧ Below w.heap.size w w' := by
      have c := c_5; exact fun w => (spec_SquareByMirror.calls j1.1.1 j1.1.2 j1.2.1 j1.2.2 _ _ w c).mono fun e w' ⟨he, hb⟩ => ⟨he, hb⟩
    have C6 : ∀ w, Calls Try.prog 9 #[.agg #[.int .i64 j1.1.1, .int .i64 j1.1.2], .agg #[.int .i64 j1.2.1, .int .i64 j1.2.2]] w fun e w' => e = .returned (.tuple #[.int .i64 r6_1, .bool r6_2]) ∧ Below w.heap.size w w' := by
      have c := c_6; exact fun w => (impl_SquareStraight.calls j1.1.1 j1.1.2 j1.2.1 j1.2.2 _ _ w c).mono fun e w' ⟨he, hb⟩ => ⟨he, hb⟩
    have C7 : ∀ w, Calls Try.prog 10 #[.agg #[.int .i64 j1.1.1, .int .i64 j1.1.2], .agg #[.int .i64 j1.2.1, .int .i64 j1.2.2]] w fun e w' => e = .returned (.tuple #[.int .i64 r7_1, .bool r7_2]) ∧ Below w.heap.size w w' := by
      have c := c_7; exact fun w => (spec_SquareStraight.calls j1.1.1 j1.1.2 j1.2.1 j1.2.2 _ _ w c).mono fun e w' ⟨he, hb⟩ => ⟨he, hb⟩
    have C8 : ∀ w, Calls Try.prog 11 #[.agg #[.int .i64 j1.1.1, .int .i64 j1.1.2], .agg #[.int .i64 j1.2.1, .int .i64 j1.2.2]] w fun e w' => e = .returned (.tuple #[.bool r8_1, .bool r8_2]) ∧ Below w.heap.size w w' := by
      have c := c_8; obtain ⟨k, c⟩ := c; exact fun w => (impl_IsWholeTouch.calls k j1.1.1 j1.1.2 j1.2.1 j1.2.2 _ _ w c).mono fun e w' ⟨he, hb⟩ => ⟨he, hb⟩
    have C9 : ∀ w, Calls Try.prog 12 #[.agg #[.int .i64 j1.1.1, .int .i64 j1.1.2], .agg #[.int .i64 j1.2.1, .int .i64 j1.2.2]] w fun e w' => e = .returned (.tuple #[.bool r9_1, .bool r9_2]) ∧ Below w.heap.size w w' := by
      have c := c_9; obtain ⟨k, c⟩ := c; exact fun w => (spec_IsWholeTouch.calls k j1.1.1 j1.1.2 j1.2.1 j1.2.2 _ _ w c).mono fun e w' ⟨he, hb⟩ => ⟨he, hb⟩
    have C10 : ∀ w, Calls Try.prog 13 #[.agg #[.int .i64 j1.1.1, .int .i64 j1.1.2]] w fun e w' => e = .returned (.bool r10) ∧ Below w.heap.size w w' := by
      have c := c_10; exact fun w => (impl_IsSpot.calls j1.1.1 j1.1.2 _ w c).mono fun e w' ⟨he, hb⟩ => ⟨he, hb⟩
    have C11 : r10 = true → ∀ w, Calls Try.prog 13 #[.agg #[.int .i64 j1.2.1, .int .i64 j1.2.2]] w fun e w' => e = .returned (.bool r11) ∧ Below w.heap.size w w' := by
      intro hb1; have c := c_11 hb1; exact fun w => (impl_IsSpot.calls j1.2.1 j1.2.2 _ w c).mono fun e w' ⟨he, hb⟩ => ⟨he, hb⟩
    have C12 : ∀ w, Calls Try.prog 14 #[.agg #[.int .i64 j1.1.1, .int .i64 j1.1.2]] w fun e w' => e = .returned (.bool r12) ∧ Below w.heap.size w w' := by
      have c := c_12; exact fun w => (spec_IsSpot.calls j1.1.1 j1.1.2 _ w c).mono fun e w' ⟨he, hb⟩ => ⟨he, hb⟩
    have C30 : r2_3 = true → ∀ w, Calls Try.prog 5 #[.agg #[.int .i64 j1.2.1, .int .i64 j1.2.2], .agg #[.int .i64 j1.1.1, .int .i64 j1.1.2]] w fun e w' => e = .returned (.tuple #[.int .i64 r30_1, .int .i64 r30_2, .bool r30_3]) ∧ Below w.heap.size w w' := by
      intro hb1; have c := c_30 hb1; obtain ⟨k, c⟩ := c; exact fun w => (impl_TouchOf.calls k j1.2.1 j1.2.2 j1.1.1 j1.1.2 _ _ _ w c).mono fun e w' ⟨he, hb⟩ => ⟨he, hb⟩
    have C31 : r2_3 = true → ∀ w, Calls Try.prog 7 #[.agg #[.int .i64 j1.2.1, .int .i64 j1.2.2], .agg #[.int .i64 j1.1.1, .int .i64 j1.1.2]] w fun e w' => e = .returned (.tuple #[.int .i64 r31_1, .bool r31_2]) ∧ Below w.heap.size w w' := by
      intro hb1; have c := c_31 hb1; exact fun w => (impl_SquareByMirror.calls j1.2.1 j1.2.2 j1.1.1 j1.1.2 _ _ w c).mono fun e w' ⟨he, hb⟩ => ⟨he, hb⟩
    have C32 : r2_3 = true → ∀ w, Calls Try.prog 15 #[.agg #[.int .i64 j1.1.1, .int .i64 j1.1.2]] w fun e w' => e = .returned (.tuple #[.agg #[.int .i64 r32_1, .int .i64 r32_2], .bool r32_3]) ∧ Below w.heap.size w w' := by
      intro hb1; have c := c_32 hb1; exact fun w => (impl_TurnSpot.calls j1.1.1 j1.1.2 _ _ _ w c).mono fun e w' ⟨he, hb⟩ => ⟨he, hb⟩
    have C33 : r2_3 = true → ∀ w, Calls Try.prog 15 #[.agg #[.int .i64 j1.2.1, .int .i64 j1.2.2]] w fun e w' => e = .returned (.tuple #[.agg #[.int .i64 r33_1, .int .i64 r33_2], .bool r33_3]) ∧ Below w.heap.size w w' := by
      intro hb1; have c := c_33 hb1; exact fun w => (impl_TurnSpot.calls j1.2.1 j1.2.2 _ _ _ w c).mono fun e w' ⟨he, hb⟩ => ⟨he, hb⟩
    have C34 : r2_3 = true → ∀ w, Calls Try.prog 5 #[.agg #[.int .i64 r32_1, .int .i64 r32_2], .agg #[.int .i64 r33_1, .int .i64 r33_2]] w fun e w' => e = .returned (.tuple #[.int .i64 r34_1, .int .i64 r34_2, .bool r34_3]) ∧ Below w.heap.size w w' := by
      intro hb1; have c := c_34 hb1; obtain ⟨k, c⟩ := c; exact fun w => (impl_TouchOf.calls k r32_1 r32_2 r33_1 r33_2 _ _ _ w c).mono fun e w' ⟨he, hb⟩ => ⟨he, hb⟩
    have C35 : r2_3 = true → ∀ w, Calls Try.prog 16 #[.int .i64 r2_1, .int .i64 r2_2] w fun e w' => e = .returned (.bool r35) ∧ Below w.heap.size w w' := by
      intro hb1; have c := c_35 hb1; obtain ⟨k, c⟩ := c; exact fun w => (laws_jLow.calls k r2_1 r2_2 _ w c).mono fun e w' ⟨he, hb⟩ => ⟨he, hb.below⟩
    have C36 : r2_3 = true → (bif (r2_2 == 1) then (j1.1.1 != j1.2.1) else false) = true → ∀ w, Calls Try.prog 17 #[.agg #[.int .i64 j1.1.1, .int .i64 j1.1.2], .int .i64 j1.2.1, .int .i64 r2_1] w fun e w' => e = .returned (.tuple #[.int .i64 r36_1, .int .i64 r36_2, .bool r36_3]) ∧ Below w.heap.size w w' := by
      intro hb1 hb2; have c := c_36 hb1 hb2; obtain ⟨k, c⟩ := c; exact fun w => (impl_HeightForTouch.calls k j1.1.1 j1.1.2 j1.2.1 r2_1 _ _ _ w c).mono fun e w' ⟨he, hb⟩ => ⟨he, hb⟩
    refine wl_op rfl rfl rfl (pv_move rfl rfl) (wl_op rfl rfl rfl (pv_extract rfl rfl rfl) (wl_op rfl rfl rfl (pv_extract rfl rfl rfl) ?_))
    refine wl_alloc (fun gb0 => DK C [(gb0, #[.int .i64 0, .int .i64 0], 23)]) rfl rfl rfl rfl qal23 (fun w hw => DK.start hw _ _) (fun gb0 => ?_)
    refine wl_alloc (fun gb1 => DK C [(gb1, #[.int .i64 0, .int .i64 0], 23), (gb0, #[.int .i64 0, .int .i64 0], 23)]) rfl rfl rfl rfl qal23 (fun w hw => DK.alloc hw _ _) (fun gb1 => ?_)
    refine wl_store (DK C [(gb0, #[.int .i64 j1.1.1, .int .i64 j1.1.2], 23), (gb1, #[.int .i64 0, .int .i64 0], 23)]) rfl rfl rfl rfl rfl (fun w hw => DK.put (fun w => sx23 j1.1.1 j1.1.2 0 0 gb0 w) (hw.swap)) ?_
    refine wl_store (DK C [(gb1, #[.int .i64 j1.2.1, .int .i64 j1.2.2], 23), (gb0, #[.int .i64 j1.1.1, .int .i64 j1.1.2], 23)]) rfl rfl rfl rfl rfl (fun w hw => DK.put (fun w => sx23 j1.2.1 j1.2.2 0 0 gb1 w) (hw.swap)) ?_
    refine wl_end (s' := ofL [(1, .slice A1 l1.length c1), (4, .bool false), (5, .pointer (some ⟨gb0, 0, none⟩)), (6, .pointer (some ⟨gb1, 0, none⟩))]) (hG11 _ _ ?_) (sub_cons rfl (sub_cons rfl (sub_cons rfl (sub_cons rfl (sub_nil)))))
    refine cw_gen (D := fun w => (C w) ∧ (w.heap[gb0]? = some (.cells #[.int .i64 j1.1.1, .int .i64 j1.1.2] 23)) ∧ (w.heap[gb1]? = some (.cells #[.int .i64 j1.2.1, .int .i64 j1.2.2] 23))) (by exact DK.stab) (fun w hw => ⟨DK.base hS hw, DK.blk (b := (gb0, #[.int .i64 j1.1.1, .int .i64 j1.1.2], 23)) hw (by simp), DK.blk (b := (gb1, #[.int .i64 j1.2.1, .int .i64 j1.2.2], 23)) hw (by simp)⟩) (fun K1 hS hD => ?_)
    have upK1 : ∀ w, K1 w → C w := fun w hw => (hD w hw).1
    replace hB : ∀ w, K1 w → Below w0.heap.size w0 w := fun w hw => hB w (upK1 w hw)
    replace h_e0 := fun w hw => h_e0 w (upK1 w hw)
    replace h_e1 := fun w hw => h_e1 w (upK1 w hw)
    have h_gb0 := fun w hw => (hD w hw).2.1
    have h_gb1 := fun w hw => (hD w hw).2.2
    clear hD
    refine cw_seq (fun G30 hG30 => ?_)
    refine cw_region ?_
    refine wl_op rfl rfl rfl (pv_load rfl rfl (fun w hw => qld23 j1.1.1 j1.1.2 gb0 w (h_gb0 w hw))) (wl_op rfl rfl rfl (pv_load rfl rfl (fun w hw => qld23 j1.2.1 j1.2.2 gb1 w (h_gb1 w hw))) (wl_op rfl rfl rfl (pv_call_b hS rfl rfl Try.func5 (by kernel_rfl) rfl C2) (wl_op rfl rfl rfl (pv_move rfl rfl) (wl_op rfl rfl rfl (pv_extract rfl rfl rfl) (wl_op rfl rfl rfl (pv_extract rfl rfl rfl) (wl_op rfl rfl rfl (pv_extract rfl rfl rfl) (wl_op rfl rfl rfl (pv_assign rfl rfl) (wl_op rfl rfl rfl (pv_assign rfl rfl) (wl_op rfl rfl rfl (pv_assign rfl rfl) ?_)))))))))
    refine wl_end (s' := ofL [(1, .slice A1 l1.length c1), (4, .bool false), (5, .pointer (some ⟨gb0, 0, none⟩)), (6, .pointer (some ⟨gb1, 0, none⟩)), (7, .int .i64 r2_1), (8, .int .i64 r2_2), (9, .bool r2_3)]) (hG30 _ _ ?_) (sub_cons rfl (sub_cons rfl (sub_cons rfl (sub_cons rfl (sub_cons rfl (sub_cons rfl (sub_cons rfl (sub_nil))))))))
    refine cw_seq (fun G34 hG34 => ?_)
    refine cw_region ?_
    refine wl_op rfl rfl rfl (pv_load rfl rfl (fun w hw => qld23 j1.1.1 j1.1.2 gb0 w (h_gb0 w hw))) (wl_op rfl rfl rfl (pv_load rfl rfl (fun w hw => qld23 j1.2.1 j1.2.2 gb1 w (h_gb1 w hw))) (wl_op rfl rfl rfl (pv_call_b hS rfl rfl Try.func6 (by kernel_rfl) rfl C3) (wl_op rfl rfl rfl (pv_move rfl rfl) (wl_op rfl rfl rfl (pv_extract rfl rfl rfl) (wl_op rfl rfl rfl (pv_extract rfl rfl rfl) (wl_op rfl rfl rfl (pv_extract rfl rfl rfl) (wl_op rfl rfl rfl (pv_assign rfl rfl) (wl_op rfl rfl rfl (pv_assign rfl rfl) (wl_op rfl rfl rfl (pv_assign rfl rfl) ?_)))))))))
    refine wl_end (s' := ofL [(1, .slice A1 l1.length c1), (4, .bool false), (5, .pointer (some ⟨gb0, 0, none⟩)), (6, .pointer (some ⟨gb1, 0, none⟩)), (7, .int .i64 r2_1), (8, .int .i64 r2_2), (9, .bool r2_3), (10, .int .i64 r3_1), (11, .int .i64 r3_2), (12, .bool r3_3)]) (hG34 _ _ ?_) (sub_cons rfl (sub_cons rfl (sub_cons rfl (sub_cons rfl (sub_cons rfl (sub_cons rfl (sub_cons rfl (sub_cons rfl (sub_cons rfl (sub_cons rfl (sub_nil)))))))))))
    refine cw_seq (fun G38 hG38 => ?_)
    refine cw_region ?_
    refine wl_op rfl rfl rfl (pv_load rfl rfl (fun w hw => qld23 j1.1.1 j1.1.2 gb0 w (h_gb0 w hw))) (wl_op rfl rfl rfl (pv_load rfl rfl (fun w hw => qld23 j1.2.1 j1.2.2 gb1 w (h_gb1 w hw))) (wl_op rfl rfl rfl (pv_call_b hS rfl rfl Try.func7 (by kernel_rfl) rfl C4) (wl_op rfl rfl rfl (pv_move rfl rfl) (wl_op rfl rfl rfl (pv_extract rfl rfl rfl) (wl_op rfl rfl rfl (pv_extract rfl rfl rfl) (wl_op rfl rfl rfl (pv_assign rfl rfl) (wl_op rfl rfl rfl (pv_assign rfl rfl) ?_)))))))
    refine wl_end (s' := ofL [(1, .slice A1 l1.length c1), (4, .bool false), (5, .pointer (some ⟨gb0, 0, none⟩)), (6, .pointer (some ⟨gb1, 0, none⟩)), (7, .int .i64 r2_1), (8, .int .i64 r2_2), (9, .bool r2_3), (10, .int .i64 r3_1), (11, .int .i64 r3_2), (12, .bool r3_3), (13, .int .i64 r4_1), (14, .bool r4_2)]) (hG38 _ _ ?_) (sub_cons rfl (sub_cons rfl (sub_cons rfl (sub_cons rfl (sub_cons rfl (sub_cons rfl (sub_cons rfl (sub_cons rfl (sub_cons rfl (sub_cons rfl (sub_cons rfl (sub_cons rfl (sub_nil)))))))))))))
    refine cw_seq (fun G42 hG42 => ?_)
    refine cw_region ?_
    refine wl_op rfl rfl rfl (pv_load rfl rfl (fun w hw => qld23 j1.1.1 j1.1.2 gb0 w (h_gb0 w hw))) (wl_op rfl rfl rfl (pv_load rfl rfl (fun w hw => qld23 j1.2.1 j1.2.2 gb1 w (h_gb1 w hw))) (wl_op rfl rfl rfl (pv_call_b hS rfl rfl Try.func8 (by kernel_rfl) rfl C5) (wl_op rfl rfl rfl (pv_move rfl rfl) (wl_op rfl rfl rfl (pv_extract rfl rfl rfl) (wl_op rfl rfl rfl (pv_extract rfl rfl rfl) (wl_op rfl rfl rfl (pv_assign rfl rfl) (wl_op rfl rfl rfl (pv_assign rfl rfl) ?_)))))))
    refine wl_end (s' := ofL [(1, .slice A1 l1.length c1), (4, .bool false), (5, .pointer (some ⟨gb0, 0, none⟩)), (6, .pointer (some ⟨gb1, 0, none⟩)), (7, .int .i64 r2_1), (8, .int .i64 r2_2), (9, .bool r2_3), (10, .int .i64 r3_1), (11, .int .i64 r3_2), (12, .bool r3_3), (13, .int .i64 r4_1), (14, .bool r4_2), (15, .int .i64 r5_1), (16, .bool r5_2)]) (hG42 _ _ ?_) (sub_cons rfl (sub_cons rfl (sub_cons rfl (sub_cons rfl (sub_cons rfl (sub_cons rfl (sub_cons rfl (sub_cons rfl (sub_cons rfl (sub_cons rfl (sub_cons rfl (sub_cons rfl (sub_cons rfl (sub_cons rfl (sub_nil)))))))))))))))
    refine cw_seq (fun G46 hG46 => ?_)
    refine cw_region ?_
    refine wl_op rfl rfl rfl (pv_load rfl rfl (fun w hw => qld23 j1.1.1 j1.1.2 gb0 w (h_gb0 w hw))) (wl_op rfl rfl rfl (pv_load rfl rfl (fun w hw => qld23 j1.2.1 j1.2.2 gb1 w (h_gb1 w hw))) (wl_op rfl rfl rfl (pv_call_b hS rfl rfl Try.func9 (by kernel_rfl) rfl C6) (wl_op rfl rfl rfl (pv_move rfl rfl) (wl_op rfl rfl rfl (pv_extract rfl rfl rfl) (wl_op rfl rfl rfl (pv_extract rfl rfl rfl) (wl_op rfl rfl rfl (pv_assign rfl rfl) (wl_op rfl rfl rfl (pv_assign rfl rfl) ?_)))))))
    refine wl_end (s' := ofL [(1, .slice A1 l1.length c1), (4, .bool false), (5, .pointer (some ⟨gb0, 0, none⟩)), (6, .pointer (some ⟨gb1, 0, none⟩)), (7, .int .i64 r2_1), (8, .int .i64 r2_2), (9, .bool r2_3), (10, .int .i64 r3_1), (11, .int .i64 r3_2), (12, .bool r3_3), (13, .int .i64 r4_1), (14, .bool r4_2), (15, .int .i64 r5_1), (16, .bool r5_2), (17, .int .i64 r6_1), (18, .bool r6_2)]) (hG46 _ _ ?_) (sub_cons rfl (sub_cons rfl (sub_cons rfl (sub_cons rfl (sub_cons rfl (sub_cons rfl (sub_cons rfl (sub_cons rfl (sub_cons rfl (sub_cons rfl (sub_cons rfl (sub_cons rfl (sub_cons rfl (sub_cons rfl (sub_cons rfl (sub_cons rfl (sub_nil)))))))))))))))))
    refine cw_seq (fun G50 hG50 => ?_)
    refine cw_region ?_
    refine wl_op rfl rfl rfl (pv_load rfl rfl (fun w hw => qld23 j1.1.1 j1.1.2 gb0 w (h_gb0 w hw))) (wl_op rfl rfl rfl (pv_load rfl rfl (fun w hw => qld23 j1.2.1 j1.2.2 gb1 w (h_gb1 w hw))) (wl_op rfl rfl rfl (pv_call_b hS rfl rfl Try.func10 (by kernel_rfl) rfl C7) (wl_op rfl rfl rfl (pv_move rfl rfl) (wl_op rfl rfl rfl (pv_extract rfl rfl rfl) (wl_op rfl rfl rfl (pv_extract rfl rfl rfl) (wl_op rfl rfl rfl (pv_assign rfl rfl) (wl_op rfl rfl rfl (pv_assign rfl rfl) ?_)))))))
    refine wl_end (s' := ofL [(1, .slice A1 l1.length c1), (4, .bool false), (5, .pointer (some ⟨gb0, 0, none⟩)), (6, .pointer (some ⟨gb1, 0, none⟩)), (7, .int .i64 r2_1), (8, .int .i64 r2_2), (9, .bool r2_3), (10, .int .i64 r3_1), (11, .int .i64 r3_2), (12, .bool r3_3), (13, .int .i64 r4_1), (14, .bool r4_2), (15, .int .i64 r5_1), (16, .bool r5_2), (17, .int .i64 r6_1), (18, .bool r6_2), (19, .int .i64 r7_1), (20, .bool r7_2)]) (hG50 _ _ ?_) (sub_cons rfl (sub_cons rfl (sub_cons rfl (sub_cons rfl (sub_cons rfl (sub_cons rfl (sub_cons rfl (sub_cons rfl (sub_cons rfl (sub_cons rfl (sub_cons rfl (sub_cons rfl (sub_cons rfl (sub_cons rfl (sub_cons rfl (sub_cons rfl (sub_cons rfl (sub_cons rfl (sub_nil)))))))))))))))))))
    refine cw_seq (fun G54 hG54 => ?_)
    refine cw_region ?_
    refine wl_op rfl rfl rfl (pv_load rfl rfl (fun w hw => qld23 j1.1.1 j1.1.2 gb0 w (h_gb0 w hw))) (wl_op rfl rfl rfl (pv_load rfl rfl (fun w hw => qld23 j1.2.1 j1.2.2 gb1 w (h_gb1 w hw))) (wl_op rfl rfl rfl (pv_call_b hS rfl rfl Try.func11 (by kernel_rfl) rfl C8) (wl_op rfl rfl rfl (pv_move rfl rfl) (wl_op rfl rfl rfl (pv_extract rfl rfl rfl) (wl_op rfl rfl rfl (pv_extract rfl rfl rfl) (wl_op rfl rfl rfl (pv_assign rfl rfl) (wl_op rfl rfl rfl (pv_assign rfl rfl) ?_)))))))
    refine wl_end (s' := ofL [(1, .slice A1 l1.length c1), (4, .bool false), (5, .pointer (some ⟨gb0, 0, none⟩)), (6, .pointer (some ⟨gb1, 0, none⟩)), (7, .int .i64 r2_1), (8, .int .i64 r2_2), (9, .bool r2_3), (10, .int .i64 r3_1), (11, .int .i64 r3_2), (12, .bool r3_3), (13, .int .i64 r4_1), (14, .bool r4_2), (15, .int .i64 r5_1), (16, .bool r5_2), (17, .int .i64 r6_1), (18, .bool r6_2), (19, .int .i64 r7_1), (20, .bool r7_2), (21, .bool r8_1), (22, .bool r8_2)]) (hG54 _ _ ?_) (sub_cons rfl (sub_cons rfl (sub_cons rfl (sub_cons rfl (sub_cons rfl (sub_cons rfl (sub_cons rfl (sub_cons rfl (sub_cons rfl (sub_cons rfl (sub_cons rfl (sub_cons rfl (sub_cons rfl (sub_cons rfl (sub_cons rfl (sub_cons rfl (sub_cons rfl (sub_cons rfl (sub_cons rfl (sub_cons rfl (sub_nil)))))))))))))))))))))
    refine cw_seq (fun G58 hG58 => ?_)
    refine cw_region ?_
    refine wl_op rfl rfl rfl (pv_load rfl rfl (fun w hw => qld23 j1.1.1 j1.1.2 gb0 w (h_gb0 w hw))) (wl_op rfl rfl rfl (pv_load rfl rfl (fun w hw => qld23 j1.2.1 j1.2.2 gb1 w (h_gb1 w hw))) (wl_op rfl rfl rfl (pv_call_b hS rfl rfl Try.func12 (by kernel_rfl) rfl C9) (wl_op rfl rfl rfl (pv_move rfl rfl) (wl_op rfl rfl rfl (pv_extract rfl rfl rfl) (wl_op rfl rfl rfl (pv_extract rfl rfl rfl) (wl_op rfl rfl rfl (pv_assign rfl rfl) (wl_op rfl rfl rfl (pv_assign rfl rfl) ?_)))))))
    refine wl_end (s' := ofL [(1, .slice A1 l1.length c1), (4, .bool false), (5, .pointer (some ⟨gb0, 0, none⟩)), (6, .pointer (some ⟨gb1, 0, none⟩)), (7, .int .i64 r2_1), (8, .int .i64 r2_2), (9, .bool r2_3), (10, .int .i64 r3_1), (11, .int .i64 r3_2), (12, .bool r3_3), (13, .int .i64 r4_1), (14, .bool r4_2), (15, .int .i64 r5_1), (16, .bool r5_2), (17, .int .i64 r6_1), (18, .bool r6_2), (19, .int .i64 r7_1), (20, .bool r7_2), (21, .bool r8_1), (22, .bool r8_2), (23, .bool r9_1), (24, .bool r9_2)]) (hG58 _ _ ?_) (sub_cons rfl (sub_cons rfl (sub_cons rfl (sub_cons rfl (sub_cons rfl (sub_cons rfl (sub_cons rfl (sub_cons rfl (sub_cons rfl (sub_cons rfl (sub_cons rfl (sub_cons rfl (sub_cons rfl (sub_cons rfl (sub_cons rfl (sub_cons rfl (sub_cons rfl (sub_cons rfl (sub_cons rfl (sub_cons rfl (sub_cons rfl (sub_cons rfl (sub_nil)))))))))))))))))))))))
    refine cw_seq (fun G62 hG62 => ?_)
    refine cw_seq (fun G63 hG63 => ?_)
    have hJ64 : GS K1 636 G63 (ofL [(1, .slice A1 l1.length c1), (4, .bool false), (5, .pointer (some ⟨gb0, 0, none⟩)), (6, .pointer (some ⟨gb1, 0, none⟩)), (7, .int .i64 r2_1), (8, .int .i64 r2_2), (9, .bool r2_3), (13, .int .i64 r4_1), (17, .int .i64 r6_1), (21, .bool r8_1), (201, .bool false)]) := by as_aux_lemma =>
      refine hG63 _ _ ?_
      refine cw_false rfl rfl ?_
      refine cw_skip (GS.sub (s' := ofL [(1, .slice A1 l1.length c1), (4, .bool false), (5, .pointer (some ⟨gb0, 0, none⟩)), (6, .pointer (some ⟨gb1, 0, none⟩)), (7, .int .i64 r2_1), (8, .int .i64 r2_2), (9, .bool r2_3), (13, .int .i64 r4_1), (17, .int .i64 r6_1), (21, .bool r8_1)]) (hG62 _ _ ?_) (sub_cons rfl (sub_cons rfl (sub_cons rfl (sub_cons rfl (sub_cons rfl (sub_cons rfl (sub_cons rfl (sub_cons rfl (sub_cons rfl (sub_cons rfl (sub_nil))))))))))))
      refine cw_seq (fun G68 hG68 => ?_)
      refine cw_seq (fun G69 hG69 => ?_)
      refine cw_region ?_
      refine wl_op rfl rfl rfl (pv_move rfl rfl) ?_
      refine wl_end (s' := ofL [(1, .slice A1 l1.length c1), (4, .bool false), (5, .pointer (some ⟨gb0, 0, none⟩)), (6, .pointer (some ⟨gb1, 0, none⟩)), (7, .int .i64 r2_1), (8, .int .i64 r2_2), (13, .int .i64 r4_1), (17, .int .i64 r6_1), (21, .bool r8_1), (202, .bool r2_3)]) (hG69 _ _ ?_) (sub_cons rfl (sub_cons rfl (sub_cons rfl (sub_cons rfl (sub_cons rfl (sub_cons rfl (sub_cons rfl (sub_cons rfl (sub_cons rfl (sub_cons rfl (sub_nil)))))))))))
      have hJ73 : GS K1 636 G68 (ofL [(1, .slice A1 l1.length c1), (4, .bool false)]) := by as_aux_lemma =>
        refine hG68 _ _ ?_
        refine cw_seq (fun G75 hG75 => ?_)
        refine cw_region ?_
        refine wl_op rfl rfl rfl (pv_move rfl rfl) ?_
        refine wl_callE (ι := (Int × Int) × (Int × Int)) (fun j2 => .tuple #[.agg #[.int .i64 j2.1.1, .int .i64 j2.1.2], .agg #[.int .i64 j2.2.1, .int .i64 j2.2.2]]) hS rfl rfl rfl rfl rfl Try.func29 (by kernel_rfl) rfl (fun w hw => drawOrder (hY_e1) _ _ w (h_e1 w hw).1) (fun j2 => ?_)
        obtain ⟨r13_1, r13_2, r14_1, r14_2, r15_1, r15_2, r16_1, r16_2, r17_1, r17_2, r17_3, r18_1, r18_2, r18_3, r21, r22, r26_1, r26_2, r27_1, r27_2, r28, r29, ⟨c_13, c_14, c_15, c_16, c_17, c_18, c_21, c_22, c_26, c_27, c_28, c_29⟩, ⟨o37, o38, o39, o40, o41, o42, o43, o47, o48, o49, o50, o51, o52, o53, o54, o55, o56, o57, o58, o59, o60, o61, o62, o63, o64, o65, o66, o67, o68, o69, o70, o71, o72, o73, o74, o75⟩⟩ := hP2 j2.1.1 j2.1.2 j2.2.1 j2.2.2
        have C13 : ∀ w, Calls Try.prog 18 #[.agg #[.int .i64 j2.1.1, .int .i64 j2.1.2], .agg #[.int .i64 j2.2.1, .int .i64 j2.2.2]] w fun e w' => e = .returned (.tuple #[.string r13_1, .bool r13_2]) ∧ Below w.heap.size w w' := by
          have c := c_13; exact fun w => (impl_OrderByCorner.calls j2.1.1 j2.1.2 j2.2.1 j2.2.2 _ _ w c).mono fun e w' ⟨he, hb⟩ => ⟨he, hb⟩
        have C14 : ∀ w, Calls Try.prog 19 #[.agg #[.int .i64 j2.1.1, .int .i64 j2.1.2], .agg #[.int .i64 j2.2.1, .int .i64 j2.2.2]] w fun e w' => e = .returned (.tuple #[.string r14_1, .bool r14_2]) ∧ Below w.heap.size w w' := by
          have c := c_14; exact fun w => (spec_OrderByCorner.calls j2.1.1 j2.1.2 j2.2.1 j2.2.2 _ _ w c).mono fun e w' ⟨he, hb⟩ => ⟨he, hb⟩
        have C15 : ∀ w, Calls Try.prog 20 #[.agg #[.int .i64 j2.1.1, .int .i64 j2.1.2], .agg #[.int .i64 j2.2.1, .int .i64 j2.2.2]] w fun e w' => e = .returned (.tuple #[.int .i64 r15_1, .bool r15_2]) ∧ Below w.heap.size w w' := by
          have c := c_15; exact fun w => (impl_SquareByCorner.calls j2.1.1 j2.1.2 j2.2.1 j2.2.2 _ _ w c).mono fun e w' ⟨he, hb⟩ => ⟨he, hb⟩
        have C16 : ∀ w, Calls Try.prog 21 #[.agg #[.int .i64 j2.1.1, .int .i64 j2.1.2], .agg #[.int .i64 j2.2.1, .int .i64 j2.2.2]] w fun e w' => e = .returned (.tuple #[.int .i64 r16_1, .bool r16_2]) ∧ Below w.heap.size w w' := by
          have c := c_16; exact fun w => (spec_SquareByCorner.calls j2.1.1 j2.1.2 j2.2.1 j2.2.2 _ _ w c).mono fun e w' ⟨he, hb⟩ => ⟨he, hb⟩
        have C17 : ∀ w, Calls Try.prog 22 #[.agg #[.int .i64 j2.1.1, .int .i64 j2.1.2], .agg #[.int .i64 j2.2.1, .int .i64 j2.2.2]] w fun e w' => ∃ i17 : Option Addr × Nat × Option Addr × Nat, e = .returned (.tuple #[.slice i17.1 r17_1.length i17.2.1, .slice i17.2.2.1 r17_2.length i17.2.2.2, .bool r17_3]) ∧ ((Kd.C (Kd.int .i64) w' i17.1 r17_1.length r17_1 ∧ r17_1.length ≤ i17.2.1) ∧ (Kd.C (Kd.int .i64) w' i17.2.2.1 r17_2.length r17_2 ∧ r17_2.length ≤ i17.2.2.2)) ∧ Below w.heap.size w w' := by
          have c := c_17; obtain ⟨k, c⟩ := c; exact fun w => (impl_TouchesByCorner.calls k j2.1.1 j2.1.2 j2.2.1 j2.2.2 _ _ _ w c).mono fun e w' ⟨v0_, v1_, he, k0, k1, hb⟩ => by
            obtain ⟨A0, c0, rfl, n0, y0⟩ := Kd.R_reads k0
            obtain ⟨A1, c1, rfl, n1, y1⟩ := Kd.R_reads k1
            exact ⟨(A0, c0, A1, c1), he, ⟨⟨y0, n0⟩, ⟨y1, n1⟩⟩, hb⟩
        have C18 : ∀ w, Calls Try.prog 23 #[.agg #[.int .i64 j2.1.1, .int .i64 j2.1.2], .agg #[.int .i64 j2.2.1, .int .i64 j2.2.2]] w fun e w' => ∃ i18 : Option Addr × Nat × Option Addr × Nat, e = .returned (.tuple #[.slice i18.1 r18_1.length i18.2.1, .slice i18.2.2.1 r18_2.length i18.2.2.2, .bool r18_3]) ∧ ((Kd.C (Kd.int .i64) w' i18.1 r18_1.length r18_1 ∧ r18_1.length ≤ i18.2.1) ∧ (Kd.C (Kd.int .i64) w' i18.2.2.1 r18_2.length r18_2 ∧ r18_2.length ≤ i18.2.2.2)) ∧ Below w.heap.size w w' := by
          have c := c_18; obtain ⟨k, c⟩ := c; exact fun w => (spec_TouchesByCorner.calls k j2.1.1 j2.1.2 j2.2.1 j2.2.2 _ _ _ w c).mono fun e w' ⟨v0_, v1_, he, k0, k1, hb⟩ => by
            obtain ⟨A0, c0, rfl, n0, y0⟩ := Kd.R_reads k0
            obtain ⟨A1, c1, rfl, n1, y1⟩ := Kd.R_reads k1
            exact ⟨(A0, c0, A1, c1), he, ⟨⟨y0, n0⟩, ⟨y1, n1⟩⟩, hb⟩
        have C21 : ∀ (A0 : Option Addr) (c0 : Nat) (A1 : Option Addr) (c1 : Nat) w, Kd.C (Kd.int .i64) w A0 r17_1.length r17_1 → r17_1.length ≤ c0 → Kd.C (Kd.int .i64) w A1 r18_1.length r18_1 → r18_1.length ≤ c1 → Calls Try.prog 25 #[.slice A0 r17_1.length c0, .slice A1 r18_1.length c1] w fun e w' => e = .returned (.bool r21) ∧ Below w.heap.size w w' := by
          have c := c_21; obtain ⟨k, c⟩ := c; exact fun A0 c0 A1 c1 w p0 q0 p1 q1 => (laws_jSame.calls k _ _ r17_1 _ _ r18_1 _ w p0 q0 p1 q1 c).mono fun e w' ⟨he, hb⟩ => ⟨he, hb.below⟩
        have C22 : ∀ (A0 : Option Addr) (c0 : Nat) (A1 : Option Addr) (c1 : Nat) w, Kd.C (Kd.int .i64) w A0 r17_2.length r17_2 → r17_2.length ≤ c0 → Kd.C (Kd.int .i64) w A1 r18_2.length r18_2 → r18_2.length ≤ c1 → Calls Try.prog 25 #[.slice A0 r17_2.length c0, .slice A1 r18_2.length c1] w fun e w' => e = .returned (.bool r22) ∧ Below w.heap.size w w' := by
          have c := c_22; obtain ⟨k, c⟩ := c; exact fun A0 c0 A1 c1 w p0 q0 p1 q1 => (laws_jSame.calls k _ _ r17_2 _ _ r18_2 _ w p0 q0 p1 q1 c).mono fun e w' ⟨he, hb⟩ => ⟨he, hb.below⟩
        have C26 : r13_2 = true → ∀ w, Calls Try.prog 7 #[.agg #[.int .i64 j2.1.1, .int .i64 j2.1.2], .agg #[.int .i64 j2.2.1, .int .i64 j2.2.2]] w fun e w' => e = .returned (.tuple #[.int .i64 r26_1, .bool r26_2]) ∧ Below w.heap.size w w' := by
          intro hb1; have c := c_26 hb1; exact fun w => (impl_SquareByMirror.calls j2.1.1 j2.1.2 j2.2.1 j2.2.2 _ _ w c).mono fun e w' ⟨he, hb⟩ => ⟨he, hb⟩
        have C27 : r13_2 = true → ∀ w, Calls Try.prog 18 #[.agg #[.int .i64 j2.2.1, .int .i64 j2.2.2], .agg #[.int .i64 j2.1.1, .int .i64 j2.1.2]] w fun e w' => e = .returned (.tuple #[.string r27_1, .bool r27_2]) ∧ Below w.heap.size w w' := by
          intro hb1; have c := c_27 hb1; exact fun w => (impl_OrderByCorner.calls j2.2.1 j2.2.2 j2.1.1 j2.1.2 _ _ w c).mono fun e w' ⟨he, hb⟩ => ⟨he, hb⟩
        have C28 : r13_2 = true → ∀ w, Calls Try.prog 16 #[.int .i64 (rd r17_1 0), .int .i64 (rd r17_1 1)] w fun e w' => e = .returned (.bool r28) ∧ Below w.heap.size w w' := by
          intro hb1; have c := c_28 hb1; obtain ⟨k, c⟩ := c; exact fun w => (laws_jLow.calls k (rd r17_1 0) (rd r17_1 1) _ w c).mono fun e w' ⟨he, hb⟩ => ⟨he, hb.below⟩
        have C29 : r13_2 = true → ∀ w, Calls Try.prog 16 #[.int .i64 (rd r17_2 0), .int .i64 (rd r17_2 1)] w fun e w' => e = .returned (.bool r29) ∧ Below w.heap.size w w' := by
          intro hb1; have c := c_29 hb1; obtain ⟨k, c⟩ := c; exact fun w => (laws_jLow.calls k (rd r17_2 0) (rd r17_2 1) _ w c).mono fun e w' ⟨he, hb⟩ => ⟨he, hb.below⟩
        refine wl_op rfl rfl rfl (pv_move rfl rfl) (wl_op rfl rfl rfl (pv_extract rfl rfl rfl) (wl_op rfl rfl rfl (pv_extract rfl rfl rfl) ?_))
        refine wl_alloc (fun gb2 => DK K1 [(gb2, #[.int .i64 0, .int .i64 0], 23)]) rfl rfl rfl rfl qal23 (fun w hw => DK.start hw _ _) (fun gb2 => ?_)
        refine wl_alloc (fun gb3 => DK K1 [(gb3, #[.int .i64 0, .int .i64 0], 23), (gb2, #[.int .i64 0, .int .i64 0], 23)]) rfl rfl rfl rfl qal23 (fun w hw => DK.alloc hw _ _) (fun gb3 => ?_)
        refine wl_store (DK K1 [(gb2, #[.int .i64 j2.1.1, .int .i64 j2.1.2], 23), (gb3, #[.int .i64 0, .int .i64 0], 23)]) rfl rfl rfl rfl rfl (fun w hw => DK.put (fun w => sx23 j2.1.1 j2.1.2 0 0 gb2 w) (hw.swap)) ?_
        refine wl_store (DK K1 [(gb3, #[.int .i64 j2.2.1, .int .i64 j2.2.2], 23), (gb2, #[.int .i64 j2.1.1, .int .i64 j2.1.2], 23)]) rfl rfl rfl rfl rfl (fun w hw => DK.put (fun w => sx23 j2.2.1 j2.2.2 0 0 gb3 w) (hw.swap)) ?_
        refine wl_end (s' := ofL [(1, .slice A1 l1.length c1), (4, .bool false), (40, .pointer (some ⟨gb2, 0, none⟩)), (41, .pointer (some ⟨gb3, 0, none⟩))]) (hG75 _ _ ?_) (sub_cons rfl (sub_cons rfl (sub_cons rfl (sub_cons rfl (sub_nil)))))
        refine cw_gen (D := fun w => (K1 w) ∧ (w.heap[gb2]? = some (.cells #[.int .i64 j2.1.1, .int .i64 j2.1.2] 23)) ∧ (w.heap[gb3]? = some (.cells #[.int .i64 j2.2.1, .int .i64 j2.2.2] 23))) (by exact DK.stab) (fun w hw => ⟨DK.base hS hw, DK.blk (b := (gb2, #[.int .i64 j2.1.1, .int .i64 j2.1.2], 23)) hw (by simp), DK.blk (b := (gb3, #[.int .i64 j2.2.1, .int .i64 j2.2.2], 23)) hw (by simp)⟩) (fun K2 hS hD => ?_)
        have upK2 : ∀ w, K2 w → K1 w := fun w hw => (hD w hw).1
        replace hB : ∀ w, K2 w → Below w0.heap.size w0 w := fun w hw => hB w (upK2 w hw)
        replace h_e0 := fun w hw => h_e0 w (upK2 w hw)
        replace h_e1 := fun w hw => h_e1 w (upK2 w hw)
        replace h_gb0 := fun w hw => h_gb0 w (upK2 w hw)
        replace h_gb1 := fun w hw => h_gb1 w (upK2 w hw)
        have h_gb2 := fun w hw => (hD w hw).2.1
        have h_gb3 := fun w hw => (hD w hw).2.2
        clear hD
        refine cw_seq (fun G96 hG96 => ?_)
        refine cw_region ?_
        refine wl_op rfl rfl rfl (pv_load rfl rfl (fun w hw => qld23 j2.1.1 j2.1.2 gb2 w (h_gb2 w hw))) (wl_op rfl rfl rfl (pv_load rfl rfl (fun w hw => qld23 j2.2.1 j2.2.2 gb3 w (h_gb3 w hw))) (wl_op rfl rfl rfl (pv_call_b hS rfl rfl Try.func18 (by kernel_rfl) rfl C13) (wl_op rfl rfl rfl (pv_move rfl rfl) (wl_op rfl rfl rfl (pv_extract rfl rfl rfl) (wl_op rfl rfl rfl (pv_extract rfl rfl rfl) (wl_op rfl rfl rfl (pv_assign rfl rfl) (wl_op rfl rfl rfl (pv_assign rfl rfl) ?_)))))))
        refine wl_end (s' := ofL [(1, .slice A1 l1.length c1), (4, .bool false), (40, .pointer (some ⟨gb2, 0, none⟩)), (41, .pointer (some ⟨gb3, 0, none⟩)), (42, .string r13_1), (43, .bool r13_2)]) (hG96 _ _ ?_) (sub_cons rfl (sub_cons rfl (sub_cons rfl (sub_cons rfl (sub_cons rfl (sub_cons rfl (sub_nil)))))))
        refine cw_seq (fun G100 hG100 => ?_)
        refine cw_region ?_
        refine wl_op rfl rfl rfl (pv_load rfl rfl (fun w hw => qld23 j2.1.1 j2.1.2 gb2 w (h_gb2 w hw))) (wl_op rfl rfl rfl (pv_load rfl rfl (fun w hw => qld23 j2.2.1 j2.2.2 gb3 w (h_gb3 w hw))) (wl_op rfl rfl rfl (pv_call_b hS rfl rfl Try.func19 (by kernel_rfl) rfl C14) (wl_op rfl rfl rfl (pv_move rfl rfl) (wl_op rfl rfl rfl (pv_extract rfl rfl rfl) (wl_op rfl rfl rfl (pv_extract rfl rfl rfl) (wl_op rfl rfl rfl (pv_assign rfl rfl) (wl_op rfl rfl rfl (pv_assign rfl rfl) ?_)))))))
        refine wl_end (s' := ofL [(1, .slice A1 l1.length c1), (4, .bool false), (40, .pointer (some ⟨gb2, 0, none⟩)), (41, .pointer (some ⟨gb3, 0, none⟩)), (42, .string r13_1), (43, .bool r13_2), (44, .string r14_1), (45, .bool r14_2)]) (hG100 _ _ ?_) (sub_cons rfl (sub_cons rfl (sub_cons rfl (sub_cons rfl (sub_cons rfl (sub_cons rfl (sub_cons rfl (sub_cons rfl (sub_nil)))))))))
        refine cw_seq (fun G104 hG104 => ?_)
        refine cw_region ?_
        refine wl_op rfl rfl rfl (pv_load rfl rfl (fun w hw => qld23 j2.1.1 j2.1.2 gb2 w (h_gb2 w hw))) (wl_op rfl rfl rfl (pv_load rfl rfl (fun w hw => qld23 j2.2.1 j2.2.2 gb3 w (h_gb3 w hw))) (wl_op rfl rfl rfl (pv_call_b hS rfl rfl Try.func20 (by kernel_rfl) rfl C15) (wl_op rfl rfl rfl (pv_move rfl rfl) (wl_op rfl rfl rfl (pv_extract rfl rfl rfl) (wl_op rfl rfl rfl (pv_extract rfl rfl rfl) (wl_op rfl rfl rfl (pv_assign rfl rfl) (wl_op rfl rfl rfl (pv_assign rfl rfl) ?_)))))))
        refine wl_end (s' := ofL [(1, .slice A1 l1.length c1), (4, .bool false), (40, .pointer (some ⟨gb2, 0, none⟩)), (41, .pointer (some ⟨gb3, 0, none⟩)), (42, .string r13_1), (43, .bool r13_2), (44, .string r14_1), (45, .bool r14_2), (46, .int .i64 r15_1), (47, .bool r15_2)]) (hG104 _ _ ?_) (sub_cons rfl (sub_cons rfl (sub_cons rfl (sub_cons rfl (sub_cons rfl (sub_cons rfl (sub_cons rfl (sub_cons rfl (sub_cons rfl (sub_cons rfl (sub_nil)))))))))))
        refine cw_seq (fun G108 hG108 => ?_)
        refine cw_region ?_
        refine wl_op rfl rfl rfl (pv_load rfl rfl (fun w hw => qld23 j2.1.1 j2.1.2 gb2 w (h_gb2 w hw))) (wl_op rfl rfl rfl (pv_load rfl rfl (fun w hw => qld23 j2.2.1 j2.2.2 gb3 w (h_gb3 w hw))) (wl_op rfl rfl rfl (pv_call_b hS rfl rfl Try.func21 (by kernel_rfl) rfl C16) (wl_op rfl rfl rfl (pv_move rfl rfl) (wl_op rfl rfl rfl (pv_extract rfl rfl rfl) (wl_op rfl rfl rfl (pv_extract rfl rfl rfl) (wl_op rfl rfl rfl (pv_assign rfl rfl) (wl_op rfl rfl rfl (pv_assign rfl rfl) ?_)))))))
        refine wl_end (s' := ofL [(1, .slice A1 l1.length c1), (4, .bool false), (40, .pointer (some ⟨gb2, 0, none⟩)), (41, .pointer (some ⟨gb3, 0, none⟩)), (42, .string r13_1), (43, .bool r13_2), (44, .string r14_1), (45, .bool r14_2), (46, .int .i64 r15_1), (47, .bool r15_2), (48, .int .i64 r16_1), (49, .bool r16_2)]) (hG108 _ _ ?_) (sub_cons rfl (sub_cons rfl (sub_cons rfl (sub_cons rfl (sub_cons rfl (sub_cons rfl (sub_cons rfl (sub_cons rfl (sub_cons rfl (sub_cons rfl (sub_cons rfl (sub_cons rfl (sub_nil)))))))))))))
        refine cw_seq (fun G112 hG112 => ?_)
        refine cw_region ?_
        refine wl_op rfl rfl rfl (pv_load rfl rfl (fun w hw => qld23 j2.1.1 j2.1.2 gb2 w (h_gb2 w hw))) (wl_op rfl rfl rfl (pv_load rfl rfl (fun w hw => qld23 j2.2.1 j2.2.2 gb3 w (h_gb3 w hw))) ?_)
        refine wl_callR (ι := Option Addr × Nat × Option Addr × Nat) (fun i17 => .tuple #[.slice i17.1 r17_1.length i17.2.1, .slice i17.2.2.1 r17_2.length i17.2.2.2, .bool r17_3]) (fun i17 w => (Kd.C (Kd.int .i64) w i17.1 r17_1.length r17_1 ∧ r17_1.length ≤ i17.2.1) ∧ (Kd.C (Kd.int .i64) w i17.2.2.1 r17_2.length r17_2 ∧ r17_2.length ≤ i17.2.2.2)) hS rfl rfl rfl rfl rfl Try.func22 (by kernel_rfl) rfl (fun w hw => C17 w) (fun i17 => ?_)
        refine wl_op rfl rfl rfl (pv_move rfl rfl) (wl_op rfl rfl rfl (pv_extract rfl rfl rfl) (wl_op rfl rfl rfl (pv_extract rfl rfl rfl) (wl_op rfl rfl rfl (pv_extract rfl rfl rfl) (wl_op rfl rfl rfl (pv_assign rfl rfl) (wl_op rfl rfl rfl (pv_assign rfl rfl) (wl_op rfl rfl rfl (pv_assign rfl rfl) ?_))))))
        refine wl_end (s' := ofL [(1, .slice A1 l1.length c1), (4, .bool false), (40, .pointer (some ⟨gb2, 0, none⟩)), (41, .pointer (some ⟨gb3, 0, none⟩)), (42, .string r13_1), (43, .bool r13_2), (44, .string r14_1), (45, .bool r14_2), (46, .int .i64 r15_1), (47, .bool r15_2), (48, .int .i64 r16_1), (49, .bool r16_2), (50, .slice i17.1 r17_1.length i17.2.1), (51, .slice i17.2.2.1 r17_2.length i17.2.2.2), (52, .bool r17_3)]) (hG112 _ _ ?_) (sub_cons rfl (sub_cons rfl (sub_cons rfl (sub_cons rfl (sub_cons rfl (sub_cons rfl (sub_cons rfl (sub_cons rfl (sub_cons rfl (sub_cons rfl (sub_cons rfl (sub_cons rfl (sub_cons rfl (sub_cons rfl (sub_cons rfl (sub_nil))))))))))))))))
        refine cw_gen (D := fun w => (K2 w) ∧ ((Kd.C (Kd.int .i64) w i17.1 r17_1.length r17_1 ∧ r17_1.length ≤ i17.2.1) ∧ (Kd.C (Kd.int .i64) w i17.2.2.1 r17_2.length r17_2 ∧ r17_2.length ≤ i17.2.2.2))) (by first | exact hS | (repeat (first | exact hS | exact stab_below _ | exact stab_blk _ _ | exact stab_row | exact stab_const _ | refine Stab.and ?_ ?_))) (fun w hw => ⟨hw.1, hw.2⟩) (fun K3 hS hD => ?_)
        have upK3 : ∀ w, K3 w → K2 w := fun w hw => (hD w hw).1
        replace hB : ∀ w, K3 w → Below w0.heap.size w0 w := fun w hw => hB w (upK3 w hw)
        replace h_e0 := fun w hw => h_e0 w (upK3 w hw)
        replace h_e1 := fun w hw => h_e1 w (upK3 w hw)
        replace h_gb0 := fun w hw => h_gb0 w (upK3 w hw)
        replace h_gb1 := fun w hw => h_gb1 w (upK3 w hw)
        replace h_gb2 := fun w hw => h_gb2 w (upK3 w hw)
        replace h_gb3 := fun w hw => h_gb3 w (upK3 w hw)
        have h_m17_0 := fun w hw => (hD w hw).2.1
        have h_m17_1 := fun w hw => (hD w hw).2.2
        clear hD
        refine cw_seq (fun G130 hG130 => ?_)
        refine cw_region ?_
        refine wl_op rfl rfl rfl (pv_load rfl rfl (fun w hw => qld23 j2.1.1 j2.1.2 gb2 w (h_gb2 w hw))) (wl_op rfl rfl rfl (pv_load rfl rfl (fun w hw => qld23 j2.2.1 j2.2.2 gb3 w (h_gb3 w hw))) ?_)
        refine wl_callR (ι := Option Addr × Nat × Option Addr × Nat) (fun i18 => .tuple #[.slice i18.1 r18_1.length i18.2.1, .slice i18.2.2.1 r18_2.length i18.2.2.2, .bool r18_3]) (fun i18 w => (Kd.C (Kd.int .i64) w i18.1 r18_1.length r18_1 ∧ r18_1.length ≤ i18.2.1) ∧ (Kd.C (Kd.int .i64) w i18.2.2.1 r18_2.length r18_2 ∧ r18_2.length ≤ i18.2.2.2)) hS rfl rfl rfl rfl rfl Try.func23 (by kernel_rfl) rfl (fun w hw => C18 w) (fun i18 => ?_)
        refine wl_op rfl rfl rfl (pv_move rfl rfl) (wl_op rfl rfl rfl (pv_extract rfl rfl rfl) (wl_op rfl rfl rfl (pv_extract rfl rfl rfl) (wl_op rfl rfl rfl (pv_extract rfl rfl rfl) (wl_op rfl rfl rfl (pv_assign rfl rfl) (wl_op rfl rfl rfl (pv_assign rfl rfl) (wl_op rfl rfl rfl (pv_assign rfl rfl) ?_))))))
        refine wl_end (s' := ofL [(1, .slice A1 l1.length c1), (4, .bool false), (40, .pointer (some ⟨gb2, 0, none⟩)), (41, .pointer (some ⟨gb3, 0, none⟩)), (42, .string r13_1), (43, .bool r13_2), (44, .string r14_1), (45, .bool r14_2), (46, .int .i64 r15_1), (47, .bool r15_2), (48, .int .i64 r16_1), (49, .bool r16_2), (50, .slice i17.1 r17_1.length i17.2.1), (51, .slice i17.2.2.1 r17_2.length i17.2.2.2), (52, .bool r17_3), (53, .slice i18.1 r18_1.length i18.2.1), (54, .slice i18.2.2.1 r18_2.length i18.2.2.2), (55, .bool r18_3)]) (hG130 _ _ ?_) (sub_cons rfl (sub_cons rfl (sub_cons rfl (sub_cons rfl (sub_cons rfl (sub_cons rfl (sub_cons rfl (sub_cons rfl (sub_cons rfl (sub_cons rfl (sub_cons rfl (sub_cons rfl (sub_cons rfl (sub_cons rfl (sub_cons rfl (sub_cons rfl (sub_cons rfl (sub_cons rfl (sub_nil)))))))))))))))))))
        refine cw_gen (D := fun w => (K3 w) ∧ ((Kd.C (Kd.int .i64) w i18.1 r18_1.length r18_1 ∧ r18_1.length ≤ i18.2.1) ∧ (Kd.C (Kd.int .i64) w i18.2.2.1 r18_2.length r18_2 ∧ r18_2.length ≤ i18.2.2.2))) (by first | exact hS | (repeat (first | exact hS | exact stab_below _ | exact stab_blk _ _ | exact stab_row | exact stab_const _ | refine Stab.and ?_ ?_))) (fun w hw => ⟨hw.1, hw.2⟩) (fun K4 hS hD => ?_)
        have upK4 : ∀ w, K4 w → K3 w := fun w hw => (hD w hw).1
        replace hB : ∀ w, K4 w → Below w0.heap.size w0 w := fun w hw => hB w (upK4 w hw)
        replace h_e0 := fun w hw => h_e0 w (upK4 w hw)
        replace h_e1 := fun w hw => h_e1 w (upK4 w hw)
        replace h_gb0 := fun w hw => h_gb0 w (upK4 w hw)
        replace h_gb1 := fun w hw => h_gb1 w (upK4 w hw)
        replace h_gb2 := fun w hw => h_gb2 w (upK4 w hw)
        replace h_gb3 := fun w hw => h_gb3 w (upK4 w hw)
        replace h_m17_0 := fun w hw => h_m17_0 w (upK4 w hw)
        replace h_m17_1 := fun w hw => h_m17_1 w (upK4 w hw)
        have h_m18_0 := fun w hw => (hD w hw).2.1
        have h_m18_1 := fun w hw => (hD w hw).2.2
        clear hD
        refine cw_seq (fun G150 hG150 => ?_)
        refine cw_region ?_
        refine wl_op rfl rfl rfl (pv_move rfl rfl) ?_
        refine wl_callE (ι := (Int × Int) × Int × Int) (fun j3 => .tuple #[.agg #[.int .i64 j3.1.1, .int .i64 j3.1.2], .int .i64 j3.2.1, .int .i64 j3.2.2]) hS rfl rfl rfl rfl rfl Try.func30 (by kernel_rfl) rfl (fun w hw => drawHeight (hY_e1) _ _ w (h_e1 w hw).1) (fun j3 => ?_)
        obtain ⟨r19_1, r19_2, r19_3, r20_1, r20_2, r20_3, r23, r24, r25, ⟨c_19, c_20, c_23, c_24, c_25⟩, ⟨o44, o45, o46, o76, o77, o78⟩⟩ := hP3 j3.1.1 j3.1.2 j3.2.1 j3.2.2
        have C19 : ∀ w, Calls Try.prog 17 #[.agg #[.int .i64 j3.1.1, .int .i64 j3.1.2], .int .i64 j3.2.1, .int .i64 j3.2.2] w fun e w' => e = .returned (.tuple #[.int .i64 r19_1, .int .i64 r19_2, .bool r19_3]) ∧ Below w.heap.size w w' := by
          have c := c_19; obtain ⟨k, c⟩ := c; exact fun w => (impl_HeightForTouch.calls k j3.1.1 j3.1.2 j3.2.1 j3.2.2 _ _ _ w c).mono fun e w' ⟨he, hb⟩ => ⟨he, hb⟩
        have C20 : ∀ w, Calls Try.prog 24 #[.agg #[.int .i64 j3.1.1, .int .i64 j3.1.2], .int .i64 j3.2.1, .int .i64 j3.2.2] w fun e w' => e = .returned (.tuple #[.int .i64 r20_1, .int .i64 r20_2, .bool r20_3]) ∧ Below w.heap.size w w' := by
          have c := c_20; obtain ⟨k, c⟩ := c; exact fun w => (spec_HeightForTouch.calls k j3.1.1 j3.1.2 j3.2.1 j3.2.2 _ _ _ w c).mono fun e w' ⟨he, hb⟩ => ⟨he, hb⟩
        have C23 : r19_3 = true → ∀ w, Calls Try.prog 16 #[.int .i64 r19_1, .int .i64 r19_2] w fun e w' => e = .returned (.bool r23) ∧ Below w.heap.size w w' := by
          intro hb1; have c := c_23 hb1; obtain ⟨k, c⟩ := c; exact fun w => (laws_jLow.calls k r19_1 r19_2 _ w c).mono fun e w' ⟨he, hb⟩ => ⟨he, hb.below⟩
        have C24 : r19_3 = true → ∀ w, Calls Try.prog 26 #[.int .i64 (wrap64 (j3.2.2 - j3.1.1))] w fun e w' => e = .returned (.int .i64 r24) ∧ Below w.heap.size w w' := by
          intro hb1; have c := c_24 hb1; exact fun w => (laws_jSize.calls (wrap64 (j3.2.2 - j3.1.1)) _ w c).mono fun e w' ⟨he, hb⟩ => ⟨he, hb.below⟩
        have C25 : r19_3 = true → ∀ w, Calls Try.prog 26 #[.int .i64 (wrap64 (j3.2.1 - j3.2.2))] w fun e w' => e = .returned (.int .i64 r25) ∧ Below w.heap.size w w' := by
          intro hb1; have c := c_25 hb1; exact fun w => (laws_jSize.calls (wrap64 (j3.2.1 - j3.2.2)) _ w c).mono fun e w' ⟨he, hb⟩ => ⟨he, hb.below⟩
        refine wl_op rfl rfl rfl (pv_move rfl rfl) (wl_op rfl rfl rfl (pv_extract rfl rfl rfl) (wl_op rfl rfl rfl (pv_extract rfl rfl rfl) (wl_op rfl rfl rfl (pv_extract rfl rfl rfl) ?_)))
        refine wl_new (by first | exact hS | (repeat (first | exact hS | exact stab_below _ | exact stab_blk _ _ | exact stab_row | exact stab_const _ | refine Stab.and ?_ ?_))) rfl rfl rfl rfl rfl rfl rfl (fun _ => rfl) _ qal23 (fun w => st23 j3.1.1 j3.1.2 w) (fun gb4 => ?_)
        refine wl_op rfl rfl rfl (pv_assign rfl rfl) (wl_op rfl rfl rfl (pv_assign rfl rfl) ?_)
        refine wl_end (s' := ofL [(4, .bool false), (40, .pointer (some ⟨gb2, 0, none⟩)), (41, .pointer (some ⟨gb3, 0, none⟩)), (42, .string r13_1), (43, .bool r13_2), (44, .string r14_1), (45, .bool r14_2), (46, .int .i64 r15_1), (47, .bool r15_2), (48, .int .i64 r16_1), (49, .bool r16_2), (50, .slice i17.1 r17_1.length i17.2.1), (51, .slice i17.2.2.1 r17_2.length i17.2.2.2), (52, .bool r17_3), (53, .slice i18.1 r18_1.length i18.2.1), (54, .slice i18.2.2.1 r18_2.length i18.2.2.2), (55, .bool r18_3), (56, .pointer (some ⟨gb4, 0, none⟩)), (57, .int .i64 j3.2.1), (58, .int .i64 j3.2.2)]) (hG150 _ _ ?_) (sub_cons rfl (sub_cons rfl (sub_cons rfl (sub_cons rfl (sub_cons rfl (sub_cons rfl (sub_cons rfl (sub_cons rfl (sub_cons rfl (sub_cons rfl (sub_cons rfl (sub_cons rfl (sub_cons rfl (sub_cons rfl (sub_cons rfl (sub_cons rfl (sub_cons rfl (sub_cons rfl (sub_cons rfl (sub_cons rfl (sub_nil)))))))))))))))))))))
        refine cw_gen (D := fun w => (K4 w) ∧ (w.heap[gb4]? = some (.cells #[.int .i64 j3.1.1, .int .i64 j3.1.2] 23))) (by first | exact hS | (repeat (first | exact hS | exact stab_below _ | exact stab_blk _ _ | exact stab_row | exact stab_const _ | refine Stab.and ?_ ?_))) (fun w hw => ⟨hw.1, hw.2⟩) (fun K5 hS hD => ?_)
        have upK5 : ∀ w, K5 w → K4 w := fun w hw => (hD w hw).1
        replace hB : ∀ w, K5 w → Below w0.heap.size w0 w := fun w hw => hB w (upK5 w hw)
        replace h_e0 := fun w hw => h_e0 w (upK5 w hw)
        replace h_e1 := fun w hw => h_e1 w (upK5 w hw)
        replace h_gb0 := fun w hw => h_gb0 w (upK5 w hw)
        replace h_gb1 := fun w hw => h_gb1 w (upK5 w hw)
        replace h_gb2 := fun w hw => h_gb2 w (upK5 w hw)
        replace h_gb3 := fun w hw => h_gb3 w (upK5 w hw)
        replace h_m17_0 := fun w hw => h_m17_0 w (upK5 w hw)
        replace h_m17_1 := fun w hw => h_m17_1 w (upK5 w hw)
        replace h_m18_0 := fun w hw => h_m18_0 w (upK5 w hw)
        replace h_m18_1 := fun w hw => h_m18_1 w (upK5 w hw)
        have h_gb4 := fun w hw => (hD w hw).2
        clear hD
        refine cw_seq (fun G174 hG174 => ?_)
        refine cw_region ?_
        refine wl_op rfl rfl rfl (pv_load rfl rfl (fun w hw => qld23 j3.1.1 j3.1.2 gb4 w (h_gb4 w hw))) (wl_op rfl rfl rfl (pv_move rfl rfl) (wl_op rfl rfl rfl (pv_move rfl rfl) (wl_op rfl rfl rfl (pv_call_b hS rfl rfl Try.func17 (by kernel_rfl) rfl C19) (wl_op rfl rfl rfl (pv_move rfl rfl) (wl_op rfl rfl rfl (pv_extract rfl rfl rfl) (wl_op rfl rfl rfl (pv_extract rfl rfl rfl) (wl_op rfl rfl rfl (pv_extract rfl rfl rfl) (wl_op rfl rfl rfl (pv_assign rfl rfl) (wl_op rfl rfl rfl (pv_assign rfl rfl) (wl_op rfl rfl rfl (pv_assign rfl rfl) ?_))))))))))
        refine wl_end (s' := ofL [(4, .bool false), (40, .pointer (some ⟨gb2, 0, none⟩)), (41, .pointer (some ⟨gb3, 0, none⟩)), (42, .string r13_1), (43, .bool r13_2), (44, .string r14_1), (45, .bool r14_2), (46, .int .i64 r15_1), (47, .bool r15_2), (48, .int .i64 r16_1), (49, .bool r16_2), (50, .slice i17.1 r17_1.length i17.2.1), (51, .slice i17.2.2.1 r17_2.length i17.2.2.2), (52, .bool r17_3), (53, .slice i18.1 r18_1.length i18.2.1), (54, .slice i18.2.2.1 r18_2.length i18.2.2.2), (55, .bool r18_3), (56, .pointer (some ⟨gb4, 0, none⟩)), (57, .int .i64 j3.2.1), (58, .int .i64 j3.2.2), (59, .int .i64 r19_1), (60, .int .i64 r19_2), (61, .bool r19_3)]) (hG174 _ _ ?_) (sub_cons rfl (sub_cons rfl (sub_cons rfl (sub_cons rfl (sub_cons rfl (sub_cons rfl (sub_cons rfl (sub_cons rfl (sub_cons rfl (sub_cons rfl (sub_cons rfl (sub_cons rfl (sub_cons rfl (sub_cons rfl (sub_cons rfl (sub_cons rfl (sub_cons rfl (sub_cons rfl (sub_cons rfl (sub_cons rfl (sub_cons rfl (sub_cons rfl (sub_cons rfl (sub_nil))))))))))))))))))))))))
        refine cw_seq (fun G178 hG178 => ?_)
        refine cw_region ?_
        refine wl_op rfl rfl rfl (pv_load rfl rfl (fun w hw => qld23 j3.1.1 j3.1.2 gb4 w (h_gb4 w hw))) (wl_op rfl rfl rfl (pv_move rfl rfl) (wl_op rfl rfl rfl (pv_move rfl rfl) (wl_op rfl rfl rfl (pv_call_b hS rfl rfl Try.func24 (by kernel_rfl) rfl C20) (wl_op rfl rfl rfl (pv_move rfl rfl) (wl_op rfl rfl rfl (pv_extract rfl rfl rfl) (wl_op rfl rfl rfl (pv_extract rfl rfl rfl) (wl_op rfl rfl rfl (pv_extract rfl rfl rfl) (wl_op rfl rfl rfl (pv_assign rfl rfl) (wl_op rfl rfl rfl (pv_assign rfl rfl) (wl_op rfl rfl rfl (pv_assign rfl rfl) ?_))))))))))
        refine wl_end (s' := ofL [(4, .bool false), (40, .pointer (some ⟨gb2, 0, none⟩)), (41, .pointer (some ⟨gb3, 0, none⟩)), (42, .string r13_1), (43, .bool r13_2), (44, .string r14_1), (45, .bool r14_2), (46, .int .i64 r15_1), (47, .bool r15_2), (48, .int .i64 r16_1), (49, .bool r16_2), (50, .slice i17.1 r17_1.length i17.2.1), (51, .slice i17.2.2.1 r17_2.length i17.2.2.2), (52, .bool r17_3), (53, .slice i18.1 r18_1.length i18.2.1), (54, .slice i18.2.2.1 r18_2.length i18.2.2.2), (55, .bool r18_3), (56, .pointer (some ⟨gb4, 0, none⟩)), (57, .int .i64 j3.2.1), (58, .int .i64 j3.2.2), (59, .int .i64 r19_1), (60, .int .i64 r19_2), (61, .bool r19_3), (62, .int .i64 r20_1), (63, .int .i64 r20_2), (64, .bool r20_3)]) (hG178 _ _ ?_) (sub_cons rfl (sub_cons rfl (sub_cons rfl (sub_cons rfl (sub_cons rfl (sub_cons rfl (sub_cons rfl (sub_cons rfl (sub_cons rfl (sub_cons rfl (sub_cons rfl (sub_cons rfl (sub_cons rfl (sub_cons rfl (sub_cons rfl (sub_cons rfl (sub_cons rfl (sub_cons rfl (sub_cons rfl (sub_cons rfl (sub_cons rfl (sub_cons rfl (sub_cons rfl (sub_cons rfl (sub_cons rfl (sub_cons rfl (sub_nil)))))))))))))))))))))))))))
        refine cw_seq (fun G182 hG182 => ?_)
        refine cw_seq (fun G183 hG183 => ?_)
        refine cw_region ?_
        refine wl_op rfl rfl rfl (pv_move rfl rfl) (wl_op rfl rfl rfl (pv_move rfl rfl) (wl_op rfl rfl rfl (pv_bool (pv_bin rfl rfl rfl (fun _ => b_neqb Try.underlying4)) (o37)) (wl_op rfl rfl rfl (pv_move rfl rfl) (wl_yes rfl rfl rfl rfl rfl rfl (pv_move rfl rfl) (wl_yes rfl rfl rfl rfl rfl rfl (pv_move rfl rfl) (wl_yes rfl rfl rfl rfl rfl rfl (pv_bool (pv_bin rfl rfl rfl (fun _ => b_neqs Try.underlying9)) (o38)) (wl_op rfl rfl rfl (pv_pick rfl rfl rfl) (wl_op rfl rfl rfl (pv_move rfl rfl) (wl_yes rfl rfl rfl rfl rfl rfl (pv_move rfl rfl) (wl_yes rfl rfl rfl rfl rfl rfl (pv_move rfl rfl) (wl_yes rfl rfl rfl rfl rfl rfl (pv_bool (pv_bin rfl rfl rfl (fun _ => b_neqb Try.underlying4)) (o39)) ?_)))))))))))
        refine wl_op rfl rfl rfl (pv_pick rfl rfl rfl) (wl_op rfl rfl rfl (pv_move rfl rfl) (wl_yes rfl rfl rfl rfl rfl rfl (pv_move rfl rfl) (wl_yes rfl rfl rfl rfl rfl rfl (pv_move rfl rfl) (wl_yes rfl rfl rfl rfl rfl rfl (pv_bool (pv_bin rfl rfl rfl (fun _ => b_neq Try.underlying3)) (o40)) (wl_op rfl rfl rfl (pv_pick rfl rfl rfl) (wl_op rfl rfl rfl (pv_move rfl rfl) (wl_yes rfl rfl rfl rfl rfl rfl (pv_move rfl rfl) (wl_yes rfl rfl rfl rfl rfl rfl (pv_move rfl rfl) (wl_yes rfl rfl rfl rfl rfl rfl (pv_bool (pv_bin rfl rfl rfl (fun _ => b_neqb Try.underlying4)) (o41)) (wl_op rfl rfl rfl (pv_pick rfl rfl rfl) (wl_op rfl rfl rfl (pv_move rfl rfl) ?_)))))))))))
        refine wl_yes rfl rfl rfl rfl rfl rfl (pv_move rfl rfl) (wl_yes rfl rfl rfl rfl rfl rfl (pv_move rfl rfl) (wl_yes rfl rfl rfl rfl rfl rfl (pv_bool (pv_call_c hS rfl rfl Try.func25 (by kernel_rfl) rfl (fun w hw => C21 i17.1 i17.2.1 i18.1 i18.2.1 w (h_m17_0 w hw).1 (h_m17_0 w hw).2 (h_m18_0 w hw).1 (h_m18_0 w hw).2)) (o42)) (wl_yes rfl rfl rfl rfl rfl rfl (pv_not rfl rfl) (wl_op rfl rfl rfl (pv_pick rfl rfl rfl) (wl_op rfl rfl rfl (pv_move rfl rfl) (wl_yes rfl rfl rfl rfl rfl rfl (pv_move rfl rfl) (wl_yes rfl rfl rfl rfl rfl rfl (pv_move rfl rfl) (wl_yes rfl rfl rfl rfl rfl rfl (pv_bool (pv_call_c hS rfl rfl Try.func25 (by kernel_rfl) rfl (fun w hw => C22 i17.2.2.1 i17.2.2.2 i18.2.2.1 i18.2.2.2 w (h_m17_1 w hw).1 (h_m17_1 w hw).2 (h_m18_1 w hw).1 (h_m18_1 w hw).2)) (o43)) (wl_yes rfl rfl rfl rfl rfl rfl (pv_not rfl rfl) (wl_op rfl rfl rfl (pv_pick rfl rfl rfl) (wl_op rfl rfl rfl (pv_move rfl rfl) ?_)))))))))))
        refine wl_yes rfl rfl rfl rfl rfl rfl (pv_move rfl rfl) (wl_yes rfl rfl rfl rfl rfl rfl (pv_move rfl rfl) (wl_yes rfl rfl rfl rfl rfl rfl (pv_bool (pv_bin rfl rfl rfl (fun _ => b_neqb Try.underlying4)) (o44)) (wl_op rfl rfl rfl (pv_pick rfl rfl rfl) (wl_op rfl rfl rfl (pv_move rfl rfl) (wl_yes rfl rfl rfl rfl rfl rfl (pv_move rfl rfl) (wl_yes rfl rfl rfl rfl rfl rfl (pv_move rfl rfl) (wl_yes rfl rfl rfl rfl rfl rfl (pv_bool (pv_bin rfl rfl rfl (fun _ => b_neq Try.underlying3)) (o45)) (wl_op rfl rfl rfl (pv_pick rfl rfl rfl) (wl_op rfl rfl rfl (pv_move rfl rfl) (wl_yes rfl rfl rfl rfl rfl rfl (pv_move rfl rfl) (wl_yes rfl rfl rfl rfl rfl rfl (pv_move rfl rfl) ?_)))))))))))
        refine wl_yes rfl rfl rfl rfl rfl rfl (pv_bool (pv_bin rfl rfl rfl (fun _ => b_neq Try.underlying3)) (o46)) (wl_op rfl rfl rfl (pv_pick rfl rfl rfl) (wl_op rfl rfl rfl (pv_move rfl rfl) (wl_yes rfl rfl rfl rfl rfl rfl (pv_move rfl rfl) (wl_yes rfl rfl rfl rfl rfl rfl (pv_move rfl rfl) (wl_yes rfl rfl rfl rfl rfl rfl (pv_bool (pv_bin rfl rfl rfl (fun _ => b_neqb Try.underlying4)) (o47)) (wl_op rfl rfl rfl (pv_pick rfl rfl rfl) (wl_op rfl rfl rfl (pv_move rfl rfl) (wl_yes rfl rfl rfl rfl rfl rfl (pv_move rfl rfl) (wl_yes rfl rfl rfl rfl rfl rfl (pv_move rfl rfl) (wl_yes rfl rfl rfl rfl rfl rfl (pv_bool (pv_bin rfl rfl rfl (fun _ => b_neqb Try.underlying4)) (o48)) (wl_op rfl rfl rfl (pv_pick rfl rfl rfl) ?_)))))))))))
        refine wl_end (s' := ofL [(4, .bool false), (40, .pointer (some ⟨gb2, 0, none⟩)), (41, .pointer (some ⟨gb3, 0, none⟩)), (42, .string r13_1), (43, .bool r13_2), (46, .int .i64 r15_1), (50, .slice i17.1 r17_1.length i17.2.1), (51, .slice i17.2.2.1 r17_2.length i17.2.2.2), (56, .pointer (some ⟨gb4, 0, none⟩)), (57, .int .i64 j3.2.1), (58, .int .i64 j3.2.2), (59, .int .i64 r19_1), (60, .int .i64 r19_2), (61, .bool r19_3), (476, .bool false)]) (hG183 _ _ ?_) (sub_cons rfl (sub_cons rfl (sub_cons rfl (sub_cons rfl (sub_cons rfl (sub_cons rfl (sub_cons rfl (sub_cons rfl (sub_cons rfl (sub_cons rfl (sub_cons rfl (sub_cons rfl (sub_cons rfl (sub_cons rfl (sub_cons rfl (sub_nil))))))))))))))))
        refine cw_false rfl rfl ?_
        refine cw_skip (GS.sub (s' := ofL [(4, .bool false), (40, .pointer (some ⟨gb2, 0, none⟩)), (41, .pointer (some ⟨gb3, 0, none⟩)), (42, .string r13_1), (43, .bool r13_2), (46, .int .i64 r15_1), (50, .slice i17.1 r17_1.length i17.2.1), (51, .slice i17.2.2.1 r17_2.length i17.2.2.2), (56, .pointer (some ⟨gb4, 0, none⟩)), (57, .int .i64 j3.2.1), (58, .int .i64 j3.2.2), (59, .int .i64 r19_1), (60, .int .i64 r19_2), (61, .bool r19_3)]) (hG182 _ _ ?_) (sub_cons rfl (sub_cons rfl (sub_cons rfl (sub_cons rfl (sub_cons rfl (sub_cons rfl (sub_cons rfl (sub_cons rfl (sub_cons rfl (sub_cons rfl (sub_cons rfl (sub_cons rfl (sub_cons rfl (sub_cons rfl (sub_nil))))))))))))))))
        refine cw_seq (fun G193 hG193 => ?_)
        refine cw_seq (fun G194 hG194 => ?_)
        refine cw_region ?_
        refine wl_op rfl rfl rfl (pv_move rfl rfl) ?_
        refine wl_end (s' := ofL [(4, .bool false), (40, .pointer (some ⟨gb2, 0, none⟩)), (41, .pointer (some ⟨gb3, 0, none⟩)), (42, .string r13_1), (46, .int .i64 r15_1), (50, .slice i17.1 r17_1.length i17.2.1), (51, .slice i17.2.2.1 r17_2.length i17.2.2.2), (56, .pointer (some ⟨gb4, 0, none⟩)), (57, .int .i64 j3.2.1), (58, .int .i64 j3.2.2), (59, .int .i64 r19_1), (60, .int .i64 r19_2), (61, .bool r19_3), (477, .bool r13_2)]) (hG194 _ _ ?_) (sub_cons rfl (sub_cons rfl (sub_cons rfl (sub_cons rfl (sub_cons rfl (sub_cons rfl (sub_cons rfl (sub_cons rfl (sub_cons rfl (sub_cons rfl (sub_cons rfl (sub_cons rfl (sub_cons rfl (sub_cons rfl (sub_nil)))))))))))))))
        have hJ198 : GS K5 636 G193 (ofL [(4, .bool false), (56, .pointer (some ⟨gb4, 0, none⟩)), (57, .int .i64 j3.2.1), (58, .int .i64 j3.2.2), (59, .int .i64 r19_1), (60, .int .i64 r19_2), (61, .bool r19_3)]) := by as_aux_lemma =>
          refine hG193 _ _ ?_
          refine cw_seq (fun G200 hG200 => ?_)
          refine cw_seq (fun G201 hG201 => ?_)
          have hJ202 : GS K5 636 G201 (ofL [(4, .bool false), (635, .bool false)]) := by as_aux_lemma =>
            refine hG201 _ _ ?_
            refine cw_false rfl rfl ?_
            refine cw_skip (GS.sub (s' := ofL [(4, .bool false)]) (hG200 _ _ ?_) (sub_cons rfl (sub_nil)))
            refine cw_seq (fun G206 hG206 => ?_)
            refine cw_region ?_
            refine wl_op rfl rfl rfl (pv_assign rfl rfl) ?_
            refine wl_end (s' := ofL [(4, .bool true)]) (hG206 _ _ ?_) (sub_cons rfl (sub_nil))
            exact cw_ret_true (w0 := w0) rfl rfl hB
          refine cw_draw hS (by kernel_rfl) (by as_aux_lemma => kernel_rfl) (fun F hF => ?_)
          refine wq_op rfl rfl rfl (pv_move rfl rfl) (wq_op rfl rfl rfl (pv_move rfl rfl) ?_)
          refine wq_split (t := 607) rfl (fun hb1 => ?_) (fun hb1 => ?_)
          ·
            refine wq_yes rfl rfl rfl rfl rfl rfl (pv_move rfl rfl) (wq_yes rfl rfl rfl rfl rfl rfl (pv_move rfl rfl) (wq_yes rfl rfl rfl rfl rfl rfl (pv_bool (pv_call_b hS rfl rfl Try.func16 (by kernel_rfl) rfl (C23 hb1)) (o76 hb1)) (wq_yes rfl rfl rfl rfl rfl rfl (pv_not rfl rfl) (wq_yes rfl rfl rfl rfl rfl rfl (pv_move rfl rfl) (wq_yes rfl rfl rfl rfl rfl rfl (pv_move rfl rfl) (wq_yes rfl rfl rfl rfl rfl rfl (pv_bool (pv_bin rfl rfl rfl (fun _ => b_lss Try.underlying3)) (o77 hb1)) (wq_yes rfl rfl rfl rfl rfl rfl (pv_pick rfl rfl rfl) (wq_yes rfl rfl rfl rfl rfl rfl (pv_move rfl rfl) (wq_yes rfl rfl rfl rfl rfl rfl (pv_move rfl rfl) (wq_yes rfl rfl rfl rfl rfl rfl (pv_move rfl rfl) (wq_yes rfl rfl rfl rfl rfl rfl (pv_fieldAddr rfl rfl (fun w => fa23_0 gb4 w)) ?_)))))))))))
            refine wq_yes rfl rfl rfl rfl rfl rfl (pv_load rfl rfl (fun w hw => ldF (h_gb4 w hw) rfl)) (wq_yes rfl rfl rfl rfl rfl rfl (pv_bin rfl rfl rfl (fun _ => b_sub Try.underlying3)) (wq_yes rfl rfl rfl rfl rfl rfl (pv_call_b hS rfl rfl Try.func26 (by kernel_rfl) rfl (C24 hb1)) (wq_yes rfl rfl rfl rfl rfl rfl (pv_bin rfl rfl rfl (fun _ => b_mul Try.underlying3)) (wq_yes rfl rfl rfl rfl rfl rfl (pv_fieldAddr rfl rfl (fun w => fa23_1 gb4 w)) (wq_yes rfl rfl rfl rfl rfl rfl (pv_load rfl rfl (fun w hw => ldF (h_gb4 w hw) rfl)) (wq_yes rfl rfl rfl rfl rfl rfl (pv_move rfl rfl) (wq_yes rfl rfl rfl rfl rfl rfl (pv_move rfl rfl) (wq_yes rfl rfl rfl rfl rfl rfl (pv_bin rfl rfl rfl (fun _ => b_sub Try.underlying3)) (wq_yes rfl rfl rfl rfl rfl rfl (pv_call_b hS rfl rfl Try.func26 (by kernel_rfl) rfl (C25 hb1)) (wq_yes rfl rfl rfl rfl rfl rfl (pv_bin rfl rfl rfl (fun _ => b_mul Try.underlying3)) (wq_yes rfl rfl rfl rfl rfl rfl (pv_move rfl rfl) ?_)))))))))))
            refine wq_yes rfl rfl rfl rfl rfl rfl (pv_bin rfl rfl rfl (fun _ => b_mul Try.underlying3)) (wq_yes rfl rfl rfl rfl rfl rfl (pv_bool (pv_bin rfl rfl rfl (fun _ => b_neq Try.underlying3)) (o78 hb1)) (wq_yes rfl rfl rfl rfl rfl rfl (pv_pick rfl rfl rfl) (wq_op rfl rfl rfl (pv_pick rfl rfl rfl) ?_)))
            exact wq_end hF (sub_cons rfl (sub_cons rfl (sub_nil))) hJ202
          ·
            refine wq_no rfl rfl rfl rfl rfl rfl (wq_no rfl rfl rfl rfl rfl rfl (wq_no rfl rfl rfl rfl rfl rfl (wq_no rfl rfl rfl rfl rfl rfl (wq_no rfl rfl rfl rfl rfl rfl (wq_off rfl rfl rfl rfl rfl (wq_off rfl rfl rfl rfl rfl (wq_no rfl rfl rfl rfl rfl rfl (wq_no rfl rfl rfl rfl rfl rfl (wq_off rfl rfl rfl rfl rfl (wq_off rfl rfl rfl rfl rfl (wq_off rfl rfl rfl rfl rfl (wq_off rfl rfl rfl rfl rfl (wq_off rfl rfl rfl rfl rfl (wq_off rfl rfl rfl rfl rfl (wq_off rfl rfl rfl rfl rfl (wq_off rfl rfl rfl rfl rfl (wq_off rfl rfl rfl rfl rfl (wq_off rfl rfl rfl rfl rfl (wq_off rfl rfl rfl rfl rfl (wq_off rfl rfl rfl rfl rfl (wq_off rfl rfl rfl rfl rfl (wq_off rfl rfl rfl rfl rfl (wq_off rfl rfl rfl rfl rfl (wq_off rfl rfl rfl rfl rfl (wq_off rfl rfl rfl rfl rfl (wq_no rfl rfl rfl rfl rfl rfl (wq_op rfl rfl rfl (pv_pick rfl rfl rfl) ?_)))))))))))))))))))))))))))
            exact wq_end hF (sub_cons rfl (sub_cons rfl (sub_nil))) hJ202
        refine cw_cond rfl (fun hb1 => ?_) (fun hb1 => ?_)
        ·
          refine cw_seq (fun G224 hG224 => ?_)
          refine cw_region ?_
          refine wl_op rfl rfl rfl (pv_load rfl rfl (fun w hw => qld23 j2.1.1 j2.1.2 gb2 w (h_gb2 w hw))) (wl_op rfl rfl rfl (pv_load rfl rfl (fun w hw => qld23 j2.2.1 j2.2.2 gb3 w (h_gb3 w hw))) (wl_op rfl rfl rfl (pv_call_b hS rfl rfl Try.func7 (by kernel_rfl) rfl (C26 hb1)) (wl_op rfl rfl rfl (pv_move rfl rfl) (wl_op rfl rfl rfl (pv_extract rfl rfl rfl) (wl_op rfl rfl rfl (pv_extract rfl rfl rfl) (wl_op rfl rfl rfl (pv_assign rfl rfl) (wl_op rfl rfl rfl (pv_assign rfl rfl) ?_)))))))
          refine wl_end (s' := ofL [(4, .bool false), (40, .pointer (some ⟨gb2, 0, none⟩)), (41, .pointer (some ⟨gb3, 0, none⟩)), (42, .string r13_1), (46, .int .i64 r15_1), (50, .slice i17.1 r17_1.length i17.2.1), (51, .slice i17.2.2.1 r17_2.length i17.2.2.2), (56, .pointer (some ⟨gb4, 0, none⟩)), (57, .int .i64 j3.2.1), (58, .int .i64 j3.2.2), (59, .int .i64 r19_1), (60, .int .i64 r19_2), (61, .bool r19_3), (65, .int .i64 r26_1), (66, .bool r26_2)]) (hG224 _ _ ?_) (sub_cons rfl (sub_cons rfl (sub_cons rfl (sub_cons rfl (sub_cons rfl (sub_cons rfl (sub_cons rfl (sub_cons rfl (sub_cons rfl (sub_cons rfl (sub_cons rfl (sub_cons rfl (sub_cons rfl (sub_cons rfl (sub_cons rfl (sub_nil))))))))))))))))
          refine cw_seq (fun G228 hG228 => ?_)
          refine cw_region ?_
          refine wl_op rfl rfl rfl (pv_load rfl rfl (fun w hw => qld23 j2.2.1 j2.2.2 gb3 w (h_gb3 w hw))) (wl_op rfl rfl rfl (pv_load rfl rfl (fun w hw => qld23 j2.1.1 j2.1.2 gb2 w (h_gb2 w hw))) (wl_op rfl rfl rfl (pv_call_b hS rfl rfl Try.func18 (by kernel_rfl) rfl (C27 hb1)) (wl_op rfl rfl rfl (pv_move rfl rfl) (wl_op rfl rfl rfl (pv_extract rfl rfl rfl) (wl_op rfl rfl rfl (pv_extract rfl rfl rfl) (wl_op rfl rfl rfl (pv_assign rfl rfl) (wl_op rfl rfl rfl (pv_assign rfl rfl) ?_)))))))
          refine wl_end (s' := ofL [(4, .bool false), (40, .pointer (some ⟨gb2, 0, none⟩)), (41, .pointer (some ⟨gb3, 0, none⟩)), (42, .string r13_1), (46, .int .i64 r15_1), (50, .slice i17.1 r17_1.length i17.2.1), (51, .slice i17.2.2.1 r17_2.length i17.2.2.2), (56, .pointer (some ⟨gb4, 0, none⟩)), (57, .int .i64 j3.2.1), (58, .int .i64 j3.2.2), (59, .int .i64 r19_1), (60, .int .i64 r19_2), (61, .bool r19_3), (65, .int .i64 r26_1), (66, .bool r26_2), (67, .string r27_1), (68, .bool r27_2)]) (hG228 _ _ ?_) (sub_cons rfl (sub_cons rfl (sub_cons rfl (sub_cons rfl (sub_cons rfl (sub_cons rfl (sub_cons rfl (sub_cons rfl (sub_cons rfl (sub_cons rfl (sub_cons rfl (sub_cons rfl (sub_cons rfl (sub_cons rfl (sub_cons rfl (sub_cons rfl (sub_cons rfl (sub_nil))))))))))))))))))
          refine cw_seq (fun G232 hG232 => ?_)
          refine cw_seq (fun G233 hG233 => ?_)
          refine cw_draw hS (by kernel_rfl) (by as_aux_lemma => kernel_rfl) (fun F hF => ?_)
          refine wq_op rfl rfl rfl (pv_bool (pv_move rfl rfl) (o49 hb1)) (wq_op rfl rfl rfl (pv_not rfl rfl) (wq_op rfl rfl rfl (pv_move rfl rfl) (wq_yes rfl rfl rfl rfl rfl rfl (pv_move rfl rfl) (wq_yes rfl rfl rfl rfl rfl rfl (pv_move rfl rfl) (wq_yes rfl rfl rfl rfl rfl rfl (pv_fieldAddr rfl rfl (fun w => fa23_0 gb2 w)) (wq_yes rfl rfl rfl rfl rfl rfl (pv_load rfl rfl (fun w hw => ldF (h_gb2 w hw) rfl)) (wq_yes rfl rfl rfl rfl rfl rfl (pv_bin rfl rfl rfl (fun _ => b_mul Try.underlying3)) (wq_yes rfl rfl rfl rfl rfl rfl (pv_fieldAddr rfl rfl (fun w => fa23_0 gb3 w)) (wq_yes rfl rfl rfl rfl rfl rfl (pv_load rfl rfl (fun w hw => ldF (h_gb3 w hw) rfl)) (wq_yes rfl rfl rfl rfl rfl rfl (pv_bin rfl rfl rfl (fun _ => b_mul Try.underlying3)) (wq_yes rfl rfl rfl rfl rfl rfl (pv_bin rfl rfl rfl (fun _ => b_add Try.underlying3)) ?_)))))))))))
          refine wq_yes rfl rfl rfl rfl rfl rfl (pv_bool (pv_bin rfl rfl rfl (fun _ => b_neq Try.underlying3)) (o50 hb1)) (wq_op rfl rfl rfl (pv_pick rfl rfl rfl) (wq_op rfl rfl rfl (pv_move rfl rfl) (wq_yes rfl rfl rfl rfl rfl rfl (pv_bool (pv_move rfl rfl) (o51 hb1)) (wq_yes rfl rfl rfl rfl rfl rfl (pv_not rfl rfl) (wq_op rfl rfl rfl (pv_pick rfl rfl rfl) (wq_op rfl rfl rfl (pv_move rfl rfl) (wq_yes rfl rfl rfl rfl rfl rfl (pv_move rfl rfl) (wq_yes rfl rfl rfl rfl rfl rfl (pv_len (t := 37) Try.underlying37 rfl rfl) (wq_yes rfl rfl rfl rfl rfl rfl (pv_bool (pv_bin rfl rfl rfl (fun _ => b_neq Try.underlying3)) (o52 hb1)) (wq_op rfl rfl rfl (pv_pick rfl rfl rfl) (wq_op rfl rfl rfl (pv_move rfl rfl) ?_)))))))))))
          refine wq_yes rfl rfl rfl rfl rfl rfl (pv_move rfl rfl) (wq_yes rfl rfl rfl rfl rfl rfl (pv_len (t := 37) Try.underlying37 rfl rfl) (wq_yes rfl rfl rfl rfl rfl rfl (pv_bool (pv_bin rfl rfl rfl (fun _ => b_neq Try.underlying3)) (o53 hb1)) (wq_op rfl rfl rfl (pv_pick rfl rfl rfl) (wq_op rfl rfl rfl (pv_move rfl rfl) (wq_yes rfl rfl rfl rfl rfl rfl (pv_move rfl rfl) (wq_yes rfl rfl rfl rfl rfl rfl (pv_indexAddr (k := i17.2.1) (l := r17_1) (i := 0) ix37 rfl rfl rfl (by decide) (of_decide_eq_true (o54 hb1)) (fun w hw => (h_m17_0 w hw).1)) (wq_yes rfl rfl rfl rfl rfl rfl (pv_loadI (A := i17.1) (l := r17_1) (i := 0) ldI rfl rfl (by decide) (of_decide_eq_true (o54 hb1)) (fun w hw => (h_m17_0 w hw).1)) (wq_yes rfl rfl rfl rfl rfl rfl (pv_move rfl rfl) (wq_yes rfl rfl rfl rfl rfl rfl (pv_indexAddr (k := i17.2.1) (l := r17_1) (i := 1) ix37 rfl rfl rfl (by decide) (of_decide_eq_true (o55 hb1)) (fun w hw => (h_m17_0 w hw).1)) (wq_yes rfl rfl rfl rfl rfl rfl (pv_loadI (A := i17.1) (l := r17_1) (i := 1) ldI rfl rfl (by decide) (of_decide_eq_true (o55 hb1)) (fun w hw => (h_m17_0 w hw).1)) (wq_yes rfl rfl rfl rfl rfl rfl (pv_bool (pv_call_b hS rfl rfl Try.func16 (by kernel_rfl) rfl (C28 hb1)) (o56 hb1)) ?_)))))))))))
          refine wq_yes rfl rfl rfl rfl rfl rfl (pv_not rfl rfl) (wq_op rfl rfl rfl (pv_pick rfl rfl rfl) (wq_op rfl rfl rfl (pv_move rfl rfl) (wq_yes rfl rfl rfl rfl rfl rfl (pv_move rfl rfl) (wq_yes rfl rfl rfl rfl rfl rfl (pv_indexAddr (k := i17.2.2.2) (l := r17_2) (i := 0) ix37 rfl rfl rfl (by decide) (of_decide_eq_true (o57 hb1)) (fun w hw => (h_m17_1 w hw).1)) (wq_yes rfl rfl rfl rfl rfl rfl (pv_loadI (A := i17.2.2.1) (l := r17_2) (i := 0) ldI rfl rfl (by decide) (of_decide_eq_true (o57 hb1)) (fun w hw => (h_m17_1 w hw).1)) (wq_yes rfl rfl rfl rfl rfl rfl (pv_move rfl rfl) (wq_yes rfl rfl rfl rfl rfl rfl (pv_indexAddr (k := i17.2.2.2) (l := r17_2) (i := 1) ix37 rfl rfl rfl (by decide) (of_decide_eq_true (o58 hb1)) (fun w hw => (h_m17_1 w hw).1)) (wq_yes rfl rfl rfl rfl rfl rfl (pv_loadI (A := i17.2.2.1) (l := r17_2) (i := 1) ldI rfl rfl (by decide) (of_decide_eq_true (o58 hb1)) (fun w hw => (h_m17_1 w hw).1)) (wq_yes rfl rfl rfl rfl rfl rfl (pv_bool (pv_call_b hS rfl rfl Try.func16 (by kernel_rfl) rfl (C29 hb1)) (o59 hb1)) (wq_yes rfl rfl rfl rfl rfl rfl (pv_not rfl rfl) (wq_op rfl rfl rfl (pv_pick rfl rfl rfl) ?_)))))))))))
          refine wq_op rfl rfl rfl (pv_move rfl rfl) (wq_yes rfl rfl rfl rfl rfl rfl (pv_move rfl rfl) (wq_yes rfl rfl rfl rfl rfl rfl (pv_indexAddr (k := i17.2.1) (l := r17_1) (i := 0) ix37 rfl rfl rfl (by decide) (of_decide_eq_true (o60 hb1)) (fun w hw => (h_m17_0 w hw).1)) (wq_yes rfl rfl rfl rfl rfl rfl (pv_loadI (A := i17.1) (l := r17_1) (i := 0) ldI rfl rfl (by decide) (of_decide_eq_true (o60 hb1)) (fun w hw => (h_m17_0 w hw).1)) (wq_yes rfl rfl rfl rfl rfl rfl (pv_bool (pv_bin rfl rfl rfl (fun _ => b_lss Try.underlying3)) (o61 hb1)) (wq_op rfl rfl rfl (pv_pick rfl rfl rfl) (wq_op rfl rfl rfl (pv_move rfl rfl) (wq_yes rfl rfl rfl rfl rfl rfl (pv_move rfl rfl) (wq_yes rfl rfl rfl rfl rfl rfl (pv_indexAddr (k := i17.2.2.2) (l := r17_2) (i := 0) ix37 rfl rfl rfl (by decide) (of_decide_eq_true (o62 hb1)) (fun w hw => (h_m17_1 w hw).1)) (wq_yes rfl rfl rfl rfl rfl rfl (pv_loadI (A := i17.2.2.1) (l := r17_2) (i := 0) ldI rfl rfl (by decide) (of_decide_eq_true (o62 hb1)) (fun w hw => (h_m17_1 w hw).1)) (wq_yes rfl rfl rfl rfl rfl rfl (pv_bool (pv_bin rfl rfl rfl (fun _ => b_lss Try.underlying3)) (o63 hb1)) (wq_op rfl rfl rfl (pv_pick rfl rfl rfl) ?_)))))))))))
          refine wq_op rfl rfl rfl (pv_move rfl rfl) (wq_yes rfl rfl rfl rfl rfl rfl (pv_move rfl rfl) (wq_yes rfl rfl rfl rfl rfl rfl (pv_bin rfl rfl rfl (fun _ => b_eqls Try.underlying9)) (wq_yes rfl rfl rfl rfl rfl rfl (pv_move rfl rfl) (wq_yes rfl rfl rfl rfl rfl rfl (pv_indexAddr (k := i17.2.1) (l := r17_1) (i := 0) ix37 rfl rfl rfl (by decide) (of_decide_eq_true (o64 hb1)) (fun w hw => (h_m17_0 w hw).1)) (wq_yes rfl rfl rfl rfl rfl rfl (pv_loadI (A := i17.1) (l := r17_1) (i := 0) ldI rfl rfl (by decide) (of_decide_eq_true (o64 hb1)) (fun w hw => (h_m17_0 w hw).1)) (wq_yes rfl rfl rfl rfl rfl rfl (pv_bin rfl rfl rfl (fun _ => b_eql Try.underlying3)) (wq_yes rfl rfl rfl rfl rfl rfl (pv_bool (pv_bin rfl rfl rfl (fun _ => b_neqb Try.underlying4)) (o65 hb1)) (wq_op rfl rfl rfl (pv_pick rfl rfl rfl) (wq_op rfl rfl rfl (pv_move rfl rfl) (wq_yes rfl rfl rfl rfl rfl rfl (pv_move rfl rfl) (wq_yes rfl rfl rfl rfl rfl rfl (pv_bin rfl rfl rfl (fun _ => b_eqls Try.underlying9)) ?_)))))))))))
          refine wq_yes rfl rfl rfl rfl rfl rfl (pv_move rfl rfl) (wq_yes rfl rfl rfl rfl rfl rfl (pv_indexAddr (k := i17.2.2.2) (l := r17_2) (i := 0) ix37 rfl rfl rfl (by decide) (of_decide_eq_true (o66 hb1)) (fun w hw => (h_m17_1 w hw).1)) (wq_yes rfl rfl rfl rfl rfl rfl (pv_loadI (A := i17.2.2.1) (l := r17_2) (i := 0) ldI rfl rfl (by decide) (of_decide_eq_true (o66 hb1)) (fun w hw => (h_m17_1 w hw).1)) (wq_yes rfl rfl rfl rfl rfl rfl (pv_bin rfl rfl rfl (fun _ => b_eql Try.underlying3)) (wq_yes rfl rfl rfl rfl rfl rfl (pv_bool (pv_bin rfl rfl rfl (fun _ => b_neqb Try.underlying4)) (o67 hb1)) (wq_op rfl rfl rfl (pv_pick rfl rfl rfl) (wq_op rfl rfl rfl (pv_move rfl rfl) (wq_yes rfl rfl rfl rfl rfl rfl (pv_move rfl rfl) (wq_yes rfl rfl rfl rfl rfl rfl (pv_bin rfl rfl rfl (fun _ => b_eqls Try.underlying9)) (wq_yes rfl rfl rfl rfl rfl rfl (pv_fieldAddr rfl rfl (fun w => fa23_0 gb2 w)) (wq_yes rfl rfl rfl rfl rfl rfl (pv_load rfl rfl (fun w hw => ldF (h_gb2 w hw) rfl)) (wq_yes rfl rfl rfl rfl rfl rfl (pv_fieldAddr rfl rfl (fun w => fa23_1 gb3 w)) ?_)))))))))))
          refine wq_yes rfl rfl rfl rfl rfl rfl (pv_load rfl rfl (fun w hw => ldF (h_gb3 w hw) rfl)) (wq_yes rfl rfl rfl rfl rfl rfl (pv_bin rfl rfl rfl (fun _ => b_mul Try.underlying3)) (wq_yes rfl rfl rfl rfl rfl rfl (pv_fieldAddr rfl rfl (fun w => fa23_0 gb3 w)) (wq_yes rfl rfl rfl rfl rfl rfl (pv_load rfl rfl (fun w hw => ldF (h_gb3 w hw) rfl)) (wq_yes rfl rfl rfl rfl rfl rfl (pv_fieldAddr rfl rfl (fun w => fa23_1 gb2 w)) (wq_yes rfl rfl rfl rfl rfl rfl (pv_load rfl rfl (fun w hw => ldF (h_gb2 w hw) rfl)) (wq_yes rfl rfl rfl rfl rfl rfl (pv_bin rfl rfl rfl (fun _ => b_mul Try.underlying3)) (wq_yes rfl rfl rfl rfl rfl rfl (pv_bin rfl rfl rfl (fun _ => b_eql Try.underlying3)) (wq_yes rfl rfl rfl rfl rfl rfl (pv_bool (pv_bin rfl rfl rfl (fun _ => b_neqb Try.underlying4)) (o68 hb1)) (wq_op rfl rfl rfl (pv_pick rfl rfl rfl) ?_)))))))))
          refine wq_end (s' := ofL [(4, .bool false), (42, .string r13_1), (56, .pointer (some ⟨gb4, 0, none⟩)), (57, .int .i64 j3.2.1), (58, .int .i64 j3.2.2), (59, .int .i64 r19_1), (60, .int .i64 r19_2), (61, .bool r19_3), (67, .string r27_1), (583, .bool false)]) hF (sub_cons rfl (sub_cons rfl (sub_cons rfl (sub_cons rfl (sub_cons rfl (sub_cons rfl (sub_cons rfl (sub_cons rfl (sub_cons rfl (sub_cons rfl (sub_nil))))))))))) (hG233 _ _ ?_)
          refine cw_false rfl rfl ?_
          refine cw_skip (GS.sub (s' := ofL [(4, .bool false), (42, .string r13_1), (56, .pointer (some ⟨gb4, 0, none⟩)), (57, .int .i64 j3.2.1), (58, .int .i64 j3.2.2), (59, .int .i64 r19_1), (60, .int .i64 r19_2), (61, .bool r19_3), (67, .string r27_1)]) (hG232 _ _ ?_) (sub_cons rfl (sub_cons rfl (sub_cons rfl (sub_cons rfl (sub_cons rfl (sub_cons rfl (sub_cons rfl (sub_cons rfl (sub_cons rfl (sub_nil)))))))))))
          refine cw_seq (fun G246 hG246 => ?_)
          refine cw_region ?_
          have hJ248 : GS K5 636 G246 (ofL [(4, .bool false), (56, .pointer (some ⟨gb4, 0, none⟩)), (57, .int .i64 j3.2.1), (58, .int .i64 j3.2.2), (59, .int .i64 r19_1), (60, .int .i64 r19_2), (61, .bool r19_3), (605, .bool false)]) := by as_aux_lemma =>
            refine hG246 _ _ ?_
            refine cw_false rfl rfl ?_
            exact cw_skip (GS.sub hJ198 (sub_cons rfl (sub_cons rfl (sub_cons rfl (sub_cons rfl (sub_cons rfl (sub_cons rfl (sub_cons rfl (sub_nil)))))))))
          refine wl_op rfl rfl rfl (pv_move rfl rfl) (wl_op rfl rfl rfl (pv_bin rfl rfl rfl (fun _ => b_eqls Try.underlying9)) (wl_op rfl rfl rfl (pv_move rfl rfl) ?_))
          refine wl_split (t := 586) rfl (fun hb2 => ?_) (fun hb2 => ?_)
          ·
            refine wl_yes rfl rfl rfl rfl rfl rfl (pv_move rfl rfl) (wl_yes rfl rfl rfl rfl rfl rfl (pv_bool (pv_bin rfl rfl rfl (fun _ => b_neqs Try.underlying9)) (o69 hb1 hb2)) (wl_op rfl rfl rfl (pv_pick rfl rfl rfl) (wl_op rfl rfl rfl (pv_move rfl rfl) (wl_yes rfl rfl rfl rfl rfl rfl (pv_move rfl rfl) (wl_yes rfl rfl rfl rfl rfl rfl (pv_bin rfl rfl rfl (fun _ => b_eqls Try.underlying9)) (wl_yes rfl rfl rfl rfl rfl rfl (pv_move rfl rfl) ?_))))))
            refine wl_split (t := 593) rfl (fun hb3 => ?_) (fun hb3 => ?_)
            ·
              refine wl_yes rfl rfl rfl rfl rfl rfl (pv_move rfl rfl) (wl_yes rfl rfl rfl rfl rfl rfl (pv_bool (pv_bin rfl rfl rfl (fun _ => b_neqs Try.underlying9)) (o70 hb1 hb2 hb3)) (wl_yes rfl rfl rfl rfl rfl rfl (pv_pick rfl rfl rfl) (wl_op rfl rfl rfl (pv_pick rfl rfl rfl) (wl_op rfl rfl rfl (pv_move rfl rfl) (wl_yes rfl rfl rfl rfl rfl rfl (pv_move rfl rfl) (wl_yes rfl rfl rfl rfl rfl rfl (pv_bin rfl rfl rfl (fun _ => b_eqls Try.underlying9)) (wl_yes rfl rfl rfl rfl rfl rfl (pv_move rfl rfl) ?_)))))))
              refine wl_split (t := 601) rfl (fun hb4 => ?_) (fun hb4 => ?_)
              ·
                refine wl_yes rfl rfl rfl rfl rfl rfl (pv_move rfl rfl) (wl_yes rfl rfl rfl rfl rfl rfl (pv_bool (pv_bin rfl rfl rfl (fun _ => b_neqs Try.underlying9)) (o71 hb1 hb2 hb3 hb4)) (wl_yes rfl rfl rfl rfl rfl rfl (pv_pick rfl rfl rfl) (wl_op rfl rfl rfl (pv_pick rfl rfl rfl) ?_)))
                exact wl_end hJ248 (sub_cons rfl (sub_cons rfl (sub_cons rfl (sub_cons rfl (sub_cons rfl (sub_cons rfl (sub_cons rfl (sub_cons rfl (sub_nil)))))))))
              ·
                refine wl_no rfl rfl rfl rfl rfl rfl (wl_no rfl rfl rfl rfl rfl rfl (wl_yes rfl rfl rfl rfl rfl rfl (pv_pick rfl rfl rfl) (wl_op rfl rfl rfl (pv_pick rfl rfl rfl) ?_)))
                exact wl_end hJ248 (sub_cons rfl (sub_cons rfl (sub_cons rfl (sub_cons rfl (sub_cons rfl (sub_cons rfl (sub_cons rfl (sub_cons rfl (sub_nil)))))))))
            ·
              refine wl_no rfl rfl rfl rfl rfl rfl (wl_no rfl rfl rfl rfl rfl rfl (wl_yes rfl rfl rfl rfl rfl rfl (pv_pick rfl rfl rfl) (wl_op rfl rfl rfl (pv_pick rfl rfl rfl) (wl_op rfl rfl rfl (pv_move rfl rfl) (wl_yes rfl rfl rfl rfl rfl rfl (pv_move rfl rfl) (wl_yes rfl rfl rfl rfl rfl rfl (pv_bin rfl rfl rfl (fun _ => b_eqls Try.underlying9)) (wl_yes rfl rfl rfl rfl rfl rfl (pv_move rfl rfl) ?_)))))))
              refine wl_split (t := 601) rfl (fun hb4 => ?_) (fun hb4 => ?_)
              ·
                refine wl_yes rfl rfl rfl rfl rfl rfl (pv_move rfl rfl) (wl_yes rfl rfl rfl rfl rfl rfl (pv_bool (pv_bin rfl rfl rfl (fun _ => b_neqs Try.underlying9)) (o72 hb1 hb2 hb3 hb4)) (wl_yes rfl rfl rfl rfl rfl rfl (pv_pick rfl rfl rfl) (wl_op rfl rfl rfl (pv_pick rfl rfl rfl) ?_)))
                exact wl_end hJ248 (sub_cons rfl (sub_cons rfl (sub_cons rfl (sub_cons rfl (sub_cons rfl (sub_cons rfl (sub_cons rfl (sub_cons rfl (sub_nil)))))))))
              ·
                refine wl_no rfl rfl rfl rfl rfl rfl (wl_no rfl rfl rfl rfl rfl rfl (wl_yes rfl rfl rfl rfl rfl rfl (pv_pick rfl rfl rfl) (wl_op rfl rfl rfl (pv_pick rfl rfl rfl) ?_)))
                exact wl_end hJ248 (sub_cons rfl (sub_cons rfl (sub_cons rfl (sub_cons rfl (sub_cons rfl (sub_cons rfl (sub_cons rfl (sub_cons rfl (sub_nil)))))))))
          ·
            refine wl_no rfl rfl rfl rfl rfl rfl (wl_no rfl rfl rfl rfl rfl rfl (wl_op rfl rfl rfl (pv_pick rfl rfl rfl) (wl_op rfl rfl rfl (pv_move rfl rfl) (wl_yes rfl rfl rfl rfl rfl rfl (pv_move rfl rfl) (wl_yes rfl rfl rfl rfl rfl rfl (pv_bin rfl rfl rfl (fun _ => b_eqls Try.underlying9)) (wl_yes rfl rfl rfl rfl rfl rfl (pv_move rfl rfl) ?_))))))
            refine wl_split (t := 593) rfl (fun hb3 => ?_) (fun hb3 => ?_)
            ·
              refine wl_yes rfl rfl rfl rfl rfl rfl (pv_move rfl rfl) (wl_yes rfl rfl rfl rfl rfl rfl (pv_bool (pv_bin rfl rfl rfl (fun _ => b_neqs Try.underlying9)) (o73 hb1 hb2 hb3)) (wl_yes rfl rfl rfl rfl rfl rfl (pv_pick rfl rfl rfl) (wl_op rfl rfl rfl (pv_pick rfl rfl rfl) (wl_op rfl rfl rfl (pv_move rfl rfl) (wl_yes rfl rfl rfl rfl rfl rfl (pv_move rfl rfl) (wl_yes rfl rfl rfl rfl rfl rfl (pv_bin rfl rfl rfl (fun _ => b_eqls Try.underlying9)) (wl_yes rfl rfl rfl rfl rfl rfl (pv_move rfl rfl) ?_)))))))
              refine wl_split (t := 601) rfl (fun hb4 => ?_) (fun hb4 => ?_)
              ·
                refine wl_yes rfl rfl rfl rfl rfl rfl (pv_move rfl rfl) (wl_yes rfl rfl rfl rfl rfl rfl (pv_bool (pv_bin rfl rfl rfl (fun _ => b_neqs Try.underlying9)) (o74 hb1 hb2 hb3 hb4)) (wl_yes rfl rfl rfl rfl rfl rfl (pv_pick rfl rfl rfl) (wl_op rfl rfl rfl (pv_pick rfl rfl rfl) ?_)))
                exact wl_end hJ248 (sub_cons rfl (sub_cons rfl (sub_cons rfl (sub_cons rfl (sub_cons rfl (sub_cons rfl (sub_cons rfl (sub_cons rfl (sub_nil)))))))))
              ·
                refine wl_no rfl rfl rfl rfl rfl rfl (wl_no rfl rfl rfl rfl rfl rfl (wl_yes rfl rfl rfl rfl rfl rfl (pv_pick rfl rfl rfl) (wl_op rfl rfl rfl (pv_pick rfl rfl rfl) ?_)))
                exact wl_end hJ248 (sub_cons rfl (sub_cons rfl (sub_cons rfl (sub_cons rfl (sub_cons rfl (sub_cons rfl (sub_cons rfl (sub_cons rfl (sub_nil)))))))))
            ·
              refine wl_no rfl rfl rfl rfl rfl rfl (wl_no rfl rfl rfl rfl rfl rfl (wl_yes rfl rfl rfl rfl rfl rfl (pv_pick rfl rfl rfl) (wl_op rfl rfl rfl (pv_pick rfl rfl rfl) (wl_op rfl rfl rfl (pv_move rfl rfl) (wl_yes rfl rfl rfl rfl rfl rfl (pv_move rfl rfl) (wl_yes rfl rfl rfl rfl rfl rfl (pv_bin rfl rfl rfl (fun _ => b_eqls Try.underlying9)) (wl_yes rfl rfl rfl rfl rfl rfl (pv_move rfl rfl) ?_)))))))
              refine wl_split (t := 601) rfl (fun hb4 => ?_) (fun hb4 => ?_)
              ·
                refine wl_yes rfl rfl rfl rfl rfl rfl (pv_move rfl rfl) (wl_yes rfl rfl rfl rfl rfl rfl (pv_bool (pv_bin rfl rfl rfl (fun _ => b_neqs Try.underlying9)) (o75 hb1 hb2 hb3 hb4)) (wl_yes rfl rfl rfl rfl rfl rfl (pv_pick rfl rfl rfl) (wl_op rfl rfl rfl (pv_pick rfl rfl rfl) ?_)))
                exact wl_end hJ248 (sub_cons rfl (sub_cons rfl (sub_cons rfl (sub_cons rfl (sub_cons rfl (sub_cons rfl (sub_cons rfl (sub_cons rfl (sub_nil)))))))))
              ·
                refine wl_no rfl rfl rfl rfl rfl rfl (wl_no rfl rfl rfl rfl rfl rfl (wl_yes rfl rfl rfl rfl rfl rfl (pv_pick rfl rfl rfl) (wl_op rfl rfl rfl (pv_pick rfl rfl rfl) ?_)))
                exact wl_end hJ248 (sub_cons rfl (sub_cons rfl (sub_cons rfl (sub_cons rfl (sub_cons rfl (sub_cons rfl (sub_cons rfl (sub_cons rfl (sub_nil)))))))))
        ·
          exact cw_skip (GS.sub hJ198 (sub_cons rfl (sub_cons rfl (sub_cons rfl (sub_cons rfl (sub_cons rfl (sub_cons rfl (sub_cons rfl (sub_nil)))))))))
      refine cw_cond rfl (fun hb1 => ?_) (fun hb1 => ?_)
      ·
        refine cw_seq (fun G300 hG300 => ?_)
        refine cw_region ?_
        refine wl_op rfl rfl rfl (pv_load rfl rfl (fun w hw => qld23 j1.2.1 j1.2.2 gb1 w (h_gb1 w hw))) (wl_op rfl rfl rfl (pv_load rfl rfl (fun w hw => qld23 j1.1.1 j1.1.2 gb0 w (h_gb0 w hw))) (wl_op rfl rfl rfl (pv_call_b hS rfl rfl Try.func5 (by kernel_rfl) rfl (C30 hb1)) (wl_op rfl rfl rfl (pv_move rfl rfl) (wl_op rfl rfl rfl (pv_extract rfl rfl rfl) (wl_op rfl rfl rfl (pv_extract rfl rfl rfl) (wl_op rfl rfl rfl (pv_extract rfl rfl rfl) (wl_op rfl rfl rfl (pv_assign rfl rfl) (wl_op rfl rfl rfl (pv_assign rfl rfl) (wl_op rfl rfl rfl (pv_assign rfl rfl) ?_)))))))))
        refine wl_end (s' := ofL [(1, .slice A1 l1.length c1), (4, .bool false), (5, .pointer (some ⟨gb0, 0, none⟩)), (6, .pointer (some ⟨gb1, 0, none⟩)), (7, .int .i64 r2_1), (8, .int .i64 r2_2), (13, .int .i64 r4_1), (17, .int .i64 r6_1), (21, .bool r8_1), (25, .int .i64 r30_1), (26, .int .i64 r30_2), (27, .bool r30_3)]) (hG300 _ _ ?_) (sub_cons rfl (sub_cons rfl (sub_cons rfl (sub_cons rfl (sub_cons rfl (sub_cons rfl (sub_cons rfl (sub_cons rfl (sub_cons rfl (sub_cons rfl (sub_cons rfl (sub_cons rfl (sub_nil)))))))))))))
        refine cw_seq (fun G304 hG304 => ?_)
        refine cw_region ?_
        refine wl_op rfl rfl rfl (pv_load rfl rfl (fun w hw => qld23 j1.2.1 j1.2.2 gb1 w (h_gb1 w hw))) (wl_op rfl rfl rfl (pv_load rfl rfl (fun w hw => qld23 j1.1.1 j1.1.2 gb0 w (h_gb0 w hw))) (wl_op rfl rfl rfl (pv_call_b hS rfl rfl Try.func7 (by kernel_rfl) rfl (C31 hb1)) (wl_op rfl rfl rfl (pv_move rfl rfl) (wl_op rfl rfl rfl (pv_extract rfl rfl rfl) (wl_op rfl rfl rfl (pv_extract rfl rfl rfl) (wl_op rfl rfl rfl (pv_assign rfl rfl) (wl_op rfl rfl rfl (pv_assign rfl rfl) ?_)))))))
        refine wl_end (s' := ofL [(1, .slice A1 l1.length c1), (4, .bool false), (5, .pointer (some ⟨gb0, 0, none⟩)), (6, .pointer (some ⟨gb1, 0, none⟩)), (7, .int .i64 r2_1), (8, .int .i64 r2_2), (13, .int .i64 r4_1), (17, .int .i64 r6_1), (21, .bool r8_1), (25, .int .i64 r30_1), (26, .int .i64 r30_2), (27, .bool r30_3), (28, .int .i64 r31_1), (29, .bool r31_2)]) (hG304 _ _ ?_) (sub_cons rfl (sub_cons rfl (sub_cons rfl (sub_cons rfl (sub_cons rfl (sub_cons rfl (sub_cons rfl (sub_cons rfl (sub_cons rfl (sub_cons rfl (sub_cons rfl (sub_cons rfl (sub_cons rfl (sub_cons rfl (sub_nil)))))))))))))))
        refine cw_seq (fun G308 hG308 => ?_)
        refine cw_region ?_
        refine wl_op rfl rfl rfl (pv_load rfl rfl (fun w hw => qld23 j1.1.1 j1.1.2 gb0 w (h_gb0 w hw))) (wl_op rfl rfl rfl (pv_call_b hS rfl rfl Try.func15 (by kernel_rfl) rfl (C32 hb1)) (wl_op rfl rfl rfl (pv_move rfl rfl) (wl_op rfl rfl rfl (pv_extract rfl rfl rfl) (wl_op rfl rfl rfl (pv_extract rfl rfl rfl) ?_))))
        refine wl_new (by first | exact hS | (repeat (first | exact hS | exact stab_below _ | exact stab_blk _ _ | exact stab_row | exact stab_const _ | refine Stab.and ?_ ?_))) rfl rfl rfl rfl rfl rfl rfl (fun _ => rfl) _ qal23 (fun w => st23 r32_1 r32_2 w) (fun gb5 => ?_)
        refine wl_op rfl rfl rfl (pv_assign rfl rfl) ?_
        refine wl_end (s' := ofL [(1, .slice A1 l1.length c1), (4, .bool false), (5, .pointer (some ⟨gb0, 0, none⟩)), (6, .pointer (some ⟨gb1, 0, none⟩)), (7, .int .i64 r2_1), (8, .int .i64 r2_2), (13, .int .i64 r4_1), (17, .int .i64 r6_1), (21, .bool r8_1), (25, .int .i64 r30_1), (26, .int .i64 r30_2), (27, .bool r30_3), (28, .int .i64 r31_1), (29, .bool r31_2), (30, .pointer (some ⟨gb5, 0, none⟩)), (31, .bool r32_3)]) (hG308 _ _ ?_) (sub_cons rfl (sub_cons rfl (sub_cons rfl (sub_cons rfl (sub_cons rfl (sub_cons rfl (sub_cons rfl (sub_cons rfl (sub_cons rfl (sub_cons rfl (sub_cons rfl (sub_cons rfl (sub_cons rfl (sub_cons rfl (sub_cons rfl (sub_cons rfl (sub_nil)))))))))))))))))
        refine cw_gen (D := fun w => (K1 w) ∧ (w.heap[gb5]? = some (.cells #[.int .i64 r32_1, .int .i64 r32_2] 23))) (by first | exact hS | (repeat (first | exact hS | exact stab_below _ | exact stab_blk _ _ | exact stab_row | exact stab_const _ | refine Stab.and ?_ ?_))) (fun w hw => ⟨hw.1, hw.2⟩) (fun K6 hS hD => ?_)
        have upK6 : ∀ w, K6 w → K1 w := fun w hw => (hD w hw).1
        replace hB : ∀ w, K6 w → Below w0.heap.size w0 w := fun w hw => hB w (upK6 w hw)
        replace h_e0 := fun w hw => h_e0 w (upK6 w hw)
        replace h_e1 := fun w hw => h_e1 w (upK6 w hw)
        replace h_gb0 := fun w hw => h_gb0 w (upK6 w hw)
        replace h_gb1 := fun w hw => h_gb1 w (upK6 w hw)
        have h_gb5 := fun w hw => (hD w hw).2
        clear hD
        refine cw_seq (fun G323 hG323 => ?_)
        refine cw_region ?_
        refine wl_op rfl rfl rfl (pv_load rfl rfl (fun w hw => qld23 j1.2.1 j1.2.2 gb1 w (h_gb1 w hw))) (wl_op rfl rfl rfl (pv_call_b hS rfl rfl Try.func15 (by kernel_rfl) rfl (C33 hb1)) (wl_op rfl rfl rfl (pv_move rfl rfl) (wl_op rfl rfl rfl (pv_extract rfl rfl rfl) (wl_op rfl rfl rfl (pv_extract rfl rfl rfl) ?_))))
        refine wl_new (by first | exact hS | (repeat (first | exact hS | exact stab_below _ | exact stab_blk _ _ | exact stab_row | exact stab_const _ | refine Stab.and ?_ ?_))) rfl rfl rfl rfl rfl rfl rfl (fun _ => rfl) _ qal23 (fun w => st23 r33_1 r33_2 w) (fun gb6 => ?_)
        refine wl_op rfl rfl rfl (pv_assign rfl rfl) ?_
        refine wl_end (s' := ofL [(1, .slice A1 l1.length c1), (4, .bool false), (5, .pointer (some ⟨gb0, 0, none⟩)), (6, .pointer (some ⟨gb1, 0, none⟩)), (7, .int .i64 r2_1), (8, .int .i64 r2_2), (13, .int .i64 r4_1), (17, .int .i64 r6_1), (21, .bool r8_1), (25, .int .i64 r30_1), (26, .int .i64 r30_2), (27, .bool r30_3), (28, .int .i64 r31_1), (29, .bool r31_2), (30, .pointer (some ⟨gb5, 0, none⟩)), (31, .bool r32_3), (32, .pointer (some ⟨gb6, 0, none⟩)), (33, .bool r33_3)]) (hG323 _ _ ?_) (sub_cons rfl (sub_cons rfl (sub_cons rfl (sub_cons rfl (sub_cons rfl (sub_cons rfl (sub_cons rfl (sub_cons rfl (sub_cons rfl (sub_cons rfl (sub_cons rfl (sub_cons rfl (sub_cons rfl (sub_cons rfl (sub_cons rfl (sub_cons rfl (sub_cons rfl (sub_cons rfl (sub_nil)))))))))))))))))))
        refine cw_gen (D := fun w => (K6 w) ∧ (w.heap[gb6]? = some (.cells #[.int .i64 r33_1, .int .i64 r33_2] 23))) (by first | exact hS | (repeat (first | exact hS | exact stab_below _ | exact stab_blk _ _ | exact stab_row | exact stab_const _ | refine Stab.and ?_ ?_))) (fun w hw => ⟨hw.1, hw.2⟩) (fun K7 hS hD => ?_)
        have upK7 : ∀ w, K7 w → K6 w := fun w hw => (hD w hw).1
        replace hB : ∀ w, K7 w → Below w0.heap.size w0 w := fun w hw => hB w (upK7 w hw)
        replace h_e0 := fun w hw => h_e0 w (upK7 w hw)
        replace h_e1 := fun w hw => h_e1 w (upK7 w hw)
        replace h_gb0 := fun w hw => h_gb0 w (upK7 w hw)
        replace h_gb1 := fun w hw => h_gb1 w (upK7 w hw)
        replace h_gb5 := fun w hw => h_gb5 w (upK7 w hw)
        have h_gb6 := fun w hw => (hD w hw).2
        clear hD
        refine cw_seq (fun G339 hG339 => ?_)
        refine cw_region ?_
        refine wl_op rfl rfl rfl (pv_load rfl rfl (fun w hw => qld23 r32_1 r32_2 gb5 w (h_gb5 w hw))) (wl_op rfl rfl rfl (pv_load rfl rfl (fun w hw => qld23 r33_1 r33_2 gb6 w (h_gb6 w hw))) (wl_op rfl rfl rfl (pv_call_b hS rfl rfl Try.func5 (by kernel_rfl) rfl (C34 hb1)) (wl_op rfl rfl rfl (pv_move rfl rfl) (wl_op rfl rfl rfl (pv_extract rfl rfl rfl) (wl_op rfl rfl rfl (pv_extract rfl rfl rfl) (wl_op rfl rfl rfl (pv_extract rfl rfl rfl) (wl_op rfl rfl rfl (pv_assign rfl rfl) (wl_op rfl rfl rfl (pv_assign rfl rfl) (wl_op rfl rfl rfl (pv_assign rfl rfl) ?_)))))))))
        refine wl_end (s' := ofL [(1, .slice A1 l1.length c1), (4, .bool false), (5, .pointer (some ⟨gb0, 0, none⟩)), (6, .pointer (some ⟨gb1, 0, none⟩)), (7, .int .i64 r2_1), (8, .int .i64 r2_2), (13, .int .i64 r4_1), (17, .int .i64 r6_1), (21, .bool r8_1), (25, .int .i64 r30_1), (26, .int .i64 r30_2), (27, .bool r30_3), (28, .int .i64 r31_1), (29, .bool r31_2), (31, .bool r32_3), (33, .bool r33_3), (34, .int .i64 r34_1), (35, .int .i64 r34_2), (36, .bool r34_3)]) (hG339 _ _ ?_) (sub_cons rfl (sub_cons rfl (sub_cons rfl (sub_cons rfl (sub_cons rfl (sub_cons rfl (sub_cons rfl (sub_cons rfl (sub_cons rfl (sub_cons rfl (sub_cons rfl (sub_cons rfl (sub_cons rfl (sub_cons rfl (sub_cons rfl (sub_cons rfl (sub_cons rfl (sub_cons rfl (sub_cons rfl (sub_nil))))))))))))))))))))
        refine cw_seq (fun G343 hG343 => ?_)
        refine cw_seq (fun G344 hG344 => ?_)
        refine cw_region ?_
        refine wl_op rfl rfl rfl (pv_move rfl rfl) (wl_op rfl rfl rfl (pv_move rfl rfl) (wl_op rfl rfl rfl (pv_bool (pv_call_b hS rfl rfl Try.func16 (by kernel_rfl) rfl (C35 hb1)) (o20 hb1)) (wl_op rfl rfl rfl (pv_not rfl rfl) (wl_op rfl rfl rfl (pv_move rfl rfl) (wl_yes rfl rfl rfl rfl rfl rfl (pv_move rfl rfl) (wl_yes rfl rfl rfl rfl rfl rfl (pv_move rfl rfl) (wl_yes rfl rfl rfl rfl rfl rfl (pv_bin rfl rfl rfl (fun _ => b_eql Try.underlying3)) (wl_yes rfl rfl rfl rfl rfl rfl (pv_bool (pv_bin rfl rfl rfl (fun _ => b_neqb Try.underlying4)) (o21 hb1)) (wl_op rfl rfl rfl (pv_pick rfl rfl rfl) (wl_op rfl rfl rfl (pv_move rfl rfl) (wl_yes rfl rfl rfl rfl rfl rfl (pv_move rfl rfl) ?_)))))))))))
        refine wl_yes rfl rfl rfl rfl rfl rfl (pv_move rfl rfl) (wl_yes rfl rfl rfl rfl rfl rfl (pv_fieldAddr rfl rfl (fun w => fa23_1 gb0 w)) (wl_yes rfl rfl rfl rfl rfl rfl (pv_load rfl rfl (fun w hw => ldF (h_gb0 w hw) rfl)) (wl_yes rfl rfl rfl rfl rfl rfl (pv_bin rfl rfl rfl (fun _ => b_mul Try.underlying3)) (wl_yes rfl rfl rfl rfl rfl rfl (pv_fieldAddr rfl rfl (fun w => fa23_1 gb1 w)) (wl_yes rfl rfl rfl rfl rfl rfl (pv_load rfl rfl (fun w hw => ldF (h_gb1 w hw) rfl)) (wl_yes rfl rfl rfl rfl rfl rfl (pv_bin rfl rfl rfl (fun _ => b_mul Try.underlying3)) (wl_yes rfl rfl rfl rfl rfl rfl (pv_bin rfl rfl rfl (fun _ => b_add Try.underlying3)) (wl_yes rfl rfl rfl rfl rfl rfl (pv_bool (pv_bin rfl rfl rfl (fun _ => b_neq Try.underlying3)) (o22 hb1)) (wl_op rfl rfl rfl (pv_pick rfl rfl rfl) (wl_op rfl rfl rfl (pv_move rfl rfl) (wl_yes rfl rfl rfl rfl rfl rfl (pv_move rfl rfl) ?_)))))))))))
        refine wl_yes rfl rfl rfl rfl rfl rfl (pv_fieldAddr rfl rfl (fun w => fa23_0 gb0 w)) (wl_yes rfl rfl rfl rfl rfl rfl (pv_load rfl rfl (fun w hw => ldF (h_gb0 w hw) rfl)) (wl_yes rfl rfl rfl rfl rfl rfl (pv_move rfl rfl) (wl_yes rfl rfl rfl rfl rfl rfl (pv_bin rfl rfl rfl (fun _ => b_mul Try.underlying3)) (wl_yes rfl rfl rfl rfl rfl rfl (pv_bin rfl rfl rfl (fun _ => b_sub Try.underlying3)) (wl_yes rfl rfl rfl rfl rfl rfl (pv_fieldAddr rfl rfl (fun w => fa23_1 gb1 w)) (wl_yes rfl rfl rfl rfl rfl rfl (pv_load rfl rfl (fun w hw => ldF (h_gb1 w hw) rfl)) (wl_yes rfl rfl rfl rfl rfl rfl (pv_bin rfl rfl rfl (fun _ => b_mul Try.underlying3)) (wl_yes rfl rfl rfl rfl rfl rfl (pv_fieldAddr rfl rfl (fun w => fa23_0 gb1 w)) (wl_yes rfl rfl rfl rfl rfl rfl (pv_load rfl rfl (fun w hw => ldF (h_gb1 w hw) rfl)) (wl_yes rfl rfl rfl rfl rfl rfl (pv_move rfl rfl) (wl_yes rfl rfl rfl rfl rfl rfl (pv_bin rfl rfl rfl (fun _ => b_mul Try.underlying3)) ?_)))))))))))
        refine wl_yes rfl rfl rfl rfl rfl rfl (pv_move rfl rfl) (wl_yes rfl rfl rfl rfl rfl rfl (pv_bin rfl rfl rfl (fun _ => b_sub Try.underlying3)) (wl_yes rfl rfl rfl rfl rfl rfl (pv_fieldAddr rfl rfl (fun w => fa23_1 gb0 w)) (wl_yes rfl rfl rfl rfl rfl rfl (pv_load rfl rfl (fun w hw => ldF (h_gb0 w hw) rfl)) (wl_yes rfl rfl rfl rfl rfl rfl (pv_bin rfl rfl rfl (fun _ => b_mul Try.underlying3)) (wl_yes rfl rfl rfl rfl rfl rfl (pv_bool (pv_bin rfl rfl rfl (fun _ => b_neq Try.underlying3)) (o23 hb1)) (wl_op rfl rfl rfl (pv_pick rfl rfl rfl) (wl_op rfl rfl rfl (pv_move rfl rfl) (wl_yes rfl rfl rfl rfl rfl rfl (pv_bool (pv_move rfl rfl) (o24 hb1)) (wl_yes rfl rfl rfl rfl rfl rfl (pv_not rfl rfl) (wl_op rfl rfl rfl (pv_pick rfl rfl rfl) (wl_op rfl rfl rfl (pv_move rfl rfl) ?_)))))))))))
        refine wl_yes rfl rfl rfl rfl rfl rfl (pv_move rfl rfl) (wl_yes rfl rfl rfl rfl rfl rfl (pv_move rfl rfl) (wl_yes rfl rfl rfl rfl rfl rfl (pv_bool (pv_bin rfl rfl rfl (fun _ => b_neq Try.underlying3)) (o25 hb1)) (wl_op rfl rfl rfl (pv_pick rfl rfl rfl) (wl_op rfl rfl rfl (pv_move rfl rfl) (wl_yes rfl rfl rfl rfl rfl rfl (pv_move rfl rfl) (wl_yes rfl rfl rfl rfl rfl rfl (pv_move rfl rfl) (wl_yes rfl rfl rfl rfl rfl rfl (pv_bool (pv_bin rfl rfl rfl (fun _ => b_neq Try.underlying3)) (o26 hb1)) (wl_op rfl rfl rfl (pv_pick rfl rfl rfl) (wl_op rfl rfl rfl (pv_move rfl rfl) (wl_yes rfl rfl rfl rfl rfl rfl (pv_bool (pv_move rfl rfl) (o27 hb1)) (wl_yes rfl rfl rfl rfl rfl rfl (pv_not rfl rfl) ?_)))))))))))
        refine wl_op rfl rfl rfl (pv_pick rfl rfl rfl) (wl_op rfl rfl rfl (pv_move rfl rfl) (wl_yes rfl rfl rfl rfl rfl rfl (pv_move rfl rfl) (wl_yes rfl rfl rfl rfl rfl rfl (pv_move rfl rfl) (wl_yes rfl rfl rfl rfl rfl rfl (pv_bool (pv_bin rfl rfl rfl (fun _ => b_neq Try.underlying3)) (o28 hb1)) (wl_op rfl rfl rfl (pv_pick rfl rfl rfl) (wl_op rfl rfl rfl (pv_move rfl rfl) (wl_yes rfl rfl rfl rfl rfl rfl (pv_bool (pv_move rfl rfl) (o29 hb1)) (wl_yes rfl rfl rfl rfl rfl rfl (pv_not rfl rfl) (wl_op rfl rfl rfl (pv_pick rfl rfl rfl) (wl_op rfl rfl rfl (pv_move rfl rfl) (wl_yes rfl rfl rfl rfl rfl rfl (pv_bool (pv_move rfl rfl) (o30 hb1)) ?_)))))))))))
        refine wl_yes rfl rfl rfl rfl rfl rfl (pv_not rfl rfl) (wl_op rfl rfl rfl (pv_pick rfl rfl rfl) (wl_op rfl rfl rfl (pv_move rfl rfl) (wl_yes rfl rfl rfl rfl rfl rfl (pv_bool (pv_move rfl rfl) (o31 hb1)) (wl_yes rfl rfl rfl rfl rfl rfl (pv_not rfl rfl) (wl_op rfl rfl rfl (pv_pick rfl rfl rfl) (wl_op rfl rfl rfl (pv_move rfl rfl) (wl_yes rfl rfl rfl rfl rfl rfl (pv_move rfl rfl) (wl_yes rfl rfl rfl rfl rfl rfl (pv_move rfl rfl) (wl_yes rfl rfl rfl rfl rfl rfl (pv_neg rfl rfl) (wl_yes rfl rfl rfl rfl rfl rfl (pv_bool (pv_bin rfl rfl rfl (fun _ => b_neq Try.underlying3)) (o32 hb1)) (wl_op rfl rfl rfl (pv_pick rfl rfl rfl) ?_)))))))))))
        refine wl_op rfl rfl rfl (pv_move rfl rfl) (wl_yes rfl rfl rfl rfl rfl rfl (pv_move rfl rfl) (wl_yes rfl rfl rfl rfl rfl rfl (pv_move rfl rfl) (wl_yes rfl rfl rfl rfl rfl rfl (pv_bool (pv_bin rfl rfl rfl (fun _ => b_neq Try.underlying3)) (o33 hb1)) (wl_op rfl rfl rfl (pv_pick rfl rfl rfl) ?_))))
        refine wl_end (s' := ofL [(1, .slice A1 l1.length c1), (4, .bool false), (5, .pointer (some ⟨gb0, 0, none⟩)), (6, .pointer (some ⟨gb1, 0, none⟩)), (7, .int .i64 r2_1), (8, .int .i64 r2_2), (321, .bool false)]) (hG344 _ _ ?_) (sub_cons rfl (sub_cons rfl (sub_cons rfl (sub_cons rfl (sub_cons rfl (sub_cons rfl (sub_cons rfl (sub_nil))))))))
        refine cw_false rfl rfl ?_
        refine cw_skip (GS.sub (s' := ofL [(1, .slice A1 l1.length c1), (4, .bool false), (5, .pointer (some ⟨gb0, 0, none⟩)), (6, .pointer (some ⟨gb1, 0, none⟩)), (7, .int .i64 r2_1), (8, .int .i64 r2_2)]) (hG343 _ _ ?_) (sub_cons rfl (sub_cons rfl (sub_cons rfl (sub_cons rfl (sub_cons rfl (sub_cons rfl (sub_nil))))))))
        refine cw_seq (fun G357 hG357 => ?_)
        refine cw_region ?_
        have hJ359 : GS K7 636 G357 (ofL [(1, .slice A1 l1.length c1), (4, .bool false), (5, .pointer (some ⟨gb0, 0, none⟩)), (6, .pointer (some ⟨gb1, 0, none⟩)), (7, .int .i64 r2_1), (330, .bool (bif (r2_2 == 1) then (j1.1.1 != j1.2.1) else false))]) := by as_aux_lemma =>
          refine hG357 _ _ ?_
          refine cw_cond rfl (fun hb2 => ?_) (fun hb2 => ?_)
          ·
            refine cw_seq (fun G363 hG363 => ?_)
            refine cw_region ?_
            refine wl_op rfl rfl rfl (pv_load rfl rfl (fun w hw => qld23 j1.1.1 j1.1.2 gb0 w (h_gb0 w hw))) (wl_op rfl rfl rfl (pv_fieldAddr rfl rfl (fun w => fa23_0 gb1 w)) (wl_op rfl rfl rfl (pv_load rfl rfl (fun w hw => ldF (h_gb1 w hw) rfl)) (wl_op rfl rfl rfl (pv_move rfl rfl) (wl_op rfl rfl rfl (pv_call_b hS rfl rfl Try.func17 (by kernel_rfl) rfl (C36 hb1 hb2)) (wl_op rfl rfl rfl (pv_move rfl rfl) (wl_op rfl rfl rfl (pv_extract rfl rfl rfl) (wl_op rfl rfl rfl (pv_extract rfl rfl rfl) (wl_op rfl rfl rfl (pv_extract rfl rfl rfl) (wl_op rfl rfl rfl (pv_assign rfl rfl) (wl_op rfl rfl rfl (pv_assign rfl rfl) (wl_op rfl rfl rfl (pv_assign rfl rfl) ?_)))))))))))
            refine wl_end (s' := ofL [(1, .slice A1 l1.length c1), (4, .bool false), (6, .pointer (some ⟨gb1, 0, none⟩)), (37, .int .i64 r36_1), (38, .int .i64 r36_2), (39, .bool r36_3)]) (hG363 _ _ ?_) (sub_cons rfl (sub_cons rfl (sub_cons rfl (sub_cons rfl (sub_cons rfl (sub_cons rfl (sub_nil)))))))
            refine cw_seq (fun G367 hG367 => ?_)
            refine cw_region ?_
            refine wl_op rfl rfl rfl (pv_bool (pv_move rfl rfl) (o34 hb1 hb2)) (wl_op rfl rfl rfl (pv_not rfl rfl) (wl_op rfl rfl rfl (pv_move rfl rfl) (wl_yes rfl rfl rfl rfl rfl rfl (pv_move rfl rfl) (wl_yes rfl rfl rfl rfl rfl rfl (pv_fieldAddr rfl rfl (fun w => fa23_1 gb1 w)) (wl_yes rfl rfl rfl rfl rfl rfl (pv_load rfl rfl (fun w hw => ldF (h_gb1 w hw) rfl)) (wl_yes rfl rfl rfl rfl rfl rfl (pv_bool (pv_bin rfl rfl rfl (fun _ => b_neq Try.underlying3)) (o35 hb1 hb2)) (wl_op rfl rfl rfl (pv_pick rfl rfl rfl) (wl_op rfl rfl rfl (pv_move rfl rfl) (wl_yes rfl rfl rfl rfl rfl rfl (pv_move rfl rfl) (wl_yes rfl rfl rfl rfl rfl rfl (pv_bool (pv_bin rfl rfl rfl (fun _ => b_neq Try.underlying3)) (o36 hb1 hb2)) (wl_op rfl rfl rfl (pv_pick rfl rfl rfl) ?_)))))))))))
            refine wl_end (s' := ofL [(1, .slice A1 l1.length c1), (4, .bool false), (351, .bool false)]) (hG367 _ _ ?_) (sub_cons rfl (sub_cons rfl (sub_cons rfl (sub_nil))))
            refine cw_false rfl rfl ?_
            exact cw_skip (GS.sub (hJ73.mono (fun w hw => (upK6 w (upK7 w hw)))) (sub_cons rfl (sub_cons rfl (sub_nil))))
          ·
            exact cw_skip (GS.sub (hJ73.mono (fun w hw => (upK6 w (upK7 w hw)))) (sub_cons rfl (sub_cons rfl (sub_nil))))
        refine wl_op rfl rfl rfl (pv_move rfl rfl) (wl_op rfl rfl rfl (pv_bin rfl rfl rfl (fun _ => b_eql Try.underlying3)) (wl_op rfl rfl rfl (pv_move rfl rfl) ?_))
        refine wl_split (t := 324) rfl (fun hb2 => ?_) (fun hb2 => ?_)
        ·
          refine wl_yes rfl rfl rfl rfl rfl rfl (pv_fieldAddr rfl rfl (fun w => fa23_0 gb0 w)) (wl_yes rfl rfl rfl rfl rfl rfl (pv_load rfl rfl (fun w hw => ldF (h_gb0 w hw) rfl)) (wl_yes rfl rfl rfl rfl rfl rfl (pv_fieldAddr rfl rfl (fun w => fa23_0 gb1 w)) (wl_yes rfl rfl rfl rfl rfl rfl (pv_load rfl rfl (fun w hw => ldF (h_gb1 w hw) rfl)) (wl_yes rfl rfl rfl rfl rfl rfl (pv_bin rfl rfl rfl (fun _ => b_neq Try.underlying3)) (wl_op rfl rfl rfl (pv_pick rfl rfl rfl) ?_)))))
          exact wl_end hJ359 (sub_cons rfl (sub_cons rfl (sub_cons rfl (sub_cons rfl (sub_cons rfl (sub_cons (congrArg (fun b => some (Value.bool b)) (show (j1.1.1 != j1.2.1) = (bif (r2_2 == 1) then (j1.1.1 != j1.2.1) else false) by simp only [hb2, cond_true, cond_false])) (sub_nil)))))))
        ·
          refine wl_no rfl rfl rfl rfl rfl rfl (wl_no rfl rfl rfl rfl rfl rfl (wl_no rfl rfl rfl rfl rfl rfl (wl_no rfl rfl rfl rfl rfl rfl (wl_no rfl rfl rfl rfl rfl rfl (wl_op rfl rfl rfl (pv_pick rfl rfl rfl) ?_)))))
          exact wl_end hJ359 (sub_cons rfl (sub_cons rfl (sub_cons rfl (sub_cons rfl (sub_cons rfl (sub_cons (congrArg (fun b => some (Value.bool b)) (show false = (bif (r2_2 == 1) then (j1.1.1 != j1.2.1) else false) by simp only [hb2, cond_true, cond_false])) (sub_nil)))))))
      ·
        exact cw_skip (GS.sub hJ73 (sub_cons rfl (sub_cons rfl (sub_nil))))
    refine cw_draw hS (by kernel_rfl) (by as_aux_lemma => kernel_rfl) (fun F hF => ?_)
    refine wq_op rfl rfl rfl (pv_move rfl rfl) (wq_op rfl rfl rfl (pv_move rfl rfl) (wq_op rfl rfl rfl (pv_bool (pv_bin rfl rfl rfl (fun _ => b_neqb Try.underlying4)) (o1)) (wq_op rfl rfl rfl (pv_move rfl rfl) (wq_yes rfl rfl rfl rfl rfl rfl (pv_move rfl rfl) (wq_yes rfl rfl rfl rfl rfl rfl (pv_move rfl rfl) (wq_yes rfl rfl rfl rfl rfl rfl (pv_bool (pv_bin rfl rfl rfl (fun _ => b_neq Try.underlying3)) (o2)) (wq_op rfl rfl rfl (pv_pick rfl rfl rfl) (wq_op rfl rfl rfl (pv_move rfl rfl) (wq_yes rfl rfl rfl rfl rfl rfl (pv_move rfl rfl) (wq_yes rfl rfl rfl rfl rfl rfl (pv_move rfl rfl) (wq_yes rfl rfl rfl rfl rfl rfl (pv_bool (pv_bin rfl rfl rfl (fun _ => b_neq Try.underlying3)) (o3)) ?_)))))))))))
    refine wq_op rfl rfl rfl (pv_pick rfl rfl rfl) (wq_op rfl rfl rfl (pv_move rfl rfl) (wq_yes rfl rfl rfl rfl rfl rfl (pv_move rfl rfl) (wq_yes rfl rfl rfl rfl rfl rfl (pv_move rfl rfl) (wq_yes rfl rfl rfl rfl rfl rfl (pv_bool (pv_bin rfl rfl rfl (fun _ => b_neqb Try.underlying4)) (o4)) (wq_op rfl rfl rfl (pv_pick rfl rfl rfl) (wq_op rfl rfl rfl (pv_move rfl rfl) (wq_yes rfl rfl rfl rfl rfl rfl (pv_move rfl rfl) (wq_yes rfl rfl rfl rfl rfl rfl (pv_move rfl rfl) (wq_yes rfl rfl rfl rfl rfl rfl (pv_bool (pv_bin rfl rfl rfl (fun _ => b_neq Try.underlying3)) (o5)) (wq_op rfl rfl rfl (pv_pick rfl rfl rfl) (wq_op rfl rfl rfl (pv_move rfl rfl) ?_)))))))))))
    refine wq_yes rfl rfl rfl rfl rfl rfl (pv_move rfl rfl) (wq_yes rfl rfl rfl rfl rfl rfl (pv_move rfl rfl) (wq_yes rfl rfl rfl rfl rfl rfl (pv_bool (pv_bin rfl rfl rfl (fun _ => b_neqb Try.underlying4)) (o6)) (wq_op rfl rfl rfl (pv_pick rfl rfl rfl) (wq_op rfl rfl rfl (pv_move rfl rfl) (wq_yes rfl rfl rfl rfl rfl rfl (pv_move rfl rfl) (wq_yes rfl rfl rfl rfl rfl rfl (pv_move rfl rfl) (wq_yes rfl rfl rfl rfl rfl rfl (pv_bool (pv_bin rfl rfl rfl (fun _ => b_neq Try.underlying3)) (o7)) (wq_op rfl rfl rfl (pv_pick rfl rfl rfl) (wq_op rfl rfl rfl (pv_move rfl rfl) (wq_yes rfl rfl rfl rfl rfl rfl (pv_move rfl rfl) (wq_yes rfl rfl rfl rfl rfl rfl (pv_move rfl rfl) ?_)))))))))))
    refine wq_yes rfl rfl rfl rfl rfl rfl (pv_bool (pv_bin rfl rfl rfl (fun _ => b_neqb Try.underlying4)) (o8)) (wq_op rfl rfl rfl (pv_pick rfl rfl rfl) (wq_op rfl rfl rfl (pv_move rfl rfl) (wq_yes rfl rfl rfl rfl rfl rfl (pv_move rfl rfl) (wq_yes rfl rfl rfl rfl rfl rfl (pv_move rfl rfl) (wq_yes rfl rfl rfl rfl rfl rfl (pv_bool (pv_bin rfl rfl rfl (fun _ => b_neqb Try.underlying4)) (o9)) (wq_op rfl rfl rfl (pv_pick rfl rfl rfl) (wq_op rfl rfl rfl (pv_move rfl rfl) (wq_yes rfl rfl rfl rfl rfl rfl (pv_move rfl rfl) (wq_yes rfl rfl rfl rfl rfl rfl (pv_load rfl rfl (fun w hw => qld23 j1.1.1 j1.1.2 gb0 w (h_gb0 w hw))) (wq_yes rfl rfl rfl rfl rfl rfl (pv_call_b hS rfl rfl Try.func13 (by kernel_rfl) rfl C10) (wq_yes rfl rfl rfl rfl rfl rfl (pv_move rfl rfl) ?_)))))))))))
    refine wq_split (t := 174) rfl (fun hb1 => ?_) (fun hb1 => ?_)
    ·
      refine wq_yes rfl rfl rfl rfl rfl rfl (pv_load rfl rfl (fun w hw => qld23 j1.2.1 j1.2.2 gb1 w (h_gb1 w hw))) (wq_yes rfl rfl rfl rfl rfl rfl (pv_call_b hS rfl rfl Try.func13 (by kernel_rfl) rfl (C11 hb1)) (wq_yes rfl rfl rfl rfl rfl rfl (pv_pick rfl rfl rfl) (wq_yes rfl rfl rfl rfl rfl rfl (pv_bool (pv_bin rfl rfl rfl (fun _ => b_neqb Try.underlying4)) (o10 hb1)) (wq_op rfl rfl rfl (pv_pick rfl rfl rfl) (wq_op rfl rfl rfl (pv_move rfl rfl) (wq_yes rfl rfl rfl rfl rfl rfl (pv_load rfl rfl (fun w hw => qld23 j1.1.1 j1.1.2 gb0 w (h_gb0 w hw))) (wq_yes rfl rfl rfl rfl rfl rfl (pv_call_b hS rfl rfl Try.func13 (by kernel_rfl) rfl C10) (wq_yes rfl rfl rfl rfl rfl rfl (pv_load rfl rfl (fun w hw => qld23 j1.1.1 j1.1.2 gb0 w (h_gb0 w hw))) (wq_yes rfl rfl rfl rfl rfl rfl (pv_call_b hS rfl rfl Try.func14 (by kernel_rfl) rfl C12) (wq_yes rfl rfl rfl rfl rfl rfl (pv_bool (pv_bin rfl rfl rfl (fun _ => b_neqb Try.underlying4)) (o11 hb1)) (wq_op rfl rfl rfl (pv_pick rfl rfl rfl) ?_)))))))))))
      refine wq_op rfl rfl rfl (pv_move rfl rfl) (wq_yes rfl rfl rfl rfl rfl rfl (pv_move rfl rfl) (wq_yes rfl rfl rfl rfl rfl rfl (pv_move rfl rfl) (wq_yes rfl rfl rfl rfl rfl rfl (pv_bool (pv_bin rfl rfl rfl (fun _ => b_neqb Try.underlying4)) (o12 hb1)) (wq_op rfl rfl rfl (pv_pick rfl rfl rfl) (wq_op rfl rfl rfl (pv_move rfl rfl) (wq_yes rfl rfl rfl rfl rfl rfl (pv_move rfl rfl) (wq_yes rfl rfl rfl rfl rfl rfl (pv_move rfl rfl) (wq_yes rfl rfl rfl rfl rfl rfl (pv_bool (pv_bin rfl rfl rfl (fun _ => b_neqb Try.underlying4)) (o13 hb1)) (wq_op rfl rfl rfl (pv_pick rfl rfl rfl) (wq_op rfl rfl rfl (pv_move rfl rfl) (wq_yes rfl rfl rfl rfl rfl rfl (pv_move rfl rfl) ?_)))))))))))
      refine wq_yes rfl rfl rfl rfl rfl rfl (pv_move rfl rfl) (wq_yes rfl rfl rfl rfl rfl rfl (pv_bool (pv_bin rfl rfl rfl (fun _ => b_neqb Try.underlying4)) (o14 hb1)) (wq_op rfl rfl rfl (pv_pick rfl rfl rfl) ?_))
      exact wq_end hF (sub_cons rfl (sub_cons rfl (sub_cons rfl (sub_cons rfl (sub_cons rfl (sub_cons rfl (sub_cons rfl (sub_cons rfl (sub_cons rfl (sub_cons rfl (sub_cons rfl (sub_nil)))))))))))) hJ64
    ·
      refine wq_no rfl rfl rfl rfl rfl rfl (wq_no rfl rfl rfl rfl rfl rfl (wq_yes rfl rfl rfl rfl rfl rfl (pv_pick rfl rfl rfl) (wq_yes rfl rfl rfl rfl rfl rfl (pv_bool (pv_bin rfl rfl rfl (fun _ => b_neqb Try.underlying4)) (o15 hb1)) (wq_op rfl rfl rfl (pv_pick rfl rfl rfl) (wq_op rfl rfl rfl (pv_move rfl rfl) (wq_yes rfl rfl rfl rfl rfl rfl (pv_load rfl rfl (fun w hw => qld23 j1.1.1 j1.1.2 gb0 w (h_gb0 w hw))) (wq_yes rfl rfl rfl rfl rfl rfl (pv_call_b hS rfl rfl Try.func13 (by kernel_rfl) rfl C10) (wq_yes rfl rfl rfl rfl rfl rfl (pv_load rfl rfl (fun w hw => qld23 j1.1.1 j1.1.2 gb0 w (h_gb0 w hw))) (wq_yes rfl rfl rfl rfl rfl rfl (pv_call_b hS rfl rfl Try.func14 (by kernel_rfl) rfl C12) (wq_yes rfl rfl rfl rfl rfl rfl (pv_bool (pv_bin rfl rfl rfl (fun _ => b_neqb Try.underlying4)) (o16 hb1)) (wq_op rfl rfl rfl (pv_pick rfl rfl rfl) ?_)))))))))))
      refine wq_op rfl rfl rfl (pv_move rfl rfl) (wq_yes rfl rfl rfl rfl rfl rfl (pv_move rfl rfl) (wq_yes rfl rfl rfl rfl rfl rfl (pv_move rfl rfl) (wq_yes rfl rfl rfl rfl rfl rfl (pv_bool (pv_bin rfl rfl rfl (fun _ => b_neqb Try.underlying4)) (o17 hb1)) (wq_op rfl rfl rfl (pv_pick rfl rfl rfl) (wq_op rfl rfl rfl (pv_move rfl rfl) (wq_yes rfl rfl rfl rfl rfl rfl (pv_move rfl rfl) (wq_yes rfl rfl rfl rfl rfl rfl (pv_move rfl rfl) (wq_yes rfl rfl rfl rfl rfl rfl (pv_bool (pv_bin rfl rfl rfl (fun _ => b_neqb Try.underlying4)) (o18 hb1)) (wq_op rfl rfl rfl (pv_pick rfl rfl rfl) (wq_op rfl rfl rfl (pv_move rfl rfl) (wq_yes rfl rfl rfl rfl rfl rfl (pv_move rfl rfl) ?_)))))))))))
      refine wq_yes rfl rfl rfl rfl rfl rfl (pv_move rfl rfl) (wq_yes rfl rfl rfl rfl rfl rfl (pv_bool (pv_bin rfl rfl rfl (fun _ => b_neqb Try.underlying4)) (o19 hb1)) (wq_op rfl rfl rfl (pv_pick rfl rfl rfl) ?_))
      exact wq_end hF (sub_cons rfl (sub_cons rfl (sub_cons rfl (sub_cons rfl (sub_cons rfl (sub_cons rfl (sub_cons rfl (sub_cons rfl (sub_cons rfl (sub_cons rfl (sub_cons rfl (sub_nil)))))))))))) hJ64
  refine cw_cond rfl (fun hb1 => ?_) (fun hb1 => ?_)
  ·
    refine cw_seq (fun G403 hG403 => ?_)
    refine cw_region ?_
    refine wl_op rfl rfl rfl (pv_assign rfl rfl) ?_
    refine wl_end (s' := ofL [(0, .slice A0 l0.length c0), (1, .slice A1 l1.length c1), (4, .bool true)]) (hG403 _ _ ?_) (sub_cons rfl (sub_cons rfl (sub_cons rfl (sub_nil))))
    exact cw_ret_true (w0 := w0) rfl rfl hB
  ·
    exact cw_skip (GS.sub hJ9 (sub_cons rfl (sub_cons rfl (sub_cons rfl (sub_nil)))))
end Go.Proofs.Ythjkpjncamahhaa.LwFnWaysReflect
