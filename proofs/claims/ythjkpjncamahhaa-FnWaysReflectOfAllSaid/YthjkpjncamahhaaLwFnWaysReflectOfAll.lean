/- The walk of FnWaysReflectOfAll: where its callees answer as told and what is asked of their answers holds, the call answers true. No condition. -/
import Derived.Test.YthjkpjncamahhaaQFnWaysReflectOfAllx0
import Derived.Test.YthjkpjncamahhaaQFnWaysReflectOfAllx1
import Derived.Test.YthjkpjncamahhaaQFnWaysReflectOfAllx2
import Derived.Test.YthjkpjncamahhaaQFnWaysReflectOfAllx3
import Derived.Test.YthjkpjncamahhaaQFnWaysReflectOfAllx4
import Derived.Test.YthjkpjncamahhaaEng
namespace Go.Proofs.Ythjkpjncamahhaa.LwFnWaysReflectOfAll
open Go Go.RowKit Go.Proofs.Ythjkpjncamahhaa.E Go.Proofs.Ythjkpjncamahhaa.PFnWaysReflectOfAll Go.Proofs.YthjkpjncamahhaaW.PrintWords Go.Proofs.YthjkpjncamahhaaW.PrintLast
set_option linter.unusedVariables false
set_option linter.unusedSimpArgs false
theorem box23 (a0 a1 : Int) (w : World) : (Instr.box 23 (.agg #[.int .i64 a0, .int .i64 a1])).run Try.prog w = .ok (.pointer (some ⟨w.heap.size, 0, none⟩)) (w.alloc (.cells #[.int .i64 a0, .int .i64 a1] 23)) := by
  have h := Try.underlying23
  go_simp
theorem ld23 (a0 a1 : Int) (g : Nat) (w : World) (hb : w.heap[g]? = some (.cells #[.int .i64 a0, .int .i64 a1] 23)) : (Instr.loadAt 23 (.pointer (some ⟨g, 0, none⟩))).run Try.prog w = .ok (.agg #[.int .i64 a0, .int .i64 a1]) w := by
  have h := Try.underlying23
  have h0 : w.cell? ⟨g, 0, none⟩ = some (.int .i64 a0) := (blk_cell hb 0).trans rfl
  have h1 : w.cell? ⟨g, 1, none⟩ = some (.int .i64 a1) := (blk_cell hb 1).trans rfl
  go_simp
theorem fa23_0 (g : Nat) (w : World) : (Instr.fieldAt 23 (.pointer (some ⟨g, 0, none⟩)) 0).run Try.prog w = .ok (.pointer (some ⟨g, 0, none⟩)) w := by
  have h := Try.underlying23
  go_simp
theorem fa23_1 (g : Nat) (w : World) : (Instr.fieldAt 23 (.pointer (some ⟨g, 0, none⟩)) 1).run Try.prog w = .ok (.pointer (some ⟨g, 1, none⟩)) w := by
  have h := Try.underlying23
  go_simp
theorem ldF {g f t : Nat} {cs : Array Value} {a : Int} {w : World} (hb : w.heap[g]? = some (.cells cs t)) (hf : cs[f]? = some (.int .i64 a)) : (Instr.loadAt 3 (.pointer (some ⟨g, f, none⟩))).run Try.prog w = .ok (.int .i64 a) w := by
  have h := Try.underlying3
  have h1 : w.cell? ⟨g, f, none⟩ = some (.int .i64 a) := (blk_cell hb f).trans hf
  go_simp
theorem al23 (w : World) : (Instr.alloc 23 true (.tuple #[])).run Try.prog w = .ok (.pointer (some ⟨w.heap.size, 0, none⟩)) (w.alloc (.cells #[.int .i64 0, .int .i64 0] 23)) := by
  have h := Try.underlying23
  go_simp
theorem st23 (a0 a1 : Int) (w : World) : ∃ w', (Instr.storeAt 23 (.pointer (some ⟨w.heap.size, 0, none⟩)) (.agg #[.int .i64 a0, .int .i64 a1])).run Try.prog (w.alloc (.cells #[.int .i64 0, .int .i64 0] 23)) = .ok () w' ∧ Below w.heap.size w w' ∧ w'.heap[w.heap.size]? = some (.cells #[.int .i64 a0, .int .i64 a1] 23) := by
  have h := Try.underlying23
  have hb := blk_new w (.cells #[.int .i64 0, .int .i64 0] 23)
  have h0 : (w.alloc (.cells #[.int .i64 0, .int .i64 0] 23)).cell? ⟨w.heap.size, 0, none⟩ = some (.int .i64 0) := (blk_cell hb 0).trans rfl
  have h1 : (w.alloc (.cells #[.int .i64 0, .int .i64 0] 23)).cell? ⟨w.heap.size, 1, none⟩ = some (.int .i64 0) := (blk_cell hb 1).trans rfl
  go_simp
  exact ⟨below_alloc (Below.refl _ _) _, (Array.getElem?_eq_some_iff.1 (blk_new w _)).2⟩
theorem ix37 (w : World) (ad : Addr) (m k : Nat) (i : Int) (h0 : 0 ≤ i) (h1 : i < m) : (Instr.indexAt 37 (.slice (some ad) m k) (.int .i64 i)).run Try.prog w = .ok (.pointer (some (ad.add i.toNat))) w := by
  have h := Try.underlying37
  have p1 : (0 ≤ i) = True := eq_true h0
  have p2 : (i < (m : Int)) = True := eq_true h1
  go_simp
theorem ldI (w : World) (ad : Addr) (v : Int) (hc : w.cell? ad = some (.int .i64 v)) : (Instr.loadAt 3 (.pointer (some ad))).run Try.prog w = .ok (.int .i64 v) w := by
  have h := Try.underlying3
  go_simp
/-- What the callees answer. -/
def Ans (a0_0 : Int) (a0_1 : Int) (a1_0 : Int) (a1_1 : Int) (a2_0 : Int) (a2_1 : Int) (a3_0 : Int) (a3_1 : Int) (a4_0 : Int) (a4_1 : Int) (a5 : Int) (a6 : Int) (r1_1 : Int) (r1_2 : Int) (r1_3 : Bool) (r2_1 : Int) (r2_2 : Int) (r2_3 : Bool) (r3_1 : Int) (r3_2 : Bool) (r4_1 : Int) (r4_2 : Bool) (r5_1 : Int) (r5_2 : Bool) (r6_1 : Int) (r6_2 : Bool) (r7_1 : Bool) (r7_2 : Bool) (r8_1 : Bool) (r8_2 : Bool) (r9 : Bool) (r10 : Bool) (r11 : Bool) (r12_1 : ByteArray) (r12_2 : Bool) (r13_1 : ByteArray) (r13_2 : Bool) (r14_1 : Int) (r14_2 : Bool) (r15_1 : Int) (r15_2 : Bool) (r16_1 : List Int) (r16_2 : List Int) (r16_3 : Bool) (r17_1 : List Int) (r17_2 : List Int) (r17_3 : Bool) (r18_1 : Int) (r18_2 : Int) (r18_3 : Bool) (r19_1 : Int) (r19_2 : Int) (r19_3 : Bool) (r20 : Bool) (r21 : Bool) (r22 : Bool) (r23 : Int) (r24 : Int) (r25_1 : Int) (r25_2 : Bool) (r26_1 : ByteArray) (r26_2 : Bool) (r27 : Bool) (r28 : Bool) (r29_1 : Int) (r29_2 : Int) (r29_3 : Bool) (r30_1 : Int) (r30_2 : Bool) (r31_1 : Int) (r31_2 : Int) (r31_3 : Bool) (r32_1 : Int) (r32_2 : Int) (r32_3 : Bool) (r33_1 : Int) (r33_2 : Int) (r33_3 : Bool) (r34 : Bool) (r35_1 : Int) (r35_2 : Int) (r35_3 : Bool) : Prop :=
  (∃ k, impl_TouchOf.f k a0_0 a0_1 a1_0 a1_1 = some (r1_1, r1_2, r1_3)) ∧
  (∃ k, spec_TouchOf.f k a0_0 a0_1 a1_0 a1_1 = some (r2_1, r2_2, r2_3)) ∧
  (impl_SquareByMirror.f a0_0 a0_1 a1_0 a1_1 = some (r3_1, r3_2)) ∧
  (spec_SquareByMirror.f a0_0 a0_1 a1_0 a1_1 = some (r4_1, r4_2)) ∧
  (impl_SquareStraight.f a0_0 a0_1 a1_0 a1_1 = some (r5_1, r5_2)) ∧
  (spec_SquareStraight.f a0_0 a0_1 a1_0 a1_1 = some (r6_1, r6_2)) ∧
  (∃ k, impl_IsWholeTouch.f k a0_0 a0_1 a1_0 a1_1 = some (r7_1, r7_2)) ∧
  (∃ k, spec_IsWholeTouch.f k a0_0 a0_1 a1_0 a1_1 = some (r8_1, r8_2)) ∧
  (impl_IsSpot.f a0_0 a0_1 = some r9) ∧
  (r9 = true → impl_IsSpot.f a1_0 a1_1 = some r10) ∧
  (spec_IsSpot.f a0_0 a0_1 = some r11) ∧
  (impl_OrderByCorner.f a2_0 a2_1 a3_0 a3_1 = some (r12_1, r12_2)) ∧
  (spec_OrderByCorner.f a2_0 a2_1 a3_0 a3_1 = some (r13_1, r13_2)) ∧
  (impl_SquareByCorner.f a2_0 a2_1 a3_0 a3_1 = some (r14_1, r14_2)) ∧
  (spec_SquareByCorner.f a2_0 a2_1 a3_0 a3_1 = some (r15_1, r15_2)) ∧
  (∃ k, impl_TouchesByCorner.f k a2_0 a2_1 a3_0 a3_1 = some (r16_1, r16_2, r16_3)) ∧
  (∃ k, spec_TouchesByCorner.f k a2_0 a2_1 a3_0 a3_1 = some (r17_1, r17_2, r17_3)) ∧
  (∃ k, impl_HeightForTouch.f k a4_0 a4_1 a5 a6 = some (r18_1, r18_2, r18_3)) ∧
  (∃ k, spec_HeightForTouch.f k a4_0 a4_1 a5 a6 = some (r19_1, r19_2, r19_3)) ∧
  (∃ k, laws_jSame.f k r16_1 r17_1 = some r20) ∧
  (∃ k, laws_jSame.f k r16_2 r17_2 = some r21) ∧
  (r18_3 = true → ∃ k, laws_jLow.f k r18_1 r18_2 = some r22) ∧
  (r18_3 = true → laws_jSize.f (wrap64 (a6 - a4_0)) = some r23) ∧
  (r18_3 = true → laws_jSize.f (wrap64 (a5 - a6)) = some r24) ∧
  (r12_2 = true → impl_SquareByMirror.f a2_0 a2_1 a3_0 a3_1 = some (r25_1, r25_2)) ∧
  (r12_2 = true → impl_OrderByCorner.f a3_0 a3_1 a2_0 a2_1 = some (r26_1, r26_2)) ∧
  (r12_2 = true → ∃ k, laws_jLow.f k (rd r16_1 0) (rd r16_1 1) = some r27) ∧
  (r12_2 = true → ∃ k, laws_jLow.f k (rd r16_2 0) (rd r16_2 1) = some r28) ∧
  (r1_3 = true → ∃ k, impl_TouchOf.f k a1_0 a1_1 a0_0 a0_1 = some (r29_1, r29_2, r29_3)) ∧
  (r1_3 = true → impl_SquareByMirror.f a1_0 a1_1 a0_0 a0_1 = some (r30_1, r30_2)) ∧
  (r1_3 = true → impl_TurnSpot.f a0_0 a0_1 = some (r31_1, r31_2, r31_3)) ∧
  (r1_3 = true → impl_TurnSpot.f a1_0 a1_1 = some (r32_1, r32_2, r32_3)) ∧
  (r1_3 = true → ∃ k, impl_TouchOf.f k r31_1 r31_2 r32_1 r32_2 = some (r33_1, r33_2, r33_3)) ∧
  (r1_3 = true → ∃ k, laws_jLow.f k r1_1 r1_2 = some r34) ∧
  (r1_3 = true → (bif (r1_2 == 1) then (a0_0 != a1_0) else false) = true → ∃ k, impl_HeightForTouch.f k a0_0 a0_1 a1_0 r1_1 = some (r35_1, r35_2, r35_3))
/-- What is to be shown of their answers. -/
def Obl (a0_0 : Int) (a0_1 : Int) (a1_0 : Int) (a1_1 : Int) (a2_0 : Int) (a2_1 : Int) (a3_0 : Int) (a3_1 : Int) (a4_0 : Int) (a4_1 : Int) (a5 : Int) (a6 : Int) (r1_1 : Int) (r1_2 : Int) (r1_3 : Bool) (r2_1 : Int) (r2_2 : Int) (r2_3 : Bool) (r3_1 : Int) (r3_2 : Bool) (r4_1 : Int) (r4_2 : Bool) (r5_1 : Int) (r5_2 : Bool) (r6_1 : Int) (r6_2 : Bool) (r7_1 : Bool) (r7_2 : Bool) (r8_1 : Bool) (r8_2 : Bool) (r9 : Bool) (r10 : Bool) (r11 : Bool) (r12_1 : ByteArray) (r12_2 : Bool) (r13_1 : ByteArray) (r13_2 : Bool) (r14_1 : Int) (r14_2 : Bool) (r15_1 : Int) (r15_2 : Bool) (r16_1 : List Int) (r16_2 : List Int) (r16_3 : Bool) (r17_1 : List Int) (r17_2 : List Int) (r17_3 : Bool) (r18_1 : Int) (r18_2 : Int) (r18_3 : Bool) (r19_1 : Int) (r19_2 : Int) (r19_3 : Bool) (r20 : Bool) (r21 : Bool) (r22 : Bool) (r23 : Int) (r24 : Int) (r25_1 : Int) (r25_2 : Bool) (r26_1 : ByteArray) (r26_2 : Bool) (r27 : Bool) (r28 : Bool) (r29_1 : Int) (r29_2 : Int) (r29_3 : Bool) (r30_1 : Int) (r30_2 : Bool) (r31_1 : Int) (r31_2 : Int) (r31_3 : Bool) (r32_1 : Int) (r32_2 : Int) (r32_3 : Bool) (r33_1 : Int) (r33_2 : Int) (r33_3 : Bool) (r34 : Bool) (r35_1 : Int) (r35_2 : Int) (r35_3 : Bool) : Prop :=
  /- 876 -/ ((r1_3 != r2_3) = false) ∧
  /- 876 -/ ((r1_1 != r2_1) = false) ∧
  /- 876 -/ ((r1_2 != r2_2) = false) ∧
  /- 876 -/ ((r3_2 != r4_2) = false) ∧
  /- 876 -/ ((r3_1 != r4_1) = false) ∧
  /- 876 -/ ((r5_2 != r6_2) = false) ∧
  /- 876 -/ ((r5_1 != r6_1) = false) ∧
  /- 876 -/ ((r7_2 != r8_2) = false) ∧
  /- 876 -/ ((r7_1 != r8_1) = false) ∧
  /- 876 -/ (r9 = true → (r1_3 != r10) = false) ∧
  /- 876 -/ (r9 = true → (r9 != r11) = false) ∧
  /- 876 -/ (r9 = true → (r3_2 != r1_3) = false) ∧
  /- 876 -/ (r9 = true → (r5_2 != r1_3) = false) ∧
  /- 876 -/ (r9 = true → (r7_2 != r1_3) = false) ∧
  /- 876 -/ (r9 = false → (r1_3 != false) = false) ∧
  /- 876 -/ (r9 = false → (r9 != r11) = false) ∧
  /- 876 -/ (r9 = false → (r3_2 != r1_3) = false) ∧
  /- 876 -/ (r9 = false → (r5_2 != r1_3) = false) ∧
  /- 876 -/ (r9 = false → (r7_2 != r1_3) = false) ∧
  /- 885 -/ (r1_3 = true → r34 = true) ∧
  /- 885 -/ (r1_3 = true → (r7_1 != (r1_2 == 1)) = false) ∧
  /- 885 -/ (r1_3 = true → (r3_1 != (wrap64 (r5_1 + (wrap64 ((wrap64 (4 * a0_1)) * a1_1))))) = false) ∧
  /- 885 -/ (r1_3 = true → ((wrap64 ((wrap64 (r1_1 - (wrap64 (a0_0 * r1_2)))) * a1_1)) != (wrap64 ((wrap64 ((wrap64 (a1_0 * r1_2)) - r1_1)) * a0_1))) = false) ∧
  /- 885 -/ (r1_3 = true → r29_3 = true) ∧
  /- 885 -/ (r1_3 = true → (r29_1 != r1_1) = false) ∧
  /- 885 -/ (r1_3 = true → (r29_2 != r1_2) = false) ∧
  /- 885 -/ (r1_3 = true → r30_2 = true) ∧
  /- 885 -/ (r1_3 = true → (r30_1 != r3_1) = false) ∧
  /- 885 -/ (r1_3 = true → r31_3 = true) ∧
  /- 885 -/ (r1_3 = true → r32_3 = true) ∧
  /- 885 -/ (r1_3 = true → r33_3 = true) ∧
  /- 885 -/ (r1_3 = true → (r33_1 != (wrap64 (-r1_1))) = false) ∧
  /- 885 -/ (r1_3 = true → (r33_2 != r1_2) = false) ∧
  /- 890 -/ (r1_3 = true → (bif (r1_2 == 1) then (a0_0 != a1_0) else false) = true → r35_3 = true) ∧
  /- 890 -/ (r1_3 = true → (bif (r1_2 == 1) then (a0_0 != a1_0) else false) = true → (r35_1 != a1_1) = false) ∧
  /- 890 -/ (r1_3 = true → (bif (r1_2 == 1) then (a0_0 != a1_0) else false) = true → (r35_2 != 1) = false) ∧
  /- 903 -/ ((r12_2 != r13_2) = false) ∧
  /- 903 -/ ((r12_1.toList != r13_1.toList) = false) ∧
  /- 903 -/ ((r14_2 != r15_2) = false) ∧
  /- 903 -/ ((r14_1 != r15_1) = false) ∧
  /- 903 -/ ((r16_3 != r17_3) = false) ∧
  /- 903 -/ (r20 = true) ∧
  /- 903 -/ (r21 = true) ∧
  /- 903 -/ ((r18_3 != r19_3) = false) ∧
  /- 903 -/ ((r18_1 != r19_1) = false) ∧
  /- 903 -/ ((r18_2 != r19_2) = false) ∧
  /- 903 -/ ((r14_2 != r12_2) = false) ∧
  /- 903 -/ ((r16_3 != r12_2) = false) ∧
  /- 909 -/ (r12_2 = true → r25_2 = true) ∧
  /- 909 -/ (r12_2 = true → (r14_1 != (wrap64 (r25_1 + (wrap64 ((wrap64 (4 * a2_0)) * a3_0))))) = false) ∧
  /- 909 -/ (r12_2 = true → r26_2 = true) ∧
  /- 909 -/ (r12_2 = true → (((r16_1.length : Int)) != 2) = false) ∧
  /- 909 -/ (r12_2 = true → (((r16_2.length : Int)) != 2) = false) ∧
  /- 909 -/ (r12_2 = true → (decide (0 < (r16_1.length : Int))) = true) ∧
  /- 909 -/ (r12_2 = true → (decide (1 < (r16_1.length : Int))) = true) ∧
  /- 909 -/ (r12_2 = true → r27 = true) ∧
  /- 909 -/ (r12_2 = true → (decide (0 < (r16_2.length : Int))) = true) ∧
  /- 909 -/ (r12_2 = true → (decide (1 < (r16_2.length : Int))) = true) ∧
  /- 909 -/ (r12_2 = true → r28 = true) ∧
  /- 909 -/ (r12_2 = true → (decide (0 < (r16_1.length : Int))) = true) ∧
  /- 909 -/ (r12_2 = true → (decide ((rd r16_1 0) < 0)) = false) ∧
  /- 909 -/ (r12_2 = true → (decide (0 < (r16_2.length : Int))) = true) ∧
  /- 909 -/ (r12_2 = true → (decide ((rd r16_2 0) < 0)) = false) ∧
  /- 909 -/ (r12_2 = true → (decide (0 < (r16_1.length : Int))) = true) ∧
  /- 909 -/ (r12_2 = true → ((r12_1.toList == ((⟨#[99]⟩ : ByteArray)).toList) != ((rd r16_1 0) == 0)) = false) ∧
  /- 909 -/ (r12_2 = true → (decide (0 < (r16_2.length : Int))) = true) ∧
  /- 909 -/ (r12_2 = true → ((r12_1.toList == ((⟨#[99]⟩ : ByteArray)).toList) != ((rd r16_2 0) == 0)) = false) ∧
  /- 909 -/ (r12_2 = true → ((r12_1.toList == ((⟨#[99]⟩ : ByteArray)).toList) != ((wrap64 (a2_0 * a3_1)) == (wrap64 (a3_0 * a2_1)))) = false) ∧
  /- 913 -/ (r12_2 = true → (r12_1.toList == ((⟨#[103, 119]⟩ : ByteArray)).toList) = true → (r26_1.toList != ((⟨#[119, 103]⟩ : ByteArray)).toList) = false) ∧
  /- 913 -/ (r12_2 = true → (r12_1.toList == ((⟨#[103, 119]⟩ : ByteArray)).toList) = true → (r12_1.toList == ((⟨#[119, 103]⟩ : ByteArray)).toList) = true → (r26_1.toList != ((⟨#[103, 119]⟩ : ByteArray)).toList) = false) ∧
  /- 913 -/ (r12_2 = true → (r12_1.toList == ((⟨#[103, 119]⟩ : ByteArray)).toList) = true → (r12_1.toList == ((⟨#[119, 103]⟩ : ByteArray)).toList) = true → (r12_1.toList == ((⟨#[99]⟩ : ByteArray)).toList) = true → (r26_1.toList != ((⟨#[99]⟩ : ByteArray)).toList) = false) ∧
  /- 913 -/ (r12_2 = true → (r12_1.toList == ((⟨#[103, 119]⟩ : ByteArray)).toList) = true → (r12_1.toList == ((⟨#[119, 103]⟩ : ByteArray)).toList) = false → (r12_1.toList == ((⟨#[99]⟩ : ByteArray)).toList) = true → (r26_1.toList != ((⟨#[99]⟩ : ByteArray)).toList) = false) ∧
  /- 913 -/ (r12_2 = true → (r12_1.toList == ((⟨#[103, 119]⟩ : ByteArray)).toList) = false → (r12_1.toList == ((⟨#[119, 103]⟩ : ByteArray)).toList) = true → (r26_1.toList != ((⟨#[103, 119]⟩ : ByteArray)).toList) = false) ∧
  /- 913 -/ (r12_2 = true → (r12_1.toList == ((⟨#[103, 119]⟩ : ByteArray)).toList) = false → (r12_1.toList == ((⟨#[119, 103]⟩ : ByteArray)).toList) = true → (r12_1.toList == ((⟨#[99]⟩ : ByteArray)).toList) = true → (r26_1.toList != ((⟨#[99]⟩ : ByteArray)).toList) = false) ∧
  /- 913 -/ (r12_2 = true → (r12_1.toList == ((⟨#[103, 119]⟩ : ByteArray)).toList) = false → (r12_1.toList == ((⟨#[119, 103]⟩ : ByteArray)).toList) = false → (r12_1.toList == ((⟨#[99]⟩ : ByteArray)).toList) = true → (r26_1.toList != ((⟨#[99]⟩ : ByteArray)).toList) = false) ∧
  /- 917 -/ (r18_3 = true → r22 = true) ∧
  /- 917 -/ (r18_3 = true → (decide (r18_1 < 1)) = false) ∧
  /- 917 -/ (r18_3 = true → ((wrap64 (r18_1 * r23)) != (wrap64 ((wrap64 (a4_1 * r24)) * r18_2))) = false)
set_option maxRecDepth 100000 in
set_option maxHeartbeats 4000000 in
theorem walk (a0_0 : Int) (a0_1 : Int) (a1_0 : Int) (a1_1 : Int) (a2_0 : Int) (a2_1 : Int) (a3_0 : Int) (a3_1 : Int) (a4_0 : Int) (a4_1 : Int) (a5 : Int) (a6 : Int) (r1_1 : Int) (r1_2 : Int) (r1_3 : Bool) (r2_1 : Int) (r2_2 : Int) (r2_3 : Bool) (r3_1 : Int) (r3_2 : Bool) (r4_1 : Int) (r4_2 : Bool) (r5_1 : Int) (r5_2 : Bool) (r6_1 : Int) (r6_2 : Bool) (r7_1 : Bool) (r7_2 : Bool) (r8_1 : Bool) (r8_2 : Bool) (r9 : Bool) (r10 : Bool) (r11 : Bool) (r12_1 : ByteArray) (r12_2 : Bool) (r13_1 : ByteArray) (r13_2 : Bool) (r14_1 : Int) (r14_2 : Bool) (r15_1 : Int) (r15_2 : Bool) (r16_1 : List Int) (r16_2 : List Int) (r16_3 : Bool) (r17_1 : List Int) (r17_2 : List Int) (r17_3 : Bool) (r18_1 : Int) (r18_2 : Int) (r18_3 : Bool) (r19_1 : Int) (r19_2 : Int) (r19_3 : Bool) (r20 : Bool) (r21 : Bool) (r22 : Bool) (r23 : Int) (r24 : Int) (r25_1 : Int) (r25_2 : Bool) (r26_1 : ByteArray) (r26_2 : Bool) (r27 : Bool) (r28 : Bool) (r29_1 : Int) (r29_2 : Int) (r29_3 : Bool) (r30_1 : Int) (r30_2 : Bool) (r31_1 : Int) (r31_2 : Int) (r31_3 : Bool) (r32_1 : Int) (r32_2 : Int) (r32_3 : Bool) (r33_1 : Int) (r33_2 : Int) (r33_3 : Bool) (r34 : Bool) (r35_1 : Int) (r35_2 : Int) (r35_3 : Bool) (w0 : World) (hA : Ans a0_0 a0_1 a1_0 a1_1 a2_0 a2_1 a3_0 a3_1 a4_0 a4_1 a5 a6 r1_1 r1_2 r1_3 r2_1 r2_2 r2_3 r3_1 r3_2 r4_1 r4_2 r5_1 r5_2 r6_1 r6_2 r7_1 r7_2 r8_1 r8_2 r9 r10 r11 r12_1 r12_2 r13_1 r13_2 r14_1 r14_2 r15_1 r15_2 r16_1 r16_2 r16_3 r17_1 r17_2 r17_3 r18_1 r18_2 r18_3 r19_1 r19_2 r19_3 r20 r21 r22 r23 r24 r25_1 r25_2 r26_1 r26_2 r27 r28 r29_1 r29_2 r29_3 r30_1 r30_2 r31_1 r31_2 r31_3 r32_1 r32_2 r32_3 r33_1 r33_2 r33_3 r34 r35_1 r35_2 r35_3) (hO : Obl a0_0 a0_1 a1_0 a1_1 a2_0 a2_1 a3_0 a3_1 a4_0 a4_1 a5 a6 r1_1 r1_2 r1_3 r2_1 r2_2 r2_3 r3_1 r3_2 r4_1 r4_2 r5_1 r5_2 r6_1 r6_2 r7_1 r7_2 r8_1 r8_2 r9 r10 r11 r12_1 r12_2 r13_1 r13_2 r14_1 r14_2 r15_1 r15_2 r16_1 r16_2 r16_3 r17_1 r17_2 r17_3 r18_1 r18_2 r18_3 r19_1 r19_2 r19_3 r20 r21 r22 r23 r24 r25_1 r25_2 r26_1 r26_2 r27 r28 r29_1 r29_2 r29_3 r30_1 r30_2 r31_1 r31_2 r31_3 r32_1 r32_2 r32_3 r33_1 r33_2 r33_3 r34 r35_1 r35_2 r35_3) :
    Calls Try.prog 3 #[.agg #[.int .i64 a0_0, .int .i64 a0_1], .agg #[.int .i64 a1_0, .int .i64 a1_1], .agg #[.int .i64 a2_0, .int .i64 a2_1], .agg #[.int .i64 a3_0, .int .i64 a3_1], .agg #[.int .i64 a4_0, .int .i64 a4_1], .int .i64 a5, .int .i64 a6] w0 fun e w' => e = .returned (.bool true) ∧ Below w0.heap.size w0 w' := by
  obtain ⟨c1, c2, c3, c4, c5, c6, c7, c8, c9, c10, c11, c12, c13, c14, c15, c16, c17, c18, c19, c20, c21, c22, c23, c24, c25, c26, c27, c28, c29, c30, c31, c32, c33, c34, c35⟩ := hA
  obtain ⟨o1, o2, o3, o4, o5, o6, o7, o8, o9, o10, o11, o12, o13, o14, o15, o16, o17, o18, o19, o20, o21, o22, o23, o24, o25, o26, o27, o28, o29, o30, o31, o32, o33, o34, o35, o36, o37, o38, o39, o40, o41, o42, o43, o44, o45, o46, o47, o48, o49, o50, o51, o52, o53, o54, o55, o56, o57, o58, o59, o60, o61, o62, o63, o64, o65, o66, o67, o68, o69, o70, o71, o72, o73, o74, o75, o76, o77, o78⟩ := hO
  have C1 : ∀ w, Calls Try.prog 5 #[.agg #[.int .i64 a0_0, .int .i64 a0_1], .agg #[.int .i64 a1_0, .int .i64 a1_1]] w fun e w' => e = .returned (.tuple #[.int .i64 r1_1, .int .i64 r1_2, .bool r1_3]) ∧ Below w.heap.size w w' := by
    have c := c1; obtain ⟨k, c⟩ := c; exact fun w => (impl_TouchOf.calls k a0_0 a0_1 a1_0 a1_1 _ _ _ w c).mono fun e w' ⟨he, hb⟩ => ⟨he, hb⟩
  have C2 : ∀ w, Calls Try.prog 6 #[.agg #[.int .i64 a0_0, .int .i64 a0_1], .agg #[.int .i64 a1_0, .int .i64 a1_1]] w fun e w' => e = .returned (.tuple #[.int .i64 r2_1, .int .i64 r2_2, .bool r2_3]) ∧ Below w.heap.size w w' := by
    have c := c2; obtain ⟨k, c⟩ := c; exact fun w => (spec_TouchOf.calls k a0_0 a0_1 a1_0 a1_1 _ _ _ w c).mono fun e w' ⟨he, hb⟩ => ⟨he, hb⟩
  have C3 : ∀ w, Calls Try.prog 7 #[.agg #[.int .i64 a0_0, .int .i64 a0_1], .agg #[.int .i64 a1_0, .int .i64 a1_1]] w fun e w' => e = .returned (.tuple #[.int .i64 r3_1, .bool r3_2]) ∧ Below w.heap.size w w' := by
    have c := c3; exact fun w => (impl_SquareByMirror.calls a0_0 a0_1 a1_0 a1_1 _ _ w c).mono fun e w' ⟨he, hb⟩ => ⟨he, hb⟩
  have C4 : ∀ w, Calls Try.prog 8 #[.agg #[.int .i64 a0_0, .int .i64 a0_1], .agg #[.int .i64 a1_0, .int .i64 a1_1]] w fun e w' => e = .returned (.tuple #[.int .i64 r4_1, .bool r4_2]) ∧ Below w.heap.size w w' := by
    have c := c4; exact fun w => (spec_SquareByMirror.calls a0_0 a0_1 a1_0 a1_1 _ _ w c).mono fun e w' ⟨he, hb⟩ => ⟨he, hb⟩
  have C5 : ∀ w, Calls Try.prog 9 #[.agg #[.int .i64 a0_0, .int .i64 a0_1], .agg #[.int .i64 a1_0, .int .i64 a1_1]] w fun e w' => e = .returned (.tuple #[.int .i64 r5_1, .bool r5_2]) ∧ Below w.heap.size w w' := by
    have c := c5; exact fun w => (impl_SquareStraight.calls a0_0 a0_1 a1_0 a1_1 _ _ w c).mono fun e w' ⟨he, hb⟩ => ⟨he, hb⟩
  have C6 : ∀ w, Calls Try.prog 10 #[.agg #[.int .i64 a0_0, .int .i64 a0_1], .agg #[.int .i64 a1_0, .int .i64 a1_1]] w fun e w' => e = .returned (.tuple #[.int .i64 r6_1, .bool r6_2]) ∧ Below w.heap.size w w' := by
    have c := c6; exact fun w => (spec_SquareStraight.calls a0_0 a0_1 a1_0 a1_1 _ _ w c).mono fun e w' ⟨he, hb⟩ => ⟨he, hb⟩
  have C7 : ∀ w, Calls Try.prog 11 #[.agg #[.int .i64 a0_0, .int .i64 a0_1], .agg #[.int .i64 a1_0, .int .i64 a1_1]] w fun e w' => e = .returned (.tuple #[.bool r7_1, .bool r7_2]) ∧ Below w.heap.size w w' := by
    have c := c7; obtain ⟨k, c⟩ := c; exact fun w => (impl_IsWholeTouch.calls k a0_0 a0_1 a1_0 a1_1 _ _ w c).mono fun e w' ⟨he, hb⟩ => ⟨he, hb⟩
  have C8 : ∀ w, Calls Try.prog 12 #[.agg #[.int .i64 a0_0, .int .i64 a0_1], .agg #[.int .i64 a1_0, .int .i64 a1_1]] w fun e w' => e = .returned (.tuple #[.bool r8_1, .bool r8_2]) ∧ Below w.heap.size w w' := by
    have c := c8; obtain ⟨k, c⟩ := c; exact fun w => (spec_IsWholeTouch.calls k a0_0 a0_1 a1_0 a1_1 _ _ w c).mono fun e w' ⟨he, hb⟩ => ⟨he, hb⟩
  have C9 : ∀ w, Calls Try.prog 13 #[.agg #[.int .i64 a0_0, .int .i64 a0_1]] w fun e w' => e = .returned (.bool r9) ∧ Below w.heap.size w w' := by
    have c := c9; exact fun w => (impl_IsSpot.calls a0_0 a0_1 _ w c).mono fun e w' ⟨he, hb⟩ => ⟨he, hb⟩
  have C10 : r9 = true → ∀ w, Calls Try.prog 13 #[.agg #[.int .i64 a1_0, .int .i64 a1_1]] w fun e w' => e = .returned (.bool r10) ∧ Below w.heap.size w w' := by
    intro hb1; have c := c10 hb1; exact fun w => (impl_IsSpot.calls a1_0 a1_1 _ w c).mono fun e w' ⟨he, hb⟩ => ⟨he, hb⟩
  have C11 : ∀ w, Calls Try.prog 14 #[.agg #[.int .i64 a0_0, .int .i64 a0_1]] w fun e w' => e = .returned (.bool r11) ∧ Below w.heap.size w w' := by
    have c := c11; exact fun w => (spec_IsSpot.calls a0_0 a0_1 _ w c).mono fun e w' ⟨he, hb⟩ => ⟨he, hb⟩
  have C12 : ∀ w, Calls Try.prog 18 #[.agg #[.int .i64 a2_0, .int .i64 a2_1], .agg #[.int .i64 a3_0, .int .i64 a3_1]] w fun e w' => e = .returned (.tuple #[.string r12_1, .bool r12_2]) ∧ Below w.heap.size w w' := by
    have c := c12; exact fun w => (impl_OrderByCorner.calls a2_0 a2_1 a3_0 a3_1 _ _ w c).mono fun e w' ⟨he, hb⟩ => ⟨he, hb⟩
  have C13 : ∀ w, Calls Try.prog 19 #[.agg #[.int .i64 a2_0, .int .i64 a2_1], .agg #[.int .i64 a3_0, .int .i64 a3_1]] w fun e w' => e = .returned (.tuple #[.string r13_1, .bool r13_2]) ∧ Below w.heap.size w w' := by
    have c := c13; exact fun w => (spec_OrderByCorner.calls a2_0 a2_1 a3_0 a3_1 _ _ w c).mono fun e w' ⟨he, hb⟩ => ⟨he, hb⟩
  have C14 : ∀ w, Calls Try.prog 20 #[.agg #[.int .i64 a2_0, .int .i64 a2_1], .agg #[.int .i64 a3_0, .int .i64 a3_1]] w fun e w' => e = .returned (.tuple #[.int .i64 r14_1, .bool r14_2]) ∧ Below w.heap.size w w' := by
    have c := c14; exact fun w => (impl_SquareByCorner.calls a2_0 a2_1 a3_0 a3_1 _ _ w c).mono fun e w' ⟨he, hb⟩ => ⟨he, hb⟩
  have C15 : ∀ w, Calls Try.prog 21 #[.agg #[.int .i64 a2_0, .int .i64 a2_1], .agg #[.int .i64 a3_0, .int .i64 a3_1]] w fun e w' => e = .returned (.tuple #[.int .i64 r15_1, .bool r15_2]) ∧ Below w.heap.size w w' := by
    have c := c15; exact fun w => (spec_SquareByCorner.calls a2_0 a2_1 a3_0 a3_1 _ _ w c).mono fun e w' ⟨he, hb⟩ => ⟨he, hb⟩
  have C16 : ∀ w, Calls Try.prog 22 #[.agg #[.int .i64 a2_0, .int .i64 a2_1], .agg #[.int .i64 a3_0, .int .i64 a3_1]] w fun e w' => ∃ i16 : Option Addr × Nat × Option Addr × Nat, e = .returned (.tuple #[.slice i16.1 r16_1.length i16.2.1, .slice i16.2.2.1 r16_2.length i16.2.2.2, .bool r16_3]) ∧ ((Kd.C (Kd.int .i64) w' i16.1 r16_1.length r16_1 ∧ r16_1.length ≤ i16.2.1) ∧ (Kd.C (Kd.int .i64) w' i16.2.2.1 r16_2.length r16_2 ∧ r16_2.length ≤ i16.2.2.2)) ∧ Below w.heap.size w w' := by
    have c := c16; obtain ⟨k, c⟩ := c; exact fun w => (impl_TouchesByCorner.calls k a2_0 a2_1 a3_0 a3_1 _ _ _ w c).mono fun e w' ⟨v0_, v1_, he, k0, k1, hb⟩ => by
      obtain ⟨A0, c0, rfl, n0, y0⟩ := Kd.R_reads k0
      obtain ⟨A1, c1, rfl, n1, y1⟩ := Kd.R_reads k1
      exact ⟨(A0, c0, A1, c1), he, ⟨⟨y0, n0⟩, ⟨y1, n1⟩⟩, hb⟩
  have C17 : ∀ w, Calls Try.prog 23 #[.agg #[.int .i64 a2_0, .int .i64 a2_1], .agg #[.int .i64 a3_0, .int .i64 a3_1]] w fun e w' => ∃ i17 : Option Addr × Nat × Option Addr × Nat, e = .returned (.tuple #[.slice i17.1 r17_1.length i17.2.1, .slice i17.2.2.1 r17_2.length i17.2.2.2, .bool r17_3]) ∧ ((Kd.C (Kd.int .i64) w' i17.1 r17_1.length r17_1 ∧ r17_1.length ≤ i17.2.1) ∧ (Kd.C (Kd.int .i64) w' i17.2.2.1 r17_2.length r17_2 ∧ r17_2.length ≤ i17.2.2.2)) ∧ Below w.heap.size w w' := by
    have c := c17; obtain ⟨k, c⟩ := c; exact fun w => (spec_TouchesByCorner.calls k a2_0 a2_1 a3_0 a3_1 _ _ _ w c).mono fun e w' ⟨v0_, v1_, he, k0, k1, hb⟩ => by
      obtain ⟨A0, c0, rfl, n0, y0⟩ := Kd.R_reads k0
      obtain ⟨A1, c1, rfl, n1, y1⟩ := Kd.R_reads k1
      exact ⟨(A0, c0, A1, c1), he, ⟨⟨y0, n0⟩, ⟨y1, n1⟩⟩, hb⟩
  have C18 : ∀ w, Calls Try.prog 17 #[.agg #[.int .i64 a4_0, .int .i64 a4_1], .int .i64 a5, .int .i64 a6] w fun e w' => e = .returned (.tuple #[.int .i64 r18_1, .int .i64 r18_2, .bool r18_3]) ∧ Below w.heap.size w w' := by
    have c := c18; obtain ⟨k, c⟩ := c; exact fun w => (impl_HeightForTouch.calls k a4_0 a4_1 a5 a6 _ _ _ w c).mono fun e w' ⟨he, hb⟩ => ⟨he, hb⟩
  have C19 : ∀ w, Calls Try.prog 24 #[.agg #[.int .i64 a4_0, .int .i64 a4_1], .int .i64 a5, .int .i64 a6] w fun e w' => e = .returned (.tuple #[.int .i64 r19_1, .int .i64 r19_2, .bool r19_3]) ∧ Below w.heap.size w w' := by
    have c := c19; obtain ⟨k, c⟩ := c; exact fun w => (spec_HeightForTouch.calls k a4_0 a4_1 a5 a6 _ _ _ w c).mono fun e w' ⟨he, hb⟩ => ⟨he, hb⟩
  have C20 : ∀ (A0 : Option Addr) (c0 : Nat) (A1 : Option Addr) (c1 : Nat) w, Kd.C (Kd.int .i64) w A0 r16_1.length r16_1 → r16_1.length ≤ c0 → Kd.C (Kd.int .i64) w A1 r17_1.length r17_1 → r17_1.length ≤ c1 → Calls Try.prog 25 #[.slice A0 r16_1.length c0, .slice A1 r17_1.length c1] w fun e w' => e = .returned (.bool r20) ∧ Below w.heap.size w w' := by
    have c := c20; obtain ⟨k, c⟩ := c; exact fun A0 c0 A1 c1 w p0 q0 p1 q1 => (laws_jSame.calls k _ _ r16_1 _ _ r17_1 _ w p0 q0 p1 q1 c).mono fun e w' ⟨he, hb⟩ => ⟨he, hb.below⟩
  have C21 : ∀ (A0 : Option Addr) (c0 : Nat) (A1 : Option Addr) (c1 : Nat) w, Kd.C (Kd.int .i64) w A0 r16_2.length r16_2 → r16_2.length ≤ c0 → Kd.C (Kd.int .i64) w A1 r17_2.length r17_2 → r17_2.length ≤ c1 → Calls Try.prog 25 #[.slice A0 r16_2.length c0, .slice A1 r17_2.length c1] w fun e w' => e = .returned (.bool r21) ∧ Below w.heap.size w w' := by
    have c := c21; obtain ⟨k, c⟩ := c; exact fun A0 c0 A1 c1 w p0 q0 p1 q1 => (laws_jSame.calls k _ _ r16_2 _ _ r17_2 _ w p0 q0 p1 q1 c).mono fun e w' ⟨he, hb⟩ => ⟨he, hb.below⟩
  have C22 : r18_3 = true → ∀ w, Calls Try.prog 16 #[.int .i64 r18_1, .int .i64 r18_2] w fun e w' => e = .returned (.bool r22) ∧ Below w.heap.size w w' := by
    intro hb1; have c := c22 hb1; obtain ⟨k, c⟩ := c; exact fun w => (laws_jLow.calls k r18_1 r18_2 _ w c).mono fun e w' ⟨he, hb⟩ => ⟨he, hb.below⟩
  have C23 : r18_3 = true → ∀ w, Calls Try.prog 26 #[.int .i64 (wrap64 (a6 - a4_0))] w fun e w' => e = .returned (.int .i64 r23) ∧ Below w.heap.size w w' := by
    intro hb1; have c := c23 hb1; exact fun w => (laws_jSize.calls (wrap64 (a6 - a4_0)) _ w c).mono fun e w' ⟨he, hb⟩ => ⟨he, hb.below⟩
  have C24 : r18_3 = true → ∀ w, Calls Try.prog 26 #[.int .i64 (wrap64 (a5 - a6))] w fun e w' => e = .returned (.int .i64 r24) ∧ Below w.heap.size w w' := by
    intro hb1; have c := c24 hb1; exact fun w => (laws_jSize.calls (wrap64 (a5 - a6)) _ w c).mono fun e w' ⟨he, hb⟩ => ⟨he, hb.below⟩
  have C25 : r12_2 = true → ∀ w, Calls Try.prog 7 #[.agg #[.int .i64 a2_0, .int .i64 a2_1], .agg #[.int .i64 a3_0, .int .i64 a3_1]] w fun e w' => e = .returned (.tuple #[.int .i64 r25_1, .bool r25_2]) ∧ Below w.heap.size w w' := by
    intro hb1; have c := c25 hb1; exact fun w => (impl_SquareByMirror.calls a2_0 a2_1 a3_0 a3_1 _ _ w c).mono fun e w' ⟨he, hb⟩ => ⟨he, hb⟩
  have C26 : r12_2 = true → ∀ w, Calls Try.prog 18 #[.agg #[.int .i64 a3_0, .int .i64 a3_1], .agg #[.int .i64 a2_0, .int .i64 a2_1]] w fun e w' => e = .returned (.tuple #[.string r26_1, .bool r26_2]) ∧ Below w.heap.size w w' := by
    intro hb1; have c := c26 hb1; exact fun w => (impl_OrderByCorner.calls a3_0 a3_1 a2_0 a2_1 _ _ w c).mono fun e w' ⟨he, hb⟩ => ⟨he, hb⟩
  have C27 : r12_2 = true → ∀ w, Calls Try.prog 16 #[.int .i64 (rd r16_1 0), .int .i64 (rd r16_1 1)] w fun e w' => e = .returned (.bool r27) ∧ Below w.heap.size w w' := by
    intro hb1; have c := c27 hb1; obtain ⟨k, c⟩ := c; exact fun w => (laws_jLow.calls k (rd r16_1 0) (rd r16_1 1) _ w c).mono fun e w' ⟨he, hb⟩ => ⟨he, hb.below⟩
  have C28 : r12_2 = true → ∀ w, Calls Try.prog 16 #[.int .i64 (rd r16_2 0), .int .i64 (rd r16_2 1)] w fun e w' => e = .returned (.bool r28) ∧ Below w.heap.size w w' := by
    intro hb1; have c := c28 hb1; obtain ⟨k, c⟩ := c; exact fun w => (laws_jLow.calls k (rd r16_2 0) (rd r16_2 1) _ w c).mono fun e w' ⟨he, hb⟩ => ⟨he, hb.below⟩
  have C29 : r1_3 = true → ∀ w, Calls Try.prog 5 #[.agg #[.int .i64 a1_0, .int .i64 a1_1], .agg #[.int .i64 a0_0, .int .i64 a0_1]] w fun e w' => e = .returned (.tuple #[.int .i64 r29_1, .int .i64 r29_2, .bool r29_3]) ∧ Below w.heap.size w w' := by
    intro hb1; have c := c29 hb1; obtain ⟨k, c⟩ := c; exact fun w => (impl_TouchOf.calls k a1_0 a1_1 a0_0 a0_1 _ _ _ w c).mono fun e w' ⟨he, hb⟩ => ⟨he, hb⟩
  have C30 : r1_3 = true → ∀ w, Calls Try.prog 7 #[.agg #[.int .i64 a1_0, .int .i64 a1_1], .agg #[.int .i64 a0_0, .int .i64 a0_1]] w fun e w' => e = .returned (.tuple #[.int .i64 r30_1, .bool r30_2]) ∧ Below w.heap.size w w' := by
    intro hb1; have c := c30 hb1; exact fun w => (impl_SquareByMirror.calls a1_0 a1_1 a0_0 a0_1 _ _ w c).mono fun e w' ⟨he, hb⟩ => ⟨he, hb⟩
  have C31 : r1_3 = true → ∀ w, Calls Try.prog 15 #[.agg #[.int .i64 a0_0, .int .i64 a0_1]] w fun e w' => e = .returned (.tuple #[.agg #[.int .i64 r31_1, .int .i64 r31_2], .bool r31_3]) ∧ Below w.heap.size w w' := by
    intro hb1; have c := c31 hb1; exact fun w => (impl_TurnSpot.calls a0_0 a0_1 _ _ _ w c).mono fun e w' ⟨he, hb⟩ => ⟨he, hb⟩
  have C32 : r1_3 = true → ∀ w, Calls Try.prog 15 #[.agg #[.int .i64 a1_0, .int .i64 a1_1]] w fun e w' => e = .returned (.tuple #[.agg #[.int .i64 r32_1, .int .i64 r32_2], .bool r32_3]) ∧ Below w.heap.size w w' := by
    intro hb1; have c := c32 hb1; exact fun w => (impl_TurnSpot.calls a1_0 a1_1 _ _ _ w c).mono fun e w' ⟨he, hb⟩ => ⟨he, hb⟩
  have C33 : r1_3 = true → ∀ w, Calls Try.prog 5 #[.agg #[.int .i64 r31_1, .int .i64 r31_2], .agg #[.int .i64 r32_1, .int .i64 r32_2]] w fun e w' => e = .returned (.tuple #[.int .i64 r33_1, .int .i64 r33_2, .bool r33_3]) ∧ Below w.heap.size w w' := by
    intro hb1; have c := c33 hb1; obtain ⟨k, c⟩ := c; exact fun w => (impl_TouchOf.calls k r31_1 r31_2 r32_1 r32_2 _ _ _ w c).mono fun e w' ⟨he, hb⟩ => ⟨he, hb⟩
  have C34 : r1_3 = true → ∀ w, Calls Try.prog 16 #[.int .i64 r1_1, .int .i64 r1_2] w fun e w' => e = .returned (.bool r34) ∧ Below w.heap.size w w' := by
    intro hb1; have c := c34 hb1; obtain ⟨k, c⟩ := c; exact fun w => (laws_jLow.calls k r1_1 r1_2 _ w c).mono fun e w' ⟨he, hb⟩ => ⟨he, hb.below⟩
  have C35 : r1_3 = true → (bif (r1_2 == 1) then (a0_0 != a1_0) else false) = true → ∀ w, Calls Try.prog 17 #[.agg #[.int .i64 a0_0, .int .i64 a0_1], .int .i64 a1_0, .int .i64 r1_1] w fun e w' => e = .returned (.tuple #[.int .i64 r35_1, .int .i64 r35_2, .bool r35_3]) ∧ Below w.heap.size w w' := by
    intro hb1 hb2; have c := c35 hb1 hb2; obtain ⟨k, c⟩ := c; exact fun w => (impl_HeightForTouch.calls k a0_0 a0_1 a1_0 r1_1 _ _ _ w c).mono fun e w' ⟨he, hb⟩ => ⟨he, hb⟩
  clear c1 c2 c3 c4 c5 c6 c7 c8 c9 c10 c11 c12 c13 c14 c15 c16 c17 c18 c19 c20 c21 c22 c23 c24 c25 c26 c27 c28 c29 c30 c31 c32 c33 c34 c35
  refine calls_start Try.func3 rfl Try.ntmps3 rfl (ofL [(0, .agg #[.int .i64 a0_0, .int .i64 a0_1]), (1, .agg #[.int .i64 a1_0, .int .i64 a1_1]), (2, .agg #[.int .i64 a2_0, .int .i64 a2_1]), (3, .agg #[.int .i64 a3_0, .int .i64 a3_1]), (4, .agg #[.int .i64 a4_0, .int .i64 a4_1]), (5, .int .i64 a5), (6, .int .i64 a6)]) ?_ ?_
  · exact of_args _ _ rfl
  refine cw_gen (D := fun w => Below w0.heap.size w0 w) (stab_below w0) (fun w hw => hw) (fun C hS hB => ?_)
  refine cw_seq (fun G0 hG0 => ?_)
  refine cw_region ?_
  refine wl_box (by first | exact hS | (repeat (first | exact hS | exact stab_below _ | exact stab_blk _ _ | exact stab_row | exact stab_const _ | refine Stab.and ?_ ?_))) rfl rfl rfl rfl rfl (fun w => box23 a0_0 a0_1 w) (fun gb0 => ?_)
  refine wl_box (by first | exact hS | (repeat (first | exact hS | exact stab_below _ | exact stab_blk _ _ | exact stab_row | exact stab_const _ | refine Stab.and ?_ ?_))) rfl rfl rfl rfl rfl (fun w => box23 a1_0 a1_1 w) (fun gb1 => ?_)
  refine wl_box (by first | exact hS | (repeat (first | exact hS | exact stab_below _ | exact stab_blk _ _ | exact stab_row | exact stab_const _ | refine Stab.and ?_ ?_))) rfl rfl rfl rfl rfl (fun w => box23 a2_0 a2_1 w) (fun gb2 => ?_)
  refine wl_box (by first | exact hS | (repeat (first | exact hS | exact stab_below _ | exact stab_blk _ _ | exact stab_row | exact stab_const _ | refine Stab.and ?_ ?_))) rfl rfl rfl rfl rfl (fun w => box23 a3_0 a3_1 w) (fun gb3 => ?_)
  refine wl_box (by first | exact hS | (repeat (first | exact hS | exact stab_below _ | exact stab_blk _ _ | exact stab_row | exact stab_const _ | refine Stab.and ?_ ?_))) rfl rfl rfl rfl rfl (fun w => box23 a4_0 a4_1 w) (fun gb4 => ?_)
  refine wl_op rfl rfl rfl (pv_assign rfl rfl) ?_
  refine wl_end (s' := ofL [(5, .int .i64 a5), (6, .int .i64 a6), (7, .pointer (some ⟨gb0, 0, none⟩)), (8, .pointer (some ⟨gb1, 0, none⟩)), (9, .pointer (some ⟨gb2, 0, none⟩)), (10, .pointer (some ⟨gb3, 0, none⟩)), (11, .pointer (some ⟨gb4, 0, none⟩)), (14, .bool false)]) (hG0 _ _ ?_) (sub_cons rfl (sub_cons rfl (sub_cons rfl (sub_cons rfl (sub_cons rfl (sub_cons rfl (sub_cons rfl (sub_cons rfl (sub_nil)))))))))
  refine cw_gen (D := fun w => (C w) ∧ (w.heap[gb0]? = some (.cells #[.int .i64 a0_0, .int .i64 a0_1] 23)) ∧ (w.heap[gb1]? = some (.cells #[.int .i64 a1_0, .int .i64 a1_1] 23)) ∧ (w.heap[gb2]? = some (.cells #[.int .i64 a2_0, .int .i64 a2_1] 23)) ∧ (w.heap[gb3]? = some (.cells #[.int .i64 a3_0, .int .i64 a3_1] 23)) ∧ (w.heap[gb4]? = some (.cells #[.int .i64 a4_0, .int .i64 a4_1] 23))) (by first | exact hS | (repeat (first | exact hS | exact stab_below _ | exact stab_blk _ _ | exact stab_row | exact stab_const _ | refine Stab.and ?_ ?_))) (fun w hw => ⟨hw.1.1.1.1.1, hw.1.1.1.1.2, hw.1.1.1.2, hw.1.1.2, hw.1.2, hw.2⟩) (fun K1 hS hD => ?_)
  have upK1 : ∀ w, K1 w → C w := fun w hw => (hD w hw).1
  replace hB : ∀ w, K1 w → Below w0.heap.size w0 w := fun w hw => hB w (upK1 w hw)
  have h_gb0 := fun w hw => (hD w hw).2.1
  have h_gb1 := fun w hw => (hD w hw).2.2.1
  have h_gb2 := fun w hw => (hD w hw).2.2.2.1
  have h_gb3 := fun w hw => (hD w hw).2.2.2.2.1
  have h_gb4 := fun w hw => (hD w hw).2.2.2.2.2
  clear hD
  refine cw_seq (fun G18 hG18 => ?_)
  refine cw_region ?_
  refine wl_op rfl rfl rfl (pv_load rfl rfl (fun w hw => ld23 a0_0 a0_1 gb0 w (h_gb0 w hw))) (wl_op rfl rfl rfl (pv_load rfl rfl (fun w hw => ld23 a1_0 a1_1 gb1 w (h_gb1 w hw))) (wl_op rfl rfl rfl (pv_call_b hS rfl rfl Try.func5 (by kernel_rfl) rfl C1) (wl_op rfl rfl rfl (pv_move rfl rfl) (wl_op rfl rfl rfl (pv_extract rfl rfl rfl) (wl_op rfl rfl rfl (pv_extract rfl rfl rfl) (wl_op rfl rfl rfl (pv_extract rfl rfl rfl) (wl_op rfl rfl rfl (pv_assign rfl rfl) (wl_op rfl rfl rfl (pv_assign rfl rfl) (wl_op rfl rfl rfl (pv_assign rfl rfl) ?_)))))))))
  refine wl_end (s' := ofL [(5, .int .i64 a5), (6, .int .i64 a6), (7, .pointer (some ⟨gb0, 0, none⟩)), (8, .pointer (some ⟨gb1, 0, none⟩)), (9, .pointer (some ⟨gb2, 0, none⟩)), (10, .pointer (some ⟨gb3, 0, none⟩)), (11, .pointer (some ⟨gb4, 0, none⟩)), (14, .bool false), (15, .int .i64 r1_1), (16, .int .i64 r1_2), (17, .bool r1_3)]) (hG18 _ _ ?_) (sub_cons rfl (sub_cons rfl (sub_cons rfl (sub_cons rfl (sub_cons rfl (sub_cons rfl (sub_cons rfl (sub_cons rfl (sub_cons rfl (sub_cons rfl (sub_cons rfl (sub_nil))))))))))))
  refine cw_seq (fun G22 hG22 => ?_)
  refine cw_region ?_
  refine wl_op rfl rfl rfl (pv_load rfl rfl (fun w hw => ld23 a0_0 a0_1 gb0 w (h_gb0 w hw))) (wl_op rfl rfl rfl (pv_load rfl rfl (fun w hw => ld23 a1_0 a1_1 gb1 w (h_gb1 w hw))) (wl_op rfl rfl rfl (pv_call_b hS rfl rfl Try.func6 (by kernel_rfl) rfl C2) (wl_op rfl rfl rfl (pv_move rfl rfl) (wl_op rfl rfl rfl (pv_extract rfl rfl rfl) (wl_op rfl rfl rfl (pv_extract rfl rfl rfl) (wl_op rfl rfl rfl (pv_extract rfl rfl rfl) (wl_op rfl rfl rfl (pv_assign rfl rfl) (wl_op rfl rfl rfl (pv_assign rfl rfl) (wl_op rfl rfl rfl (pv_assign rfl rfl) ?_)))))))))
  refine wl_end (s' := ofL [(5, .int .i64 a5), (6, .int .i64 a6), (7, .pointer (some ⟨gb0, 0, none⟩)), (8, .pointer (some ⟨gb1, 0, none⟩)), (9, .pointer (some ⟨gb2, 0, none⟩)), (10, .pointer (some ⟨gb3, 0, none⟩)), (11, .pointer (some ⟨gb4, 0, none⟩)), (14, .bool false), (15, .int .i64 r1_1), (16, .int .i64 r1_2), (17, .bool r1_3), (18, .int .i64 r2_1), (19, .int .i64 r2_2), (20, .bool r2_3)]) (hG22 _ _ ?_) (sub_cons rfl (sub_cons rfl (sub_cons rfl (sub_cons rfl (sub_cons rfl (sub_cons rfl (sub_cons rfl (sub_cons rfl (sub_cons rfl (sub_cons rfl (sub_cons rfl (sub_cons rfl (sub_cons rfl (sub_cons rfl (sub_nil)))))))))))))))
  refine cw_seq (fun G26 hG26 => ?_)
  refine cw_region ?_
  refine wl_op rfl rfl rfl (pv_load rfl rfl (fun w hw => ld23 a0_0 a0_1 gb0 w (h_gb0 w hw))) (wl_op rfl rfl rfl (pv_load rfl rfl (fun w hw => ld23 a1_0 a1_1 gb1 w (h_gb1 w hw))) (wl_op rfl rfl rfl (pv_call_b hS rfl rfl Try.func7 (by kernel_rfl) rfl C3) (wl_op rfl rfl rfl (pv_move rfl rfl) (wl_op rfl rfl rfl (pv_extract rfl rfl rfl) (wl_op rfl rfl rfl (pv_extract rfl rfl rfl) (wl_op rfl rfl rfl (pv_assign rfl rfl) (wl_op rfl rfl rfl (pv_assign rfl rfl) ?_)))))))
  refine wl_end (s' := ofL [(5, .int .i64 a5), (6, .int .i64 a6), (7, .pointer (some ⟨gb0, 0, none⟩)), (8, .pointer (some ⟨gb1, 0, none⟩)), (9, .pointer (some ⟨gb2, 0, none⟩)), (10, .pointer (some ⟨gb3, 0, none⟩)), (11, .pointer (some ⟨gb4, 0, none⟩)), (14, .bool false), (15, .int .i64 r1_1), (16, .int .i64 r1_2), (17, .bool r1_3), (18, .int .i64 r2_1), (19, .int .i64 r2_2), (20, .bool r2_3), (21, .int .i64 r3_1), (22, .bool r3_2)]) (hG26 _ _ ?_) (sub_cons rfl (sub_cons rfl (sub_cons rfl (sub_cons rfl (sub_cons rfl (sub_cons rfl (sub_cons rfl (sub_cons rfl (sub_cons rfl (sub_cons rfl (sub_cons rfl (sub_cons rfl (sub_cons rfl (sub_cons rfl (sub_cons rfl (sub_cons rfl (sub_nil)))))))))))))))))
  refine cw_seq (fun G30 hG30 => ?_)
  refine cw_region ?_
  refine wl_op rfl rfl rfl (pv_load rfl rfl (fun w hw => ld23 a0_0 a0_1 gb0 w (h_gb0 w hw))) (wl_op rfl rfl rfl (pv_load rfl rfl (fun w hw => ld23 a1_0 a1_1 gb1 w (h_gb1 w hw))) (wl_op rfl rfl rfl (pv_call_b hS rfl rfl Try.func8 (by kernel_rfl) rfl C4) (wl_op rfl rfl rfl (pv_move rfl rfl) (wl_op rfl rfl rfl (pv_extract rfl rfl rfl) (wl_op rfl rfl rfl (pv_extract rfl rfl rfl) (wl_op rfl rfl rfl (pv_assign rfl rfl) (wl_op rfl rfl rfl (pv_assign rfl rfl) ?_)))))))
  refine wl_end (s' := ofL [(5, .int .i64 a5), (6, .int .i64 a6), (7, .pointer (some ⟨gb0, 0, none⟩)), (8, .pointer (some ⟨gb1, 0, none⟩)), (9, .pointer (some ⟨gb2, 0, none⟩)), (10, .pointer (some ⟨gb3, 0, none⟩)), (11, .pointer (some ⟨gb4, 0, none⟩)), (14, .bool false), (15, .int .i64 r1_1), (16, .int .i64 r1_2), (17, .bool r1_3), (18, .int .i64 r2_1), (19, .int .i64 r2_2), (20, .bool r2_3), (21, .int .i64 r3_1), (22, .bool r3_2), (23, .int .i64 r4_1), (24, .bool r4_2)]) (hG30 _ _ ?_) (sub_cons rfl (sub_cons rfl (sub_cons rfl (sub_cons rfl (sub_cons rfl (sub_cons rfl (sub_cons rfl (sub_cons rfl (sub_cons rfl (sub_cons rfl (sub_cons rfl (sub_cons rfl (sub_cons rfl (sub_cons rfl (sub_cons rfl (sub_cons rfl (sub_cons rfl (sub_cons rfl (sub_nil)))))))))))))))))))
  refine cw_seq (fun G34 hG34 => ?_)
  refine cw_region ?_
  refine wl_op rfl rfl rfl (pv_load rfl rfl (fun w hw => ld23 a0_0 a0_1 gb0 w (h_gb0 w hw))) (wl_op rfl rfl rfl (pv_load rfl rfl (fun w hw => ld23 a1_0 a1_1 gb1 w (h_gb1 w hw))) (wl_op rfl rfl rfl (pv_call_b hS rfl rfl Try.func9 (by kernel_rfl) rfl C5) (wl_op rfl rfl rfl (pv_move rfl rfl) (wl_op rfl rfl rfl (pv_extract rfl rfl rfl) (wl_op rfl rfl rfl (pv_extract rfl rfl rfl) (wl_op rfl rfl rfl (pv_assign rfl rfl) (wl_op rfl rfl rfl (pv_assign rfl rfl) ?_)))))))
  refine wl_end (s' := ofL [(5, .int .i64 a5), (6, .int .i64 a6), (7, .pointer (some ⟨gb0, 0, none⟩)), (8, .pointer (some ⟨gb1, 0, none⟩)), (9, .pointer (some ⟨gb2, 0, none⟩)), (10, .pointer (some ⟨gb3, 0, none⟩)), (11, .pointer (some ⟨gb4, 0, none⟩)), (14, .bool false), (15, .int .i64 r1_1), (16, .int .i64 r1_2), (17, .bool r1_3), (18, .int .i64 r2_1), (19, .int .i64 r2_2), (20, .bool r2_3), (21, .int .i64 r3_1), (22, .bool r3_2), (23, .int .i64 r4_1), (24, .bool r4_2), (25, .int .i64 r5_1), (26, .bool r5_2)]) (hG34 _ _ ?_) (sub_cons rfl (sub_cons rfl (sub_cons rfl (sub_cons rfl (sub_cons rfl (sub_cons rfl (sub_cons rfl (sub_cons rfl (sub_cons rfl (sub_cons rfl (sub_cons rfl (sub_cons rfl (sub_cons rfl (sub_cons rfl (sub_cons rfl (sub_cons rfl (sub_cons rfl (sub_cons rfl (sub_cons rfl (sub_cons rfl (sub_nil)))))))))))))))))))))
  refine cw_seq (fun G38 hG38 => ?_)
  refine cw_region ?_
  refine wl_op rfl rfl rfl (pv_load rfl rfl (fun w hw => ld23 a0_0 a0_1 gb0 w (h_gb0 w hw))) (wl_op rfl rfl rfl (pv_load rfl rfl (fun w hw => ld23 a1_0 a1_1 gb1 w (h_gb1 w hw))) (wl_op rfl rfl rfl (pv_call_b hS rfl rfl Try.func10 (by kernel_rfl) rfl C6) (wl_op rfl rfl rfl (pv_move rfl rfl) (wl_op rfl rfl rfl (pv_extract rfl rfl rfl) (wl_op rfl rfl rfl (pv_extract rfl rfl rfl) (wl_op rfl rfl rfl (pv_assign rfl rfl) (wl_op rfl rfl rfl (pv_assign rfl rfl) ?_)))))))
  refine wl_end (s' := ofL [(5, .int .i64 a5), (6, .int .i64 a6), (7, .pointer (some ⟨gb0, 0, none⟩)), (8, .pointer (some ⟨gb1, 0, none⟩)), (9, .pointer (some ⟨gb2, 0, none⟩)), (10, .pointer (some ⟨gb3, 0, none⟩)), (11, .pointer (some ⟨gb4, 0, none⟩)), (14, .bool false), (15, .int .i64 r1_1), (16, .int .i64 r1_2), (17, .bool r1_3), (18, .int .i64 r2_1), (19, .int .i64 r2_2), (20, .bool r2_3), (21, .int .i64 r3_1), (22, .bool r3_2), (23, .int .i64 r4_1), (24, .bool r4_2), (25, .int .i64 r5_1), (26, .bool r5_2), (27, .int .i64 r6_1), (28, .bool r6_2)]) (hG38 _ _ ?_) (sub_cons rfl (sub_cons rfl (sub_cons rfl (sub_cons rfl (sub_cons rfl (sub_cons rfl (sub_cons rfl (sub_cons rfl (sub_cons rfl (sub_cons rfl (sub_cons rfl (sub_cons rfl (sub_cons rfl (sub_cons rfl (sub_cons rfl (sub_cons rfl (sub_cons rfl (sub_cons rfl (sub_cons rfl (sub_cons rfl (sub_cons rfl (sub_cons rfl (sub_nil)))))))))))))))))))))))
  refine cw_seq (fun G42 hG42 => ?_)
  refine cw_region ?_
  refine wl_op rfl rfl rfl (pv_load rfl rfl (fun w hw => ld23 a0_0 a0_1 gb0 w (h_gb0 w hw))) (wl_op rfl rfl rfl (pv_load rfl rfl (fun w hw => ld23 a1_0 a1_1 gb1 w (h_gb1 w hw))) (wl_op rfl rfl rfl (pv_call_b hS rfl rfl Try.func11 (by kernel_rfl) rfl C7) (wl_op rfl rfl rfl (pv_move rfl rfl) (wl_op rfl rfl rfl (pv_extract rfl rfl rfl) (wl_op rfl rfl rfl (pv_extract rfl rfl rfl) (wl_op rfl rfl rfl (pv_assign rfl rfl) (wl_op rfl rfl rfl (pv_assign rfl rfl) ?_)))))))
  refine wl_end (s' := ofL [(5, .int .i64 a5), (6, .int .i64 a6), (7, .pointer (some ⟨gb0, 0, none⟩)), (8, .pointer (some ⟨gb1, 0, none⟩)), (9, .pointer (some ⟨gb2, 0, none⟩)), (10, .pointer (some ⟨gb3, 0, none⟩)), (11, .pointer (some ⟨gb4, 0, none⟩)), (14, .bool false), (15, .int .i64 r1_1), (16, .int .i64 r1_2), (17, .bool r1_3), (18, .int .i64 r2_1), (19, .int .i64 r2_2), (20, .bool r2_3), (21, .int .i64 r3_1), (22, .bool r3_2), (23, .int .i64 r4_1), (24, .bool r4_2), (25, .int .i64 r5_1), (26, .bool r5_2), (27, .int .i64 r6_1), (28, .bool r6_2), (29, .bool r7_1), (30, .bool r7_2)]) (hG42 _ _ ?_) (sub_cons rfl (sub_cons rfl (sub_cons rfl (sub_cons rfl (sub_cons rfl (sub_cons rfl (sub_cons rfl (sub_cons rfl (sub_cons rfl (sub_cons rfl (sub_cons rfl (sub_cons rfl (sub_cons rfl (sub_cons rfl (sub_cons rfl (sub_cons rfl (sub_cons rfl (sub_cons rfl (sub_cons rfl (sub_cons rfl (sub_cons rfl (sub_cons rfl (sub_cons rfl (sub_cons rfl (sub_nil)))))))))))))))))))))))))
  refine cw_seq (fun G46 hG46 => ?_)
  refine cw_region ?_
  refine wl_op rfl rfl rfl (pv_load rfl rfl (fun w hw => ld23 a0_0 a0_1 gb0 w (h_gb0 w hw))) (wl_op rfl rfl rfl (pv_load rfl rfl (fun w hw => ld23 a1_0 a1_1 gb1 w (h_gb1 w hw))) (wl_op rfl rfl rfl (pv_call_b hS rfl rfl Try.func12 (by kernel_rfl) rfl C8) (wl_op rfl rfl rfl (pv_move rfl rfl) (wl_op rfl rfl rfl (pv_extract rfl rfl rfl) (wl_op rfl rfl rfl (pv_extract rfl rfl rfl) (wl_op rfl rfl rfl (pv_assign rfl rfl) (wl_op rfl rfl rfl (pv_assign rfl rfl) ?_)))))))
  refine wl_end (s' := ofL [(5, .int .i64 a5), (6, .int .i64 a6), (7, .pointer (some ⟨gb0, 0, none⟩)), (8, .pointer (some ⟨gb1, 0, none⟩)), (9, .pointer (some ⟨gb2, 0, none⟩)), (10, .pointer (some ⟨gb3, 0, none⟩)), (11, .pointer (some ⟨gb4, 0, none⟩)), (14, .bool false), (15, .int .i64 r1_1), (16, .int .i64 r1_2), (17, .bool r1_3), (18, .int .i64 r2_1), (19, .int .i64 r2_2), (20, .bool r2_3), (21, .int .i64 r3_1), (22, .bool r3_2), (23, .int .i64 r4_1), (24, .bool r4_2), (25, .int .i64 r5_1), (26, .bool r5_2), (27, .int .i64 r6_1), (28, .bool r6_2), (29, .bool r7_1), (30, .bool r7_2), (31, .bool r8_1), (32, .bool r8_2)]) (hG46 _ _ ?_) (sub_cons rfl (sub_cons rfl (sub_cons rfl (sub_cons rfl (sub_cons rfl (sub_cons rfl (sub_cons rfl (sub_cons rfl (sub_cons rfl (sub_cons rfl (sub_cons rfl (sub_cons rfl (sub_cons rfl (sub_cons rfl (sub_cons rfl (sub_cons rfl (sub_cons rfl (sub_cons rfl (sub_cons rfl (sub_cons rfl (sub_cons rfl (sub_cons rfl (sub_cons rfl (sub_cons rfl (sub_cons rfl (sub_cons rfl (sub_nil)))))))))))))))))))))))))))
  refine cw_seq (fun G50 hG50 => ?_)
  refine cw_seq (fun G51 hG51 => ?_)
  have hJ52 : GS K1 620 G51 (ofL [(5, .int .i64 a5), (6, .int .i64 a6), (7, .pointer (some ⟨gb0, 0, none⟩)), (8, .pointer (some ⟨gb1, 0, none⟩)), (9, .pointer (some ⟨gb2, 0, none⟩)), (10, .pointer (some ⟨gb3, 0, none⟩)), (11, .pointer (some ⟨gb4, 0, none⟩)), (14, .bool false), (15, .int .i64 r1_1), (16, .int .i64 r1_2), (17, .bool r1_3), (21, .int .i64 r3_1), (25, .int .i64 r5_1), (29, .bool r7_1), (196, .bool false)]) := by as_aux_lemma =>
    refine hG51 _ _ ?_
    refine cw_false rfl rfl ?_
    refine cw_skip (GS.sub (s' := ofL [(5, .int .i64 a5), (6, .int .i64 a6), (7, .pointer (some ⟨gb0, 0, none⟩)), (8, .pointer (some ⟨gb1, 0, none⟩)), (9, .pointer (some ⟨gb2, 0, none⟩)), (10, .pointer (some ⟨gb3, 0, none⟩)), (11, .pointer (some ⟨gb4, 0, none⟩)), (14, .bool false), (15, .int .i64 r1_1), (16, .int .i64 r1_2), (17, .bool r1_3), (21, .int .i64 r3_1), (25, .int .i64 r5_1), (29, .bool r7_1)]) (hG50 _ _ ?_) (sub_cons rfl (sub_cons rfl (sub_cons rfl (sub_cons rfl (sub_cons rfl (sub_cons rfl (sub_cons rfl (sub_cons rfl (sub_cons rfl (sub_cons rfl (sub_cons rfl (sub_cons rfl (sub_cons rfl (sub_cons rfl (sub_nil))))))))))))))))
    refine cw_seq (fun G56 hG56 => ?_)
    refine cw_seq (fun G57 hG57 => ?_)
    refine cw_region ?_
    refine wl_op rfl rfl rfl (pv_move rfl rfl) ?_
    refine wl_end (s' := ofL [(5, .int .i64 a5), (6, .int .i64 a6), (7, .pointer (some ⟨gb0, 0, none⟩)), (8, .pointer (some ⟨gb1, 0, none⟩)), (9, .pointer (some ⟨gb2, 0, none⟩)), (10, .pointer (some ⟨gb3, 0, none⟩)), (11, .pointer (some ⟨gb4, 0, none⟩)), (14, .bool false), (15, .int .i64 r1_1), (16, .int .i64 r1_2), (21, .int .i64 r3_1), (25, .int .i64 r5_1), (29, .bool r7_1), (197, .bool r1_3)]) (hG57 _ _ ?_) (sub_cons rfl (sub_cons rfl (sub_cons rfl (sub_cons rfl (sub_cons rfl (sub_cons rfl (sub_cons rfl (sub_cons rfl (sub_cons rfl (sub_cons rfl (sub_cons rfl (sub_cons rfl (sub_cons rfl (sub_cons rfl (sub_nil)))))))))))))))
    have hJ61 : GS K1 620 G56 (ofL [(5, .int .i64 a5), (6, .int .i64 a6), (9, .pointer (some ⟨gb2, 0, none⟩)), (10, .pointer (some ⟨gb3, 0, none⟩)), (11, .pointer (some ⟨gb4, 0, none⟩)), (14, .bool false)]) := by as_aux_lemma =>
      refine hG56 _ _ ?_
      refine cw_seq (fun G63 hG63 => ?_)
      refine cw_region ?_
      refine wl_op rfl rfl rfl (pv_load rfl rfl (fun w hw => ld23 a2_0 a2_1 gb2 w (h_gb2 w hw))) (wl_op rfl rfl rfl (pv_load rfl rfl (fun w hw => ld23 a3_0 a3_1 gb3 w (h_gb3 w hw))) (wl_op rfl rfl rfl (pv_call_b hS rfl rfl Try.func18 (by kernel_rfl) rfl C12) (wl_op rfl rfl rfl (pv_move rfl rfl) (wl_op rfl rfl rfl (pv_extract rfl rfl rfl) (wl_op rfl rfl rfl (pv_extract rfl rfl rfl) (wl_op rfl rfl rfl (pv_assign rfl rfl) (wl_op rfl rfl rfl (pv_assign rfl rfl) ?_)))))))
      refine wl_end (s' := ofL [(5, .int .i64 a5), (6, .int .i64 a6), (9, .pointer (some ⟨gb2, 0, none⟩)), (10, .pointer (some ⟨gb3, 0, none⟩)), (11, .pointer (some ⟨gb4, 0, none⟩)), (14, .bool false), (48, .string r12_1), (49, .bool r12_2)]) (hG63 _ _ ?_) (sub_cons rfl (sub_cons rfl (sub_cons rfl (sub_cons rfl (sub_cons rfl (sub_cons rfl (sub_cons rfl (sub_cons rfl (sub_nil)))))))))
      refine cw_seq (fun G67 hG67 => ?_)
      refine cw_region ?_
      refine wl_op rfl rfl rfl (pv_load rfl rfl (fun w hw => ld23 a2_0 a2_1 gb2 w (h_gb2 w hw))) (wl_op rfl rfl rfl (pv_load rfl rfl (fun w hw => ld23 a3_0 a3_1 gb3 w (h_gb3 w hw))) (wl_op rfl rfl rfl (pv_call_b hS rfl rfl Try.func19 (by kernel_rfl) rfl C13) (wl_op rfl rfl rfl (pv_move rfl rfl) (wl_op rfl rfl rfl (pv_extract rfl rfl rfl) (wl_op rfl rfl rfl (pv_extract rfl rfl rfl) (wl_op rfl rfl rfl (pv_assign rfl rfl) (wl_op rfl rfl rfl (pv_assign rfl rfl) ?_)))))))
      refine wl_end (s' := ofL [(5, .int .i64 a5), (6, .int .i64 a6), (9, .pointer (some ⟨gb2, 0, none⟩)), (10, .pointer (some ⟨gb3, 0, none⟩)), (11, .pointer (some ⟨gb4, 0, none⟩)), (14, .bool false), (48, .string r12_1), (49, .bool r12_2), (50, .string r13_1), (51, .bool r13_2)]) (hG67 _ _ ?_) (sub_cons rfl (sub_cons rfl (sub_cons rfl (sub_cons rfl (sub_cons rfl (sub_cons rfl (sub_cons rfl (sub_cons rfl (sub_cons rfl (sub_cons rfl (sub_nil)))))))))))
      refine cw_seq (fun G71 hG71 => ?_)
      refine cw_region ?_
      refine wl_op rfl rfl rfl (pv_load rfl rfl (fun w hw => ld23 a2_0 a2_1 gb2 w (h_gb2 w hw))) (wl_op rfl rfl rfl (pv_load rfl rfl (fun w hw => ld23 a3_0 a3_1 gb3 w (h_gb3 w hw))) (wl_op rfl rfl rfl (pv_call_b hS rfl rfl Try.func20 (by kernel_rfl) rfl C14) (wl_op rfl rfl rfl (pv_move rfl rfl) (wl_op rfl rfl rfl (pv_extract rfl rfl rfl) (wl_op rfl rfl rfl (pv_extract rfl rfl rfl) (wl_op rfl rfl rfl (pv_assign rfl rfl) (wl_op rfl rfl rfl (pv_assign rfl rfl) ?_)))))))
      refine wl_end (s' := ofL [(5, .int .i64 a5), (6, .int .i64 a6), (9, .pointer (some ⟨gb2, 0, none⟩)), (10, .pointer (some ⟨gb3, 0, none⟩)), (11, .pointer (some ⟨gb4, 0, none⟩)), (14, .bool false), (48, .string r12_1), (49, .bool r12_2), (50, .string r13_1), (51, .bool r13_2), (52, .int .i64 r14_1), (53, .bool r14_2)]) (hG71 _ _ ?_) (sub_cons rfl (sub_cons rfl (sub_cons rfl (sub_cons rfl (sub_cons rfl (sub_cons rfl (sub_cons rfl (sub_cons rfl (sub_cons rfl (sub_cons rfl (sub_cons rfl (sub_cons rfl (sub_nil)))))))))))))
      refine cw_seq (fun G75 hG75 => ?_)
      refine cw_region ?_
      refine wl_op rfl rfl rfl (pv_load rfl rfl (fun w hw => ld23 a2_0 a2_1 gb2 w (h_gb2 w hw))) (wl_op rfl rfl rfl (pv_load rfl rfl (fun w hw => ld23 a3_0 a3_1 gb3 w (h_gb3 w hw))) (wl_op rfl rfl rfl (pv_call_b hS rfl rfl Try.func21 (by kernel_rfl) rfl C15) (wl_op rfl rfl rfl (pv_move rfl rfl) (wl_op rfl rfl rfl (pv_extract rfl rfl rfl) (wl_op rfl rfl rfl (pv_extract rfl rfl rfl) (wl_op rfl rfl rfl (pv_assign rfl rfl) (wl_op rfl rfl rfl (pv_assign rfl rfl) ?_)))))))
      refine wl_end (s' := ofL [(5, .int .i64 a5), (6, .int .i64 a6), (9, .pointer (some ⟨gb2, 0, none⟩)), (10, .pointer (some ⟨gb3, 0, none⟩)), (11, .pointer (some ⟨gb4, 0, none⟩)), (14, .bool false), (48, .string r12_1), (49, .bool r12_2), (50, .string r13_1), (51, .bool r13_2), (52, .int .i64 r14_1), (53, .bool r14_2), (54, .int .i64 r15_1), (55, .bool r15_2)]) (hG75 _ _ ?_) (sub_cons rfl (sub_cons rfl (sub_cons rfl (sub_cons rfl (sub_cons rfl (sub_cons rfl (sub_cons rfl (sub_cons rfl (sub_cons rfl (sub_cons rfl (sub_cons rfl (sub_cons rfl (sub_cons rfl (sub_cons rfl (sub_nil)))))))))))))))
      refine cw_seq (fun G79 hG79 => ?_)
      refine cw_region ?_
      refine wl_op rfl rfl rfl (pv_load rfl rfl (fun w hw => ld23 a2_0 a2_1 gb2 w (h_gb2 w hw))) (wl_op rfl rfl rfl (pv_load rfl rfl (fun w hw => ld23 a3_0 a3_1 gb3 w (h_gb3 w hw))) ?_)
      refine wl_callR (ι := Option Addr × Nat × Option Addr × Nat) (fun i16 => .tuple #[.slice i16.1 r16_1.length i16.2.1, .slice i16.2.2.1 r16_2.length i16.2.2.2, .bool r16_3]) (fun i16 w => (Kd.C (Kd.int .i64) w i16.1 r16_1.length r16_1 ∧ r16_1.length ≤ i16.2.1) ∧ (Kd.C (Kd.int .i64) w i16.2.2.1 r16_2.length r16_2 ∧ r16_2.length ≤ i16.2.2.2)) hS rfl rfl rfl rfl rfl Try.func22 (by kernel_rfl) rfl (fun w hw => C16 w) (fun i16 => ?_)
      refine wl_op rfl rfl rfl (pv_move rfl rfl) (wl_op rfl rfl rfl (pv_extract rfl rfl rfl) (wl_op rfl rfl rfl (pv_extract rfl rfl rfl) (wl_op rfl rfl rfl (pv_extract rfl rfl rfl) (wl_op rfl rfl rfl (pv_assign rfl rfl) (wl_op rfl rfl rfl (pv_assign rfl rfl) (wl_op rfl rfl rfl (pv_assign rfl rfl) ?_))))))
      refine wl_end (s' := ofL [(5, .int .i64 a5), (6, .int .i64 a6), (9, .pointer (some ⟨gb2, 0, none⟩)), (10, .pointer (some ⟨gb3, 0, none⟩)), (11, .pointer (some ⟨gb4, 0, none⟩)), (14, .bool false), (48, .string r12_1), (49, .bool r12_2), (50, .string r13_1), (51, .bool r13_2), (52, .int .i64 r14_1), (53, .bool r14_2), (54, .int .i64 r15_1), (55, .bool r15_2), (56, .slice i16.1 r16_1.length i16.2.1), (57, .slice i16.2.2.1 r16_2.length i16.2.2.2), (58, .bool r16_3)]) (hG79 _ _ ?_) (sub_cons rfl (sub_cons rfl (sub_cons rfl (sub_cons rfl (sub_cons rfl (sub_cons rfl (sub_cons rfl (sub_cons rfl (sub_cons rfl (sub_cons rfl (sub_cons rfl (sub_cons rfl (sub_cons rfl (sub_cons rfl (sub_cons rfl (sub_cons rfl (sub_cons rfl (sub_nil))))))))))))))))))
      refine cw_gen (D := fun w => (K1 w) ∧ ((Kd.C (Kd.int .i64) w i16.1 r16_1.length r16_1 ∧ r16_1.length ≤ i16.2.1) ∧ (Kd.C (Kd.int .i64) w i16.2.2.1 r16_2.length r16_2 ∧ r16_2.length ≤ i16.2.2.2))) (by first | exact hS | (repeat (first | exact hS | exact stab_below _ | exact stab_blk _ _ | exact stab_row | exact stab_const _ | refine Stab.and ?_ ?_))) (fun w hw => ⟨hw.1, hw.2⟩) (fun K2 hS hD => ?_)
      have upK2 : ∀ w, K2 w → K1 w := fun w hw => (hD w hw).1
      replace hB : ∀ w, K2 w → Below w0.heap.size w0 w := fun w hw => hB w (upK2 w hw)
      replace h_gb0 := fun w hw => h_gb0 w (upK2 w hw)
      replace h_gb1 := fun w hw => h_gb1 w (upK2 w hw)
      replace h_gb2 := fun w hw => h_gb2 w (upK2 w hw)
      replace h_gb3 := fun w hw => h_gb3 w (upK2 w hw)
      replace h_gb4 := fun w hw => h_gb4 w (upK2 w hw)
      have h_m16_0 := fun w hw => (hD w hw).2.1
      have h_m16_1 := fun w hw => (hD w hw).2.2
      clear hD
      refine cw_seq (fun G96 hG96 => ?_)
      refine cw_region ?_
      refine wl_op rfl rfl rfl (pv_load rfl rfl (fun w hw => ld23 a2_0 a2_1 gb2 w (h_gb2 w hw))) (wl_op rfl rfl rfl (pv_load rfl rfl (fun w hw => ld23 a3_0 a3_1 gb3 w (h_gb3 w hw))) ?_)
      refine wl_callR (ι := Option Addr × Nat × Option Addr × Nat) (fun i17 => .tuple #[.slice i17.1 r17_1.length i17.2.1, .slice i17.2.2.1 r17_2.length i17.2.2.2, .bool r17_3]) (fun i17 w => (Kd.C (Kd.int .i64) w i17.1 r17_1.length r17_1 ∧ r17_1.length ≤ i17.2.1) ∧ (Kd.C (Kd.int .i64) w i17.2.2.1 r17_2.length r17_2 ∧ r17_2.length ≤ i17.2.2.2)) hS rfl rfl rfl rfl rfl Try.func23 (by kernel_rfl) rfl (fun w hw => C17 w) (fun i17 => ?_)
      refine wl_op rfl rfl rfl (pv_move rfl rfl) (wl_op rfl rfl rfl (pv_extract rfl rfl rfl) (wl_op rfl rfl rfl (pv_extract rfl rfl rfl) (wl_op rfl rfl rfl (pv_extract rfl rfl rfl) (wl_op rfl rfl rfl (pv_assign rfl rfl) (wl_op rfl rfl rfl (pv_assign rfl rfl) (wl_op rfl rfl rfl (pv_assign rfl rfl) ?_))))))
      refine wl_end (s' := ofL [(5, .int .i64 a5), (6, .int .i64 a6), (9, .pointer (some ⟨gb2, 0, none⟩)), (10, .pointer (some ⟨gb3, 0, none⟩)), (11, .pointer (some ⟨gb4, 0, none⟩)), (14, .bool false), (48, .string r12_1), (49, .bool r12_2), (50, .string r13_1), (51, .bool r13_2), (52, .int .i64 r14_1), (53, .bool r14_2), (54, .int .i64 r15_1), (55, .bool r15_2), (56, .slice i16.1 r16_1.length i16.2.1), (57, .slice i16.2.2.1 r16_2.length i16.2.2.2), (58, .bool r16_3), (59, .slice i17.1 r17_1.length i17.2.1), (60, .slice i17.2.2.1 r17_2.length i17.2.2.2), (61, .bool r17_3)]) (hG96 _ _ ?_) (sub_cons rfl (sub_cons rfl (sub_cons rfl (sub_cons rfl (sub_cons rfl (sub_cons rfl (sub_cons rfl (sub_cons rfl (sub_cons rfl (sub_cons rfl (sub_cons rfl (sub_cons rfl (sub_cons rfl (sub_cons rfl (sub_cons rfl (sub_cons rfl (sub_cons rfl (sub_cons rfl (sub_cons rfl (sub_cons rfl (sub_nil)))))))))))))))))))))
      refine cw_gen (D := fun w => (K2 w) ∧ ((Kd.C (Kd.int .i64) w i17.1 r17_1.length r17_1 ∧ r17_1.length ≤ i17.2.1) ∧ (Kd.C (Kd.int .i64) w i17.2.2.1 r17_2.length r17_2 ∧ r17_2.length ≤ i17.2.2.2))) (by first | exact hS | (repeat (first | exact hS | exact stab_below _ | exact stab_blk _ _ | exact stab_row | exact stab_const _ | refine Stab.and ?_ ?_))) (fun w hw => ⟨hw.1, hw.2⟩) (fun K3 hS hD => ?_)
      have upK3 : ∀ w, K3 w → K2 w := fun w hw => (hD w hw).1
      replace hB : ∀ w, K3 w → Below w0.heap.size w0 w := fun w hw => hB w (upK3 w hw)
      replace h_gb0 := fun w hw => h_gb0 w (upK3 w hw)
      replace h_gb1 := fun w hw => h_gb1 w (upK3 w hw)
      replace h_gb2 := fun w hw => h_gb2 w (upK3 w hw)
      replace h_gb3 := fun w hw => h_gb3 w (upK3 w hw)
      replace h_gb4 := fun w hw => h_gb4 w (upK3 w hw)
      replace h_m16_0 := fun w hw => h_m16_0 w (upK3 w hw)
      replace h_m16_1 := fun w hw => h_m16_1 w (upK3 w hw)
      have h_m17_0 := fun w hw => (hD w hw).2.1
      have h_m17_1 := fun w hw => (hD w hw).2.2
      clear hD
      refine cw_seq (fun G115 hG115 => ?_)
      refine cw_region ?_
      refine wl_op rfl rfl rfl (pv_load rfl rfl (fun w hw => ld23 a4_0 a4_1 gb4 w (h_gb4 w hw))) (wl_op rfl rfl rfl (pv_move rfl rfl) (wl_op rfl rfl rfl (pv_move rfl rfl) (wl_op rfl rfl rfl (pv_call_b hS rfl rfl Try.func17 (by kernel_rfl) rfl C18) (wl_op rfl rfl rfl (pv_move rfl rfl) (wl_op rfl rfl rfl (pv_extract rfl rfl rfl) (wl_op rfl rfl rfl (pv_extract rfl rfl rfl) (wl_op rfl rfl rfl (pv_extract rfl rfl rfl) (wl_op rfl rfl rfl (pv_assign rfl rfl) (wl_op rfl rfl rfl (pv_assign rfl rfl) (wl_op rfl rfl rfl (pv_assign rfl rfl) ?_))))))))))
      refine wl_end (s' := ofL [(5, .int .i64 a5), (6, .int .i64 a6), (9, .pointer (some ⟨gb2, 0, none⟩)), (10, .pointer (some ⟨gb3, 0, none⟩)), (11, .pointer (some ⟨gb4, 0, none⟩)), (14, .bool false), (48, .string r12_1), (49, .bool r12_2), (50, .string r13_1), (51, .bool r13_2), (52, .int .i64 r14_1), (53, .bool r14_2), (54, .int .i64 r15_1), (55, .bool r15_2), (56, .slice i16.1 r16_1.length i16.2.1), (57, .slice i16.2.2.1 r16_2.length i16.2.2.2), (58, .bool r16_3), (59, .slice i17.1 r17_1.length i17.2.1), (60, .slice i17.2.2.1 r17_2.length i17.2.2.2), (61, .bool r17_3), (62, .int .i64 r18_1), (63, .int .i64 r18_2), (64, .bool r18_3)]) (hG115 _ _ ?_) (sub_cons rfl (sub_cons rfl (sub_cons rfl (sub_cons rfl (sub_cons rfl (sub_cons rfl (sub_cons rfl (sub_cons rfl (sub_cons rfl (sub_cons rfl (sub_cons rfl (sub_cons rfl (sub_cons rfl (sub_cons rfl (sub_cons rfl (sub_cons rfl (sub_cons rfl (sub_cons rfl (sub_cons rfl (sub_cons rfl (sub_cons rfl (sub_cons rfl (sub_cons rfl (sub_nil))))))))))))))))))))))))
      refine cw_seq (fun G119 hG119 => ?_)
      refine cw_region ?_
      refine wl_op rfl rfl rfl (pv_load rfl rfl (fun w hw => ld23 a4_0 a4_1 gb4 w (h_gb4 w hw))) (wl_op rfl rfl rfl (pv_move rfl rfl) (wl_op rfl rfl rfl (pv_move rfl rfl) (wl_op rfl rfl rfl (pv_call_b hS rfl rfl Try.func24 (by kernel_rfl) rfl C19) (wl_op rfl rfl rfl (pv_move rfl rfl) (wl_op rfl rfl rfl (pv_extract rfl rfl rfl) (wl_op rfl rfl rfl (pv_extract rfl rfl rfl) (wl_op rfl rfl rfl (pv_extract rfl rfl rfl) (wl_op rfl rfl rfl (pv_assign rfl rfl) (wl_op rfl rfl rfl (pv_assign rfl rfl) (wl_op rfl rfl rfl (pv_assign rfl rfl) ?_))))))))))
      refine wl_end (s' := ofL [(5, .int .i64 a5), (6, .int .i64 a6), (9, .pointer (some ⟨gb2, 0, none⟩)), (10, .pointer (some ⟨gb3, 0, none⟩)), (11, .pointer (some ⟨gb4, 0, none⟩)), (14, .bool false), (48, .string r12_1), (49, .bool r12_2), (50, .string r13_1), (51, .bool r13_2), (52, .int .i64 r14_1), (53, .bool r14_2), (54, .int .i64 r15_1), (55, .bool r15_2), (56, .slice i16.1 r16_1.length i16.2.1), (57, .slice i16.2.2.1 r16_2.length i16.2.2.2), (58, .bool r16_3), (59, .slice i17.1 r17_1.length i17.2.1), (60, .slice i17.2.2.1 r17_2.length i17.2.2.2), (61, .bool r17_3), (62, .int .i64 r18_1), (63, .int .i64 r18_2), (64, .bool r18_3), (65, .int .i64 r19_1), (66, .int .i64 r19_2), (67, .bool r19_3)]) (hG119 _ _ ?_) (sub_cons rfl (sub_cons rfl (sub_cons rfl (sub_cons rfl (sub_cons rfl (sub_cons rfl (sub_cons rfl (sub_cons rfl (sub_cons rfl (sub_cons rfl (sub_cons rfl (sub_cons rfl (sub_cons rfl (sub_cons rfl (sub_cons rfl (sub_cons rfl (sub_cons rfl (sub_cons rfl (sub_cons rfl (sub_cons rfl (sub_cons rfl (sub_cons rfl (sub_cons rfl (sub_cons rfl (sub_cons rfl (sub_cons rfl (sub_nil)))))))))))))))))))))))))))
      refine cw_seq (fun G123 hG123 => ?_)
      refine cw_seq (fun G124 hG124 => ?_)
      refine cw_region ?_
      refine wl_op rfl rfl rfl (pv_move rfl rfl) (wl_op rfl rfl rfl (pv_move rfl rfl) (wl_op rfl rfl rfl (pv_bool (pv_bin rfl rfl rfl (fun _ => b_neqb Try.underlying4)) (o37)) (wl_op rfl rfl rfl (pv_move rfl rfl) (wl_yes rfl rfl rfl rfl rfl rfl (pv_move rfl rfl) (wl_yes rfl rfl rfl rfl rfl rfl (pv_move rfl rfl) (wl_yes rfl rfl rfl rfl rfl rfl (pv_bool (pv_bin rfl rfl rfl (fun _ => b_neqs Try.underlying9)) (o38)) (wl_op rfl rfl rfl (pv_pick rfl rfl rfl) (wl_op rfl rfl rfl (pv_move rfl rfl) (wl_yes rfl rfl rfl rfl rfl rfl (pv_move rfl rfl) (wl_yes rfl rfl rfl rfl rfl rfl (pv_move rfl rfl) (wl_yes rfl rfl rfl rfl rfl rfl (pv_bool (pv_bin rfl rfl rfl (fun _ => b_neqb Try.underlying4)) (o39)) ?_)))))))))))
      refine wl_op rfl rfl rfl (pv_pick rfl rfl rfl) (wl_op rfl rfl rfl (pv_move rfl rfl) (wl_yes rfl rfl rfl rfl rfl rfl (pv_move rfl rfl) (wl_yes rfl rfl rfl rfl rfl rfl (pv_move rfl rfl) (wl_yes rfl rfl rfl rfl rfl rfl (pv_bool (pv_bin rfl rfl rfl (fun _ => b_neq Try.underlying3)) (o40)) (wl_op rfl rfl rfl (pv_pick rfl rfl rfl) (wl_op rfl rfl rfl (pv_move rfl rfl) (wl_yes rfl rfl rfl rfl rfl rfl (pv_move rfl rfl) (wl_yes rfl rfl rfl rfl rfl rfl (pv_move rfl rfl) (wl_yes rfl rfl rfl rfl rfl rfl (pv_bool (pv_bin rfl rfl rfl (fun _ => b_neqb Try.underlying4)) (o41)) (wl_op rfl rfl rfl (pv_pick rfl rfl rfl) (wl_op rfl rfl rfl (pv_move rfl rfl) ?_)))))))))))
      refine wl_yes rfl rfl rfl rfl rfl rfl (pv_move rfl rfl) (wl_yes rfl rfl rfl rfl rfl rfl (pv_move rfl rfl) (wl_yes rfl rfl rfl rfl rfl rfl (pv_bool (pv_call_c hS rfl rfl Try.func25 (by kernel_rfl) rfl (fun w hw => C20 i16.1 i16.2.1 i17.1 i17.2.1 w (h_m16_0 w hw).1 (h_m16_0 w hw).2 (h_m17_0 w hw).1 (h_m17_0 w hw).2)) (o42)) (wl_yes rfl rfl rfl rfl rfl rfl (pv_not rfl rfl) (wl_op rfl rfl rfl (pv_pick rfl rfl rfl) (wl_op rfl rfl rfl (pv_move rfl rfl) (wl_yes rfl rfl rfl rfl rfl rfl (pv_move rfl rfl) (wl_yes rfl rfl rfl rfl rfl rfl (pv_move rfl rfl) (wl_yes rfl rfl rfl rfl rfl rfl (pv_bool (pv_call_c hS rfl rfl Try.func25 (by kernel_rfl) rfl (fun w hw => C21 i16.2.2.1 i16.2.2.2 i17.2.2.1 i17.2.2.2 w (h_m16_1 w hw).1 (h_m16_1 w hw).2 (h_m17_1 w hw).1 (h_m17_1 w hw).2)) (o43)) (wl_yes rfl rfl rfl rfl rfl rfl (pv_not rfl rfl) (wl_op rfl rfl rfl (pv_pick rfl rfl rfl) (wl_op rfl rfl rfl (pv_move rfl rfl) ?_)))))))))))
      refine wl_yes rfl rfl rfl rfl rfl rfl (pv_move rfl rfl) (wl_yes rfl rfl rfl rfl rfl rfl (pv_move rfl rfl) (wl_yes rfl rfl rfl rfl rfl rfl (pv_bool (pv_bin rfl rfl rfl (fun _ => b_neqb Try.underlying4)) (o44)) (wl_op rfl rfl rfl (pv_pick rfl rfl rfl) (wl_op rfl rfl rfl (pv_move rfl rfl) (wl_yes rfl rfl rfl rfl rfl rfl (pv_move rfl rfl) (wl_yes rfl rfl rfl rfl rfl rfl (pv_move rfl rfl) (wl_yes rfl rfl rfl rfl rfl rfl (pv_bool (pv_bin rfl rfl rfl (fun _ => b_neq Try.underlying3)) (o45)) (wl_op rfl rfl rfl (pv_pick rfl rfl rfl) (wl_op rfl rfl rfl (pv_move rfl rfl) (wl_yes rfl rfl rfl rfl rfl rfl (pv_move rfl rfl) (wl_yes rfl rfl rfl rfl rfl rfl (pv_move rfl rfl) ?_)))))))))))
      refine wl_yes rfl rfl rfl rfl rfl rfl (pv_bool (pv_bin rfl rfl rfl (fun _ => b_neq Try.underlying3)) (o46)) (wl_op rfl rfl rfl (pv_pick rfl rfl rfl) (wl_op rfl rfl rfl (pv_move rfl rfl) (wl_yes rfl rfl rfl rfl rfl rfl (pv_move rfl rfl) (wl_yes rfl rfl rfl rfl rfl rfl (pv_move rfl rfl) (wl_yes rfl rfl rfl rfl rfl rfl (pv_bool (pv_bin rfl rfl rfl (fun _ => b_neqb Try.underlying4)) (o47)) (wl_op rfl rfl rfl (pv_pick rfl rfl rfl) (wl_op rfl rfl rfl (pv_move rfl rfl) (wl_yes rfl rfl rfl rfl rfl rfl (pv_move rfl rfl) (wl_yes rfl rfl rfl rfl rfl rfl (pv_move rfl rfl) (wl_yes rfl rfl rfl rfl rfl rfl (pv_bool (pv_bin rfl rfl rfl (fun _ => b_neqb Try.underlying4)) (o48)) (wl_op rfl rfl rfl (pv_pick rfl rfl rfl) ?_)))))))))))
      refine wl_end (s' := ofL [(5, .int .i64 a5), (6, .int .i64 a6), (9, .pointer (some ⟨gb2, 0, none⟩)), (10, .pointer (some ⟨gb3, 0, none⟩)), (11, .pointer (some ⟨gb4, 0, none⟩)), (14, .bool false), (48, .string r12_1), (49, .bool r12_2), (52, .int .i64 r14_1), (56, .slice i16.1 r16_1.length i16.2.1), (57, .slice i16.2.2.1 r16_2.length i16.2.2.2), (62, .int .i64 r18_1), (63, .int .i64 r18_2), (64, .bool r18_3), (460, .bool false)]) (hG124 _ _ ?_) (sub_cons rfl (sub_cons rfl (sub_cons rfl (sub_cons rfl (sub_cons rfl (sub_cons rfl (sub_cons rfl (sub_cons rfl (sub_cons rfl (sub_cons rfl (sub_cons rfl (sub_cons rfl (sub_cons rfl (sub_cons rfl (sub_cons rfl (sub_nil))))))))))))))))
      refine cw_false rfl rfl ?_
      refine cw_skip (GS.sub (s' := ofL [(5, .int .i64 a5), (6, .int .i64 a6), (9, .pointer (some ⟨gb2, 0, none⟩)), (10, .pointer (some ⟨gb3, 0, none⟩)), (11, .pointer (some ⟨gb4, 0, none⟩)), (14, .bool false), (48, .string r12_1), (49, .bool r12_2), (52, .int .i64 r14_1), (56, .slice i16.1 r16_1.length i16.2.1), (57, .slice i16.2.2.1 r16_2.length i16.2.2.2), (62, .int .i64 r18_1), (63, .int .i64 r18_2), (64, .bool r18_3)]) (hG123 _ _ ?_) (sub_cons rfl (sub_cons rfl (sub_cons rfl (sub_cons rfl (sub_cons rfl (sub_cons rfl (sub_cons rfl (sub_cons rfl (sub_cons rfl (sub_cons rfl (sub_cons rfl (sub_cons rfl (sub_cons rfl (sub_cons rfl (sub_nil))))))))))))))))
      refine cw_seq (fun G134 hG134 => ?_)
      refine cw_seq (fun G135 hG135 => ?_)
      refine cw_region ?_
      refine wl_op rfl rfl rfl (pv_move rfl rfl) ?_
      refine wl_end (s' := ofL [(5, .int .i64 a5), (6, .int .i64 a6), (9, .pointer (some ⟨gb2, 0, none⟩)), (10, .pointer (some ⟨gb3, 0, none⟩)), (11, .pointer (some ⟨gb4, 0, none⟩)), (14, .bool false), (48, .string r12_1), (52, .int .i64 r14_1), (56, .slice i16.1 r16_1.length i16.2.1), (57, .slice i16.2.2.1 r16_2.length i16.2.2.2), (62, .int .i64 r18_1), (63, .int .i64 r18_2), (64, .bool r18_3), (461, .bool r12_2)]) (hG135 _ _ ?_) (sub_cons rfl (sub_cons rfl (sub_cons rfl (sub_cons rfl (sub_cons rfl (sub_cons rfl (sub_cons rfl (sub_cons rfl (sub_cons rfl (sub_cons rfl (sub_cons rfl (sub_cons rfl (sub_cons rfl (sub_cons rfl (sub_nil)))))))))))))))
      have hJ139 : GS K3 620 G134 (ofL [(5, .int .i64 a5), (6, .int .i64 a6), (11, .pointer (some ⟨gb4, 0, none⟩)), (14, .bool false), (62, .int .i64 r18_1), (63, .int .i64 r18_2), (64, .bool r18_3)]) := by as_aux_lemma =>
        refine hG134 _ _ ?_
        refine cw_seq (fun G141 hG141 => ?_)
        refine cw_seq (fun G142 hG142 => ?_)
        have hJ143 : GS K3 620 G142 (ofL [(14, .bool false), (619, .bool false)]) := by as_aux_lemma =>
          refine hG142 _ _ ?_
          refine cw_false rfl rfl ?_
          refine cw_skip (GS.sub (s' := ofL [(14, .bool false)]) (hG141 _ _ ?_) (sub_cons rfl (sub_nil)))
          refine cw_seq (fun G147 hG147 => ?_)
          refine cw_region ?_
          refine wl_op rfl rfl rfl (pv_assign rfl rfl) ?_
          refine wl_end (s' := ofL [(14, .bool true)]) (hG147 _ _ ?_) (sub_cons rfl (sub_nil))
          exact cw_ret_true (w0 := w0) rfl rfl hB
        refine cw_draw hS (by kernel_rfl) (by as_aux_lemma => kernel_rfl) (fun F hF => ?_)
        refine wq_op rfl rfl rfl (pv_move rfl rfl) (wq_op rfl rfl rfl (pv_move rfl rfl) ?_)
        refine wq_split (t := 591) rfl (fun hb1 => ?_) (fun hb1 => ?_)
        ·
          refine wq_yes rfl rfl rfl rfl rfl rfl (pv_move rfl rfl) (wq_yes rfl rfl rfl rfl rfl rfl (pv_move rfl rfl) (wq_yes rfl rfl rfl rfl rfl rfl (pv_bool (pv_call_b hS rfl rfl Try.func16 (by kernel_rfl) rfl (C22 hb1)) (o76 hb1)) (wq_yes rfl rfl rfl rfl rfl rfl (pv_not rfl rfl) (wq_yes rfl rfl rfl rfl rfl rfl (pv_move rfl rfl) (wq_yes rfl rfl rfl rfl rfl rfl (pv_move rfl rfl) (wq_yes rfl rfl rfl rfl rfl rfl (pv_bool (pv_bin rfl rfl rfl (fun _ => b_lss Try.underlying3)) (o77 hb1)) (wq_yes rfl rfl rfl rfl rfl rfl (pv_pick rfl rfl rfl) (wq_yes rfl rfl rfl rfl rfl rfl (pv_move rfl rfl) (wq_yes rfl rfl rfl rfl rfl rfl (pv_move rfl rfl) (wq_yes rfl rfl rfl rfl rfl rfl (pv_move rfl rfl) (wq_yes rfl rfl rfl rfl rfl rfl (pv_fieldAddr rfl rfl (fun w => fa23_0 gb4 w)) ?_)))))))))))
          refine wq_yes rfl rfl rfl rfl rfl rfl (pv_load rfl rfl (fun w hw => ldF (h_gb4 w hw) rfl)) (wq_yes rfl rfl rfl rfl rfl rfl (pv_bin rfl rfl rfl (fun _ => b_sub Try.underlying3)) (wq_yes rfl rfl rfl rfl rfl rfl (pv_call_b hS rfl rfl Try.func26 (by kernel_rfl) rfl (C23 hb1)) (wq_yes rfl rfl rfl rfl rfl rfl (pv_bin rfl rfl rfl (fun _ => b_mul Try.underlying3)) (wq_yes rfl rfl rfl rfl rfl rfl (pv_fieldAddr rfl rfl (fun w => fa23_1 gb4 w)) (wq_yes rfl rfl rfl rfl rfl rfl (pv_load rfl rfl (fun w hw => ldF (h_gb4 w hw) rfl)) (wq_yes rfl rfl rfl rfl rfl rfl (pv_move rfl rfl) (wq_yes rfl rfl rfl rfl rfl rfl (pv_move rfl rfl) (wq_yes rfl rfl rfl rfl rfl rfl (pv_bin rfl rfl rfl (fun _ => b_sub Try.underlying3)) (wq_yes rfl rfl rfl rfl rfl rfl (pv_call_b hS rfl rfl Try.func26 (by kernel_rfl) rfl (C24 hb1)) (wq_yes rfl rfl rfl rfl rfl rfl (pv_bin rfl rfl rfl (fun _ => b_mul Try.underlying3)) (wq_yes rfl rfl rfl rfl rfl rfl (pv_move rfl rfl) ?_)))))))))))
          refine wq_yes rfl rfl rfl rfl rfl rfl (pv_bin rfl rfl rfl (fun _ => b_mul Try.underlying3)) (wq_yes rfl rfl rfl rfl rfl rfl (pv_bool (pv_bin rfl rfl rfl (fun _ => b_neq Try.underlying3)) (o78 hb1)) (wq_yes rfl rfl rfl rfl rfl rfl (pv_pick rfl rfl rfl) (wq_op rfl rfl rfl (pv_pick rfl rfl rfl) ?_)))
          exact wq_end hF (sub_cons rfl (sub_cons rfl (sub_nil))) hJ143
        ·
          refine wq_no rfl rfl rfl rfl rfl rfl (wq_no rfl rfl rfl rfl rfl rfl (wq_no rfl rfl rfl rfl rfl rfl (wq_no rfl rfl rfl rfl rfl rfl (wq_no rfl rfl rfl rfl rfl rfl (wq_off rfl rfl rfl rfl rfl (wq_off rfl rfl rfl rfl rfl (wq_no rfl rfl rfl rfl rfl rfl (wq_no rfl rfl rfl rfl rfl rfl (wq_off rfl rfl rfl rfl rfl (wq_off rfl rfl rfl rfl rfl (wq_off rfl rfl rfl rfl rfl (wq_off rfl rfl rfl rfl rfl (wq_off rfl rfl rfl rfl rfl (wq_off rfl rfl rfl rfl rfl (wq_off rfl rfl rfl rfl rfl (wq_off rfl rfl rfl rfl rfl (wq_off rfl rfl rfl rfl rfl (wq_off rfl rfl rfl rfl rfl (wq_off rfl rfl rfl rfl rfl (wq_off rfl rfl rfl rfl rfl (wq_off rfl rfl rfl rfl rfl (wq_off rfl rfl rfl rfl rfl (wq_off rfl rfl rfl rfl rfl (wq_off rfl rfl rfl rfl rfl (wq_off rfl rfl rfl rfl rfl (wq_no rfl rfl rfl rfl rfl rfl (wq_op rfl rfl rfl (pv_pick rfl rfl rfl) ?_)))))))))))))))))))))))))))
          exact wq_end hF (sub_cons rfl (sub_cons rfl (sub_nil))) hJ143
      refine cw_cond rfl (fun hb1 => ?_) (fun hb1 => ?_)
      ·
        refine cw_seq (fun G165 hG165 => ?_)
        refine cw_region ?_
        refine wl_op rfl rfl rfl (pv_load rfl rfl (fun w hw => ld23 a2_0 a2_1 gb2 w (h_gb2 w hw))) (wl_op rfl rfl rfl (pv_load rfl rfl (fun w hw => ld23 a3_0 a3_1 gb3 w (h_gb3 w hw))) (wl_op rfl rfl rfl (pv_call_b hS rfl rfl Try.func7 (by kernel_rfl) rfl (C25 hb1)) (wl_op rfl rfl rfl (pv_move rfl rfl) (wl_op rfl rfl rfl (pv_extract rfl rfl rfl) (wl_op rfl rfl rfl (pv_extract rfl rfl rfl) (wl_op rfl rfl rfl (pv_assign rfl rfl) (wl_op rfl rfl rfl (pv_assign rfl rfl) ?_)))))))
        refine wl_end (s' := ofL [(5, .int .i64 a5), (6, .int .i64 a6), (9, .pointer (some ⟨gb2, 0, none⟩)), (10, .pointer (some ⟨gb3, 0, none⟩)), (11, .pointer (some ⟨gb4, 0, none⟩)), (14, .bool false), (48, .string r12_1), (52, .int .i64 r14_1), (56, .slice i16.1 r16_1.length i16.2.1), (57, .slice i16.2.2.1 r16_2.length i16.2.2.2), (62, .int .i64 r18_1), (63, .int .i64 r18_2), (64, .bool r18_3), (68, .int .i64 r25_1), (69, .bool r25_2)]) (hG165 _ _ ?_) (sub_cons rfl (sub_cons rfl (sub_cons rfl (sub_cons rfl (sub_cons rfl (sub_cons rfl (sub_cons rfl (sub_cons rfl (sub_cons rfl (sub_cons rfl (sub_cons rfl (sub_cons rfl (sub_cons rfl (sub_cons rfl (sub_cons rfl (sub_nil))))))))))))))))
        refine cw_seq (fun G169 hG169 => ?_)
        refine cw_region ?_
        refine wl_op rfl rfl rfl (pv_load rfl rfl (fun w hw => ld23 a3_0 a3_1 gb3 w (h_gb3 w hw))) (wl_op rfl rfl rfl (pv_load rfl rfl (fun w hw => ld23 a2_0 a2_1 gb2 w (h_gb2 w hw))) (wl_op rfl rfl rfl (pv_call_b hS rfl rfl Try.func18 (by kernel_rfl) rfl (C26 hb1)) (wl_op rfl rfl rfl (pv_move rfl rfl) (wl_op rfl rfl rfl (pv_extract rfl rfl rfl) (wl_op rfl rfl rfl (pv_extract rfl rfl rfl) (wl_op rfl rfl rfl (pv_assign rfl rfl) (wl_op rfl rfl rfl (pv_assign rfl rfl) ?_)))))))
        refine wl_end (s' := ofL [(5, .int .i64 a5), (6, .int .i64 a6), (9, .pointer (some ⟨gb2, 0, none⟩)), (10, .pointer (some ⟨gb3, 0, none⟩)), (11, .pointer (some ⟨gb4, 0, none⟩)), (14, .bool false), (48, .string r12_1), (52, .int .i64 r14_1), (56, .slice i16.1 r16_1.length i16.2.1), (57, .slice i16.2.2.1 r16_2.length i16.2.2.2), (62, .int .i64 r18_1), (63, .int .i64 r18_2), (64, .bool r18_3), (68, .int .i64 r25_1), (69, .bool r25_2), (70, .string r26_1), (71, .bool r26_2)]) (hG169 _ _ ?_) (sub_cons rfl (sub_cons rfl (sub_cons rfl (sub_cons rfl (sub_cons rfl (sub_cons rfl (sub_cons rfl (sub_cons rfl (sub_cons rfl (sub_cons rfl (sub_cons rfl (sub_cons rfl (sub_cons rfl (sub_cons rfl (sub_cons rfl (sub_cons rfl (sub_cons rfl (sub_nil))))))))))))))))))
        refine cw_seq (fun G173 hG173 => ?_)
        refine cw_seq (fun G174 hG174 => ?_)
        refine cw_draw hS (by kernel_rfl) (by as_aux_lemma => kernel_rfl) (fun F hF => ?_)
        refine wq_op rfl rfl rfl (pv_bool (pv_move rfl rfl) (o49 hb1)) (wq_op rfl rfl rfl (pv_not rfl rfl) (wq_op rfl rfl rfl (pv_move rfl rfl) (wq_yes rfl rfl rfl rfl rfl rfl (pv_move rfl rfl) (wq_yes rfl rfl rfl rfl rfl rfl (pv_move rfl rfl) (wq_yes rfl rfl rfl rfl rfl rfl (pv_fieldAddr rfl rfl (fun w => fa23_0 gb2 w)) (wq_yes rfl rfl rfl rfl rfl rfl (pv_load rfl rfl (fun w hw => ldF (h_gb2 w hw) rfl)) (wq_yes rfl rfl rfl rfl rfl rfl (pv_bin rfl rfl rfl (fun _ => b_mul Try.underlying3)) (wq_yes rfl rfl rfl rfl rfl rfl (pv_fieldAddr rfl rfl (fun w => fa23_0 gb3 w)) (wq_yes rfl rfl rfl rfl rfl rfl (pv_load rfl rfl (fun w hw => ldF (h_gb3 w hw) rfl)) (wq_yes rfl rfl rfl rfl rfl rfl (pv_bin rfl rfl rfl (fun _ => b_mul Try.underlying3)) (wq_yes rfl rfl rfl rfl rfl rfl (pv_bin rfl rfl rfl (fun _ => b_add Try.underlying3)) ?_)))))))))))
        refine wq_yes rfl rfl rfl rfl rfl rfl (pv_bool (pv_bin rfl rfl rfl (fun _ => b_neq Try.underlying3)) (o50 hb1)) (wq_op rfl rfl rfl (pv_pick rfl rfl rfl) (wq_op rfl rfl rfl (pv_move rfl rfl) (wq_yes rfl rfl rfl rfl rfl rfl (pv_bool (pv_move rfl rfl) (o51 hb1)) (wq_yes rfl rfl rfl rfl rfl rfl (pv_not rfl rfl) (wq_op rfl rfl rfl (pv_pick rfl rfl rfl) (wq_op rfl rfl rfl (pv_move rfl rfl) (wq_yes rfl rfl rfl rfl rfl rfl (pv_move rfl rfl) (wq_yes rfl rfl rfl rfl rfl rfl (pv_len (t := 37) Try.underlying37 rfl rfl) (wq_yes rfl rfl rfl rfl rfl rfl (pv_bool (pv_bin rfl rfl rfl (fun _ => b_neq Try.underlying3)) (o52 hb1)) (wq_op rfl rfl rfl (pv_pick rfl rfl rfl) (wq_op rfl rfl rfl (pv_move rfl rfl) ?_)))))))))))
        refine wq_yes rfl rfl rfl rfl rfl rfl (pv_move rfl rfl) (wq_yes rfl rfl rfl rfl rfl rfl (pv_len (t := 37) Try.underlying37 rfl rfl) (wq_yes rfl rfl rfl rfl rfl rfl (pv_bool (pv_bin rfl rfl rfl (fun _ => b_neq Try.underlying3)) (o53 hb1)) (wq_op rfl rfl rfl (pv_pick rfl rfl rfl) (wq_op rfl rfl rfl (pv_move rfl rfl) (wq_yes rfl rfl rfl rfl rfl rfl (pv_move rfl rfl) (wq_yes rfl rfl rfl rfl rfl rfl (pv_indexAddr (k := i16.2.1) (l := r16_1) (i := 0) ix37 rfl rfl rfl (by decide) (of_decide_eq_true (o54 hb1)) (fun w hw => (h_m16_0 w hw).1)) (wq_yes rfl rfl rfl rfl rfl rfl (pv_loadI (A := i16.1) (l := r16_1) (i := 0) ldI rfl rfl (by decide) (of_decide_eq_true (o54 hb1)) (fun w hw => (h_m16_0 w hw).1)) (wq_yes rfl rfl rfl rfl rfl rfl (pv_move rfl rfl) (wq_yes rfl rfl rfl rfl rfl rfl (pv_indexAddr (k := i16.2.1) (l := r16_1) (i := 1) ix37 rfl rfl rfl (by decide) (of_decide_eq_true (o55 hb1)) (fun w hw => (h_m16_0 w hw).1)) (wq_yes rfl rfl rfl rfl rfl rfl (pv_loadI (A := i16.1) (l := r16_1) (i := 1) ldI rfl rfl (by decide) (of_decide_eq_true (o55 hb1)) (fun w hw => (h_m16_0 w hw).1)) (wq_yes rfl rfl rfl rfl rfl rfl (pv_bool (pv_call_b hS rfl rfl Try.func16 (by kernel_rfl) rfl (C27 hb1)) (o56 hb1)) ?_)))))))))))
        refine wq_yes rfl rfl rfl rfl rfl rfl (pv_not rfl rfl) (wq_op rfl rfl rfl (pv_pick rfl rfl rfl) (wq_op rfl rfl rfl (pv_move rfl rfl) (wq_yes rfl rfl rfl rfl rfl rfl (pv_move rfl rfl) (wq_yes rfl rfl rfl rfl rfl rfl (pv_indexAddr (k := i16.2.2.2) (l := r16_2) (i := 0) ix37 rfl rfl rfl (by decide) (of_decide_eq_true (o57 hb1)) (fun w hw => (h_m16_1 w hw).1)) (wq_yes rfl rfl rfl rfl rfl rfl (pv_loadI (A := i16.2.2.1) (l := r16_2) (i := 0) ldI rfl rfl (by decide) (of_decide_eq_true (o57 hb1)) (fun w hw => (h_m16_1 w hw).1)) (wq_yes rfl rfl rfl rfl rfl rfl (pv_move rfl rfl) (wq_yes rfl rfl rfl rfl rfl rfl (pv_indexAddr (k := i16.2.2.2) (l := r16_2) (i := 1) ix37 rfl rfl rfl (by decide) (of_decide_eq_true (o58 hb1)) (fun w hw => (h_m16_1 w hw).1)) (wq_yes rfl rfl rfl rfl rfl rfl (pv_loadI (A := i16.2.2.1) (l := r16_2) (i := 1) ldI rfl rfl (by decide) (of_decide_eq_true (o58 hb1)) (fun w hw => (h_m16_1 w hw).1)) (wq_yes rfl rfl rfl rfl rfl rfl (pv_bool (pv_call_b hS rfl rfl Try.func16 (by kernel_rfl) rfl (C28 hb1)) (o59 hb1)) (wq_yes rfl rfl rfl rfl rfl rfl (pv_not rfl rfl) (wq_op rfl rfl rfl (pv_pick rfl rfl rfl) ?_)))))))))))
        refine wq_op rfl rfl rfl (pv_move rfl rfl) (wq_yes rfl rfl rfl rfl rfl rfl (pv_move rfl rfl) (wq_yes rfl rfl rfl rfl rfl rfl (pv_indexAddr (k := i16.2.1) (l := r16_1) (i := 0) ix37 rfl rfl rfl (by decide) (of_decide_eq_true (o60 hb1)) (fun w hw => (h_m16_0 w hw).1)) (wq_yes rfl rfl rfl rfl rfl rfl (pv_loadI (A := i16.1) (l := r16_1) (i := 0) ldI rfl rfl (by decide) (of_decide_eq_true (o60 hb1)) (fun w hw => (h_m16_0 w hw).1)) (wq_yes rfl rfl rfl rfl rfl rfl (pv_bool (pv_bin rfl rfl rfl (fun _ => b_lss Try.underlying3)) (o61 hb1)) (wq_op rfl rfl rfl (pv_pick rfl rfl rfl) (wq_op rfl rfl rfl (pv_move rfl rfl) (wq_yes rfl rfl rfl rfl rfl rfl (pv_move rfl rfl) (wq_yes rfl rfl rfl rfl rfl rfl (pv_indexAddr (k := i16.2.2.2) (l := r16_2) (i := 0) ix37 rfl rfl rfl (by decide) (of_decide_eq_true (o62 hb1)) (fun w hw => (h_m16_1 w hw).1)) (wq_yes rfl rfl rfl rfl rfl rfl (pv_loadI (A := i16.2.2.1) (l := r16_2) (i := 0) ldI rfl rfl (by decide) (of_decide_eq_true (o62 hb1)) (fun w hw => (h_m16_1 w hw).1)) (wq_yes rfl rfl rfl rfl rfl rfl (pv_bool (pv_bin rfl rfl rfl (fun _ => b_lss Try.underlying3)) (o63 hb1)) (wq_op rfl rfl rfl (pv_pick rfl rfl rfl) ?_)))))))))))
        refine wq_op rfl rfl rfl (pv_move rfl rfl) (wq_yes rfl rfl rfl rfl rfl rfl (pv_move rfl rfl) (wq_yes rfl rfl rfl rfl rfl rfl (pv_bin rfl rfl rfl (fun _ => b_eqls Try.underlying9)) (wq_yes rfl rfl rfl rfl rfl rfl (pv_move rfl rfl) (wq_yes rfl rfl rfl rfl rfl rfl (pv_indexAddr (k := i16.2.1) (l := r16_1) (i := 0) ix37 rfl rfl rfl (by decide) (of_decide_eq_true (o64 hb1)) (fun w hw => (h_m16_0 w hw).1)) (wq_yes rfl rfl rfl rfl rfl rfl (pv_loadI (A := i16.1) (l := r16_1) (i := 0) ldI rfl rfl (by decide) (of_decide_eq_true (o64 hb1)) (fun w hw => (h_m16_0 w hw).1)) (wq_yes rfl rfl rfl rfl rfl rfl (pv_bin rfl rfl rfl (fun _ => b_eql Try.underlying3)) (wq_yes rfl rfl rfl rfl rfl rfl (pv_bool (pv_bin rfl rfl rfl (fun _ => b_neqb Try.underlying4)) (o65 hb1)) (wq_op rfl rfl rfl (pv_pick rfl rfl rfl) (wq_op rfl rfl rfl (pv_move rfl rfl) (wq_yes rfl rfl rfl rfl rfl rfl (pv_move rfl rfl) (wq_yes rfl rfl rfl rfl rfl rfl (pv_bin rfl rfl rfl (fun _ => b_eqls Try.underlying9)) ?_)))))))))))
        refine wq_yes rfl rfl rfl rfl rfl rfl (pv_move rfl rfl) (wq_yes rfl rfl rfl rfl rfl rfl (pv_indexAddr (k := i16.2.2.2) (l := r16_2) (i := 0) ix37 rfl rfl rfl (by decide) (of_decide_eq_true (o66 hb1)) (fun w hw => (h_m16_1 w hw).1)) (wq_yes rfl rfl rfl rfl rfl rfl (pv_loadI (A := i16.2.2.1) (l := r16_2) (i := 0) ldI rfl rfl (by decide) (of_decide_eq_true (o66 hb1)) (fun w hw => (h_m16_1 w hw).1)) (wq_yes rfl rfl rfl rfl rfl rfl (pv_bin rfl rfl rfl (fun _ => b_eql Try.underlying3)) (wq_yes rfl rfl rfl rfl rfl rfl (pv_bool (pv_bin rfl rfl rfl (fun _ => b_neqb Try.underlying4)) (o67 hb1)) (wq_op rfl rfl rfl (pv_pick rfl rfl rfl) (wq_op rfl rfl rfl (pv_move rfl rfl) (wq_yes rfl rfl rfl rfl rfl rfl (pv_move rfl rfl) (wq_yes rfl rfl rfl rfl rfl rfl (pv_bin rfl rfl rfl (fun _ => b_eqls Try.underlying9)) (wq_yes rfl rfl rfl rfl rfl rfl (pv_fieldAddr rfl rfl (fun w => fa23_0 gb2 w)) (wq_yes rfl rfl rfl rfl rfl rfl (pv_load rfl rfl (fun w hw => ldF (h_gb2 w hw) rfl)) (wq_yes rfl rfl rfl rfl rfl rfl (pv_fieldAddr rfl rfl (fun w => fa23_1 gb3 w)) ?_)))))))))))
        refine wq_yes rfl rfl rfl rfl rfl rfl (pv_load rfl rfl (fun w hw => ldF (h_gb3 w hw) rfl)) (wq_yes rfl rfl rfl rfl rfl rfl (pv_bin rfl rfl rfl (fun _ => b_mul Try.underlying3)) (wq_yes rfl rfl rfl rfl rfl rfl (pv_fieldAddr rfl rfl (fun w => fa23_0 gb3 w)) (wq_yes rfl rfl rfl rfl rfl rfl (pv_load rfl rfl (fun w hw => ldF (h_gb3 w hw) rfl)) (wq_yes rfl rfl rfl rfl rfl rfl (pv_fieldAddr rfl rfl (fun w => fa23_1 gb2 w)) (wq_yes rfl rfl rfl rfl rfl rfl (pv_load rfl rfl (fun w hw => ldF (h_gb2 w hw) rfl)) (wq_yes rfl rfl rfl rfl rfl rfl (pv_bin rfl rfl rfl (fun _ => b_mul Try.underlying3)) (wq_yes rfl rfl rfl rfl rfl rfl (pv_bin rfl rfl rfl (fun _ => b_eql Try.underlying3)) (wq_yes rfl rfl rfl rfl rfl rfl (pv_bool (pv_bin rfl rfl rfl (fun _ => b_neqb Try.underlying4)) (o68 hb1)) (wq_op rfl rfl rfl (pv_pick rfl rfl rfl) ?_)))))))))
        refine wq_end (s' := ofL [(5, .int .i64 a5), (6, .int .i64 a6), (11, .pointer (some ⟨gb4, 0, none⟩)), (14, .bool false), (48, .string r12_1), (62, .int .i64 r18_1), (63, .int .i64 r18_2), (64, .bool r18_3), (70, .string r26_1), (567, .bool false)]) hF (sub_cons rfl (sub_cons rfl (sub_cons rfl (sub_cons rfl (sub_cons rfl (sub_cons rfl (sub_cons rfl (sub_cons rfl (sub_cons rfl (sub_cons rfl (sub_nil))))))))))) (hG174 _ _ ?_)
        refine cw_false rfl rfl ?_
        refine cw_skip (GS.sub (s' := ofL [(5, .int .i64 a5), (6, .int .i64 a6), (11, .pointer (some ⟨gb4, 0, none⟩)), (14, .bool false), (48, .string r12_1), (62, .int .i64 r18_1), (63, .int .i64 r18_2), (64, .bool r18_3), (70, .string r26_1)]) (hG173 _ _ ?_) (sub_cons rfl (sub_cons rfl (sub_cons rfl (sub_cons rfl (sub_cons rfl (sub_cons rfl (sub_cons rfl (sub_cons rfl (sub_cons rfl (sub_nil)))))))))))
        refine cw_seq (fun G187 hG187 => ?_)
        refine cw_region ?_
        have hJ189 : GS K3 620 G187 (ofL [(5, .int .i64 a5), (6, .int .i64 a6), (11, .pointer (some ⟨gb4, 0, none⟩)), (14, .bool false), (62, .int .i64 r18_1), (63, .int .i64 r18_2), (64, .bool r18_3), (589, .bool false)]) := by as_aux_lemma =>
          refine hG187 _ _ ?_
          refine cw_false rfl rfl ?_
          exact cw_skip (GS.sub hJ139 (sub_cons rfl (sub_cons rfl (sub_cons rfl (sub_cons rfl (sub_cons rfl (sub_cons rfl (sub_cons rfl (sub_nil)))))))))
        refine wl_op rfl rfl rfl (pv_move rfl rfl) (wl_op rfl rfl rfl (pv_bin rfl rfl rfl (fun _ => b_eqls Try.underlying9)) (wl_op rfl rfl rfl (pv_move rfl rfl) ?_))
        refine wl_split (t := 570) rfl (fun hb2 => ?_) (fun hb2 => ?_)
        ·
          refine wl_yes rfl rfl rfl rfl rfl rfl (pv_move rfl rfl) (wl_yes rfl rfl rfl rfl rfl rfl (pv_bool (pv_bin rfl rfl rfl (fun _ => b_neqs Try.underlying9)) (o69 hb1 hb2)) (wl_op rfl rfl rfl (pv_pick rfl rfl rfl) (wl_op rfl rfl rfl (pv_move rfl rfl) (wl_yes rfl rfl rfl rfl rfl rfl (pv_move rfl rfl) (wl_yes rfl rfl rfl rfl rfl rfl (pv_bin rfl rfl rfl (fun _ => b_eqls Try.underlying9)) (wl_yes rfl rfl rfl rfl rfl rfl (pv_move rfl rfl) ?_))))))
          refine wl_split (t := 577) rfl (fun hb3 => ?_) (fun hb3 => ?_)
          ·
            refine wl_yes rfl rfl rfl rfl rfl rfl (pv_move rfl rfl) (wl_yes rfl rfl rfl rfl rfl rfl (pv_bool (pv_bin rfl rfl rfl (fun _ => b_neqs Try.underlying9)) (o70 hb1 hb2 hb3)) (wl_yes rfl rfl rfl rfl rfl rfl (pv_pick rfl rfl rfl) (wl_op rfl rfl rfl (pv_pick rfl rfl rfl) (wl_op rfl rfl rfl (pv_move rfl rfl) (wl_yes rfl rfl rfl rfl rfl rfl (pv_move rfl rfl) (wl_yes rfl rfl rfl rfl rfl rfl (pv_bin rfl rfl rfl (fun _ => b_eqls Try.underlying9)) (wl_yes rfl rfl rfl rfl rfl rfl (pv_move rfl rfl) ?_)))))))
            refine wl_split (t := 585) rfl (fun hb4 => ?_) (fun hb4 => ?_)
            ·
              refine wl_yes rfl rfl rfl rfl rfl rfl (pv_move rfl rfl) (wl_yes rfl rfl rfl rfl rfl rfl (pv_bool (pv_bin rfl rfl rfl (fun _ => b_neqs Try.underlying9)) (o71 hb1 hb2 hb3 hb4)) (wl_yes rfl rfl rfl rfl rfl rfl (pv_pick rfl rfl rfl) (wl_op rfl rfl rfl (pv_pick rfl rfl rfl) ?_)))
              exact wl_end hJ189 (sub_cons rfl (sub_cons rfl (sub_cons rfl (sub_cons rfl (sub_cons rfl (sub_cons rfl (sub_cons rfl (sub_cons rfl (sub_nil)))))))))
            ·
              refine wl_no rfl rfl rfl rfl rfl rfl (wl_no rfl rfl rfl rfl rfl rfl (wl_yes rfl rfl rfl rfl rfl rfl (pv_pick rfl rfl rfl) (wl_op rfl rfl rfl (pv_pick rfl rfl rfl) ?_)))
              exact wl_end hJ189 (sub_cons rfl (sub_cons rfl (sub_cons rfl (sub_cons rfl (sub_cons rfl (sub_cons rfl (sub_cons rfl (sub_cons rfl (sub_nil)))))))))
          ·
            refine wl_no rfl rfl rfl rfl rfl rfl (wl_no rfl rfl rfl rfl rfl rfl (wl_yes rfl rfl rfl rfl rfl rfl (pv_pick rfl rfl rfl) (wl_op rfl rfl rfl (pv_pick rfl rfl rfl) (wl_op rfl rfl rfl (pv_move rfl rfl) (wl_yes rfl rfl rfl rfl rfl rfl (pv_move rfl rfl) (wl_yes rfl rfl rfl rfl rfl rfl (pv_bin rfl rfl rfl (fun _ => b_eqls Try.underlying9)) (wl_yes rfl rfl rfl rfl rfl rfl (pv_move rfl rfl) ?_)))))))
            refine wl_split (t := 585) rfl (fun hb4 => ?_) (fun hb4 => ?_)
            ·
              refine wl_yes rfl rfl rfl rfl rfl rfl (pv_move rfl rfl) (wl_yes rfl rfl rfl rfl rfl rfl (pv_bool (pv_bin rfl rfl rfl (fun _ => b_neqs Try.underlying9)) (o72 hb1 hb2 hb3 hb4)) (wl_yes rfl rfl rfl rfl rfl rfl (pv_pick rfl rfl rfl) (wl_op rfl rfl rfl (pv_pick rfl rfl rfl) ?_)))
              exact wl_end hJ189 (sub_cons rfl (sub_cons rfl (sub_cons rfl (sub_cons rfl (sub_cons rfl (sub_cons rfl (sub_cons rfl (sub_cons rfl (sub_nil)))))))))
            ·
              refine wl_no rfl rfl rfl rfl rfl rfl (wl_no rfl rfl rfl rfl rfl rfl (wl_yes rfl rfl rfl rfl rfl rfl (pv_pick rfl rfl rfl) (wl_op rfl rfl rfl (pv_pick rfl rfl rfl) ?_)))
              exact wl_end hJ189 (sub_cons rfl (sub_cons rfl (sub_cons rfl (sub_cons rfl (sub_cons rfl (sub_cons rfl (sub_cons rfl (sub_cons rfl (sub_nil)))))))))
        ·
          refine wl_no rfl rfl rfl rfl rfl rfl (wl_no rfl rfl rfl rfl rfl rfl (wl_op rfl rfl rfl (pv_pick rfl rfl rfl) (wl_op rfl rfl rfl (pv_move rfl rfl) (wl_yes rfl rfl rfl rfl rfl rfl (pv_move rfl rfl) (wl_yes rfl rfl rfl rfl rfl rfl (pv_bin rfl rfl rfl (fun _ => b_eqls Try.underlying9)) (wl_yes rfl rfl rfl rfl rfl rfl (pv_move rfl rfl) ?_))))))
          refine wl_split (t := 577) rfl (fun hb3 => ?_) (fun hb3 => ?_)
          ·
            refine wl_yes rfl rfl rfl rfl rfl rfl (pv_move rfl rfl) (wl_yes rfl rfl rfl rfl rfl rfl (pv_bool (pv_bin rfl rfl rfl (fun _ => b_neqs Try.underlying9)) (o73 hb1 hb2 hb3)) (wl_yes rfl rfl rfl rfl rfl rfl (pv_pick rfl rfl rfl) (wl_op rfl rfl rfl (pv_pick rfl rfl rfl) (wl_op rfl rfl rfl (pv_move rfl rfl) (wl_yes rfl rfl rfl rfl rfl rfl (pv_move rfl rfl) (wl_yes rfl rfl rfl rfl rfl rfl (pv_bin rfl rfl rfl (fun _ => b_eqls Try.underlying9)) (wl_yes rfl rfl rfl rfl rfl rfl (pv_move rfl rfl) ?_)))))))
            refine wl_split (t := 585) rfl (fun hb4 => ?_) (fun hb4 => ?_)
            ·
              refine wl_yes rfl rfl rfl rfl rfl rfl (pv_move rfl rfl) (wl_yes rfl rfl rfl rfl rfl rfl (pv_bool (pv_bin rfl rfl rfl (fun _ => b_neqs Try.underlying9)) (o74 hb1 hb2 hb3 hb4)) (wl_yes rfl rfl rfl rfl rfl rfl (pv_pick rfl rfl rfl) (wl_op rfl rfl rfl (pv_pick rfl rfl rfl) ?_)))
              exact wl_end hJ189 (sub_cons rfl (sub_cons rfl (sub_cons rfl (sub_cons rfl (sub_cons rfl (sub_cons rfl (sub_cons rfl (sub_cons rfl (sub_nil)))))))))
            ·
              refine wl_no rfl rfl rfl rfl rfl rfl (wl_no rfl rfl rfl rfl rfl rfl (wl_yes rfl rfl rfl rfl rfl rfl (pv_pick rfl rfl rfl) (wl_op rfl rfl rfl (pv_pick rfl rfl rfl) ?_)))
              exact wl_end hJ189 (sub_cons rfl (sub_cons rfl (sub_cons rfl (sub_cons rfl (sub_cons rfl (sub_cons rfl (sub_cons rfl (sub_cons rfl (sub_nil)))))))))
          ·
            refine wl_no rfl rfl rfl rfl rfl rfl (wl_no rfl rfl rfl rfl rfl rfl (wl_yes rfl rfl rfl rfl rfl rfl (pv_pick rfl rfl rfl) (wl_op rfl rfl rfl (pv_pick rfl rfl rfl) (wl_op rfl rfl rfl (pv_move rfl rfl) (wl_yes rfl rfl rfl rfl rfl rfl (pv_move rfl rfl) (wl_yes rfl rfl rfl rfl rfl rfl (pv_bin rfl rfl rfl (fun _ => b_eqls Try.underlying9)) (wl_yes rfl rfl rfl rfl rfl rfl (pv_move rfl rfl) ?_)))))))
            refine wl_split (t := 585) rfl (fun hb4 => ?_) (fun hb4 => ?_)
            ·
              refine wl_yes rfl rfl rfl rfl rfl rfl (pv_move rfl rfl) (wl_yes rfl rfl rfl rfl rfl rfl (pv_bool (pv_bin rfl rfl rfl (fun _ => b_neqs Try.underlying9)) (o75 hb1 hb2 hb3 hb4)) (wl_yes rfl rfl rfl rfl rfl rfl (pv_pick rfl rfl rfl) (wl_op rfl rfl rfl (pv_pick rfl rfl rfl) ?_)))
              exact wl_end hJ189 (sub_cons rfl (sub_cons rfl (sub_cons rfl (sub_cons rfl (sub_cons rfl (sub_cons rfl (sub_cons rfl (sub_cons rfl (sub_nil)))))))))
            ·
              refine wl_no rfl rfl rfl rfl rfl rfl (wl_no rfl rfl rfl rfl rfl rfl (wl_yes rfl rfl rfl rfl rfl rfl (pv_pick rfl rfl rfl) (wl_op rfl rfl rfl (pv_pick rfl rfl rfl) ?_)))
              exact wl_end hJ189 (sub_cons rfl (sub_cons rfl (sub_cons rfl (sub_cons rfl (sub_cons rfl (sub_cons rfl (sub_cons rfl (sub_cons rfl (sub_nil)))))))))
      ·
        exact cw_skip (GS.sub hJ139 (sub_cons rfl (sub_cons rfl (sub_cons rfl (sub_cons rfl (sub_cons rfl (sub_cons rfl (sub_cons rfl (sub_nil)))))))))
    refine cw_cond rfl (fun hb1 => ?_) (fun hb1 => ?_)
    ·
      refine cw_seq (fun G241 hG241 => ?_)
      refine cw_region ?_
      refine wl_op rfl rfl rfl (pv_load rfl rfl (fun w hw => ld23 a1_0 a1_1 gb1 w (h_gb1 w hw))) (wl_op rfl rfl rfl (pv_load rfl rfl (fun w hw => ld23 a0_0 a0_1 gb0 w (h_gb0 w hw))) (wl_op rfl rfl rfl (pv_call_b hS rfl rfl Try.func5 (by kernel_rfl) rfl (C29 hb1)) (wl_op rfl rfl rfl (pv_move rfl rfl) (wl_op rfl rfl rfl (pv_extract rfl rfl rfl) (wl_op rfl rfl rfl (pv_extract rfl rfl rfl) (wl_op rfl rfl rfl (pv_extract rfl rfl rfl) (wl_op rfl rfl rfl (pv_assign rfl rfl) (wl_op rfl rfl rfl (pv_assign rfl rfl) (wl_op rfl rfl rfl (pv_assign rfl rfl) ?_)))))))))
      refine wl_end (s' := ofL [(5, .int .i64 a5), (6, .int .i64 a6), (7, .pointer (some ⟨gb0, 0, none⟩)), (8, .pointer (some ⟨gb1, 0, none⟩)), (9, .pointer (some ⟨gb2, 0, none⟩)), (10, .pointer (some ⟨gb3, 0, none⟩)), (11, .pointer (some ⟨gb4, 0, none⟩)), (14, .bool false), (15, .int .i64 r1_1), (16, .int .i64 r1_2), (21, .int .i64 r3_1), (25, .int .i64 r5_1), (29, .bool r7_1), (33, .int .i64 r29_1), (34, .int .i64 r29_2), (35, .bool r29_3)]) (hG241 _ _ ?_) (sub_cons rfl (sub_cons rfl (sub_cons rfl (sub_cons rfl (sub_cons rfl (sub_cons rfl (sub_cons rfl (sub_cons rfl (sub_cons rfl (sub_cons rfl (sub_cons rfl (sub_cons rfl (sub_cons rfl (sub_cons rfl (sub_cons rfl (sub_cons rfl (sub_nil)))))))))))))))))
      refine cw_seq (fun G245 hG245 => ?_)
      refine cw_region ?_
      refine wl_op rfl rfl rfl (pv_load rfl rfl (fun w hw => ld23 a1_0 a1_1 gb1 w (h_gb1 w hw))) (wl_op rfl rfl rfl (pv_load rfl rfl (fun w hw => ld23 a0_0 a0_1 gb0 w (h_gb0 w hw))) (wl_op rfl rfl rfl (pv_call_b hS rfl rfl Try.func7 (by kernel_rfl) rfl (C30 hb1)) (wl_op rfl rfl rfl (pv_move rfl rfl) (wl_op rfl rfl rfl (pv_extract rfl rfl rfl) (wl_op rfl rfl rfl (pv_extract rfl rfl rfl) (wl_op rfl rfl rfl (pv_assign rfl rfl) (wl_op rfl rfl rfl (pv_assign rfl rfl) ?_)))))))
      refine wl_end (s' := ofL [(5, .int .i64 a5), (6, .int .i64 a6), (7, .pointer (some ⟨gb0, 0, none⟩)), (8, .pointer (some ⟨gb1, 0, none⟩)), (9, .pointer (some ⟨gb2, 0, none⟩)), (10, .pointer (some ⟨gb3, 0, none⟩)), (11, .pointer (some ⟨gb4, 0, none⟩)), (14, .bool false), (15, .int .i64 r1_1), (16, .int .i64 r1_2), (21, .int .i64 r3_1), (25, .int .i64 r5_1), (29, .bool r7_1), (33, .int .i64 r29_1), (34, .int .i64 r29_2), (35, .bool r29_3), (36, .int .i64 r30_1), (37, .bool r30_2)]) (hG245 _ _ ?_) (sub_cons rfl (sub_cons rfl (sub_cons rfl (sub_cons rfl (sub_cons rfl (sub_cons rfl (sub_cons rfl (sub_cons rfl (sub_cons rfl (sub_cons rfl (sub_cons rfl (sub_cons rfl (sub_cons rfl (sub_cons rfl (sub_cons rfl (sub_cons rfl (sub_cons rfl (sub_cons rfl (sub_nil)))))))))))))))))))
      refine cw_seq (fun G249 hG249 => ?_)
      refine cw_region ?_
      refine wl_op rfl rfl rfl (pv_load rfl rfl (fun w hw => ld23 a0_0 a0_1 gb0 w (h_gb0 w hw))) (wl_op rfl rfl rfl (pv_call_b hS rfl rfl Try.func15 (by kernel_rfl) rfl (C31 hb1)) (wl_op rfl rfl rfl (pv_move rfl rfl) (wl_op rfl rfl rfl (pv_extract rfl rfl rfl) (wl_op rfl rfl rfl (pv_extract rfl rfl rfl) ?_))))
      refine wl_new (by first | exact hS | (repeat (first | exact hS | exact stab_below _ | exact stab_blk _ _ | exact stab_row | exact stab_const _ | refine Stab.and ?_ ?_))) rfl rfl rfl rfl rfl rfl rfl (fun _ => rfl) _ al23 (fun w => st23 r31_1 r31_2 w) (fun gb5 => ?_)
      refine wl_op rfl rfl rfl (pv_assign rfl rfl) ?_
      refine wl_end (s' := ofL [(5, .int .i64 a5), (6, .int .i64 a6), (7, .pointer (some ⟨gb0, 0, none⟩)), (8, .pointer (some ⟨gb1, 0, none⟩)), (9, .pointer (some ⟨gb2, 0, none⟩)), (10, .pointer (some ⟨gb3, 0, none⟩)), (11, .pointer (some ⟨gb4, 0, none⟩)), (14, .bool false), (15, .int .i64 r1_1), (16, .int .i64 r1_2), (21, .int .i64 r3_1), (25, .int .i64 r5_1), (29, .bool r7_1), (33, .int .i64 r29_1), (34, .int .i64 r29_2), (35, .bool r29_3), (36, .int .i64 r30_1), (37, .bool r30_2), (38, .pointer (some ⟨gb5, 0, none⟩)), (39, .bool r31_3)]) (hG249 _ _ ?_) (sub_cons rfl (sub_cons rfl (sub_cons rfl (sub_cons rfl (sub_cons rfl (sub_cons rfl (sub_cons rfl (sub_cons rfl (sub_cons rfl (sub_cons rfl (sub_cons rfl (sub_cons rfl (sub_cons rfl (sub_cons rfl (sub_cons rfl (sub_cons rfl (sub_cons rfl (sub_cons rfl (sub_cons rfl (sub_cons rfl (sub_nil)))))))))))))))))))))
      refine cw_gen (D := fun w => (K1 w) ∧ (w.heap[gb5]? = some (.cells #[.int .i64 r31_1, .int .i64 r31_2] 23))) (by first | exact hS | (repeat (first | exact hS | exact stab_below _ | exact stab_blk _ _ | exact stab_row | exact stab_const _ | refine Stab.and ?_ ?_))) (fun w hw => ⟨hw.1, hw.2⟩) (fun K4 hS hD => ?_)
      have upK4 : ∀ w, K4 w → K1 w := fun w hw => (hD w hw).1
      replace hB : ∀ w, K4 w → Below w0.heap.size w0 w := fun w hw => hB w (upK4 w hw)
      replace h_gb0 := fun w hw => h_gb0 w (upK4 w hw)
      replace h_gb1 := fun w hw => h_gb1 w (upK4 w hw)
      replace h_gb2 := fun w hw => h_gb2 w (upK4 w hw)
      replace h_gb3 := fun w hw => h_gb3 w (upK4 w hw)
      replace h_gb4 := fun w hw => h_gb4 w (upK4 w hw)
      have h_gb5 := fun w hw => (hD w hw).2
      clear hD
      refine cw_seq (fun G265 hG265 => ?_)
      refine cw_region ?_
      refine wl_op rfl rfl rfl (pv_load rfl rfl (fun w hw => ld23 a1_0 a1_1 gb1 w (h_gb1 w hw))) (wl_op rfl rfl rfl (pv_call_b hS rfl rfl Try.func15 (by kernel_rfl) rfl (C32 hb1)) (wl_op rfl rfl rfl (pv_move rfl rfl) (wl_op rfl rfl rfl (pv_extract rfl rfl rfl) (wl_op rfl rfl rfl (pv_extract rfl rfl rfl) ?_))))
      refine wl_new (by first | exact hS | (repeat (first | exact hS | exact stab_below _ | exact stab_blk _ _ | exact stab_row | exact stab_const _ | refine Stab.and ?_ ?_))) rfl rfl rfl rfl rfl rfl rfl (fun _ => rfl) _ al23 (fun w => st23 r32_1 r32_2 w) (fun gb6 => ?_)
      refine wl_op rfl rfl rfl (pv_assign rfl rfl) ?_
      refine wl_end (s' := ofL [(5, .int .i64 a5), (6, .int .i64 a6), (7, .pointer (some ⟨gb0, 0, none⟩)), (8, .pointer (some ⟨gb1, 0, none⟩)), (9, .pointer (some ⟨gb2, 0, none⟩)), (10, .pointer (some ⟨gb3, 0, none⟩)), (11, .pointer (some ⟨gb4, 0, none⟩)), (14, .bool false), (15, .int .i64 r1_1), (16, .int .i64 r1_2), (21, .int .i64 r3_1), (25, .int .i64 r5_1), (29, .bool r7_1), (33, .int .i64 r29_1), (34, .int .i64 r29_2), (35, .bool r29_3), (36, .int .i64 r30_1), (37, .bool r30_2), (38, .pointer (some ⟨gb5, 0, none⟩)), (39, .bool r31_3), (40, .pointer (some ⟨gb6, 0, none⟩)), (41, .bool r32_3)]) (hG265 _ _ ?_) (sub_cons rfl (sub_cons rfl (sub_cons rfl (sub_cons rfl (sub_cons rfl (sub_cons rfl (sub_cons rfl (sub_cons rfl (sub_cons rfl (sub_cons rfl (sub_cons rfl (sub_cons rfl (sub_cons rfl (sub_cons rfl (sub_cons rfl (sub_cons rfl (sub_cons rfl (sub_cons rfl (sub_cons rfl (sub_cons rfl (sub_cons rfl (sub_cons rfl (sub_nil)))))))))))))))))))))))
      refine cw_gen (D := fun w => (K4 w) ∧ (w.heap[gb6]? = some (.cells #[.int .i64 r32_1, .int .i64 r32_2] 23))) (by first | exact hS | (repeat (first | exact hS | exact stab_below _ | exact stab_blk _ _ | exact stab_row | exact stab_const _ | refine Stab.and ?_ ?_))) (fun w hw => ⟨hw.1, hw.2⟩) (fun K5 hS hD => ?_)
      have upK5 : ∀ w, K5 w → K4 w := fun w hw => (hD w hw).1
      replace hB : ∀ w, K5 w → Below w0.heap.size w0 w := fun w hw => hB w (upK5 w hw)
      replace h_gb0 := fun w hw => h_gb0 w (upK5 w hw)
      replace h_gb1 := fun w hw => h_gb1 w (upK5 w hw)
      replace h_gb2 := fun w hw => h_gb2 w (upK5 w hw)
      replace h_gb3 := fun w hw => h_gb3 w (upK5 w hw)
      replace h_gb4 := fun w hw => h_gb4 w (upK5 w hw)
      replace h_gb5 := fun w hw => h_gb5 w (upK5 w hw)
      have h_gb6 := fun w hw => (hD w hw).2
      clear hD
      refine cw_seq (fun G282 hG282 => ?_)
      refine cw_region ?_
      refine wl_op rfl rfl rfl (pv_load rfl rfl (fun w hw => ld23 r31_1 r31_2 gb5 w (h_gb5 w hw))) (wl_op rfl rfl rfl (pv_load rfl rfl (fun w hw => ld23 r32_1 r32_2 gb6 w (h_gb6 w hw))) (wl_op rfl rfl rfl (pv_call_b hS rfl rfl Try.func5 (by kernel_rfl) rfl (C33 hb1)) (wl_op rfl rfl rfl (pv_move rfl rfl) (wl_op rfl rfl rfl (pv_extract rfl rfl rfl) (wl_op rfl rfl rfl (pv_extract rfl rfl rfl) (wl_op rfl rfl rfl (pv_extract rfl rfl rfl) (wl_op rfl rfl rfl (pv_assign rfl rfl) (wl_op rfl rfl rfl (pv_assign rfl rfl) (wl_op rfl rfl rfl (pv_assign rfl rfl) ?_)))))))))
      refine wl_end (s' := ofL [(5, .int .i64 a5), (6, .int .i64 a6), (7, .pointer (some ⟨gb0, 0, none⟩)), (8, .pointer (some ⟨gb1, 0, none⟩)), (9, .pointer (some ⟨gb2, 0, none⟩)), (10, .pointer (some ⟨gb3, 0, none⟩)), (11, .pointer (some ⟨gb4, 0, none⟩)), (14, .bool false), (15, .int .i64 r1_1), (16, .int .i64 r1_2), (21, .int .i64 r3_1), (25, .int .i64 r5_1), (29, .bool r7_1), (33, .int .i64 r29_1), (34, .int .i64 r29_2), (35, .bool r29_3), (36, .int .i64 r30_1), (37, .bool r30_2), (39, .bool r31_3), (41, .bool r32_3), (42, .int .i64 r33_1), (43, .int .i64 r33_2), (44, .bool r33_3)]) (hG282 _ _ ?_) (sub_cons rfl (sub_cons rfl (sub_cons rfl (sub_cons rfl (sub_cons rfl (sub_cons rfl (sub_cons rfl (sub_cons rfl (sub_cons rfl (sub_cons rfl (sub_cons rfl (sub_cons rfl (sub_cons rfl (sub_cons rfl (sub_cons rfl (sub_cons rfl (sub_cons rfl (sub_cons rfl (sub_cons rfl (sub_cons rfl (sub_cons rfl (sub_cons rfl (sub_cons rfl (sub_nil))))))))))))))))))))))))
      refine cw_seq (fun G286 hG286 => ?_)
      refine cw_seq (fun G287 hG287 => ?_)
      refine cw_region ?_
      refine wl_op rfl rfl rfl (pv_move rfl rfl) (wl_op rfl rfl rfl (pv_move rfl rfl) (wl_op rfl rfl rfl (pv_bool (pv_call_b hS rfl rfl Try.func16 (by kernel_rfl) rfl (C34 hb1)) (o20 hb1)) (wl_op rfl rfl rfl (pv_not rfl rfl) (wl_op rfl rfl rfl (pv_move rfl rfl) (wl_yes rfl rfl rfl rfl rfl rfl (pv_move rfl rfl) (wl_yes rfl rfl rfl rfl rfl rfl (pv_move rfl rfl) (wl_yes rfl rfl rfl rfl rfl rfl (pv_bin rfl rfl rfl (fun _ => b_eql Try.underlying3)) (wl_yes rfl rfl rfl rfl rfl rfl (pv_bool (pv_bin rfl rfl rfl (fun _ => b_neqb Try.underlying4)) (o21 hb1)) (wl_op rfl rfl rfl (pv_pick rfl rfl rfl) (wl_op rfl rfl rfl (pv_move rfl rfl) (wl_yes rfl rfl rfl rfl rfl rfl (pv_move rfl rfl) ?_)))))))))))
      refine wl_yes rfl rfl rfl rfl rfl rfl (pv_move rfl rfl) (wl_yes rfl rfl rfl rfl rfl rfl (pv_fieldAddr rfl rfl (fun w => fa23_1 gb0 w)) (wl_yes rfl rfl rfl rfl rfl rfl (pv_load rfl rfl (fun w hw => ldF (h_gb0 w hw) rfl)) (wl_yes rfl rfl rfl rfl rfl rfl (pv_bin rfl rfl rfl (fun _ => b_mul Try.underlying3)) (wl_yes rfl rfl rfl rfl rfl rfl (pv_fieldAddr rfl rfl (fun w => fa23_1 gb1 w)) (wl_yes rfl rfl rfl rfl rfl rfl (pv_load rfl rfl (fun w hw => ldF (h_gb1 w hw) rfl)) (wl_yes rfl rfl rfl rfl rfl rfl (pv_bin rfl rfl rfl (fun _ => b_mul Try.underlying3)) (wl_yes rfl rfl rfl rfl rfl rfl (pv_bin rfl rfl rfl (fun _ => b_add Try.underlying3)) (wl_yes rfl rfl rfl rfl rfl rfl (pv_bool (pv_bin rfl rfl rfl (fun _ => b_neq Try.underlying3)) (o22 hb1)) (wl_op rfl rfl rfl (pv_pick rfl rfl rfl) (wl_op rfl rfl rfl (pv_move rfl rfl) (wl_yes rfl rfl rfl rfl rfl rfl (pv_move rfl rfl) ?_)))))))))))
      refine wl_yes rfl rfl rfl rfl rfl rfl (pv_fieldAddr rfl rfl (fun w => fa23_0 gb0 w)) (wl_yes rfl rfl rfl rfl rfl rfl (pv_load rfl rfl (fun w hw => ldF (h_gb0 w hw) rfl)) (wl_yes rfl rfl rfl rfl rfl rfl (pv_move rfl rfl) (wl_yes rfl rfl rfl rfl rfl rfl (pv_bin rfl rfl rfl (fun _ => b_mul Try.underlying3)) (wl_yes rfl rfl rfl rfl rfl rfl (pv_bin rfl rfl rfl (fun _ => b_sub Try.underlying3)) (wl_yes rfl rfl rfl rfl rfl rfl (pv_fieldAddr rfl rfl (fun w => fa23_1 gb1 w)) (wl_yes rfl rfl rfl rfl rfl rfl (pv_load rfl rfl (fun w hw => ldF (h_gb1 w hw) rfl)) (wl_yes rfl rfl rfl rfl rfl rfl (pv_bin rfl rfl rfl (fun _ => b_mul Try.underlying3)) (wl_yes rfl rfl rfl rfl rfl rfl (pv_fieldAddr rfl rfl (fun w => fa23_0 gb1 w)) (wl_yes rfl rfl rfl rfl rfl rfl (pv_load rfl rfl (fun w hw => ldF (h_gb1 w hw) rfl)) (wl_yes rfl rfl rfl rfl rfl rfl (pv_move rfl rfl) (wl_yes rfl rfl rfl rfl rfl rfl (pv_bin rfl rfl rfl (fun _ => b_mul Try.underlying3)) ?_)))))))))))
      refine wl_yes rfl rfl rfl rfl rfl rfl (pv_move rfl rfl) (wl_yes rfl rfl rfl rfl rfl rfl (pv_bin rfl rfl rfl (fun _ => b_sub Try.underlying3)) (wl_yes rfl rfl rfl rfl rfl rfl (pv_fieldAddr rfl rfl (fun w => fa23_1 gb0 w)) (wl_yes rfl rfl rfl rfl rfl rfl (pv_load rfl rfl (fun w hw => ldF (h_gb0 w hw) rfl)) (wl_yes rfl rfl rfl rfl rfl rfl (pv_bin rfl rfl rfl (fun _ => b_mul Try.underlying3)) (wl_yes rfl rfl rfl rfl rfl rfl (pv_bool (pv_bin rfl rfl rfl (fun _ => b_neq Try.underlying3)) (o23 hb1)) (wl_op rfl rfl rfl (pv_pick rfl rfl rfl) (wl_op rfl rfl rfl (pv_move rfl rfl) (wl_yes rfl rfl rfl rfl rfl rfl (pv_bool (pv_move rfl rfl) (o24 hb1)) (wl_yes rfl rfl rfl rfl rfl rfl (pv_not rfl rfl) (wl_op rfl rfl rfl (pv_pick rfl rfl rfl) (wl_op rfl rfl rfl (pv_move rfl rfl) ?_)))))))))))
      refine wl_yes rfl rfl rfl rfl rfl rfl (pv_move rfl rfl) (wl_yes rfl rfl rfl rfl rfl rfl (pv_move rfl rfl) (wl_yes rfl rfl rfl rfl rfl rfl (pv_bool (pv_bin rfl rfl rfl (fun _ => b_neq Try.underlying3)) (o25 hb1)) (wl_op rfl rfl rfl (pv_pick rfl rfl rfl) (wl_op rfl rfl rfl (pv_move rfl rfl) (wl_yes rfl rfl rfl rfl rfl rfl (pv_move rfl rfl) (wl_yes rfl rfl rfl rfl rfl rfl (pv_move rfl rfl) (wl_yes rfl rfl rfl rfl rfl rfl (pv_bool (pv_bin rfl rfl rfl (fun _ => b_neq Try.underlying3)) (o26 hb1)) (wl_op rfl rfl rfl (pv_pick rfl rfl rfl) (wl_op rfl rfl rfl (pv_move rfl rfl) (wl_yes rfl rfl rfl rfl rfl rfl (pv_bool (pv_move rfl rfl) (o27 hb1)) (wl_yes rfl rfl rfl rfl rfl rfl (pv_not rfl rfl) ?_)))))))))))
      refine wl_op rfl rfl rfl (pv_pick rfl rfl rfl) (wl_op rfl rfl rfl (pv_move rfl rfl) (wl_yes rfl rfl rfl rfl rfl rfl (pv_move rfl rfl) (wl_yes rfl rfl rfl rfl rfl rfl (pv_move rfl rfl) (wl_yes rfl rfl rfl rfl rfl rfl (pv_bool (pv_bin rfl rfl rfl (fun _ => b_neq Try.underlying3)) (o28 hb1)) (wl_op rfl rfl rfl (pv_pick rfl rfl rfl) (wl_op rfl rfl rfl (pv_move rfl rfl) (wl_yes rfl rfl rfl rfl rfl rfl (pv_bool (pv_move rfl rfl) (o29 hb1)) (wl_yes rfl rfl rfl rfl rfl rfl (pv_not rfl rfl) (wl_op rfl rfl rfl (pv_pick rfl rfl rfl) (wl_op rfl rfl rfl (pv_move rfl rfl) (wl_yes rfl rfl rfl rfl rfl rfl (pv_bool (pv_move rfl rfl) (o30 hb1)) ?_)))))))))))
      refine wl_yes rfl rfl rfl rfl rfl rfl (pv_not rfl rfl) (wl_op rfl rfl rfl (pv_pick rfl rfl rfl) (wl_op rfl rfl rfl (pv_move rfl rfl) (wl_yes rfl rfl rfl rfl rfl rfl (pv_bool (pv_move rfl rfl) (o31 hb1)) (wl_yes rfl rfl rfl rfl rfl rfl (pv_not rfl rfl) (wl_op rfl rfl rfl (pv_pick rfl rfl rfl) (wl_op rfl rfl rfl (pv_move rfl rfl) (wl_yes rfl rfl rfl rfl rfl rfl (pv_move rfl rfl) (wl_yes rfl rfl rfl rfl rfl rfl (pv_move rfl rfl) (wl_yes rfl rfl rfl rfl rfl rfl (pv_neg rfl rfl) (wl_yes rfl rfl rfl rfl rfl rfl (pv_bool (pv_bin rfl rfl rfl (fun _ => b_neq Try.underlying3)) (o32 hb1)) (wl_op rfl rfl rfl (pv_pick rfl rfl rfl) ?_)))))))))))
      refine wl_op rfl rfl rfl (pv_move rfl rfl) (wl_yes rfl rfl rfl rfl rfl rfl (pv_move rfl rfl) (wl_yes rfl rfl rfl rfl rfl rfl (pv_move rfl rfl) (wl_yes rfl rfl rfl rfl rfl rfl (pv_bool (pv_bin rfl rfl rfl (fun _ => b_neq Try.underlying3)) (o33 hb1)) (wl_op rfl rfl rfl (pv_pick rfl rfl rfl) ?_))))
      refine wl_end (s' := ofL [(5, .int .i64 a5), (6, .int .i64 a6), (7, .pointer (some ⟨gb0, 0, none⟩)), (8, .pointer (some ⟨gb1, 0, none⟩)), (9, .pointer (some ⟨gb2, 0, none⟩)), (10, .pointer (some ⟨gb3, 0, none⟩)), (11, .pointer (some ⟨gb4, 0, none⟩)), (14, .bool false), (15, .int .i64 r1_1), (16, .int .i64 r1_2), (316, .bool false)]) (hG287 _ _ ?_) (sub_cons rfl (sub_cons rfl (sub_cons rfl (sub_cons rfl (sub_cons rfl (sub_cons rfl (sub_cons rfl (sub_cons rfl (sub_cons rfl (sub_cons rfl (sub_cons rfl (sub_nil))))))))))))
      refine cw_false rfl rfl ?_
      refine cw_skip (GS.sub (s' := ofL [(5, .int .i64 a5), (6, .int .i64 a6), (7, .pointer (some ⟨gb0, 0, none⟩)), (8, .pointer (some ⟨gb1, 0, none⟩)), (9, .pointer (some ⟨gb2, 0, none⟩)), (10, .pointer (some ⟨gb3, 0, none⟩)), (11, .pointer (some ⟨gb4, 0, none⟩)), (14, .bool false), (15, .int .i64 r1_1), (16, .int .i64 r1_2)]) (hG286 _ _ ?_) (sub_cons rfl (sub_cons rfl (sub_cons rfl (sub_cons rfl (sub_cons rfl (sub_cons rfl (sub_cons rfl (sub_cons rfl (sub_cons rfl (sub_cons rfl (sub_nil))))))))))))
      refine cw_seq (fun G300 hG300 => ?_)
      refine cw_region ?_
      have hJ302 : GS K5 620 G300 (ofL [(5, .int .i64 a5), (6, .int .i64 a6), (7, .pointer (some ⟨gb0, 0, none⟩)), (8, .pointer (some ⟨gb1, 0, none⟩)), (9, .pointer (some ⟨gb2, 0, none⟩)), (10, .pointer (some ⟨gb3, 0, none⟩)), (11, .pointer (some ⟨gb4, 0, none⟩)), (14, .bool false), (15, .int .i64 r1_1), (325, .bool (bif (r1_2 == 1) then (a0_0 != a1_0) else false))]) := by as_aux_lemma =>
        refine hG300 _ _ ?_
        refine cw_cond rfl (fun hb2 => ?_) (fun hb2 => ?_)
        ·
          refine cw_seq (fun G306 hG306 => ?_)
          refine cw_region ?_
          refine wl_op rfl rfl rfl (pv_load rfl rfl (fun w hw => ld23 a0_0 a0_1 gb0 w (h_gb0 w hw))) (wl_op rfl rfl rfl (pv_fieldAddr rfl rfl (fun w => fa23_0 gb1 w)) (wl_op rfl rfl rfl (pv_load rfl rfl (fun w hw => ldF (h_gb1 w hw) rfl)) (wl_op rfl rfl rfl (pv_move rfl rfl) (wl_op rfl rfl rfl (pv_call_b hS rfl rfl Try.func17 (by kernel_rfl) rfl (C35 hb1 hb2)) (wl_op rfl rfl rfl (pv_move rfl rfl) (wl_op rfl rfl rfl (pv_extract rfl rfl rfl) (wl_op rfl rfl rfl (pv_extract rfl rfl rfl) (wl_op rfl rfl rfl (pv_extract rfl rfl rfl) (wl_op rfl rfl rfl (pv_assign rfl rfl) (wl_op rfl rfl rfl (pv_assign rfl rfl) (wl_op rfl rfl rfl (pv_assign rfl rfl) ?_)))))))))))
          refine wl_end (s' := ofL [(5, .int .i64 a5), (6, .int .i64 a6), (8, .pointer (some ⟨gb1, 0, none⟩)), (9, .pointer (some ⟨gb2, 0, none⟩)), (10, .pointer (some ⟨gb3, 0, none⟩)), (11, .pointer (some ⟨gb4, 0, none⟩)), (14, .bool false), (45, .int .i64 r35_1), (46, .int .i64 r35_2), (47, .bool r35_3)]) (hG306 _ _ ?_) (sub_cons rfl (sub_cons rfl (sub_cons rfl (sub_cons rfl (sub_cons rfl (sub_cons rfl (sub_cons rfl (sub_cons rfl (sub_cons rfl (sub_cons rfl (sub_nil)))))))))))
          refine cw_seq (fun G310 hG310 => ?_)
          refine cw_region ?_
          refine wl_op rfl rfl rfl (pv_bool (pv_move rfl rfl) (o34 hb1 hb2)) (wl_op rfl rfl rfl (pv_not rfl rfl) (wl_op rfl rfl rfl (pv_move rfl rfl) (wl_yes rfl rfl rfl rfl rfl rfl (pv_move rfl rfl) (wl_yes rfl rfl rfl rfl rfl rfl (pv_fieldAddr rfl rfl (fun w => fa23_1 gb1 w)) (wl_yes rfl rfl rfl rfl rfl rfl (pv_load rfl rfl (fun w hw => ldF (h_gb1 w hw) rfl)) (wl_yes rfl rfl rfl rfl rfl rfl (pv_bool (pv_bin rfl rfl rfl (fun _ => b_neq Try.underlying3)) (o35 hb1 hb2)) (wl_op rfl rfl rfl (pv_pick rfl rfl rfl) (wl_op rfl rfl rfl (pv_move rfl rfl) (wl_yes rfl rfl rfl rfl rfl rfl (pv_move rfl rfl) (wl_yes rfl rfl rfl rfl rfl rfl (pv_bool (pv_bin rfl rfl rfl (fun _ => b_neq Try.underlying3)) (o36 hb1 hb2)) (wl_op rfl rfl rfl (pv_pick rfl rfl rfl) ?_)))))))))))
          refine wl_end (s' := ofL [(5, .int .i64 a5), (6, .int .i64 a6), (9, .pointer (some ⟨gb2, 0, none⟩)), (10, .pointer (some ⟨gb3, 0, none⟩)), (11, .pointer (some ⟨gb4, 0, none⟩)), (14, .bool false), (346, .bool false)]) (hG310 _ _ ?_) (sub_cons rfl (sub_cons rfl (sub_cons rfl (sub_cons rfl (sub_cons rfl (sub_cons rfl (sub_cons rfl (sub_nil))))))))
          refine cw_false rfl rfl ?_
          exact cw_skip (GS.sub (hJ61.mono (fun w hw => (upK4 w (upK5 w hw)))) (sub_cons rfl (sub_cons rfl (sub_cons rfl (sub_cons rfl (sub_cons rfl (sub_cons rfl (sub_nil))))))))
        ·
          exact cw_skip (GS.sub (hJ61.mono (fun w hw => (upK4 w (upK5 w hw)))) (sub_cons rfl (sub_cons rfl (sub_cons rfl (sub_cons rfl (sub_cons rfl (sub_cons rfl (sub_nil))))))))
      refine wl_op rfl rfl rfl (pv_move rfl rfl) (wl_op rfl rfl rfl (pv_bin rfl rfl rfl (fun _ => b_eql Try.underlying3)) (wl_op rfl rfl rfl (pv_move rfl rfl) ?_))
      refine wl_split (t := 319) rfl (fun hb2 => ?_) (fun hb2 => ?_)
      ·
        refine wl_yes rfl rfl rfl rfl rfl rfl (pv_fieldAddr rfl rfl (fun w => fa23_0 gb0 w)) (wl_yes rfl rfl rfl rfl rfl rfl (pv_load rfl rfl (fun w hw => ldF (h_gb0 w hw) rfl)) (wl_yes rfl rfl rfl rfl rfl rfl (pv_fieldAddr rfl rfl (fun w => fa23_0 gb1 w)) (wl_yes rfl rfl rfl rfl rfl rfl (pv_load rfl rfl (fun w hw => ldF (h_gb1 w hw) rfl)) (wl_yes rfl rfl rfl rfl rfl rfl (pv_bin rfl rfl rfl (fun _ => b_neq Try.underlying3)) (wl_op rfl rfl rfl (pv_pick rfl rfl rfl) ?_)))))
        exact wl_end hJ302 (sub_cons rfl (sub_cons rfl (sub_cons rfl (sub_cons rfl (sub_cons rfl (sub_cons rfl (sub_cons rfl (sub_cons rfl (sub_cons rfl (sub_cons (congrArg (fun b => some (Value.bool b)) (show (a0_0 != a1_0) = (bif (r1_2 == 1) then (a0_0 != a1_0) else false) by simp only [hb2, cond_true, cond_false])) (sub_nil)))))))))))
      ·
        refine wl_no rfl rfl rfl rfl rfl rfl (wl_no rfl rfl rfl rfl rfl rfl (wl_no rfl rfl rfl rfl rfl rfl (wl_no rfl rfl rfl rfl rfl rfl (wl_no rfl rfl rfl rfl rfl rfl (wl_op rfl rfl rfl (pv_pick rfl rfl rfl) ?_)))))
        exact wl_end hJ302 (sub_cons rfl (sub_cons rfl (sub_cons rfl (sub_cons rfl (sub_cons rfl (sub_cons rfl (sub_cons rfl (sub_cons rfl (sub_cons rfl (sub_cons (congrArg (fun b => some (Value.bool b)) (show false = (bif (r1_2 == 1) then (a0_0 != a1_0) else false) by simp only [hb2, cond_true, cond_false])) (sub_nil)))))))))))
    ·
      exact cw_skip (GS.sub hJ61 (sub_cons rfl (sub_cons rfl (sub_cons rfl (sub_cons rfl (sub_cons rfl (sub_cons rfl (sub_nil))))))))
  refine cw_draw hS (by kernel_rfl) (by as_aux_lemma => kernel_rfl) (fun F hF => ?_)
  refine wq_op rfl rfl rfl (pv_move rfl rfl) (wq_op rfl rfl rfl (pv_move rfl rfl) (wq_op rfl rfl rfl (pv_bool (pv_bin rfl rfl rfl (fun _ => b_neqb Try.underlying4)) (o1)) (wq_op rfl rfl rfl (pv_move rfl rfl) (wq_yes rfl rfl rfl rfl rfl rfl (pv_move rfl rfl) (wq_yes rfl rfl rfl rfl rfl rfl (pv_move rfl rfl) (wq_yes rfl rfl rfl rfl rfl rfl (pv_bool (pv_bin rfl rfl rfl (fun _ => b_neq Try.underlying3)) (o2)) (wq_op rfl rfl rfl (pv_pick rfl rfl rfl) (wq_op rfl rfl rfl (pv_move rfl rfl) (wq_yes rfl rfl rfl rfl rfl rfl (pv_move rfl rfl) (wq_yes rfl rfl rfl rfl rfl rfl (pv_move rfl rfl) (wq_yes rfl rfl rfl rfl rfl rfl (pv_bool (pv_bin rfl rfl rfl (fun _ => b_neq Try.underlying3)) (o3)) ?_)))))))))))
  refine wq_op rfl rfl rfl (pv_pick rfl rfl rfl) (wq_op rfl rfl rfl (pv_move rfl rfl) (wq_yes rfl rfl rfl rfl rfl rfl (pv_move rfl rfl) (wq_yes rfl rfl rfl rfl rfl rfl (pv_move rfl rfl) (wq_yes rfl rfl rfl rfl rfl rfl (pv_bool (pv_bin rfl rfl rfl (fun _ => b_neqb Try.underlying4)) (o4)) (wq_op rfl rfl rfl (pv_pick rfl rfl rfl) (wq_op rfl rfl rfl (pv_move rfl rfl) (wq_yes rfl rfl rfl rfl rfl rfl (pv_move rfl rfl) (wq_yes rfl rfl rfl rfl rfl rfl (pv_move rfl rfl) (wq_yes rfl rfl rfl rfl rfl rfl (pv_bool (pv_bin rfl rfl rfl (fun _ => b_neq Try.underlying3)) (o5)) (wq_op rfl rfl rfl (pv_pick rfl rfl rfl) (wq_op rfl rfl rfl (pv_move rfl rfl) ?_)))))))))))
  refine wq_yes rfl rfl rfl rfl rfl rfl (pv_move rfl rfl) (wq_yes rfl rfl rfl rfl rfl rfl (pv_move rfl rfl) (wq_yes rfl rfl rfl rfl rfl rfl (pv_bool (pv_bin rfl rfl rfl (fun _ => b_neqb Try.underlying4)) (o6)) (wq_op rfl rfl rfl (pv_pick rfl rfl rfl) (wq_op rfl rfl rfl (pv_move rfl rfl) (wq_yes rfl rfl rfl rfl rfl rfl (pv_move rfl rfl) (wq_yes rfl rfl rfl rfl rfl rfl (pv_move rfl rfl) (wq_yes rfl rfl rfl rfl rfl rfl (pv_bool (pv_bin rfl rfl rfl (fun _ => b_neq Try.underlying3)) (o7)) (wq_op rfl rfl rfl (pv_pick rfl rfl rfl) (wq_op rfl rfl rfl (pv_move rfl rfl) (wq_yes rfl rfl rfl rfl rfl rfl (pv_move rfl rfl) (wq_yes rfl rfl rfl rfl rfl rfl (pv_move rfl rfl) ?_)))))))))))
  refine wq_yes rfl rfl rfl rfl rfl rfl (pv_bool (pv_bin rfl rfl rfl (fun _ => b_neqb Try.underlying4)) (o8)) (wq_op rfl rfl rfl (pv_pick rfl rfl rfl) (wq_op rfl rfl rfl (pv_move rfl rfl) (wq_yes rfl rfl rfl rfl rfl rfl (pv_move rfl rfl) (wq_yes rfl rfl rfl rfl rfl rfl (pv_move rfl rfl) (wq_yes rfl rfl rfl rfl rfl rfl (pv_bool (pv_bin rfl rfl rfl (fun _ => b_neqb Try.underlying4)) (o9)) (wq_op rfl rfl rfl (pv_pick rfl rfl rfl) (wq_op rfl rfl rfl (pv_move rfl rfl) (wq_yes rfl rfl rfl rfl rfl rfl (pv_move rfl rfl) (wq_yes rfl rfl rfl rfl rfl rfl (pv_load rfl rfl (fun w hw => ld23 a0_0 a0_1 gb0 w (h_gb0 w hw))) (wq_yes rfl rfl rfl rfl rfl rfl (pv_call_b hS rfl rfl Try.func13 (by kernel_rfl) rfl C9) (wq_yes rfl rfl rfl rfl rfl rfl (pv_move rfl rfl) ?_)))))))))))
  refine wq_split (t := 169) rfl (fun hb1 => ?_) (fun hb1 => ?_)
  ·
    refine wq_yes rfl rfl rfl rfl rfl rfl (pv_load rfl rfl (fun w hw => ld23 a1_0 a1_1 gb1 w (h_gb1 w hw))) (wq_yes rfl rfl rfl rfl rfl rfl (pv_call_b hS rfl rfl Try.func13 (by kernel_rfl) rfl (C10 hb1)) (wq_yes rfl rfl rfl rfl rfl rfl (pv_pick rfl rfl rfl) (wq_yes rfl rfl rfl rfl rfl rfl (pv_bool (pv_bin rfl rfl rfl (fun _ => b_neqb Try.underlying4)) (o10 hb1)) (wq_op rfl rfl rfl (pv_pick rfl rfl rfl) (wq_op rfl rfl rfl (pv_move rfl rfl) (wq_yes rfl rfl rfl rfl rfl rfl (pv_load rfl rfl (fun w hw => ld23 a0_0 a0_1 gb0 w (h_gb0 w hw))) (wq_yes rfl rfl rfl rfl rfl rfl (pv_call_b hS rfl rfl Try.func13 (by kernel_rfl) rfl C9) (wq_yes rfl rfl rfl rfl rfl rfl (pv_load rfl rfl (fun w hw => ld23 a0_0 a0_1 gb0 w (h_gb0 w hw))) (wq_yes rfl rfl rfl rfl rfl rfl (pv_call_b hS rfl rfl Try.func14 (by kernel_rfl) rfl C11) (wq_yes rfl rfl rfl rfl rfl rfl (pv_bool (pv_bin rfl rfl rfl (fun _ => b_neqb Try.underlying4)) (o11 hb1)) (wq_op rfl rfl rfl (pv_pick rfl rfl rfl) ?_)))))))))))
    refine wq_op rfl rfl rfl (pv_move rfl rfl) (wq_yes rfl rfl rfl rfl rfl rfl (pv_move rfl rfl) (wq_yes rfl rfl rfl rfl rfl rfl (pv_move rfl rfl) (wq_yes rfl rfl rfl rfl rfl rfl (pv_bool (pv_bin rfl rfl rfl (fun _ => b_neqb Try.underlying4)) (o12 hb1)) (wq_op rfl rfl rfl (pv_pick rfl rfl rfl) (wq_op rfl rfl rfl (pv_move rfl rfl) (wq_yes rfl rfl rfl rfl rfl rfl (pv_move rfl rfl) (wq_yes rfl rfl rfl rfl rfl rfl (pv_move rfl rfl) (wq_yes rfl rfl rfl rfl rfl rfl (pv_bool (pv_bin rfl rfl rfl (fun _ => b_neqb Try.underlying4)) (o13 hb1)) (wq_op rfl rfl rfl (pv_pick rfl rfl rfl) (wq_op rfl rfl rfl (pv_move rfl rfl) (wq_yes rfl rfl rfl rfl rfl rfl (pv_move rfl rfl) ?_)))))))))))
    refine wq_yes rfl rfl rfl rfl rfl rfl (pv_move rfl rfl) (wq_yes rfl rfl rfl rfl rfl rfl (pv_bool (pv_bin rfl rfl rfl (fun _ => b_neqb Try.underlying4)) (o14 hb1)) (wq_op rfl rfl rfl (pv_pick rfl rfl rfl) ?_))
    exact wq_end hF (sub_cons rfl (sub_cons rfl (sub_cons rfl (sub_cons rfl (sub_cons rfl (sub_cons rfl (sub_cons rfl (sub_cons rfl (sub_cons rfl (sub_cons rfl (sub_cons rfl (sub_cons rfl (sub_cons rfl (sub_cons rfl (sub_cons rfl (sub_nil)))))))))))))))) hJ52
  ·
    refine wq_no rfl rfl rfl rfl rfl rfl (wq_no rfl rfl rfl rfl rfl rfl (wq_yes rfl rfl rfl rfl rfl rfl (pv_pick rfl rfl rfl) (wq_yes rfl rfl rfl rfl rfl rfl (pv_bool (pv_bin rfl rfl rfl (fun _ => b_neqb Try.underlying4)) (o15 hb1)) (wq_op rfl rfl rfl (pv_pick rfl rfl rfl) (wq_op rfl rfl rfl (pv_move rfl rfl) (wq_yes rfl rfl rfl rfl rfl rfl (pv_load rfl rfl (fun w hw => ld23 a0_0 a0_1 gb0 w (h_gb0 w hw))) (wq_yes rfl rfl rfl rfl rfl rfl (pv_call_b hS rfl rfl Try.func13 (by kernel_rfl) rfl C9) (wq_yes rfl rfl rfl rfl rfl rfl (pv_load rfl rfl (fun w hw => ld23 a0_0 a0_1 gb0 w (h_gb0 w hw))) (wq_yes rfl rfl rfl rfl rfl rfl (pv_call_b hS rfl rfl Try.func14 (by kernel_rfl) rfl C11) (wq_yes rfl rfl rfl rfl rfl rfl (pv_bool (pv_bin rfl rfl rfl (fun _ => b_neqb Try.underlying4)) (o16 hb1)) (wq_op rfl rfl rfl (pv_pick rfl rfl rfl) ?_)))))))))))
    refine wq_op rfl rfl rfl (pv_move rfl rfl) (wq_yes rfl rfl rfl rfl rfl rfl (pv_move rfl rfl) (wq_yes rfl rfl rfl rfl rfl rfl (pv_move rfl rfl) (wq_yes rfl rfl rfl rfl rfl rfl (pv_bool (pv_bin rfl rfl rfl (fun _ => b_neqb Try.underlying4)) (o17 hb1)) (wq_op rfl rfl rfl (pv_pick rfl rfl rfl) (wq_op rfl rfl rfl (pv_move rfl rfl) (wq_yes rfl rfl rfl rfl rfl rfl (pv_move rfl rfl) (wq_yes rfl rfl rfl rfl rfl rfl (pv_move rfl rfl) (wq_yes rfl rfl rfl rfl rfl rfl (pv_bool (pv_bin rfl rfl rfl (fun _ => b_neqb Try.underlying4)) (o18 hb1)) (wq_op rfl rfl rfl (pv_pick rfl rfl rfl) (wq_op rfl rfl rfl (pv_move rfl rfl) (wq_yes rfl rfl rfl rfl rfl rfl (pv_move rfl rfl) ?_)))))))))))
    refine wq_yes rfl rfl rfl rfl rfl rfl (pv_move rfl rfl) (wq_yes rfl rfl rfl rfl rfl rfl (pv_bool (pv_bin rfl rfl rfl (fun _ => b_neqb Try.underlying4)) (o19 hb1)) (wq_op rfl rfl rfl (pv_pick rfl rfl rfl) ?_))
    exact wq_end hF (sub_cons rfl (sub_cons rfl (sub_cons rfl (sub_cons rfl (sub_cons rfl (sub_cons rfl (sub_cons rfl (sub_cons rfl (sub_cons rfl (sub_cons rfl (sub_cons rfl (sub_cons rfl (sub_cons rfl (sub_cons rfl (sub_cons rfl (sub_nil)))))))))))))))) hJ52
end Go.Proofs.Ythjkpjncamahhaa.LwFnWaysReflectOfAll
