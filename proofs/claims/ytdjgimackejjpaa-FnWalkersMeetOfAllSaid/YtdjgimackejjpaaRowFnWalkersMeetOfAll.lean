/- The row of FnWalkersMeetOfAll: for every input the call returns true, and each argument reads afterwards as it read before. No condition. -/
import Derived.Test.YtdjgimackejjpaaRows
import Derived.Test.YtdjgimackejjpaaStFnWalkersMeetOfAll
import Derived.Test.YtdjgimackejjpaaPureFnWalkersMeetOfAll
import Derived.WalkKit
import Derived.ProofKit
import Derived.OpenShut
import Derived.ShutString
import Derived.ChangeOld
import Derived.Below
import Derived.SizedLaws
import Derived.Lib.SmallJoins
namespace Go.Proofs.Ytdjgimackejjpaa.rowFnWalkersMeetOfAll
open Go.ChangeShapes Go.WideShapes Go.ChangeAt Go.RowKit
open Go.ChangeMaps (open_string shut_string)
set_option linter.unusedVariables false
theorem own : ownKnob Try.prog.godebug = none := by kernel_rfl
set_option maxRecDepth 100000 in
theorem lifted (os : Os) (started : os.Started) (H : Type) (enc : TypeId × Value → H) :
    ReturnsInHanded {} Try.checked os 3 .any (Rows.fnWalkersMeetOfAllSpec.pre6 enc Try.prog Try.f3 Rows.fnWalkersMeetOfAllRow.domain false) (Rows.fnWalkersMeetOfAllSpec.post enc Try.prog Try.f3 false true false false) := by
  refine returnsInHanded_of_change_sized (C := Try.checked) own started (by kernel_rfl) Try.func3
    (ChangeSpec.witness6 (enc := enc) (C := Try.checked) false ⟨#[], #[.int .i64 0, .agg #[.int .i64 0, .int .i64 0, .int .i64 0], .agg #[.int .i64 0, .int .i64 0, .int .i64 0], .int .i64 0, .agg #[.int .i64 0, .int .i64 0, .int .i64 0], .agg #[.int .i64 0, .int .i64 0, .int .i64 0], .int .i64 0, .int .i64 0, .int .i64 0, .int .i64 0, .int .i64 0, .int .i64 0], []⟩ 8 (by kernel_rfl) (by kernel_rfl) (by kernel_rfl) (by kernel_rfl)) ?_
  intro W base args ds gs before hval0 hW hcnd hsz0 _
  have hsz : (DataW.weightsEach Try.prog (Try.f3.params.toList ++ Rows.fnWalkersMeetOfAllSpec.plain.varTypes Try.prog) (ds ++ gs)).all (· ≤ reachBytes) = true := hsz0
  have hval : ∀ (j : Nat) t v, Try.f3.params[j]? = some t → args[j]? = some v → Value.okWide Try.prog W .any base t v := hval0
  have hW' := hW
  obtain ⟨p, q, hA0, hV, rfl, hfz, hnd⟩ := hW
  have hA : DataW.TrodAll enc Try.prog W 0 (fun _ => true) true Try.f3.params.toList args.toList ds p := hA0
  rw [Try.params3] at hA hval hsz
  obtain ⟨v0, vs0, d0, ds0, p0, q0, hargs, rfl, rfl, h0, r0⟩ := trodAll_cons hA
  obtain ⟨v1, vs1, d1, ds1, p1, q1, rfl, rfl, rfl, h1, r1⟩ := trodAll_cons r0
  obtain ⟨v2, vs2, d2, ds2, p2, q2, rfl, rfl, rfl, h2, r2⟩ := trodAll_cons r1
  obtain ⟨v3, vs3, d3, ds3, p3, q3, rfl, rfl, rfl, h3, r3⟩ := trodAll_cons r2
  obtain ⟨v4, vs4, d4, ds4, p4, q4, rfl, rfl, rfl, h4, r4⟩ := trodAll_cons r3
  obtain ⟨v5, vs5, d5, ds5, p5, q5, rfl, rfl, rfl, h5, r5⟩ := trodAll_cons r4
  obtain ⟨v6, vs6, d6, ds6, p6, q6, rfl, rfl, rfl, h6, r6⟩ := trodAll_cons r5
  obtain ⟨v7, vs7, d7, ds7, p7, q7, rfl, rfl, rfl, h7, r7⟩ := trodAll_cons r6
  obtain ⟨v8, vs8, d8, ds8, p8, q8, rfl, rfl, rfl, h8, r8⟩ := trodAll_cons r7
  obtain ⟨v9, vs9, d9, ds9, p9, q9, rfl, rfl, rfl, h9, r9⟩ := trodAll_cons r8
  obtain ⟨v10, vs10, d10, ds10, p10, q10, rfl, rfl, rfl, h10, r10⟩ := trodAll_cons r9
  obtain ⟨v11, vs11, d11, ds11, p11, q11, rfl, rfl, rfl, h11, r11⟩ := trodAll_cons r10
  obtain ⟨rfl, rfl, rfl⟩ := trodAll_nil r11
  obtain rfl : args = #[v0, v1, v2, v3, v4, v5, v6, v7, v8, v9, v10, v11] := by cases args; simp_all
  obtain ⟨rfl, rfl⟩ := trodVars_none hV
  obtain ⟨a0, rfl, rfl, rfl, w0⟩ := open_int Try.underlying3 (hval 0 3 v0 rfl rfl) h0
  obtain ⟨c1_0, c1_1, c1_2, y1_0, y1_1, y1_2, m1, rfl, rfl, rfl, z1_0, z1_1, z1_2⟩ := Joins.open_agg3 Try.underlying23 (by kernel_rfl) (by kernel_rfl) (hval 1 23 v1 rfl rfl) h1
  obtain ⟨a1_0, e1_0, rfl, w1_0⟩ := DataW.trod_int Try.underlying3 z1_0
  obtain rfl : c1_0 = .int .i64 a1_0 := by simpa using e1_0
  obtain ⟨a1_1, e1_1, rfl, w1_1⟩ := DataW.trod_int Try.underlying3 z1_1
  obtain rfl : c1_1 = .int .i64 a1_1 := by simpa using e1_1
  obtain ⟨a1_2, e1_2, rfl, w1_2⟩ := DataW.trod_int Try.underlying3 z1_2
  obtain rfl : c1_2 = .int .i64 a1_2 := by simpa using e1_2
  obtain ⟨c2_0, c2_1, c2_2, y2_0, y2_1, y2_2, m2, rfl, rfl, rfl, z2_0, z2_1, z2_2⟩ := Joins.open_agg3 Try.underlying23 (by kernel_rfl) (by kernel_rfl) (hval 2 23 v2 rfl rfl) h2
  obtain ⟨a2_0, e2_0, rfl, w2_0⟩ := DataW.trod_int Try.underlying3 z2_0
  obtain rfl : c2_0 = .int .i64 a2_0 := by simpa using e2_0
  obtain ⟨a2_1, e2_1, rfl, w2_1⟩ := DataW.trod_int Try.underlying3 z2_1
  obtain rfl : c2_1 = .int .i64 a2_1 := by simpa using e2_1
  obtain ⟨a2_2, e2_2, rfl, w2_2⟩ := DataW.trod_int Try.underlying3 z2_2
  obtain rfl : c2_2 = .int .i64 a2_2 := by simpa using e2_2
  obtain ⟨a3, rfl, rfl, rfl, w3⟩ := open_int Try.underlying3 (hval 3 3 v3 rfl rfl) h3
  obtain ⟨c4_0, c4_1, c4_2, y4_0, y4_1, y4_2, m4, rfl, rfl, rfl, z4_0, z4_1, z4_2⟩ := Joins.open_agg3 Try.underlying23 (by kernel_rfl) (by kernel_rfl) (hval 4 23 v4 rfl rfl) h4
  obtain ⟨a4_0, e4_0, rfl, w4_0⟩ := DataW.trod_int Try.underlying3 z4_0
  obtain rfl : c4_0 = .int .i64 a4_0 := by simpa using e4_0
  obtain ⟨a4_1, e4_1, rfl, w4_1⟩ := DataW.trod_int Try.underlying3 z4_1
  obtain rfl : c4_1 = .int .i64 a4_1 := by simpa using e4_1
  obtain ⟨a4_2, e4_2, rfl, w4_2⟩ := DataW.trod_int Try.underlying3 z4_2
  obtain rfl : c4_2 = .int .i64 a4_2 := by simpa using e4_2
  obtain ⟨c5_0, c5_1, c5_2, y5_0, y5_1, y5_2, m5, rfl, rfl, rfl, z5_0, z5_1, z5_2⟩ := Joins.open_agg3 Try.underlying23 (by kernel_rfl) (by kernel_rfl) (hval 5 23 v5 rfl rfl) h5
  obtain ⟨a5_0, e5_0, rfl, w5_0⟩ := DataW.trod_int Try.underlying3 z5_0
  obtain rfl : c5_0 = .int .i64 a5_0 := by simpa using e5_0
  obtain ⟨a5_1, e5_1, rfl, w5_1⟩ := DataW.trod_int Try.underlying3 z5_1
  obtain rfl : c5_1 = .int .i64 a5_1 := by simpa using e5_1
  obtain ⟨a5_2, e5_2, rfl, w5_2⟩ := DataW.trod_int Try.underlying3 z5_2
  obtain rfl : c5_2 = .int .i64 a5_2 := by simpa using e5_2
  obtain ⟨a6, rfl, rfl, rfl, w6⟩ := open_int Try.underlying3 (hval 6 3 v6 rfl rfl) h6
  obtain ⟨a7, rfl, rfl, rfl, w7⟩ := open_int Try.underlying3 (hval 7 3 v7 rfl rfl) h7
  obtain ⟨a8, rfl, rfl, rfl, w8⟩ := open_int Try.underlying3 (hval 8 3 v8 rfl rfl) h8
  obtain ⟨a9, rfl, rfl, rfl, w9⟩ := open_int Try.underlying3 (hval 9 3 v9 rfl rfl) h9
  obtain ⟨a10, rfl, rfl, rfl, w10⟩ := open_int Try.underlying3 (hval 10 3 v10 rfl rfl) h10
  obtain ⟨a11, rfl, rfl, rfl, w11⟩ := open_int Try.underlying3 (hval 11 3 v11 rfl rfl) h11
  clear hA0 hval0 hsz0 hsz
  have sr1 : ∀ (W2 : World) (b2 : Nat) (sp2 : Nat → Bool) (h2 : Bool), DataW.Trod enc Try.prog W2 b2 sp2 h2 23 (.agg #[.int .i64 a1_0, .int .i64 a1_1, .int .i64 a1_2]) (.agg [.lit (.int .i64 a1_0), .lit (.int .i64 a1_1), .lit (.int .i64 a1_2)]) [] := fun W2 b2 sp2 h2 =>
    Joins.shut_agg3 (y0 := (.lit (.int .i64 a1_0), [])) (y1 := (.lit (.int .i64 a1_1), [])) (y2 := (.lit (.int .i64 a1_2), [])) Try.underlying23 (by kernel_rfl) (by kernel_rfl) ⟨1, by simp [DataW.trod, Try.underlying3, w1_0]⟩ ⟨1, by simp [DataW.trod, Try.underlying3, w1_1]⟩ ⟨1, by simp [DataW.trod, Try.underlying3, w1_2]⟩
  have sr2 : ∀ (W2 : World) (b2 : Nat) (sp2 : Nat → Bool) (h2 : Bool), DataW.Trod enc Try.prog W2 b2 sp2 h2 23 (.agg #[.int .i64 a2_0, .int .i64 a2_1, .int .i64 a2_2]) (.agg [.lit (.int .i64 a2_0), .lit (.int .i64 a2_1), .lit (.int .i64 a2_2)]) [] := fun W2 b2 sp2 h2 =>
    Joins.shut_agg3 (y0 := (.lit (.int .i64 a2_0), [])) (y1 := (.lit (.int .i64 a2_1), [])) (y2 := (.lit (.int .i64 a2_2), [])) Try.underlying23 (by kernel_rfl) (by kernel_rfl) ⟨1, by simp [DataW.trod, Try.underlying3, w2_0]⟩ ⟨1, by simp [DataW.trod, Try.underlying3, w2_1]⟩ ⟨1, by simp [DataW.trod, Try.underlying3, w2_2]⟩
  have sr4 : ∀ (W2 : World) (b2 : Nat) (sp2 : Nat → Bool) (h2 : Bool), DataW.Trod enc Try.prog W2 b2 sp2 h2 23 (.agg #[.int .i64 a4_0, .int .i64 a4_1, .int .i64 a4_2]) (.agg [.lit (.int .i64 a4_0), .lit (.int .i64 a4_1), .lit (.int .i64 a4_2)]) [] := fun W2 b2 sp2 h2 =>
    Joins.shut_agg3 (y0 := (.lit (.int .i64 a4_0), [])) (y1 := (.lit (.int .i64 a4_1), [])) (y2 := (.lit (.int .i64 a4_2), [])) Try.underlying23 (by kernel_rfl) (by kernel_rfl) ⟨1, by simp [DataW.trod, Try.underlying3, w4_0]⟩ ⟨1, by simp [DataW.trod, Try.underlying3, w4_1]⟩ ⟨1, by simp [DataW.trod, Try.underlying3, w4_2]⟩
  have sr5 : ∀ (W2 : World) (b2 : Nat) (sp2 : Nat → Bool) (h2 : Bool), DataW.Trod enc Try.prog W2 b2 sp2 h2 23 (.agg #[.int .i64 a5_0, .int .i64 a5_1, .int .i64 a5_2]) (.agg [.lit (.int .i64 a5_0), .lit (.int .i64 a5_1), .lit (.int .i64 a5_2)]) [] := fun W2 b2 sp2 h2 =>
    Joins.shut_agg3 (y0 := (.lit (.int .i64 a5_0), [])) (y1 := (.lit (.int .i64 a5_1), [])) (y2 := (.lit (.int .i64 a5_2), [])) Try.underlying23 (by kernel_rfl) (by kernel_rfl) ⟨1, by simp [DataW.trod, Try.underlying3, w5_0]⟩ ⟨1, by simp [DataW.trod, Try.underlying3, w5_1]⟩ ⟨1, by simp [DataW.trod, Try.underlying3, w5_2]⟩
  refine (StFnWalkersMeetOfAll.walk Pure.FnWalkersMeetOfAll a0 a1_0 a1_1 a1_2 a2_0 a2_1 a2_2 a3 a4_0 a4_1 a4_2 a5_0 a5_1 a5_2 a6 a7 a8 a9 a10 a11 W w0 w1_0 w1_1 w1_2 w2_0 w2_1 w2_2 w3 w4_0 w4_1 w4_2 w5_0 w5_1 w5_2 w6 w7 w8 w9 w10 w11).mono fun e W' ⟨he, bel⟩ => ?_
  subst he
  exact ⟨_, rfl, _, _, _, [], _, [], hW', trodAll_mk1 (shut_bool Try.underlying4 _), (trodAll_cons_mk (shut_int Try.underlying3 w0) (trodAll_cons_mk (sr1 _ _ _ _) (trodAll_cons_mk (sr2 _ _ _ _) (trodAll_cons_mk (shut_int Try.underlying3 w3) (trodAll_cons_mk (sr4 _ _ _ _) (trodAll_cons_mk (sr5 _ _ _ _) (trodAll_cons_mk (shut_int Try.underlying3 w6) (trodAll_cons_mk (shut_int Try.underlying3 w7) (trodAll_cons_mk (shut_int Try.underlying3 w8) (trodAll_cons_mk (shut_int Try.underlying3 w9) (trodAll_cons_mk (shut_int Try.underlying3 w10) (trodAll_cons_mk (shut_int Try.underlying3 w11) trodAll_mk0)))))))))))), rfl, bel.frame _, fun h => by cases h⟩
theorem over : Rows.fnWalkersMeetOfAllRow.holds Try.pinned (OpenSpec.ofChange Rows.fnWalkersMeetOfAllSpec) :=
  OpenClaim.holds_of_wide 3 Try.f3 rfl rfl rfl rfl rfl rfl rfl ⟨rfl, rfl, rfl, rfl, rfl⟩ rfl rfl rfl rfl rfl (by kernel_rfl) Try.func3 (by kernel_rfl)
    (of_decide_eq_true (by kernel_rfl)) (by unfold Func.isWrapper; first | (rw [if_pos (by decide +kernel)]; kernel_rfl) | (rw [if_neg (by decide +kernel)]; exact ⟨rfl, rfl⟩))
    (fun os started H enc _ => lifted os started H enc)
theorem proved : Rows.FnWalkersMeetOfAllSaid := over
#print axioms proved
end Go.Proofs.Ytdjgimackejjpaa.rowFnWalkersMeetOfAll
