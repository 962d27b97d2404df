/- The plain statement of FnLaddersSlip, in groups as the values are drawn; and the walk that follows from it. No condition. -/
import Derived.Test.YtlajkepgmmfbhaaLwFnLaddersSlip
import Derived.OpenShut
namespace Go.Proofs.Ytlajkepgmmfbhaa.StFnLaddersSlip
open Go.RowKit Go.Proofs.Ytlajkepgmmfbhaa.PFnLaddersSlip Go.Proofs.YtlajkepgmmfbhaaW.PrintWords Go.Proofs.YtlajkepgmmfbhaaW.PrintLast
def Pure : Prop := LwFnLaddersSlip.Pure0 ∧ LwFnLaddersSlip.Pure1 ∧ LwFnLaddersSlip.Pure2 ∧ LwFnLaddersSlip.Pure3 ∧ LwFnLaddersSlip.Pure4 ∧ LwFnLaddersSlip.Pure5 ∧ LwFnLaddersSlip.Pure6 ∧ LwFnLaddersSlip.Pure7
theorem walk (P : Pure) (a0 : Option Addr) (len0 cap0 : Nat) (z0 : List Int) (a1 : Option Addr) (len1 cap1 : Nat) (z1 : List Int) (w : World) (w0 : (a0 = none ∧ len0 = 0 ∧ cap0 = 0 ∧ z0 = []) ∨ ∃ x, a0 = some x ∧ len0 ≤ cap0 ∧ cap0 ≤ maxLen ∧ z0.length = cap0 ∧ (∀ i, i < z0.length → w.cell? (x.add i) = some (.int .u8 (z0.getD i 0))) ∧ ∀ n ∈ z0, (Lit.int .u8 n).wf = true) (w1 : (a1 = none ∧ len1 = 0 ∧ cap1 = 0 ∧ z1 = []) ∨ ∃ x, a1 = some x ∧ len1 ≤ cap1 ∧ cap1 ≤ maxLen ∧ z1.length = cap1 ∧ (∀ i, i < z1.length → w.cell? (x.add i) = some (.int .u8 (z1.getD i 0))) ∧ ∀ n ∈ z1, (Lit.int .u8 n).wf = true) :
    Calls Try.prog 3 #[.slice a0 len0 cap0, .slice a1 len1 cap1] w fun e w' => e = .returned (.bool true) ∧ Below w.heap.size w w' := by
  obtain ⟨l0, rfl, hr0, hm0, hw0, hc0⟩ := ReadsInt.ofRowC w0
  obtain ⟨l1, rfl, hr1, hm1, hw1, hc1⟩ := ReadsInt.ofRowC w1
  exact LwFnLaddersSlip.walk a0 cap0 l0 a1 cap1 l1 P.1 P.2.1 P.2.2.1 P.2.2.2.1 P.2.2.2.2.1 P.2.2.2.2.2.1 P.2.2.2.2.2.2.1 P.2.2.2.2.2.2.2 w (Kd.C_of_reads (d := (0 : Int)) (h1 := fun _ => rfl) hr0) hc0 (fun x hx => bounds_u8 (hw0 x hx)) (Kd.C_of_reads (d := (0 : Int)) (h1 := fun _ => rfl) hr1) hc1 (fun x hx => bounds_u8 (hw1 x hx))
end Go.Proofs.Ytlajkepgmmfbhaa.StFnLaddersSlip
