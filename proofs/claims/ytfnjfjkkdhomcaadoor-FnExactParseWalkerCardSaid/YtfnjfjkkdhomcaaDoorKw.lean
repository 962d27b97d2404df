/- The row that '[]byte("..")' of a constant leaves: its block wears the run-time's mark (one place behind its last cell), so it is no row of 'Kd.R'. The movers bear the names that Kd.R's bear, so a printed text takes it by another letter. -/
import Derived.Test.YtfnjfjkkdhomcaaDoorWMore
import Derived.Test.YtfnjfjkkdhomcaaDoorWLast
import Derived.Lib.SlBytesConst
namespace Go.Proofs.YtfnjfjkkdhomcaaDoorW.PrintMore
open Go.RowKit Go.Proofs.YtfnjfjkkdhomcaaDoorW.PrintWords Go.Proofs.YtfnjfjkkdhomcaaDoorW.PrintLast
namespace Kw
/-- A marked row of bytes: its block is of the call's own, and ok. -/
def R (w : World) (base : Nat) (ok : Nat → Prop) (v : Value) (xs : List Int) : Prop :=
  ∃ (g c : Nat) (C : Array Value), v = .slice (some ⟨g, 0, none⟩) xs.length c ∧ xs.length ≤ c ∧ xs.length ≤ 9223372036854775807 ∧ base ≤ g ∧ ok g ∧
    w.heap[g]? = some (.cells C 5 (C.size, C.size + 1)) ∧ ∀ j, j < xs.length → C[j]? = some (.int .u8 (xs.getD j 0))
section
variable {w w1 : World} {base base' : Nat} {ok ok' : Nat → Prop} {v : Value} {xs : List Int}
theorem R_step (h : R w base ok v xs) (hm : ∀ k, ok k → k < w.heap.size → w1.heap[k]? = w.heap[k]?) : R w1 base ok v xs := by
  obtain ⟨g, c, C, rfl, hc, hx, hb, ho, hg, hr⟩ := h
  exact ⟨g, c, C, rfl, hc, hx, hb, ho, (hm g ho (blk_lt hg)).trans hg, hr⟩
theorem R_mono (h : R w base ok v xs) (hok : ∀ k, ok k → ok' k) : R w base ok' v xs := by
  obtain ⟨g, c, C, rfl, hc, hx, hb, ho, hg, hr⟩ := h
  exact ⟨g, c, C, rfl, hc, hx, hb, hok g ho, hg, hr⟩
theorem R_lower (h : R w base ok v xs) (hb' : base' ≤ base) : R w base' ok v xs := by
  obtain ⟨g, c, C, rfl, hc, hx, hb, ho, hg, hr⟩ := h
  exact ⟨g, c, C, rfl, hc, hx, Nat.le_trans hb' hb, ho, hg, hr⟩
theorem R_below (h : R w base ok v xs) (hb : Below w.heap.size w w1) : R w1 base ok v xs := R_step h (fun k _ hk => hb.block k hk)
theorem R_alloc (h : R w base ok v xs) (o : Obj) : R (w.alloc o) base ok v xs := R_below h (below_alloc (Below.refl _ _) o)
theorem R_drew (h : R w base ok v xs) : R w.drew base ok v xs := R_below h (below_drew (Below.refl _ _))
theorem R_drewN (h : R w base ok v xs) (m : Nat) : R (w.drewN m) base ok v xs := R_below h (pw_below_drewN (Below.refl _ _) m)
theorem R_far (h : R w base ok v xs) {p : Addr} (hok : ∀ k, ok k → k ≠ p.block) (u : Value) : R (w.setCell p u) base ok v xs := R_step h (fun k ho _ => Below.heap_setCell w p u k (hok k ho))
theorem R_types (h : R w base ok v xs) {g t : Nat} {cells : Array Value} (hb : w.heap[g]? = some (.cells cells t (0, 0))) (ht : ∀ q, q ∈ [5] → q ≠ t) : R w base (fun k => ok k ∧ k ≠ g) v xs := by
  obtain ⟨g', c, C, rfl, hc, hx, hb', ho, hg, hr⟩ := h
  refine ⟨g', c, C, rfl, hc, hx, hb', ⟨ho, ?_⟩, hg, hr⟩
  rintro rfl
  rw [hg] at hb
  injection hb with hb
  injection hb with _ hb
  exact ht 5 List.mem_cons_self hb
theorem R_slice (h : R w base ok v xs) : ∃ A c, v = .slice A xs.length c := by
  obtain ⟨g, c, C, rfl, _⟩ := h
  exact ⟨_, _, rfl⟩
theorem R_reads' {A : Option Addr} {n c : Nat} (h : R w base ok (.slice A n c) xs) : n = xs.length ∧ n ≤ c ∧ (Kd.int .u8).C w A xs.length xs := by
  obtain ⟨g, c', C, he, hc, hx, hb, ho, hg, hr⟩ := h
  injection he with h1 h2 h3
  subst h1
  refine ⟨h2, by omega, Kd.C_of_reads (enc := Value.int .u8) (d := (0 : Int)) (h1 := fun _ => rfl) ⟨rfl, hx, fun _ => ⟨_, rfl, fun j hj => ?_⟩⟩⟩
  rw [add_plain, cell_of_row w g j C 5 _ hg]
  exact hr j hj
end
section
variable {P : Program} {ops : Array Oper} {rest : List Oper} {o o2 : Oper} {a : Act} {Q : Exit → Act → World → Prop}
/-- The literal and the conversion behind it, in one step. -/
theorem R_lit {W : World} (base : Nat) (hgd : o.guard = none) (hgd2 : o2.guard = none) {N : Tmp} (hd : o.dst = some N) {M : Tmp} (hd2 : o2.dst = some M) {xs : List Int} {inner : List Value} {ok : Nat → Prop}
    (hrun : (execOp a.eval o).run P W = .ok (.value (.slice (some ⟨W.heap.size, 0, none⟩) xs.length xs.length)) (W.alloc (.cells inner.toArray 5)))
    (hrun2 : (execOp (a.put (some N) (.slice (some ⟨W.heap.size, 0, none⟩) xs.length xs.length)).eval o2).run P (W.alloc (.cells inner.toArray 5)) =
      .ok (.value (.slice (some ⟨W.heap.size, 0, none⟩) xs.length xs.length)) (W.alloc (.cells inner.toArray 5 (inner.toArray.size, inner.toArray.size + 1))))
    (hrep : ∀ j, j < xs.length → inner.toArray[j]? = some (.int .u8 (xs.getD j 0))) (hfresh : ok W.heap.size) (hbase : base ≤ W.heap.size) (hm : xs.length ≤ 9223372036854775807)
    (h : ∀ v1 w1, R w1 base ok v1 xs → Below W.heap.size W w1 → wpList P ops Q rest ((a.put (some N) v1).put (some M) v1) w1) : wpList P ops Q (o :: o2 :: rest) a W := by
  refine Kd.event_run hgd hrun ?_
  rw [hd]
  refine Kd.event_run hgd2 hrun2 ?_
  rw [hd2]
  exact h _ _ ⟨W.heap.size, xs.length, inner.toArray, rfl, Nat.le_refl _, hm, hbase, hfresh, blk_new _ _, hrep⟩ (below_alloc (Below.refl _ _) _)
end
end Kw
end Go.Proofs.YtfnjfjkkdhomcaaDoorW.PrintMore
