/- What the law's markIntSS does: it writes numbers one behind the other into rows that the call made, and touches nothing else. No condition. -/
import Derived.Test.YtfhndhajhonniaaQFnExactWholeSquareLeansx0
import Derived.Test.YtfhndhajhonniaaQFnExactWholeSquareLeansx1
import Derived.Test.YtfhndhajhonniaaQFnExactWholeSquareLeansx2
import Derived.Test.YtfhndhajhonniaaQFnExactWholeSquareLeansx3
namespace Go.Proofs.Ytfhndhajhonniaa.MkFnExactWholeSquareLeans
open Go.RowKit Go.Proofs.Ytfhndhajhonniaa.PFnExactWholeSquareLeans Go.Proofs.YtfhndhajhonniaaW.PrintWords Go.Proofs.YtfhndhajhonniaaW.PrintLast Go.Proofs.YtfhndhajhonniaaW.PrintMore
set_option linter.unusedVariables false
set_option linter.unusedSimpArgs false

def marks : Nat → List (List Int) → Int → Int → Option (Int × List (List Int))
  | 0, _, _, _ => none
  | k + 1, x0, x1, x5 => if x5 < (x0.length : Int) then (if 0 ≤ x5 then ((laws_markIntS.f k (rd_L1 x0 x5) x1).bind fun t => (marks k (x0.set (x5 : Int).toNat t.2) t.1 (wrap64 (x5 + 1)))) else none) else some (x1, x0)

/-- One element marked: the rows behind it. -/
theorem step {ok : Nat → Prop} {g cap : Nat} {xs : List (List Int)} {w0 w wr wr' : World} {i : Int} {oki : Nat → Prop} {v : Value} {row ys : List Int}
    (hH : Kd.H (Kd.slice 3 (Kd.int .i64)) 31 wr w0.heap.size (fun k_ => ok k_ ∨ w.heap.size ≤ k_) (.slice (some ⟨g, 0, none⟩) xs.length cap) xs i oki [v])
    (hM : Kd.R (Kd.int .i64) 3 wr w0.heap.size oki v row)
    (hR : Kd.R (Kd.int .i64) 3 wr' w0.heap.size (fun k_ => (some k_ = v.ownBlock ∨ wr.heap.size ≤ k_)) v ys) (hk : Kept wr wr' (fun k_ => some k_ = v.ownBlock)) (hK : Kept w wr ok) :
    Kd.S (Kd.slice 3 (Kd.int .i64)) 31 wr' w0.heap.size (fun k_ => ok k_ ∨ w.heap.size ≤ k_) (.slice (some ⟨g, 0, none⟩) xs.length cap) (xs.set i.toNat ys) ∧ Kept w wr' ok := by
  have ho : ∀ k, some k = v.ownBlock → oki k := fun k e => hM.1 k e.symm
  refine ⟨Kd.H_back (okp := oki) (Kd.H_step hH (fun k h1 h2 h3 => hk.2 k h3 (fun e => h2 (ho k e)))) ⟨v, rfl, Kd.R_reok rfl hR (fun k e => ho k e.symm)⟩ (fun _ h => h), ?_⟩
  refine ⟨Nat.le_trans hK.1 hk.1, fun i h1 h2 => ?_⟩
  rw [hk.2 i (Nat.lt_of_lt_of_le h1 hK.1) (fun e => ?_), hK.2 i h1 h2]
  rcases hH.1 i (ho i e) with h3 | h3
  · exact h2 h3
  · omega

set_option maxHeartbeats 8000000 in
set_option maxRecDepth 100000 in
theorem calls (k : Nat) (ok : Nat → Prop) (v : Value) (l0 : List (List Int)) (a1 : Int) (r1 : Int) (r2 : List (List Int)) (w0 w : World) (hB : Below w0.heap.size w0 w) (ho0 : Kd.S (Kd.slice 3 (Kd.int .i64)) 31 w w0.heap.size ok v l0) (h : marks k l0 a1 0 = some (r1, r2)) :
    Calls Try.prog 7 #[v, .int .i64 a1] w fun e w' => e = .returned (.int .i64 r1) ∧ Kd.S (Kd.slice 3 (Kd.int .i64)) 31 w' w0.heap.size (fun k_ => (ok k_ ∨ w.heap.size ≤ k_)) v r2 ∧ Below w0.heap.size w0 w' ∧ Kept w w' (fun k_ => ok k_) := by
  have HO0 := Aside0.mk (show Kd.S (Kd.slice 3 (Kd.int .i64)) 31 w w0.heap.size (fun k_ => (ok k_ ∨ w.heap.size ≤ k_)) v l0 from Kd.S_mono ho0 (fun k_ hk => (.inl hk)))
  have HK := Aside0.mk (Kept.refl w (fun k_ => ok k_))
  have HB := Aside0.mk hB
  clear hB
  have H' := Aside0.mk h
  clear h
  go_enter Try.func7, Try.ntmps7
  go_wp2
  go_loopg [1, 5] k (fun kq v1 v5 w' => ∃ (x0_1 : List (List Int)) (x1_1 : Int) (x5_1 : Int), v1 = .int .i64 x1_1 ∧ v5 = .int .i64 x5_1 ∧ Aside0 (marks kq x0_1 x1_1 x5_1 = some (r1, r2)) ∧ Aside0 (kq ≤ k) ∧ Aside0 (Kd.S (Kd.slice 3 (Kd.int .i64)) 31 w' w0.heap.size (fun k_ => (ok k_ ∨ w.heap.size ≤ k_)) v x0_1) ∧ Aside0 (Kept w w' (fun k_ => ok k_)) ∧ Aside0 (Below w0.heap.size w0 w'))
  case atStart => exact ⟨(l0), (a1), (0), (by first | rfl | (simp; done) | (simp [*]; done)), (by first | rfl | (simp; done) | (simp [*]; done)), H', ⟨Nat.le_refl _⟩, ⟨by (with_reducible repeat (first | apply Kd.S_alloc | apply Kd.S_drewN | apply Kd.S_drew)); exact HO0.out⟩, ⟨by repeat (first | (with_reducible first | exact HK.out | apply Kept.alloc | apply Kept.drewN | apply Kept.drew) | exact HK.out)⟩, ⟨by repeat (first | (with_reducible first | exact HB.out | apply below_alloc | apply pw_below_drewN | apply below_drew1) | exact HB.out)⟩⟩
  case round =>
    clear H'
    obtain ⟨x0_1, x1_1, x5_1, rfl, rfl, HA, HK1, HO_0, HK, HB⟩ := hrel
    cases gk with
    | zero => exact absurd HA.out (by simp [marks])
    | succ k1 =>
      have H := HA.out
      clear HA
      simp only [marks] at H
      by_cases c3 : x5_1 < (x0_1.length : Int)
      · rw [if_pos c3] at H
        have c3b0 : decide (x5_1 < (x0_1.length : Int)) = true := decide_eq_true c3
        by_cases c4 : 0 ≤ x5_1
        · rw [if_pos c4] at H
          have c4b0 : decide (0 ≤ x5_1) = true := decide_eq_true c4
          replace H := Option.bind_eq_some_iff.mp H
          obtain ⟨⟨t1, t2⟩, A50, H⟩ := H
          replace H : marks k1 (x0_1.set (x5_1 : Int).toNat t2) t1 (wrap64 (x5_1 + 1)) = some (r1, r2) := H
          have A5 := Aside0.mk A50
          clear A50
          have H' := Aside0.mk H
          clear H
          obtain ⟨g, cap, eo, gb, gl, cl, hg⟩ := Kd.S_form HO_0.out (by omega)
          subst eo
          obtain ⟨oki, c, hcl, hM, hcc, hoki, hH⟩ := Kd.S_lend HO_0.out ([] : List Int) x5_1 c4 c3
          obtain ⟨row, erow⟩ : ∃ r_ : List Int, r_ = x0_1.getD x5_1.toNat [] := ⟨_, rfl⟩
          have erd : rd_L1 x0_1 x5_1 = row := erow.symm
          rw [erd] at A5
          rw [← erow] at hM
          obtain ⟨vi, rfl, hRi⟩ := hM
          have hx : wr.cell? ⟨g, (x5_1 : Int).toNat, none⟩ = some vi := by
            have := hcc 0 vi rfl
            simpa [Kd.slice] using this
          obtain ⟨Ai, ci, ei⟩ := Kd.R_slice hRi
          have HRi := Aside0.mk hRi
          have HH := Aside0.mk hH
          clear hRi hH hcc hoki hcl gb gl hg erow erd
          subst ei
          have p5 : (0 ≤ (x5_1 : Int)) = True := eq_true c4
          have q5 : ((x5_1 : Int) < ((x0_1.length : Int) : Int)) = True := eq_true c3
          clear c3 c4
          go_wp2_with (first | ((with_reducible refine gate_callee (f := 13) rfl ?_); refine goesL_ (some 17) rfl rfl Try.func13 (by kernel_rfl) rfl #[.slice Ai row.length ci, .int .i64 x1_1] rfl (by (try simp only [List.map_toArray, List.map_cons, List.map_nil]); first | done | rfl | (simp only [List.length_drop, List.length_take]; rfl)) ?_; (with_reducible refine (laws_markIntS.calls k1 (fun k_ => some k_ = (.slice Ai row.length ci : Value).ownBlock) (.slice Ai row.length ci) row x1_1 t1 t2 w0 _ ?side1 ?side2 A5.out).mono ?_); (case side1 => repeat (first | (with_reducible first | exact HB.out | apply below_alloc | apply pw_below_drewN | apply below_drew1) | exact HB.out)); (case side2 => exact Kd.R_tight rfl (by (with_reducible repeat (first | apply Kd.R_alloc | apply Kd.R_drewN | apply Kd.R_drew)); exact HRi.out)); rintro e wm ⟨rfl, hy, hb, hkp⟩; refine ⟨_, rfl, ?_⟩; obtain ⟨n0_, n1_⟩ := step (by (with_reducible repeat (first | apply Kd.H_alloc | apply Kd.H_drewN | apply Kd.H_drew)); exact HH.out) (by (with_reducible repeat (first | apply Kd.R_alloc | apply Kd.R_drewN | apply Kd.R_drew)); exact HRi.out) hy hkp (by repeat (first | (with_reducible first | exact HK.out | apply Kept.alloc | apply Kept.drewN | apply Kept.drew) | exact HK.out)); clear HO_0 HB HK HH HRi hy hkp; have HO_0 := Aside0.mk n0_; have HK := Aside0.mk n1_; have HB := Aside0.mk hb; clear n0_ n1_ hb))
          go_roundg k1
          case measure => have := HK1.out; omega
          case rel => exact ⟨(x0_1.set (x5_1 : Int).toNat t2), t1, (wrap64 (x5_1 + 1)), (by first | rfl | (simp; done) | (simp [*]; done)), (by first | rfl | (simp; done) | (simp [*]; done)), H', ⟨by have := HK1.out; omega⟩, ⟨by (with_reducible repeat (first | apply Kd.S_alloc | apply Kd.S_drewN | apply Kd.S_drew)); exact HO_0.out⟩, ⟨by repeat (first | (with_reducible first | exact HK.out | apply Kept.alloc | apply Kept.drewN | apply Kept.drew) | exact HK.out)⟩, ⟨by repeat (first | (with_reducible first | exact HB.out | apply below_alloc | apply pw_below_drewN | apply below_drew1) | exact HB.out)⟩⟩
        · rw [if_neg c4] at H
          exact absurd H (by simp)
      · rw [if_neg c3] at H
        have c3b0 : decide (x5_1 < (x0_1.length : Int)) = false := decide_eq_false c3
        clear c3
        simp only [Option.some.injEq, Prod.mk.injEq] at H
        obtain ⟨rfl, rfl⟩ := H
        obtain ⟨Ao9, co9, eo9⟩ := Kd.S_slice HO_0.out
        subst eo9
        go_wp2
        go_ret
        exact ⟨by first | rfl | (simp [errW_none, errW_some] <;> rfl) | (simp [*, errW_none, errW_some] <;> rfl), by (with_reducible repeat (first | apply Kd.S_alloc | apply Kd.S_drewN | apply Kd.S_drew)); exact HO_0.out, by repeat (first | (with_reducible first | exact HB.out | apply below_alloc | apply pw_below_drewN | apply below_drew1) | exact HB.out), by repeat (first | (with_reducible first | exact HK.out | apply Kept.alloc | apply Kept.drewN | apply Kept.drew) | exact HK.out)⟩

/-- The program's rows are all elder than the ones that a call makes. -/
theorem two {α : Type} {d : Kd α} {e base : Nat} {ok : Nat → Prop} {W W1 : World} {u v : Value} {xs ys : List α} (hw : Kd.S d e W base ok u xs) (hg : Kd.S d e W1 W.heap.size (fun _ => True) v ys) (hb : Below W.heap.size W W1) (hbase : base ≤ W.heap.size) :
    ∃ N, N = W.heap.size ∧ Kd.S d e W1 base (fun k => k < N) u xs ∧ Kd.S d e W1 base (fun k => N ≤ k) v ys :=
  ⟨W.heap.size, rfl, Kd.S_mono (Kd.S_old hw hb) (fun _ hk => hk.2), Kd.S_lower (Kd.S_mono (Kd.S_bound hg) (fun _ hk => hk.2.1)) hbase⟩
/-- Those that were made later are marked: the elder ones stay. -/
theorem elder {α : Type} {d : Kd α} {e base N : Nat} {W W1 : World} {u : Value} {xs : List α} (hw : Kd.S d e W base (fun k => k < N) u xs) (hk : Kept W W1 (fun k => N ≤ k)) : Kd.S d e W1 base (fun k => k < N) u xs :=
  Kd.S_mono (Kd.S_keptB hw hk (fun k h1 h2 => by omega)) (fun _ h => h.1)
theorem blk_kept {W W1 : World} {g N : Nat} {o : Obj} (h : W.heap[g]? = some o) (hk : Kept W W1 (fun k => N ≤ k)) (hg : g < N) : W1.heap[g]? = some o := (hk.2 g (blk_lt h) (by omega)).trans h
end Go.Proofs.Ytfhndhajhonniaa.MkFnExactWholeSquareLeans
