/- Rows that are kept: a list of rows some of whose elements were taken over into a fresh list, each once. No condition. -/
import Derived.Test.YtlajkepgmmfbhaaWNEv
import Derived.Test.YtlajkepgmmfbhaaWMore
namespace Go.Proofs.Ytlajkepgmmfbhaa.Kt
open Go.RowKit Go.Proofs.YtlajkepgmmfbhaaW.PrintWords Go.Proofs.YtlajkepgmmfbhaaW.PrintLast Go.Proofs.YtlajkepgmmfbhaaW.PrintMore
set_option linter.unusedVariables false
set_option linter.unusedSimpArgs false
section
variable {α : Type} {d : Kd α} {e base n cap : Nat} {ok ok' : Nat → Prop} {w w1 W : World} {u v v1 src : Value} {xs ys : List α} {f : Nat → Nat} {inner : List Value} {i m m' : Nat}
/-- A row of one's own, its cells and its owner function told. -/
def G (d : Kd α) (f : Nat → Nat) (inner : List Value) (e : Nat) (w : World) (base : Nat) (ok : Nat → Prop) (v : Value) (xs : List α) : Prop :=
  (∀ k, v.ownBlock = some k → ok k) ∧ w.ownsRow base e d.sz v xs.zipIdx.length inner ∧ Reps ((Kd.tag f d).M w base (fun k => ok k ∧ some k ≠ v.ownBlock)) d.sz xs.zipIdx inner
theorem S_G (h : Kd.S d e w base ok v xs) : ∃ f inner, G d f inner e w base ok v xs := by
  obtain ⟨f, h0, inner, ho, hr⟩ := h
  exact ⟨f, inner, h0, ho, hr⟩
theorem G_S (h : G d f inner e w base ok v xs) : Kd.S d e w base ok v xs := ⟨f, h.1, inner, h.2.1, h.2.2⟩
theorem G_mono (h : G d f inner e w base ok v xs) (hok : ∀ k, ok k → ok' k) : G d f inner e w base ok' v xs :=
  ⟨fun k hk => hok k (h.1 k hk), h.2.1, h.2.2.imp_ (fun _ _ hp => (Kd.tag f d).M_mono (fun k hk => ⟨hok k hk.1, hk.2⟩) hp)⟩
theorem G_bound (h : G d f inner e w base ok v xs) : G d f inner e w base (fun k => ok k ∧ k < w.heap.size) v xs :=
  ⟨fun k hk => ⟨h.1 k hk, own_lt h.2.1 k hk⟩, h.2.1, h.2.2.imp_ (fun _ _ hp => (Kd.tag f d).M_mono (fun k hk => ⟨⟨hk.1.1, hk.2.2.1⟩, hk.1.2⟩) ((Kd.tag f d).M_bound hp))⟩
theorem G_move (h : G d f inner e w base ok v xs) (hm : ∀ k, ok k → w1.heap[k]? = w.heap[k]?) : G d f inner e w1 base ok v xs :=
  ⟨h.1, own_move h.2.1 (fun k hk => hm k (h.1 k hk)), h.2.2.imp_ (fun _ _ hp => (Kd.tag f d).M_move (fun k hk => hm k hk.1) hp)⟩
theorem G_step (h : G d f inner e w base ok v xs) (hm : ∀ k, ok k → k < w.heap.size → w1.heap[k]? = w.heap[k]?) : G d f inner e w1 base ok v xs :=
  G_mono (G_move (G_bound h) (fun k hk => hm k hk.1 hk.2)) (fun _ hk => hk.1)
theorem G_below (h : G d f inner e w base ok v xs) (hb : Below w.heap.size w w1) : G d f inner e w1 base ok v xs := G_step h (fun k _ hk => hb.block k hk)
/-- Behind an append to u (it left v1). -/
theorem G_after (h : G d f inner e W base (fun k => ok k ∧ some k ≠ u.ownBlock) v xs) (hg : W.grownBy w1 u.ownBlock) (hat : v1.ownBlock = u.ownBlock ∨ ∃ b, v1.ownBlock = some b ∧ W.heap.size ≤ b) : G d f inner e w1 base (fun k => ok k ∧ some k ≠ v1.ownBlock) v xs := by
  refine G_mono (G_step (G_bound h) (fun k hk hlt => hg.block k hlt hk.1.2)) (fun k hk => ⟨hk.1.1, ?_⟩)
  rcases hat with hat | ⟨b, hb, hle⟩
  · rw [hat]; exact hk.1.2
  · rw [hb]
    intro he
    injection he with he
    have := hk.2
    omega
/-- The cells that element i takes. -/
def cut (d : Kd α) (inner : List Value) (i : Nat) : List Value := (inner.drop (i * d.sz)).take d.sz
theorem G_cut (h : G d f inner e w base ok v xs) {x : α} (hx : xs[i]? = some x) : d.M w base (fun k => (ok k ∧ some k ≠ v.ownBlock) ∧ f k = i) x (cut d inner i) := h.2.2.2 i (x, i) (Kd.zip_at hx)
/-- .. as the memory has them. -/
theorem G_cell (h1 : d.sz = 1) (h : G d f inner e w base ok (.slice (some ⟨i, 0, none⟩) n cap) xs) {j : Nat} (hj : j < xs.length) {q : Value} (hq : w.cell? ⟨i, j, none⟩ = some q) : cut d inner j = [q] := by
  have hl := h.2.2.1
  rw [List.length_zipIdx, h1, Nat.mul_one] at hl
  have hji : j < inner.length := by omega
  have := h.2.1.cells (g := i) (by simp [Value.ownBlock]) j _ (List.getElem?_eq_getElem hji)
  rw [add_plain, hq] at this
  injection this with this
  unfold cut
  rw [h1, Nat.mul_one, this]
  apply List.ext_getElem?
  intro t
  rcases t with _ | t
  · rw [List.getElem?_take]; simp
  · rw [List.getElem?_take]; simp
/-- The row u holds some of src's elements, each at most once, none from element m on. -/
def T (d : Kd α) (f : Nat → Nat) (inner : List Value) (e base : Nat) (w : World) (src : Value) (xs : List α) (u : Value) (ys : List α) (m : Nat) : Prop :=
  G d f inner e w base (fun k => base ≤ k ∧ some k ≠ u.ownBlock) src xs ∧ (∀ k, u.ownBlock = some k → base ≤ k ∧ some k ≠ src.ownBlock) ∧
    ∃ idx : List Nat, idx.Nodup ∧ (∀ j ∈ idx, j < m) ∧ ys.map some = idx.map (fun j => xs[j]?) ∧ (Kd.raw d.sz).R e w base (fun _ => True) u (idx.map (cut d inner))
theorem T_src (h : T d f inner e base w src xs u ys m) : Kd.N d e w base (fun k => base ≤ k ∧ some k ≠ u.ownBlock) src xs := Kd.S_N (G_S h.1)
theorem T_head {ad : Addr} (h : T d f inner e base w (.slice (some ad) n cap) xs u ys m) : ∃ g, ad = ⟨g, 0, none⟩ := Kd.R_head (Kd.S_R (G_S h.1))
theorem T_len (h : T d f inner e base w src xs u ys m) : xs.length ≤ 9223372036854775807 := by
  obtain ⟨A, c, _, _, hc⟩ := Kd.S_reads (G_S h.1)
  exact hc.2.1
theorem T_below (h : T d f inner e base w src xs u ys m) (hb : Below w.heap.size w w1) : T d f inner e base w1 src xs u ys m := by
  obtain ⟨h1, h2, idx, h3, h4, h5, h6⟩ := h
  exact ⟨G_below h1 hb, h2, idx, h3, h4, h5, Kd.R_below h6 hb⟩
theorem T_alloc (h : T d f inner e base w src xs u ys m) (o : Obj) : T d f inner e base (w.alloc o) src xs u ys m := T_below h (below_alloc (Below.refl _ _) o)
theorem T_drew (h : T d f inner e base w src xs u ys m) : T d f inner e base w.drew src xs u ys m := T_below h (below_drew (Below.refl _ _))
theorem T_drewN (h : T d f inner e base w src xs u ys m) (q : Nat) : T d f inner e base (w.drewN q) src xs u ys m := T_below h (pw_below_drewN (Below.refl _ _) q)
theorem T_up (h : T d f inner e base w src xs u ys m) (hm : m ≤ m') : T d f inner e base w src xs u ys m' := by
  obtain ⟨h1, h2, idx, h3, h4, h5, h6⟩ := h
  exact ⟨h1, h2, idx, h3, fun j hj => Nat.lt_of_lt_of_le (h4 j hj) hm, h5, h6⟩
theorem T_start {d' : Kd α} (hsz : d'.sz = d.sz) (hS : Kd.S d e w base (fun k => base ≤ k ∧ some k ≠ u.ownBlock) src xs) (hN : Kd.N d' e w base ok u []) (hne : ∀ k, u.ownBlock = some k → base ≤ k ∧ some k ≠ src.ownBlock) :
    ∃ f inner, T d f inner e base w src xs u [] 0 := by
  obtain ⟨f, inner, h1⟩ := S_G hS
  obtain ⟨h0, rows, hl, hR, _⟩ := hN
  obtain rfl : rows = [] := List.eq_nil_of_length_eq_zero hl
  rw [hsz] at hR
  exact ⟨f, inner, h1, hne, [], List.nodup_nil, fun j hj => by simp at hj, rfl, Kd.raw_any hR⟩
theorem idxOf_get {l : List Nat} (h : l.Nodup) {j k : Nat} (hj : l[j]? = some k) : l.idxOf k = j := by
  obtain ⟨hlt, rfl⟩ := List.getElem?_eq_some_iff.1 hj
  exact h.idxOf_getElem j hlt
/-- What was taken over: a row of the call's own, no two of whose elements lead to one block. -/
theorem T_S (h : T d f inner e base w src xs u ys m) : Kd.S d e w base (fun k => base ≤ k ∧ some k ≠ src.ownBlock) u ys := by
  obtain ⟨h1, h2, idx, h3, h4, h5, h6⟩ := h
  obtain ⟨_, inn, ho, hr⟩ := h6
  have hlen : ys.length = idx.length := by have := congrArg List.length h5; simpa using this
  refine ⟨fun k => idx.idxOf (f k), h2, inn, by rw [List.length_zipIdx, hlen]; rw [List.length_map] at ho; exact ho, by have := hr.1; rw [List.length_map] at this; rw [List.length_zipIdx, hlen]; exact this, fun j p hj => ?_⟩
  rw [List.getElem?_zipIdx, Nat.zero_add] at hj
  obtain ⟨y, hy, rfl⟩ := Option.map_eq_some_iff.1 hj
  have hji : j < idx.length := by have := (List.getElem?_eq_some_iff.1 hy).1; omega
  have hij : idx[j]? = some idx[j] := List.getElem?_eq_getElem hji
  have hx : xs[idx[j]]? = some y := by
    have := congrArg (fun l => l[j]?) h5
    simp only [List.getElem?_map, hy, hij, Option.map_some, Option.some.injEq] at this
    exact this.symm
  have hc : (inn.drop (j * d.sz)).take d.sz = cut d inner idx[j] := by
    have := hr.2 j (cut d inner idx[j]) (by rw [List.getElem?_map, hij]; rfl)
    exact this.1
  have hM := G_cut h1 hx
  show d.M w base _ y ((inn.drop (j * d.sz)).take d.sz)
  rw [hc]
  exact d.M_mono (fun k hk => ⟨⟨⟨hk.1.1.1, hk.1.2⟩, hk.1.1.2⟩, by show idx.idxOf (f k) = j; rw [hk.2]; exact idxOf_get h3 hij⟩) hM
theorem T_out (h : T d f inner e base w src xs u ys m) : Kd.N d e w base (fun k => base ≤ k ∧ some k ≠ src.ownBlock) u ys := Kd.S_N (T_S h)
/-- Element i taken over. -/
theorem T_append {P : Program} {ops : Array Oper} {rest : List Oper} {o : Oper} {a : Act} {Q : Exit → Act → World → Prop} {w0 : World} (h1 : d.sz = 1) (hgd : o.guard = none) (s x : Operand) (t : TypeId) (z : Value) (bytes : Nat)
    (ho : o.op = .call { callee := .builtin .append, args := #[s, x], argTypes := #[t, t] })
    (ht : P.underlying t = some (.slice e)) (hinfo : (P.info? e).map (fun i => (i.zero, i.size, i.bytes)) = some (some z, 1, bytes)) (hz : z.cells.size = 1) (hb0 : 0 < bytes)
    (v : Value) (q : Value) (ad : Addr) (had : ∃ g, ad = ⟨g, 0, none⟩) (p : α) (hs : a.eval s = v) (hx : a.eval x = .slice (some ⟨W.heap.size, 0, none⟩) 1 1)
    (HT : T d f inner e base W (.slice (some ad) n cap) xs v ys m) (hi : m ≤ i) (hp : xs[i]? = some p) (hq : W.cell? (ad.add i) = some q)
    (HB : Below base w0 W) (hbase : base ≤ W.heap.size) (hl : (ys.length + 1) * bytes ≤ 140737488355328)
    (h : ∀ v1 w1, T d f inner e base w1 (.slice (some ad) n cap) xs v1 (ys ++ [p]) (i + 1) → Below base w0 w1 → wpList P ops Q rest (a.put o.dst v1) w1) :
    wpList P ops Q (o :: rest) a (W.alloc (.cells [q].toArray e)) := by
  obtain ⟨g, rfl⟩ := had
  rw [add_plain] at hq
  obtain ⟨g1, g2, idx, g3, g4, g5, g6⟩ := HT
  have hlen : ys.length = idx.length := by have := congrArg List.length g5; simpa using this
  have hil := (List.getElem?_eq_some_iff.1 hp).1
  have hc := G_cell h1 g1 hil hq
  have hM := G_cut g1 hp
  have hone := d.K_one (d.K_of_M hM)
  have hR : (Kd.raw d.sz).R e W base (fun k => base ≤ k ∧ some k ≠ (Value.slice (some ⟨g, 0, none⟩) n cap).ownBlock) v (idx.map (cut d inner)) := ⟨fun k hk => g2 k hk, g6.2⟩
  rw [h1] at hR
  have hgs : ∀ k, W.heap.size ≤ k → base ≤ k ∧ some k ≠ (Value.slice (some ⟨g, 0, none⟩) n cap).ownBlock := fun k hk => ⟨Nat.le_trans hbase hk, fun he => by
    have := own_lt g1.2.1 k he.symm
    omega⟩
  refine Kd.R_append (Kd.raw 1) (w0 := w0) base hgd s x t e z bytes ho ht hinfo hz (by decide) hb0 v (idx.map (cut d inner)) [q] [q] _ (fun _ => False) hs hx ⟨rfl, rfl, by rw [← hc]; exact hone⟩ (fun _ hk => hk.elim) hgs hR HB hbase (by rw [List.length_map, ← hlen]; exact hl) ?_
  intro v1 w1 hr hb hg hat
  refine h v1 w1 ⟨G_after g1 hg hat, hr.1, idx ++ [i], ?_, ?_, ?_, ?_⟩ hb
  · rw [List.nodup_append]
    refine ⟨g3, by simp, fun a ha b hb => ?_⟩
    rw [List.mem_singleton] at hb
    have := g4 a ha
    omega
  · intro j hj
    rw [List.mem_append, List.mem_singleton] at hj
    rcases hj with hj | hj
    · have := g4 j hj; omega
    · omega
  · rw [List.map_append, List.map_append, g5]; simp [hp]
  · rw [List.map_append, List.map_singleton, hc, h1]
    exact Kd.raw_any hr
end
/-- An element that is read by an int. -/
theorem get_rd {β : Type} {xs : List (List β)} {i : Int} (h0 : 0 ≤ i) (h1 : i < (xs.length : Int)) : xs[i.toNat]? = some (xs.getD i.toNat []) := by
  have : i.toNat < xs.length := by omega
  rw [List.getElem?_eq_getElem this]
  simp [List.getD_eq_getElem?_getD, List.getElem?_eq_getElem this]
end Go.Proofs.Ytlajkepgmmfbhaa.Kt
