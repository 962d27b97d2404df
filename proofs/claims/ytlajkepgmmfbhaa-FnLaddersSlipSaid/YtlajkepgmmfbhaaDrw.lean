/- A walk over small states where calls write their own state's block: regions whose order is drawn with loads that may come first; what a Draw function holds. No condition. -/
import Derived.OrdersHeld
import Derived.Test.YtlajkepgmmfbhaaEng
namespace Go.Proofs.Ytlajkepgmmfbhaa.E
open Go Go.RowKit Go.Proofs.YtlajkepgmmfbhaaW.PrintWords Go.Proofs.YtlajkepgmmfbhaaW.PrintLast
set_option linter.unusedVariables false
section
variable {P : Program} {C : World → Prop} {n : Nat} {s s' : Sl} {a : Act} {w : World} {ops : Array Oper} {o o' : Oper} {rest l : List Oper} {F : Act → Prop} {G : Act → World → Prop} {Q : Exit → Act → World → Prop} {c x y z : Code} {v : Value} {x1 x2 x3 : Operand} {ι : Type}
/-- An operation that yields a value and may change the world. -/
theorem wl_run {d : Nat} (val : ι → Value) (C' : ι → World → Prop) (hd : o.dst = some d) (hn : Nat.blt d n = true) (hg : o.guard = none)
    (hr : ∀ a, Sim n s a → ∀ w, C w → ∃ i w', (execOp a.eval o).run P w = .ok (.value (val i)) w' ∧ C' i w') (h : ∀ i, WL P (C' i) n ops G Q rest (put s d (val i))) : WL P C n ops G Q (o :: rest) s := by
  intro a w ha hw
  unfold wpList
  rw [if_pos (by simp [Region.wanted, hg])]
  refine .inl ?_
  obtain ⟨i, w', hrun, hw'⟩ := hr a ha w hw
  unfold Oper.wp
  rw [hrun, Oper.upon_value, hd]
  exact h i _ _ (ha.put (Nat.le_of_ble_eq_true hn)) hw'
theorem wl_build {d : Nat} {t : TypeId} {m : Nat} {ps : Array (Nat × Operand)} {vs : Array (Nat × Value)} (val : ι → Value) (C' : ι → World → Prop) (hd : o.dst = some d) (hn : Nat.blt d n = true) (hg : o.guard = none) (ho : o.op = .buildSlice t m ps)
    (hv : ∀ a : Act, ps.map (fun x => (x.1, a.eval x.2)) = vs) (hr : ∀ w, C w → ∃ i w', (Instr.buildSlice t m vs).run P w = .ok (val i) w' ∧ C' i w') (h : ∀ i, WL P (C' i) n ops G Q rest (put s d (val i))) : WL P C n ops G Q (o :: rest) s :=
  wl_run val C' hd hn hg (fun a ha w hw => by
    obtain ⟨k, w', e1, e2⟩ := hr w hw
    refine ⟨k, w', ?_, e2⟩
    unfold execOp; simp only [ho]
    show ((Instr.buildSlice t m (ps.map (fun x => (x.1, a.eval x.2)))) >>= fun v => pure (Next.value v)).run P w = _
    rw [hv a]
    simp only [Sem.run_bind, e1]; rfl) h
theorem wl_alloc {d : Nat} {t : TypeId} {cs : Array Value} (C' : Nat → World → Prop) (hd : o.dst = some d) (hn : Nat.blt d n = true) (hg : o.guard = none) (ho : o.op = .alloc t)
    (hr : ∀ w, (Instr.alloc t true (.tuple #[])).run P w = .ok (.pointer (some ⟨w.heap.size, 0, none⟩)) (w.alloc (.cells cs t))) (hC : ∀ w, C w → C' w.heap.size (w.alloc (.cells cs t)))
    (h : ∀ g, WL P (C' g) n ops G Q rest (put s d (.pointer (some ⟨g, 0, none⟩)))) : WL P C n ops G Q (o :: rest) s :=
  wl_run (fun g => .pointer (some ⟨g, 0, none⟩)) C' hd hn hg (fun a ha w hw => ⟨w.heap.size, _, by
    unfold execOp; simp only [ho]
    have := hr w
    show ((Instr.alloc t true (.tuple #[])) >>= fun v => pure (Next.value v)).run P w = _
    simp only [Sem.run_bind, this]; rfl, hC w hw⟩) h
theorem wl_boxC {d : Nat} {t : TypeId} {u : Value} {cs : Array Value} (C' : Nat → World → Prop) (hd : o.dst = some d) (hn : Nat.blt d n = true) (hg : o.guard = none) (ho : o.op = .box t x1) (hx : ev s x1 = some u)
    (hr : ∀ w, (Instr.box t u).run P w = .ok (.pointer (some ⟨w.heap.size, 0, none⟩)) (w.alloc (.cells cs t))) (hC : ∀ w, C w → C' w.heap.size (w.alloc (.cells cs t)))
    (h : ∀ g, WL P (C' g) n ops G Q rest (put s d (.pointer (some ⟨g, 0, none⟩)))) : WL P C n ops G Q (o :: rest) s :=
  wl_run (fun g => .pointer (some ⟨g, 0, none⟩)) C' hd hn hg (fun a ha w hw => ⟨w.heap.size, _, by
    unfold execOp; simp only [ho]; rw [ha.ev hx]
    have := hr w
    show ((Instr.box t u) >>= fun v => pure (Next.value v)).run P w = _
    simp only [Sem.run_bind, this]; rfl, hC w hw⟩) h
theorem wl_store {t : TypeId} {p u : Value} (C' : World → Prop) (hd : o.dst = none) (hg : o.guard = none) (ho : o.op = .store t x1 x2) (h1 : ev s x1 = some p) (h2 : ev s x2 = some u)
    (hr : ∀ w, C w → ∃ w', (Instr.storeAt t p u).run P w = .ok () w' ∧ C' w') (h : WL P C' n ops G Q rest s) : WL P C n ops G Q (o :: rest) s := by
  intro a w ha hw
  unfold wpList
  rw [if_pos (by simp [Region.wanted, hg])]
  refine .inl ?_
  obtain ⟨w', hw1, hw2⟩ := hr w hw
  have hrun : (execOp a.eval o).run P w = .ok .skip w' := by
    unfold execOp; simp only [ho]; rw [ha.ev h1, ha.ev h2]
    show ((Instr.storeAt t p u) >>= fun _ => pure Next.skip).run P w = _
    simp only [Sem.run_bind, hw1]; rfl
  unfold Oper.wp
  rw [hrun]
  show wpList P ops (Exit.then G Q) rest (a.put o.dst undef) w'
  rw [hd]
  exact h a w' ha hw2
/-- A call: what it hands back and what holds then. -/
theorem wl_callX {d : Nat} {f : FuncId} {fn : Func} {xs : List Operand} {ts : Array TypeId} {args : List Value} (val : ι → Value) (C' : ι → World → Prop) (hd : o.dst = some d) (hn : Nat.blt d n = true) (hg : o.guard = none)
    (ho : o.op = .call { callee := .value (.func f), args := xs.toArray, argTypes := ts }) (hargs : evs s xs = some args)
    (hf : P.funcs[f]? = some fn) (hname : (fn.name == "runtime.NumGoroutine") = false) (hb : fn.body.isSome = true)
    (hc : ∀ w, C w → Calls P f args.toArray w fun e w' => ∃ i, e = .returned (val i) ∧ C' i w')
    (h : ∀ i, WL P (C' i) n ops G Q rest (put s d (val i))) : WL P C n ops G Q (o :: rest) s := by
  intro a w ha hw
  unfold wpList
  rw [if_pos (by simp [Region.wanted, hg])]
  refine .inl ?_
  have he := enters_ hf hname hb args.toArray w
  have hrun : (execOp a.eval o).run P w = .ok (.enter f args.toArray) w := by
    have := ha.evs xs args hargs
    unfold execOp
    simp [ho, resolve, Deferred.ofValue, invoke, Act.eval, this, he]
  unfold Oper.wp
  rw [hrun, Oper.upon_enter]
  refine (hc w hw).mono ?_
  rintro e w' ⟨i, rfl, hC⟩
  show wpList P ops (Exit.then G Q) rest (a.put o.dst (val i)) w'
  rw [hd]
  exact h i _ _ (ha.put (Nat.le_of_ble_eq_true hn)) hC
/-! ### a region whose order is drawn -/
def WA (P : Program) (C S : World → Prop) (n : Nat) (ops : Array Oper) (G : Act → World → Prop) (Q : Exit → Act → World → Prop) (fuel : Nat) (listed : Array Bool) (s : Sl) : Prop := ∀ a w, Sim n s a → C w → wpAnyH P .any ops (Exit.then G Q) S fuel listed a w
theorem cw_held {id : Nat} {l : List Oper} {m : Nat} (S : World → Prop) (hm : P.follows .mixedOrders = true) (hl : l.length = m) (hC : ∀ w, C w → C { w with drawn := w.drawn + 1 })
    (h : WA P C S n l.toArray G Q m (Array.replicate m false) s) : CW P C n (.region id l.toArray true) G Q s := by
  intro a w ha hw
  refine wp_region_held (S := S) hm ?_
  have : l.toArray.size = m := by simpa using hl
  rw [this]
  exact h a _ ha (hC w hw)
theorem wa_take {S : World → Prop} {i d fuel : Nat} {listed listed' : Array Bool} (hi : ops[i]? = some o) (hs : Region.noSelect ops = true) (hf : Region.free .any ops listed i = true) (hr : (Region.ready .any ops listed).contains i = true)
    (hQ : ∀ c a w, Q (.panic c) (a.put o.dst v) w → Q (.panic c) a w) (hd : o.dst = some d) (hn : Nat.blt d n = true) (hg : o.guard = none) (hl : listed.setIfInBounds i true = listed')
    (hv : ∀ a, Sim n s a → ∀ w, S w → (execOp a.eval o).run P w = .ok (.value v) w) (hS : ∀ w, C w → S w) (h : WA P C S n ops G Q fuel listed' (put s d v)) : WA P C S n ops G Q (fuel + 1) listed s := by
  intro a w ha hw
  refine wpAnyH_take hi hs hf hr hQ (.inl ⟨by simp [Region.wanted, hg], fun w hw => hv a ha w hw⟩) (hS w hw) ?_
  rw [hl, hd]
  exact h _ w (ha.put (Nat.le_of_ble_eq_true hn)) hw
theorem wa_call {S : World → Prop} {i d fuel : Nat} {listed listed' : Array Bool} {f : FuncId} {fn : Func} {xs : List Operand} {ts : Array TypeId} {args : List Value} (val : ι → Value) (C' : ι → World → Prop) (hi : ops[i]? = some o) (hr : Region.ready .any ops listed = [i]) (hl : listed.setIfInBounds i true = listed')
    (hd : o.dst = some d) (hn : Nat.blt d n = true) (hg : o.guard = none)
    (ho : o.op = .call { callee := .value (.func f), args := xs.toArray, argTypes := ts }) (hargs : evs s xs = some args)
    (hf : P.funcs[f]? = some fn) (hname : (fn.name == "runtime.NumGoroutine") = false) (hb : fn.body.isSome = true)
    (hc : ∀ w, C w → Calls P f args.toArray w fun e w' => ∃ i, e = .returned (val i) ∧ C' i w') (hS : ∀ i w, C' i w → S w)
    (h : ∀ j, WA P (C' j) S n ops G Q fuel listed' (put s d (val j))) : WA P C S n ops G Q (fuel + 1) listed s := by
  intro a w ha hw
  refine wpAnyH_all hr (by simp) fun j hj => ?_
  cases List.mem_singleton.1 hj
  unfold wpOp
  rw [hi]
  show (if Region.wanted o (yielded ops a.tmps) = true then _ else _)
  rw [if_pos (by simp [Region.wanted, hg])]
  refine .inl ?_
  have he := enters_ hf hname hb args.toArray w
  have hrun : (execOp a.eval o).run P w = .ok (.enter f args.toArray) w := by
    have := ha.evs xs args hargs
    unfold execOp
    simp [ho, resolve, Deferred.ofValue, invoke, Act.eval, this, he]
  unfold Oper.wp
  rw [hrun, Oper.upon_enter]
  refine (hc w hw).mono ?_
  rintro e w' ⟨j, rfl, hC⟩
  show S w' ∧ wpAnyH P .any ops (Exit.then G Q) S fuel (listed.setIfInBounds i true) (a.put o.dst (val j)) w'
  rw [hd, hl]
  exact ⟨hS j w' hC, h j _ _ (ha.put (Nat.le_of_ble_eq_true hn)) hC⟩
theorem wa_one {S : World → Prop} {i d fuel : Nat} {listed listed' : Array Bool} (hi : ops[i]? = some o) (hr : Region.ready .any ops listed = [i]) (hl : listed.setIfInBounds i true = listed') (hd : o.dst = some d) (hn : Nat.blt d n = true) (hg : o.guard = none)
    (hv : ∀ a, Sim n s a → ∀ w, S w → (execOp a.eval o).run P w = .ok (.value v) w) (hS : ∀ w, C w → S w) (h : WA P C S n ops G Q fuel listed' (put s d v)) : WA P C S n ops G Q (fuel + 1) listed s := by
  intro a w ha hw
  refine wpAnyH_all hr (by simp) fun j hj => ?_
  cases List.mem_singleton.1 hj
  unfold wpOp
  rw [hi]
  show (if Region.wanted o (yielded ops a.tmps) = true then _ else _)
  rw [if_pos (by simp [Region.wanted, hg])]
  refine .inl ?_
  unfold Oper.wp
  rw [hv a ha w (hS w hw), Oper.upon_value]
  show S w ∧ wpAnyH P .any ops (Exit.then G Q) S fuel (listed.setIfInBounds i true) (a.put o.dst v) w
  rw [hd, hl]
  exact ⟨hS w hw, h _ w (ha.put (Nat.le_of_ble_eq_true hn)) hw⟩
theorem wa_store {S : World → Prop} {i fuel : Nat} {listed listed' : Array Bool} {t : TypeId} {p u : Value} (C' : World → Prop) (hi : ops[i]? = some o) (hr : Region.ready .any ops listed = [i]) (hl : listed.setIfInBounds i true = listed') (hd : o.dst = none) (hg : o.guard = none)
    (ho : o.op = .store t x1 x2) (h1 : ev s x1 = some p) (h2 : ev s x2 = some u) (hr2 : ∀ w, C w → ∃ w', (Instr.storeAt t p u).run P w = .ok () w' ∧ C' w') (hS : ∀ w, C' w → S w) (h : WA P C' S n ops G Q fuel listed' s) : WA P C S n ops G Q (fuel + 1) listed s := by
  intro a w ha hw
  refine wpAnyH_all hr (by simp) fun j hj => ?_
  cases List.mem_singleton.1 hj
  unfold wpOp
  rw [hi]
  show (if Region.wanted o (yielded ops a.tmps) = true then _ else _)
  rw [if_pos (by simp [Region.wanted, hg])]
  refine .inl ?_
  obtain ⟨w', hw1, hw2⟩ := hr2 w hw
  have hrun : (execOp a.eval o).run P w = .ok .skip w' := by
    unfold execOp; simp only [ho]; rw [ha.ev h1, ha.ev h2]
    show ((Instr.storeAt t p u) >>= fun _ => pure Next.skip).run P w = _
    simp only [Sem.run_bind, hw1]; rfl
  unfold Oper.wp
  rw [hrun]
  show S w' ∧ wpAnyH P .any ops (Exit.then G Q) S fuel (listed.setIfInBounds i true) (a.put o.dst undef) w'
  rw [hd, hl]
  exact ⟨hS w' hw2, h a w' ha hw2⟩
theorem wa_done {S : World → Prop} {fuel : Nat} {listed : Array Bool} (hr : Region.ready .any ops listed = []) (hs : Sub s' s) (h : GS C n G s') : WA P C S n ops G Q fuel listed s := fun a w ha hw => wpAnyH_done hr (h a w (ha.sub hs) hw) fuel
/-! what operations yield, told of runs -/
theorem rv_move {S : World → Prop} (ho : o.op = .move x1) (hx : ev s x1 = some v) : ∀ a, Sim n s a → ∀ w, S w → (execOp a.eval o).run P w = .ok (.value v) w := fun a ha w hw => by
  unfold execOp; simp only [ho]; rw [ha.ev hx]; rfl
theorem rv_assign {S : World → Prop} (ho : o.op = .assign x1) (hx : ev s x1 = some v) : ∀ a, Sim n s a → ∀ w, S w → (execOp a.eval o).run P w = .ok (.value v) w := fun a ha w hw => by
  unfold execOp; simp only [ho]; rw [ha.ev hx]; rfl
theorem rv_load {S : World → Prop} {t : TypeId} {u : Value} (ho : o.op = .load t x1) (h1 : ev s x1 = some u) (hr : ∀ w, S w → (Instr.loadAt t u).run P w = .ok v w) : ∀ a, Sim n s a → ∀ w, S w → (execOp a.eval o).run P w = .ok (.value v) w := fun a ha w hw => by
  unfold execOp; simp only [ho]; rw [ha.ev h1]
  have := hr w hw
  show ((Instr.loadAt t u) >>= fun v => pure (Next.value v)).run P w = _
  simp only [Sem.run_bind, this]; rfl
/-- A function's beginning, the worlds being a class that holds the first. -/
theorem calls_start' {f : FuncId} {fn : Func} {c : Code} {args : Array Value} {w0 : World} {R : Ending → World → Prop} {m : Nat} (C : World → Prop) (hw : C w0) (hf : P.funcs[f]? = some fn) (hb : fn.body = some c) (hm : fn.ntmps = m) (hlt : Nat.ble args.size m = true) (s : Sl) (hs : ∀ i v, s i = some v → args[i]? = some v)
    (h : CW P C m c (fun a w => bodyPost P fn R .normal a w) (bodyPost P fn R) s) : Calls P f args w0 R := by
  refine calls_of_wp hf hb ?_
  have h1 := h { tmps := args ++ Array.replicate (fn.ntmps - args.size) undef, defers := [] } w0 ⟨rfl, by have := Nat.le_of_ble_eq_true hlt; simp [hm]; omega, fun i v hi => by
    have h2 := hs i v hi
    have hlt2 : i < args.size := by
      rcases Nat.lt_or_ge i args.size with h3 | h3
      · exact h3
      · rw [Array.getElem?_eq_none h3] at h2; cases h2
    rw [Array.getElem?_append_left hlt2]; exact h2⟩ hw
  have e : (Exit.then (fun a w => bodyPost P fn R .normal a w) (bodyPost P fn R)) = bodyPost P fn R := by
    funext e a w; cases e <;> rfl
  rw [e] at h1
  exact h1
/-- The end of a plain region, whatever the class. -/
theorem wl_endC {C' : World → Prop} (h : GS C n G s') (hs : Sub s' s) : WL P C n ops G Q [] s := wl_end h hs
end
/-! ### variables in memory -/
/-- What is known of the blocks that were made since w0. -/
def K (w0 : World) (bs : List (Nat × Array Value × Nat)) (w : World) : Prop := Below w0.heap.size w0 w ∧ (bs.map (·.1)).Nodup ∧ ∀ b ∈ bs, w0.heap.size ≤ b.1 ∧ w.heap[b.1]? = some (.cells b.2.1 b.2.2)
theorem K.lt {w0 w : World} {bs : List (Nat × Array Value × Nat)} (h : K w0 bs w) : ∀ b ∈ bs, b.1 < w.heap.size := fun b hb => blk_lt (h.2.2 b hb).2
theorem K.nil (w0 : World) : K w0 [] w0 := ⟨Below.refl _ _, List.nodup_nil, fun b hb => by cases hb⟩
theorem K.below {w0 w w' : World} {bs : List (Nat × Array Value × Nat)} (h : K w0 bs w) (hb : Below w.heap.size w w') : K w0 bs w' :=
  ⟨h.1.trans (hb.mono h.1.size), h.2.1, fun b hb' => ⟨(h.2.2 b hb').1, blk_below (h.2.2 b hb').2 hb⟩⟩
theorem K.alloc {w0 w : World} {bs : List (Nat × Array Value × Nat)} (h : K w0 bs w) (cs : Array Value) (t : Nat) : K w0 ((w.heap.size, cs, t) :: bs) (w.alloc (.cells cs t)) := by
  have h' := h.below (below_alloc (Below.refl _ _) (.cells cs t))
  refine ⟨h'.1, List.nodup_cons.2 ⟨fun hm => ?_, h.2.1⟩, fun b hb => ?_⟩
  · obtain ⟨b, hb, e⟩ := List.mem_map.1 hm
    have := h.lt b hb
    exact absurd e (Nat.ne_of_lt this)
  · rcases List.mem_cons.1 hb with rfl | hb
    · exact ⟨h.1.size, blk_new w _⟩
    · exact h'.2.2 b hb
theorem K.sub {w0 w : World} {b : Nat × Array Value × Nat} {bs : List (Nat × Array Value × Nat)} (h : K w0 (b :: bs) w) : K w0 bs w := ⟨h.1, (List.nodup_cons.1 h.2.1).2, fun x hx => h.2.2 x (List.mem_cons_of_mem _ hx)⟩
theorem K.swap {w0 w : World} {b c : Nat × Array Value × Nat} {bs : List (Nat × Array Value × Nat)} (h : K w0 (b :: c :: bs) w) : K w0 (c :: b :: bs) w := by
  obtain ⟨h1, h2, h3⟩ := h
  refine ⟨h1, ?_, fun x hx => h3 x (by simp only [List.mem_cons] at hx ⊢; rcases hx with e | e | e <;> simp [e])⟩
  simp only [List.map_cons, List.nodup_cons, List.mem_cons, not_or] at h2 ⊢
  exact ⟨⟨fun e => h2.1.1 e.symm, h2.2.1⟩, h2.1.2, h2.2.2⟩
theorem K.perm {w0 w : World} {bs bs' : List (Nat × Array Value × Nat)} (h : K w0 bs w) (p : bs.Perm bs') : K w0 bs' w := ⟨h.1, (p.map _).nodup_iff.1 h.2.1, fun b hb => h.2.2 b (p.mem_iff.2 hb)⟩
/-- A world in which the first block has been written. -/
theorem K.write {w0 w w' : World} {g : Nat} {cs cs' : Array Value} {t : Nat} {bs : List (Nat × Array Value × Nat)} (h : K w0 ((g, cs, t) :: bs) w) (hb : Below w0.heap.size w0 w') (hk : ∀ k, k ≠ g → w'.heap[k]? = w.heap[k]?) (hg : w'.heap[g]? = some (.cells cs' t)) : K w0 ((g, cs', t) :: bs) w' := by
  obtain ⟨h1, h2, h3⟩ := h
  refine ⟨hb, h2, fun x hx => ?_⟩
  rcases List.mem_cons.1 hx with rfl | hx
  · exact ⟨(h3 (g, cs, t) List.mem_cons_self).1, hg⟩
  · have hne : x.1 ≠ g := fun e => (List.nodup_cons.1 h2).1 (List.mem_map.2 ⟨x, hx, e⟩)
    exact ⟨(h3 x (List.mem_cons_of_mem _ hx)).1, by rw [hk _ hne]; exact (h3 x (List.mem_cons_of_mem _ hx)).2⟩
/-- What was made in a region since a world of the class. -/
def DK (C : World → Prop) (bs : List (Nat × Array Value × Nat)) (w : World) : Prop := ∃ wb, C wb ∧ K wb bs w
theorem DK.start {C : World → Prop} {w : World} (h : C w) (cs : Array Value) (t : Nat) : DK C [(w.heap.size, cs, t)] (w.alloc (.cells cs t)) := ⟨w, h, (K.nil w).alloc cs t⟩
theorem DK.alloc {C : World → Prop} {bs : List (Nat × Array Value × Nat)} {w : World} (h : DK C bs w) (cs : Array Value) (t : Nat) : DK C ((w.heap.size, cs, t) :: bs) (w.alloc (.cells cs t)) := by
  obtain ⟨wb, h1, h2⟩ := h
  exact ⟨wb, h1, h2.alloc cs t⟩
theorem DK.swap {C : World → Prop} {b c : Nat × Array Value × Nat} {bs : List (Nat × Array Value × Nat)} {w : World} (h : DK C (b :: c :: bs) w) : DK C (c :: b :: bs) w := by
  obtain ⟨wb, h1, h2⟩ := h
  exact ⟨wb, h1, h2.swap⟩
theorem DK.put {P : Program} {C : World → Prop} {b : Nat} {cs cs' : Array Value} {t : Nat} {bs : List (Nat × Array Value × Nat)} {u : Value} {w : World}
    (hst : ∀ w : World, w.heap[b]? = some (.cells cs t) → ∃ w', (Instr.storeAt t (.pointer (some ⟨b, 0, none⟩)) u).run P w = .ok () w' ∧ (∀ w0 : World, Below w0.heap.size w0 w → w0.heap.size ≤ b → Below w0.heap.size w0 w') ∧ (∀ k, k ≠ b → w'.heap[k]? = w.heap[k]?) ∧ w'.heap[b]? = some (.cells cs' t))
    (h : DK C ((b, cs, t) :: bs) w) : ∃ w', (Instr.storeAt t (.pointer (some ⟨b, 0, none⟩)) u).run P w = .ok () w' ∧ DK C ((b, cs', t) :: bs) w' := by
  obtain ⟨wb, h1, h2⟩ := h
  have hb := h2.2.2 _ List.mem_cons_self
  obtain ⟨w', e1, e2, e3, e4⟩ := hst w hb.2
  exact ⟨w', e1, wb, h1, h2.write (e2 wb h2.1 hb.1) e3 e4⟩
theorem DK.stab {C : World → Prop} {bs : List (Nat × Array Value × Nat)} : Stab (DK C bs) := fun w w' ⟨wb, h1, h2⟩ hb => ⟨wb, h1, h2.below hb⟩
theorem DK.base {C : World → Prop} {bs : List (Nat × Array Value × Nat)} {w : World} (hS : Stab C) (h : DK C bs w) : C w := by
  obtain ⟨wb, h1, h2⟩ := h
  exact hS wb w h1 h2.1
theorem DK.blk {C : World → Prop} {bs : List (Nat × Array Value × Nat)} {w : World} (h : DK C bs w) {b : Nat × Array Value × Nat} (hb : b ∈ bs) : w.heap[b.1]? = some (.cells b.2.1 b.2.2) := by
  obtain ⟨wb, h1, h2⟩ := h
  exact (h2.2.2 b hb).2
/-- A call whose answer is some value of a shape. -/
theorem wl_callE {P : Program} {C : World → Prop} {n : Nat} {s : Sl} {ops : Array Oper} {o : Oper} {rest : List Oper} {G : Act → World → Prop} {Q : Exit → Act → World → Prop} {ι : Type} {d : Nat} {f : FuncId} {fn : Func} {xs : List Operand} {ts : Array TypeId} {args : List Value} (val : ι → Value) (hS : Stab C) (hd : o.dst = some d) (hn : Nat.blt d n = true) (hg : o.guard = none)
    (ho : o.op = .call { callee := .value (.func f), args := xs.toArray, argTypes := ts }) (hargs : evs s xs = some args)
    (hf : P.funcs[f]? = some fn) (hname : (fn.name == "runtime.NumGoroutine") = false) (hb : fn.body.isSome = true)
    (hc : ∀ w, C w → Calls P f args.toArray w fun e w' => ∃ i, e = .returned (val i) ∧ Below w.heap.size w w')
    (h : ∀ i, WL P C n ops G Q rest (put s d (val i))) : WL P C n ops G Q (o :: rest) s :=
  wl_callX val (fun _ => C) hd hn hg ho hargs hf hname hb (fun w hw => (hc w hw).mono fun e w' ⟨i, he, hb⟩ => ⟨i, he, hS w w' hw hb⟩) h
theorem cw_ex {P : Program} {n : Nat} {s : Sl} {G : Act → World → Prop} {Q : Exit → Act → World → Prop} {c : Code} {ι : Type} {C : ι → World → Prop} (h : ∀ i, CW P (C i) n c G Q s) : CW P (fun w => ∃ i, C i w) n c G Q s := fun a w ha ⟨i, hw⟩ => h i a w ha hw
/-- A call under a guard that says yes. -/
theorem wl_callXg {P : Program} {C : World → Prop} {n : Nat} {s : Sl} {ops : Array Oper} {o : Oper} {rest : List Oper} {G : Act → World → Prop} {Q : Exit → Act → World → Prop} {ι : Type} {d jj tt : Nat} {gg bb : Bool} {f : FuncId} {fn : Func} {xs : List Operand} {ts : Array TypeId} {args : List Value} (val : ι → Value) (C' : ι → World → Prop) (hd : o.dst = some d) (hn : Nat.blt d n = true)
    (hg : o.guard = some (jj, gg)) (hj : (ops[jj]?).bind (·.dst) = some tt) (ht : s tt = some (.bool bb)) (hbb : bb = gg)
    (ho : o.op = .call { callee := .value (.func f), args := xs.toArray, argTypes := ts }) (hargs : evs s xs = some args)
    (hf : P.funcs[f]? = some fn) (hname : (fn.name == "runtime.NumGoroutine") = false) (hb : fn.body.isSome = true)
    (hc : ∀ w, C w → Calls P f args.toArray w fun e w' => ∃ i, e = .returned (val i) ∧ C' i w')
    (h : ∀ i, WL P (C' i) n ops G Q rest (put s d (val i))) : WL P C n ops G Q (o :: rest) s := by
  intro a w ha hw
  unfold wpList
  rw [if_pos (by subst hbb; simp [Region.wanted, hg, yield_of ha hj ht])]
  refine .inl ?_
  have he := enters_ hf hname hb args.toArray w
  have hrun : (execOp a.eval o).run P w = .ok (.enter f args.toArray) w := by
    have := ha.evs xs args hargs
    unfold execOp
    simp [ho, resolve, Deferred.ofValue, invoke, Act.eval, this, he]
  unfold Oper.wp
  rw [hrun, Oper.upon_enter]
  refine (hc w hw).mono ?_
  rintro e w' ⟨i, rfl, hC⟩
  show wpList P ops (Exit.then G Q) rest (a.put o.dst (val i)) w'
  rw [hd]
  exact h i _ _ (ha.put (Nat.le_of_ble_eq_true hn)) hC
theorem cw_sub {P : Program} {n : Nat} {s : Sl} {G : Act → World → Prop} {Q : Exit → Act → World → Prop} {c : Code} {C : World → Prop} (C' : World → Prop) (hC : ∀ w, C w → C' w) (h : CW P C' n c G Q s) : CW P C n c G Q s := fun a w ha hw => h a w ha (hC w hw)
def WI (P : Program) (C S : World → Prop) (n : Nat) (ops : Array Oper) (G : Act → World → Prop) (Q : Exit → Act → World → Prop) (fuel : Nat) (listed : Array Bool) (i : Nat) (s : Sl) : Prop :=
  ∀ a w, Sim n s a → C w → wpOp P ops (Exit.then G Q) i (fun a' w' => S w' ∧ wpAnyH P .any ops (Exit.then G Q) S fuel (listed.setIfInBounds i true) a' w') a w
section
variable {P : Program} {C S : World → Prop} {n : Nat} {s s' : Sl} {ops : Array Oper} {o : Oper} {G : Act → World → Prop} {Q : Exit → Act → World → Prop} {x1 x2 x3 : Operand} {v : Value} {ι : Type} {fuel i j d : Nat} {listed listed' : Array Bool}
theorem wa_fork (hr : Region.ready .any ops listed = [i, j]) (h1 : WI P C S n ops G Q fuel listed i s) (h2 : WI P C S n ops G Q fuel listed j s) : WA P C S n ops G Q (fuel + 1) listed s := fun a w ha hw =>
  wpAnyH_all hr (by simp) fun k hk => by
    rcases List.mem_cons.1 hk with rfl | hk
    · exact h1 a w ha hw
    · cases List.mem_singleton.1 hk; exact h2 a w ha hw
theorem wa_sole (hr : Region.ready .any ops listed = [i]) (h1 : WI P C S n ops G Q fuel listed i s) : WA P C S n ops G Q (fuel + 1) listed s := fun a w ha hw =>
  wpAnyH_all hr (by simp) fun k hk => by cases List.mem_singleton.1 hk; exact h1 a w ha hw
theorem wi_run (val : ι → Value) (C' : ι → World → Prop) (hi : ops[i]? = some o) (hl : listed.setIfInBounds i true = listed') (hd : o.dst = some d) (hn : Nat.blt d n = true) (hg : o.guard = none)
    (hr : ∀ a, Sim n s a → ∀ w, C w → ∃ i w', (execOp a.eval o).run P w = .ok (.value (val i)) w' ∧ C' i w') (hS : ∀ i w, C' i w → S w) (h : ∀ j, WA P (C' j) S n ops G Q fuel listed' (put s d (val j))) : WI P C S n ops G Q fuel listed i s := by
  intro a w ha hw
  unfold wpOp
  rw [hi]
  show (if Region.wanted o (yielded ops a.tmps) = true then _ else _)
  rw [if_pos (by simp [Region.wanted, hg])]
  refine .inl ?_
  obtain ⟨k, w', hrun, hw'⟩ := hr a ha w hw
  unfold Oper.wp
  rw [hrun, Oper.upon_value]
  show S w' ∧ wpAnyH P .any ops (Exit.then G Q) S fuel (listed.setIfInBounds i true) (a.put o.dst (val k)) w'
  rw [hd, hl]
  exact ⟨hS k w' hw', h k _ _ (ha.put (Nat.le_of_ble_eq_true hn)) hw'⟩
theorem wi_call {f : FuncId} {fn : Func} {xs : List Operand} {ts : Array TypeId} {args : List Value} (val : ι → Value) (C' : ι → World → Prop) (hi : ops[i]? = some o) (hl : listed.setIfInBounds i true = listed')
    (hd : o.dst = some d) (hn : Nat.blt d n = true) (hg : o.guard = none)
    (ho : o.op = .call { callee := .value (.func f), args := xs.toArray, argTypes := ts }) (hargs : evs s xs = some args)
    (hf : P.funcs[f]? = some fn) (hname : (fn.name == "runtime.NumGoroutine") = false) (hb : fn.body.isSome = true)
    (hc : ∀ w, C w → Calls P f args.toArray w fun e w' => ∃ i, e = .returned (val i) ∧ C' i w') (hS : ∀ i w, C' i w → S w)
    (h : ∀ j, WA P (C' j) S n ops G Q fuel listed' (put s d (val j))) : WI P C S n ops G Q fuel listed i s := by
  intro a w ha hw
  unfold wpOp
  rw [hi]
  show (if Region.wanted o (yielded ops a.tmps) = true then _ else _)
  rw [if_pos (by simp [Region.wanted, hg])]
  refine .inl ?_
  have he := enters_ hf hname hb args.toArray w
  have hrun : (execOp a.eval o).run P w = .ok (.enter f args.toArray) w := by
    have := ha.evs xs args hargs
    unfold execOp
    simp [ho, resolve, Deferred.ofValue, invoke, Act.eval, this, he]
  unfold Oper.wp
  rw [hrun, Oper.upon_enter]
  refine (hc w hw).mono ?_
  rintro e w' ⟨j, rfl, hC⟩
  show S w' ∧ wpAnyH P .any ops (Exit.then G Q) S fuel (listed.setIfInBounds i true) (a.put o.dst (val j)) w'
  rw [hd, hl]
  exact ⟨hS j w' hC, h j _ _ (ha.put (Nat.le_of_ble_eq_true hn)) hC⟩
theorem wa_sub {C' : World → Prop} (h : WA P C' S n ops G Q fuel listed s') (hC : ∀ w, C w → C' w) (hs : Sub s' s) : WA P C S n ops G Q fuel listed s := fun a w ha hw => h a w (ha.sub hs) (hC w hw)
theorem wi_build {t : TypeId} {m : Nat} {ps : Array (Nat × Operand)} {vs : Array (Nat × Value)} (val : ι → Value) (C' : ι → World → Prop) (hi : ops[i]? = some o) (hl : listed.setIfInBounds i true = listed') (hd : o.dst = some d) (hn : Nat.blt d n = true) (hg : o.guard = none) (ho : o.op = .buildSlice t m ps)
    (hv : ∀ a : Act, ps.map (fun x => (x.1, a.eval x.2)) = vs) (hr : ∀ w, C w → ∃ i w', (Instr.buildSlice t m vs).run P w = .ok (val i) w' ∧ C' i w') (hS : ∀ i w, C' i w → S w) (h : ∀ j, WA P (C' j) S n ops G Q fuel listed' (put s d (val j))) : WI P C S n ops G Q fuel listed i s :=
  wi_run val C' hi hl hd hn hg (fun a ha w hw => by
    obtain ⟨k, w', e1, e2⟩ := hr w hw
    refine ⟨k, w', ?_, e2⟩
    unfold execOp; simp only [ho]
    show ((Instr.buildSlice t m (ps.map (fun x => (x.1, a.eval x.2)))) >>= fun v => pure (Next.value v)).run P w = _
    rw [hv a]
    simp only [Sem.run_bind, e1]; rfl) hS h
theorem wa_cut (C1 : ι → World → Prop) (s1 : ι → Sl) (f1 : Nat) (l1 : Array Bool) (h1 : ∀ i, WA P (C1 i) S n ops G Q f1 l1 (s1 i)) (h : (∀ i, WA P (C1 i) S n ops G Q f1 l1 (s1 i)) → WA P C S n ops G Q fuel listed s) : WA P C S n ops G Q fuel listed s := h h1
theorem rv_bin {op : BinOp} {t t' : TypeId} {u1 u2 : Value} (ho : o.op = .binOp op t x1 x2 t') (h1 : ev s x1 = some u1) (h2 : ev s x2 = some u2)
    (hr : ∀ w, (do eqGuard op t x1 x2 u1 u2; binOp op t u1 u2 : Sem Value).run P w = .ok v w) : ∀ a, Sim n s a → ∀ w, S w → (execOp a.eval o).run P w = .ok (.value v) w := fun a ha w hw => by
  unfold execOp; simp only [ho]; rw [ha.ev h1, ha.ev h2]
  have := hr w
  show ((do eqGuard op t x1 x2 u1 u2; binOp op t u1 u2 : Sem Value) >>= fun v => pure (Next.value v)).run P w = _
  simp only [Sem.run_bind, this]; rfl
end
end Go.Proofs.Ytlajkepgmmfbhaa.E
