/- A walk over small states: what is known of a frame is a partial map from slots to values; every operation is quiet in a class of worlds (it yields one value in every world of the class). No condition. -/
import Derived.Deep.Quiet
import Derived.Tactics
import Derived.Tactics2
import Derived.KernelRfl
import Derived.IntWalk
import Derived.Test.YtlajkepgmmfbhaaWWords
import Derived.Test.YtlajkepgmmfbhaaWLast
import Derived.Test.YtlajkepgmmfbhaaWApart
import Derived.Test.YtlajkepgmmfbhaaWN
import Derived.Deep.LoopGhost
namespace Go.Proofs.Ytlajkepgmmfbhaa.E
open Go Go.RowKit Go.Proofs.YtlajkepgmmfbhaaW.PrintWords Go.Proofs.YtlajkepgmmfbhaaW.PrintLast
set_option linter.unusedVariables false

theorem nbeq_ne {i d : Nat} (h : ¬ i = d) : Nat.beq i d = false := by
  cases hb : Nat.beq i d with
  | false => rfl
  | true => exact absurd (Nat.eq_of_beq_eq_true hb) h
/-- What is known of the slots. -/
abbrev Sl := Nat → Option Value
def put (s : Sl) (d : Nat) (v : Value) : Sl := fun i => bif Nat.beq i d then some v else s i
def putO (s : Sl) (d : Option Nat) (v : Value) : Sl := match d with | some d => put s d v | none => s
/-- A state written out. -/
def ofL : List (Nat × Value) → Sl
  | [], _ => none
  | (d, v) :: r, i => bif Nat.beq i d then some v else ofL r i
def ev (s : Sl) : Operand → Option Value
  | .tmp t => s t
  | .const v => some v
  | _ => none
/-- The frame has n slots and holds what is known. -/
def Sim (n : Nat) (s : Sl) (a : Act) : Prop := a.defers = [] ∧ a.tmps.size = n ∧ ∀ i v, s i = some v → a.tmps[i]? = some v
section
variable {P : Program} {C : World → Prop} {n : Nat} {s s' : Sl} {a : Act} {w : World} {ops : Array Oper} {o : Oper} {rest : List Oper} {F : Act → Prop} {G : Act → World → Prop} {Q : Exit → Act → World → Prop} {c x y z : Code} {v : Value} {x1 x2 x3 : Operand}

theorem Sim.ev (h : Sim n s a) (hx : ev s x1 = some v) : a.eval x1 = v := by
  cases x1 with
  | tmp t =>
    have := h.2.2 t v hx
    show a.tmps.getD t undef = v
    rw [Array.getD_eq_getD_getElem?, this]; rfl
  | const u => exact Option.some.inj hx
  | global g => cases hx
  | func f => cases hx
theorem Sim.put (h : Sim n s a) {d : Nat} (hd : d < n) : Sim n (put s d v) (a.put (some d) v) := by
  obtain ⟨h1, h2, h3⟩ := h
  refine ⟨h1, by simpa [Act.put] using h2, fun i u hi => ?_⟩
  show (a.tmps.setIfInBounds d v)[i]? = some u
  unfold E.put at hi
  by_cases e : i = d
  · subst e
    rw [Nat.beq_refl, cond_true] at hi
    rw [Array.getElem?_setIfInBounds_self_of_lt (by omega), hi]
  · rw [nbeq_ne e, cond_false] at hi
    rw [Array.getElem?_setIfInBounds_ne (Ne.symm e)]
    exact h3 i u hi
/-- Less is known. -/
def Sub (s' s : Sl) : Prop := ∀ i v, s' i = some v → s i = some v
theorem Sim.sub (h : Sim n s a) (hs : Sub s' s) : Sim n s' a := ⟨h.1, h.2.1, fun i v hi => h.2.2 i v (hs i v hi)⟩
theorem sub_nil : Sub (ofL []) s := fun i v h => by cases h
theorem sub_cons {d : Nat} {l : List (Nat × Value)} (h : s d = some v) (hl : Sub (ofL l) s) : Sub (ofL ((d, v) :: l)) s := by
  intro i u hi
  unfold ofL at hi
  by_cases e : i = d
  · subst e
    rw [Nat.beq_refl, cond_true] at hi
    rw [h, hi]
  · rw [nbeq_ne e, cond_false] at hi
    exact hl i u hi

/-! ### one region, in the order of the text -/
def WQ (P : Program) (C : World → Prop) (n : Nat) (ops : Array Oper) (F : Act → Prop) (l : List Oper) (s : Sl) : Prop := ∀ a, Sim n s a → wpQuiet P ops C F l a
/-- The value that an operation yields, in every world of the class. -/
def PV (P : Program) (C : World → Prop) (n : Nat) (o : Oper) (s : Sl) (v : Value) : Prop := ∀ a, Sim n s a → ∀ w, C w → o.quietAt P a C w v
theorem wq_nil (h : ∀ a, Sim n s a → F a) : WQ P C n ops F [] s := fun a ha => wpQuiet_nil (h a ha)
theorem wq_op {d : Nat} (hd : o.dst = some d) (hn : Nat.blt d n = true) (hg : o.guard = none) (hv : PV P C n o s v) (h : WQ P C n ops F rest (put s d v)) : WQ P C n ops F (o :: rest) s := by
  intro a ha
  unfold wpQuiet
  rw [if_pos (by simp [Region.wanted, hg])]
  refine ⟨v, hv a ha, ?_⟩
  rw [hd]
  exact h _ (ha.put (Nat.le_of_ble_eq_true hn))
theorem yield_of {j t : Nat} {b : Bool} (ha : Sim n s a) (hj : (ops[j]?).bind (·.dst) = some t) (ht : s t = some (.bool b)) : yielded ops a.tmps j = some b := by
  unfold yielded
  rw [hj, Option.bind_some, ha.2.2 t _ ht]
/-- A guard that says yes. -/
theorem wq_yes {d j t : Nat} {g b : Bool} (hd : o.dst = some d) (hn : Nat.blt d n = true) (hg : o.guard = some (j, g)) (hj : (ops[j]?).bind (·.dst) = some t) (ht : s t = some (.bool b)) (hb : b = g) (hv : PV P C n o s v) (h : WQ P C n ops F rest (put s d v)) :
    WQ P C n ops F (o :: rest) s := by
  intro a ha
  unfold wpQuiet
  rw [if_pos (by subst hb; simp [Region.wanted, hg, yield_of ha hj ht])]
  refine ⟨v, hv a ha, ?_⟩
  rw [hd]
  exact h _ (ha.put (Nat.le_of_ble_eq_true hn))
/-- .. and one that says no. -/
theorem wq_no {d j t : Nat} {g b : Bool} (hd : o.dst = some d) (hn : Nat.blt d n = true) (hg : o.guard = some (j, g)) (hj : (ops[j]?).bind (·.dst) = some t) (ht : s t = some (.bool b)) (hb : b = !g) (h : WQ P C n ops F rest (put s d undef)) :
    WQ P C n ops F (o :: rest) s := by
  intro a ha
  unfold wpQuiet
  rw [if_neg (by subst hb; simp [Region.wanted, hg, yield_of ha hj ht])]
  rw [hd]
  exact h _ (ha.put (Nat.le_of_ble_eq_true hn))
/-- .. behind an operation that was not carried out itself. -/
theorem wq_off {d j t : Nat} {g : Bool} (hd : o.dst = some d) (hn : Nat.blt d n = true) (hg : o.guard = some (j, g)) (hj : (ops[j]?).bind (·.dst) = some t) (ht : s t = some undef) (h : WQ P C n ops F rest (put s d undef)) :
    WQ P C n ops F (o :: rest) s := by
  intro a ha
  unfold wpQuiet
  have hy : yielded ops a.tmps j = none := by
    unfold yielded
    rw [hj, Option.bind_some, ha.2.2 t _ ht]
    rfl
  rw [if_neg (by simp [Region.wanted, hg, hy])]
  rw [hd]
  exact h _ (ha.put (Nat.le_of_ble_eq_true hn))

/-! ### the values -/
theorem pv_move (ho : o.op = .move x1) (hx : ev s x1 = some v) : PV P C n o s v := fun a ha w hw => by
  unfold Oper.quietAt execOp; simp only [ho]; rw [ha.ev hx]; exact ⟨rfl, rfl⟩
theorem pv_assign (ho : o.op = .assign x1) (hx : ev s x1 = some v) : PV P C n o s v := fun a ha w hw => by
  unfold Oper.quietAt execOp; simp only [ho]; rw [ha.ev hx]; exact ⟨rfl, rfl⟩
theorem pv_run (r : ∀ a, Sim n s a → ∀ w, C w → (execOp a.eval o).run P w = .ok (.value v) w) : PV P C n o s v := fun a ha w hw => by
  unfold Oper.quietAt; rw [r a ha w hw]; exact ⟨rfl, rfl⟩
theorem pv_pick {b : Bool} {u : Value} (ho : o.op = .pick x1 x2 x3) (h1 : ev s x1 = some (.bool b)) (h2 : ev s (bif b then x2 else x3) = some u) : PV P C n o s u := pv_run fun a ha w hw => by
  unfold execOp; simp only [ho]; rw [ha.ev h1]
  cases b
  · rw [show a.eval x3 = u from ha.ev h2]; rfl
  · rw [show a.eval x2 = u from ha.ev h2]; rfl
theorem pv_extract {vs : Array Value} {i : Nat} (ho : o.op = .extract x1 i) (h1 : ev s x1 = some (.tuple vs)) (h2 : vs[i]? = some v) : PV P C n o s v := pv_run fun a ha w hw => by
  unfold execOp; simp only [ho]; rw [ha.ev h1]
  show (Instr.extract (.tuple vs) i >>= fun v => pure (Next.value v)).run P w = _
  simp [Instr.extract, h2, go_sem]
theorem pv_not {b : Bool} {t : TypeId} (ho : o.op = .unOp .not t x1) (h1 : ev s x1 = some (.bool b)) : PV P C n o s (.bool !b) := pv_run fun a ha w hw => by
  unfold execOp; simp only [ho]; rw [ha.ev h1]; rfl
/-- A binary operation: what it yields is reckoned once. -/
theorem pv_bin {op : BinOp} {t t' : TypeId} {u1 u2 : Value} (ho : o.op = .binOp op t x1 x2 t') (h1 : ev s x1 = some u1) (h2 : ev s x2 = some u2)
    (hr : ∀ w, (do eqGuard op t x1 x2 u1 u2; binOp op t u1 u2 : Sem Value).run P w = .ok v w) : PV P C n o s v := pv_run fun a ha w hw => by
  unfold execOp; simp only [ho]; rw [ha.ev h1, ha.ev h2]
  have := hr w
  show ((do eqGuard op t x1 x2 u1 u2; binOp op t u1 u2 : Sem Value) >>= fun v => pure (Next.value v)).run P w = _
  simp only [Sem.run_bind, this]; rfl
/-- An operation on memory: what it yields, in every world of the class. -/
theorem pv_load {t : TypeId} {u : Value} (ho : o.op = .load t x1) (h1 : ev s x1 = some u) (hr : ∀ w, C w → (Instr.loadAt t u).run P w = .ok v w) : PV P C n o s v := pv_run fun a ha w hw => by
  unfold execOp; simp only [ho]; rw [ha.ev h1]
  have := hr w hw
  show ((Instr.loadAt t u) >>= fun v => pure (Next.value v)).run P w = _
  simp only [Sem.run_bind, this]; rfl
theorem pv_fieldAddr {t : TypeId} {u : Value} {f : Nat} (ho : o.op = .fieldAddr t x1 f) (h1 : ev s x1 = some u) (hr : ∀ w, (Instr.fieldAt t u f).run P w = .ok v w) : PV P C n o s v := pv_run fun a ha w hw => by
  unfold execOp; simp only [ho]; rw [ha.ev h1]
  have := hr w
  show ((Instr.fieldAt t u f) >>= fun v => pure (Next.value v)).run P w = _
  simp only [Sem.run_bind, this]; rfl
theorem pv_field {t : TypeId} {u : Value} {f : Nat} (ho : o.op = .field t x1 f) (h1 : ev s x1 = some u) (hr : ∀ w, (Instr.field t u f).run P w = .ok v w) : PV P C n o s v := pv_run fun a ha w hw => by
  unfold execOp; simp only [ho]; rw [ha.ev h1]
  have := hr w
  show ((Instr.field t u f) >>= fun v => pure (Next.value v)).run P w = _
  simp only [Sem.run_bind, this]; rfl
/-- The values of operands, one behind the other. -/
def evs (s : Sl) : List Operand → Option (List Value)
  | [] => some []
  | x :: r => match ev s x, evs s r with
    | some v, some l => some (v :: l)
    | _, _ => none
theorem Sim.evs (h : Sim n s a) : ∀ (xs : List Operand) (vs : List Value), evs s xs = some vs → xs.map a.eval = vs
  | [], vs, e => by cases e; rfl
  | x :: r, vs, e => by
    unfold E.evs at e
    cases hx : E.ev s x with
    | none => rw [hx] at e; cases e
    | some v =>
      rw [hx] at e
      cases hr : E.evs s r with
      | none => rw [hr] at e; cases e
      | some l =>
        rw [hr] at e
        cases e
        rw [List.map_cons, h.ev hx, Sim.evs h r l hr]
/-- A call that hands back one value, in every world of the class, and leaves a world of the class. -/
theorem pv_call {f : FuncId} {fn : Func} {xs : List Operand} {ts : Array TypeId} {args : List Value} (ho : o.op = .call { callee := .value (.func f), args := xs.toArray, argTypes := ts }) (hargs : evs s xs = some args)
    (hf : P.funcs[f]? = some fn) (hname : (fn.name == "runtime.NumGoroutine") = false) (hb : fn.body.isSome = true)
    (h : ∀ w, C w → Calls P f args.toArray w fun e w' => e = .returned v ∧ C w') : PV P C n o s v := fun a ha w hw => by
  have he := enters_ hf hname hb args.toArray w
  have hrun : (execOp a.eval o).run P w = .ok (.enter f args.toArray) w := by
    have := ha.evs xs args hargs
    unfold execOp
    simp [ho, resolve, Deferred.ofValue, invoke, Act.eval, this, he]
  unfold Oper.quietAt
  rw [hrun]
  exact ⟨rfl, h w hw⟩

/-! ### a plain region: worlds may grow -/
/-- A class of worlds that holds on when blocks are added, draws made. -/
def Stab (C : World → Prop) : Prop := ∀ w w', C w → Below w.heap.size w w' → C w'
theorem Stab.and {C D : World → Prop} (h : Stab C) (h' : Stab D) : Stab (fun w => C w ∧ D w) := fun w w' hw hb => ⟨h w w' hw.1 hb, h' w w' hw.2 hb⟩
theorem stab_below (w0 : World) : Stab (fun w => Below w0.heap.size w0 w) := fun w w' hw hb => hw.trans (hb.mono hw.size)
theorem stab_blk (g : Nat) (o : Obj) : Stab (fun w => w.heap[g]? = some o) := fun w w' hw hb => (hb.block g (blk_lt hw)).trans hw
theorem Stab.draws {C : World → Prop} (h : Stab C) (w : World) (hw : C w) : C { w with drawn := w.drawn + 1 } := h w _ hw ⟨rfl, rfl, rfl, Nat.le_refl _, fun _ _ => rfl⟩
def WL (P : Program) (C : World → Prop) (n : Nat) (ops : Array Oper) (G : Act → World → Prop) (Q : Exit → Act → World → Prop) (l : List Oper) (s : Sl) : Prop := ∀ a w, Sim n s a → C w → wpList P ops (Exit.then G Q) l a w
/-- G holds of whatever frame that holds what is known. -/
def GS (C : World → Prop) (n : Nat) (G : Act → World → Prop) (s : Sl) : Prop := ∀ a w, Sim n s a → C w → G a w
theorem GS.sub (h : GS C n G s') (hs : Sub s' s) : GS C n G s := fun a w ha hw => h a w (ha.sub hs) hw
theorem wp_of_quiet {K : Act → World → Prop} (h3 : o.quietAt P a C w v) (hK : ∀ w', C w' → K (a.put o.dst v) w') (hw : C w) : o.wp P a w K Q := by
  unfold Oper.quietAt at h3
  unfold Oper.wp
  cases hr : (execOp a.eval o).run P w with
  | ok x w1 =>
    rw [hr] at h3
    cases x with
    | value u => obtain ⟨rfl, rfl⟩ := h3; exact hK _ hw
    | skip => obtain ⟨rfl, rfl⟩ := h3; exact hK _ hw
    | enter f args =>
      obtain ⟨rfl, hc⟩ := h3
      rw [Oper.upon_enter]
      refine hc.mono ?_
      rintro e w'' ⟨rfl, hC⟩
      exact hK _ hC
    | _ => exact h3.elim
  | halt x w1 => rw [hr] at h3; exact h3.elim
theorem wl_end (h : GS C n G s') (hs : Sub s' s) : WL P C n ops G Q [] s := fun a w ha hw => h a w (ha.sub hs) hw
theorem wl_op {d : Nat} (hd : o.dst = some d) (hn : Nat.blt d n = true) (hg : o.guard = none) (hv : PV P C n o s v) (h : WL P C n ops G Q rest (put s d v)) : WL P C n ops G Q (o :: rest) s := by
  intro a w ha hw
  unfold wpList
  rw [if_pos (by simp [Region.wanted, hg])]
  refine .inl (wp_of_quiet (hv a ha w hw) (fun w' hw' => ?_) hw)
  rw [hd]
  exact h _ _ (ha.put (Nat.le_of_ble_eq_true hn)) hw'
theorem wl_yes {d j t : Nat} {g b : Bool} (hd : o.dst = some d) (hn : Nat.blt d n = true) (hg : o.guard = some (j, g)) (hj : (ops[j]?).bind (·.dst) = some t) (ht : s t = some (.bool b)) (hb : b = g) (hv : PV P C n o s v) (h : WL P C n ops G Q rest (put s d v)) : WL P C n ops G Q (o :: rest) s := by
  intro a w ha hw
  unfold wpList
  rw [if_pos (by subst hb; simp [Region.wanted, hg, yield_of ha hj ht])]
  refine .inl (wp_of_quiet (hv a ha w hw) (fun w' hw' => ?_) hw)
  rw [hd]
  exact h _ _ (ha.put (Nat.le_of_ble_eq_true hn)) hw'
theorem wl_no {d j t : Nat} {g b : Bool} (hd : o.dst = some d) (hn : Nat.blt d n = true) (hg : o.guard = some (j, g)) (hj : (ops[j]?).bind (·.dst) = some t) (ht : s t = some (.bool b)) (hb : b = !g) (h : WL P C n ops G Q rest (put s d undef)) : WL P C n ops G Q (o :: rest) s := by
  intro a w ha hw
  unfold wpList
  rw [if_neg (by subst hb; simp [Region.wanted, hg, yield_of ha hj ht]), hd]
  exact h _ _ (ha.put (Nat.le_of_ble_eq_true hn)) hw
theorem wl_off {d j t : Nat} {g : Bool} (hd : o.dst = some d) (hn : Nat.blt d n = true) (hg : o.guard = some (j, g)) (hj : (ops[j]?).bind (·.dst) = some t) (ht : s t = some undef) (h : WL P C n ops G Q rest (put s d undef)) : WL P C n ops G Q (o :: rest) s := by
  intro a w ha hw
  unfold wpList
  have hy : yielded ops a.tmps j = none := by
    unfold yielded
    rw [hj, Option.bind_some, ha.2.2 t _ ht]
    rfl
  rw [if_neg (by simp [Region.wanted, hg, hy]), hd]
  exact h _ _ (ha.put (Nat.le_of_ble_eq_true hn)) hw
/-- A new block that holds a value's cells. -/
theorem wl_box {d : Nat} {t : TypeId} {u : Value} {cs : Array Value} (hS : Stab C) (hd : o.dst = some d) (hn : Nat.blt d n = true) (hg : o.guard = none) (ho : o.op = .box t x1) (hx : ev s x1 = some u)
    (hr : ∀ w, (Instr.box t u).run P w = .ok (.pointer (some ⟨w.heap.size, 0, none⟩)) (w.alloc (.cells cs t)))
    (h : ∀ g, WL P (fun w => C w ∧ w.heap[g]? = some (.cells cs t)) n ops G Q rest (put s d (.pointer (some ⟨g, 0, none⟩)))) : WL P C n ops G Q (o :: rest) s := by
  intro a w ha hw
  unfold wpList
  rw [if_pos (by simp [Region.wanted, hg])]
  refine .inl ?_
  have hrun : (execOp a.eval o).run P w = .ok (.value (.pointer (some ⟨w.heap.size, 0, none⟩))) (w.alloc (.cells cs t)) := by
    unfold execOp; simp only [ho]; rw [ha.ev hx]
    have := hr w
    show ((Instr.box t u) >>= fun v => pure (Next.value v)).run P w = _
    simp only [Sem.run_bind, this]; rfl
  unfold Oper.wp
  rw [hrun, Oper.upon_value, hd]
  exact h w.heap.size _ _ (ha.put (Nat.le_of_ble_eq_true hn)) ⟨hS w _ hw (below_alloc (Below.refl _ _) _), blk_new w _⟩
/-- A call whose answer may lie in memory: of it R is told. -/
theorem wl_call {d : Nat} {f : FuncId} {fn : Func} {xs : List Operand} {ts : Array TypeId} {args : List Value} {R : Value → World → Prop} (hS : Stab C) (hd : o.dst = some d) (hn : Nat.blt d n = true) (hg : o.guard = none)
    (ho : o.op = .call { callee := .value (.func f), args := xs.toArray, argTypes := ts }) (hargs : evs s xs = some args)
    (hf : P.funcs[f]? = some fn) (hname : (fn.name == "runtime.NumGoroutine") = false) (hb : fn.body.isSome = true)
    (hc : ∀ w, C w → Calls P f args.toArray w fun e w' => ∃ v, e = .returned v ∧ R v w' ∧ Below w.heap.size w w')
    (h : ∀ v, WL P (fun w => C w ∧ R v w) n ops G Q rest (put s d v)) : WL P C n ops G Q (o :: rest) s := by
  intro a w ha hw
  unfold wpList
  rw [if_pos (by simp [Region.wanted, hg])]
  refine .inl ?_
  have he := enters_ hf hname hb args.toArray w
  have hrun : (execOp a.eval o).run P w = .ok (.enter f args.toArray) w := by
    have := ha.evs xs args hargs
    unfold execOp
    simp [ho, resolve, Deferred.ofValue, invoke, Act.eval, this, he]
  unfold Oper.wp
  rw [hrun, Oper.upon_enter]
  refine (hc w hw).mono ?_
  rintro e w' ⟨v, rfl, hR, hb⟩
  show wpList P ops (Exit.then G Q) rest (a.put o.dst v) w'
  rw [hd]
  exact h v _ _ (ha.put (Nat.le_of_ble_eq_true hn)) ⟨hS w w' hw hb, hR⟩

/-! ### the code -/
/-- From whatever frame that holds what is known, in whatever world of the class: behind the code G, or a way out Q. -/
def CW (P : Program) (C : World → Prop) (n : Nat) (c : Code) (G : Act → World → Prop) (Q : Exit → Act → World → Prop) (s : Sl) : Prop := ∀ a w, Sim n s a → C w → c.wp P (Exit.then G Q) a w
theorem then_then {G F : Act → World → Prop} : Exit.then G (Exit.then F Q) = Exit.then G Q := by
  funext e a w; cases e <;> rfl
theorem cw_seq (h : ∀ G' : Act → World → Prop, (∀ C' s', CW P C' n y G Q s' → GS C' n G' s') → CW P C n x G' Q s) : CW P C n (.seq x y) G Q s := by
  intro a w ha hw
  have := h (y.wp P (Exit.then G Q)) (fun C' s' h' a w ha hw => h' a w ha hw) a w ha hw
  refine wp_seq ?_
  rw [then_then]
  exact this
theorem cw_skip (h : GS C n G s) : CW P C n .skip G Q s := fun a w ha hw => wp_skip (h a w ha hw)
theorem cw_cond {b : Bool} {t : Operand} (hc : ev s t = some (.bool b)) (ht : b = true → CW P C n x G Q s) (hf : b = false → CW P C n y G Q s) : CW P C n (.cond t x y) G Q s := by
  intro a w ha hw
  refine wp_cond_split (t := b) (ha.ev hc) (fun e => ht e a w ha hw) (fun e => hf e a w ha hw)
theorem cw_true {b : Bool} {t : Operand} (hc : ev s t = some (.bool b)) (hb : b = true) (h : CW P C n x G Q s) : CW P C n (.cond t x y) G Q s := cw_cond hc (fun _ => h) (fun e => by rw [hb] at e; cases e)
theorem cw_false {b : Bool} {t : Operand} (hc : ev s t = some (.bool b)) (hb : b = false) (h : CW P C n y G Q s) : CW P C n (.cond t x y) G Q s := cw_cond hc (fun e => by rw [hb] at e; cases e) (fun _ => h)
theorem cw_ret (h : ∀ a w, Sim n s a → C w → Q .ret a w) : CW P C n .ret G Q s := fun a w ha hw => wp_ret (h a w ha hw)
theorem cw_region {id : Nat} {l : List Oper} (h : WL P C n l.toArray G Q l s) : CW P C n (.region id l.toArray false) G Q s := fun a w ha hw => wp_region_lit (h a w ha hw)
theorem cw_draw {id : Nat} {l : List Oper} (hD : Stab C) (hm : P.follows .mixedOrders = true) (hB : Region.lexB .any l.toArray = true) (h : ∀ F : Act → Prop, (∀ s', GS C n G s' → ∀ a, Sim n s' a → F a) → WQ P C n l.toArray F l s) : CW P C n (.region id l.toArray true) G Q s := by
  intro a w ha hw
  refine wp_region_quiet (C := C) hm hB (hD.draws w hw) ?_
  exact h (fun a' => ∀ w', C w' → G a' w') (fun s' hs a ha w hw => hs a w ha hw) a ha
/-- The end of a region. -/
theorem wq_end (hF : ∀ s', GS C n G s' → ∀ a, Sim n s' a → F a) (hs : Sub s' s) (h : GS C n G s') : WQ P C n ops F [] s := wq_nil fun a ha => hF s' h a (ha.sub hs)
/-- A law's end: it answers true. -/
theorem cw_ret_true {fn : Func} {t : Nat} {w0 : World} (hr : fn.results = #[.tmp t]) (ht : s t = some (.bool true)) (hC : ∀ w, C w → Below w0.heap.size w0 w) :
    CW P C n .ret G (bodyPost P fn fun e w' => e = .returned (.bool true) ∧ Below w0.heap.size w0 w') s := cw_ret fun a w ha hw => by
  refine bodyPost_ret (v := .bool true) ?_ ha.1 ⟨rfl, hC w hw⟩
  rw [results_tmp hr]
  have := ha.2.2 t _ ht
  rw [Array.getD_eq_getD_getElem?, this]; rfl
/-- A law's beginning. -/
theorem calls_start {f : FuncId} {fn : Func} {c : Code} {args : Array Value} {w0 : World} {R : Ending → World → Prop} {m : Nat} (hf : P.funcs[f]? = some fn) (hb : fn.body = some c) (hm : fn.ntmps = m) (hlt : Nat.ble args.size m = true) (s : Sl) (hs : ∀ i v, s i = some v → args[i]? = some v)
    (h : CW P (fun w => Below w0.heap.size w0 w) m c (fun a w => bodyPost P fn R .normal a w) (bodyPost P fn R) s) : Calls P f args w0 R := by
  refine calls_of_wp hf hb ?_
  have h1 := h { tmps := args ++ Array.replicate (fn.ntmps - args.size) undef, defers := [] } w0 ⟨rfl, by have := Nat.le_of_ble_eq_true hlt; simp [hm]; omega, fun i v hi => by
    have h2 := hs i v hi
    have hlt2 : i < args.size := by
      rcases Nat.lt_or_ge i args.size with h3 | h3
      · exact h3
      · rw [Array.getElem?_eq_none h3] at h2; cases h2
    rw [Array.getElem?_append_left hlt2]; exact h2⟩ (Below.refl _ _)
  have e : (Exit.then (fun a w => bodyPost P fn R .normal a w) (bodyPost P fn R)) = bodyPost P fn R := by
    funext e a w; cases e <;> rfl
  rw [e] at h1
  exact h1
end
section
variable {P : Program} {t : TypeId} {x1 x2 : Operand} {a b : Int} {p q : Bool} {w : World}
theorem b_add (ht : P.underlying t = some (.int .i64)) : (do eqGuard .add t x1 x2 (.int .i64 a) (.int .i64 b); binOp .add t (.int .i64 a) (.int .i64 b) : Sem Value).run P w = .ok (.int .i64 (wrap64 (a + b))) w := by
  go_simp
  exact i64_w _
theorem b_sub (ht : P.underlying t = some (.int .i64)) : (do eqGuard .sub t x1 x2 (.int .i64 a) (.int .i64 b); binOp .sub t (.int .i64 a) (.int .i64 b) : Sem Value).run P w = .ok (.int .i64 (wrap64 (a - b))) w := by
  go_simp
  exact i64_w _
theorem b_mul (ht : P.underlying t = some (.int .i64)) : (do eqGuard .mul t x1 x2 (.int .i64 a) (.int .i64 b); binOp .mul t (.int .i64 a) (.int .i64 b) : Sem Value).run P w = .ok (.int .i64 (wrap64 (a * b))) w := by
  go_simp
  exact i64_w _
theorem b_neq (ht : P.underlying t = some (.int .i64)) : (do eqGuard .neq t x1 x2 (.int .i64 a) (.int .i64 b); binOp .neq t (.int .i64 a) (.int .i64 b) : Sem Value).run P w = .ok (.bool (a != b)) w := by
  go_simp
theorem b_eql (ht : P.underlying t = some (.int .i64)) : (do eqGuard .eql t x1 x2 (.int .i64 a) (.int .i64 b); binOp .eql t (.int .i64 a) (.int .i64 b) : Sem Value).run P w = .ok (.bool (a == b)) w := by
  go_simp
theorem b_lss (ht : P.underlying t = some (.int .i64)) : (do eqGuard .lss t x1 x2 (.int .i64 a) (.int .i64 b); binOp .lss t (.int .i64 a) (.int .i64 b) : Sem Value).run P w = .ok (.bool (decide (a < b))) w := by
  go_simp
theorem b_gtr (ht : P.underlying t = some (.int .i64)) : (do eqGuard .gtr t x1 x2 (.int .i64 a) (.int .i64 b); binOp .gtr t (.int .i64 a) (.int .i64 b) : Sem Value).run P w = .ok (.bool (decide (b < a))) w := by
  go_simp
theorem b_leq (ht : P.underlying t = some (.int .i64)) : (do eqGuard .leq t x1 x2 (.int .i64 a) (.int .i64 b); binOp .leq t (.int .i64 a) (.int .i64 b) : Sem Value).run P w = .ok (.bool (decide (a ≤ b))) w := by
  go_simp
theorem b_geq (ht : P.underlying t = some (.int .i64)) : (do eqGuard .geq t x1 x2 (.int .i64 a) (.int .i64 b); binOp .geq t (.int .i64 a) (.int .i64 b) : Sem Value).run P w = .ok (.bool (decide (b ≤ a))) w := by
  go_simp
theorem b_neqb (ht : P.underlying t = some .bool) : (do eqGuard .neq t x1 x2 (.bool p) (.bool q); binOp .neq t (.bool p) (.bool q) : Sem Value).run P w = .ok (.bool (p != q)) w := by
  cases p <;> cases q <;> go_simp
theorem b_eqlb (ht : P.underlying t = some .bool) : (do eqGuard .eql t x1 x2 (.bool p) (.bool q); binOp .eql t (.bool p) (.bool q) : Sem Value).run P w = .ok (.bool (p == q)) w := by
  go_simp
theorem u_neg (a : Int) : (Op.unary .neg (.int .i64 a)).run P w = .ok (.int .i64 (wrap64 (-a))) w := by
  go_simp
  exact i64_w _
end
section
variable {P : Program} {C : World → Prop} {n : Nat} {s s' : Sl} {a : Act} {w : World} {ops : Array Oper} {o : Oper} {rest l : List Oper} {F : Act → Prop} {G : Act → World → Prop} {Q : Exit → Act → World → Prop} {c x y z : Code} {v : Value} {x1 x2 x3 : Operand}
/-- A value told otherwise. -/
theorem pv_eq {v' : Value} (h : PV P C n o s v) (e : v = v') : PV P C n o s v' := e ▸ h
theorem pv_bool {b b' : Bool} (h : PV P C n o s (.bool b)) (e : b = b') : PV P C n o s (.bool b') := e ▸ h
theorem pv_call_b {f : FuncId} {fn : Func} {xs : List Operand} {ts : Array TypeId} {args : List Value} (hS : Stab C) (ho : o.op = .call { callee := .value (.func f), args := xs.toArray, argTypes := ts }) (hargs : evs s xs = some args)
    (hf : P.funcs[f]? = some fn) (hname : (fn.name == "runtime.NumGoroutine") = false) (hb : fn.body.isSome = true)
    (h : ∀ w, Calls P f args.toArray w fun e w' => e = .returned v ∧ Below w.heap.size w w') : PV P C n o s v :=
  pv_call ho hargs hf hname hb fun w hw => (h w).mono fun e w' ⟨he, hb⟩ => ⟨he, hS w w' hw hb⟩
theorem below_of_drawn {w w' : World} (h : ∃ n, w' = w.drewN n) : Below w.heap.size w w' := by
  obtain ⟨n, rfl⟩ := h
  exact pw_below_drewN (Below.refl _ _) n
/-- A slot that holds a truth value: both ways. -/
theorem Sim.same {t : Nat} {v v' : Value} (h : Sim n s a) (ht : s t = some v) (e : v = v') : Sim n (E.put s t v') a := by
  subst e
  refine ⟨h.1, h.2.1, fun i u hi => ?_⟩
  unfold E.put at hi
  by_cases e : i = t
  · subst e
    rw [Nat.beq_refl, cond_true] at hi
    cases hi
    exact h.2.2 i _ ht
  · rw [nbeq_ne e, cond_false] at hi
    exact h.2.2 i u hi
theorem wl_split {t : Nat} {b : Bool} (ht : s t = some (.bool b)) (h1 : b = true → WL P C n ops G Q l (put s t (.bool true))) (h2 : b = false → WL P C n ops G Q l (put s t (.bool false))) : WL P C n ops G Q l s := by
  intro a w ha hw
  cases hb : b with
  | true => exact h1 hb a w (ha.same ht (by rw [hb])) hw
  | false => exact h2 hb a w (ha.same ht (by rw [hb])) hw
theorem cw_gen {D : World → Prop} (hS : Stab C) (hD : ∀ w, C w → D w) (h : ∀ C', Stab C' → (∀ w, C' w → D w) → CW P C' n c G Q s) : CW P C n c G Q s := h C hS hD
theorem wl_gen {D : World → Prop} (hS : Stab C) (hD : ∀ w, C w → D w) (h : ∀ C', Stab C' → (∀ w, C' w → D w) → WL P C' n ops G Q l s) : WL P C n ops G Q l s := h C hS hD
theorem bif_t {α : Type} {b : Bool} {x y : α} (h : b = true) : (bif b then x else y) = x := by rw [h]; rfl
theorem bif_f {α : Type} {b : Bool} {x y : α} (h : b = false) : (bif b then x else y) = y := by rw [h]; rfl
end
section
variable {P : Program} {C : World → Prop} {n : Nat} {s s' : Sl} {a : Act} {w : World} {ops : Array Oper} {o : Oper} {rest l : List Oper} {F : Act → Prop} {G : Act → World → Prop} {Q : Exit → Act → World → Prop} {c x y z : Code} {v : Value} {x1 x2 x3 : Operand}
theorem wl_know {t : Nat} {b b' : Bool} (ht : s t = some (.bool b)) (e : b = b') (h : WL P C n ops G Q l (put s t (.bool b'))) : WL P C n ops G Q l s := fun a w ha hw => h a w (ha.same ht (by rw [e])) hw
theorem wq_know {t : Nat} {b b' : Bool} (ht : s t = some (.bool b)) (e : b = b') (h : WQ P C n ops F l (put s t (.bool b'))) : WQ P C n ops F l s := fun a ha => h a (ha.same ht (by rw [e]))
theorem wq_split {t : Nat} {b : Bool} (ht : s t = some (.bool b)) (h1 : b = true → WQ P C n ops F l (put s t (.bool true))) (h2 : b = false → WQ P C n ops F l (put s t (.bool false))) : WQ P C n ops F l s := by
  intro a ha
  cases hb : b with
  | true => exact h1 hb a (ha.same ht (by rw [hb]))
  | false => exact h2 hb a (ha.same ht (by rw [hb]))
/-- The arguments, slot by slot. -/
def argsL : List Value → Nat → List (Nat × Value)
  | [], _ => []
  | v :: r, i => (i, v) :: argsL r (i + 1)
theorem argsL_get : ∀ (l : List Value) (k i : Nat) (v : Value), ofL (argsL l k) i = some v → k ≤ i ∧ l[i - k]? = some v
  | [], _, _, _, h => by cases h
  | u :: r, k, i, v, h => by
    unfold argsL ofL at h
    by_cases e : i = k
    · subst e
      rw [Nat.beq_refl, cond_true] at h
      cases h
      simp
    · rw [nbeq_ne e, cond_false] at h
      obtain ⟨h1, h2⟩ := argsL_get r (k + 1) i v h
      refine ⟨by omega, ?_⟩
      rw [show i - k = (i - (k + 1)) + 1 by omega, List.getElem?_cons_succ]
      exact h2
theorem of_args (l : List Value) (m : List (Nat × Value)) (h : m = argsL l 0) : ∀ i v, ofL m i = some v → l.toArray[i]? = some v := by
  subst h
  intro i v hi
  have := (argsL_get l 0 i v hi).2
  simpa using this
end
section
variable {P : Program} {C : World → Prop} {n : Nat} {s s' : Sl} {a : Act} {w : World} {ops : Array Oper} {o o' : Oper} {rest l : List Oper} {F : Act → Prop} {G : Act → World → Prop} {Q : Exit → Act → World → Prop} {c x y z : Code} {v : Value} {x1 x2 x3 : Operand}
theorem b_eqls {t : TypeId} {p q : ByteArray} (ht : P.underlying t = some .string) : (do eqGuard .eql t x1 x2 (.string p) (.string q); binOp .eql t (.string p) (.string q) : Sem Value).run P w = .ok (.bool (p.toList == q.toList)) w := by
  go_simp
theorem b_neqs {t : TypeId} {p q : ByteArray} (ht : P.underlying t = some .string) : (do eqGuard .neq t x1 x2 (.string p) (.string q); binOp .neq t (.string p) (.string q) : Sem Value).run P w = .ok (.bool (p.toList != q.toList)) w := by
  go_simp
  simp [bne]
theorem pv_neg {b : Int} {t : TypeId} (ho : o.op = .unOp .neg t x1) (h1 : ev s x1 = some (.int .i64 b)) : PV P C n o s (.int .i64 (wrap64 (-b))) := pv_run fun a ha w hw => by
  unfold execOp; simp only [ho]; rw [ha.ev h1]
  show ((Op.unary .neg (.int .i64 b)) >>= fun v => pure (Next.value v)).run P w = _
  simp only [Sem.run_bind, u_neg]; rfl
theorem pv_len {t : TypeId} {A : Option Addr} {m k : Nat} (hu : P.underlying t = some (.slice (P.elem t))) (ho : o.op = .call { callee := .builtin .len, args := [x1].toArray, argTypes := #[t] }) (h1 : ev s x1 = some (.slice A m k)) : PV P C n o s (.int .i64 (m : Int)) := pv_run fun a ha w hw => by
  have h2 := ha.ev h1
  unfold execOp
  have e := run_len_slice w t o.type A m k hu
  simp [ho, resolve, h2, invoke, builtin, e, goInt, Result.andThen]
theorem pv_indexAddr {t : TypeId} {A : Option Addr} {k : Nat} {l : List Int} {i : Int} (hr : ∀ (w : World) (ad : Addr) (m k : Nat) (i : Int), 0 ≤ i → i < m → (Instr.indexAt t (.slice (some ad) m k) (.int .i64 i)).run P w = .ok (.pointer (some (ad.add i.toNat))) w)
    (ho : o.op = .indexAddr t x1 x2) (h1 : ev s x1 = some (.slice A l.length k)) (h2 : ev s x2 = some (.int .i64 i))
    (h0 : 0 ≤ i) (hi : i < l.length) (hC : ∀ w, C w → Kd.C (Kd.int .i64) w A l.length l) : PV P C n o s (.pointer (A.map fun ad => ad.add i.toNat)) := pv_run fun a ha w hw => by
  obtain ⟨ad, rfl, _⟩ := Kd.at_int (hC w hw) i h0 hi
  unfold execOp; simp only [ho]; rw [ha.ev h1, ha.ev h2]
  have := hr w ad l.length k i h0 hi
  show ((Instr.indexAt t (.slice (some ad) l.length k) (.int .i64 i)) >>= fun v => pure (Next.value v)).run P w = _
  simp only [Sem.run_bind, this]; rfl
theorem pv_loadI {t : TypeId} {A : Option Addr} {l : List Int} {i : Int} (hr : ∀ (w : World) (ad : Addr) (v : Int), w.cell? ad = some (.int .i64 v) → (Instr.loadAt t (.pointer (some ad))).run P w = .ok (.int .i64 v) w)
    (ho : o.op = .load t x1) (h1 : ev s x1 = some (.pointer (A.map fun ad => ad.add i.toNat)))
    (h0 : 0 ≤ i) (hi : i < l.length) (hC : ∀ w, C w → Kd.C (Kd.int .i64) w A l.length l) : PV P C n o s (.int .i64 (rd l i)) := pv_load ho h1 fun w hw => by
  obtain ⟨ad, rfl, hc⟩ := Kd.at_int (hC w hw) i h0 hi
  exact hr w (ad.add i.toNat) _ hc
/-- A new variable and its first value. -/
theorem wl_new {d : Nat} {t t2 : TypeId} {u : Value} {cs : Array Value} (hS : Stab C) (hd : o.dst = some d) (hn : Nat.blt d n = true) (hg : o.guard = none) (ho : o.op = .alloc t)
    (hd2 : o'.dst = none) (hg2 : o'.guard = none) (ho2 : o'.op = .store t2 (.tmp d) x1) (hx : ∀ g, ev (put s d (.pointer (some ⟨g, 0, none⟩))) x1 = some u) (cs0 : Array Value)
    (hr : ∀ w, (Instr.alloc t true (.tuple #[])).run P w = .ok (.pointer (some ⟨w.heap.size, 0, none⟩)) (w.alloc (.cells cs0 t)))
    (hr2 : ∀ w, ∃ w', (Instr.storeAt t2 (.pointer (some ⟨w.heap.size, 0, none⟩)) u).run P (w.alloc (.cells cs0 t)) = .ok () w' ∧ Below w.heap.size w w' ∧ w'.heap[w.heap.size]? = some (.cells cs t))
    (h : ∀ g, WL P (fun w => C w ∧ w.heap[g]? = some (.cells cs t)) n ops G Q rest (put s d (.pointer (some ⟨g, 0, none⟩)))) : WL P C n ops G Q (o :: o' :: rest) s := by
  intro a w ha hw
  unfold wpList
  rw [if_pos (by simp [Region.wanted, hg])]
  refine .inl ?_
  have hrun : (execOp a.eval o).run P w = .ok (.value (.pointer (some ⟨w.heap.size, 0, none⟩))) (w.alloc (.cells cs0 t)) := by
    unfold execOp; simp only [ho]
    have := hr w
    show ((Instr.alloc t true (.tuple #[])) >>= fun v => pure (Next.value v)).run P w = _
    simp only [Sem.run_bind, this]; rfl
  unfold Oper.wp
  rw [hrun, Oper.upon_value, hd]
  have ha' := ha.put (v := .pointer (some ⟨w.heap.size, 0, none⟩)) (Nat.le_of_ble_eq_true hn)
  obtain ⟨w', hw1, hw2, hw3⟩ := hr2 w
  show wpList P ops (Exit.then G Q) (o' :: rest) (a.put (some d) _) _
  unfold wpList
  rw [if_pos (by simp [Region.wanted, hg2])]
  refine .inl ?_
  have hrun2 : (execOp (a.put (some d) (.pointer (some ⟨w.heap.size, 0, none⟩))).eval o').run P (w.alloc (.cells cs0 t)) = .ok .skip w' := by
    unfold execOp; simp only [ho2]
    rw [ha'.ev (hx _), ha'.ev (x1 := .tmp d) (v := .pointer (some ⟨w.heap.size, 0, none⟩)) (by show E.put s d _ d = _; unfold E.put; rw [Nat.beq_refl]; rfl)]
    show ((Instr.storeAt t2 (.pointer (some ⟨w.heap.size, 0, none⟩)) u) >>= fun _ => pure Next.skip).run P _ = _
    simp only [Sem.run_bind, hw1]; rfl
  unfold Oper.wp
  rw [hrun2]
  show wpList P ops (Exit.then G Q) rest ((a.put (some d) _).put o'.dst undef) w'
  rw [hd2]
  exact h w.heap.size _ _ ha' ⟨hS w _ hw hw2, hw3⟩
/-- A call whose answer lies in memory: its parts and what is told of them. -/
theorem wl_callR {ι : Type} {d : Nat} {f : FuncId} {fn : Func} {xs : List Operand} {ts : Array TypeId} {args : List Value} (val : ι → Value) (R : ι → World → Prop) (hS : Stab C) (hd : o.dst = some d) (hn : Nat.blt d n = true) (hg : o.guard = none)
    (ho : o.op = .call { callee := .value (.func f), args := xs.toArray, argTypes := ts }) (hargs : evs s xs = some args)
    (hf : P.funcs[f]? = some fn) (hname : (fn.name == "runtime.NumGoroutine") = false) (hb : fn.body.isSome = true)
    (hc : ∀ w, C w → Calls P f args.toArray w fun e w' => ∃ i, e = .returned (val i) ∧ R i w' ∧ Below w.heap.size w w')
    (h : ∀ i, WL P (fun w => C w ∧ R i w) n ops G Q rest (put s d (val i))) : WL P C n ops G Q (o :: rest) s :=
  wl_call (R := fun v w => ∃ i, v = val i ∧ R i w) hS hd hn hg ho hargs hf hname hb
    (fun w hw => (hc w hw).mono fun e w' ⟨i, he, hR, hb⟩ => ⟨_, he, ⟨i, rfl, hR⟩, hb⟩)
    (fun v a w ha hw => by
      obtain ⟨hw1, i, rfl, hR⟩ := hw
      exact h i a w ha ⟨hw1, hR⟩)
theorem pv_call_c {f : FuncId} {fn : Func} {xs : List Operand} {ts : Array TypeId} {args : List Value} (hS : Stab C) (ho : o.op = .call { callee := .value (.func f), args := xs.toArray, argTypes := ts }) (hargs : evs s xs = some args)
    (hf : P.funcs[f]? = some fn) (hname : (fn.name == "runtime.NumGoroutine") = false) (hb : fn.body.isSome = true)
    (h : ∀ w, C w → Calls P f args.toArray w fun e w' => e = .returned v ∧ Below w.heap.size w w') : PV P C n o s v :=
  pv_call ho hargs hf hname hb fun w hw => (h w hw).mono fun e w' ⟨he, hb⟩ => ⟨he, hS w w' hw hb⟩
theorem GS.mono {C' : World → Prop} (h : GS C n G s) (hC : ∀ w, C' w → C w) : GS C' n G s := fun a w ha hw => h a w ha (hC w hw)
theorem stab_const (p : Prop) : Stab (fun _ => p) := fun w w' hw hb => hw
theorem stab_row {A : Option Addr} {l : List Int} : Stab (fun w => Kd.C (Kd.int .i64) w A l.length l) := fun w w' hw hb => Kd.C_below hw hb
end
section
variable {P : Program} {C : World → Prop} {n : Nat} {s s' : Sl} {a : Act} {w : World} {ops : Array Oper} {o o' : Oper} {rest l : List Oper} {F : Act → Prop} {G : Act → World → Prop} {Q : Exit → Act → World → Prop} {c x y z : Code} {v : Value} {x1 x2 x3 : Operand}
/-! ### blocks, exits, loops -/
theorem then_inBlock {id : Nat} : Exit.then G (Exit.inBlock id (Exit.then G Q)) = Exit.inBlock id (Exit.then G Q) := by
  funext e a w; cases e <;> rfl
/-- A block: in it the exit to it leads to what follows, every other one to where it led. -/
theorem cw_block {id : Nat} (h : ∀ Q' : Exit → Act → World → Prop, (∀ a w, Q .ret a w → Q' .ret a w) → (∀ k a w, k ≠ id → Q (.exit k) a w → Q' (.exit k) a w) → (∀ a w, G a w → Q' (.exit id) a w) → CW P C n c G Q' s) : CW P C n (.block id c) G Q s := by
  intro a w ha hw
  refine wp_block ?_
  have := h (Exit.inBlock id (Exit.then G Q)) (fun a w h => h) (fun k a w hk h => by
    show if k = id then _ else _
    rw [if_neg hk]; exact h) (fun a w h => by
    show if id = id then _ else _
    rw [if_pos rfl]; exact h) a w ha hw
  rw [then_inBlock] at this
  exact this
theorem cw_exit {id : Nat} {G' : Act → World → Prop} (hX : ∀ a w, G' a w → Q (.exit id) a w) (h : GS C n G' s) : CW P C n (.exit id) G Q s := fun a w ha hw => wp_exit (hX a w (h a w ha hw))
/-- A loop: J holds of what its rounds carry, each round lowers μ. -/
theorem cw_loop {σ : Type} (J : σ → Prop) (st : σ → Sl) (μ : σ → Nat) (x0 : σ) (hx : J x0) (hs : Sub (st x0) s)
    (h : ∀ x, J x → ∀ G' : Act → World → Prop, (∀ x', J x' → μ x' < μ x → GS C n G' (st x')) → CW P C n c G' Q (st x)) : CW P C n (.loop c) G Q s := by
  intro a w ha hw
  refine wp_loop_ghost (fun k a w => ∃ x, J x ∧ μ x = k ∧ Sim n (st x) a ∧ C w) (μ x0) ⟨x0, hx, rfl, ha.sub hs, hw⟩ ?_
  rintro k a w ⟨x, hJ, rfl, ha, hw⟩
  have := h x hJ (fun a' w' => ∃ n', n' < μ x ∧ ∃ x, J x ∧ μ x = n' ∧ Sim n (st x) a' ∧ C w') (fun x' hJ' hlt a w ha hw => ⟨μ x', hlt, x', hJ', rfl, ha, hw⟩) a w ha hw
  refine wp_mono this ?_
  intro e a w hq
  cases e <;> exact hq
/-- A law's end inside blocks. -/
theorem cw_ret_true' {fn : Func} {t : Nat} {w0 : World} {R : Exit → Act → World → Prop} (hR : ∀ a w, bodyPost P fn (fun e w' => e = .returned (.bool true) ∧ Below w0.heap.size w0 w') .ret a w → Q .ret a w) (hr : fn.results = #[.tmp t]) (ht : s t = some (.bool true)) (hC : ∀ w, C w → Below w0.heap.size w0 w) :
    CW P C n .ret G Q s := cw_ret fun a w ha hw => by
  refine hR a w (bodyPost_ret (v := .bool true) ?_ ha.1 ⟨rfl, hC w hw⟩)
  rw [results_tmp hr]
  have := ha.2.2 t _ ht
  rw [Array.getD_eq_getD_getElem?, this]; rfl

/-! ### rows of rows -/
/-- A row of rows that is read; hd: where each row lies, how far its array goes. -/
def RR (e : Nat) (w : World) (A : Option Addr) (hd : Nat → Option Addr × Nat) (xss : List (List Int)) : Prop :=
  Kd.C (Kd.slice e (Kd.int .i64)) w A xss.length xss ∧ ∀ i : Nat, i < xss.length → ∃ ad, A = some ad ∧ w.cell? (ad.add i) = some (.slice (hd i).1 (xss.getD i []).length (hd i).2) ∧ Kd.C (Kd.int .i64) w (hd i).1 (xss.getD i []).length (xss.getD i []) ∧ (xss.getD i []).length ≤ (hd i).2
theorem rr_of {e : Nat} {A : Option Addr} {xss : List (List Int)} (h : Kd.C (Kd.slice e (Kd.int .i64)) w A xss.length xss) : ∃ hd, RR e w A hd xss := by
  have key : ∀ i : Nat, ∃ q : Option Addr × Nat, i < xss.length → ∃ ad, A = some ad ∧ w.cell? (ad.add i) = some (.slice q.1 (xss.getD i []).length q.2) ∧ Kd.C (Kd.int .i64) w q.1 (xss.getD i []).length (xss.getD i []) ∧ (xss.getD i []).length ≤ q.2 := by
    intro i
    by_cases hi : i < xss.length
    · obtain ⟨ad, c, hA, hl, ⟨B, k, hc, hk, hr⟩, hcell⟩ := Kd.C_get h [] (i : Int) (by omega) (by omega)
      rw [Int.toNat_natCast] at hc hk hr hcell
      refine ⟨(B, k), fun _ => ⟨ad, hA, ?_, hr, hk⟩⟩
      have := hcell 0 _ (by rw [hc]; rfl)
      simpa [Kd.slice] using this
    · exact ⟨(none, 0), fun h => absurd h hi⟩
  exact ⟨fun i => (key i).choose, h, fun i hi => (key i).choose_spec hi⟩
theorem rr_reads {α : Type} {d : Kd α} {e base : Nat} {ok : Nat → Prop} {v : Value} {xs : List α} (h : d.R e w base ok v xs ∨ Kd.S d e w base ok v xs ∨ Kd.N d e w base ok v xs) : ∃ A c, v = .slice A xs.length c ∧ xs.length ≤ c ∧ d.C w A xs.length xs := by
  rcases h with h | h | h
  · exact Kd.R_reads h
  · exact Kd.S_reads h
  · exact Kd.N_reads h
theorem stab_rr {e : Nat} {A : Option Addr} {hd : Nat → Option Addr × Nat} {xss : List (List Int)} : Stab (fun w => RR e w A hd xss) := fun w w' hw hb => ⟨Kd.C_below hw.1 hb, fun i hi => by
  obtain ⟨ad, h1, h2, h3, h4⟩ := hw.2 i hi
  exact ⟨ad, h1, (hb.cell (World.block_lt_of_cell? w _ h2)).trans h2, Kd.C_below h3 hb, h4⟩⟩
theorem pv_indexAddrR {t : TypeId} {A : Option Addr} {k e : Nat} {hd : Nat → Option Addr × Nat} {l : List (List Int)} {i : Int} (hr : ∀ (w : World) (ad : Addr) (m k : Nat) (i : Int), 0 ≤ i → i < m → (Instr.indexAt t (.slice (some ad) m k) (.int .i64 i)).run P w = .ok (.pointer (some (ad.add i.toNat))) w)
    (ho : o.op = .indexAddr t x1 x2) (h1 : ev s x1 = some (.slice A l.length k)) (h2 : ev s x2 = some (.int .i64 i))
    (h0 : 0 ≤ i) (hi : i < l.length) (hC : ∀ w, C w → RR e w A hd l) : PV P C n o s (.pointer (A.map fun ad => ad.add i.toNat)) := pv_run fun a ha w hw => by
  obtain ⟨ad, rfl, _⟩ := (hC w hw).2 i.toNat (by omega)
  unfold execOp; simp only [ho]; rw [ha.ev h1, ha.ev h2]
  have := hr w ad l.length k i h0 hi
  show ((Instr.indexAt t (.slice (some ad) l.length k) (.int .i64 i)) >>= fun v => pure (Next.value v)).run P w = _
  simp only [Sem.run_bind, this]; rfl
theorem pv_loadR {t : TypeId} {A : Option Addr} {e : Nat} {hd : Nat → Option Addr × Nat} {l : List (List Int)} {i : Int} (hr : ∀ (w : World) (ad : Addr) (B : Option Addr) (m k : Nat), w.cell? ad = some (.slice B m k) → (Instr.loadAt t (.pointer (some ad))).run P w = .ok (.slice B m k) w)
    (ho : o.op = .load t x1) (h1 : ev s x1 = some (.pointer (A.map fun ad => ad.add i.toNat)))
    (h0 : 0 ≤ i) (hi : i < l.length) (hC : ∀ w, C w → RR e w A hd l) : PV P C n o s (.slice (hd i.toNat).1 (l.getD i.toNat []).length (hd i.toNat).2) := pv_load ho h1 fun w hw => by
  obtain ⟨ad, rfl, hc, _⟩ := (hC w hw).2 i.toNat (by omega)
  exact hr w (ad.add i.toNat) _ _ _ hc
theorem rr_row {A : Option Addr} {e : Nat} {hd : Nat → Option Addr × Nat} {l : List (List Int)} {i : Int} (h0 : 0 ≤ i) (hi : i < l.length) (h : RR e w A hd l) : Kd.C (Kd.int .i64) w (hd i.toNat).1 (l.getD i.toNat []).length (l.getD i.toNat []) ∧ (l.getD i.toNat []).length ≤ (hd i.toNat).2 := by
  obtain ⟨ad, _, _, h3, h4⟩ := h.2 i.toNat (by omega)
  exact ⟨h3, h4⟩
/-! ### rows that a literal makes -/
theorem wanted_none (hg : o.guard = none) : ∀ a, Sim n s a → Region.wanted o (yielded ops a.tmps) = true := fun a ha => by simp [Region.wanted, hg]
theorem wanted_yes {j t : Nat} {g b : Bool} (hg : o.guard = some (j, g)) (hj : (ops[j]?).bind (·.dst) = some t) (ht : s t = some (.bool b)) (hb : b = g) : ∀ a, Sim n s a → Region.wanted o (yielded ops a.tmps) = true := fun a ha => by
  subst hb; simp [Region.wanted, hg, yield_of ha hj ht]
theorem row_of_cells {w : World} {b e : Nat} {l : List Int} (hb : w.heap[b]? = some (.cells (l.map (Value.int .i64)).toArray e)) (hl : l.length ≤ 1000) : Kd.C (Kd.int .i64) w (some ⟨b, 0, none⟩) l.length l := by
  refine ⟨rfl, by omega, fun _ => ⟨⟨b, 0, none⟩, rfl, fun j p hj => ⟨[.int .i64 p], rfl, rfl, fun i u hu => ?_⟩⟩⟩
  cases i with
  | zero =>
    cases hu
    have e : (⟨b, 0, none⟩ : Addr).add (j * 1 + 0) = ⟨b, j, none⟩ := by unfold Addr.add; simp; omega
    show w.cell? ((⟨b, 0, none⟩ : Addr).add (j * 1 + 0)) = _
    rw [e, blk_cell hb j]
    simp [hj]
  | succ i => simp at hu
theorem wl_buildInts {d e : Nat} {t : TypeId} {m : Nat} {ps : Array (Nat × Operand)} {vs : Array (Nat × Value)} (l : List Int) (hS : Stab C) (hw : ∀ a, Sim n s a → Region.wanted o (yielded ops a.tmps) = true) (hd : o.dst = some d) (hn : Nat.blt d n = true)
    (ho : o.op = .buildSlice t m ps) (hv : ∀ a, Sim n s a → ps.map (fun x => (x.1, a.eval x.2)) = vs)
    (hr : ∀ w, (Instr.buildSlice t m vs).run P w = .ok (.slice (some ⟨w.heap.size, 0, none⟩) m m) (w.alloc (.cells (l.map (Value.int .i64)).toArray e))) (hm : l.length = m) (hl : l.length ≤ 1000)
    (h : ∀ g : Nat, WL P (fun w => C w ∧ (Kd.C (Kd.int .i64) w (some ⟨g, 0, none⟩) l.length l ∧ l.length ≤ m)) n ops G Q rest (put s d (.slice (some ⟨g, 0, none⟩) l.length m))) : WL P C n ops G Q (o :: rest) s := by
  intro a w ha hC
  unfold wpList
  rw [if_pos (hw a ha)]
  refine .inl ?_
  have hrun : (execOp a.eval o).run P w = .ok (.value (.slice (some ⟨w.heap.size, 0, none⟩) l.length m)) (w.alloc (.cells (l.map (Value.int .i64)).toArray e)) := by
    unfold execOp; simp only [ho]
    show ((Instr.buildSlice t m (ps.map (fun x => (x.1, a.eval x.2)))) >>= fun v => pure (Next.value v)).run P w = _
    rw [hv a ha]
    simp only [Sem.run_bind, hr w, hm]; rfl
  unfold Oper.wp
  rw [hrun, Oper.upon_value, hd]
  exact h w.heap.size _ _ (ha.put (Nat.le_of_ble_eq_true hn)) ⟨hS w _ hC (below_alloc (Below.refl _ _) _), row_of_cells (blk_new w _) hl, Nat.le_of_eq hm⟩
theorem b_quo {t : TypeId} {p q : Int} {w : World} (ht : P.underlying t = some (.int .i64)) (hq : q ≠ 0) : (do eqGuard .quo t x1 x2 (.int .i64 p) (.int .i64 q); binOp .quo t (.int .i64 p) (.int .i64 q) : Sem Value).run P w = .ok (.int .i64 (wrap64 (Int.tdiv p q))) w := by
  go_simp
  exact i64_w _
end
end Go.Proofs.Ytlajkepgmmfbhaa.E
