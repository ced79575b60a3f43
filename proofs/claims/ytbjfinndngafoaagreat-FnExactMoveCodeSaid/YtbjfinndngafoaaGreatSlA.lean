/-
  A small step calculus for calls of one goroutine: what stands in a frame's slots is a list of pairs; what is left to do is the machine's own list of items.
-/
import Derived.Calls
import Derived.Orders
import Derived.WalkKit
set_option linter.unusedVariables false
set_option linter.unusedSimpArgs false
namespace Go.Proofs.YtbjfinndngafoaaGreat
open Go.RowKit
abbrev Env := List (Nat × Value)
def look : Env → Nat → Option Value
  | [], _ => none
  | (s, v) :: r, t => bif Nat.beq s t then some v else look r t
def ev (e : Env) : Operand → Option Value
  | .tmp t => look e t
  | .const v => some v
  | .global g => some (.pointer (some ⟨g, 0, none⟩))
  | .func f => some (.func (.func f) #[] #[])
def evs (e : Env) : List Operand → Option (List Value)
  | [] => some []
  | x :: r => (ev e x).bind fun v => (evs e r).map (v :: ·)
structure Sat (N : Nat) (e : Env) (a : Act) : Prop where
  defers : a.defers = []
  size : a.tmps.size = N
  at_ : ∀ t v, look e t = some v → a.tmps[t]? = some v
theorem Sat.getD {N : Nat} {e : Env} {a : Act} (h : Sat N e a) {t : Nat} {v : Value} (ht : look e t = some v) : a.tmps.getD t undef = v := by
  rw [Array.getD_eq_getD_getElem?, h.at_ t v ht]; rfl
theorem Sat.ev {N : Nat} {e : Env} {a : Act} (h : Sat N e a) {x : Operand} {v : Value} (hx : ev e x = some v) : a.eval x = v := by
  cases x with
  | tmp t => exact h.getD hx
  | const u => exact Option.some.inj hx
  | global g => exact Option.some.inj hx
  | func f => exact Option.some.inj hx
theorem Sat.evs {N : Nat} {e : Env} {a : Act} (h : Sat N e a) : ∀ {xs : List Operand} {vs : List Value}, evs e xs = some vs → xs.map a.eval = vs
  | [], vs, hx => by cases hx; rfl
  | x :: r, vs, hx => by
    unfold Go.Proofs.YtbjfinndngafoaaGreat.evs at hx
    cases hv : Go.Proofs.YtbjfinndngafoaaGreat.ev e x with
    | none => rw [hv] at hx; cases hx
    | some v =>
      rw [hv] at hx
      cases hr : Go.Proofs.YtbjfinndngafoaaGreat.evs e r with
      | none => rw [hr] at hx; cases hx
      | some us =>
        rw [hr] at hx
        cases hx
        rw [List.map_cons, h.ev hv, h.evs hr]
theorem Sat.put {N : Nat} {e : Env} {a : Act} (h : Sat N e a) {d : Nat} (hd : Nat.blt d N = true) (v : Value) : Sat N ((d, v) :: e) (a.put (some d) v) := by
  have hd' : d < N := Nat.le_of_ble_eq_true hd
  refine ⟨h.defers, ?_, fun t u ht => ?_⟩
  · simp [Act.put, h.size]
  · simp only [look] at ht
    by_cases hdt : d = t
    · subst hdt
      simp at ht
      simp [Act.put, h.size, hd', ht]
    · have hb : Nat.beq d t = false := by
        cases hc : Nat.beq d t with
        | false => rfl
        | true => exact absurd (Nat.eq_of_beq_eq_true hc) hdt
      rw [hb] at ht
      have := h.at_ t u ht
      simp [Act.put, Array.getElem?_setIfInBounds_ne hdt, this]
def Cov (e : Env) : Env → Prop
  | [] => True
  | p :: r => look e p.1 = some p.2 ∧ Cov e r
theorem Cov.look {e : Env} : ∀ {e' : Env}, Cov e e' → ∀ t v, look e' t = some v → look e t = some v
  | [], _, _, _, h => by cases h
  | p :: r, hc, t, v, h => by
    simp only [Go.Proofs.YtbjfinndngafoaaGreat.look] at h
    cases hb : Nat.beq p.1 t with
    | true =>
      rw [hb] at h
      have : p.1 = t := Nat.eq_of_beq_eq_true hb
      subst this
      cases h
      exact hc.1
    | false =>
      rw [hb] at h
      exact Cov.look hc.2 t v h
theorem Sat.weak {N : Nat} {e e' : Env} {a : Act} (h : Sat N e a) (hc : Cov e e') : Sat N e' a := ⟨h.defers, h.size, fun t v ht => h.at_ t v (hc.look t v ht)⟩
def Cont (P : Program) (f : FuncId) (k : List Item) (R : Ending → World → Prop) (a : Act) (w : World) : Prop :=
  ∀ (b : Frame) (cs : List Frame), b.fn = f → b.kind = .normal → ∃ en w' fr, R en w' ∧ Comes P (lone (b.at a k) cs w) (lone fr cs w') en ∧ fr.fn = f ∧ fr.leaving P w' en
def G (P : Program) (f : FuncId) (N : Nat) (e : Env) (k : List Item) (w : World) (R : Ending → World → Prop) : Prop := ∀ a, Sat N e a → Cont P f k R a w
def GO (P : Program) (N : Nat) (ops : Array Oper) (l : List Nat) (e : Env) (w : World) (Q : Act → World → Prop) : Prop :=
  ∀ a, Sat N e a → wpOps P ops (fun en a' w' => en = .normal ∧ Q a' w') l a w
section
variable {P : Program} {f : FuncId} {N : Nat} {e : Env} {k : List Item} {w : World} {R : Ending → World → Prop} {ops : Array Oper} {l : List Nat} {Q : Act → World → Prop}
theorem Cont.step {k' : List Item} {a : Act} (h : ∀ (b : Frame) (cs : List Frame), step P (lone (b.at a k) cs w) = .next (lone (b.at a k') cs w)) (g : Cont P f k' R a w) : Cont P f k R a w := by
  intro b cs hb hk
  obtain ⟨en, w', fr, hR, hc, hf, hl⟩ := g b cs hb hk
  exact ⟨en, w', fr, hR, Comes.of_steps (.one (h b cs)) hc, hf, hl⟩
theorem G.step {k' : List Item} (h : ∀ (a : Act) (b : Frame) (cs : List Frame), Go.step P (lone (b.at a k) cs w) = .next (lone (b.at a k') cs w)) (g : G P f N e k' w R) : G P f N e k w R :=
  fun a hs => Cont.step (h a) (g a hs)
theorem G.weak {e' : Env} (hc : Cov e e') (g : G P f N e' k w R) : G P f N e k w R := fun a hs => g a (hs.weak hc)
theorem G.seq {x y : Code} (g : G P f N e (.code x :: .code y :: k) w R) : G P f N e (.code (.seq x y) :: k) w R := G.step (fun _ _ _ => step_seq) g
theorem G.skip (g : G P f N e k w R) : G P f N e (.code .skip :: k) w R := G.step (fun _ _ _ => step_skip) g
theorem G.block {id : Nat} {c : Code} (g : G P f N e (.code c :: .inBlock id :: k) w R) : G P f N e (.code (.block id c) :: k) w R := G.step (fun _ _ _ => step_block) g
theorem G.blockEnd {id : Nat} (g : G P f N e k w R) : G P f N e (.inBlock id :: k) w R := G.step (fun _ _ _ => step_inBlock) g
theorem G.loop {c : Code} (g : G P f N e (.code c :: .inLoop c :: k) w R) : G P f N e (.code (.loop c) :: k) w R := G.step (fun _ _ _ => step_loop) g
theorem G.again {c : Code} (g : G P f N e (.code c :: .inLoop c :: k) w R) : G P f N e (.inLoop c :: k) w R := G.step (fun _ _ _ => step_inLoop) g
theorem G.exit {id : Nat} {k' : List Item} (h : exitTo id k = some k') (g : G P f N e k' w R) : G P f N e (.code (.exit id) :: k) w R := G.step (fun _ _ _ => step_exit h) g
theorem G.cond {c : Operand} {x y : Code} (t : Bool) (h : ev e c = some (.bool t)) (g : G P f N e (.code (bif t then x else y) :: k) w R) : G P f N e (.code (.cond c x y) :: k) w R := fun a hs =>
  Cont.step (fun _ _ => step_cond (hs.ev h)) (by have := g a hs; cases t <;> exact this)
theorem G.yes {c : Operand} {x y : Code} (h : ev e c = some (.bool true)) (g : G P f N e (.code x :: k) w R) : G P f N e (.code (.cond c x y) :: k) w R := G.cond true h g
theorem G.no {c : Operand} {x y : Code} (h : ev e c = some (.bool false)) (g : G P f N e (.code y :: k) w R) : G P f N e (.code (.cond c x y) :: k) w R := G.cond false h g
theorem Cont.ret {a : Act} {fn : Func} {v : Value} (hf : P.funcs[f]? = some fn) (hd : a.defers = []) (hr : (results fn a.tmps).run P w = .ok v w) (hR : R (.returned v) w) : Cont P f (.code .ret :: k) R a w := by
  intro b cs hb hk
  refine ⟨.returned v, w, { b.at a (.code .ret :: k) with mode := .returning }, hR, .one step_ret, hb, ?_⟩
  exact ⟨rfl, hd, hk, fn, by rw [← hb] at hf; exact hf, hr⟩
theorem Cont.end_ {a : Act} {fn : Func} {v : Value} (hf : P.funcs[f]? = some fn) (hd : a.defers = []) (hr : (results fn a.tmps).run P w = .ok v w) (hR : R (.returned v) w) : Cont P f [] R a w := by
  intro b cs hb hk
  refine ⟨.returned v, w, { b.at a [] with mode := .returning }, hR, .one step_end, hb, ?_⟩
  exact ⟨rfl, hd, hk, fn, by rw [← hb] at hf; exact hf, hr⟩
theorem G.end0 {fn : Func} (hf : P.funcs[f]? = some fn) (hn : fn.results = #[]) (hR : R (.returned (.tuple #[])) w) : G P f N e [] w R := fun a hs =>
  Cont.end_ hf hs.defers (results_none hn _ _ _) hR
def Res1 (P : Program) (w : World) (e : Env) (r : ResultVar) (v : Value) : Prop :=
  match r with
  | .tmp t => look e t = some v
  | .cell t ty => ∃ ad, look e t = some (.pointer (some ad)) ∧ (loadVar ty ad).run P w = .ok v w
def resRun (tmps : Array Value) : ResultVar → Sem Value
  | .tmp t => pure (tmps.getD t undef)
  | .cell a t => do loadVar t (← asAddr (tmps.getD a undef))
theorem run_res1 {a : Act} (hs : Sat N e a) {r : ResultVar} {v : Value} (h : Res1 P w e r v) : (resRun a.tmps r).run P w = .ok v w := by
  cases r with
  | tmp t =>
    have h' : look e t = some v := h
    show Sem.run P (pure (a.tmps.getD t undef)) w = _
    rw [hs.getD h']
    rfl
  | cell x t =>
    obtain ⟨ad, h1, h2⟩ := h
    show Sem.run P (do loadVar t (← asAddr (a.tmps.getD x undef))) w = _
    rw [hs.getD h1]
    exact h2
theorem results_eq (fn : Func) (tmps : Array Value) : results fn tmps = (do let vs ← fn.results.mapM (resRun tmps); pure (if h : vs.size = 1 then vs[0] else .tuple vs)) := by
  exact congrArg (fun g : ResultVar → Sem Value => (do let vs ← fn.results.mapM g; pure (if h : vs.size = 1 then vs[0] else .tuple vs) : Sem Value)) (funext fun r => by cases r <;> rfl)
theorem run_results1 {a : Act} (hs : Sat N e a) {fn : Func} {r : ResultVar} {v : Value} (hn : fn.results = #[r]) (h : Res1 P w e r v) : (results fn a.tmps).run P w = .ok v w := by
  rw [results_eq, hn]
  simp [run_res1 hs h]
theorem run_results2 {a : Act} (hs : Sat N e a) {fn : Func} {r s : ResultVar} {v u : Value} (hn : fn.results = #[r, s]) (h : Res1 P w e r v) (h2 : Res1 P w e s u) : (results fn a.tmps).run P w = .ok (.tuple #[v, u]) w := by
  rw [results_eq, hn]
  simp [run_res1 hs h, run_res1 hs h2]
theorem run_results3 {a : Act} (hs : Sat N e a) {fn : Func} {r s t : ResultVar} {v u x : Value} (hn : fn.results = #[r, s, t]) (h : Res1 P w e r v) (h2 : Res1 P w e s u) (h3 : Res1 P w e t x) : (results fn a.tmps).run P w = .ok (.tuple #[v, u, x]) w := by
  rw [results_eq, hn]
  simp [run_res1 hs h, run_res1 hs h2, run_res1 hs h3]
def Stop (k : List Item) : Bool := match k with
  | [] => true
  | .code .ret :: _ => true
  | _ => false
theorem Cont.stop {a : Act} {fn : Func} {v : Value} (hk : Stop k = true) (hf : P.funcs[f]? = some fn) (hd : a.defers = []) (hr : (results fn a.tmps).run P w = .ok v w) (hR : R (.returned v) w) : Cont P f k R a w := by
  match k, hk with
  | [], _ => exact Cont.end_ hf hd hr hR
  | .code .ret :: _, _ => exact Cont.ret hf hd hr hR
theorem G.ret1 {fn : Func} {r : ResultVar} (v : Value) (hf : P.funcs[f]? = some fn) (hn : fn.results = #[r]) (h : Res1 P w e r v) (hR : R (.returned v) w) (hk : Stop k = true := by rfl) : G P f N e k w R := fun a hs =>
  Cont.stop hk hf hs.defers (run_results1 hs hn h) hR
theorem G.ret2 {fn : Func} {r s : ResultVar} (v u : Value) (hf : P.funcs[f]? = some fn) (hn : fn.results = #[r, s]) (h : Res1 P w e r v) (h2 : Res1 P w e s u) (hR : R (.returned (.tuple #[v, u])) w) (hk : Stop k = true := by rfl) : G P f N e k w R := fun a hs =>
  Cont.stop hk hf hs.defers (run_results2 hs hn h h2) hR
theorem G.ret3 {fn : Func} {r s t : ResultVar} (v u x : Value) (hf : P.funcs[f]? = some fn) (hn : fn.results = #[r, s, t]) (h : Res1 P w e r v) (h2 : Res1 P w e s u) (h3 : Res1 P w e t x) (hR : R (.returned (.tuple #[v, u, x])) w) (hk : Stop k = true := by rfl) : G P f N e k w R := fun a hs =>
  Cont.stop hk hf hs.defers (run_results3 hs hn h h2 h3) hR
theorem Cont.region {id : Nat} {a : Act} (h : wpOps P ops (fun en a' w' => en = .normal ∧ Cont P f k R a' w') (List.range ops.size) a w) : Cont P f (.code (.region id ops false) :: k) R a w := by
  intro b cs hb hk
  obtain ⟨en, a', w', ⟨hq, hc⟩, har⟩ := wp_region (id := id) h b k cs
  subst hq
  obtain ⟨en, w2, fr, hR, hcm, hf, hl⟩ := hc b cs hb hk
  exact ⟨en, w2, fr, hR, Comes.of_steps har hcm, hf, hl⟩
theorem G.region {id : Nat} (g : GO P N ops (List.range ops.size) e w (Cont P f k R)) : G P f N e (.code (.region id ops false) :: k) w R := fun a hs => Cont.region (g a hs)
theorem GO.fin (g : ∀ a, Sat N e a → Q a w) : GO P N ops [] e w Q := fun a hs => ⟨rfl, g a hs⟩
theorem GO.nil (g : G P f N e k w R) : GO P N ops [] e w (Cont P f k R) := fun a hs => ⟨rfl, g a hs⟩
theorem GO.val {i : Nat} {rest : List Nat} {o : Oper} {w' : World} {d : Nat} (v : Value) (ho : ops[i]? = some o) (hg : o.guard = none) (hd : o.dst = some d) (hN : Nat.blt d N = true)
    (hrun : ∀ a, Sat N e a → (execOp a.eval o).run P w = .ok (.value v) w') (g : GO P N ops rest ((d, v) :: e) w' Q) : GO P N ops (i :: rest) e w Q := by
  intro a hs
  have hw : Region.wanted o (yielded ops a.tmps) = true := by simp [Region.wanted, hg]
  simp only [wpOps, ho, hw, if_true]
  refine .inl ?_
  unfold Oper.wp
  rw [hrun a hs]
  simp only [Oper.upon, hd]
  exact g _ (hs.put hN v)
theorem GO.act {i : Nat} {rest : List Nat} {o : Oper} {w' : World} (v : Value) (ho : ops[i]? = some o) (hg : o.guard = none) (hd : o.dst = none)
    (hrun : ∀ a, Sat N e a → (execOp a.eval o).run P w = .ok (.value v) w') (g : GO P N ops rest e w' Q) : GO P N ops (i :: rest) e w Q := by
  intro a hs
  have hw : Region.wanted o (yielded ops a.tmps) = true := by simp [Region.wanted, hg]
  simp only [wpOps, ho, hw, if_true]
  refine .inl ?_
  unfold Oper.wp
  rw [hrun a hs]
  simp only [Oper.upon, hd]
  exact g _ hs
theorem GO.skipAct {i : Nat} {rest : List Nat} {o : Oper} {w' : World} (ho : ops[i]? = some o) (hg : o.guard = none) (hd : o.dst = none)
    (hrun : ∀ a, Sat N e a → (execOp a.eval o).run P w = .ok .skip w') (g : GO P N ops rest e w' Q) : GO P N ops (i :: rest) e w Q := by
  intro a hs
  have hw : Region.wanted o (yielded ops a.tmps) = true := by simp [Region.wanted, hg]
  simp only [wpOps, ho, hw, if_true]
  refine .inl ?_
  unfold Oper.wp
  rw [hrun a hs]
  simp only [Oper.upon, hd]
  exact g _ hs
def gdst (ops : Array Oper) (j : Nat) : Option Nat := (ops[j]?).bind (·.dst)
theorem GO.off {i : Nat} {rest : List Nat} {o : Oper} {d j t : Nat} {b : Bool} (ho : ops[i]? = some o) (hg : o.guard = some (j, b)) (hj : gdst ops j = some t) (hb : look e t = some (.bool (!b))) (hd : o.dst = some d) (hN : Nat.blt d N = true)
    (g : GO P N ops rest ((d, undef) :: e) w Q) : GO P N ops (i :: rest) e w Q := by
  intro a hs
  have hw : Region.wanted o (yielded ops a.tmps) = false := by
    have h1 := hs.at_ t _ hb
    have h2 : (ops[j]?).bind (·.dst) = some t := hj
    simp only [Region.wanted, hg, yielded, h2]
    cases b <;> simp [h1]
  simp only [wpOps, ho, hw, hd]
  exact g _ (hs.put hN undef)
theorem GO.call {i : Nat} {rest : List Nat} {o : Oper} {d h : Nat} {vs : Array Value} {w1 : World} {R1 : Ending → World → Prop} (ho : ops[i]? = some o) (hg : o.guard = none) (hd : o.dst = some d) (hN : Nat.blt d N = true)
    (hrun : ∀ a, Sat N e a → (execOp a.eval o).run P w = .ok (.enter h vs) w1) (hc : Calls P h vs w1 R1) (hr : ∀ en w2, R1 en w2 → ∃ v, en = .returned v ∧ GO P N ops rest ((d, v) :: e) w2 Q) : GO P N ops (i :: rest) e w Q := by
  intro a hs
  have hw : Region.wanted o (yielded ops a.tmps) = true := by simp [Region.wanted, hg]
  simp only [wpOps, ho, hw, if_true]
  refine .inl ?_
  unfold Oper.wp
  rw [hrun a hs]
  simp only [Oper.upon, hd]
  refine hc.mono fun en w2 h2 => ?_
  obtain ⟨v, rfl, g⟩ := hr en w2 h2
  exact g _ (hs.put hN v)
def upd (b : Nat → Bool) (j : Nat) : Nat → Bool := fun i => bif Nat.beq i j then true else b i
theorem upd_self (b : Nat → Bool) (j : Nat) : upd b j j = true := by simp [upd]
theorem upd_ne (b : Nat → Bool) {i j : Nat} (h : i ≠ j) : upd b j i = b i := by simp [upd, h]
def needs (ops : Array Oper) (j : Nat) : List Nat := match ops[j]? with
  | some o => (o.after.toList.filter (Region.binds .any ·)).map (·.on)
  | none => []
def forward (ops : Array Oper) : Bool := (List.range ops.size).all fun j => (needs ops j).all fun i => Nat.blt i j
theorem mem_needs {o : Oper} {j : Nat} (ho : ops[j]? = some o) (p : Nat → Bool) : (o.after.all fun ed => !Region.binds .any ed || p ed.on) = (needs ops j).all p := by
  unfold needs
  rw [ho, ← Array.all_toList]
  simp only
  induction o.after.toList with
  | nil => rfl
  | cons x r ih =>
    rw [List.all_cons, ih, List.filter_cons]
    cases h : Region.binds .any x <;> simp
theorem any_all (I : (Nat → Bool) → Act → World → Prop) (hfw : forward ops = true)
    (hstep : ∀ j, j < ops.size → ∀ b a w, I b a w → b j = false → (∀ i ∈ needs ops j, b i = true) → (∀ m, m < ops.size → b m = true → ∀ i ∈ needs ops m, b i = true) → wpOps P ops (fun en a' w' => en = .normal ∧ I (upd b j) a' w') [j] a w)
    {Q : Exit → Act → World → Prop} (hend : ∀ b a w, (∀ j, j < ops.size → b j = true) → I b a w → Q .normal a w) :
    ∀ (m : Nat) (listed : Array Bool) (b : Nat → Bool) (a : Act) (w : World), listed.size = ops.size → (∀ j, j < ops.size → listed.getD j true = b j) → (∀ m, m < ops.size → b m = true → ∀ i ∈ needs ops m, b i = true) → ((List.range ops.size).filter fun j => !b j).length = m → I b a w → wpAny P .any ops Q m listed a w := by
  have hready : ∀ (listed : Array Bool) (b : Nat → Bool), listed.size = ops.size → (∀ j, j < ops.size → listed.getD j true = b j) → ∀ j, j ∈ Region.ready .any ops listed ↔ j < ops.size ∧ b j = false ∧ ∀ i ∈ needs ops j, b i = true := by
    intro listed b hsz hl j
    unfold Region.ready
    rw [List.mem_filter, List.mem_range]
    refine and_congr_right fun hj => ?_
    have ho : ops[j]? = some ops[j] := Array.getElem?_eq_getElem hj
    rw [hl j hj, ho]
    simp only [Option.map_some, Option.getD_some, Bool.and_eq_true, Bool.not_eq_eq_eq_not, Bool.not_true]
    rw [mem_needs ho (fun i => listed.getD i false), List.all_eq_true]
    refine and_congr_right fun _ => ⟨fun h i hi => ?_, fun h i hi => ?_⟩
    · have h1 := List.all_eq_true.1 (List.all_eq_true.1 hfw j (List.mem_range.2 hj)) i hi
      have hij : i < j := Nat.le_of_ble_eq_true h1
      have h2 := h i hi
      rw [← hl i (by omega)]
      have hi' : i < listed.size := by omega
      simpa [Array.getD_eq_getD_getElem?, Array.getElem?_eq_getElem hi'] using h2
    · have h1 := List.all_eq_true.1 (List.all_eq_true.1 hfw j (List.mem_range.2 hj)) i hi
      have hij : i < j := Nat.le_of_ble_eq_true h1
      have h2 := h i hi
      rw [← hl i (by omega)] at h2
      have hi' : i < listed.size := by omega
      simpa [Array.getD_eq_getD_getElem?, Array.getElem?_eq_getElem hi'] using h2
  intro m
  induction m with
  | zero =>
    intro listed b a w hsz hl hcl hm hI
    have hall : ∀ j, j < ops.size → b j = true := by
      intro j hj
      cases hb : b j with
      | true => rfl
      | false =>
        have : j ∈ (List.range ops.size).filter fun j => !b j := List.mem_filter.2 ⟨List.mem_range.2 hj, by simp [hb]⟩
        rw [List.eq_nil_of_length_eq_zero hm] at this
        cases this
    refine ⟨?_, hend b a w hall hI⟩
    refine List.eq_nil_iff_forall_not_mem.2 (fun j hj => ?_)
    obtain ⟨h1, h2, _⟩ := (hready listed b hsz hl j).1 hj
    rw [hall j h1] at h2
    cases h2
  | succ m ih =>
    intro listed b a w hsz hl hcl hm hI
    refine ⟨fun hr => ?_, fun j hj => ?_⟩
    · exfalso
      have hex : ∃ i, i < ops.size ∧ b i = false := by
        cases hf : (List.range ops.size).filter (fun j => !b j) with
        | nil => rw [hf] at hm; simp at hm
        | cons x r =>
          have hx : x ∈ (List.range ops.size).filter (fun j => !b j) := by rw [hf]; exact List.mem_cons_self
          rw [List.mem_filter, List.mem_range] at hx
          exact ⟨x, hx.1, by simpa using hx.2⟩
      have hmin : ∀ k, (∃ i, i ≤ k ∧ i < ops.size ∧ b i = false) → ∃ i, i < ops.size ∧ b i = false ∧ ∀ j, j < i → b j = true := by
        intro k
        induction k with
        | zero =>
          rintro ⟨i, hi, h1, h2⟩
          exact ⟨i, h1, h2, fun j hj => by omega⟩
        | succ k ihk =>
          rintro ⟨i, hi, h1, h2⟩
          by_cases hlow : ∃ j, j ≤ k ∧ j < ops.size ∧ b j = false
          · exact ihk hlow
          · refine ⟨i, h1, h2, fun j hj => ?_⟩
            cases hb : b j with
            | true => rfl
            | false => exact absurd ⟨j, by omega, by omega, hb⟩ hlow
      obtain ⟨i0, h1, h2⟩ := hex
      obtain ⟨i, hi, hb, hlow⟩ := hmin i0 ⟨i0, Nat.le_refl _, h1, h2⟩
      have hin : i ∈ Region.ready .any ops listed := (hready listed b hsz hl i).2 ⟨hi, hb, fun n hn => hlow n (Nat.le_of_ble_eq_true (List.all_eq_true.1 (List.all_eq_true.1 hfw i (List.mem_range.2 hi)) n hn))⟩
      rw [hr] at hin
      cases hin
    · obtain ⟨h1, h2, h3⟩ := (hready listed b hsz hl j).1 hj
      have h4 := hstep j h1 b a w hI h2 h3 hcl
      rw [wpOps_cons] at h4
      have ho : ops[j]? = some ops[j] := Array.getElem?_eq_getElem h1
      have h5 : ∀ a' w', wpOps P ops (fun en a' w' => en = .normal ∧ I (upd b j) a' w') [] a' w' → wpAny P .any ops Q m (listed.setIfInBounds j true) a' w' := by
        intro a' w' h
        refine ih (listed.setIfInBounds j true) (upd b j) a' w' (by simpa using hsz) (fun i hi => ?_) (fun m hm' hbm i hi => ?_) ?_ h.2
        · by_cases hij : i = j
          · subst hij
            rw [upd_self]
            simp [Array.getD_eq_getD_getElem?, hsz, hi]
          · rw [upd_ne b hij, ← hl i hi]
            simp [Array.getD_eq_getD_getElem?, Array.getElem?_setIfInBounds_ne (Ne.symm hij)]
        · by_cases hij : i = j
          · rw [hij, upd_self]
          · rw [upd_ne b hij]
            by_cases hmj : m = j
            · rw [hmj] at hi; exact h3 i hi
            · rw [upd_ne b hmj] at hbm; exact hcl m hm' hbm i hi
        · have hcnt : ∀ (l : List Nat), l.Nodup → j ∈ l → (l.filter fun i => !upd b j i).length + 1 = (l.filter fun i => !b i).length := by
            intro l
            induction l with
            | nil => intro _ h; cases h
            | cons x r ihl =>
              intro hn hx
              rw [List.nodup_cons] at hn
              rcases List.mem_cons.1 hx with rfl | hx
              · have h1 : (r.filter fun i => !upd b j i) = r.filter fun i => !b i := List.filter_congr (fun i hi => by rw [upd_ne b (fun e => hn.1 (by rw [← e]; exact hi))])
                rw [List.filter_cons, List.filter_cons]
                simp [upd_self, h2, h1]
              · have hxj : x ≠ j := fun e => hn.1 (e ▸ hx)
                have h1 := ihl hn.2 hx
                rw [List.filter_cons, List.filter_cons, upd_ne b hxj]
                cases hbx : b x
                · simp only [Bool.not_false, if_true, List.length_cons]; omega
                · simpa using h1
          have := hcnt (List.range ops.size) List.nodup_range (List.mem_range.2 h1)
          omega
      unfold wpOp at h4 ⊢
      rw [ho] at h4 ⊢
      simp only at h4 ⊢
      split
      · rename_i hw
        rw [if_pos hw] at h4
        rcases h4 with h4 | ⟨_, a0, w0, h0, _⟩
        · refine .inl ?_
          have hmono := Oper.wp_mono (P := P) (Q := fun en a' w' => en = .normal ∧ I (upd b j) a' w') h5 h4
          unfold Oper.wp at hmono ⊢
          revert hmono
          generalize (execOp a.eval ops[j]).run P w = r
          intro hmono
          cases r with
          | ok n w' =>
            cases n <;> simp only [Oper.upon] at hmono ⊢ <;> first
              | exact hmono
              | exact Calls.mono hmono (fun e w'' he => by cases e with
                  | returned v => exact he
                  | panicked c => exact absurd he.1 (by simp)
                  | outgrown => obtain ⟨_, _, h, _⟩ := he; cases h)
          | halt x w' => cases x <;> simp only [Oper.upon] at hmono ⊢ <;> first | exact hmono | exact absurd hmono.1 (by simp)
        · cases h0
      · rename_i hw
        rw [if_neg hw] at h4
        exact h5 _ _ h4
theorem G.regionAny {id : Nat} (hm : P.follows .mixedOrders = true) (hfw : forward ops = true) (I : (Nat → Bool) → Act → World → Prop) (h0 : ∀ a, Sat N e a → I (fun _ => false) a w.drew)
    (hstep : ∀ j, j < ops.size → ∀ b a w, I b a w → b j = false → (∀ i ∈ needs ops j, b i = true) → (∀ m, m < ops.size → b m = true → ∀ i ∈ needs ops m, b i = true) → wpOps P ops (fun en a' w' => en = .normal ∧ I (upd b j) a' w') [j] a w)
    (hend : ∀ b a w, (∀ j, j < ops.size → b j = true) → I b a w → Cont P f k R a w) : G P f N e (.code (.region id ops true) :: k) w R := by
  intro a hs b cs hb hk
  have h1 := wp_region_any (id := id) (Q := fun en a' w' => en = .normal ∧ Cont P f k R a' w') (a := a) (w := w) hm (any_all I hfw hstep (fun b a w hall hI => ⟨rfl, hend b a w hall hI⟩) ops.size (Array.replicate ops.size false) (fun _ => false) a _ (by simp) (fun j hj => by simp [Array.getD_eq_getD_getElem?, hj]) (fun _ _ h => Bool.noConfusion h) (by rw [List.filter_eq_self.2 (by simp), List.length_range]) (h0 a hs))
  obtain ⟨en, a', w', ⟨hq, hc⟩, har⟩ := h1 b k cs
  subst hq
  obtain ⟨en, w2, fr, hR, hcm, hf, hl⟩ := hc b cs hb hk
  exact ⟨en, w2, fr, hR, Comes.of_steps har hcm, hf, hl⟩
def start (args : List Value) : Nat → Env
  | i => match args with
    | [] => []
    | v :: r => (i, v) :: start r (i + 1)
theorem look_start : ∀ (args : List Value) (i t : Nat) (v : Value), look (start args i) t = some v → i ≤ t ∧ args[t - i]? = some v
  | [], _, _, _, h => by cases h
  | x :: r, i, t, v, h => by
    simp only [start, look] at h
    cases hb : Nat.beq i t with
    | true =>
      rw [hb] at h
      have := Nat.eq_of_beq_eq_true hb
      subst this
      simpa using h
    | false =>
      rw [hb] at h
      have hne : i ≠ t := Nat.ne_of_beq_eq_false hb
      obtain ⟨h1, h2⟩ := look_start r (i + 1) t v h
      refine ⟨by omega, ?_⟩
      have : t - i = (t - (i + 1)) + 1 := by omega
      rw [this, List.getElem?_cons_succ]
      exact h2
theorem Calls.of_G {fn : Func} {c : Code} {args : List Value} (hf : P.funcs[f]? = some fn) (hb : fn.body = some c) (hn : fn.ntmps = N) (hl : Nat.ble args.length N = true)
    (g : G P f N (start args 0) [.code c] w R) : Calls P f args.toArray w R := by
  subst hn
  have hl' : args.length ≤ fn.ntmps := Nat.le_of_ble_eq_true hl
  intro cs
  let b : Frame := { (default : Frame) with fn := f, kind := .normal }
  let a : Act := { tmps := args.toArray ++ Array.replicate (fn.ntmps - args.toArray.size) undef, defers := [] }
  have henter : Frame.enter P f args.toArray .normal = b.at a [.code c] := by
    simp [Frame.enter, Frame.at, hf, hb, b, a]
  rw [henter]
  refine g a ⟨rfl, by simp [a]; omega, fun t v ht => ?_⟩ b cs rfl rfl
  obtain ⟨_, h2⟩ := look_start args 0 t v ht
  have ht2 : t < args.length := (List.getElem?_eq_some_iff.1 h2).1
  have h3 : args[t]? = some v := h2
  simp only [a]
  rw [Array.getElem?_append_left (by simpa using ht2)]
  simpa using h3
end
end Go.Proofs.YtbjfinndngafoaaGreat
