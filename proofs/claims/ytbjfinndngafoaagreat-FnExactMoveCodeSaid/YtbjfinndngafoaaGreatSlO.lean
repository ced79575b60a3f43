/-
  Short words for the printed walks.
-/
import Derived.Test.YtbjfinndngafoaaGreatSlN
set_option linter.unusedVariables false
namespace Go.Proofs.YtbjfinndngafoaaGreat
open Go.RowKit
theorem Z {α : Sort _} {a : α} : a = a := rfl
theorem tT {p : Prop} [h : Decidable p] (c : p) : decide p = true := decide_eq_true c
theorem tF {p : Prop} [h : Decidable p] (c : ¬ p) : decide p = false := decide_eq_false c
theorem nT {p : Prop} [h : Decidable p] (c : p) : (!decide p) = false := congrArg Bool.not (decide_eq_true c)
theorem nF {p : Prop} [h : Decidable p] (c : ¬ p) : (!decide p) = true := congrArg Bool.not (decide_eq_false c)
theorem sI {α : Type _} {a b : α} (h : some a = some b) : a = b := Option.some.inj h
theorem bI {α β : Type _} {o : Option α} {f : α → Option β} {b : β} (h : o.bind f = some b) : ∃ a, o = some a ∧ f a = some b := Option.bind_eq_some_iff.1 h
abbrev I (x : Int) : Value := .int .i64 x
abbrev PostI (w0 : World) (L : List HObj) (r1 : Int) (en : Ending) (w : World) : Prop := en = .returned (.int .i64 r1) ∧ St w0 w (L)
abbrev PostB (w0 : World) (L : List HObj) (r1 : Bool) (en : Ending) (w : World) : Prop := en = .returned (.bool r1) ∧ St w0 w (L)
section
variable {P : Program} {f : FuncId} {N : Nat} {e : Env} {k : List Item} {w0 w : World} {L : List HObj} {R : Ending → World → Prop} {Q : Act → World → Prop} {ops : Array Oper} {i d : Nat} {rest : List Nat} {ty : TypeId} {ps : String} {af : Array Edge}
theorem oF {o : Oper} {d j t : Nat} {b : Bool} (h : (ops[i]?, o.guard, gdst ops j, look e t, o.dst, Nat.blt d N) = (some o, some (j, b), some t, some (.bool (!b)), some d, true)) (g : GO P N ops rest ((d, undef) :: e) w Q) : GO P N ops (i :: rest) e w Q := by
  simp only [Prod.mk.injEq] at h
  exact GO.off h.1 h.2.1 h.2.2.1 h.2.2.2.1 h.2.2.2.2.1 h.2.2.2.2.2 g
theorem oN {o : Oper} {j t : Nat} {b : Bool} (h : (ops[i]?, o.guard, gdst ops j, look e t) = (some o, some (j, b), some t, some (.bool b))) (g : GO P N #[{ o with guard := none }] [0] e w (fun a' w' => wpOps P ops (fun en a w => en = .normal ∧ Q a w) rest a' w')) : GO P N ops (i :: rest) e w Q := by
  simp only [Prod.mk.injEq] at h
  exact GO.on h.1 h.2.1 h.2.2.1 h.2.2.2 g
theorem mV {x : Operand} {v : Value} (h : (ops[i]?, ev e x, Nat.blt d N) = (some ⟨some d, .move x, ty, ps, af, none⟩, some v, true)) (g : GO P N ops rest ((d, v) :: e) w Q) : GO P N ops (i :: rest) e w Q := by
  simp only [Prod.mk.injEq] at h
  exact GO.move h.1 h.2.1 h.2.2 g
theorem aS {x : Operand} {v : Value} (h : (ops[i]?, ev e x, Nat.blt d N) = (some ⟨some d, .assign x, ty, ps, af, none⟩, some v, true)) (g : GO P N ops rest ((d, v) :: e) w Q) : GO P N ops (i :: rest) e w Q := by
  simp only [Prod.mk.injEq] at h
  exact GO.assign h.1 h.2.1 h.2.2 g
theorem fL {s : TypeId} {x : Operand} {fi off : Nat} {ad : Addr} (b o : Nat) (hr : ∀ (ad : Addr) (w : World), (Instr.fieldAt s (.pointer (some ad)) fi).run P w = .ok (.pointer (some (ad.add off))) w) (h : (ops[i]?, ev e x, ad.add off, Nat.blt d N) = (some ⟨some d, .fieldAddr s x fi, ty, ps, af, none⟩, some (.pointer (some ad)), ⟨b, o, none⟩, true)) (g : GO P N ops rest ((d, .pointer (some ⟨b, o, none⟩)) :: e) w Q) : GO P N ops (i :: rest) e w Q := by
  simp only [Prod.mk.injEq] at h
  exact GO.fld ⟨b, o, none⟩ h.1 h.2.1 hr h.2.2.1 h.2.2.2 g
theorem lB {t tb : TypeId} {x : Operand} {b off : Nat} {cs : List Value} {v : Value} (j : Nat) (HS : St w0 w L) (h : (L[j]?, ops[i]?, ev e x, cs[off]?) = (some (Box b tb cs), some ⟨some d, .load t x, ty, ps, af, none⟩, some (.pointer (some ⟨b, off, none⟩)), some v)) (ht : naB P t = true) (hN : Nat.blt d N = true) (g : GO P N ops rest ((d, v) :: e) w Q) : GO P N ops (i :: rest) e w Q := by
  simp only [Prod.mk.injEq] at h
  exact GO.ldBox HS h.1 h.2.1 h.2.2.1 h.2.2.2 ht hN g
theorem lW {t tb : TypeId} {x : Operand} {b : Nat} {cs : List Value} (j : Nat) (HS : St w0 w L) (h : (L[j]?, ops[i]?, ev e x, Nat.blt d N) = (some (Box b tb cs), some ⟨some d, .load t x, ty, ps, af, none⟩, some (.pointer (some ⟨b, 0, none⟩)), true)) (ht : agB P t cs.length = true) (g : GO P N ops rest ((d, .agg cs.toArray) :: e) w Q) : GO P N ops (i :: rest) e w Q := by
  simp only [Prod.mk.injEq] at h
  exact GO.ldBoxA cs HS h.1 h.2.1 h.2.2.1 (by simp) ht h.2.2.2 g
theorem sW {t tb : TypeId} {x y : Operand} {b : Nat} {cs vs : List Value} (j : Nat) (HS : St w0 w L) (h : (L[j]?, ops[i]?, ev e x, ev e y) = (some (Box b tb cs), some ⟨none, .store t x y, ty, ps, af, none⟩, some (.pointer (some ⟨b, 0, none⟩)), some (.agg vs.toArray))) (ht : agB P t vs.length = true) (h1 : (vs.all (·.oneCell'), Nat.beq cs.length vs.length) = (true, true)) (g : ∀ w', St w0 w' (L.set j (Box b tb vs)) → GO P N ops rest e w' Q) : GO P N ops (i :: rest) e w Q := by
  simp only [Prod.mk.injEq] at h h1
  have hl := Nat.eq_of_beq_eq_true h1.2
  refine GO.stBox vs HS h.1 h.2.1 h.2.2.1 h.2.2.2 rfl (htA ht) h1.1 (by rw [Nat.zero_add, hl]; exact Nat.ble_self_eq_true _) ?_ g
  unfold splice
  rw [List.take_zero, List.nil_append, Nat.zero_add, ← hl, List.drop_length, List.append_nil]
theorem bA {t : TypeId} {x : Operand} {cs : List Value} (HS : St w0 w L) (h : (ops[i]?, ev e x, Nat.blt d N) = (some ⟨some d, .box t x, ty, ps, af, none⟩, some (.agg cs.toArray), true)) (g : ∀ b w', St w0 w' (Box b t cs :: L) → GO P N ops rest ((d, .pointer (some ⟨b, 0, none⟩)) :: e) w' Q) : GO P N ops (i :: rest) e w Q := by
  simp only [Prod.mk.injEq] at h
  exact GO.box HS h.1 h.2.1 rfl h.2.2 g
abbrev FK (P : Program) (h : FuncId) (f : Func) : Prop := P.funcs[h]? = some f ∧ (f.name == "runtime.NumGoroutine") = false ∧ f.body.isNone = false
theorem fJ {h : FuncId} {fn : Func} {args : Array Operand} {tys : Array TypeId} {vs : List Value} {R1 : Ending → World → Prop} (k : FK P h fn) (hh : (ops[i]?, evs e args.toList, Nat.blt d N) = (some ⟨some d, .call { callee := .value (.func h), args := args, argTypes := tys }, ty, ps, af, none⟩, some vs, true)) (hc : Calls P h vs.toArray w R1) (hr : ∀ en w2, R1 en w2 → ∃ v, en = .returned v ∧ GO P N ops rest ((d, v) :: e) w2 Q) : GO P N ops (i :: rest) e w Q := by
  simp only [Prod.mk.injEq] at hh
  exact GO.fn hh.1 k.1 k.2.1 k.2.2 hh.2.1 hh.2.2 hc hr
theorem cG {fn : Func} {c : Code} {args : List Value} (hf : P.funcs[f]? = some fn) (h : (fn.body, fn.ntmps, Nat.ble args.length N) = (some c, N, true)) (g : G P f N (start args 0) [.code c] w R) : Calls P f args.toArray w R := by
  simp only [Prod.mk.injEq] at h
  exact Calls.of_G hf h.1 h.2.1 h.2.2 g
theorem kN (t : Nat) {x b : Bool} {l : List Nat} (h : look e t = some (.bool x)) (hx : x = b) (g : GO P N ops l ((t, .bool b) :: e) w Q) : GO P N ops l e w Q := GO.known h hx g
end
abbrev bK := @GO.back
abbrev rG := @G.region
abbrev nL := @GO.nil
abbrev rN := @G.run
abbrev pS := @GO.ps
abbrev iE := @ite_elim
abbrev iN := @ite_none
abbrev rD := @RdIn.drop
abbrev rT := @G.ret1
abbrev yB := @G.yesB
abbrev nB := @G.noB
abbrev lS := @GO.lenS
abbrev qL := @GX.l0
abbrev sQ := @G.seq
abbrev lR := @Nat.le_refl
theorem ite_swap {c : Prop} [Decidable c] {α : Type _} {a b r : Option α} (h : (if c then a else b) = r) : (¬ c ∧ b = r) ∨ (c ∧ a = r) := by
  by_cases hc : c
  · exact .inr ⟨hc, by rw [if_pos hc] at h; exact h⟩
  · exact .inl ⟨hc, by rw [if_neg hc] at h; exact h⟩
abbrev iS := @ite_swap
theorem tv : True := trivial
end Go.Proofs.YtbjfinndngafoaaGreat
