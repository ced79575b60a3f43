/-
  Short words for the printed walks.
-/
import Derived.Test.YtkmeepgpmppibaaGreatDoorSlN
set_option linter.unusedVariables false
namespace Go.Proofs.YtkmeepgpmppibaaGreatDoor
open Go.RowKit
theorem Z {α : Sort _} {a : α} : a = a := rfl
theorem tT {p : Prop} [h : Decidable p] (c : p) : decide p = true := decide_eq_true c
theorem tF {p : Prop} [h : Decidable p] (c : ¬ p) : decide p = false := decide_eq_false c
theorem nT {p : Prop} [h : Decidable p] (c : p) : (!decide p) = false := congrArg Bool.not (decide_eq_true c)
theorem nF {p : Prop} [h : Decidable p] (c : ¬ p) : (!decide p) = true := congrArg Bool.not (decide_eq_false c)
theorem sI {α : Type _} {a b : α} (h : some a = some b) : a = b := Option.some.inj h
theorem bI {α β : Type _} {o : Option α} {f : α → Option β} {b : β} (h : o.bind f = some b) : ∃ a, o = some a ∧ f a = some b := Option.bind_eq_some_iff.1 h
abbrev I (x : Int) : Value := .int .i64 x
abbrev Ht (w0 : World) (L : List Cu) (r1 : Int) (en : Ending) (w : World) : Prop := en = .returned (.int .i64 r1) ∧ St w0 w (L)
abbrev F4 (w0 : World) (L : List Cu) (r1 : Bool) (en : Ending) (w : World) : Prop := en = .returned (.bool r1) ∧ St w0 w (L)
abbrev FOK (f : Func) : Prop := (f.name == "runtime.NumGoroutine") = false ∧ f.body.isNone = false
section
variable {P : Program} {f : FuncId} {N : Nat} {e : Env} {k : List Item} {w0 w : World} {L : List Cu} {R : Ending → World → Prop} {Q : Act → World → Prop} {ops : Array Oper} {i d : Nat} {rest : List Nat} {ty : TypeId} {ps : String} {af : Array Edge}
theorem oF {o : Oper} {d j t : Nat} {b : Bool} (h : (ops[i]?, o.guard, Xg ops j, look e t, o.dst, Nat.blt d N) = (some o, some (j, b), some t, some (.bool (!b)), some d, true)) (g : GO P N ops rest ((d, undef) :: e) w Q) : GO P N ops (i :: rest) e w Q := by
  simp only [Prod.mk.injEq] at h
  exact GO.off h.1 h.2.1 h.2.2.1 h.2.2.2.1 h.2.2.2.2.1 h.2.2.2.2.2 g
theorem oN {o : Oper} {j t : Nat} {b : Bool} (h : (ops[i]?, o.guard, Xg ops j, look e t) = (some o, some (j, b), some t, some (.bool b))) (g : GO P N #[{ o with guard := none }] [0] e w (fun a' w' => wpOps P ops (fun en a w => en = .normal ∧ Q a w) rest a' w')) : GO P N ops (i :: rest) e w Q := by
  simp only [Prod.mk.injEq] at h
  exact GO.on h.1 h.2.1 h.2.2.1 h.2.2.2 g
theorem mV {x : Operand} {v : Value} (h : (ops[i]?, ev e x, Nat.blt d N) = (some ⟨some d, .move x, ty, ps, af, none⟩, some v, true)) (g : GO P N ops rest ((d, v) :: e) w Q) : GO P N ops (i :: rest) e w Q := by
  simp only [Prod.mk.injEq] at h
  exact GO.move h.1 h.2.1 h.2.2 g
theorem aS {x : Operand} {v : Value} (h : (ops[i]?, ev e x, Nat.blt d N) = (some ⟨some d, .assign x, ty, ps, af, none⟩, some v, true)) (g : GO P N ops rest ((d, v) :: e) w Q) : GO P N ops (i :: rest) e w Q := by
  simp only [Prod.mk.injEq] at h
  exact GO.assign h.1 h.2.1 h.2.2 g
theorem fL {s : TypeId} {x : Operand} {fi off : Nat} {ad : Addr} (b o : Nat) (hr : ∀ (ad : Addr) (w : World), (Instr.fieldAt s (.pointer (some ad)) fi).run P w = .ok (.pointer (some (ad.add off))) w) (h : (ops[i]?, ev e x, ad.add off, Nat.blt d N) = (some ⟨some d, .fieldAddr s x fi, ty, ps, af, none⟩, some (.pointer (some ad)), ⟨b, o, none⟩, true)) (g : GO P N ops rest ((d, .pointer (some ⟨b, o, none⟩)) :: e) w Q) : GO P N ops (i :: rest) e w Q := by
  simp only [Prod.mk.injEq] at h
  exact GO.fld ⟨b, o, none⟩ h.1 h.2.1 hr h.2.2.1 h.2.2.2 g
theorem lB {t tb : TypeId} {x : Operand} {b off : Nat} {cs : List Value} {v : Value} (j : Nat) (HS : St w0 w L) (h : (L[j]?, ops[i]?, ev e x, cs[off]?) = (some (Box b tb cs), some ⟨some d, .load t x, ty, ps, af, none⟩, some (.pointer (some ⟨b, off, none⟩)), some v)) (ht : naB P t = true) (hN : Nat.blt d N = true) (g : GO P N ops rest ((d, v) :: e) w Q) : GO P N ops (i :: rest) e w Q := by
  simp only [Prod.mk.injEq] at h
  exact GO.uD HS h.1 h.2.1 h.2.2.1 h.2.2.2 ht hN g
theorem cG {fn : Func} {c : Code} {args : List Value} (hf : P.funcs[f]? = some fn) (h : (fn.body, fn.ntmps, Nat.ble args.length N) = (some c, N, true)) (g : G P f N (start args 0) [.code c] w R) : Calls P f args.toArray w R := by
  simp only [Prod.mk.injEq] at h
  exact Calls.yL hf h.1 h.2.1 h.2.2 g
theorem kN (t : Nat) {x b : Bool} {l : List Nat} (h : look e t = some (.bool x)) (hx : x = b) (g : GO P N ops l ((t, .bool b) :: e) w Q) : GO P N ops l e w Q := GO.known h hx g
end
theorem GO.join {P : Program} {N : Nat} {e : Env} {w : World} {Q : Act → World → Prop} {ops : Array Oper} {l : List Nat} (n d : Nat) (v : Value) (k : ∀ Q, GO P N ops (l.drop n) ((d, v) :: e) w Q → GO P N ops l e w Q) (g : GO P N ops (l.drop n) ((d, v) :: e) w Q) : GO P N ops l e w Q := k Q g
theorem orT {a b : Bool} (h : a = true) : true = (a || b) := by rw [h]; rfl
theorem orF {a b : Bool} (h : a = false) : b = (a || b) := by rw [h]; rfl
abbrev bK := @GO.back
abbrev rG := @G.region
abbrev nL := @GO.nil
abbrev rN := @G.run
abbrev pS := @GO.ps
abbrev iE := @nY
abbrev iN := @lX
abbrev rD := @Aq.drop
abbrev rT := @G.yO
abbrev yB := @G.yP
abbrev nB := @G.noB
abbrev lS := @GO.yN
abbrev fN := @GO.fn
abbrev qL := @GX.l0
abbrev sQ := @G.seq
abbrev lR := @Nat.le_refl
theorem tv : True := trivial
end Go.Proofs.YtkmeepgpmppibaaGreatDoor
