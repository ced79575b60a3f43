/-
  The operations, one rule each: plain values.
-/
import Derived.Test.YtbjfinndngafoaaGreatSlC
set_option linter.unusedVariables false
set_option linter.unusedSimpArgs false
namespace Go.Proofs.YtbjfinndngafoaaGreat
open Go.RowKit
def w64 (x : Int) : Int := IntKind.wrap .i64 x
theorem w64_id {x : Int} (h : -9223372036854775808 ≤ x) (h' : x ≤ 9223372036854775807) : w64 x = x := by
  unfold w64
  rw [IntKind.wrap_i64]
  omega
section
variable {P : Program} {f : FuncId} {N : Nat} {e : Env} {k : List Item} {w : World} {R : Ending → World → Prop} {Q : Act → World → Prop} {ops : Array Oper} {i d : Nat} {rest : List Nat} {ty : TypeId} {ps : String} {af : Array Edge}
theorem G.yesB {c : Operand} {x y : Code} {b : Bool} (h : ev e c = some (.bool b)) (hb : b = true) (g : G P f N e (.code x :: k) w R) : G P f N e (.code (.cond c x y) :: k) w R := by
  subst hb; exact G.yes h g
theorem G.noB {c : Operand} {x y : Code} {b : Bool} (h : ev e c = some (.bool b)) (hb : b = false) (g : G P f N e (.code y :: k) w R) : G P f N e (.code (.cond c x y) :: k) w R := by
  subst hb; exact G.no h g
theorem GO.move {x : Operand} {v : Value} (ho : ops[i]? = some ⟨some d, .move x, ty, ps, af, none⟩) (hx : ev e x = some v) (hN : Nat.blt d N = true) (g : GO P N ops rest ((d, v) :: e) w Q) : GO P N ops (i :: rest) e w Q :=
  GO.val v ho rfl rfl hN (fun a hs => by simp [execOp, hs.ev hx]) g
theorem GO.assign {x : Operand} {v : Value} (ho : ops[i]? = some ⟨some d, .assign x, ty, ps, af, none⟩) (hx : ev e x = some v) (hN : Nat.blt d N = true) (g : GO P N ops rest ((d, v) :: e) w Q) : GO P N ops (i :: rest) e w Q :=
  GO.val v ho rfl rfl hN (fun a hs => by simp [execOp, hs.ev hx]) g
theorem GO.pickT {c x y : Operand} {v : Value} {b : Bool} (ho : ops[i]? = some ⟨some d, .pick c x y, ty, ps, af, none⟩) (hc : ev e c = some (.bool b)) (hb : b = true) (hx : ev e x = some v) (hN : Nat.blt d N = true) (g : GO P N ops rest ((d, v) :: e) w Q) : GO P N ops (i :: rest) e w Q :=
  GO.val v ho rfl rfl hN (fun a hs => by simp [execOp, hs.ev hc, hs.ev hx, hb, asBool]) g
theorem GO.pickF {c x y : Operand} {v : Value} {b : Bool} (ho : ops[i]? = some ⟨some d, .pick c x y, ty, ps, af, none⟩) (hc : ev e c = some (.bool b)) (hb : b = false) (hx : ev e y = some v) (hN : Nat.blt d N = true) (g : GO P N ops rest ((d, v) :: e) w Q) : GO P N ops (i :: rest) e w Q :=
  GO.val v ho rfl rfl hN (fun a hs => by simp [execOp, hs.ev hc, hs.ev hx, hb, asBool]) g
theorem GO.extract {x : Operand} {vs : Array Value} {n : Nat} {v : Value} (ho : ops[i]? = some ⟨some d, .extract x n, ty, ps, af, none⟩) (hx : ev e x = some (.tuple vs)) (hv : vs[n]? = some v) (hN : Nat.blt d N = true) (g : GO P N ops rest ((d, v) :: e) w Q) : GO P N ops (i :: rest) e w Q :=
  GO.val v ho rfl rfl hN (fun a hs => by simp [execOp, hs.ev hx, Instr.extract, hv]) g
theorem GO.mkFunc {fn : Fn} {first cap : Array Operand} {vs us : List Value} (ho : ops[i]? = some ⟨some d, .makeFunc fn first cap, ty, ps, af, none⟩) (h1 : evs e first.toList = some vs) (h2 : evs e cap.toList = some us) (hN : Nat.blt d N = true) (g : GO P N ops rest ((d, .func fn vs.toArray us.toArray) :: e) w Q) : GO P N ops (i :: rest) e w Q :=
  GO.val _ ho rfl rfl hN (fun a hs => by
    have e1 := hs.evs h1
    have e2 := hs.evs h2
    have e3 : first.map a.eval = vs.toArray := by rw [← e1, ← List.map_toArray, Array.toArray_toList]
    have e4 : cap.map a.eval = us.toArray := by rw [← e2, ← List.map_toArray, Array.toArray_toList]
    simp [execOp, Instr.makeFunc, e3, e4]) g
theorem GO.bin {op : BinOp} {t t' : TypeId} {x y : Operand} {kd : IntKind} {m n : Int} (v : Value) (ho : ops[i]? = some ⟨some d, .binOp op t x y t', ty, ps, af, none⟩) (hx : ev e x = some (.int kd m)) (hy : ev e y = some (.int kd n))
    (hv : ∀ w, (do eqGuard op t x y (.int kd m) (.int kd n); binOp op t (.int kd m) (.int kd n)).run P w = .ok v w) (hN : Nat.blt d N = true) (g : GO P N ops rest ((d, v) :: e) w Q) : GO P N ops (i :: rest) e w Q :=
  GO.val v ho rfl rfl hN (fun a hs => by
    have h := hv w
    simp only [Sem.run_bind] at h
    simp only [execOp, hs.ev hx, hs.ev hy, Sem.run_bind]
    rw [h]
    rfl) g
section
variable {t t' : TypeId} {x y : Operand} {kd : IntKind} {m n : Int}
theorem GO.add (ho : ops[i]? = some ⟨some d, .binOp .add t x y t', ty, ps, af, none⟩) (hx : ev e x = some (.int kd m)) (hy : ev e y = some (.int kd n)) (hN : Nat.blt d N = true) (g : GO P N ops rest ((d, .int kd (kd.wrap (m + n))) :: e) w Q) : GO P N ops (i :: rest) e w Q :=
  GO.bin _ ho hx hy (fun w => by simp [eqGuard, binOp, Op.intArith]) hN g
theorem GO.sub (ho : ops[i]? = some ⟨some d, .binOp .sub t x y t', ty, ps, af, none⟩) (hx : ev e x = some (.int kd m)) (hy : ev e y = some (.int kd n)) (hN : Nat.blt d N = true) (g : GO P N ops rest ((d, .int kd (kd.wrap (m - n))) :: e) w Q) : GO P N ops (i :: rest) e w Q :=
  GO.bin _ ho hx hy (fun w => by simp [eqGuard, binOp, Op.intArith]) hN g
theorem GO.mul (ho : ops[i]? = some ⟨some d, .binOp .mul t x y t', ty, ps, af, none⟩) (hx : ev e x = some (.int kd m)) (hy : ev e y = some (.int kd n)) (hN : Nat.blt d N = true) (g : GO P N ops rest ((d, .int kd (kd.wrap (m * n))) :: e) w Q) : GO P N ops (i :: rest) e w Q :=
  GO.bin _ ho hx hy (fun w => by simp [eqGuard, binOp, Op.intArith]) hN g
theorem GO.quo (ho : ops[i]? = some ⟨some d, .binOp .quo t x y t', ty, ps, af, none⟩) (hx : ev e x = some (.int kd m)) (hy : ev e y = some (.int kd n)) (h0 : ¬ n = 0) (hN : Nat.blt d N = true) (g : GO P N ops rest ((d, .int kd (kd.wrap (m.tdiv n))) :: e) w Q) : GO P N ops (i :: rest) e w Q :=
  GO.bin _ ho hx hy (fun w => by simp [eqGuard, binOp, Op.intDiv, h0]) hN g
theorem GO.rem (ho : ops[i]? = some ⟨some d, .binOp .rem t x y t', ty, ps, af, none⟩) (hx : ev e x = some (.int kd m)) (hy : ev e y = some (.int kd n)) (h0 : ¬ n = 0) (hN : Nat.blt d N = true) (g : GO P N ops rest ((d, .int kd (m.tmod n)) :: e) w Q) : GO P N ops (i :: rest) e w Q :=
  GO.bin _ ho hx hy (fun w => by simp [eqGuard, binOp, Op.intDiv, h0]) hN g
theorem GO.lss (ho : ops[i]? = some ⟨some d, .binOp .lss t x y t', ty, ps, af, none⟩) (hx : ev e x = some (.int kd m)) (hy : ev e y = some (.int kd n)) (hN : Nat.blt d N = true) (g : GO P N ops rest ((d, .bool (decide (m < n))) :: e) w Q) : GO P N ops (i :: rest) e w Q :=
  GO.bin _ ho hx hy (fun w => by simp [eqGuard, binOp, Op.intCmp]) hN g
theorem GO.leq (ho : ops[i]? = some ⟨some d, .binOp .leq t x y t', ty, ps, af, none⟩) (hx : ev e x = some (.int kd m)) (hy : ev e y = some (.int kd n)) (hN : Nat.blt d N = true) (g : GO P N ops rest ((d, .bool (decide (m ≤ n))) :: e) w Q) : GO P N ops (i :: rest) e w Q :=
  GO.bin _ ho hx hy (fun w => by simp [eqGuard, binOp, Op.intCmp]) hN g
theorem GO.gtr (ho : ops[i]? = some ⟨some d, .binOp .gtr t x y t', ty, ps, af, none⟩) (hx : ev e x = some (.int kd m)) (hy : ev e y = some (.int kd n)) (hN : Nat.blt d N = true) (g : GO P N ops rest ((d, .bool (decide (n < m))) :: e) w Q) : GO P N ops (i :: rest) e w Q :=
  GO.bin _ ho hx hy (fun w => by simp [eqGuard, binOp, Op.intCmp]) hN g
theorem GO.geq (ho : ops[i]? = some ⟨some d, .binOp .geq t x y t', ty, ps, af, none⟩) (hx : ev e x = some (.int kd m)) (hy : ev e y = some (.int kd n)) (hN : Nat.blt d N = true) (g : GO P N ops rest ((d, .bool (decide (n ≤ m))) :: e) w Q) : GO P N ops (i :: rest) e w Q :=
  GO.bin _ ho hx hy (fun w => by simp [eqGuard, binOp, Op.intCmp]) hN g
theorem GO.eql (ho : ops[i]? = some ⟨some d, .binOp .eql t x y t', ty, ps, af, none⟩) (hx : ev e x = some (.int kd m)) (hy : ev e y = some (.int kd n)) (hN : Nat.blt d N = true) (g : GO P N ops rest ((d, .bool (decide (m = n))) :: e) w Q) : GO P N ops (i :: rest) e w Q :=
  GO.bin _ ho hx hy (fun w => by simp [eqGuard, binOp, Op.intCmp]; rfl) hN g
theorem GO.neq (ho : ops[i]? = some ⟨some d, .binOp .neq t x y t', ty, ps, af, none⟩) (hx : ev e x = some (.int kd m)) (hy : ev e y = some (.int kd n)) (hN : Nat.blt d N = true) (g : GO P N ops rest ((d, .bool (!decide (m = n))) :: e) w Q) : GO P N ops (i :: rest) e w Q :=
  GO.bin _ ho hx hy (fun w => by simp [eqGuard, binOp, Op.intCmp]; rfl) hN g
end
theorem GO.not {t : TypeId} {x : Operand} {b : Bool} (ho : ops[i]? = some ⟨some d, .unOp .not t x, ty, ps, af, none⟩) (hx : ev e x = some (.bool b)) (hN : Nat.blt d N = true) (g : GO P N ops rest ((d, .bool (!b)) :: e) w Q) : GO P N ops (i :: rest) e w Q :=
  GO.val _ ho rfl rfl hN (fun a hs => by simp [execOp, hs.ev hx, Op.unary]) g
theorem GO.neg {t : TypeId} {x : Operand} {kd : IntKind} {n : Int} (ho : ops[i]? = some ⟨some d, .unOp .neg t x, ty, ps, af, none⟩) (hx : ev e x = some (.int kd n)) (hN : Nat.blt d N = true) (g : GO P N ops rest ((d, .int kd (kd.wrap (0 - n))) :: e) w Q) : GO P N ops (i :: rest) e w Q :=
  GO.val _ ho rfl rfl hN (fun a hs => by simp [execOp, hs.ev hx, Op.unary, Op.intArith]) g
theorem GO.lenS {t : TypeId} {x : Operand} {A : Option Addr} {n c : Nat} {s : TypeId} (ho : ops[i]? = some ⟨some d, .call { callee := .builtin .len, args := #[x], argTypes := #[t] }, ty, ps, af, none⟩) (hx : ev e x = some (.slice A n c)) (ht : P.underlying t = some (.slice s)) (hN : Nat.blt d N = true)
    (g : GO P N ops rest ((d, .int .i64 (n : Int)) :: e) w Q) : GO P N ops (i :: rest) e w Q :=
  GO.val _ ho rfl rfl hN (fun a hs => by simp [execOp, resolve, invoke, builtin, Builtin.len_, hs.ev hx, run_underlying ht, goInt]) g
theorem GO.build {t : TypeId} {parts : Array (Nat × Operand)} {vs : List (Nat × Value)} (v : Value) (ho : ops[i]? = some ⟨some d, .build t parts, ty, ps, af, none⟩) (hx : ∀ a, Sat N e a → parts.map (fun p => (p.1, a.eval p.2)) = vs.toArray) (hr : ∀ w, (Instr.build t vs.toArray).run P w = .ok v w) (hN : Nat.blt d N = true)
    (g : GO P N ops rest ((d, v) :: e) w Q) : GO P N ops (i :: rest) e w Q :=
  GO.val _ ho rfl rfl hN (fun a hs => by
    have h1 := hx a hs
    have h2 := hr w
    simp only [execOp]
    rw [show (Array.map (fun x => match x with | (i, x) => (i, a.eval x)) parts) = parts.map (fun p => (p.1, a.eval p.2)) from rfl, h1]
    simp [h2]) g
theorem GO.fld {s : TypeId} {x : Operand} {fi off : Nat} {ad : Addr} (ad' : Addr) (ho : ops[i]? = some ⟨some d, .fieldAddr s x fi, ty, ps, af, none⟩) (hx : ev e x = some (.pointer (some ad))) (hr : ∀ (ad : Addr) (w : World), (Instr.fieldAt s (.pointer (some ad)) fi).run P w = .ok (.pointer (some (ad.add off))) w) (he : ad.add off = ad') (hN : Nat.blt d N = true)
    (g : GO P N ops rest ((d, .pointer (some ad')) :: e) w Q) : GO P N ops (i :: rest) e w Q :=
  GO.val _ ho rfl rfl hN (fun a hs => by simp [execOp, hs.ev hx, hr, he]) g
theorem GO.ix {t el : TypeId} {x y : Operand} {A : Option Addr} {n c sz : Nat} {kd : IntKind} {m : Int} (ho : ops[i]? = some ⟨some d, .indexAddr t x y, ty, ps, af, none⟩) (hx : ev e x = some (.slice A n c)) (hy : ev e y = some (.int kd m)) (ht : P.underlying t = some (.slice el)) (hsz : (P.info? el).map (·.size) = some sz)
    (hA : 0 < n → ∃ b o, A = some ⟨b, o, none⟩) (h0 : 0 ≤ m) (h1 : m < (n : Int)) (hN : Nat.blt d N = true) (g : GO P N ops rest ((d, .pointer (some (ea A (m.toNat * sz)))) :: e) w Q) : GO P N ops (i :: rest) e w Q :=
  GO.val _ ho rfl rfl hN (fun a hs => by
    obtain ⟨b, o, rfl⟩ := hA (by omega)
    obtain ⟨inf, hi, hi2⟩ := Option.map_eq_some_iff.1 hsz
    simp [execOp, hs.ev hx, hs.ev hy, Instr.indexAt, asIntOf, run_underlying ht, h0, h1, sizeOf, typeInfo, hi, hi2, ea]) g
theorem GO.ixArr {t el : TypeId} {x y : Operand} {kd kd' : IntKind} {len : Nat} {m : Int} (l : List Int) (ho : ops[i]? = some ⟨some d, .index t x y, ty, ps, af, none⟩) (hx : ev e x = some (.agg (l.map (Value.int kd)).toArray)) (hy : ev e y = some (.int kd' m)) (ht : P.underlying t = some (.array len el)) (hel : P.underlying el = some (.int kd))
    (hsz : (P.info? el).map (·.size) = some 1) (hl : l.length = len) (h0 : 0 ≤ m) (h1 : m < (len : Int)) (hN : Nat.blt d N = true) (g : GO P N ops rest ((d, .int kd (l.getD m.toNat 0)) :: e) w Q) : GO P N ops (i :: rest) e w Q :=
  GO.val _ ho rfl rfl hN (fun a hs => by
    obtain ⟨inf, hi, hi2⟩ := Option.map_eq_some_iff.1 hsz
    have hm : m.toNat < l.length := by omega
    simp [execOp, hs.ev hx, hs.ev hy, Instr.index, asIntOf, run_underlying ht, h0, h1, sizeOf, typeInfo, hi, hi2, part, isAgg, run_underlying hel, hm, List.getD_eq_getElem?_getD]) g
theorem run_callFunc {h : FuncId} {fn : Func} (hf : P.funcs[h]? = some fn) (hn : (fn.name == "runtime.NumGoroutine") = false) (hb : fn.body.isNone = false) (args : Array Value) (w : World) : (callFunc h args).run P w = .ok (.enter h args) w := by
  unfold callFunc
  simp only [Sem.run_bind, run_program, Result.andThen_ok, hf, hn, hb]
  rfl
theorem GO.fn {h : FuncId} {fn : Func} {args : Array Operand} {tys : Array TypeId} {vs : List Value} {R1 : Ending → World → Prop} (ho : ops[i]? = some ⟨some d, .call { callee := .value (.func h), args := args, argTypes := tys }, ty, ps, af, none⟩) (hf : P.funcs[h]? = some fn) (hn : (fn.name == "runtime.NumGoroutine") = false) (hb : fn.body.isNone = false)
    (hx : evs e args.toList = some vs) (hN : Nat.blt d N = true) (hc : Calls P h vs.toArray w R1) (hr : ∀ en w2, R1 en w2 → ∃ v, en = .returned v ∧ GO P N ops rest ((d, v) :: e) w2 Q) : GO P N ops (i :: rest) e w Q :=
  GO.call ho rfl rfl hN (fun a hs => by
    have e1 := hs.evs hx
    have e3 : args.map a.eval = vs.toArray := by rw [← e1, ← List.map_toArray, Array.toArray_toList]
    simp [execOp, resolve, Deferred.ofValue, Act.eval, invoke, e3, run_callFunc hf hn hb]) hc hr
theorem GO.clo {h : FuncId} {fn : Func} {c : Operand} {args : Array Operand} {tys : Array TypeId} {vs : List Value} {us : Array Value} {R1 : Ending → World → Prop} (ho : ops[i]? = some ⟨some d, .call { callee := .value c, args := args, argTypes := tys }, ty, ps, af, none⟩) (hcl : ev e c = some (.func (.func h) #[] us)) (hf : P.funcs[h]? = some fn) (hn : (fn.name == "runtime.NumGoroutine") = false) (hb : fn.body.isNone = false)
    (hx : evs e args.toList = some vs) (hN : Nat.blt d N = true) (hc : Calls P h (vs.toArray ++ us) w R1) (hr : ∀ en w2, R1 en w2 → ∃ v, en = .returned v ∧ GO P N ops rest ((d, v) :: e) w2 Q) : GO P N ops (i :: rest) e w Q :=
  GO.call ho rfl rfl hN (fun a hs => by
    have e1 := hs.evs hx
    have e3 : args.map a.eval = vs.toArray := by rw [← e1, ← List.map_toArray, Array.toArray_toList]
    simp [execOp, resolve, Deferred.ofValue, hs.ev hcl, invoke, e3, run_callFunc hf hn hb]) hc hr
end
end Go.Proofs.YtbjfinndngafoaaGreat
