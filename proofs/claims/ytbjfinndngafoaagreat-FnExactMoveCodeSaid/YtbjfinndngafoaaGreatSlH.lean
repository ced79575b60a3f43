/-
  Maps from whole numbers to whole numbers.
-/
import Derived.Test.YtbjfinndngafoaaGreatSlG
import Derived.MapKept
set_option linter.unusedVariables false
set_option linter.unusedSimpArgs false
namespace Go.Proofs.YtbjfinndngafoaaGreat
open Go.RowKit
def mget : List (Int × Int) → Int → Option Int
  | [], _ => none
  | p :: r, k => if k = p.1 then some p.2 else mget r k
def mput : List (Int × Int) → Int → Int → List (Int × Int)
  | [], k, v => [(k, v)]
  | p :: r, k, v => if k = p.1 then (k, v) :: r else p :: mput r k v
def mpairs (kk kv : IntKind) (es : List MapEntry) (m : List (Int × Int)) : Prop := es.map (fun x => (x.key, x.val)) = m.map (fun p => (Value.int kk p.1, Value.int kv p.2))
section
variable {w0 w w' : World} {L : List HObj} {b j : Nat} {kk kv : IntKind} {m : List (Int × Int)}
theorem findNow_int {k : Int} : ∀ {es : List MapEntry} {m : List (Int × Int)} (i : Nat), mpairs kk kv es m →
    (mget m k = none ∧ Instr.findNow (.int kk) (.int kk k) es i = some none ∧ (∀ v, mpairs kk kv (es ++ [⟨.int kk k, .int kv v, 0⟩]) (mput m k v))) ∨
    (∃ v0 n e0, mget m k = some v0 ∧ Instr.findNow (.int kk) (.int kk k) es i = some (some (i + n, .int kv v0)) ∧ es[n]? = some e0 ∧ e0.key = .int kk k ∧ ∀ v, mpairs kk kv (es.modify n (fun e => { e with key := .int kk k, val := .int kv v })) (mput m k v))
  | [], [], _, _ => .inl ⟨rfl, rfl, fun v => rfl⟩
  | [], _ :: _, _, h => by cases h
  | _ :: _, [], _, h => by cases h
  | e :: es, p :: m, i, h => by
    have h' : (e.key, e.val) = (Value.int kk p.1, Value.int kv p.2) ∧ mpairs kk kv es m := by
      unfold mpairs at h
      simp only [List.map_cons, List.cons.injEq] at h
      exact h
    obtain ⟨he, hr⟩ := h'
    obtain ⟨he1, he2⟩ := Prod.mk.inj he
    by_cases hk : k = p.1
    · subst hk
      refine .inr ⟨p.2, 0, e, by simp [mget], ?_, rfl, he1, fun v => ?_⟩
      · simp [Instr.findNow, Instr.sameNow, he1, he2]
      · unfold mpairs
        simp only [List.modify, List.modifyTailIdx, List.modifyTailIdx.go, List.modifyHead, mput, if_true, List.map_cons]
        exact congrArg _ hr
    · have hbe : (k == p.1) = false := beq_eq_false_iff_ne.2 hk
      rcases findNow_int (k := k) (i + 1) hr with ⟨h1, h2, h3⟩ | ⟨v0, n, e0, h1, h2, h3, h4, h5⟩
      · refine .inl ⟨by simp [mget, hk, h1], ?_, fun v => ?_⟩
        · simp [Instr.findNow, Instr.sameNow, he1, hbe, h2]
        · unfold mpairs
          simp only [mput, if_neg hk, List.cons_append, List.map_cons]
          exact congr (congrArg List.cons he) (h3 v)
      · refine .inr ⟨v0, n + 1, e0, by simp [mget, hk, h1], ?_, h3, h4, fun v => ?_⟩
        · simp [Instr.findNow, Instr.sameNow, he1, hbe, h2, Nat.add_assoc, Nat.add_comm 1 n]
        · unfold mpairs
          simp only [mput, if_neg hk, List.map_cons, List.modify_succ_cons]
          exact congr (congrArg List.cons he) (h5 v)
end
section
variable {P : Program} {N : Nat} {e : Env} {w0 w : World} {L : List HObj} {Q : Act → World → Prop} {ops : Array Oper} {i d : Nat} {rest : List Nat} {ty : TypeId} {ps : String} {af : Array Edge} {b j : Nat} {kk kv : IntKind} {m : List (Int × Int)}
end
end Go.Proofs.YtbjfinndngafoaaGreat
