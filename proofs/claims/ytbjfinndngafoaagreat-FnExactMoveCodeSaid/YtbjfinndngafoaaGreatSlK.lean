/-
  Many steps at once: control and plain values by one evaluation; regions of open order in one order, where the others come to the same.
-/
import Derived.Test.YtbjfinndngafoaaGreatSlI
import Derived.Still
set_option linter.unusedVariables false
set_option linter.unusedSimpArgs false
namespace Go.Proofs.YtbjfinndngafoaaGreat
open Go.RowKit
def kIx : IntKind → Nat
  | .i8 => 0 | .i16 => 1 | .i32 => 2 | .i64 => 3 | .u8 => 4 | .u16 => 5 | .u32 => 6 | .u64 => 7
theorem kIx_inj {a b : IntKind} (h : Nat.beq (kIx a) (kIx b) = true) : a = b := by
  cases a <;> cases b <;> first | rfl | cases h
def ibin (op : BinOp) (k : IntKind) (m n : Int) : Option Value :=
  match op with
  | .add => some (.int k (k.wrap (m + n)))
  | .sub => some (.int k (k.wrap (m - n)))
  | .mul => some (.int k (k.wrap (m * n)))
  | .lss => some (.bool (decide (m < n)))
  | .leq => some (.bool (decide (m ≤ n)))
  | .gtr => some (.bool (decide (n < m)))
  | .geq => some (.bool (decide (n ≤ m)))
  | .eql => some (.bool (decide (m = n)))
  | .neq => some (.bool (!decide (m = n)))
  | _ => none
def pval (e : Env) : Op → Option Value
  | .move x => ev e x
  | .assign x => ev e x
  | .binOp op _ x y _ => match ev e x with
    | some (.int k m) => match ev e y with
      | some (.int k' n) => bif Nat.beq (kIx k) (kIx k') then ibin op k m n else none
      | _ => none
    | _ => none
  | .unOp .not _ x => match ev e x with
    | some (.bool b) => some (.bool (!b))
    | _ => none
  | .extract x n => match ev e x with
    | some (.tuple vs) => vs[n]?
    | _ => none
  | .pick c x y => match ev e c with
    | some (.bool true) => ev e x
    | some (.bool false) => ev e y
    | _ => none
  | _ => none
def pure1 (N : Nat) (ops : Array Oper) (i : Nat) (e : Env) : Option (Nat × Value) :=
  match ops[i]? with
  | some ⟨some d, op, _, _, _, none⟩ => match pval e op with
    | some v => bif Nat.blt d N then some (d, v) else none
    | none => none
  | _ => none
def cls (o : Oper) : Nat :=
  match o.op with
  | .move _ => 0
  | .assign _ => 0
  | .pick _ _ _ => 0
  | .binOp _ _ _ _ _ => 0
  | .unOp _ _ _ => 0
  | .convert _ _ _ => 0
  | .build _ _ => 0
  | .fieldAddr _ _ _ => 0
  | .indexAddr _ _ _ => 0
  | .index _ _ _ => 0
  | .extract _ _ => 0
  | .makeFunc _ _ _ => 0
  | .nilCheck _ => 0
  | .slice _ _ _ _ _ => 1
  | .call c => match c.callee with
    | .builtin .len => 1
    | .builtin .cap => 1
    | .builtin .max => 1
    | .builtin .min => 1
    | _ => 2
  | .load _ _ => 1
  | .lookup _ _ _ _ => 1
  | _ => 2
section
variable {P : Program} {f : FuncId} {N : Nat} {e e' : Env} {k k' : List Item} {w : World} {R : Ending → World → Prop} {Q : Act → World → Prop} {ops : Array Oper} {l l' : List Nat} {i d : Nat} {v : Value}
theorem pval_ok {op : Op} {ty : TypeId} {ps : String} {af : Array Edge} {rest : List Nat} (ho : ops[i]? = some ⟨some d, op, ty, ps, af, none⟩) (h : pval e op = some v) (hN : Nat.blt d N = true) : cls ⟨some d, op, ty, ps, af, none⟩ = 0 ∧ ∀ {w : World} {Q : Act → World → Prop}, GO P N ops rest ((d, v) :: e) w Q → GO P N ops (i :: rest) e w Q := by
  cases op <;> try (cases h; done)
  case move x => exact ⟨rfl, fun g => GO.move ho h hN g⟩
  case assign x => exact ⟨rfl, fun g => GO.assign ho h hN g⟩
  case pick c x y =>
    refine ⟨rfl, fun g => ?_⟩
    simp only [pval] at h
    split at h
    · rename_i hc; exact GO.pickT ho hc rfl h hN g
    · rename_i hc; exact GO.pickF ho hc rfl h hN g
    · cases h
  case extract x n =>
    refine ⟨rfl, fun g => ?_⟩
    simp only [pval] at h
    split at h
    · rename_i hx; exact GO.extract ho hx h hN g
    · cases h
  case unOp uo t x =>
    refine ⟨rfl, fun g => ?_⟩
    cases uo <;> simp only [pval] at h <;> try (cases h; done)
    split at h
    · rename_i hx
      obtain rfl := Option.some.inj h
      exact GO.not ho hx hN g
    · cases h
  case binOp op t x y t' =>
    refine ⟨rfl, fun g => ?_⟩
    simp only [pval] at h
    split at h
    · rename_i kd m hx
      split at h
      · rename_i kd' n hy
        cases hk : Nat.beq (kIx kd) (kIx kd') with
        | false => rw [hk] at h; cases h
        | true =>
          rw [hk] at h
          obtain rfl := kIx_inj hk
          cases op <;> simp only [ibin, cond_true] at h <;> first
            | cases h; done
            | obtain rfl := Option.some.inj h
              first
              | exact GO.add ho hx hy hN g
              | exact GO.sub ho hx hy hN g
              | exact GO.mul ho hx hy hN g
              | exact GO.lss ho hx hy hN g
              | exact GO.leq ho hx hy hN g
              | exact GO.gtr ho hx hy hN g
              | exact GO.geq ho hx hy hN g
              | exact GO.eql ho hx hy hN g
              | exact GO.neq ho hx hy hN g
      · cases h
    · cases h
theorem pure1_ok (h : pure1 N ops i e = some (d, v)) : ∃ o, ops[i]? = some o ∧ o.dst = some d ∧ cls o = 0 ∧ Nat.blt d N = true ∧ ∀ {rest : List Nat} {w : World} {Q : Act → World → Prop}, GO P N ops rest ((d, v) :: e) w Q → GO P N ops (i :: rest) e w Q := by
  unfold pure1 at h
  split at h
  · rename_i d' op ty ps af ho
    split at h
    · rename_i v' hv
      cases hb : Nat.blt d' N with
      | false => rw [hb] at h; cases h
      | true =>
        rw [hb] at h
        obtain ⟨rfl, rfl⟩ := Prod.mk.inj (Option.some.inj h)
        exact ⟨_, ho, rfl, (pval_ok (P := P) (rest := []) ho hv hb).1, hb, fun g => (pval_ok ho hv hb).2 g⟩
    · cases h
  · cases h
def runP (N : Nat) (ops : Array Oper) : Nat → List Nat → Env → Option (List Nat × Env)
  | 0, l, e => some (l, e)
  | n + 1, i :: r, e => match pure1 N ops i e with
    | some (d, v) => runP N ops n r ((d, v) :: e)
    | none => none
  | _ + 1, [], _ => none
theorem GO.ps (n : Nat) : ∀ {l : List Nat} {e : Env}, runP N ops n l e = some (l', e') → GO P N ops l' e' w Q → GO P N ops l e w Q := by
  induction n with
  | zero =>
    intro l e h g
    obtain ⟨rfl, rfl⟩ := Prod.mk.inj (Option.some.inj h)
    exact g
  | succ n ih =>
    intro l e h g
    cases l with
    | nil => cases h
    | cons i r =>
      simp only [runP] at h
      split at h
      · rename_i d v hp
        obtain ⟨o, _, _, _, _, hg⟩ := pure1_ok (P := P) hp
        exact hg (ih h g)
      · cases h
def runC (N : Nat) : Nat → Env → List Item → Option (Env × List Item)
  | 0, e, k => some (e, k)
  | n + 1, e, it :: k => match it with
    | .code c => match c with
      | .seq x y => runC N n e (.code x :: .code y :: k)
      | .skip => runC N n e k
      | .block id c => runC N n e (.code c :: .inBlock id :: k)
      | .loop c => runC N n e (.code c :: .inLoop c :: k)
      | .exit id => match exitTo id k with
        | some k' => runC N n e k'
        | none => none
      | .region _ ops false => match runP N ops ops.size (List.range ops.size) e with
        | some ([], e') => runC N n e' k
        | _ => none
      | .cond c x y => match ev e c with
        | some (.bool true) => runC N n e (.code x :: k)
        | some (.bool false) => runC N n e (.code y :: k)
        | _ => none
      | _ => none
    | .inBlock _ => runC N n e k
    | .inLoop c => runC N n e (.code c :: .inLoop c :: k)
    | _ => none
  | _ + 1, _, [] => none
theorem G.run (n : Nat) : ∀ {e : Env} {k : List Item}, runC N n e k = some (e', k') → G P f N e' k' w R → G P f N e k w R := by
  induction n with
  | zero =>
    intro e k h g
    obtain ⟨rfl, rfl⟩ := Prod.mk.inj (Option.some.inj h)
    exact g
  | succ n ih =>
    intro e k h g
    cases k with
    | nil => cases h
    | cons it k =>
      cases it <;> try (cases h; done)
      case inBlock id => exact G.blockEnd (ih h g)
      case inLoop c => exact G.again (ih h g)
      case code c =>
        cases c <;> try (cases h; done)
        case seq x y => exact G.seq (ih h g)
        case skip => exact G.skip (ih h g)
        case block id c => exact G.block (ih h g)
        case loop c => exact G.loop (ih h g)
        case exit id =>
          simp only [runC] at h
          split at h
          · rename_i hk; exact G.exit hk (ih h g)
          · cases h
        case region id ops draw =>
          cases draw
          · simp only [runC] at h
            split at h
            · rename_i hp; exact G.region (GO.ps _ hp (GO.nil (ih h g)))
            · cases h
          · cases h
        case cond c x y =>
          simp only [runC] at h
          split at h
          · rename_i hc; exact G.yes hc (ih h g)
          · rename_i hc; exact G.no hc (ih h g)
          · cases h
theorem value_run {s : Sem Value} {n : Next} {w' : World} (h : (do let x ← s; pure (Next.value x) : Sem Next).run P w = .ok n w') : ∃ v, n = .value v := by
  rw [Sem.run_bind] at h
  cases hr : s.run P w with
  | ok x w1 =>
    rw [hr] at h
    simp only [Result.andThen_ok, Sem.run_pure] at h
    injection h with h1 h2
    exact ⟨x, h1.symm⟩
  | halt x w1 =>
    rw [hr] at h
    cases h
theorem value_bind {β : Type} {s : Sem β} {f : β → Sem Next} {n : Next} {w w' : World} (hf : ∀ x w n w', (f x).run P w = .ok n w' → ∃ v, n = .value v) (h : (s >>= f).run P w = .ok n w') : ∃ v, n = .value v := by
  rw [Sem.run_bind] at h
  cases hr : s.run P w with
  | ok x w1 =>
    rw [hr] at h
    exact hf _ _ _ _ h
  | halt x w1 =>
    rw [hr] at h
    cases h
theorem valued {o : Oper} (hc : cls o ≠ 2) {ρ : Operand → Value} {n : Next} {w' : World} (h : (execOp ρ o).run P w = .ok n w') : ∃ v, n = .value v := by
  obtain ⟨dst, op, ty, ps, af, gd⟩ := o
  cases op <;> try (exact absurd rfl hc)
  case move x => simp only [execOp, Sem.run_pure] at h; injection h with h1 h2; exact ⟨_, h1.symm⟩
  case assign x => simp only [execOp, Sem.run_pure] at h; injection h with h1 h2; exact ⟨_, h1.symm⟩
  case pick c x y =>
    simp only [execOp, Sem.run_bind] at h
    cases hr : (asBool (ρ c)).run P w with
    | ok b w1 => rw [hr] at h; simp only [Result.andThen_ok, Sem.run_pure] at h; injection h with h1 h2; exact ⟨_, h1.symm⟩
    | halt b w1 => rw [hr] at h; cases h
  case nilCheck x =>
    simp only [execOp] at h
    split at h
    · simp [runtimePanic] at h
    · simp [runtimePanic] at h
    · simp [runtimePanic] at h
    · split at h
      · simp [runtimePanic] at h
      · refine value_bind (fun x w n w' h => ?_) h
        refine value_bind (fun x w n w' h => ?_) h
        split at h
        · refine value_bind (fun x w n w' h => ?_) h
          simp only [Sem.run_pure] at h; injection h with h1 h2; exact ⟨_, h1.symm⟩
        · simp only [Sem.run_pure] at h; injection h with h1 h2; exact ⟨_, h1.symm⟩
      · simp only [Sem.run_pure] at h; injection h with h1 h2; exact ⟨_, h1.symm⟩
    · simp only [Sem.run_pure] at h; injection h with h1 h2; exact ⟨_, h1.symm⟩
  case call c =>
    obtain ⟨callee, args, tys⟩ := c
    cases callee <;> try (exact absurd rfl hc)
    case builtin b =>
      cases b <;> try (exact absurd rfl hc)
      all_goals
        simp only [execOp, resolve, invoke, builtin, pure_bind] at h
        exact value_run h
  all_goals exact value_run h
theorem GO.inv {o : Oper} (ho : ops[i]? = some o) (hc : cls o ≠ 2) (hd : o.dst = some d) (hv : Go.Proofs.YtbjfinndngafoaaGreat.look e' d = some v) (h : GO P N ops [i] e w (fun a' w' => w' = w ∧ Sat N e' a')) {a : Act} (hs : Sat N e a) :
    ((Region.wanted o (yielded ops a.tmps) = true ∧ (execOp a.eval o).run P w = .ok (.value v) w) ∨ (Region.wanted o (yielded ops a.tmps) = false ∧ v = undef)) ∧ Sat N e' (a.put (some d) v) := by
  have same : ∀ u, Sat N e' (a.put (some d) u) → u = v := fun u hu => by
    have h1 := hu.at_ d v hv
    simp only [Act.put] at h1
    have hlt := (Array.getElem?_eq_some_iff.1 h1).1
    rw [Array.size_setIfInBounds] at hlt
    rw [Array.getElem?_setIfInBounds_self_of_lt hlt] at h1
    exact Option.some.inj h1
  have h1 := h a hs
  simp only [wpOps, ho] at h1
  cases hw : Region.wanted o (yielded ops a.tmps) with
  | true =>
    rw [hw, if_pos rfl] at h1
    rcases h1 with h1 | ⟨_, a0, w0, h0, _⟩
    · unfold Oper.wp at h1
      cases hr : (execOp a.eval o).run P w with
      | ok n w' =>
        obtain ⟨u, rfl⟩ := valued hc hr
        rw [hr] at h1
        simp only [Oper.upon, hd] at h1
        obtain ⟨_, rfl, h2⟩ := h1
        have := same u h2
        subst this
        exact ⟨.inl ⟨rfl, rfl⟩, h2⟩
      | halt x w' =>
        rw [hr] at h1
        cases x <;> simp only [Oper.upon] at h1 <;> exact absurd h1.1 (by simp)
    · cases h0
  | false =>
    rw [hw, if_neg (by decide)] at h1
    simp only [hd] at h1
    have := same undef h1.2.2
    subst this
    exact ⟨.inr ⟨rfl, rfl⟩, h1.2.2⟩
def QF : Exit → Act → World → Prop := fun _ _ _ => False
theorem wpOp_exit {Q Q' : Exit → Act → World → Prop} (hp : ∀ c a w, Q (.panic c) a w → Q' (.panic c) a w) (hl : ∀ a w, ¬ Q .outgrown a w) {i : Nat} {K : Act → World → Prop} {a : Act} {w : World} (h : wpOp P ops Q i K a w) : wpOp P ops Q' i K a w := by
  unfold wpOp at *
  split
  · rename_i ho; simp only [ho] at h; exact h
  · rename_i o ho
    simp only [ho] at h
    split
    · rename_i hw
      rw [if_pos hw] at h
      rcases h with h | ⟨_, a0, w0, h0⟩
      · refine .inl ?_
        unfold Oper.wp at h ⊢
        generalize (execOp a.eval o).run P w = r at h ⊢
        cases r with
        | ok n w' =>
          cases n <;> simp only [Oper.upon] at h ⊢ <;> first
            | exact h
            | exact Calls.mono h (fun e w'' he => by cases e with
                | returned v => exact he
                | panicked c => exact hp _ _ _ he
                | outgrown => obtain ⟨a1, w1, h1⟩ := he; exact absurd h1 (hl _ _))
        | halt x w' => cases x <;> simp only [Oper.upon] at h ⊢ <;> exact hp _ _ _ h
      · exact absurd h0 (hl _ _)
    · rename_i hw
      rw [if_neg hw] at h
      exact h
def YieldsS (P : Program) (ops : Array Oper) (S : World → Prop) (o : Oper) (v : Value) (a : Act) : Prop :=
  (Region.wanted o (yielded ops a.tmps) = true ∧ ∀ w, S w → (execOp a.eval o).run P w = .ok (.value v) w) ∨ (Region.wanted o (yielded ops a.tmps) = false ∧ v = undef)
theorem YieldsS.of_same {S : World → Prop} {o : Oper} {v : Value} {a a' : Act} (hy : YieldsS P ops S o v a) (he : execOp a'.eval o = execOp a.eval o) (hw : Region.wanted o (yielded ops a'.tmps) = Region.wanted o (yielded ops a.tmps)) : YieldsS P ops S o v a' := by
  unfold YieldsS at *
  rw [he, hw]
  exact hy
theorem YieldsS.at_ {S : World → Prop} {o : Oper} {v : Value} {a : Act} (hy : YieldsS P ops S o v a) (hS : S w) : YieldsAt P ops w o v a := by
  rcases hy with h | h
  · exact .inl ⟨h.1, .inl (h.2 w hS)⟩
  · exact .inr h
theorem putS {S : World → Prop} {j : Nat} {oi oj : Oper} {v : Value} (hj : ops[j]? = some oj) (hap : oi.apart ops oj = true)
    (hsi : ∀ cs b, oi.op ≠ .select cs b) (hsj : ∀ cs b, oj.op ≠ .select cs b) {K : Act → World → Prop} {a : Act}
    (hy : YieldsS P ops S oi v a) (h : wpOp P ops QF j K (a.put oi.dst v) w) :
    wpOp P ops QF j (fun a' w' => YieldsS P ops S oi v a' ∧ K (a'.put oi.dst v) w') a w := by
  obtain ⟨h1, h2, h3⟩ := Oper.apart_spec hap
  have keep : ∀ (a : Act), YieldsS P ops S oi v a → ∀ u, YieldsS P ops S oi v (a.put oj.dst u) := fun a hy u =>
    hy.of_same (execOp_put oi hsi a oj.dst u h3) (wanted_put oi a oj.dst u h3)
  have keepD : ∀ d, YieldsS P ops S oi v { a with defers := d :: a.defers } := fun d => hy.of_same rfl rfl
  unfold wpOp at *
  simp only [hj] at *
  rw [wanted_put oj a oi.dst v h1] at h
  split
  · rename_i hw
    simp only [hw, if_true] at h
    rcases h with h | ⟨_, a0, w0, h0⟩
    · refine .inl ?_
      unfold Oper.wp at *
      rw [execOp_put oj hsj a oi.dst v h1] at h
      generalize (execOp a.eval oj).run P w = r at *
      cases r with
      | ok n w' =>
        cases n <;> simp only [Oper.upon] at h ⊢
        case value u => exact ⟨keep a hy u, by rw [← Act.put_comm a v u h2]; exact h⟩
        case skip => exact ⟨keep a hy _, by rw [← Act.put_comm a v undef h2]; exact h⟩
        case defer d =>
          refine ⟨keep _ (keepD d) _, ?_⟩
          rw [← Act.put_comm _ v undef h2, ← Act.put_defers]
          exact h
        case enter f args =>
          refine Calls.mono h fun e w'' he => ?_
          cases e with
          | returned u => exact ⟨keep a hy u, by rw [← Act.put_comm a v u h2]; exact he⟩
          | panicked c => exact he.elim
          | outgrown => exact he
        case row row args => exact Rows.mono h fun u w'' he => ⟨keep a hy u, by rw [← Act.put_comm a v u h2]; exact he⟩
      | halt x w' =>
        cases x <;> simp only [Oper.upon] at h ⊢
        case panic u => exact h.elim
    · exact h0.elim
  · rename_i hw
    simp only [hw] at h
    exact ⟨keep a hy _, by rw [← Act.put_comm a v undef h2]; exact h⟩
def LX (P : Program) (ops : Array Oper) (S : World → Prop) (st : List Nat) (z : List Nat) (Q : Act → World → Prop) : List Nat → Act → World → Prop
  | [], a, w => Q a w
  | i :: r, a, w => ∃ o, ops[i]? = some o ∧
    ((cls o = 0 ∧ ∃ v, YieldsS P ops (fun _ => True) o v a ∧ LX P ops S st z Q r (a.put o.dst v) w) ∨
     (cls o = 1 ∧ st.contains i = true ∧ ∃ v, YieldsS P ops S o v a ∧ LX P ops S st z Q r (a.put o.dst v) w) ∨
     (cls o = 1 ∧ st.contains i = false ∧ ∃ v, YieldsAt P ops w o v a ∧ LX P ops S st z Q r (a.put o.dst v) w) ∨
     (cls o = 2 ∧ wpOp P ops QF i (fun a w => (S w ∨ z.contains i = true) ∧ LX P ops S st z Q r a w) a w))
def indepB (ops : Array Oper) (si : Bool) (oi oj : Oper) : Bool := oi.apart ops oj && (Nat.beq (cls oi) 0 || (Nat.beq (cls oi) 1 && (si || Nat.ble (cls oj) 1)))
variable {S : World → Prop} {st : List Nat} {z : List Nat}
theorem LX.swap (hsel : Region.noSelect ops = true) {i j : Nat} {oi oj : Oper} {r : List Nat} {a : Act} (hi : ops[i]? = some oi) (hj : ops[j]? = some oj) (hin : indepB ops (st.contains i) oi oj = true) (h : LX P ops S st z Q (i :: j :: r) a w) : LX P ops S st z Q (j :: i :: r) a w := by
  unfold indepB at hin
  rw [Bool.and_eq_true] at hin
  obtain ⟨hap, hc⟩ := hin
  obtain ⟨h1, h2, h3⟩ := Oper.apart_spec hap
  have hsi := fun cs b => Region.noSelect_spec hsel i oi cs b hi
  have hsj := fun cs b => Region.noSelect_spec hsel j oj cs b hj
  have keepY : ∀ {T : World → Prop} {v : Value} (u : Value), YieldsS P ops T oi v a → YieldsS P ops T oi v (a.put oj.dst u) := fun u hy => hy.of_same (execOp_put oi hsi a oj.dst u h3) (wanted_put oi a oj.dst u h3)
  have keepA : ∀ {v : Value} (u : Value), YieldsAt P ops w oi v a → YieldsAt P ops w oi v (a.put oj.dst u) := fun u hy => hy.of_same (execOp_put oi hsi a oj.dst u h3) (wanted_put oi a oj.dst u h3)
  have backY : ∀ {T : World → Prop} {v u : Value}, YieldsS P ops T oj u (a.put oi.dst v) → YieldsS P ops T oj u a := fun {T v u} hy => hy.of_same (execOp_put oj hsj a oi.dst v h1).symm (wanted_put oj a oi.dst v h1).symm
  have backA : ∀ {v u : Value}, YieldsAt P ops w oj u (a.put oi.dst v) → YieldsAt P ops w oj u a := fun {v u} hy => hy.of_same (execOp_put oj hsj a oi.dst v h1).symm (wanted_put oj a oi.dst v h1).symm
  have comm : ∀ (v u : Value), (a.put oi.dst v).put oj.dst u = (a.put oj.dst u).put oi.dst v := fun v u => Act.put_comm a v u h2
  obtain ⟨o, ho, h⟩ := h
  rw [hi] at ho
  obtain rfl := Option.some.inj ho
  rcases h with ⟨c0, v, hy, o', ho', h⟩ | ⟨c1, cs, v, hy, o', ho', h⟩ | ⟨c1, cs, v, hy, o', ho', h⟩ | ⟨c2, _⟩
  · rw [hj] at ho'
    obtain rfl := Option.some.inj ho'
    rcases h with ⟨d0, u, hu, h⟩ | ⟨d1, ds, u, hu, h⟩ | ⟨d1, ds, u, hu, h⟩ | ⟨d2, h⟩
    · exact ⟨_, hj, .inl ⟨d0, u, backY hu, _, hi, .inl ⟨c0, v, keepY u hy, by rw [← comm]; exact h⟩⟩⟩
    · exact ⟨_, hj, .inr (.inl ⟨d1, ds, u, backY hu, _, hi, .inl ⟨c0, v, keepY u hy, by rw [← comm]; exact h⟩⟩)⟩
    · exact ⟨_, hj, .inr (.inr (.inl ⟨d1, ds, u, backA hu, _, hi, .inl ⟨c0, v, keepY u hy, by rw [← comm]; exact h⟩⟩))⟩
    · refine ⟨_, hj, .inr (.inr (.inr ⟨d2, ?_⟩))⟩
      exact wpOp_mono (fun a' w' h' => ⟨h'.2.1, _, hi, .inl ⟨c0, v, h'.1, h'.2.2⟩⟩) (putS hj hap hsi hsj hy h)
  · rw [hj] at ho'
    obtain rfl := Option.some.inj ho'
    rcases h with ⟨d0, u, hu, h⟩ | ⟨d1, ds, u, hu, h⟩ | ⟨d1, ds, u, hu, h⟩ | ⟨d2, h⟩
    · exact ⟨_, hj, .inl ⟨d0, u, backY hu, _, hi, .inr (.inl ⟨c1, cs, v, keepY u hy, by rw [← comm]; exact h⟩)⟩⟩
    · exact ⟨_, hj, .inr (.inl ⟨d1, ds, u, backY hu, _, hi, .inr (.inl ⟨c1, cs, v, keepY u hy, by rw [← comm]; exact h⟩)⟩)⟩
    · exact ⟨_, hj, .inr (.inr (.inl ⟨d1, ds, u, backA hu, _, hi, .inr (.inl ⟨c1, cs, v, keepY u hy, by rw [← comm]; exact h⟩)⟩))⟩
    · refine ⟨_, hj, .inr (.inr (.inr ⟨d2, ?_⟩))⟩
      exact wpOp_mono (fun a' w' h' => ⟨h'.2.1, _, hi, .inr (.inl ⟨c1, cs, v, h'.1, h'.2.2⟩)⟩) (putS hj hap hsi hsj hy h)
  · rw [hj] at ho'
    obtain rfl := Option.some.inj ho'
    rcases h with ⟨d0, u, hu, h⟩ | ⟨d1, ds, u, hu, h⟩ | ⟨d1, ds, u, hu, h⟩ | ⟨d2, h⟩
    · exact ⟨_, hj, .inl ⟨d0, u, backY hu, _, hi, .inr (.inr (.inl ⟨c1, cs, v, keepA u hy, by rw [← comm]; exact h⟩))⟩⟩
    · exact ⟨_, hj, .inr (.inl ⟨d1, ds, u, backY hu, _, hi, .inr (.inr (.inl ⟨c1, cs, v, keepA u hy, by rw [← comm]; exact h⟩))⟩)⟩
    · exact ⟨_, hj, .inr (.inr (.inl ⟨d1, ds, u, backA hu, _, hi, .inr (.inr (.inl ⟨c1, cs, v, keepA u hy, by rw [← comm]; exact h⟩))⟩))⟩
    · rw [c1, d2, cs] at hc; exact absurd hc (by decide)
  · rw [c2] at hc; cases hc
theorem LX.cons_mono {i : Nat} {r r' : List Nat} {a : Act} (hm : ∀ a w, LX P ops S st z Q r a w → LX P ops S st z Q r' a w) (h : LX P ops S st z Q (i :: r) a w) : LX P ops S st z Q (i :: r') a w := by
  obtain ⟨o, ho, h⟩ := h
  refine ⟨o, ho, ?_⟩
  rcases h with ⟨c0, v, hy, h⟩ | ⟨c1, cs, v, hy, h⟩ | ⟨c1, cs, v, hy, h⟩ | ⟨c2, h⟩
  · exact .inl ⟨c0, v, hy, hm _ _ h⟩
  · exact .inr (.inl ⟨c1, cs, v, hy, hm _ _ h⟩)
  · exact .inr (.inr (.inl ⟨c1, cs, v, hy, hm _ _ h⟩))
  · exact .inr (.inr (.inr ⟨c2, wpOp_mono (fun a w h => ⟨h.1, hm _ _ h.2⟩) h⟩))
def indepAt (ops : Array Oper) (st : List Nat) (i j : Nat) : Bool := match ops[i]?, ops[j]? with
  | some oi, some oj => indepB ops (st.contains i) oi oj
  | _, _ => false
theorem LX.front (hsel : Region.noSelect ops = true) {j : Nat} {l2 : List Nat} : ∀ {l1 : List Nat} {a : Act} {w : World}, (∀ i, i ∈ l1 → indepAt ops st i j = true) → LX P ops S st z Q (l1 ++ j :: l2) a w → LX P ops S st z Q (j :: (l1 ++ l2)) a w
  | [], a, w, _, h => h
  | i :: l1, a, w, hin, h => by
    have h1 : LX P ops S st z Q (i :: j :: (l1 ++ l2)) a w := LX.cons_mono (fun a w h => LX.front hsel (fun i hi => hin i (List.mem_cons_of_mem _ hi)) h) h
    have h2 := hin i (List.mem_cons_self ..)
    unfold indepAt at h2
    split at h2
    · rename_i oi oj hi hj
      exact LX.swap hsel hi hj h2 h1
    · cases h2
theorem LX.first {j : Nat} {r : List Nat} {a : Act} {Q' : Exit → Act → World → Prop} (hS : S w ∨ st.contains j = false) (h : LX P ops S st z Q (j :: r) a w) : wpOp P ops Q' j (fun a w' => (w' = w ∨ S w' ∨ z.contains j = true) ∧ LX P ops S st z Q r a w') a w := by
  obtain ⟨o, ho, h⟩ := h
  have one : ∀ {v : Value}, YieldsAt P ops w o v a → LX P ops S st z Q r (a.put o.dst v) w → wpOp P ops Q' j (fun a w' => (w' = w ∨ S w' ∨ z.contains j = true) ∧ LX P ops S st z Q r a w') a w := fun hy h => wpOp_of_stOp (K := fun a' => LX P ops S st z Q r a' w) (fun _ h => ⟨.inl rfl, h⟩) (hy.stOp ho h)
  rcases h with ⟨c0, v, hy, h⟩ | ⟨c1, cs, v, hy, h⟩ | ⟨c1, cs, v, hy, h⟩ | ⟨c2, h⟩
  · exact one (hy.at_ trivial) h
  · rcases hS with hS' | hS'
    · exact one (hy.at_ hS') h
    · rw [hS'] at cs; cases cs
  · exact one hy h
  · exact wpOp_exit (fun _ _ _ hf => hf.elim) (fun _ _ hf => hf) (wpOp_mono (fun a w h => ⟨.inr h.1, h.2⟩) h)
def waitsB (ops : Array Oper) : Nat → Nat → Nat → Bool
  | 0, _, _ => false
  | n + 1, j, i => (needs ops j).any fun m => Nat.beq m i || (Nat.blt i m && waitsB ops n m i)
theorem waits_done {b : Nat → Bool} (hcl : ∀ m, m < ops.size → b m = true → ∀ i ∈ needs ops m, b i = true) (hfw : forward ops = true) : ∀ (n j i : Nat), j < ops.size → (∀ m ∈ needs ops j, b m = true) → waitsB ops n j i = true → b i = true
  | 0, _, _, _, _, h => by cases h
  | n + 1, j, i, hj, hr, h => by
    obtain ⟨m, hm, h1⟩ := List.any_eq_true.1 h
    have hmj : m < j := Nat.le_of_ble_eq_true (List.all_eq_true.1 (List.all_eq_true.1 hfw j (List.mem_range.2 hj)) m hm)
    rcases Bool.or_eq_true_iff.1 h1 with h1 | h1
    · rw [← Nat.eq_of_beq_eq_true h1]; exact hr m hm
    · rw [Bool.and_eq_true] at h1
      exact waits_done hcl hfw n m i (by omega) (hcl m (by omega) (hr m hm)) h1.2
def pairsB (ops : Array Oper) (st : List Nat) : List Nat → Bool
  | [] => true
  | i :: r => (r.all fun j => indepAt ops st i j || waitsB ops ops.size j i) && pairsB ops st r
def permB (n : Nat) (ord : List Nat) : Bool := Nat.beq ord.length n && (List.range n).all fun j => ord.contains j
def lexOk (ops : Array Oper) (st ord : List Nat) : Bool := forward ops && Region.noSelect ops && permB ops.size ord && pairsB ops st ord
theorem pairs_spec {i j : Nat} : ∀ {l1 m2 l2 : List Nat}, pairsB ops st (l1 ++ i :: (m2 ++ j :: l2)) = true → indepAt ops st i j = true ∨ waitsB ops ops.size j i = true
  | [], m2, l2, h => by
    rw [List.nil_append, pairsB, Bool.and_eq_true] at h
    exact Bool.or_eq_true_iff.1 (List.all_eq_true.1 h.1 j (List.mem_append_right _ (List.mem_cons_self ..)))
  | x :: l1, m2, l2, h => by
    rw [List.cons_append, pairsB, Bool.and_eq_true] at h
    exact pairs_spec h.2
theorem nodup_of_full : ∀ {n : Nat} {l : List Nat}, l.length = n → (∀ j, j < n → j ∈ l) → l.Nodup ∧ ∀ j, j ∈ l → j < n
  | 0, l, hl, _ => by
    rw [List.eq_nil_of_length_eq_zero hl]
    exact ⟨List.nodup_nil, fun j hj => by cases hj⟩
  | n + 1, l, hl, h => by
    have hm := h n (Nat.lt_succ_self _)
    obtain ⟨h1, h2⟩ := nodup_of_full (n := n) (l := l.erase n) (by rw [List.length_erase_of_mem hm, hl]; rfl) (fun j hj => (List.mem_erase_of_ne (by omega)).2 (h j (by omega)))
    have hp : l.Perm (n :: l.erase n) := List.perm_cons_erase hm
    refine ⟨hp.nodup_iff.2 (List.nodup_cons.2 ⟨fun hn => absurd (h2 n hn) (Nat.lt_irrefl _), h1⟩), fun j hj => ?_⟩
    rcases List.mem_cons.1 (hp.mem_iff.1 hj) with h3 | h3
    · omega
    · have := h2 j h3; omega
theorem filter_split {b : Nat → Bool} {j : Nat} : ∀ {l : List Nat}, l.Nodup → j ∈ l → b j = false → ∃ m1 m2, l = m1 ++ j :: m2 ∧ (l.filter fun i => !b i) = (m1.filter fun i => !b i) ++ j :: (m2.filter fun i => !b i) ∧ (l.filter fun i => !upd b j i) = (m1.filter fun i => !b i) ++ (m2.filter fun i => !b i) := fun {l} hn hm hb => by
  obtain ⟨m1, m2, rfl⟩ := List.append_of_mem hm
  have hn' := List.nodup_append.1 hn
  have hj1 : j ∉ m1 := fun h => hn'.2.2 j h j (List.mem_cons_self ..) rfl
  have hj2 : j ∉ m2 := (List.nodup_cons.1 hn'.2.1).1
  have hu : ∀ m : List Nat, j ∉ m → (m.filter fun i => !upd b j i) = m.filter fun i => !b i := fun m hm => List.filter_congr (fun i hi => by rw [upd_ne b (show i ≠ j from fun e => hm (by rw [← e]; exact hi))])
  refine ⟨m1, m2, rfl, ?_, ?_⟩
  · rw [List.filter_append, List.filter_cons, hb]; rfl
  · rw [List.filter_append, List.filter_cons, upd_self, hu m1 hj1, hu m2 hj2]; rfl
def zOk (ops : Array Oper) (st z : List Nat) : Bool := z.all fun j => st.all fun i => waitsB ops ops.size j i
def GX (P : Program) (N : Nat) (ops : Array Oper) (S : World → Prop) (st : List Nat) (z : List Nat) (l : List Nat) (e : Env) (w : World) (Q : Act → World → Prop) : Prop := ∀ a, Sat N e a → LX P ops S st z Q l a w
theorem G.lexS {id : Nat} (hm : P.follows .mixedOrders = true) (S : World → Prop) (st ord z : List Nat) (hok : lexOk ops st ord = true) (hzo : zOk ops st z = true) (hS : S w.drew) (g : GX P N ops S st z ord e w.drew (Cont P f k R)) : G P f N e (.code (.region id ops true) :: k) w R := by
  simp only [lexOk, Bool.and_eq_true] at hok
  obtain ⟨⟨⟨hfw, hsel⟩, hperm⟩, hpairs⟩ := hok
  simp only [permB, Bool.and_eq_true] at hperm
  obtain ⟨hnd, hlt⟩ := nodup_of_full (Nat.eq_of_beq_eq_true hperm.1) (fun j hj => by simpa using List.all_eq_true.1 hperm.2 j (List.mem_range.2 hj))
  have hall : ∀ j, j < ops.size → j ∈ ord := fun j hj => by simpa using List.all_eq_true.1 hperm.2 j (List.mem_range.2 hj)
  refine G.regionAny (N := N) (e := e) hm hfw (fun b a w => (S w ∨ ∃ z', z.contains z' = true ∧ z' < ops.size ∧ b z' = true) ∧ LX P ops S st z (Cont P f k R) (ord.filter fun i => !b i) a w) (fun a hs => ?_) (fun j hj b a w hI hb hr hcl => ?_) (fun b a w hd hI => ?_)
  · refine ⟨.inl hS, ?_⟩
    have hf : (ord.filter fun i => !(fun _ => false) i) = ord := List.filter_eq_self.2 (fun _ _ => rfl)
    show LX P ops S st z (Cont P f k R) (ord.filter fun i => !(fun _ => false) i) a w.drew
    rw [hf]
    exact g a hs
  · obtain ⟨m1, m2, hl, hf, hfu⟩ := filter_split hnd (hall j hj) hb
    have h1 := hI.2
    have hSw : S w ∨ st.contains j = false := by
      rcases hI.1 with h | ⟨z', hz, hzs, hbz⟩
      · exact .inl h
      · cases hst : st.contains j with
        | false => exact .inr rfl
        | true =>
          have := waits_done hcl hfw _ z' j hzs (hcl z' hzs hbz) (List.all_eq_true.1 (List.all_eq_true.1 hzo z' (by simpa using hz)) j (by simpa using hst))
          rw [hb] at this; cases this
    rw [hf] at h1
    have h2 := LX.front hsel (fun i hi => by
      have him := List.mem_filter.1 hi
      obtain ⟨p1, p2, hp⟩ := List.append_of_mem him.1
      rw [hl, hp, List.append_assoc, List.cons_append] at hpairs
      have hib : b i = false := by simpa using him.2
      have hio : i ∈ ord := by rw [hl]; exact List.mem_append_left _ him.1
      have hne : i ≠ j := fun e => by
        rw [hl] at hnd
        exact (List.nodup_append.1 hnd).2.2 i him.1 j (List.mem_cons_self ..) e
      rcases pairs_spec hpairs with h | h
      · exact h
      · have := waits_done hcl hfw _ j i hj hr h
        rw [hib] at this; cases this) h1
    rw [wpOps_cons]
    refine wpOp_mono (fun a' w' h' => ?_) (LX.first hSw h2)
    refine ⟨rfl, ?_, ?_⟩
    · rcases h'.1 with e | e | e
      · rw [e]
        refine hI.1.imp (fun h => h) (fun ⟨z', hz, hzs, hbz⟩ => ⟨z', hz, hzs, ?_⟩)
        rw [upd_ne b (show z' ≠ j from fun e => by rw [e, hb] at hbz; cases hbz)]
        exact hbz
      · exact .inl e
      · exact .inr ⟨j, e, hj, upd_self b j⟩
    rw [hfu]
    exact h'.2
  · have h1 := hI.2
    rw [List.filter_eq_nil_iff.2 (fun i hi => by rw [hd i (hlt i hi)]; decide)] at h1
    exact h1
theorem G.lex {id : Nat} (hm : P.follows .mixedOrders = true) (ord : List Nat) (hok : lexOk ops [] ord = true) (g : GX P N ops (fun _ => True) [] [] ord e w.drew (Cont P f k R)) : G P f N e (.code (.region id ops true) :: k) w R := G.lexS hm _ _ ord [] hok rfl trivial g
theorem GX.nil (g : G P f N e k w R) : GX P N ops S st z [] e w (Cont P f k R) := fun a hs => g a hs
theorem GX.fin (hS : S w) (g : GX P N ops S st z l e w Q) : GO P N ops [] e w (fun a w => (S w ∨ z.contains i = true) ∧ LX P ops S st z Q l a w) := fun a hs => ⟨rfl, .inl hS, g a hs⟩
theorem GX.finZ (hz : z.contains i = true) (g : GX P N ops S st z l e w Q) : GO P N ops [] e w (fun a w => (S w ∨ z.contains i = true) ∧ LX P ops S st z Q l a w) := fun a hs => ⟨rfl, .inr hz, g a hs⟩
def clsAt (ops : Array Oper) (i : Nat) : Nat := match ops[i]? with
  | some o => cls o
  | none => 3
theorem inS {T : World → Prop} {o : Oper} (ho : ops[i]? = some o) (hc : cls o ≠ 2) (hd : o.dst = some d) (hv : look e' d = some v) (hT : T w) (h : ∀ w, T w → ∀ Q, GO P N ops [] e' w Q → GO P N ops [i] e w Q) {a : Act} (hs : Sat N e a) : YieldsS P ops T o v a ∧ Sat N e' (a.put (some d) v) := by
  have hall := fun w (hw : T w) => GO.inv ho hc hd hv (h w hw (fun a' w' => w' = w ∧ Sat N e' a') (fun a hs => ⟨rfl, rfl, hs⟩)) hs
  refine ⟨?_, (hall w hT).2⟩
  cases hw : Region.wanted o (yielded ops a.tmps) with
  | true =>
    refine .inl ⟨hw, fun w hw' => ?_⟩
    rcases (hall w hw').1 with h1 | h1
    · exact h1.2
    · rw [hw] at h1; cases h1.1
  | false =>
    refine .inr ⟨hw, ?_⟩
    rcases (hall w hT).1 with h1 | h1
    · rw [hw] at h1; cases h1.1
    · exact h1.2
theorem GX.l0' {o : Oper} (ho : ops[i]? = some o) (hc : cls o = 0) (hd : o.dst = some d) (hv : look e' d = some v) (h : ∀ w Q, GO P N ops [] e' w Q → GO P N ops [i] e w Q) (g : GX P N ops S st z l e' w Q) : GX P N ops S st z (i :: l) e w Q := fun a hs => by
  have hall := inS (T := fun _ => True) (w := w) ho (by rw [hc]; decide) hd hv trivial (fun w _ => h w) hs
  exact ⟨o, ho, .inl ⟨hc, v, hall.1, by rw [hd]; exact g _ hall.2⟩⟩
theorem clsAt_get {c : Nat} (hc : clsAt ops i = c) (hd : gdst ops i = some d) : ∃ o, ops[i]? = some o ∧ cls o = c ∧ o.dst = some d := by
  unfold clsAt at hc
  unfold gdst at hd
  cases ho : ops[i]? with
  | none => rw [ho] at hd; cases hd
  | some o => rw [ho] at hc hd; exact ⟨o, rfl, hc, hd⟩
theorem GX.l0 (hc : clsAt ops i = 0) (hd : gdst ops i = some d) (h : ∀ w Q, GO P N ops [] e' w Q → GO P N ops [i] e w Q) (hv : look e' d = some v) (g : GX P N ops S st z l e' w Q) : GX P N ops S st z (i :: l) e w Q := by
  obtain ⟨o, ho, h1, h2⟩ := clsAt_get hc hd
  exact GX.l0' ho h1 h2 hv h g
theorem GX.ls (hc : clsAt ops i = 1) (hst : st.contains i = true) (hd : gdst ops i = some d) (hS : S w) (h : ∀ w, S w → ∀ Q, GO P N ops [] e' w Q → GO P N ops [i] e w Q) (hv : look e' d = some v) (g : GX P N ops S st z l e' w Q) : GX P N ops S st z (i :: l) e w Q := fun a hs => by
  obtain ⟨o, ho, h1, h2⟩ := clsAt_get hc hd
  have hall := inS ho (by rw [h1]; decide) h2 hv hS h hs
  exact ⟨o, ho, .inr (.inl ⟨h1, hst, v, hall.1, by rw [h2]; exact g _ hall.2⟩)⟩
theorem GX.l1 (hc : clsAt ops i = 1) (hst : st.contains i = false) (hd : gdst ops i = some d) (h : ∀ Q, GO P N ops [] e' w Q → GO P N ops [i] e w Q) (hv : look e' d = some v) (g : GX P N ops S st z l e' w Q) : GX P N ops S st z (i :: l) e w Q := fun a hs => by
  obtain ⟨o, ho, h1, h2⟩ := clsAt_get hc hd
  have hi := GO.inv ho (by rw [h1]; decide) h2 hv (h (fun a' w' => w' = w ∧ Sat N e' a') (fun a hs => ⟨rfl, rfl, hs⟩)) hs
  refine ⟨o, ho, .inr (.inr (.inl ⟨h1, hst, v, ?_, ?_⟩))⟩
  · rcases hi.1 with h3 | h3
    · exact .inl ⟨h3.1, .inl h3.2⟩
    · exact .inr h3
  · rw [h2]; exact g _ hi.2
theorem GX.l2 (hc : clsAt ops i = 2) (h : GO P N ops [i] e w (fun a w => (S w ∨ z.contains i = true) ∧ LX P ops S st z Q l a w)) : GX P N ops S st z (i :: l) e w Q := fun a hs => by
  unfold clsAt at hc
  cases ho : ops[i]? with
  | none => rw [ho] at hc; cases hc
  | some o =>
    rw [ho] at hc
    refine ⟨o, ho, .inr (.inr (.inr ⟨hc, ?_⟩))⟩
    have h1 := h a hs
    rw [wpOps_cons] at h1
    exact wpOp_mono (fun a' w' h' => h'.2) (wpOp_exit (Q' := QF) (fun _ _ _ hf => absurd hf.1 (by simp)) (fun _ _ hf => absurd hf.1 (by simp)) h1)
theorem GX.ps (n : Nat) : ∀ {l : List Nat} {e : Env}, runP N ops n l e = some (l', e') → GX P N ops S st z l' e' w Q → GX P N ops S st z l e w Q := by
  induction n with
  | zero =>
    intro l e h g
    obtain ⟨rfl, rfl⟩ := Prod.mk.inj (Option.some.inj h)
    exact g
  | succ n ih =>
    intro l e h g
    cases l with
    | nil => cases h
    | cons i r =>
      simp only [runP] at h
      split at h
      · rename_i d v hp
        obtain ⟨o, ho, hd, hc, hN, hg⟩ := pure1_ok (P := P) hp
        refine GX.l0' ho hc hd (v := v) ?_ (fun w Q g => hg g) (ih h g)
        simp only [look, Nat.beq_eq, cond_true]
        simp
      · cases h
end
end Go.Proofs.YtbjfinndngafoaaGreat
