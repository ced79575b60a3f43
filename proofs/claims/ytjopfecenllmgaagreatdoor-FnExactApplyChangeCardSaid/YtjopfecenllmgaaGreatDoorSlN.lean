/-
  Many steps at once: control and plain values by one evaluation; regions of open order in one order, where the others come to the same.
  Elements with memory of their own, of any type: pairs of types, an element as a piece, rows that take elements in, a part of an element taken out for a while.
  Strings: joined, compared, cut, indexed, walked through by runes; arrays of four Bools compared.
  Strings compared by the library's entry without a body.
-/
import Derived.Test.YtjopfecenllmgaaGreatDoorSlI
import Derived.Still
import Derived.Laws.StructEq
import Derived.ChangeKeysEq
import Derived.Laws.BytesArg
import Derived.Laws.Externs
import Derived.Lib.Bytealg
set_option linter.unusedSimpArgs false
set_option linter.unusedVariables false
namespace Go.Proofs.YtjopfecenllmgaaGreatDoor
open Go.RowKit
def kIx:IntKind→Nat
  | .i8=>0 | .i16=>1 | .i32=>2 | .i64=>3 | .u8=>4 | .u16=>5 | .u32=>6 | .u64=>7
theorem sN {a b:IntKind} (h:Nat.beq (kIx a) (kIx b)=true):a=b:=by
  cases a <;> cases b <;> first | rfl | cases h
def AaN (op:BinOp) (k:IntKind) (m n:Int):Option Value :=
  match op with
  | .add=>some (.int k (k.wrap (m+n)))
  | .sub=>some (.int k (k.wrap (m - n)))
  | .mul=>some (.int k (k.wrap (m * n)))
  | .lss=>some (.bool (decide (m<n)))
  | .leq=>some (.bool (decide (m≤n)))
  | .gtr=>some (.bool (decide (n<m)))
  | .geq=>some (.bool (decide (n≤m)))
  | .eql=>some (.bool (decide (m=n)))
  | .neq=>some (.bool (!decide (m=n)))
  | _=>none
def jB (e:Env):Op→Option Value
  | .move x=>ev e x
  | .assign x=>ev e x
  | .binOp op _ x y _=>match ev e x with
    | some (.int k m)=>match ev e y with
      | some (.int k' n)=>bif Nat.beq (kIx k) (kIx k') then AaN op k m n else none
      | _=>none
    | _=>none
  | .unOp .not _ x=>match ev e x with
    | some (.bool b)=>some (.bool (!b))
    | _=>none
  | .extract x n=>match ev e x with
    | some (.tuple vs)=>vs[n]?
    | _=>none
  | .pick c x y=>match ev e c with
    | some (.bool true)=>ev e x
    | some (.bool false)=>ev e y
    | _=>none
  | _=>none
def mW (N:Nat) (ops:Array Oper) (i:Nat) (e:Env):Option (Nat × Value) :=
  match ops[i]? with
  | some ⟨some d,op,_,_,_,none⟩=>match jB e op with
    | some v=>bif Nat.blt d N then some (d,v) else none
    | none=>none
  | _=>none
def cls (o:Oper):Nat :=
  match o.op with
  | .move _=>0
  | .assign _=>0
  | .pick _ _ _=>0
  | .binOp _ _ _ _ _=>0
  | .unOp _ _ _=>0
  | .convert _ _ _=>0
  | .build _ _=>0
  | .fieldAddr _ _ _=>0
  | .indexAddr _ _ _=>0
  | .index _ _ _=>0
  | .extract _ _=>0
  | .makeFunc _ _ _=>0
  | .nilCheck _=>0
  | .slice _ _ _ _ _=>1
  | .call c=>match c.callee with
    | .builtin .len=>1
    | .builtin .cap=>1
    | .builtin .max=>1
    | .builtin .min=>1
    | _=>2
  | .load _ _=>1
  | .lookup _ _ _ _=>1
  | _=>2
section
variable {P:Program} {f:FuncId} {N:Nat} {e e':Env} {k k':List Item} {w:World} {R:Ending→World→Prop} {Q:Act→World→Prop} {ops:Array Oper} {l l':List Nat} {i d:Nat} {v:Value}
theorem iF {op:Op} {ty:TypeId} {ps:String} {af:Array Edge} {rest:List Nat} (ho:ops[i]?=some ⟨some d,op,ty,ps,af,none⟩) (h:jB e op=some v) (hN:Nat.blt d N=true):cls ⟨some d,op,ty,ps,af,none⟩=0∧∀ {w:World} {Q:Act→World→Prop},GO P N ops rest ((d,v)::e) w Q→GO P N ops (i::rest) e w Q:=by
  cases op <;> try (cases h; done)
  case move x=>exact ⟨rfl,fun g=>GO.move ho h hN g⟩
  case assign x=>exact ⟨rfl,fun g=>GO.assign ho h hN g⟩
  case pick c x y =>
    refine ⟨rfl,fun g=>?_⟩
    simp only [jB] at h
    split at h
    · rename_i hc; exact GO.Ii ho hc rfl h hN g
    · rename_i hc; exact GO.Ki ho hc rfl h hN g
    · cases h
  case extract x n =>
    refine ⟨rfl,fun g=>?_⟩
    simp only [jB] at h
    split at h
    · rename_i hx; exact GO.extract ho hx h hN g
    · cases h
  case unOp uo t x =>
    refine ⟨rfl,fun g=>?_⟩
    cases uo <;> simp only [jB] at h <;> try (cases h; done)
    split at h
    · rename_i hx
      obtain rfl:=Option.some.inj h
      exact GO.not ho hx hN g
    · cases h
  case binOp op t x y t' =>
    refine ⟨rfl,fun g=>?_⟩
    simp only [jB] at h
    split at h
    · rename_i kd m hx
      split at h
      · rename_i kd' n hy
        cases hk:Nat.beq (kIx kd) (kIx kd') with
        | false=>rw [hk] at h; cases h
        | true =>
          rw [hk] at h
          obtain rfl:=sN hk
          cases op <;> simp only [AaN,cond_true] at h <;> first
            | cases h; done
            | obtain rfl:=Option.some.inj h
              first
              | exact GO.add ho hx hy hN g
              | exact GO.sub ho hx hy hN g
              | exact GO.mul ho hx hy hN g
              | exact GO.lss ho hx hy hN g
              | exact GO.leq ho hx hy hN g
              | exact GO.gtr ho hx hy hN g
              | exact GO.geq ho hx hy hN g
              | exact GO.eql ho hx hy hN g
              | exact GO.neq ho hx hy hN g
      · cases h
    · cases h
theorem bZ (h:mW N ops i e=some (d,v)):∃ o,ops[i]?=some o∧o.dst=some d∧cls o=0∧Nat.blt d N=true∧∀ {rest:List Nat} {w:World} {Q:Act→World→Prop},GO P N ops rest ((d,v)::e) w Q→GO P N ops (i::rest) e w Q:=by
  unfold mW at h
  split at h
  · rename_i d' op ty ps af ho
    split at h
    · rename_i v' hv
      cases hb:Nat.blt d' N with
      | false=>rw [hb] at h; cases h
      | true =>
        rw [hb] at h
        obtain ⟨rfl,rfl⟩:=Prod.mk.inj (Option.some.inj h)
        exact ⟨_,ho,rfl,(iF (P:=P) (rest:=[]) ho hv hb).1,hb,fun g=>(iF ho hv hb).2 g⟩
    · cases h
  · cases h
def iZ (N:Nat) (ops:Array Oper):Nat→List Nat→Env→Option (List Nat × Env)
  | 0,l,e=>some (l,e)
  | n+1,i::r,e=>match mW N ops i e with
    | some (d,v)=>iZ N ops n r ((d,v)::e)
    | none=>none
  | _+1,[],_=>none
theorem GO.ps (n:Nat):∀ {l:List Nat} {e:Env},iZ N ops n l e=some (l',e')→GO P N ops l' e' w Q→GO P N ops l e w Q:=by
  induction n with
  | zero =>
    intro l e h g
    obtain ⟨rfl,rfl⟩:=Prod.mk.inj (Option.some.inj h)
    exact g
  | succ n ih =>
    intro l e h g
    cases l with
    | nil=>cases h
    | cons i r =>
      simp only [iZ] at h
      split at h
      · rename_i d v hp
        obtain ⟨o,_,_,_,_,hg⟩:=bZ (P:=P) hp
        exact hg (ih h g)
      · cases h
def Uz (N:Nat):Nat→Env→List Item→Option (Env × List Item)
  | 0,e,k=>some (e,k)
  | n+1,e,it::k=>match it with
    | .code c=>match c with
      | .seq x y=>Uz N n e (.code x::.code y::k)
      | .skip=>Uz N n e k
      | .block id c=>Uz N n e (.code c::.inBlock id::k)
      | .loop c=>Uz N n e (.code c::.inLoop c::k)
      | .exit id=>match exitTo id k with
        | some k'=>Uz N n e k'
        | none=>none
      | .region _ ops false=>match iZ N ops ops.size (List.range ops.size) e with
        | some ([],e')=>Uz N n e' k
        | _=>none
      | .cond c x y=>match ev e c with
        | some (.bool true)=>Uz N n e (.code x::k)
        | some (.bool false)=>Uz N n e (.code y::k)
        | _=>none
      | _=>none
    | .inBlock _=>Uz N n e k
    | .inLoop c=>Uz N n e (.code c::.inLoop c::k)
    | _=>none
  | _+1,_,[]=>none
theorem G.run (n:Nat):∀ {e:Env} {k:List Item},Uz N n e k=some (e',k')→G P f N e' k' w R→G P f N e k w R:=by
  induction n with
  | zero =>
    intro e k h g
    obtain ⟨rfl,rfl⟩:=Prod.mk.inj (Option.some.inj h)
    exact g
  | succ n ih =>
    intro e k h g
    cases k with
    | nil=>cases h
    | cons it k =>
      cases it <;> try (cases h; done)
      case inBlock id=>exact G.bW (ih h g)
      case inLoop c=>exact G.again (ih h g)
      case code c =>
        cases c <;> try (cases h; done)
        case seq x y=>exact G.seq (ih h g)
        case skip=>exact G.skip (ih h g)
        case block id c=>exact G.block (ih h g)
        case loop c=>exact G.loop (ih h g)
        case exit id =>
          simp only [Uz] at h
          split at h
          · rename_i hk; exact G.exit hk (ih h g)
          · cases h
        case region id ops draw =>
          cases draw
          · simp only [Uz] at h
            split at h
            · rename_i hp; exact G.region (GO.ps _ hp (GO.nil (ih h g)))
            · cases h
          · cases h
        case cond c x y =>
          simp only [Uz] at h
          split at h
          · rename_i hc; exact G.yes hc (ih h g)
          · rename_i hc; exact G.no hc (ih h g)
          · cases h
theorem Zn {s:Sem Value} {n:Next} {w':World} (h:(do let x ← s; pure (Next.value x):Sem Next).run P w=.ok n w'):∃ v,n=.value v:=by
  rw [Sem.run_bind] at h
  cases hr:s.run P w with
  | ok x w1 =>
    rw [hr] at h
    simp only [Result.andThen_ok,Sem.run_pure] at h
    injection h with h1 h2
    exact ⟨x,h1.symm⟩
  | halt x w1 =>
    rw [hr] at h
    cases h
theorem Ui {β:Type} {s:Sem β} {f:β→Sem Next} {n:Next} {w w':World} (hf:∀ x w n w',(f x).run P w=.ok n w'→∃ v,n=.value v) (h:(s >>= f).run P w=.ok n w'):∃ v,n=.value v:=by
  rw [Sem.run_bind] at h
  cases hr:s.run P w with
  | ok x w1 =>
    rw [hr] at h
    exact hf _ _ _ _ h
  | halt x w1 =>
    rw [hr] at h
    cases h
theorem wZ {o:Oper} (hc:cls o≠2) {ρ:Operand→Value} {n:Next} {w':World} (h:(execOp ρ o).run P w=.ok n w'):∃ v,n=.value v:=by
  obtain ⟨dst,op,ty,ps,af,gd⟩:=o
  cases op <;> try (exact absurd rfl hc)
  case move x=>simp only [execOp,Sem.run_pure] at h; injection h with h1 h2; exact ⟨_,h1.symm⟩
  case assign x=>simp only [execOp,Sem.run_pure] at h; injection h with h1 h2; exact ⟨_,h1.symm⟩
  case pick c x y =>
    simp only [execOp,Sem.run_bind] at h
    cases hr:(asBool (ρ c)).run P w with
    | ok b w1=>rw [hr] at h; simp only [Result.andThen_ok,Sem.run_pure] at h; injection h with h1 h2; exact ⟨_,h1.symm⟩
    | halt b w1=>rw [hr] at h; cases h
  case nilCheck x =>
    simp only [execOp] at h
    split at h
    · simp [runtimePanic] at h
    · simp [runtimePanic] at h
    · simp [runtimePanic] at h
    · split at h
      · simp [runtimePanic] at h
      · refine Ui (fun x w n w' h=>?_) h
        refine Ui (fun x w n w' h=>?_) h
        split at h
        · refine Ui (fun x w n w' h=>?_) h
          simp only [Sem.run_pure] at h; injection h with h1 h2; exact ⟨_,h1.symm⟩
        · simp only [Sem.run_pure] at h; injection h with h1 h2; exact ⟨_,h1.symm⟩
      · simp only [Sem.run_pure] at h; injection h with h1 h2; exact ⟨_,h1.symm⟩
    · simp only [Sem.run_pure] at h; injection h with h1 h2; exact ⟨_,h1.symm⟩
  case call c =>
    obtain ⟨callee,args,tys⟩:=c
    cases callee <;> try (exact absurd rfl hc)
    case builtin b =>
      cases b <;> try (exact absurd rfl hc)
      all_goals
        simp only [execOp,resolve,invoke,builtin,pure_bind] at h
        exact Zn h
  all_goals exact Zn h
theorem GO.inv {o:Oper} (ho:ops[i]?=some o) (hc:cls o≠2) (hd:o.dst=some d) (hv:Go.Proofs.YtjopfecenllmgaaGreatDoor.look e' d=some v) (h:GO P N ops [i] e w (fun a' w'=>w'=w∧Sat N e' a')) {a:Act} (hs:Sat N e a) :
    ((Region.wanted o (yielded ops a.tmps)=true∧(execOp a.eval o).run P w=.ok (.value v) w)∨(Region.wanted o (yielded ops a.tmps)=false∧v=undef))∧Sat N e' (a.put (some d) v):=by
  have same:∀ u,Sat N e' (a.put (some d) u)→u=v:=fun u hu=>by
    have h1:=hu.at_ d v hv
    simp only [Act.put] at h1
    have hlt:=(Array.getElem?_eq_some_iff.1 h1).1
    rw [Array.size_setIfInBounds] at hlt
    rw [Array.getElem?_setIfInBounds_self_of_lt hlt] at h1
    exact Option.some.inj h1
  have h1:=h a hs
  simp only [wpOps,ho] at h1
  cases hw:Region.wanted o (yielded ops a.tmps) with
  | true =>
    rw [hw,if_pos rfl] at h1
    rcases h1 with h1 | ⟨_,a0,w0,h0,_⟩
    · unfold Oper.wp at h1
      cases hr:(execOp a.eval o).run P w with
      | ok n w' =>
        obtain ⟨u,rfl⟩:=wZ hc hr
        rw [hr] at h1
        simp only [Oper.upon,hd] at h1
        obtain ⟨_,rfl,h2⟩:=h1
        have:=same u h2
        subst this
        exact ⟨.inl ⟨rfl,rfl⟩,h2⟩
      | halt x w' =>
        rw [hr] at h1
        cases x <;> simp only [Oper.upon] at h1 <;> exact absurd h1.1 (by simp)
    · cases h0
  | false =>
    rw [hw,if_neg (by decide)] at h1
    simp only [hd] at h1
    have:=same undef h1.2.2
    subst this
    exact ⟨.inr ⟨rfl,rfl⟩,h1.2.2⟩
def QF:Exit→Act→World→Prop:=fun _ _ _=>False
theorem Yv {Q Q':Exit→Act→World→Prop} (hp:∀ c a w,Q (.panic c) a w→Q' (.panic c) a w) (hl:∀ a w,¬ Q .outgrown a w) {i:Nat} {K:Act→World→Prop} {a:Act} {w:World} (h:wpOp P ops Q i K a w):wpOp P ops Q' i K a w:=by
  unfold wpOp at *
  split
  · rename_i ho; simp only [ho] at h; exact h
  · rename_i o ho
    simp only [ho] at h
    split
    · rename_i hw
      rw [if_pos hw] at h
      rcases h with h | ⟨_,a0,w0,h0⟩
      · refine .inl ?_
        unfold Oper.wp at h ⊢
        generalize (execOp a.eval o).run P w=r at h ⊢
        cases r with
        | ok n w' =>
          cases n <;> simp only [Oper.upon] at h ⊢ <;> first
            | exact h
            | exact Calls.mono h (fun e w'' he=>by cases e with
                | returned v=>exact he
                | panicked c=>exact hp _ _ _ he
                | outgrown=>obtain ⟨a1,w1,h1⟩:=he; exact absurd h1 (hl _ _))
        | halt x w'=>cases x <;> simp only [Oper.upon] at h ⊢ <;> exact hp _ _ _ h
      · exact absurd h0 (hl _ _)
    · rename_i hw
      rw [if_neg hw] at h
      exact h
def Mo (P:Program) (ops:Array Oper) (S:World→Prop) (o:Oper) (v:Value) (a:Act):Prop :=
  (Region.wanted o (yielded ops a.tmps)=true∧∀ w,S w→(execOp a.eval o).run P w=.ok (.value v) w)∨(Region.wanted o (yielded ops a.tmps)=false∧v=undef)
theorem Mo.of_same {S:World→Prop} {o:Oper} {v:Value} {a a':Act} (hy:Mo P ops S o v a) (he:execOp a'.eval o=execOp a.eval o) (hw:Region.wanted o (yielded ops a'.tmps)=Region.wanted o (yielded ops a.tmps)):Mo P ops S o v a':=by
  unfold Mo at *
  rw [he,hw]
  exact hy
theorem Mo.at_ {S:World→Prop} {o:Oper} {v:Value} {a:Act} (hy:Mo P ops S o v a) (hS:S w):YieldsAt P ops w o v a:=by
  rcases hy with h | h
  · exact .inl ⟨h.1,.inl (h.2 w hS)⟩
  · exact .inr h
theorem zZ {S:World→Prop} {j:Nat} {oi oj:Oper} {v:Value} (hj:ops[j]?=some oj) (hap:oi.apart ops oj=true)
    (hsi:∀ cs b,oi.op≠.select cs b) (hsj:∀ cs b,oj.op≠.select cs b) {K:Act→World→Prop} {a:Act}
    (hy:Mo P ops S oi v a) (h:wpOp P ops QF j K (a.put oi.dst v) w) :
    wpOp P ops QF j (fun a' w'=>Mo P ops S oi v a'∧K (a'.put oi.dst v) w') a w:=by
  obtain ⟨h1,h2,h3⟩:=Oper.apart_spec hap
  have keep:∀ (a:Act),Mo P ops S oi v a→∀ u,Mo P ops S oi v (a.put oj.dst u):=fun a hy u =>
    hy.of_same (execOp_put oi hsi a oj.dst u h3) (wanted_put oi a oj.dst u h3)
  have keepD:∀ d,Mo P ops S oi v { a with defers:=d::a.defers }:=fun d=>hy.of_same rfl rfl
  unfold wpOp at *
  simp only [hj] at *
  rw [wanted_put oj a oi.dst v h1] at h
  split
  · rename_i hw
    simp only [hw,if_true] at h
    rcases h with h | ⟨_,a0,w0,h0⟩
    · refine .inl ?_
      unfold Oper.wp at *
      rw [execOp_put oj hsj a oi.dst v h1] at h
      generalize (execOp a.eval oj).run P w=r at *
      cases r with
      | ok n w' =>
        cases n <;> simp only [Oper.upon] at h ⊢
        case value u=>exact ⟨keep a hy u,by rw [← Act.put_comm a v u h2]; exact h⟩
        case skip=>exact ⟨keep a hy _,by rw [← Act.put_comm a v undef h2]; exact h⟩
        case defer d =>
          refine ⟨keep _ (keepD d) _,?_⟩
          rw [← Act.put_comm _ v undef h2,← Act.put_defers]
          exact h
        case enter f args =>
          refine Calls.mono h fun e w'' he=>?_
          cases e with
          | returned u=>exact ⟨keep a hy u,by rw [← Act.put_comm a v u h2]; exact he⟩
          | panicked c=>exact he.elim
          | outgrown=>exact he
        case row row args=>exact Rows.mono h fun u w'' he=>⟨keep a hy u,by rw [← Act.put_comm a v u h2]; exact he⟩
      | halt x w' =>
        cases x <;> simp only [Oper.upon] at h ⊢
        case panic u=>exact h.elim
    · exact h0.elim
  · rename_i hw
    simp only [hw] at h
    exact ⟨keep a hy _,by rw [← Act.put_comm a v undef h2]; exact h⟩
def LX (P:Program) (ops:Array Oper) (S:World→Prop) (st:List Nat) (z:List Nat) (Q:Act→World→Prop):List Nat→Act→World→Prop
  | [],a,w=>Q a w
  | i::r,a,w=>∃ o,ops[i]?=some o ∧
    ((cls o=0∧∃ v,Mo P ops (fun _=>True) o v a∧LX P ops S st z Q r (a.put o.dst v) w) ∨
     (cls o=1∧st.contains i=true∧∃ v,Mo P ops S o v a∧LX P ops S st z Q r (a.put o.dst v) w) ∨
     (cls o=1∧st.contains i=false∧∃ v,YieldsAt P ops w o v a∧LX P ops S st z Q r (a.put o.dst v) w) ∨
     (cls o=2∧wpOp P ops QF i (fun a w=>(S w∨z.contains i=true)∧LX P ops S st z Q r a w) a w))
def gG (ops:Array Oper) (si:Bool) (oi oj:Oper):Bool:=oi.apart ops oj && (Nat.beq (cls oi) 0 || (Nat.beq (cls oi) 1 && (si || Nat.ble (cls oj) 1)))
variable {S:World→Prop} {st:List Nat} {z:List Nat}
theorem LX.swap (hsel:Region.noSelect ops=true) {i j:Nat} {oi oj:Oper} {r:List Nat} {a:Act} (hi:ops[i]?=some oi) (hj:ops[j]?=some oj) (hin:gG ops (st.contains i) oi oj=true) (h:LX P ops S st z Q (i::j::r) a w):LX P ops S st z Q (j::i::r) a w:=by
  unfold gG at hin
  rw [Bool.and_eq_true] at hin
  obtain ⟨hap,hc⟩:=hin
  obtain ⟨h1,h2,h3⟩:=Oper.apart_spec hap
  have hsi:=fun cs b=>Region.noSelect_spec hsel i oi cs b hi
  have hsj:=fun cs b=>Region.noSelect_spec hsel j oj cs b hj
  have keepY:∀ {T:World→Prop} {v:Value} (u:Value),Mo P ops T oi v a→Mo P ops T oi v (a.put oj.dst u):=fun u hy=>hy.of_same (execOp_put oi hsi a oj.dst u h3) (wanted_put oi a oj.dst u h3)
  have keepA:∀ {v:Value} (u:Value),YieldsAt P ops w oi v a→YieldsAt P ops w oi v (a.put oj.dst u):=fun u hy=>hy.of_same (execOp_put oi hsi a oj.dst u h3) (wanted_put oi a oj.dst u h3)
  have backY:∀ {T:World→Prop} {v u:Value},Mo P ops T oj u (a.put oi.dst v)→Mo P ops T oj u a:=fun {T v u} hy=>hy.of_same (execOp_put oj hsj a oi.dst v h1).symm (wanted_put oj a oi.dst v h1).symm
  have backA:∀ {v u:Value},YieldsAt P ops w oj u (a.put oi.dst v)→YieldsAt P ops w oj u a:=fun {v u} hy=>hy.of_same (execOp_put oj hsj a oi.dst v h1).symm (wanted_put oj a oi.dst v h1).symm
  have comm:∀ (v u:Value),(a.put oi.dst v).put oj.dst u=(a.put oj.dst u).put oi.dst v:=fun v u=>Act.put_comm a v u h2
  obtain ⟨o,ho,h⟩:=h
  rw [hi] at ho
  obtain rfl:=Option.some.inj ho
  rcases h with ⟨c0,v,hy,o',ho',h⟩ | ⟨c1,cs,v,hy,o',ho',h⟩ | ⟨c1,cs,v,hy,o',ho',h⟩ | ⟨c2,_⟩
  · rw [hj] at ho'
    obtain rfl:=Option.some.inj ho'
    rcases h with ⟨d0,u,hu,h⟩ | ⟨d1,ds,u,hu,h⟩ | ⟨d1,ds,u,hu,h⟩ | ⟨d2,h⟩
    · exact ⟨_,hj,.inl ⟨d0,u,backY hu,_,hi,.inl ⟨c0,v,keepY u hy,by rw [← comm]; exact h⟩⟩⟩
    · exact ⟨_,hj,.inr (.inl ⟨d1,ds,u,backY hu,_,hi,.inl ⟨c0,v,keepY u hy,by rw [← comm]; exact h⟩⟩)⟩
    · exact ⟨_,hj,.inr (.inr (.inl ⟨d1,ds,u,backA hu,_,hi,.inl ⟨c0,v,keepY u hy,by rw [← comm]; exact h⟩⟩))⟩
    · refine ⟨_,hj,.inr (.inr (.inr ⟨d2,?_⟩))⟩
      exact wpOp_mono (fun a' w' h'=>⟨h'.2.1,_,hi,.inl ⟨c0,v,h'.1,h'.2.2⟩⟩) (zZ hj hap hsi hsj hy h)
  · rw [hj] at ho'
    obtain rfl:=Option.some.inj ho'
    rcases h with ⟨d0,u,hu,h⟩ | ⟨d1,ds,u,hu,h⟩ | ⟨d1,ds,u,hu,h⟩ | ⟨d2,h⟩
    · exact ⟨_,hj,.inl ⟨d0,u,backY hu,_,hi,.inr (.inl ⟨c1,cs,v,keepY u hy,by rw [← comm]; exact h⟩)⟩⟩
    · exact ⟨_,hj,.inr (.inl ⟨d1,ds,u,backY hu,_,hi,.inr (.inl ⟨c1,cs,v,keepY u hy,by rw [← comm]; exact h⟩)⟩)⟩
    · exact ⟨_,hj,.inr (.inr (.inl ⟨d1,ds,u,backA hu,_,hi,.inr (.inl ⟨c1,cs,v,keepY u hy,by rw [← comm]; exact h⟩)⟩))⟩
    · refine ⟨_,hj,.inr (.inr (.inr ⟨d2,?_⟩))⟩
      exact wpOp_mono (fun a' w' h'=>⟨h'.2.1,_,hi,.inr (.inl ⟨c1,cs,v,h'.1,h'.2.2⟩)⟩) (zZ hj hap hsi hsj hy h)
  · rw [hj] at ho'
    obtain rfl:=Option.some.inj ho'
    rcases h with ⟨d0,u,hu,h⟩ | ⟨d1,ds,u,hu,h⟩ | ⟨d1,ds,u,hu,h⟩ | ⟨d2,h⟩
    · exact ⟨_,hj,.inl ⟨d0,u,backY hu,_,hi,.inr (.inr (.inl ⟨c1,cs,v,keepA u hy,by rw [← comm]; exact h⟩))⟩⟩
    · exact ⟨_,hj,.inr (.inl ⟨d1,ds,u,backY hu,_,hi,.inr (.inr (.inl ⟨c1,cs,v,keepA u hy,by rw [← comm]; exact h⟩))⟩)⟩
    · exact ⟨_,hj,.inr (.inr (.inl ⟨d1,ds,u,backA hu,_,hi,.inr (.inr (.inl ⟨c1,cs,v,keepA u hy,by rw [← comm]; exact h⟩))⟩))⟩
    · rw [c1,d2,cs] at hc; exact absurd hc (by decide)
  · rw [c2] at hc; cases hc
theorem LX.jJ {i:Nat} {r r':List Nat} {a:Act} (hm:∀ a w,LX P ops S st z Q r a w→LX P ops S st z Q r' a w) (h:LX P ops S st z Q (i::r) a w):LX P ops S st z Q (i::r') a w:=by
  obtain ⟨o,ho,h⟩:=h
  refine ⟨o,ho,?_⟩
  rcases h with ⟨c0,v,hy,h⟩ | ⟨c1,cs,v,hy,h⟩ | ⟨c1,cs,v,hy,h⟩ | ⟨c2,h⟩
  · exact .inl ⟨c0,v,hy,hm _ _ h⟩
  · exact .inr (.inl ⟨c1,cs,v,hy,hm _ _ h⟩)
  · exact .inr (.inr (.inl ⟨c1,cs,v,hy,hm _ _ h⟩))
  · exact .inr (.inr (.inr ⟨c2,wpOp_mono (fun a w h=>⟨h.1,hm _ _ h.2⟩) h⟩))
def Wl (ops:Array Oper) (st:List Nat) (i j:Nat):Bool:=match ops[i]?,ops[j]? with
  | some oi,some oj=>gG ops (st.contains i) oi oj
  | _,_=>false
theorem LX.front (hsel:Region.noSelect ops=true) {j:Nat} {l2:List Nat}:∀ {l1:List Nat} {a:Act} {w:World},(∀ i,i ∈ l1→Wl ops st i j=true)→LX P ops S st z Q (l1++j::l2) a w→LX P ops S st z Q (j::(l1++l2)) a w
  | [],a,w,_,h=>h
  | i::l1,a,w,hin,h=>by
    have h1:LX P ops S st z Q (i::j::(l1++l2)) a w:=LX.jJ (fun a w h=>LX.front hsel (fun i hi=>hin i (List.mem_cons_of_mem _ hi)) h) h
    have h2:=hin i (List.mem_cons_self ..)
    unfold Wl at h2
    split at h2
    · rename_i oi oj hi hj
      exact LX.swap hsel hi hj h2 h1
    · cases h2
theorem LX.first {j:Nat} {r:List Nat} {a:Act} {Q':Exit→Act→World→Prop} (hS:S w∨st.contains j=false) (h:LX P ops S st z Q (j::r) a w):wpOp P ops Q' j (fun a w'=>(w'=w∨S w'∨z.contains j=true)∧LX P ops S st z Q r a w') a w:=by
  obtain ⟨o,ho,h⟩:=h
  have one:∀ {v:Value},YieldsAt P ops w o v a→LX P ops S st z Q r (a.put o.dst v) w→wpOp P ops Q' j (fun a w'=>(w'=w∨S w'∨z.contains j=true)∧LX P ops S st z Q r a w') a w:=fun hy h=>wpOp_of_stOp (K:=fun a'=>LX P ops S st z Q r a' w) (fun _ h=>⟨.inl rfl,h⟩) (hy.stOp ho h)
  rcases h with ⟨c0,v,hy,h⟩ | ⟨c1,cs,v,hy,h⟩ | ⟨c1,cs,v,hy,h⟩ | ⟨c2,h⟩
  · exact one (hy.at_ trivial) h
  · rcases hS with hS' | hS'
    · exact one (hy.at_ hS') h
    · rw [hS'] at cs; cases cs
  · exact one hy h
  · exact Yv (fun _ _ _ hf=>hf.elim) (fun _ _ hf=>hf) (wpOp_mono (fun a w h=>⟨.inr h.1,h.2⟩) h)
def Wt (ops:Array Oper):Nat→Nat→Nat→Bool
  | 0,_,_=>false
  | n+1,j,i=>(needs ops j).any fun m=>Nat.beq m i || (Nat.blt i m && Wt ops n m i)
theorem Ul {b:Nat→Bool} (hcl:∀ m,m<ops.size→b m=true→∀ i ∈ needs ops m,b i=true) (hfw:forward ops=true):∀ (n j i:Nat),j<ops.size→(∀ m ∈ needs ops j,b m=true)→Wt ops n j i=true→b i=true
  | 0,_,_,_,_,h=>by cases h
  | n+1,j,i,hj,hr,h=>by
    obtain ⟨m,hm,h1⟩:=List.any_eq_true.1 h
    have hmj:m<j:=Nat.le_of_ble_eq_true (List.all_eq_true.1 (List.all_eq_true.1 hfw j (List.mem_range.2 hj)) m hm)
    rcases Bool.or_eq_true_iff.1 h1 with h1 | h1
    · rw [← Nat.eq_of_beq_eq_true h1]; exact hr m hm
    · rw [Bool.and_eq_true] at h1
      exact Ul hcl hfw n m i (by omega) (hcl m (by omega) (hr m hm)) h1.2
def Xo (ops:Array Oper) (st:List Nat):List Nat→Bool
  | []=>true
  | i::r=>(r.all fun j=>Wl ops st i j || Wt ops ops.size j i) && Xo ops st r
def uI (n:Nat) (ord:List Nat):Bool:=Nat.beq ord.length n && (List.range n).all fun j=>ord.contains j
def nW (ops:Array Oper) (st ord:List Nat):Bool:=forward ops && Region.noSelect ops && uI ops.size ord && Xo ops st ord
theorem Wn {i j:Nat}:∀ {l1 m2 l2:List Nat},Xo ops st (l1++i::(m2++j::l2))=true→Wl ops st i j=true∨Wt ops ops.size j i=true
  | [],m2,l2,h=>by
    rw [List.nil_append,Xo,Bool.and_eq_true] at h
    exact Bool.or_eq_true_iff.1 (List.all_eq_true.1 h.1 j (List.mem_append_right _ (List.mem_cons_self ..)))
  | x::l1,m2,l2,h=>by
    rw [List.cons_append,Xo,Bool.and_eq_true] at h
    exact Wn h.2
theorem Ub:∀ {n:Nat} {l:List Nat},l.length=n→(∀ j,j<n→j ∈ l)→l.Nodup∧∀ j,j ∈ l→j<n
  | 0,l,hl,_=>by
    rw [List.eq_nil_of_length_eq_zero hl]
    exact ⟨List.nodup_nil,fun j hj=>by cases hj⟩
  | n+1,l,hl,h=>by
    have hm:=h n (Nat.lt_succ_self _)
    obtain ⟨h1,h2⟩:=Ub (n:=n) (l:=l.erase n) (by rw [List.length_erase_of_mem hm,hl]; rfl) (fun j hj=>(List.mem_erase_of_ne (by omega)).2 (h j (by omega)))
    have hp:l.Perm (n::l.erase n):=List.perm_cons_erase hm
    refine ⟨hp.nodup_iff.2 (List.nodup_cons.2 ⟨fun hn=>absurd (h2 n hn) (Nat.lt_irrefl _),h1⟩),fun j hj=>?_⟩
    rcases List.mem_cons.1 (hp.mem_iff.1 hj) with h3 | h3
    · omega
    · have:=h2 j h3; omega
theorem aX {b:Nat→Bool} {j:Nat}:∀ {l:List Nat},l.Nodup→j ∈ l→b j=false→∃ m1 m2,l=m1++j::m2∧(l.filter fun i=>!b i)=(m1.filter fun i=>!b i)++j::(m2.filter fun i=>!b i)∧(l.filter fun i=>!upd b j i)=(m1.filter fun i=>!b i)++(m2.filter fun i=>!b i):=fun {l} hn hm hb=>by
  obtain ⟨m1,m2,rfl⟩:=List.append_of_mem hm
  have hn':=List.nodup_append.1 hn
  have hj1:j ∉ m1:=fun h=>hn'.2.2 j h j (List.mem_cons_self ..) rfl
  have hj2:j ∉ m2:=(List.nodup_cons.1 hn'.2.1).1
  have hu:∀ m:List Nat,j ∉ m→(m.filter fun i=>!upd b j i)=m.filter fun i=>!b i:=fun m hm=>List.filter_congr (fun i hi=>by rw [upd_ne b (show i≠j from fun e=>hm (by rw [← e]; exact hi))])
  refine ⟨m1,m2,rfl,?_,?_⟩
  · rw [List.filter_append,List.filter_cons,hb]; rfl
  · rw [List.filter_append,List.filter_cons,Rm,hu m1 hj1,hu m2 hj2]; rfl
def zOk (ops:Array Oper) (st z:List Nat):Bool:=z.all fun j=>st.all fun i=>Wt ops ops.size j i
def GX (P:Program) (N:Nat) (ops:Array Oper) (S:World→Prop) (st:List Nat) (z:List Nat) (l:List Nat) (e:Env) (w:World) (Q:Act→World→Prop):Prop:=∀ a,Sat N e a→LX P ops S st z Q l a w
theorem G.O7 {id:Nat} (hm:P.follows .mixedOrders=true) (S:World→Prop) (st ord z:List Nat) (hok:nW ops st ord=true) (hzo:zOk ops st z=true) (hS:S w.drew) (g:GX P N ops S st z ord e w.drew (Oy P f k R)):G P f N e (.code (.region id ops true)::k) w R:=by
  simp only [nW,Bool.and_eq_true] at hok
  obtain ⟨⟨⟨hfw,hsel⟩,hperm⟩,hpairs⟩:=hok
  simp only [uI,Bool.and_eq_true] at hperm
  obtain ⟨hnd,hlt⟩:=Ub (Nat.eq_of_beq_eq_true hperm.1) (fun j hj=>by simpa using List.all_eq_true.1 hperm.2 j (List.mem_range.2 hj))
  have hall:∀ j,j<ops.size→j ∈ ord:=fun j hj=>by simpa using List.all_eq_true.1 hperm.2 j (List.mem_range.2 hj)
  refine G.Y7 (N:=N) (e:=e) hm hfw (fun b a w=>(S w∨∃ z',z.contains z'=true∧z'<ops.size∧b z'=true)∧LX P ops S st z (Oy P f k R) (ord.filter fun i=>!b i) a w) (fun a hs=>?_) (fun j hj b a w hI hb hr hcl=>?_) (fun b a w hd hI=>?_)
  · refine ⟨.inl hS,?_⟩
    have hf:(ord.filter fun i=>!(fun _=>false) i)=ord:=List.filter_eq_self.2 (fun _ _=>rfl)
    show LX P ops S st z (Oy P f k R) (ord.filter fun i=>!(fun _=>false) i) a w.drew
    rw [hf]
    exact g a hs
  · obtain ⟨m1,m2,hl,hf,hfu⟩:=aX hnd (hall j hj) hb
    have h1:=hI.2
    have hSw:S w∨st.contains j=false:=by
      rcases hI.1 with h | ⟨z',hz,hzs,hbz⟩
      · exact .inl h
      · cases hst:st.contains j with
        | false=>exact .inr rfl
        | true =>
          have:=Ul hcl hfw _ z' j hzs (hcl z' hzs hbz) (List.all_eq_true.1 (List.all_eq_true.1 hzo z' (by simpa using hz)) j (by simpa using hst))
          rw [hb] at this; cases this
    rw [hf] at h1
    have h2:=LX.front hsel (fun i hi=>by
      have him:=List.mem_filter.1 hi
      obtain ⟨p1,p2,hp⟩:=List.append_of_mem him.1
      rw [hl,hp,List.append_assoc,List.cons_append] at hpairs
      have hib:b i=false:=by simpa using him.2
      have hio:i ∈ ord:=by rw [hl]; exact List.mem_append_left _ him.1
      have hne:i≠j:=fun e=>by
        rw [hl] at hnd
        exact (List.nodup_append.1 hnd).2.2 i him.1 j (List.mem_cons_self ..) e
      rcases Wn hpairs with h | h
      · exact h
      · have:=Ul hcl hfw _ j i hj hr h
        rw [hib] at this; cases this) h1
    rw [wpOps_cons]
    refine wpOp_mono (fun a' w' h'=>?_) (LX.first hSw h2)
    refine ⟨rfl,?_,?_⟩
    · rcases h'.1 with e | e | e
      · rw [e]
        refine hI.1.imp (fun h=>h) (fun ⟨z',hz,hzs,hbz⟩=>⟨z',hz,hzs,?_⟩)
        rw [upd_ne b (show z'≠j from fun e=>by rw [e,hb] at hbz; cases hbz)]
        exact hbz
      · exact .inl e
      · exact .inr ⟨j,e,hj,Rm b j⟩
    rw [hfu]
    exact h'.2
  · have h1:=hI.2
    rw [List.filter_eq_nil_iff.2 (fun i hi=>by rw [hd i (hlt i hi)]; decide)] at h1
    exact h1
theorem G.lex {id:Nat} (hm:P.follows .mixedOrders=true) (ord:List Nat) (hok:nW ops [] ord=true) (g:GX P N ops (fun _=>True) [] [] ord e w.drew (Oy P f k R)):G P f N e (.code (.region id ops true)::k) w R:=G.O7 hm _ _ ord [] hok rfl trivial g
theorem GX.nil (g:G P f N e k w R):GX P N ops S st z [] e w (Oy P f k R):=fun a hs=>g a hs
theorem GX.fin (hS:S w) (g:GX P N ops S st z l e w Q):GO P N ops [] e w (fun a w=>(S w∨z.contains i=true)∧LX P ops S st z Q l a w):=fun a hs=>⟨rfl,.inl hS,g a hs⟩
theorem GX.kX (hz:z.contains i=true) (g:GX P N ops S st z l e w Q):GO P N ops [] e w (fun a w=>(S w∨z.contains i=true)∧LX P ops S st z Q l a w):=fun a hs=>⟨rfl,.inr hz,g a hs⟩
def Wz (ops:Array Oper) (i:Nat):Nat:=match ops[i]? with
  | some o=>cls o
  | none=>3
theorem inS {T:World→Prop} {o:Oper} (ho:ops[i]?=some o) (hc:cls o≠2) (hd:o.dst=some d) (hv:look e' d=some v) (hT:T w) (h:∀ w,T w→∀ Q,GO P N ops [] e' w Q→GO P N ops [i] e w Q) {a:Act} (hs:Sat N e a):Mo P ops T o v a∧Sat N e' (a.put (some d) v):=by
  have hall:=fun w (hw:T w)=>GO.inv ho hc hd hv (h w hw (fun a' w'=>w'=w∧Sat N e' a') (fun a hs=>⟨rfl,rfl,hs⟩)) hs
  refine ⟨?_,(hall w hT).2⟩
  cases hw:Region.wanted o (yielded ops a.tmps) with
  | true =>
    refine .inl ⟨hw,fun w hw'=>?_⟩
    rcases (hall w hw').1 with h1 | h1
    · exact h1.2
    · rw [hw] at h1; cases h1.1
  | false =>
    refine .inr ⟨hw,?_⟩
    rcases (hall w hT).1 with h1 | h1
    · rw [hw] at h1; cases h1.1
    · exact h1.2
theorem GX.l0' {o:Oper} (ho:ops[i]?=some o) (hc:cls o=0) (hd:o.dst=some d) (hv:look e' d=some v) (h:∀ w Q,GO P N ops [] e' w Q→GO P N ops [i] e w Q) (g:GX P N ops S st z l e' w Q):GX P N ops S st z (i::l) e w Q:=fun a hs=>by
  have hall:=inS (T:=fun _=>True) (w:=w) ho (by rw [hc]; decide) hd hv trivial (fun w _=>h w) hs
  exact ⟨o,ho,.inl ⟨hc,v,hall.1,by rw [hd]; exact g _ hall.2⟩⟩
theorem Vk {c:Nat} (hc:Wz ops i=c) (hd:Ro ops i=some d):∃ o,ops[i]?=some o∧cls o=c∧o.dst=some d:=by
  unfold Wz at hc
  unfold Ro at hd
  cases ho:ops[i]? with
  | none=>rw [ho] at hd; cases hd
  | some o=>rw [ho] at hc hd; exact ⟨o,rfl,hc,hd⟩
theorem GX.l0 (hc:Wz ops i=0) (hd:Ro ops i=some d) (h:∀ w Q,GO P N ops [] e' w Q→GO P N ops [i] e w Q) (hv:look e' d=some v) (g:GX P N ops S st z l e' w Q):GX P N ops S st z (i::l) e w Q:=by
  obtain ⟨o,ho,h1,h2⟩:=Vk hc hd
  exact GX.l0' ho h1 h2 hv h g
theorem GX.ls (hc:Wz ops i=1) (hst:st.contains i=true) (hd:Ro ops i=some d) (hS:S w) (h:∀ w,S w→∀ Q,GO P N ops [] e' w Q→GO P N ops [i] e w Q) (hv:look e' d=some v) (g:GX P N ops S st z l e' w Q):GX P N ops S st z (i::l) e w Q:=fun a hs=>by
  obtain ⟨o,ho,h1,h2⟩:=Vk hc hd
  have hall:=inS ho (by rw [h1]; decide) h2 hv hS h hs
  exact ⟨o,ho,.inr (.inl ⟨h1,hst,v,hall.1,by rw [h2]; exact g _ hall.2⟩)⟩
theorem GX.l1 (hc:Wz ops i=1) (hst:st.contains i=false) (hd:Ro ops i=some d) (h:∀ Q,GO P N ops [] e' w Q→GO P N ops [i] e w Q) (hv:look e' d=some v) (g:GX P N ops S st z l e' w Q):GX P N ops S st z (i::l) e w Q:=fun a hs=>by
  obtain ⟨o,ho,h1,h2⟩:=Vk hc hd
  have hi:=GO.inv ho (by rw [h1]; decide) h2 hv (h (fun a' w'=>w'=w∧Sat N e' a') (fun a hs=>⟨rfl,rfl,hs⟩)) hs
  refine ⟨o,ho,.inr (.inr (.inl ⟨h1,hst,v,?_,?_⟩))⟩
  · rcases hi.1 with h3 | h3
    · exact .inl ⟨h3.1,.inl h3.2⟩
    · exact .inr h3
  · rw [h2]; exact g _ hi.2
theorem GX.l2 (hc:Wz ops i=2) (h:GO P N ops [i] e w (fun a w=>(S w∨z.contains i=true)∧LX P ops S st z Q l a w)):GX P N ops S st z (i::l) e w Q:=fun a hs=>by
  unfold Wz at hc
  cases ho:ops[i]? with
  | none=>rw [ho] at hc; cases hc
  | some o =>
    rw [ho] at hc
    refine ⟨o,ho,.inr (.inr (.inr ⟨hc,?_⟩))⟩
    have h1:=h a hs
    rw [wpOps_cons] at h1
    exact wpOp_mono (fun a' w' h'=>h'.2) (Yv (Q':=QF) (fun _ _ _ hf=>absurd hf.1 (by simp)) (fun _ _ hf=>absurd hf.1 (by simp)) h1)
theorem GX.ps (n:Nat):∀ {l:List Nat} {e:Env},iZ N ops n l e=some (l',e')→GX P N ops S st z l' e' w Q→GX P N ops S st z l e w Q:=by
  induction n with
  | zero =>
    intro l e h g
    obtain ⟨rfl,rfl⟩:=Prod.mk.inj (Option.some.inj h)
    exact g
  | succ n ih =>
    intro l e h g
    cases l with
    | nil=>cases h
    | cons i r =>
      simp only [iZ] at h
      split at h
      · rename_i d v hp
        obtain ⟨o,ho,hd,hc,hN,hg⟩:=bZ (P:=P) hp
        refine GX.l0' ho hc hd (v:=v) ?_ (fun w Q g=>hg g) (ih h g)
        simp only [look,Nat.beq_eq,cond_true]
        simp
      · cases h
end
def Jm {α0 α1 α2 α3 α4 α5 α6 α7 α8 α9 α10 α11 β:Type} (x:Option (α0 × α1 × α2 × α3 × α4 × α5 × α6 × α7 × α8 × α9 × α10 × α11)) (f:α0→α1→α2→α3→α4→α5→α6→α7→α8→α9→α10→α11→Option β):Option β:=x.bind fun z=>f z.1 z.2.1 z.2.2.1 z.2.2.2.1 z.2.2.2.2.1 z.2.2.2.2.2.1 z.2.2.2.2.2.2.1 z.2.2.2.2.2.2.2.1 z.2.2.2.2.2.2.2.2.1 z.2.2.2.2.2.2.2.2.2.1 z.2.2.2.2.2.2.2.2.2.2.1 z.2.2.2.2.2.2.2.2.2.2.2
theorem M3 {α0 α1 α2 α3 α4 α5 α6 α7 α8 α9 α10 α11 β:Type} {x:Option (α0 × α1 × α2 × α3 × α4 × α5 × α6 × α7 × α8 × α9 × α10 × α11)} {f:α0→α1→α2→α3→α4→α5→α6→α7→α8→α9→α10→α11→Option β} {r:β} (h:Jm x f=some r):∃ a0 a1 a2 a3 a4 a5 a6 a7 a8 a9 a10 a11,x=some (a0,a1,a2,a3,a4,a5,a6,a7,a8,a9,a10,a11)∧f a0 a1 a2 a3 a4 a5 a6 a7 a8 a9 a10 a11=some r:=by
  obtain ⟨z,h1,h2⟩:=Option.bind_eq_some_iff.1 h
  exact ⟨_,_,_,_,_,_,_,_,_,_,_,_,h1,h2⟩
theorem fQ {α0 α1 α2 α3 α4 α5 α6 α7 α8 α9 α10 α11:Type} {a0:α0} {a1:α1} {a2:α2} {a3:α3} {a4:α4} {a5:α5} {a6:α6} {a7:α7} {a8:α8} {a9:α9} {a10:α10} {a11:α11} {b0:α0} {b1:α1} {b2:α2} {b3:α3} {b4:α4} {b5:α5} {b6:α6} {b7:α7} {b8:α8} {b9:α9} {b10:α10} {b11:α11} (h:some (a0,a1,a2,a3,a4,a5,a6,a7,a8,a9,a10,a11)=some (b0,b1,b2,b3,b4,b5,b6,b7,b8,b9,b10,b11)):a0=b0∧a1=b1∧a2=b2∧a3=b3∧a4=b4∧a5=b5∧a6=b6∧a7=b7∧a8=b8∧a9=b9∧a10=b10∧a11=b11:=by cases h; exact ⟨rfl,rfl,rfl,rfl,rfl,rfl,rfl,rfl,rfl,rfl,rfl,rfl⟩
def Qe {α0 α1 α2 α3 α4 α5 α6 α7 α8 α9 α10 α11 α12 α13 β:Type} (x:Option (α0 × α1 × α2 × α3 × α4 × α5 × α6 × α7 × α8 × α9 × α10 × α11 × α12 × α13)) (f:α0→α1→α2→α3→α4→α5→α6→α7→α8→α9→α10→α11→α12→α13→Option β):Option β:=x.bind fun z=>f z.1 z.2.1 z.2.2.1 z.2.2.2.1 z.2.2.2.2.1 z.2.2.2.2.2.1 z.2.2.2.2.2.2.1 z.2.2.2.2.2.2.2.1 z.2.2.2.2.2.2.2.2.1 z.2.2.2.2.2.2.2.2.2.1 z.2.2.2.2.2.2.2.2.2.2.1 z.2.2.2.2.2.2.2.2.2.2.2.1 z.2.2.2.2.2.2.2.2.2.2.2.2.1 z.2.2.2.2.2.2.2.2.2.2.2.2.2
theorem Ra {α0 α1 α2 α3 α4 α5 α6 α7 α8 α9 α10 α11 α12 α13 β:Type} {x:Option (α0 × α1 × α2 × α3 × α4 × α5 × α6 × α7 × α8 × α9 × α10 × α11 × α12 × α13)} {f:α0→α1→α2→α3→α4→α5→α6→α7→α8→α9→α10→α11→α12→α13→Option β} {r:β} (h:Qe x f=some r):∃ a0 a1 a2 a3 a4 a5 a6 a7 a8 a9 a10 a11 a12 a13,x=some (a0,a1,a2,a3,a4,a5,a6,a7,a8,a9,a10,a11,a12,a13)∧f a0 a1 a2 a3 a4 a5 a6 a7 a8 a9 a10 a11 a12 a13=some r:=by
  obtain ⟨z,h1,h2⟩:=Option.bind_eq_some_iff.1 h
  exact ⟨_,_,_,_,_,_,_,_,_,_,_,_,_,_,h1,h2⟩
theorem xI {α0 α1 α2 α3 α4 α5 α6 α7 α8 α9 α10 α11 α12 α13:Type} {a0:α0} {a1:α1} {a2:α2} {a3:α3} {a4:α4} {a5:α5} {a6:α6} {a7:α7} {a8:α8} {a9:α9} {a10:α10} {a11:α11} {a12:α12} {a13:α13} {b0:α0} {b1:α1} {b2:α2} {b3:α3} {b4:α4} {b5:α5} {b6:α6} {b7:α7} {b8:α8} {b9:α9} {b10:α10} {b11:α11} {b12:α12} {b13:α13} (h:some (a0,a1,a2,a3,a4,a5,a6,a7,a8,a9,a10,a11,a12,a13)=some (b0,b1,b2,b3,b4,b5,b6,b7,b8,b9,b10,b11,b12,b13)):a0=b0∧a1=b1∧a2=b2∧a3=b3∧a4=b4∧a5=b5∧a6=b6∧a7=b7∧a8=b8∧a9=b9∧a10=b10∧a11=b11∧a12=b12∧a13=b13:=by cases h; exact ⟨rfl,rfl,rfl,rfl,rfl,rfl,rfl,rfl,rfl,rfl,rfl,rfl,rfl,rfl⟩
abbrev Ty.pair {α β:Type} (S:Ty α) (T:Ty β):Ty (α × β) where
  Lay:=S.Lay × T.Lay
  sz:=S.sz+T.sz
  cells:=fun l x=>S.cells l.1 x.1++T.cells l.2 x.2
  M:=fun w q l x=>∃ q1 q2:Nat→Prop,(∀ k,q1 k→q k)∧(∀ k,q2 k→q k)∧(∀ k,q1 k→¬ q2 k)∧S.M w q1 l.1 x.1∧T.M w q2 l.2 x.2
  K:=fun w l x=>S.K w l.1 x.1∧T.K w l.2 x.2
  len:=fun l x=>by rw [List.length_append,S.len,T.len]
  one:=fun l x u h=>by
    rcases List.mem_append.1 h with h | h
    · exact S.one _ _ u h
    · exact T.one _ _ u h
  Sq:=fun ⟨q1,q2,h1,h2,hd,hs,ht⟩ hk=>⟨q1,q2,h1,h2,hd,S.Sq hs (fun k h=>hk k (h1 k h)),T.Sq ht (fun k h=>hk k (h2 k h))⟩
  Uh:=fun ⟨q1,q2,h1,h2,r⟩ hk=>⟨q1,q2,fun k h=>hk k (h1 k h),fun k h=>hk k (h2 k h),r⟩
  Te:=fun ⟨_,_,_,_,_,hs,ht⟩=>⟨S.Te hs,T.Te ht⟩
  Rc:=fun hb h=>⟨S.Rc hb h.1,T.Rc hb h.2⟩
abbrev Ty.iso {α β:Type} (T:Ty β) (f:α→β) (n:Nat) (hn:T.sz=n):Ty α where
  Lay:=T.Lay
  sz:=n
  cells:=fun l x=>T.cells l (f x)
  M:=fun w q l x=>T.M w q l (f x)
  K:=fun w l x=>T.K w l (f x)
  len:=fun l x=>by rw [T.len,hn]
  one:=fun l x u h=>T.one _ _ u h
  Sq:=fun h hk=>T.Sq h hk
  Uh:=fun h hk=>T.Uh h hk
  Te:=fun h=>T.Te h
  Rc:=fun hb h=>T.Rc hb h
def Elt {α:Type} (T:Ty α) (l:T.Lay) (x:α):Cn where
  P:=fun w q=>T.M w q l x
  loc:=fun h hk=>T.Sq h hk
  more:=fun h hk=>T.Uh h hk
section
variable {α β:Type} {S:Ty α} {T:Ty β} {w0 w:World} {L:List Cn} {s:S.Lay} {t:T.Lay} {x:α} {y:β}
theorem St.nC (h:St w0 w (Elt T t y::Elt S s x::L)):St w0 w (Elt (Ty.pair S T) (s,t) (x,y)::L):=by
  obtain ⟨hb,q,r,hq,hr,hqr,ho,q',r',hq',hr',hqr',ho',hL⟩:=h
  refine ⟨hb,fun k=>q k∨q' k,r',fun k hk=>hk.elim (hq k) (fun h=>hr k (hq' k h)),fun k hk=>hr k (hr' k hk),fun k hk hn=>hk.elim (fun h=>hqr k h (hr' k hn)) (fun h=>hqr' k h hn),?_,hL⟩
  exact ⟨q',q,fun k hk=>.inr hk,fun k hk=>.inl hk,fun k hk hn=>hqr k hn (hq' k hk),ho',ho⟩
theorem St.jV (h:St w0 w (Elt T t y::L)) (hf:Flat S):St w0 w (Elt (Ty.pair S T) (s,t) (x,y)::L):=by
  obtain ⟨hb,q,r,hq,hr,hqr,ho,hL⟩:=h
  exact ⟨hb,q,r,hq,hr,hqr,⟨fun _=>False,q,fun _ h=>h.elim,fun _ h=>h,fun _ h=>h.elim,hf _ _ _,ho⟩,hL⟩
end
theorem Av.fld {α β:Type} {T:Ty α} {S:Ty β} {w0:World} {L:List Cn} {A A':Option Addr} {c c':Nat} {ly:Nat→T.Lay} {ly':Nat→S.Lay} {xs:List α} {ys:List β} {n:Nat} {x:α} (h:Av w0 L T A c ly xs) (hn:xs[n]?=some x) (pr:∀ w,T.K w (ly n) x→Rd S w A' c' ly' ys):Av w0 L S A' c' ly' ys :=
  fun w hs=>pr w ((h w hs).2.2.2.2 n x hn)
theorem Av.box {α:Type} {T:Ty α} {w0:World} {L:List Cn} {b j:Nat} {t:TypeId} {cs:List Value} {n:Nat} (ly:Nat→T.Lay) (xs:List α) (hj:L[j]?=some (Box b t cs)) (hc:rc T ly 0 xs=cs) (hx:xs.length=n) (hb:Nat.ble n 9223372036854775807=true) (hk:∀ i x,xs[i]?=some x→∀ w,St w0 w L→T.K w (ly i) x):Av w0 L T (some ⟨b,0,none⟩) n ly xs:=fun w hs =>
  ⟨Nat.le_of_eq hx,Nat.le_of_ble_eq_true hb,fun _=>⟨b,0,rfl⟩,fun j' u hu=>by
    rw [R6,Ia,Nat.zero_add]
    exact hs.Uw hj (by rw [← hc]; exact hu),fun i x hx=>hk i x hx w hs⟩
theorem rA {α:Type} {p:Nat→α→Prop}:∀ i x,([]:List α)[i]?=some x→p i x:=fun i x h=>by simp at h
theorem V4 {α:Type} {p:Nat→α→Prop} {y:α} {r:List α} (h0:p 0 y) (h:∀ i x,r[i]?=some x→p (i+1) x):∀ i x,(y::r)[i]?=some x→p i x
  | 0,x,hx=>by cases hx; exact h0
  | i+1,x,hx=>h i x (by simpa using hx)
section
variable {α:Type} {T:Ty α} {w w':World} {ly:Nat→T.Lay}
theorem gQ {l':T.Lay} {y:α}:∀ {xs:List α} {i n m:Nat},n<xs.length→m=i+n→rc T (fun k=>if k=m then l' else ly k) i (xs.set n y)=splice (rc T ly i xs) (n * T.sz) (T.cells l' y)
  | x::r,i,0,m,hn,hm=>by
    obtain rfl:m=i:=by omega
    have h1:rc T (fun k=>if k=m then l' else ly k) (m+1) r=rc T ly (m+1) r:=Qu (fun k hk _=>by rw [if_neg (by omega)])
    rw [List.set_cons_zero,rc,rc,h1,if_pos rfl,Nat.zero_mul]
    unfold splice
    rw [List.take_zero,List.nil_append,Nat.zero_add,T.len,List.drop_append_of_le_length (by rw [T.len]; exact Nat.le_refl _),List.drop_of_length_le (by rw [T.len]; exact Nat.le_refl _),List.nil_append]
  | x::r,i,n+1,m,hn,hm=>by
    have ih:=gQ (l':=l') (y:=y) (xs:=r) (i:=i+1) (n:=n) (m:=m) (by simp only [List.length_cons] at hn; omega) (by omega)
    rw [List.set_cons_succ,rc,rc,ih,if_neg (by omega)]
    have hl:=T.len (ly i) x
    unfold splice
    have h1:(n+1) * T.sz=T.sz+n * T.sz:=by rw [Nat.succ_mul]; omega
    rw [h1,List.take_append,List.drop_append,hl]
    have h2:(T.cells (ly i) x).take (T.sz+n * T.sz)=T.cells (ly i) x:=List.take_of_length_le (by omega)
    have h3:(T.cells (ly i) x).drop (T.sz+n * T.sz+(T.cells l' y).length)=[]:=List.drop_of_length_le (by omega)
    rw [h2,h3,show T.sz+n * T.sz - T.sz=n * T.sz by omega,show T.sz+n * T.sz+(T.cells l' y).length - T.sz=n * T.sz+(T.cells l' y).length by omega]
    simp only [List.append_assoc,List.nil_append]
theorem G9.all {l0:T.Lay} {z0:α} (hz:∀ w,T.M w (fun _=>False) l0 z0):∀ (n i:Nat) (q:Nat→Prop),G9 T w (fun _=>l0) i (List.replicate n z0) q
  | 0,_,_=>trivial
  | n+1,i,q=>⟨fun _=>False,q,fun _ h=>h.elim,fun _ h=>h,fun _ h=>h.elim,hz w,G9.all hz n (i+1) q⟩
theorem G9.cut:∀ {xs ys:List α} {i:Nat} {q:Nat→Prop},G9 T w ly i (xs++ys) q→∃ q1 q2:Nat→Prop,(∀ k,q1 k→q k)∧(∀ k,q2 k→q k)∧(∀ k,q1 k→¬ q2 k)∧G9 T w ly i xs q1∧G9 T w ly (i+xs.length) ys q2
  | [],ys,i,q,h=>⟨fun _=>False,q,fun _ h=>h.elim,fun _ h=>h,fun _ h=>h.elim,trivial,h⟩
  | x::r,ys,i,q,⟨q0,q1,h0,h1,hd,hx,hs⟩=>by
    obtain ⟨p1,p2,g1,g2,gd,s1,s2⟩:=G9.cut (xs:=r) hs
    exact ⟨fun k=>q0 k∨p1 k,p2,fun k hk=>hk.elim (h0 k) (fun h=>h1 k (g1 k h)),fun k hk=>h1 k (g2 k hk),fun k hk hn=>hk.elim (fun h=>hd k h (g2 k hn)) (fun h=>gd k h hn),⟨q0,p1,fun k hk=>.inl hk,fun k hk=>.inr hk,fun k hk hn=>hd k hk (g1 k hn),hx,s1⟩,by rw [List.length_cons,show i+(r.length+1)=i+1+r.length by omega]; exact s2⟩
theorem G9.join:∀ {xs ys:List α} {i:Nat} {q1 q2:Nat→Prop},G9 T w ly i xs q1→G9 T w ly (i+xs.length) ys q2→(∀ k,q1 k→¬ q2 k)→G9 T w ly i (xs++ys) (fun k=>q1 k∨q2 k)
  | [],ys,i,q1,q2,_,h,_=>G9.more h (fun k hk=>.inr hk)
  | x::r,ys,i,q1,q2,⟨p0,p1,h0,h1,hd,hx,hs⟩,h,hdd=>by
    have:=G9.join (xs:=r) (ys:=ys) (i:=i+1) hs (by rw [show i+1+r.length=i+(x::r).length by simp only [List.length_cons]; omega]; exact h) (fun k hk=>hdd k (h1 k hk))
    exact ⟨p0,fun k=>p1 k∨q2 k,fun k hk=>.inl (h0 k hk),fun k hk=>hk.imp (h1 k) id,fun k hk hn=>hn.elim (hd k hk) (hdd k (h0 k hk)),hx,this⟩
end
section
variable {α:Type} {T:Ty α} {P:Program} {N:Nat} {e:Env} {w0 w:World} {L:List Cn} {Q:Act→World→Prop} {ops:Array Oper} {i d:Nat} {rest:List Nat} {ty:TypeId} {ps:String} {af:Array Edge}
theorem GO.jK {t el tb:TypeId} {x y:Operand} {A:Option Addr} {c b:Nat} {ly:Nat→T.Lay} {xs:List α} {z:Value} {bytes:Nat} (l:T.Lay) (y0:α) (HS:St w0 w (Own T el A c ly xs::Box b tb (T.cells l y0)::Elt T l y0::L)) (ho:ops[i]?=some ⟨some d,.call { callee:=.builtin .append,args:=#[x,y],argTypes:=#[t,t] },ty,ps,af,none⟩) (hx:ev e x=some (.slice A xs.length c)) (hy:ev e y=some (.slice (some ⟨b,0,none⟩) 1 1))
    (ht:P.underlying t=some (.slice el)) (hinf:(P.info? el).map (fun i=>(i.zero,i.size,i.bytes))=some (some z,T.sz,bytes)) (hz:(z.cells.size == T.sz)=true) (hs0:Nat.blt 0 T.sz=true) (hb0:Nat.blt 0 bytes=true) (hm:(xs.length+1) * bytes≤140737488355328) (hN:Nat.blt d N=true)
    (g:∀ A' c' (ly':Nat→T.Lay) w',St w0 w' (Own T el A' c' ly' (xs++[y0])::Box b tb (T.cells l y0)::L)→GO P N ops rest ((d,.slice A' (xs++[y0]).length c')::e) w' Q):GO P N ops (i::rest) e w Q:=by
  obtain ⟨inf,hi,hzz⟩:=Option.map_eq_some_iff.1 hinf
  simp only [Prod.mk.injEq] at hzz
  obtain ⟨hz0,hz1,hz2⟩:=hzz
  have hs0':0<T.sz:=Nat.le_of_ble_eq_true hs0
  have hb0':0<bytes:=Nat.le_of_ble_eq_true hb0
  have hmm:xs.length+1≤140737488355328:=Nat.le_trans (Nat.le_mul_of_pos_right _ hb0') hm
  obtain ⟨hbel,q,r,hq,hr,hqr,⟨q1,q2,h1,h2,hd,hown,hb,hs⟩,qb,rb,hqb,hrb,hbd,⟨hbq,hbx⟩,qe,re,hqe,hre,hed,hoe,hL⟩:=HS
  have hcells:∀ m v,(T.cells l y0)[m]?=some v→w.cell? ((⟨b,0,none⟩:Addr).add m)=some v:=fun m v hv=>by
    rw [Ia,Nat.zero_add,cell_of_row w b m _ tb (0,0) hbx]
    simpa using hv
  obtain ⟨v',w',hrn,hown',hg,hat⟩:=Pk (P:=P) w t ty el inf z T.sz bytes ht hi hz0 hz1 hz2 (by simpa using hz) hs0' _ _ _ hown ⟨b,0,none⟩ 1 1 (T.cells l y0) (by rw [T.len,Nat.one_mul]) hcells (fun v hv=>T.one _ _ v hv) (by simp only [maxLen]; omega) hm
  obtain ⟨A',c',rfl⟩:=hown'.slice
  let ly':Nat→T.Lay:=fun k=>if k=xs.length then l else ly k
  have hlen:xs.length+1=(xs++[y0]).length:=by simp
  have hcg:rc T ly 0 xs=rc T ly' 0 xs:=Qu (fun k _ hk=>by simp only [ly']; rw [if_neg (by omega)])
  have hrc:rc T ly 0 xs++T.cells l y0=rc T ly' 0 (xs++[y0]):=by
    refine (congrArg (·++T.cells l y0) hcg).trans ((H8 (T:=T) (ly:=ly') 0 xs [y0]).trans ?_).symm
    refine congrArg (rc T ly' 0 xs++·) ?_
    simp [rc,ly']
  rw [hrc,hlen] at hown'
  rw [hlen] at hrn hat
  refine GO.val _ ho rfl rfl hN (fun a hs=>by simp only [execOp,resolve,invoke,builtin,Sem.run_bind,Sem.run_pure,Result.andThen_ok,List.map_toArray,List.map_cons,List.map_nil,hs.ev hx,hs.ev hy,hrn]) (g A' c' ly' w' ?_)
  have hkeep:∀ k,k<w.heap.size→¬ q1 k→w'.heap[k]?=w.heap[k]?:=fun k hk hn=>hg.block k hk (fun e=>hn (hb k e.symm))
  have hlt:=hown'.lt
  have hgs:=hg.size
  have hB:=hbel.size
  refine ⟨hbel.trans ⟨hg.os,hg.tape,hg.output,hg.size,fun k hk=>hkeep k (Nat.lt_of_lt_of_le hk hbel.size) (fun hk1=>by have:=hq k (h1 k hk1); omega)⟩,fun k=>q k∨qe k∨(w.heap.size≤k∧k<w'.heap.size),fun k=>qb k∨re k,?_,?_,?_,⟨fun k=>q1 k∨(w.heap.size≤k∧k<w'.heap.size),fun k=>q2 k∨qe k,?_,?_,?_,hown',?_,?_⟩,qb,re,fun k hk=>.inl hk,fun k hk=>.inr hk,?_,⟨hbq,?_⟩,?_⟩
  · intro k hk
    rcases hk with hk | hk | hk
    · have:=hq k hk; omega
    · have:=hr k (hrb k (hqe k hk)); omega
    · omega
  · intro k hk
    rcases hk with hk | hk
    · have:=hr k (hqb k hk); omega
    · have:=hr k (hrb k (hre k hk)); omega
  · intro k hk hn
    rcases hk with hk | hk | hk
    · rcases hn with hn | hn
      · exact hqr k hk (hqb k hn)
      · exact hqr k hk (hrb k (hre k hn))
    · rcases hn with hn | hn
      · exact hbd k hn (hqe k hk)
      · exact hed k hk hn
    · rcases hn with hn | hn
      · have:=hr k (hqb k hn); omega
      · have:=hr k (hrb k (hre k hn)); omega
  · intro k hk
    rcases hk with hk | hk
    · exact .inl (h1 k hk)
    · exact .inr (.inr hk)
  · intro k hk
    rcases hk with hk | hk
    · exact .inl (h2 k hk)
    · exact .inr (.inl hk)
  · intro k hk hn
    rcases hk with hk | hk
    · rcases hn with hn | hn
      · exact hd k hk hn
      · exact hqr k (h1 k hk) (hrb k (hqe k hn))
    · rcases hn with hn | hn
      · have:=hq k (h2 k hn); omega
      · have:=hr k (hrb k (hqe k hn)); omega
  · intro k hk
    rcases hat k hk with e | e
    · exact .inl (hb k e)
    · exact .inr ⟨e,hlt k hk⟩
  · have hlocq:∀ k,q2 k→w'.heap[k]?=w.heap[k]?:=fun k hk=>hkeep k (by have:=hq k (h2 k hk); omega) (fun h=>hd k h hk)
    have hloce:∀ k,qe k→w'.heap[k]?=w.heap[k]?:=fun k hk=>hkeep k (by have:=hr k (hrb k (hqe k hk)); omega) (fun h=>hqr k (h1 k h) (hrb k (hqe k hk)))
    have h5:G9 T w' ly' 0 xs q2:=(hs.loc hlocq).congr (fun k _ hk=>by simp only [ly']; rw [if_neg (by omega)])
    refine G9.snoc h5 ?_ (fun k hk hn=>hqr k (h2 k hk) (hrb k (hqe k hn)))
    show T.M w' qe (if 0+xs.length=xs.length then l else ly (0+xs.length)) y0
    rw [if_pos (by omega)]
    exact T.Sq hoe hloce
  · intro k hk hn
    exact hbd k hk (hre k hn)
  · rw [hkeep b (by have:=hr b (hqb b hbq); omega) (fun h=>hqr b (h1 b h) (hqb b hbq))]
    exact hbx
  · exact hL.loc (fun k hk=>hkeep k (by have:=hr k (hrb k (hre k hk)); omega) (fun h=>hqr k (h1 k h) (hrb k (hre k hk))))
theorem GO.AaA {t el:TypeId} {x y:Operand} {kl kc:IntKind} {m:Int} {z:Value} {bytes:Nat} (z0:α) (l:T.Lay) (HS:St w0 w L) (hfl:∀ w,T.M w (fun _=>False) l z0) (ho:ops[i]?=some ⟨some d,.makeSlice t x y,ty,ps,af,none⟩) (hx:ev e x=some (.int kl m)) (hy:ev e y=some (.int kc m)) (ht:P.underlying t=some (.slice el)) (hinf:(P.info? el).map (fun i=>(i.zero,i.size,i.bytes))=some (some z,T.sz,bytes)) (hz:z.cells=(T.cells l z0).toArray) (hs0:Nat.blt 0 T.sz=true) (hb0:Nat.blt 0 bytes=true)
    (h0:0≤m) (hm:m.toNat * bytes≤281474976710656) (hN:Nat.blt d N=true)
    (g:∀ b w',St w0 w' (Own T el (some ⟨b,0,none⟩) m.toNat (fun _=>l) (List.replicate m.toNat z0)::L)→GO P N ops rest ((d,.slice (some ⟨b,0,none⟩) (List.replicate m.toNat z0).length m.toNat)::e) w' Q):GO P N ops (i::rest) e w Q:=by
  simp only [List.length_replicate] at g
  obtain ⟨inf,hi,hzz⟩:=Option.map_eq_some_iff.1 hinf
  simp only [Prod.mk.injEq] at hzz
  obtain ⟨hz0,hz1,hz2⟩:=hzz
  have hs0':0<T.sz:=Nat.le_of_ble_eq_true hs0
  have hb0':0<bytes:=Nat.le_of_ble_eq_true hb0
  have hmm:m.toNat≤281474976710656:=Nat.le_trans (Nat.le_mul_of_pos_right _ hb0') hm
  have hbm:(inf.bytes:Int) * m≤281474976710656:=by
    have h3:((m.toNat * bytes:Nat):Int)≤281474976710656:=by omega
    rw [Int.natCast_mul,Int.toNat_of_nonneg h0,Int.mul_comm] at h3
    rw [hz2]
    exact h3
  have hrun:=run_make (P:=P) w t el inf z ht hi hz0 kl kc m m h0 (Int.le_refl _) hbm (by omega)
  refine GO.val (w':=w.alloc (.cells (madeCells z.cells (m.toNat * inf.size)) el)) _ ho rfl rfl hN (fun a hs=>by simp [execOp,hs.ev hx,hs.ev hy,hrun]) (g w.heap.size _ ?_)
  rw [hz1,hz]
  have hlen:(T.cells l z0).length=T.sz:=T.len l z0
  have hcl:(madeCells (T.cells l z0).toArray (m.toNat * T.sz)).toList=rc T (fun _=>l) 0 (List.replicate m.toNat z0):=by
    rw [O3,← hlen]
    exact Nb _ (by rw [hlen]; exact hs0') _
  have h1:=(HS.alloc (rc T (fun _=>l) 0 (List.replicate m.toNat z0)) el).iU (j:=0) rfl (fun q=>G9.all hfl _ _ q) rfl (by simp; omega)
  rw [← hcl] at h1
  simpa using h1
theorem GO.stE {t tb:TypeId} {x y:Operand} {A:Option Addr} {c n:Nat} {ly:Nat→T.Lay} {xs:List α} {v:Value} (l':T.Lay) (y0:α) (HS:St w0 w (Own T tb A c ly xs::Elt T l' y0::L)) (ho:ops[i]?=some ⟨none,.store t x y,ty,ps,af,none⟩) (hx:ev e x=some (.pointer (some (ea A (n * T.sz))))) (hy:ev e y=some v) (hv:v.cells=(T.cells l' y0).toArray)
    (ht:(naB P t && (T.cells l' y0).length == 1 || agB P t (T.cells l' y0).length)=true) (hs0:Nat.blt 0 T.sz=true) (hn:n<xs.length)
    (g:∀ (ly':Nat→T.Lay) w',St w0 w' (Own T tb A c ly' (xs.set n y0)::L)→GO P N ops rest e w' Q):GO P N ops (i::rest) e w Q:=by
  have hsz0:(sizeOf t).run P w=.ok (T.cells l' y0).length w:=by
    rw [Bool.or_eq_true,Bool.and_eq_true,beq_iff_eq] at ht
    rcases ht with ht | ht
    · rw [ht.2]; exact Qb ht.1
    · exact Ph ht
  have hs0':0<T.sz:=Nat.le_of_ble_eq_true hs0
  have hcsz:=T.len l' y0
  obtain ⟨hbel,q,r,hq,hr,hqr,⟨q1,q2,h1,h2,hd,hown,hb,hs⟩,qe,re,hqe,hre,hed,hoe,hL⟩:=HS
  obtain ⟨gb,og,cur,hA,hh,hnc,hcm,hsz,htk⟩:=hown.open (by omega)
  subst hA
  have hg1:q1 gb:=hb gb rfl
  have hmul:(n+1) * T.sz≤xs.length * T.sz:=Nat.mul_le_mul_right _ hn
  rw [Nat.succ_mul] at hmul
  have hput:=hown.put (k:=n * T.sz) (vs:=T.cells l' y0) hh (by rw [Ec]; omega)
  have hea:ea (some ⟨gb,og,none⟩) (n * T.sz)=⟨gb,og+n * T.sz,none⟩:=by rw [R6,Ia]
  rw [hea] at hx
  refine GO.Tn (w':=w.setRow gb (splice cur.toList (og+n * T.sz) (T.cells l' y0)).toArray) ho rfl rfl (fun a hs=>by simp [execOp,Instr.storeAt,Instr.sureAddr,hs.ev hx,hs.ev hy,R3 (v:=v) (vs:=T.cells l' y0) hv hsz0 hh (fun u hu=>T.one _ _ u hu) hput.1]) (g (fun k=>if k=n then l' else ly k) _ ?_)
  have hkeep:∀ k,k≠gb→(w.setRow gb (splice cur.toList (og+n * T.sz) (T.cells l' y0)).toArray).heap[k]?=w.heap[k]?:=fun k hk=>setRow_other w gb k _ hk
  have hqg:=hq gb (h1 gb hg1)
  refine ⟨hbel.trans ⟨rfl,rfl,rfl,by simp,fun k hk=>hkeep k (by omega)⟩,fun k=>q k∨qe k,re,?_,?_,?_,⟨q1,fun k=>q2 k∨qe k,?_,?_,?_,?_,?_,?_⟩,?_⟩
  · intro k hk
    simp only [size_setRow]
    rcases hk with hk | hk
    · exact hq k hk
    · exact hr k (hqe k hk)
  · intro k hk
    simp only [size_setRow]
    exact hr k (hre k hk)
  · intro k hk hn
    rcases hk with hk | hk
    · exact hqr k hk (hre k hn)
    · exact hed k hk hn
  · exact fun k hk=>.inl (h1 k hk)
  · intro k hk
    rcases hk with hk | hk
    · exact .inl (h2 k hk)
    · exact .inr hk
  · intro k hk hn
    rcases hn with hn | hn
    · exact hd k hk hn
    · exact hqr k (h1 k hk) (hqe k hn)
  · rw [List.length_set,gQ (l':=l') hn (by omega)]
    exact hput.2
  · rw [List.length_set]; exact hb
  · have hlocq:∀ k,q2 k→(w.setRow gb (splice cur.toList (og+n * T.sz) (T.cells l' y0)).toArray).heap[k]?=w.heap[k]?:=fun k hk=>hkeep k (fun e=>hd gb hg1 (by rw [← e]; exact hk))
    have hloce:∀ k,qe k→(w.setRow gb (splice cur.toList (og+n * T.sz) (T.cells l' y0)).toArray).heap[k]?=w.heap[k]?:=fun k hk=>hkeep k (fun e=>hqr gb (h1 gb hg1) (hqe gb (by rw [← e]; exact hk)))
    exact G9.set (l':=l') (hs.loc hlocq) hn (by omega) (T.Sq hoe hloce) (fun k hk hn=>hqr k (h2 k hk) (hqe k hn))
  · exact hL.loc (fun k hk=>hkeep k (fun e=>hqr gb (h1 gb hg1) (hre gb (by rw [← e]; exact hk))))
theorem GO.stK {t tb:TypeId} {x y:Operand} {A:Option Addr} {c j n o:Nat} {ly:Nat→T.Lay} {xs:List α} {x0:α} {vs:List Value} {v:Value} (y0:α) (HS:St w0 w L) (hj:L[j]?=some (Own T tb A c ly xs)) (hM:∀ w q,T.M w q (ly n) x0→T.M w q (ly n) y0) (ho:ops[i]?=some ⟨none,.store t x y,ty,ps,af,none⟩) (hx:ev e x=some (.pointer (some (ea A (n * T.sz+o))))) (hy:ev e y=some v) (hv:v.cells=vs.toArray)
    (ht:(naB P t && vs.length == 1 || agB P t vs.length)=true) (h1:vs.all (·.oneCell')=true) (hn:xs[n]?=some x0) (hl:Nat.ble (o+vs.length) T.sz=true) (hc:T.cells (ly n) y0=splice (T.cells (ly n) x0) o vs)
    (g:∀ w',St w0 w' (L.set j (Own T tb A c ly (xs.set n y0)))→GO P N ops rest e w' Q):GO P N ops (i::rest) e w Q:=by
  have hszt:(sizeOf t).run P w=.ok vs.length w:=by
    rw [Bool.or_eq_true,Bool.and_eq_true,beq_iff_eq] at ht
    rcases ht with ht | ht
    · rw [ht.2]; exact Qb ht.1
    · exact Ph ht
  have hf:o+vs.length≤T.sz:=Nat.le_of_ble_eq_true hl
  have hnl:=(List.getElem?_eq_some_iff.1 hn).1
  obtain ⟨q,_,ho1⟩:=HS.get hj
  obtain ⟨q1,q2,a1,a2,ad,hown,hb,hs⟩:=ho1
  obtain ⟨gb,og,cur,hA,hh,hnc,hcm,hsz,htk⟩:=hown.open (by omega)
  subst hA
  have hmul:(n+1) * T.sz≤xs.length * T.sz:=Nat.mul_le_mul_right _ hnl
  rw [Nat.succ_mul] at hmul
  have hput:=hown.put (k:=n * T.sz+o) (vs:=vs) hh (by rw [Ec]; omega)
  have hea:ea (some ⟨gb,og,none⟩) (n * T.sz+o)=⟨gb,og+(n * T.sz+o),none⟩:=by rw [R6,Ia]
  rw [hea] at hx
  refine GO.Tn (w':=w.setRow gb (splice cur.toList (og+(n * T.sz+o)) vs).toArray) ho rfl rfl (fun a hs=>by simp [execOp,Instr.storeAt,Instr.sureAddr,hs.ev hx,hs.ev hy,R3 hv hszt hh (fun u hu=>List.all_eq_true.1 h1 u hu) hput.1]) (g _ ?_)
  refine HS.upd hj (by simp) rfl rfl rfl (fun q ho=>?_)
  obtain ⟨q1,q2,b1,b2,hd,hown,hb,hs⟩:=ho
  have hg:q1 gb:=hb gb rfl
  have hloc:∀ k,q2 k→(w.setRow gb (splice cur.toList (og+(n * T.sz+o)) vs).toArray).heap[k]?=w.heap[k]?:=fun k hk=>setRow_other w gb k _ (fun e=>hd gb hg (by rw [← e]; exact hk))
  have hs':=hs.loc hloc
  refine ⟨q,fun k hk=>.inl hk,⟨q1,q2,b1,b2,hd,?_,by rw [List.length_set]; exact hb,?_⟩,fun k hk hn=>setRow_other w gb k _ (fun e=>hn (by rw [e]; exact b1 gb hg))⟩
  · rw [List.length_set,Vr hn hf (by rw [Nat.zero_add]; exact hc)]
    exact hput.2
  · have hgo:∀ {xs:List α} {i n:Nat} {q:Nat→Prop} {w:World},G9 T w ly i xs q→xs[n]?=some x0→(∀ q,T.M w q (ly (i+n)) x0→T.M w q (ly (i+n)) y0)→G9 T w ly i (xs.set n y0) q:=by
      intro xs
      induction xs with
      | nil=>intro i n q w _ h; simp at h
      | cons z r ih =>
        intro i n q w hs hn hM
        obtain ⟨p0,p1,c0,c1,cd,hx,hr⟩:=hs
        cases n with
        | zero=>cases hn; exact ⟨p0,p1,c0,c1,cd,hM _ hx,hr⟩
        | succ n=>exact ⟨p0,p1,c0,c1,cd,hx,ih hr (by simpa using hn) (by rw [show i+1+n=i+(n+1) by omega]; exact hM)⟩
    exact hgo hs' hn (fun q h=>by rw [Nat.zero_add] at h ⊢; exact hM _ _ h)
end
structure Fld {α β:Type} (T:Ty α) (S:Ty β) where
  get:α→β
  set:α→β→α
  Sk:T.Lay→S.Lay
  R:T.Lay→α→Cn
  opn:∀ {w:World} {q:Nat→Prop} {l:T.Lay} {x:α},T.M w q l x→∃ q1 q2:Nat→Prop,(∀ k,q1 k→q k)∧(∀ k,q2 k→q k)∧(∀ k,q1 k→¬ q2 k)∧S.M w q1 (Sk l) (get x)∧(R l x).P w q2
  cls:∀ {w:World} {q q1 q2:Nat→Prop} {l:T.Lay} {x:α} {y:β},(∀ k,q1 k→q k)→(∀ k,q2 k→q k)→(∀ k,q1 k→¬ q2 k)→S.M w q1 (Sk l) y→(R l x).P w q2→T.M w q l (set x y)
def Fld.id {α:Type} {T:Ty α}:Fld T T where
  get:=fun x=>x
  set:=fun _ y=>y
  Sk:=fun l=>l
  R:=fun _ _=>Emp
  opn:=fun {w q l x} h=>⟨q,fun _=>False,fun _ h=>h,fun _ h=>h.elim,fun _ _ h=>h,h,trivial⟩
  cls:=fun h1 _ _ hs _=>Ty.Uh _ hs h1
def Two (o p:Cn):Cn where
  P:=fun w q=>∃ q1 q2:Nat→Prop,(∀ k,q1 k→q k)∧(∀ k,q2 k→q k)∧(∀ k,q1 k→¬ q2 k)∧o.P w q1∧p.P w q2
  loc:=fun ⟨q1,q2,h1,h2,hd,a,b⟩ hk=>⟨q1,q2,h1,h2,hd,o.loc a (fun k h=>hk k (h1 k h)),p.loc b (fun k h=>hk k (h2 k h))⟩
  more:=fun ⟨q1,q2,h1,h2,r⟩ hk=>⟨q1,q2,fun k h=>hk k (h1 k h),fun k h=>hk k (h2 k h),r⟩
def Fld.fst {α β γ:Type} {S:Ty α} {T:Ty β} {U:Ty γ} (F:Fld S U):Fld (Ty.pair S T) U where
  get:=fun x=>F.get x.1
  set:=fun x y=>(F.set x.1 y,x.2)
  Sk:=fun l=>F.Sk l.1
  R:=fun l x=>Two (F.R l.1 x.1) (Elt T l.2 x.2)
  opn:=fun ⟨q1,q2,h1,h2,hd,hs,ht⟩=>by
    obtain ⟨p1,p2,g1,g2,gd,hu,hr⟩:=F.opn hs
    exact ⟨p1,fun k=>p2 k∨q2 k,fun k h=>h1 k (g1 k h),fun k h=>h.elim (fun h=>h1 k (g2 k h)) (h2 k),fun k h hn=>hn.elim (gd k h) (hd k (g1 k h)),hu,p2,q2,fun k h=>.inl h,fun k h=>.inr h,fun k h hn=>hd k (g2 k h) hn,hr,ht⟩
  cls:=fun {w q q1 q2 l x y} h1 h2 hd hu ⟨p1,p2,g1,g2,gd,hr,ht⟩ =>
    ⟨fun k=>q1 k∨p1 k,p2,fun k h=>h.elim (h1 k) (fun h=>h2 k (g1 k h)),fun k h=>h2 k (g2 k h),fun k h hn=>h.elim (fun h=>hd k h (g2 k hn)) (fun h=>gd k h hn),F.cls (fun k h=>.inl h) (fun k h=>.inr h) (fun k h hn=>hd k h (g1 k hn)) hu hr,ht⟩
def Fld.snd {α β γ:Type} {S:Ty α} {T:Ty β} {U:Ty γ} (F:Fld T U):Fld (Ty.pair S T) U where
  get:=fun x=>F.get x.2
  set:=fun x y=>(x.1,F.set x.2 y)
  Sk:=fun l=>F.Sk l.2
  R:=fun l x=>Two (F.R l.2 x.2) (Elt S l.1 x.1)
  opn:=fun ⟨q1,q2,h1,h2,hd,hs,ht⟩=>by
    obtain ⟨p1,p2,g1,g2,gd,hu,hr⟩:=F.opn ht
    exact ⟨p1,fun k=>p2 k∨q1 k,fun k h=>h2 k (g1 k h),fun k h=>h.elim (fun h=>h2 k (g2 k h)) (h1 k),fun k h hn=>hn.elim (gd k h) (fun h'=>hd k h' (g1 k h)),hu,p2,q1,fun k h=>.inl h,fun k h=>.inr h,fun k h hn=>hd k hn (g2 k h),hr,hs⟩
  cls:=fun {w q q1 q2 l x y} h1 h2 hd hu ⟨p1,p2,g1,g2,gd,hr,hs⟩ =>
    ⟨p2,fun k=>q1 k∨p1 k,fun k h=>h2 k (g2 k h),fun k h=>h.elim (h1 k) (fun h=>h2 k (g1 k h)),fun k h hn=>hn.elim (fun h'=>hd k h' (g2 k h)) (fun h'=>gd k h' h),hs,F.cls (fun k h=>.inl h) (fun k h=>.inr h) (fun k h hn=>hd k h (g1 k hn)) hu hr⟩
def Fld.iso {α β γ:Type} {T:Ty β} {U:Ty γ} (F:Fld T U) {f:α→β} {n:Nat} {hn:T.sz=n} (g:α→γ→α) (hg:∀ x y,f (g x y)=F.set (f x) y):Fld (Ty.iso T f n hn) U where
  get:=fun x=>F.get (f x)
  set:=g
  Sk:=F.Sk
  R:=fun l x=>F.R l (f x)
  opn:=fun h=>F.opn h
  cls:=fun {w q q1 q2 l x y} h1 h2 hd hu hr=>by
    show T.M w q l (f (g x y))
    rw [hg]
    exact F.cls h1 h2 hd hu hr
section
variable {α β:Type} {T:Ty α} {S:Ty β} {w0 w:World} {L:List Cn} {t:TypeId} {A:Option Addr} {c n:Nat} {ly:Nat→T.Lay} {xs:List α} {x:α} {y:β}
def pV (F:Fld T S) (t:TypeId) (A:Option Addr) (c:Nat) (ly:Nat→T.Lay) (xs:List α) (n:Nat) (x:α):Cn where
  P:=fun w q=>∃ q1 qa qb qr:Nat→Prop,(∀ k,q1 k→q k)∧(∀ k,qa k→q k)∧(∀ k,qb k→q k)∧(∀ k,qr k→q k)∧(∀ k,q1 k→¬ qa k∧¬ qb k∧¬ qr k)∧(∀ k,qa k→¬ qb k∧¬ qr k)∧(∀ k,qb k→¬ qr k) ∧
    OR w t T.sz (.slice A xs.length c) xs.length (rc T ly 0 xs)∧(∀ k,(Value.slice A xs.length c).ownBlock=some k→q1 k)∧G9 T w ly 0 (xs.take n) qa∧G9 T w ly (n+1) (xs.drop (n+1)) qb∧(F.R (ly n) x).P w qr
  loc:=fun ⟨q1,qa,qb,qr,h1,ha,hb,hr,d1,d2,d3,ho,hbl,sa,sb,r⟩ hk=>⟨q1,qa,qb,qr,h1,ha,hb,hr,d1,d2,d3,ho.loc (fun k h=>hk k (h1 k (hbl k h))),hbl,sa.loc (fun k h=>hk k (ha k h)),sb.loc (fun k h=>hk k (hb k h)),(F.R (ly n) x).loc r (fun k h=>hk k (hr k h))⟩
  more:=fun ⟨q1,qa,qb,qr,h1,ha,hb,hr,r⟩ hk=>⟨q1,qa,qb,qr,fun k h=>hk k (h1 k h),fun k h=>hk k (ha k h),fun k h=>hk k (hb k h),fun k h=>hk k (hr k h),r⟩
theorem St.focus (F:Fld T S) (HS:St w0 w (Own T t A c ly xs::L)) (hn:xs[n]?=some x):St w0 w (Elt S (F.Sk (ly n)) (F.get x)::pV F t A c ly xs n x::L):=by
  obtain ⟨hb,q,r,hq,hr,hqr,⟨q1,q2,h1,h2,hd,hown,hbl,hs⟩,hL⟩:=HS
  have hlt:=(List.getElem?_eq_some_iff.1 hn).1
  have hx:xs=xs.take n++(x::xs.drop (n+1)):=by
    have h3:=(List.getElem?_eq_some_iff.1 hn).2
    rw [← h3,← List.drop_eq_getElem_cons hlt,List.take_append_drop]
  have htl:(xs.take n).length=n:=by rw [List.length_take]; omega
  rw [hx] at hs
  obtain ⟨qa,qc,ha,hc,hac,sa,sc⟩:=G9.cut hs
  rw [htl,Nat.zero_add] at sc
  obtain ⟨p0,p1,c0,c1,cd,hM,sb⟩:=sc
  obtain ⟨e1,e2,f1,f2,fd,hS,hR⟩:=F.opn hM
  refine ⟨hb,e1,fun k=>(q1 k∨qa k∨p1 k∨e2 k)∨r k,?_,?_,?_,hS,fun k=>q1 k∨qa k∨p1 k∨e2 k,r,fun k h=>.inl h,fun k h=>.inr h,?_,⟨q1,qa,p1,e2,fun k h=>.inl h,fun k h=>.inr (.inl h),fun k h=>.inr (.inr (.inl h)),fun k h=>.inr (.inr (.inr h)),?_,?_,?_,hown,hbl,sa,sb,hR⟩,hL⟩
  · exact fun k h=>hq k (h2 k (hc k (c0 k (f1 k h))))
  · rintro k ((h | h | h | h) | h)
    · exact hq k (h1 k h)
    · exact hq k (h2 k (ha k h))
    · exact hq k (h2 k (hc k (c1 k h)))
    · exact hq k (h2 k (hc k (c0 k (f2 k h))))
    · exact hr k h
  · intro k h hn
    rcases hn with (hn | hn | hn | hn) | hn
    · exact hd k hn (hc k (c0 k (f1 k h)))
    · exact hac k hn (c0 k (f1 k h))
    · exact cd k (f1 k h) hn
    · exact fd k h hn
    · exact hqr k (h2 k (hc k (c0 k (f1 k h)))) hn
  · intro k h hn
    rcases h with h | h | h | h
    · exact hqr k (h1 k h) hn
    · exact hqr k (h2 k (ha k h)) hn
    · exact hqr k (h2 k (hc k (c1 k h))) hn
    · exact hqr k (h2 k (hc k (c0 k (f2 k h)))) hn
  · exact fun k h=>⟨fun g=>hd k h (ha k g),fun g=>hd k h (hc k (c1 k g)),fun g=>hd k h (hc k (c0 k (f2 k g)))⟩
  · exact fun k h=>⟨fun g=>hac k h (c1 k g),fun g=>hac k h (c0 k (f2 k g))⟩
  · exact fun k h g=>cd k (f2 k g) h
theorem St.qK (F:Fld T S) (HS:St w0 w (Elt S (F.Sk (ly n)) y::pV F t A c ly xs n x::L)) (hn:xs[n]?=some x) (hc:T.cells (ly n) (F.set x y)=T.cells (ly n) x):St w0 w (Own T t A c ly (xs.set n (F.set x y))::L):=by
  obtain ⟨hb,q,r,hq,hr,hqr,hS,q',r',hq',hr',hqr',⟨q1,qa,qb,qe,h1,ha,hbb,he,d1,d2,d3,hown,hbl,sa,sb,hR⟩,hL⟩:=HS
  have hlt:=(List.getElem?_eq_some_iff.1 hn).1
  have hx:xs.set n (F.set x y)=xs.take n++(F.set x y::xs.drop (n+1)):=by rw [List.set_eq_take_append_cons_drop,if_pos hlt]
  have htl:(xs.take n).length=n:=by rw [List.length_take]; omega
  refine ⟨hb,fun k=>q k∨q' k,r',fun k h=>h.elim (hq k) (fun h=>hr k (hq' k h)),fun k h=>hr k (hr' k h),fun k h hn=>h.elim (fun h=>hqr k h (hr' k hn)) (fun h=>hqr' k h hn),⟨q1,fun k=>qa k∨(q k∨qe k∨qb k),fun k h=>.inr (h1 k h),?_,?_,?_,by rw [List.length_set]; exact hbl,?_⟩,hL⟩
  · rintro k (h | h | h | h)
    · exact .inr (ha k h)
    · exact .inl h
    · exact .inr (he k h)
    · exact .inr (hbb k h)
  · rintro k h (g | g | g | g)
    · exact (d1 k h).1 g
    · exact hqr k g (hq' k (h1 k h))
    · exact (d1 k h).2.2 g
    · exact (d1 k h).2.1 g
  · rw [List.length_set]
    have:rc T ly 0 (xs.set n (F.set x y))=rc T ly 0 xs:=by
      have e1:rc T ly 0 xs=rc T ly 0 (xs.take n)++(T.cells (ly (0+(xs.take n).length)) x++rc T ly (0+(xs.take n).length+1) (xs.drop (n+1))):=by
        have h3:=(List.getElem?_eq_some_iff.1 hn).2
        have hxx:xs=xs.take n++(x::xs.drop (n+1)):=by rw [← h3,← List.drop_eq_getElem_cons hlt,List.take_append_drop]
        conv=>lhs; rw [hxx,H8]
        rfl
      rw [hx,H8,e1,htl,Nat.zero_add,← hc]
      rfl
    rw [this]
    exact hown
  · rw [hx]
    refine G9.join sa ?_ ?_
    · rw [htl,Nat.zero_add]
      exact ⟨fun k=>q k∨qe k,qb,fun k h=>h.elim .inl (fun h=>.inr (.inl h)),fun k h=>.inr (.inr h),fun k h g=>h.elim (fun h=>hqr k h (hq' k (hbb k g))) (fun h=>d3 k g h),F.cls (fun k h=>.inl h) (fun k h=>.inr h) (fun k h g=>hqr k h (hq' k (he k g))) hS hR,sb⟩
    · rintro k h (g | g | g)
      · exact hqr k g (hq' k (ha k h))
      · exact (d2 k h).2 g
      · exact (d2 k h).1 g
end
section
variable {α β:Type} {T:Ty α} {S:Ty β} {w0 w:World} {L:List Cn} {t u:TypeId} {A:Option Addr} {c n:Nat} {ly:Nat→T.Lay} {xs:List α} {x:α} {y:List β}
theorem St.Sy (F:Fld T (Ty.slice u S)) (hn:xs[n]?=some x) (HS:St w0 w (Own T t A c ly xs::L)):St w0 w (Own S u (F.Sk (ly n)).A (F.Sk (ly n)).c (F.Sk (ly n)).ly (F.get x)::pV F t A c ly xs n x::L):=St.focus F HS hn
theorem St.Qa (F:Fld T (Ty.slice u S)) (hn:xs[n]?=some x) (hc:T.cells (ly n) (F.set x y)=T.cells (ly n) x) (HS:St w0 w (Own S u (F.Sk (ly n)).A (F.Sk (ly n)).c (F.Sk (ly n)).ly y::pV F t A c ly xs n x::L)):St w0 w (Own T t A c ly (xs.set n (F.set x y))::L):=St.qK F HS hn hc
end
section
variable {α:Type} {T:Ty α} {P:Program} {N:Nat} {e:Env} {w0 w:World} {L:List Cn} {Q:Act→World→Prop} {ops:Array Oper} {i d:Nat} {rest:List Nat} {ty:TypeId} {ps:String} {af:Array Edge}
end
def seq (a b:ByteArray):Bool:=a.toList == b.toList
def slt (a b:ByteArray):Bool:=Op.bytesLess a.toList b.toList
def Yo (s:ByteArray) (i:Nat):Int:=((s.data.toList.getD i 0).toNat:Int)
section
variable {P:Program} {N:Nat} {e:Env} {w0 w:World} {L:List Cn} {Q:Act→World→Prop} {ops:Array Oper} {i d:Nat} {rest:List Nat} {ty:TypeId} {ps:String} {af:Array Edge} {t t':TypeId} {x y z:Operand} {a b:ByteArray}
theorem GO.R5 (ho:ops[i]?=some ⟨some d,.binOp .eql t x y t',ty,ps,af,none⟩) (hx:ev e x=some (.string a)) (hy:ev e y=some (.string b)) (hN:Nat.blt d N=true) (g:GO P N ops rest ((d,.bool (seq a b))::e) w Q):GO P N ops (i::rest) e w Q :=
  GO.val _ ho rfl rfl hN (fun a hs=>by simp [execOp,hs.ev hx,hs.ev hy,eqGuard,binOp,Op.stringOp,seq]) g
theorem GO.qW (ho:ops[i]?=some ⟨some d,.binOp .neq t x y t',ty,ps,af,none⟩) (hx:ev e x=some (.string a)) (hy:ev e y=some (.string b)) (hN:Nat.blt d N=true) (g:GO P N ops rest ((d,.bool (!(seq a b)))::e) w Q):GO P N ops (i::rest) e w Q :=
  GO.val _ ho rfl rfl hN (fun a hs=>by simp [execOp,hs.ev hx,hs.ev hy,eqGuard,binOp,Op.stringOp,seq]) g
theorem GO.vL (ho:ops[i]?=some ⟨some d,.binOp .geq t x y t',ty,ps,af,none⟩) (hx:ev e x=some (.string a)) (hy:ev e y=some (.string b)) (hN:Nat.blt d N=true) (g:GO P N ops rest ((d,.bool (!(slt a b)))::e) w Q):GO P N ops (i::rest) e w Q :=
  GO.val _ ho rfl rfl hN (fun a hs=>by simp [execOp,hs.ev hx,hs.ev hy,eqGuard,binOp,Op.stringOp,slt]) g
theorem GO.Yq (ho:ops[i]?=some ⟨some d,.binOp .add t x y t',ty,ps,af,none⟩) (hx:ev e x=some (.string a)) (hy:ev e y=some (.string b)) (hs:a.size+b.size≤9223372036854775807) (hN:Nat.blt d N=true) (g:GO P N ops rest ((d,.string (a++b))::e) w Q):GO P N ops (i::rest) e w Q :=
  GO.val _ ho rfl rfl hN (fun a' hs'=>by
    have hm:IntKind.i64.max=9223372036854775807:=by decide
    have h:¬ (9223372036854775807<(a.size:Int)+(b.size:Int)):=by omega
    simp [execOp,hs'.ev hx,hs'.ev hy,eqGuard,binOp,Op.stringOp,hm,h]
    try omega) g
theorem GO.Qz (ho:ops[i]?=some ⟨some d,.call { callee:=.builtin .len,args:=#[x],argTypes:=#[t] },ty,ps,af,none⟩) (hx:ev e x=some (.string a)) (ht:P.underlying t=some .string) (hN:Nat.blt d N=true) (g:GO P N ops rest ((d,.int .i64 (a.size:Int))::e) w Q):GO P N ops (i::rest) e w Q :=
  GO.val _ ho rfl rfl hN (fun a hs=>by simp [execOp,resolve,invoke,builtin,Builtin.len_,hs.ev hx,run_underlying ht,goInt]) g
theorem GO.ixS {kd:IntKind} {m:Int} (ho:ops[i]?=some ⟨some d,.index t x y,ty,ps,af,none⟩) (hx:ev e x=some (.string a)) (hy:ev e y=some (.int kd m)) (ht:P.underlying t=some .string) (h0:0≤m) (h1:m<(a.size:Int)) (hN:Nat.blt d N=true) (g:GO P N ops rest ((d,.int .u8 (Yo a m.toNat))::e) w Q):GO P N ops (i::rest) e w Q :=
  GO.val _ ho rfl rfl hN (fun a' hs=>by
    have hm:m.toNat<a.size:=by omega
    have hb:a[m.toNat]?=some a[m.toNat]:=getElem?_pos a m.toNat hm
    have hv:Yo a m.toNat=(a[m.toNat].toNat:Int):=by
      unfold Yo
      rw [List.getD_eq_getElem?_getD,Array.getElem?_toList,getElem?_pos a.data m.toNat hm]
      rfl
    rw [hv]
    simp [execOp,hs.ev hx,hs.ev hy,Instr.index,asIntOf,run_underlying ht,h0,hb]) g
theorem GO.nI {kl kh:IntKind} {l h:Int} (ho:ops[i]?=some ⟨some d,.slice t x (some y) (some z) none,ty,ps,af,none⟩) (hx:ev e x=some (.string a)) (hy:ev e y=some (.int kl l)) (hz:ev e z=some (.int kh h)) (ht:P.underlying t=some .string) (h0:0≤l∧l≤h) (h1:0≤h∧h≤(a.size:Int)) (hN:Nat.blt d N=true) (g:GO P N ops rest ((d,.string (a.extract l.toNat h.toNat))::e) w Q):GO P N ops (i::rest) e w Q :=
  GO.val _ ho rfl rfl hN (fun a' hs=>by
    have h2:l≤(h.toNat:Int):=by omega
    have h3:¬ max h 0<l:=by omega
    simp [execOp,Instr.sliceAt,Instr.slice,Instr.sliceBounds,Instr.sliceBound,asIntOf,hs.ev hx,hs.ev hy,hs.ev hz,run_underlying ht,h1.1,h1.2,h0.1,h2,h3]) g
theorem Vv {r pos:Nat} {s:ByteArray} (h:w.heap[r]?=some (.stringIter s pos)):(getObj r).run P w=.ok (.stringIter s pos) w:=by simp [getObj,Sem.run,h]
theorem eD {r pos:Nat} {s:ByteArray} (o:Obj) (h:w.heap[r]?=some (.stringIter s pos)):(setObj r o).run P w=.ok () { w with heap:=w.heap.setIfInBounds r o }:=by simp [setObj,Sem.run,h]
def Iter (b:Nat) (s:ByteArray) (pos:Nat):Cn where
  P:=fun w q=>q b∧w.heap[b]?=some (.stringIter s pos)
  loc:=fun h hk=>⟨h.1,(hk b h.1).trans h.2⟩
  more:=fun h hq=>⟨hq b h.1,h.2⟩
theorem GO.zF {s:ByteArray} (HS:St w0 w L) (ho:ops[i]?=some ⟨some d,.range t x,ty,ps,af,none⟩) (hx:ev e x=some (.string s)) (ht:P.underlying t=some .string) (hN:Nat.blt d N=true) (g:∀ b w',St w0 w' (Iter b s 0::L)→GO P N ops rest ((d,.pointer (some ⟨b,0,none⟩))::e) w' Q):GO P N ops (i::rest) e w Q :=
  GO.val (w':=w.alloc (.stringIter s 0)) _ ho rfl rfl hN (fun a hs=>by simp [execOp,Instr.range,hs.ev hx,run_underlying ht]) (g _ _ (HS.cons (by simp) rfl rfl rfl (fun k hk=>Below.heap_alloc w _ k hk) ⟨by simp,heap_alloc_new w _⟩))
theorem GO.Aak {s:ByteArray} {b pos j:Nat} (HS:St w0 w L) (hj:L[j]?=some (Iter b s pos)) (ho:ops[i]?=some ⟨some d,.next x true,ty,ps,af,none⟩) (hx:ev e x=some (.pointer (some ⟨b,0,none⟩))) (hp:pos<s.size) (hN:Nat.blt d N=true)
    (g:∀ w',St w0 w' (L.set j (Iter b s (pos+(Utf8.decode s pos).2)))→GO P N ops rest ((d,.tuple #[.bool true,.int .i64 (pos:Int),.int .i32 ((Utf8.decode s pos).1:Int)])::e) w' Q):GO P N ops (i::rest) e w Q:=by
  obtain ⟨q,hq,h1,h2⟩:=HS.get hj
  refine GO.val (w':={ w with heap:=w.heap.setIfInBounds b (.stringIter s (pos+(Utf8.decode s pos).2)) }) _ ho rfl rfl hN (fun a hs=>by simp [execOp,Instr.next,hs.ev hx,Vv h2,eD _ h2,hp,goInt]) (g _ ?_)
  refine HS.upd hj (by simp) rfl rfl rfl (fun q hq=>⟨q,fun k hk=>.inl hk,⟨hq.1,?_⟩,fun k hk hn=>?_⟩)
  · have:=(Array.getElem?_eq_some_iff.1 hq.2).1
    simp [this]
  · have:b≠k:=fun e=>hn (by rw [← e]; exact hq.1)
    simp [Array.getElem?_setIfInBounds_ne this]
theorem GO.AaT {s:ByteArray} {b pos j:Nat} (HS:St w0 w L) (hj:L[j]?=some (Iter b s pos)) (ho:ops[i]?=some ⟨some d,.next x true,ty,ps,af,none⟩) (hx:ev e x=some (.pointer (some ⟨b,0,none⟩))) (hp:¬ pos<s.size) (hN:Nat.blt d N=true)
    (g:GO P N ops rest ((d,.tuple #[.bool false])::e) w Q):GO P N ops (i::rest) e w Q:=by
  obtain ⟨q,hq,h1,h2⟩:=HS.get hj
  exact GO.val _ ho rfl rfl hN (fun a hs=>by simp [execOp,Instr.next,hs.ev hx,Vv h2,hp]) g
theorem Yz {k:IntKind} {u v:Int} (ht:P.underlying t=some (.int k)) (dp:Nat) (w:World):(Op.equalIn (dp+1) t (.int k u) (.int k v)).run P w=.ok (u == v) w:=by simp [Op.equalIn,run_underlying ht]
theorem qM {f0 f1 : Field} {a0 a1 b0 b1 : Int} (hu : P.underlying t = some (.struct #[f0, f1])) (hs : P.stoodInHeld t = false) (hn : (f0.name ≠ "_" ∧ f1.name ≠ "_") ∧ f0.offset = 0 ∧ f1.offset = 1) (t0 : P.underlying f0.type = some (.int .i64)) (t1 : P.underlying f1.type = some (.int .i64)) (n0 : naB P f0.type = true) (n1 : naB P f1.type = true) :
    (Op.equal t (.agg [.int .i64 a0,.int .i64 a1].toArray) (.agg [.int .i64 b0,.int .i64 b1].toArray)).run P w=.ok (decide ((a0,a1)=(b0,b1))) w:=by
  show (Op.equalIn (9999+1) t _ _).run P w=_
  have hf:P.fieldsOf t=#[f0,f1]:=by simp [Program.fieldsOf,hu]
  rw [run_equalIn_struct w 9999 t _ _ (by rw [hf]; exact hu) hs,hf]
  have e:(9999:Nat)=9998+1:=rfl
  rw [e]
  by_cases h0:a0=b0 <;> by_cases h1:a1=b1 <;> simp [Op.eqFields,part,h0,h1,hn.1.1,hn.1.2,hn.2.1,hn.2.2,Qo n0,Qo n1,Yz t0,Yz t1]
theorem rQ {el:TypeId} {inf:TypeInfo} {a0 a1 a2 a3 b0 b1 b2 b3:Bool} (hu:P.underlying t=some (.array 4 el)) (hi:P.info? el=some inf) (hC:P.cellsOf el=1) (te:P.underlying el=some .bool) (ne:naB P el=true) :
    (Op.equal t (.agg [.bool a0,.bool a1,.bool a2,.bool a3].toArray) (.agg [.bool b0,.bool b1,.bool b2,.bool b3].toArray)).run P w=.ok (decide ((a0,a1,a2,a3)=(b0,b1,b2,b3))) w:=by
  show (Op.equalIn (9999+1) t _ _).run P w=_
  rw [run_equalIn_array (w:=w) 9999 _ _ hu hi,hC]
  have e:(9999:Nat)=9998+1:=rfl
  rw [e]
  by_cases h0:a0=b0 <;> by_cases h1:a1=b1 <;> by_cases h2:a2=b2 <;> by_cases h3:a3=b3 <;> simp [Op.eqItems,List.range_succ,part,h0,h1,h2,h3,Qo ne,run_equalIn_bool te]
theorem GO.bS {el:TypeId} {A:Option Addr} {c:Nat} {ly:Nat→(Bi .u8).Lay} {xs:List Int} (HS:St w0 w L) (hr:Av w0 L (Bi .u8) A c ly xs) (ho:ops[i]?=some ⟨some d,.convert t t' x,ty,ps,af,none⟩) (hx:ev e x=some (.slice A xs.length c)) (ht:P.underlying t=some (.slice el)) (he:P.underlying el=some (.int .u8)) (ht':P.underlying t'=some .string) (hN:Nat.blt d N=true)
    (g:GO P N ops rest ((d,.string (strOfNums xs))::e) w Q):GO P N ops (i::rest) e w Q :=
  GO.val _ ho rfl rfl hN (fun a hs=>by
    have hR:=hr w HS
    have hrun:(convert t t' (.slice A xs.length c)).run P w=.ok (.string (strOfNums xs)) w:=by
      rcases Nat.eq_zero_or_pos xs.length with h0 | h0
      · have hnil:=List.eq_nil_of_length_eq_zero h0
        subst hnil
        cases A with
        | none=>exact run_convert_bytes_nil w t el ht he _ _ _ ht'
        | some a =>
          rw [run_convert_bytes_string w t t' el _ _ c ht he ht',run_bytesToString w a _ c [] (by simpa using run_loadCells_list (P:=P) w a [] (fun j v h=>by simp at h))]
          rfl
      · obtain ⟨b,o,rfl⟩:=hR.2.2.1 h0
        exact run_convert_bytes_arg w t el ht he b o xs.length c xs rfl (fun i hi=>by
          have h1:=hR.cell (i:=i) (j:=0) (x:=xs[i]) (u:=.int .u8 xs[i]) (List.getElem?_eq_getElem hi) (by decide) rfl
          rw [R6,Ia] at h1
          simp only [Nat.mul_one,Nat.add_zero] at h1
          rw [h1,List.getD_eq_getElem?_getD,List.getElem?_eq_getElem hi]
          rfl) _ ht'
    simp [execOp,hs.ev hx,hrun]) g
theorem GO.qZ {vs us:List Value} {r:Bool} (ho:ops[i]?=some ⟨some d,.binOp .eql t x y t',ty,ps,af,none⟩) (hx:ev e x=some (.agg vs.toArray)) (hy:ev e y=some (.agg us.toArray)) (hg:P.eqGuardType P.depth t=false) (hr:∀ w,(Op.equal t (.agg vs.toArray) (.agg us.toArray)).run P w=.ok r w) (hN:Nat.blt d N=true) (g:GO P N ops rest ((d,.bool r)::e) w Q):GO P N ops (i::rest) e w Q :=
  GO.val _ ho rfl rfl hN (fun a hs=>by
    have h1:=hr w
    simp [execOp,hs.ev hx,hs.ev hy,eqGuard,binOp,Sem.program,hg,h1]) g
theorem GO.fT {vs us:List Value} {r:Bool} (ho:ops[i]?=some ⟨some d,.binOp .neq t x y t',ty,ps,af,none⟩) (hx:ev e x=some (.agg vs.toArray)) (hy:ev e y=some (.agg us.toArray)) (hg:P.eqGuardType P.depth t=false) (hr:∀ w,(Op.equal t (.agg vs.toArray) (.agg us.toArray)).run P w=.ok r w) (hN:Nat.blt d N=true) (g:GO P N ops rest ((d,.bool (!r))::e) w Q):GO P N ops (i::rest) e w Q :=
  GO.val _ ho rfl rfl hN (fun a hs=>by
    have h1:=hr w
    simp [execOp,hs.ev hx,hs.ev hy,eqGuard,binOp,Sem.program,hg,h1]) g
theorem Av.take {α:Type} {T:Ty α} {w0:World} {L:List Cn} {A:Option Addr} {c h:Nat} {ly:Nat→T.Lay} {xs:List α} (hr:Av w0 L T A c ly xs) (hh:h≤xs.length):Av w0 L T A c ly (xs.take h):=fun w hs=>by
  have h0:=hr w hs
  have hl:(xs.take h).length=h:=by rw [List.length_take]; omega
  refine ⟨by rw [hl]; exact Nat.le_trans hh h0.1,h0.2.1,fun hp=>h0.2.2.1 (by omega),fun j u hu=>h0.2.2.2.1 j u ?_,fun i x hx=>h0.2.2.2.2 i x ?_⟩
  · have:rc T ly 0 xs=rc T ly 0 (xs.take h)++rc T ly (0+(xs.take h).length) (xs.drop h):=by rw [← H8,List.take_append_drop]
    rw [this]
    exact List.getElem?_append_left (List.getElem?_eq_some_iff.1 hu).1 ▸ hu
  · rw [List.getElem?_take] at hx
    split at hx
    · exact hx
    · cases hx
theorem GO.vB {el:TypeId} {b n sz m:Nat} {kh:IntKind} {h:Int} (ho:ops[i]?=some ⟨some d,.slice t x none (some z) none,ty,ps,af,none⟩) (hx:ev e x=some (.pointer (some ⟨b,0,none⟩))) (hz:ev e z=some (.int kh h)) (ht:P.underlying t=some (.array n el)) (hsz:(P.info? el).map (·.size)=some sz) (h1:0≤h∧h≤(n:Int)) (hm:h.toNat=m)
    (hN:Nat.blt d N=true) (g:GO P N ops rest ((d,.slice (some ⟨b,0,none⟩) m n)::e) w Q):GO P N ops (i::rest) e w Q :=
  GO.val _ ho rfl rfl hN (fun a hs=>by
    obtain ⟨inf,hi,hi2⟩:=Option.map_eq_some_iff.1 hsz
    have eh:(h.toNat:Int)=h:=Int.toNat_of_nonneg h1.1
    simp [execOp,hs.ev hx,hs.ev hz,Instr.sliceAt,Instr.sureAddr,Instr.sliceBounds,run_sliceBound,run_underlying ht,sizeOf,typeInfo,hi,h1.1,h1.2,hm,Addr.add]) g
theorem rV {α:Type} {xs:List α} {h:Nat} (hh:h≤xs.length):h=(xs.take h).length:=by rw [List.length_take]; omega
theorem kF {α:Type} {xs ys:List α} {h:Nat} (e:ys.length=xs.length):((xs.take h).drop 0).length=((ys.take h).drop 0).length:=by rw [List.drop_zero,List.drop_zero,List.length_take,List.length_take,e]
section
variable {α:Type} {T:Ty α} {A:Option Addr} {c:Nat} {ly:Nat→T.Lay} {xs:List α} {t el:TypeId} {kl kh km:IntKind} {l h m:Int}
theorem sO {inf:TypeInfo} {n1:Nat} (ht:P.underlying t=some (.slice el)) (hi:P.info? el=some inf) (h0:0≤l) (h1:l≤h) (hc:h≤(c:Int)) :
    (Instr.sliceAt t (.slice A n1 c) (some (.int kl l)) (some (.int kh h)) none).run P w=.ok (.slice (Ja A l.toNat c inf.size) (h.toNat - l.toNat) (c - l.toNat)) w:=by
  have eh:(h.toNat:Int)=h:=Int.toNat_of_nonneg (by omega)
  have he:P.elem t=el:=by simp [Program.elem,ht]
  have ht':P.underlying t=some (.slice (P.elem t)):=by rw [he]; exact ht
  have hs:(sizeOf (P.elem t)).run P w=.ok inf.size w:=by rw [he]; simp [sizeOf,typeInfo,hi]
  have h4:0≤h:=by omega
  have hN:l.toNat≤h.toNat∧h.toNat≤c:=by omega
  rw [run_sliceAt_slice (h:=ht')]
  simp [Instr.slice,run_underlying ht',Instr.sliceBounds,run_sliceBound,hs,Ja,h0,h1,h4,hc,eh,hN]
theorem pG {inf:TypeInfo} {n1:Nat} (ht:P.underlying t=some (.slice el)) (hi:P.info? el=some inf) (h0:0≤l) (h1:l≤h) (h2:h≤m) (hc:m≤(c:Int)) :
    (Instr.sliceAt t (.slice A n1 c) (some (.int kl l)) (some (.int kh h)) (some (.int km m))).run P w=.ok (.slice (Ja A l.toNat m.toNat inf.size) (h.toNat - l.toNat) (m.toNat - l.toNat)) w:=by
  have eh:(h.toNat:Int)=h:=Int.toNat_of_nonneg (by omega)
  have em:(m.toNat:Int)=m:=Int.toNat_of_nonneg (by omega)
  have he:P.elem t=el:=by simp [Program.elem,ht]
  have ht':P.underlying t=some (.slice (P.elem t)):=by rw [he]; exact ht
  have hs:(sizeOf (P.elem t)).run P w=.ok inf.size w:=by rw [he]; simp [sizeOf,typeInfo,hi]
  have h4:0≤h:=by omega
  have h5:0≤m:=by omega
  rw [run_sliceAt_slice (h:=ht')]
  simp [Instr.slice,run_underlying ht',Instr.sliceBounds,run_sliceBound,hs,Ja,h0,h1,h2,h4,h5,hc,eh,em]
theorem GO.slM {z2:Operand} {n1:Nat} (ho:ops[i]?=some ⟨some d,.slice t x (some y) (some z) (some z2),ty,ps,af,none⟩) (hx:ev e x=some (.slice A n1 c)) (hy:ev e y=some (.int kl l)) (hz:ev e z=some (.int kh h)) (hz2:ev e z2=some (.int km m)) (ht:P.underlying t=some (.slice el)) {sz:Nat} (hsz:(P.info? el).map (·.size)=some sz) (h0:0≤l∧l≤h) (h2:h≤m) (hc:m≤(c:Int)) (hN:Nat.blt d N=true)
    (g:GO P N ops rest ((d,.slice (Ja A l.toNat m.toNat sz) (h.toNat - l.toNat) (m.toNat - l.toNat))::e) w Q):GO P N ops (i::rest) e w Q:=by
  obtain ⟨inf,hi,hi2⟩:=Option.map_eq_some_iff.1 hsz
  refine GO.val _ ho rfl rfl hN (fun a hs=>?_) g
  have:=pG (P:=P) (w:=w) (A:=A) (n1:=n1) (kl:=kl) (kh:=kh) (km:=km) ht hi h0.1 h0.2 h2 hc
  simp [execOp,hs.ev hx,hs.ev hy,hs.ev hz,hs.ev hz2,this,hi2]
theorem GO.uT {n1:Nat} (hr:xs.length≤c) (ho:ops[i]?=some ⟨some d,.slice t x (some y) (some z) none,ty,ps,af,none⟩) (hx:ev e x=some (.slice (Ja A 0 c T.sz) n1 (c - 0))) (hy:ev e y=some (.int kl l)) (hz:ev e z=some (.int kh h)) (ht:P.underlying t=some (.slice el)) (hsz:(P.info? el).map (·.size)=some T.sz) (h0:0≤l∧l≤h) (h2:0≤h∧h≤(xs.length:Int)) (hN:Nat.blt d N=true)
    (g:GO P N ops rest ((d,.slice (Ja A l.toNat c T.sz) ((xs.take h.toNat).drop l.toNat).length (c - l.toNat))::e) w Q):GO P N ops (i::rest) e w Q:=by
  obtain ⟨inf,hi,hi2⟩:=Option.map_eq_some_iff.1 hsz
  rw [Ps,Nat.sub_zero] at hx
  refine GO.val _ ho rfl rfl hN (fun a hs=>?_) g
  have:=sO (P:=P) (w:=w) (A:=A) (c:=c) (n1:=n1) (kl:=kl) (kh:=kh) ht hi h0.1 h0.2 (by omega)
  simp [execOp,hs.ev hx,hs.ev hy,hs.ev hz,this,hi2,rJ h0.1 h0.2 h2.2]
theorem Tx {α:Type} {xs:List α} {i l:Nat} (h:i≤l) (hl:l≤xs.length):(over xs i (xs.drop l)).length=xs.length:=Ls (by rw [List.length_drop]; omega)
theorem kR {α:Type} {xs:List α} {i l:Nat} (h:i≤l) (hl:l≤xs.length):i+(xs.length - l)≤(over xs i (xs.drop l)).length:=by rw [Tx h hl]; omega
theorem GO.fH {tb:TypeId} {j i1 l1 n1 n2:Nat} {z0:Value} {bytes:Nat} (HS:St w0 w L) (hj:L[j]?=some (Own T tb A c ly xs)) (hfl:Flat T) (hly:∀ k k',ly k=ly k') (ho:ops[i]?=some ⟨some d,.call { callee:=.builtin .append,args:=#[x,y],argTypes:=#[t,t] },ty,ps,af,none⟩) (hx:ev e x=some (.slice (Ja A 0 c T.sz) n1 (c - 0))) (hy:ev e y=some (.slice (Ja A l1 c T.sz) n2 (c - l1))) (e1:n1=i1) (e2:n2=xs.length - l1)
    (ht:P.underlying t=some (.slice el)) (hinf:(P.info? el).map (fun i=>(i.zero,i.size,i.bytes))=some (some z0,T.sz,bytes)) (hil:i1≤l1) (hl:l1≤xs.length) (hN:Nat.blt d N=true)
    (g:∀ w',St w0 w' (L.set j (Own T tb A c ly (over xs i1 (xs.drop l1))))→GO P N ops rest ((d,.slice (Ja A 0 c T.sz) (((over xs i1 (xs.drop l1)).take (i1+(xs.length - l1))).drop 0).length (c - 0))::e) w' Q):GO P N ops (i::rest) e w Q:=by
  obtain ⟨inf,hi,hzz⟩:=Option.map_eq_some_iff.1 hinf
  simp only [Prod.mk.injEq] at hzz
  obtain ⟨hz0,hz1,hz2⟩:=hzz
  subst e1
  subst e2
  have hdl:(xs.drop l1).length=xs.length - l1:=List.length_drop ..
  have hol:(over xs n1 (xs.drop l1)).length=xs.length:=Ls (by rw [hdl]; omega)
  have hlen:(((over xs n1 (xs.drop l1)).take (n1+(xs.length - l1))).drop 0).length=n1+(xs.length - l1):=by rw [List.drop_zero,List.length_take,hol]; omega
  rw [hlen] at g
  rw [Ps,Nat.sub_zero] at g hx
  have hR:=(Av.own hj) w HS
  have hcap:=hR.1
  rcases Nat.eq_zero_or_pos (xs.length - l1) with h0 | h0
  · have hd0:xs.drop l1=[]:=List.eq_nil_of_length_eq_zero (by rw [hdl]; exact h0)
    have ho':over xs n1 (xs.drop l1)=xs:=by rw [hd0]; unfold over; simp
    rw [ho',Si hj] at g
    refine GO.val _ ho rfl rfl hN (fun a hs=>?_) (g w HS)
    have hroom:n1≤c:=by omega
    cases A <;> cases hB:Ja _ l1 c T.sz <;> rw [hB] at hy <;> simp [execOp,resolve,invoke,builtin,hs.ev hx,hs.ev hy,Builtin.append_,run_underlying ht,sizeOf,typeInfo,hi,Builtin.lenOf,h0,hroom,Builtin.firstCells,loadCells,loadCellsFrom,storeCells]
  · obtain ⟨gb,og,cur,hA,hh,hfit,hst⟩:=HS.aB (g:=0) (o:=0) (ys:=xs.drop l1) (l:=n1) hj hfl hly (by rw [hdl]; omega) (by rw [hdl]; exact h0)
    subst hA
    have hne:¬ c=l1:=by omega
    have hB:Ja (some ⟨gb,og,none⟩) l1 c T.sz=some ⟨gb,og+l1 * T.sz,none⟩:=by unfold Ja; rw [if_neg hne,Option.map_some,Ia]
    rw [hB] at hy
    have hcells:rc T ly 0 (xs.drop l1)=(rc T ly 0 xs).drop (l1 * T.sz):=by
      have h3:rc T ly 0 xs=rc T ly 0 (xs.take l1)++rc T ly (0+(xs.take l1).length) (xs.drop l1):=by rw [← H8,List.take_append_drop]
      have htl:(xs.take l1).length=l1:=by rw [List.length_take]; omega
      have h4:(rc T ly 0 (xs.take l1)).drop (l1 * T.sz)=[]:=List.drop_of_length_le (by rw [Ec,htl]; exact Nat.le_refl _)
      rw [h3,List.drop_append,h4,Ec,htl,Nat.sub_self,List.drop_zero,List.nil_append]
      have:∀ (i j:Nat) (zs:List α),rc T ly i zs=rc T ly j zs:=by
        intro i j zs
        induction zs generalizing i j with
        | nil=>rfl
        | cons z zs ih=>rw [rc,rc,hly i j,ih (i+1) (j+1)]
      exact this _ _ _
    have hload:(loadCells ⟨gb,og+l1 * T.sz,none⟩ ((xs.length - l1) * T.sz)).run P w=.ok (rc T ly 0 (xs.drop l1)).toArray w:=by
      have:=run_loadCells_list (P:=P) w ⟨gb,og+l1 * T.sz,none⟩ (rc T ly 0 (xs.drop l1)) (fun q v hv=>by
        rw [hcells,List.getElem?_drop] at hv
        have:=hR.2.2.2.1 _ _ hv
        rw [R6,Ia] at this
        rw [Ia,Nat.add_assoc]
        exact this)
      rwa [Ec,hdl] at this
    have hsto:=run_storeCells_at P gb (og+n1 * T.sz) tb (rc T ly 0 (xs.drop l1)) 0 cur w hh (by rw [Ec]; omega) (fun u hu=>Vq hu)
    simp only [Nat.add_zero] at hsto
    have hroom:n1+(xs.length - l1)≤c:=by omega
    refine GO.val _ ho rfl rfl hN (fun a hs=>?_) (g _ hst)
    have had:(⟨gb,og,none⟩:Addr).add (n1 * T.sz)=⟨gb,og+n1 * T.sz,none⟩:=Ia ..
    simp [execOp,resolve,invoke,builtin,hs.ev hx,hs.ev hy,Builtin.append_,run_underlying ht,sizeOf,typeInfo,hi,hz1,Builtin.lenOf,hroom,Builtin.firstCells,hload,had,hsto,splice]
end
end
def Rk (a b:ByteArray):Int:=Lib.compareBytes a.data.toList b.data.toList
section
variable {P:Program} {N:Nat} {e:Env} {w:World} {Q:Act→World→Prop} {ops:Array Oper} {i d:Nat} {rest:List Nat} {ty:TypeId} {ps:String} {af:Array Edge} {x y:Operand} {a b:ByteArray}
theorem GO.Abe {h : FuncId} {fn : Func} {tys : Array TypeId} (ho : ops[i]? = some ⟨some d, .call { callee := .value (.func h), args := #[x, y], argTypes := tys }, ty, ps, af, none⟩) (hf : P.funcs[h]? = some fn) (hn : (fn.name == "runtime.NumGoroutine") = false) (hb : fn.body.isNone = true) (hn2 : Extern.findNext fn = none) (he : Extern.find fn = some Extern.BytealgCompare.compare)
    (hx:ev e x=some (.string a)) (hy:ev e y=some (.string b)) (hN:Nat.blt d N=true) (g:GO P N ops rest ((d,.int .i64 (Rk a b))::e) w Q):GO P N ops (i::rest) e w Q :=
  GO.val _ ho rfl rfl hN (fun a' hs=>by
    have e1:=hs.ev hx
    have e2:=hs.ev hy
    have e3:(#[x,y]:Array Operand).map a'.eval=#[Value.string a,Value.string b]:=by simp [e1,e2]
    have hr:=run_callFunc_extern hf hn hb hn2 he #[Value.string a,Value.string b] w
    rw [Lib.run_compareString] at hr
    have e4:a'.eval (Operand.func h)=Value.func (Fn.func h) #[] #[]:=rfl
    simp only [execOp,resolve,Deferred.ofValue,e4,invoke,e3,Rk,Array.empty_append]
    exact hr) g
theorem GO.jF {A:Addr} (ho:ops[i]?=some ⟨some d,.nilCheck x,ty,ps,af,none⟩) (hx:ev e x=some (.pointer (some A))) (hN:Nat.blt d N=true) (g:GO P N ops rest ((d,.pointer (some A))::e) w Q):GO P N ops (i::rest) e w Q :=
  GO.val _ ho rfl rfl hN (fun a' hs=>by simp [execOp,hs.ev hx]) g
end
theorem OR.Aao {w:World} {t:TypeId} {sz n c l k m:Nat} {A:Option Addr} {xs:List Value} (h:OR w t sz (.slice A n c) n xs) (hl:l+k≤n) (hk:l+k≤m) (hm:m≤c):OR w t sz (.slice (Ja A l m sz) k (m - l)) k ((xs.drop (l * sz)).take (k * sz)):=by
  have hmul:(l+k) * sz≤n * sz:=Nat.mul_le_mul_right _ hl
  rw [Nat.add_mul] at hmul
  refine ⟨by rw [List.length_take,List.length_drop,h.1]; omega,?_⟩
  unfold Ja
  rcases h.2 with ⟨h2,h0⟩ | ⟨g,o,cap,cur,hv,hh,hnc,hcm,hsz,htk⟩
  · injection h2 with hA _ hcc
    subst hA
    subst hcc
    refine .inl ⟨?_,by omega⟩
    rw [show k=0 by omega,show m - l=0 by omega]
    split <;> rfl
  · injection hv with hA _ hcc
    subst hA
    subst hcc
    by_cases hcl:m=l
    · rw [if_pos hcl]
      have hm0:k=0:=by omega
      subst hm0
      exact .inr ⟨g,o,m - l,cur,rfl,hh,by omega,by omega,by rw [show m - l=0 by omega]; omega,by simp⟩
    · rw [if_neg hcl]
      have hmul2:(l+(m - l)) * sz≤c * sz:=Nat.mul_le_mul_right _ (by omega)
      rw [Nat.add_mul] at hmul2
      refine .inr ⟨g,o+l * sz,m - l,cur,by rw [Option.map_some,Ia],hh,by omega,by omega,by omega,?_⟩
      rw [← htk,← List.drop_drop,List.drop_take,List.take_take]
      congr 1
      omega
theorem G9.shift {α:Type} {T:Ty α} {w:World} {ly:Nat→T.Lay} {l:Nat}:∀ {xs:List α} {i:Nat} {q:Nat→Prop},G9 T w ly (l+i) xs q→G9 T w (fun k=>ly (l+k)) i xs q
  | [],_,_,_=>trivial
  | _::_,_,_,⟨q0,q1,h0,h1,hd,hx,hs⟩=>⟨q0,q1,h0,h1,hd,hx,G9.shift hs⟩
theorem bC {A:Option Addr} {l m s n n' c c' k:Nat} (h:(Value.slice (Ja A l m s) n c).ownBlock=some k):(Value.slice A n' c').ownBlock=some k:=by
  unfold Ja at h
  split at h
  · cases A with
    | none=>simp [Value.ownBlock] at h
    | some a=>simpa [Value.ownBlock] using h
  · cases A with
    | none=>simp [Value.ownBlock] at h
    | some a =>
      have:(a.add (l * s)).block=a.block:=by unfold Addr.add; split <;> rfl
      simpa [Value.ownBlock,this] using h
section
variable {α:Type} {T:Ty α} {w0 w:World} {L:List Cn} {t:TypeId} {A A':Option Addr} {c c' j l h m:Nat} {ly:Nat→T.Lay} {xs:List α}
theorem zH (hlh:l≤h) (hh:h≤xs.length):rc T (fun k=>ly (l+k)) 0 ((xs.take h).drop l)=((rc T ly 0 xs).drop (l * T.sz)).take ((h - l) * T.sz):=by
  have hsplit:xs=xs.take l++((xs.take h).drop l++xs.drop h):=by
    rw [List.drop_take]
    have:List.take (h - l) (List.drop l xs)++List.drop h xs=List.drop l xs:=by
      rw [show h=l+(h - l) by omega,← List.drop_drop,show l+(h - l) - l=h - l by omega,List.take_append_drop]
    rw [this,List.take_append_drop]
  have htl:(xs.take l).length=l:=by rw [List.length_take]; omega
  have hml:((xs.take h).drop l).length=h - l:=by rw [List.length_drop,List.length_take]; omega
  rw [Xd,Nat.add_zero]
  conv=>rhs; rw [hsplit,H8,H8,htl,Nat.zero_add]
  rw [List.drop_left' (by rw [Ec,htl]),List.take_left' (by rw [Ec,hml])]
theorem St.Xl (HS:St w0 w L) (hj:L[j]?=some (Own T t A c ly xs)) (hlh:l≤h) (hh:h≤xs.length) (hhm:h≤m) (hm:m≤c) (hA:A'=Ja A l m T.sz) (hc:c'=m - l):St w0 w (L.set j (Own T t A' c' (fun k=>ly (l+k)) ((xs.take h).drop l))):=by
  subst hA
  subst hc
  have hml:((xs.take h).drop l).length=h - l:=by rw [List.length_drop,List.length_take]; omega
  refine HS.upd hj (Nat.le_refl _) rfl rfl rfl (fun q ho=>?_)
  obtain ⟨q1,q2,h1,h2,hd,hown,hb,hs⟩:=ho
  refine ⟨q,fun k hk=>.inl hk,⟨q1,q2,h1,h2,hd,?_,fun k hk=>hb k (bC hk),?_⟩,fun k _ _=>rfl⟩
  · rw [hml,zH hlh hh]
    exact hown.Aao (by omega) (by omega) hm
  · have hsplit:xs=xs.take l++((xs.take h).drop l++xs.drop h):=by
      rw [List.drop_take]
      have:List.take (h - l) (List.drop l xs)++List.drop h xs=List.drop l xs:=by
        rw [show h=l+(h - l) by omega,← List.drop_drop,show l+(h - l) - l=h - l by omega,List.take_append_drop]
      rw [this,List.take_append_drop]
    have htl:(xs.take l).length=l:=by rw [List.length_take]; omega
    rw [hsplit] at hs
    obtain ⟨_,qb,_,hqb,_,_,s2⟩:=G9.cut hs
    obtain ⟨qc,_,hqc,_,_,s3,_⟩:=G9.cut s2
    rw [htl,Nat.zero_add] at s3
    exact (G9.shift (i:=0) s3).more (fun k hk=>hqb k (hqc k hk))
end
theorem St.yJ {α:Type} {S:Ty α} {u t:TypeId} {w0 w:World} {L:List Cn} {A:Option Addr} {c n:Nat} {ly:Nat→Vj S.Lay} {xs:List (List α)} (HS:St w0 w (Own (Ty.slice u S) t A c ly xs::L)) (hn:n<xs.length) :
    St w0 w (Own S u (ly n).A (ly n).c (ly n).ly (xs.getD n [])::Own (Ty.slice u S) t A c ly (xs.take n)::L):=by
  obtain ⟨hb,q,r,hq,hr,hqr,⟨q1,q2,h1,h2,hd,hown,hbl,hs⟩,hL⟩:=HS
  have hx:xs=xs.take n++(xs[n]::xs.drop (n+1)):=by rw [← List.drop_eq_getElem_cons hn,List.take_append_drop]
  have hgd:xs.getD n []=xs[n]:=by rw [List.getD_eq_getElem?_getD,List.getElem?_eq_getElem hn]; rfl
  have htl:(xs.take n).length=n:=by rw [List.length_take]; omega
  have hs':=hs
  rw [hx] at hs'
  obtain ⟨qa,qc,ha,hc,hac,sa,sc⟩:=G9.cut hs'
  rw [htl,Nat.zero_add] at sc
  obtain ⟨p0,_,c0,_,_,hM,_⟩:=sc
  obtain ⟨_,_,_,_,_,hnc,_⟩:=hown.open (by omega)
  have hcut:=hown.Aao (l:=0) (k:=n) (m:=c) (by omega) (by omega) (Nat.le_refl _)
  rw [Ps,Nat.sub_zero,Nat.zero_mul,List.drop_zero] at hcut
  have hrc:rc (Ty.slice u S) ly 0 (xs.take n)=(rc (Ty.slice u S) ly 0 xs).take (n * (Ty.slice u S).sz):=by
    conv=>rhs; rw [hx,H8]
    exact (List.take_left' (by rw [Ec,htl])).symm
  refine ⟨hb,p0,fun k=>(q1 k∨qa k)∨r k,fun k hk=>hq k (h2 k (hc k (c0 k hk))),?_,?_,by rw [hgd]; exact hM,fun k=>q1 k∨qa k,r,fun k hk=>.inl hk,fun k hk=>.inr hk,?_,⟨q1,qa,fun k hk=>.inl hk,fun k hk=>.inr hk,fun k hk hn=>hd k hk (ha k hn),?_,?_,sa⟩,hL⟩
  · rintro k ((h | h) | h)
    · exact hq k (h1 k h)
    · exact hq k (h2 k (ha k h))
    · exact hr k h
  · rintro k hk ((h | h) | h)
    · exact hd k h (hc k (c0 k hk))
    · exact hac k h (c0 k hk)
    · exact hqr k (h2 k (hc k (c0 k hk))) h
  · rintro k (h | h) hn
    · exact hqr k (h1 k h) hn
    · exact hqr k (h2 k (ha k h)) hn
  · rw [htl,hrc]; exact hcut
  · intro k hk
    refine hbl k ?_
    cases A with
    | none=>simp [Value.ownBlock] at hk
    | some a=>simpa [Value.ownBlock] using hk
theorem St.wD {α:Type} {S:Ty α} {u t:TypeId} {w0 w:World} {L:List Cn} {A A':Option Addr} {c c' n m:Nat} {ly:Nat→Vj S.Lay} {xs:List (List α)} (HS:St w0 w (Own (Ty.slice u S) t A c ly xs::L)) (hn:n<xs.length) (hnm:n≤m) (hm:m≤c) (hA:A'=Ja A 0 m 1) (hc:c'=m - 0) :
    St w0 w (Own S u (ly n).A (ly n).c (ly n).ly (xs.getD n [])::Own (Ty.slice u S) t A' c' (fun k=>ly (0+k)) ((xs.take n).drop 0)::L):=by
  have h1:=(HS.yJ hn).Xl (j:=1) (l:=0) (h:=n) (m:=m) rfl (Nat.zero_le _) (by rw [List.length_take]; omega) hnm hm hA hc
  rw [List.take_take,Nat.min_self] at h1
  exact h1
section
variable {α:Type} {P:Program} {N:Nat} {e:Env} {w0 w:World} {L:List Cn} {Q:Act→World→Prop} {ops:Array Oper} {i d:Nat} {rest:List Nat} {ty:TypeId} {ps:String} {af:Array Edge} {t el:TypeId} {x z z2:Operand} {A:Option Addr} {c:Nat} {kh km:IntKind} {h m:Int} {xs:List α}
theorem GO.Abn {sz:Nat} (hle:xs.length≤c) (ho:ops[i]?=some ⟨some d,.slice t x none (some z) (some z2),ty,ps,af,none⟩) (hx:ev e x=some (.slice A xs.length c)) (hz:ev e z=some (.int kh h)) (hz2:ev e z2=some (.int km m)) (ht:P.underlying t=some (.slice el)) (hsz:(P.info? el).map (·.size)=some sz) (h0:0≤h∧h≤(xs.length:Int)) (h2:h≤m) (hc:m≤(xs.length:Int)) (hN:Nat.blt d N=true)
    (g:GO P N ops rest ((d,.slice (Ja A 0 m.toNat sz) ((xs.take h.toNat).drop 0).length (m.toNat - 0))::e) w Q):GO P N ops (i::rest) e w Q:=by
  obtain ⟨inf,hi,hi2⟩:=Option.map_eq_some_iff.1 hsz
  have eh:(h.toNat:Int)=h:=Int.toNat_of_nonneg (by omega)
  have em:(m.toNat:Int)=m:=Int.toNat_of_nonneg (by omega)
  have he:P.elem t=el:=by simp [Program.elem,ht]
  have ht':P.underlying t=some (.slice (P.elem t)):=by rw [he]; exact ht
  have hs':(sizeOf (P.elem t)).run P w=.ok inf.size w:=by rw [he]; simp [sizeOf,typeInfo,hi]
  have h4:0≤h:=by omega
  have h5:0≤m:=by omega
  have hmc:m≤(c:Int):=by omega
  have hlen:((xs.take h.toNat).drop 0).length=h.toNat:=by rw [List.drop_zero,List.length_take]; omega
  refine GO.val _ ho rfl rfl hN (fun a hs=>?_) g
  have hr:(Instr.sliceAt t (.slice A xs.length c) none (some (.int kh h)) (some (.int km m))).run P w=.ok (.slice (Ja A 0 m.toNat inf.size) (h.toNat - 0) (m.toNat - 0)) w:=by
    rw [run_sliceAt_slice (h:=ht')]
    simp [Instr.slice,run_underlying ht',Instr.sliceBounds,run_sliceBound,hs',Ja,h2,h4,h5,hmc,eh,em]
  simp [execOp,hs.ev hx,hs.ev hz,hs.ev hz2,hr,hi2]
  omega
end
end Go.Proofs.YtjopfecenllmgaaGreatDoor
