import Derived.Calls
import Derived.Orders
import Derived.WalkKit
import Derived.OwnWalk
import Derived.Below
import Derived.Maps.AppendAt
import Derived.Deep.AppendLies
import Derived.Laws.MakeOwn
import Derived.ArgAppend
import Derived.Laws.CopyRow
set_option linter.unusedVariables false
set_option linter.unusedSimpArgs false
namespace Go.Proofs.YtgkgmhkgahalgaaGreat
open Go.RowKit
abbrev Env:=List (Nat × Value)
def look:Env→Nat→Option Value
 |[],_=>none
 |(s,v)::r,t=>bif Nat.beq s t then some v else look r t
def ev (e:Env):Operand→Option Value
 |.tmp t=>look e t
 |.const v=>some v
 |.global g=>some (.pointer (some ⟨g,0,none⟩))
 |.func f=>some (.func (.func f) #[] #[])
def evs (e:Env):List Operand→Option (List Value)
 |[]=>some []
 |x::r=>(ev e x).bind fun v=>(evs e r).map (v::·)
structure Sat (N:Nat) (e:Env) (a:Act):Prop where
 defers:a.defers=[]
 size:a.tmps.size=N
 at_:∀ t v,look e t=some v→a.tmps[t]?=some v
theorem Sat.getD {N:Nat} {e:Env} {a:Act} (h:Sat N e a) {t:Nat} {v:Value} (ht:look e t=some v):a.tmps.getD t undef=v:=by
 rw [Array.getD_eq_getD_getElem?,h.at_ t v ht]; rfl
theorem Sat.ev {N:Nat} {e:Env} {a:Act} (h:Sat N e a) {x:Operand} {v:Value} (hx:ev e x=some v):a.eval x=v:=by
 cases x with
 |tmp t=>exact h.getD hx
 |const u=>exact Option.some.inj hx
 |global g=>exact Option.some.inj hx
 |func f=>exact Option.some.inj hx
theorem Sat.evs {N:Nat} {e:Env} {a:Act} (h:Sat N e a):∀ {xs:List Operand} {vs:List Value},evs e xs=some vs→xs.map a.eval=vs
 |[],vs,hx=>by cases hx; rfl
 |x::r,vs,hx=>by
  unfold Go.Proofs.YtgkgmhkgahalgaaGreat.evs at hx
  cases hv:Go.Proofs.YtgkgmhkgahalgaaGreat.ev e x with
  |none=>rw [hv] at hx; cases hx
  |some v =>
   rw [hv] at hx
   cases hr:Go.Proofs.YtgkgmhkgahalgaaGreat.evs e r with
   |none=>rw [hr] at hx; cases hx
   |some us =>
    rw [hr] at hx
    cases hx
    rw [List.map_cons,h.ev hv,h.evs hr]
theorem Sat.put {N:Nat} {e:Env} {a:Act} (h:Sat N e a) {d:Nat} (hd:Nat.blt d N=true) (v:Value):Sat N ((d,v)::e) (a.put (some d) v):=by
 have hd':d<N:=Nat.le_of_ble_eq_true hd
 refine ⟨h.defers,?_,fun t u ht=>?_⟩
 ·simp [Act.put,h.size]
 ·simp only [look] at ht
  by_cases hdt:d=t
  ·subst hdt
   simp at ht
   simp [Act.put,h.size,hd',ht]
  ·have hb:Nat.beq d t=false:=by
    cases hc:Nat.beq d t with
    |false=>rfl
    |true=>exact absurd (Nat.eq_of_beq_eq_true hc) hdt
   rw [hb] at ht
   have:=h.at_ t u ht
   simp [Act.put,Array.getElem?_setIfInBounds_ne hdt,this]
def Cov (e:Env):Env→Prop
 |[]=>True
 |p::r=>look e p.1=some p.2∧Cov e r
theorem Cov.look {e:Env}:∀ {e':Env},Cov e e'→∀ t v,look e' t=some v→look e t=some v
 |[],_,_,_,h=>by cases h
 |p::r,hc,t,v,h=>by
  simp only [Go.Proofs.YtgkgmhkgahalgaaGreat.look] at h
  cases hb:Nat.beq p.1 t with
  |true =>
   rw [hb] at h
   have:p.1=t:=Nat.eq_of_beq_eq_true hb
   subst this
   cases h
   exact hc.1
  |false =>
   rw [hb] at h
   exact Cov.look hc.2 t v h
theorem Sat.weak {N:Nat} {e e':Env} {a:Act} (h:Sat N e a) (hc:Cov e e'):Sat N e' a:=⟨h.defers,h.size,fun t v ht=>h.at_ t v (hc.look t v ht)⟩
def Lb (P:Program) (f:FuncId) (k:List Item) (R:Ending→World→Prop) (a:Act) (w:World):Prop :=
 ∀ (b:Frame) (cs:List Frame),b.fn=f→b.kind=.normal→∃ en w' fr,R en w'∧Comes P (lone (b.at a k) cs w) (lone fr cs w') en∧fr.fn=f∧fr.leaving P w' en
def G (P:Program) (f:FuncId) (N:Nat) (e:Env) (k:List Item) (w:World) (R:Ending→World→Prop):Prop:=∀ a,Sat N e a→Lb P f k R a w
def GO (P:Program) (N:Nat) (ops:Array Oper) (l:List Nat) (e:Env) (w:World) (Q:Act→World→Prop):Prop :=
 ∀ a,Sat N e a→wpOps P ops (fun en a' w'=>en=.normal∧Q a' w') l a w
section
variable {P:Program} {f:FuncId} {N:Nat} {e:Env} {k:List Item} {w:World} {R:Ending→World→Prop} {ops:Array Oper} {l:List Nat} {Q:Act→World→Prop}
theorem Lb.step {k':List Item} {a:Act} (h:∀ (b:Frame) (cs:List Frame),step P (lone (b.at a k) cs w)=.next (lone (b.at a k') cs w)) (g:Lb P f k' R a w):Lb P f k R a w:=by
 intro b cs hb hk
 obtain ⟨en,w',fr,hR,hc,hf,hl⟩:=g b cs hb hk
 exact ⟨en,w',fr,hR,Comes.of_steps (.one (h b cs)) hc,hf,hl⟩
theorem G.step {k':List Item} (h:∀ (a:Act) (b:Frame) (cs:List Frame),Go.step P (lone (b.at a k) cs w)=.next (lone (b.at a k') cs w)) (g:G P f N e k' w R):G P f N e k w R :=
 fun a hs=>Lb.step (h a) (g a hs)
theorem G.weak {e':Env} (hc:Cov e e') (g:G P f N e' k w R):G P f N e k w R:=fun a hs=>g a (hs.weak hc)
theorem G.seq {x y:Code} (g:G P f N e (.code x::.code y::k) w R):G P f N e (.code (.seq x y)::k) w R:=G.step (fun _ _ _=>step_seq) g
theorem G.skip (g:G P f N e k w R):G P f N e (.code .skip::k) w R:=G.step (fun _ _ _=>step_skip) g
theorem G.block {id:Nat} {c:Code} (g:G P f N e (.code c::.inBlock id::k) w R):G P f N e (.code (.block id c)::k) w R:=G.step (fun _ _ _=>step_block) g
theorem G.Uc {id:Nat} (g:G P f N e k w R):G P f N e (.inBlock id::k) w R:=G.step (fun _ _ _=>step_inBlock) g
theorem G.loop {c:Code} (g:G P f N e (.code c::.inLoop c::k) w R):G P f N e (.code (.loop c)::k) w R:=G.step (fun _ _ _=>step_loop) g
theorem G.again {c:Code} (g:G P f N e (.code c::.inLoop c::k) w R):G P f N e (.inLoop c::k) w R:=G.step (fun _ _ _=>step_inLoop) g
theorem G.exit {id:Nat} {k':List Item} (h:exitTo id k=some k') (g:G P f N e k' w R):G P f N e (.code (.exit id)::k) w R:=G.step (fun _ _ _=>step_exit h) g
theorem G.cond {c:Operand} {x y:Code} (t:Bool) (h:ev e c=some (.bool t)) (g:G P f N e (.code (bif t then x else y)::k) w R):G P f N e (.code (.cond c x y)::k) w R:=fun a hs =>
 Lb.step (fun _ _=>step_cond (hs.ev h)) (by have:=g a hs; cases t<;>exact this)
theorem G.yes {c:Operand} {x y:Code} (h:ev e c=some (.bool true)) (g:G P f N e (.code x::k) w R):G P f N e (.code (.cond c x y)::k) w R:=G.cond true h g
theorem G.no {c:Operand} {x y:Code} (h:ev e c=some (.bool false)) (g:G P f N e (.code y::k) w R):G P f N e (.code (.cond c x y)::k) w R:=G.cond false h g
theorem Lb.ret {a:Act} {fn:Func} {v:Value} (hf:P.funcs[f]?=some fn) (hd:a.defers=[]) (hr:(results fn a.tmps).run P w=.ok v w) (hR:R (.returned v) w):Lb P f (.code .ret::k) R a w:=by
 intro b cs hb hk
 refine ⟨.returned v,w,{ b.at a (.code .ret::k) with mode:=.returning },hR,.one step_ret,hb,?_⟩
 exact ⟨rfl,hd,hk,fn,by rw [← hb] at hf; exact hf,hr⟩
theorem Lb.Aaa {a:Act} {fn:Func} {v:Value} (hf:P.funcs[f]?=some fn) (hd:a.defers=[]) (hr:(results fn a.tmps).run P w=.ok v w) (hR:R (.returned v) w):Lb P f [] R a w:=by
 intro b cs hb hk
 refine ⟨.returned v,w,{ b.at a [] with mode:=.returning },hR,.one step_end,hb,?_⟩
 exact ⟨rfl,hd,hk,fn,by rw [← hb] at hf; exact hf,hr⟩
theorem G.yZ {fn:Func} (hf:P.funcs[f]?=some fn) (hn:fn.results=#[]) (hR:R (.returned (.tuple #[])) w):G P f N e (.code .ret::k) w R:=fun a hs =>
 Lb.ret hf hs.defers (results_none hn _ _ _) hR
theorem G.K6 {fn:Func} (hf:P.funcs[f]?=some fn) (hn:fn.results=#[]) (hR:R (.returned (.tuple #[])) w):G P f N e [] w R:=fun a hs =>
 Lb.Aaa hf hs.defers (results_none hn _ _ _) hR
def Kc (P:Program) (w:World) (e:Env) (r:ResultVar) (v:Value):Prop :=
 match r with
 |.tmp t=>look e t=some v
 |.cell t ty=>∃ ad,look e t=some (.pointer (some ad))∧(loadVar ty ad).run P w=.ok v w
def iJ (tmps:Array Value):ResultVar→Sem Value
 |.tmp t=>pure (tmps.getD t undef)
 |.cell a t=>do loadVar t (← asAddr (tmps.getD a undef))
theorem Oc {a:Act} (hs:Sat N e a) {r:ResultVar} {v:Value} (h:Kc P w e r v):(iJ a.tmps r).run P w=.ok v w:=by
 cases r with
 |tmp t =>
  have h':look e t=some v:=h
  show Sem.run P (pure (a.tmps.getD t undef)) w=_
  rw [hs.getD h']
  rfl
 |cell x t =>
  obtain ⟨ad,h1,h2⟩:=h
  show Sem.run P (do loadVar t (← asAddr (a.tmps.getD x undef))) w=_
  rw [hs.getD h1]
  exact h2
theorem Qx (fn:Func) (tmps:Array Value):results fn tmps=(do let vs ← fn.results.mapM (iJ tmps); pure (if h:vs.size=1 then vs[0] else .tuple vs)):=by
 exact congrArg (fun g:ResultVar→Sem Value=>(do let vs ← fn.results.mapM g; pure (if h:vs.size=1 then vs[0] else .tuple vs):Sem Value)) (funext fun r=>by cases r<;>rfl)
theorem Yf {a:Act} (hs:Sat N e a) {fn:Func} {r:ResultVar} {v:Value} (hn:fn.results=#[r]) (h:Kc P w e r v):(results fn a.tmps).run P w=.ok v w:=by
 rw [Qx,hn]
 simp [Oc hs h]
theorem Xe {a:Act} (hs:Sat N e a) {fn:Func} {r s:ResultVar} {v u:Value} (hn:fn.results=#[r,s]) (h:Kc P w e r v) (h2:Kc P w e s u):(results fn a.tmps).run P w=.ok (.tuple #[v,u]) w:=by
 rw [Qx,hn]
 simp [Oc hs h,Oc hs h2]
theorem Yi {a:Act} (hs:Sat N e a) {fn:Func} {r s t:ResultVar} {v u x:Value} (hn:fn.results=#[r,s,t]) (h:Kc P w e r v) (h2:Kc P w e s u) (h3:Kc P w e t x):(results fn a.tmps).run P w=.ok (.tuple #[v,u,x]) w:=by
 rw [Qx,hn]
 simp [Oc hs h,Oc hs h2,Oc hs h3]
def Stop (k:List Item):Bool:=match k with
 |[]=>true
 |.code .ret::_=>true
 |_=>false
theorem Lb.stop {a:Act} {fn:Func} {v:Value} (hk:Stop k=true) (hf:P.funcs[f]?=some fn) (hd:a.defers=[]) (hr:(results fn a.tmps).run P w=.ok v w) (hR:R (.returned v) w):Lb P f k R a w:=by
 match k,hk with
 |[],_=>exact Lb.Aaa hf hd hr hR
 |.code .ret::_,_=>exact Lb.ret hf hd hr hR
theorem G.Aa5 {fn:Func} {r:ResultVar} (v:Value) (hf:P.funcs[f]?=some fn) (hn:fn.results=#[r]) (h:Kc P w e r v) (hR:R (.returned v) w) (hk:Stop k=true:=by rfl):G P f N e k w R:=fun a hs =>
 Lb.stop hk hf hs.defers (Yf hs hn h) hR
theorem G.Jr {fn:Func} {r s:ResultVar} (v u:Value) (hf:P.funcs[f]?=some fn) (hn:fn.results=#[r,s]) (h:Kc P w e r v) (h2:Kc P w e s u) (hR:R (.returned (.tuple #[v,u])) w) (hk:Stop k=true:=by rfl):G P f N e k w R:=fun a hs =>
 Lb.stop hk hf hs.defers (Xe hs hn h h2) hR
theorem G.uS {fn:Func} {r s t:ResultVar} (v u x:Value) (hf:P.funcs[f]?=some fn) (hn:fn.results=#[r,s,t]) (h:Kc P w e r v) (h2:Kc P w e s u) (h3:Kc P w e t x) (hR:R (.returned (.tuple #[v,u,x])) w) (hk:Stop k=true:=by rfl):G P f N e k w R:=fun a hs =>
 Lb.stop hk hf hs.defers (Yi hs hn h h2 h3) hR
theorem Lb.region {id:Nat} {a:Act} (h:wpOps P ops (fun en a' w'=>en=.normal∧Lb P f k R a' w') (List.range ops.size) a w):Lb P f (.code (.region id ops false)::k) R a w:=by
 intro b cs hb hk
 obtain ⟨en,a',w',⟨hq,hc⟩,har⟩:=wp_region (id:=id) h b k cs
 subst hq
 obtain ⟨en,w2,fr,hR,hcm,hf,hl⟩:=hc b cs hb hk
 exact ⟨en,w2,fr,hR,Comes.of_steps har hcm,hf,hl⟩
theorem G.region {id:Nat} (g:GO P N ops (List.range ops.size) e w (Lb P f k R)):G P f N e (.code (.region id ops false)::k) w R:=fun a hs=>Lb.region (g a hs)
theorem GO.fin (g:∀ a,Sat N e a→Q a w):GO P N ops [] e w Q:=fun a hs=>⟨rfl,g a hs⟩
theorem GO.nil (g:G P f N e k w R):GO P N ops [] e w (Lb P f k R):=fun a hs=>⟨rfl,g a hs⟩
theorem GO.val {i:Nat} {rest:List Nat} {o:Oper} {w':World} {d:Nat} (v:Value) (ho:ops[i]?=some o) (hg:o.guard=none) (hd:o.dst=some d) (hN:Nat.blt d N=true)
  (hrun:∀ a,Sat N e a→(execOp a.eval o).run P w=.ok (.value v) w') (g:GO P N ops rest ((d,v)::e) w' Q):GO P N ops (i::rest) e w Q:=by
 intro a hs
 have hw:Region.wanted o (yielded ops a.tmps)=true:=by simp [Region.wanted,hg]
 simp only [wpOps,ho,hw,if_true]
 refine .inl ?_
 unfold Oper.wp
 rw [hrun a hs]
 simp only [Oper.upon,hd]
 exact g _ (hs.put hN v)
theorem GO.act {i:Nat} {rest:List Nat} {o:Oper} {w':World} (v:Value) (ho:ops[i]?=some o) (hg:o.guard=none) (hd:o.dst=none)
  (hrun:∀ a,Sat N e a→(execOp a.eval o).run P w=.ok (.value v) w') (g:GO P N ops rest e w' Q):GO P N ops (i::rest) e w Q:=by
 intro a hs
 have hw:Region.wanted o (yielded ops a.tmps)=true:=by simp [Region.wanted,hg]
 simp only [wpOps,ho,hw,if_true]
 refine .inl ?_
 unfold Oper.wp
 rw [hrun a hs]
 simp only [Oper.upon,hd]
 exact g _ hs
theorem GO.Rf {i:Nat} {rest:List Nat} {o:Oper} {w':World} (ho:ops[i]?=some o) (hg:o.guard=none) (hd:o.dst=none)
  (hrun:∀ a,Sat N e a→(execOp a.eval o).run P w=.ok .skip w') (g:GO P N ops rest e w' Q):GO P N ops (i::rest) e w Q:=by
 intro a hs
 have hw:Region.wanted o (yielded ops a.tmps)=true:=by simp [Region.wanted,hg]
 simp only [wpOps,ho,hw,if_true]
 refine .inl ?_
 unfold Oper.wp
 rw [hrun a hs]
 simp only [Oper.upon,hd]
 exact g _ hs
def Od (ops:Array Oper) (j:Nat):Option Nat:=(ops[j]?).bind (·.dst)
theorem GO.off {i:Nat} {rest:List Nat} {o:Oper} {d j t:Nat} {b:Bool} (ho:ops[i]?=some o) (hg:o.guard=some (j,b)) (hj:Od ops j=some t) (hb:look e t=some (.bool (!b))) (hd:o.dst=some d) (hN:Nat.blt d N=true)
  (g:GO P N ops rest ((d,undef)::e) w Q):GO P N ops (i::rest) e w Q:=by
 intro a hs
 have hw:Region.wanted o (yielded ops a.tmps)=false:=by
  have h1:=hs.at_ t _ hb
  have h2:(ops[j]?).bind (·.dst)=some t:=hj
  simp only [Region.wanted,hg,yielded,h2]
  cases b<;>simp [h1]
 simp only [wpOps,ho,hw,hd]
 exact g _ (hs.put hN undef)
theorem GO.call {i:Nat} {rest:List Nat} {o:Oper} {d h:Nat} {vs:Array Value} {w1:World} {R1:Ending→World→Prop} (ho:ops[i]?=some o) (hg:o.guard=none) (hd:o.dst=some d) (hN:Nat.blt d N=true)
  (hrun:∀ a,Sat N e a→(execOp a.eval o).run P w=.ok (.enter h vs) w1) (hc:Calls P h vs w1 R1) (hr:∀ en w2,R1 en w2→∃ v,en=.returned v∧GO P N ops rest ((d,v)::e) w2 Q):GO P N ops (i::rest) e w Q:=by
 intro a hs
 have hw:Region.wanted o (yielded ops a.tmps)=true:=by simp [Region.wanted,hg]
 simp only [wpOps,ho,hw,if_true]
 refine .inl ?_
 unfold Oper.wp
 rw [hrun a hs]
 simp only [Oper.upon,hd]
 refine hc.mono fun en w2 h2=>?_
 obtain ⟨v,rfl,g⟩:=hr en w2 h2
 exact g _ (hs.put hN v)
def upd (b:Nat→Bool) (j:Nat):Nat→Bool:=fun i=>bif Nat.beq i j then true else b i
theorem Oa (b:Nat→Bool) (j:Nat):upd b j j=true:=by simp [upd]
theorem upd_ne (b:Nat→Bool) {i j:Nat} (h:i≠j):upd b j i=b i:=by simp [upd,h]
def needs (ops:Array Oper) (j:Nat):List Nat:=match ops[j]? with
 |some o=>(o.after.toList.filter (Region.binds .any ·)).map (·.on)
 |none=>[]
def forward (ops:Array Oper):Bool:=(List.range ops.size).all fun j=>(needs ops j).all fun i=>Nat.blt i j
theorem fZ {o:Oper} {j:Nat} (ho:ops[j]?=some o) (p:Nat→Bool):(o.after.all fun ed=>!Region.binds .any ed || p ed.on)=(needs ops j).all p:=by
 unfold needs
 rw [ho,← Array.all_toList]
 simp only
 induction o.after.toList with
 |nil=>rfl
 |cons x r ih =>
  rw [List.all_cons,ih,List.filter_cons]
  cases h:Region.binds .any x<;>simp
theorem oJ (I:(Nat→Bool)→Act→World→Prop) (hfw:forward ops=true)
  (hstep:∀ j,j<ops.size→∀ b a w,I b a w→b j=false→(∀ i∈needs ops j,b i=true)→(∀ m,m<ops.size→b m=true→∀ i∈needs ops m,b i=true)→wpOps P ops (fun en a' w'=>en=.normal∧I (upd b j) a' w') [j] a w)
  {Q:Exit→Act→World→Prop} (hend:∀ b a w,(∀ j,j<ops.size→b j=true)→I b a w→Q .normal a w) :
  ∀ (m:Nat) (listed:Array Bool) (b:Nat→Bool) (a:Act) (w:World),listed.size=ops.size→(∀ j,j<ops.size→listed.getD j true=b j)→(∀ m,m<ops.size→b m=true→∀ i∈needs ops m,b i=true)→((List.range ops.size).filter fun j=>!b j).length=m→I b a w→wpAny P .any ops Q m listed a w:=by
 have hready:∀ (listed:Array Bool) (b:Nat→Bool),listed.size=ops.size→(∀ j,j<ops.size→listed.getD j true=b j)→∀ j,j∈Region.ready .any ops listed↔j<ops.size∧b j=false∧∀ i∈needs ops j,b i=true:=by
  intro listed b hsz hl j
  unfold Region.ready
  rw [List.mem_filter,List.mem_range]
  refine and_congr_right fun hj=>?_
  have ho:ops[j]?=some ops[j]:=Array.getElem?_eq_getElem hj
  rw [hl j hj,ho]
  simp only [Option.map_some,Option.getD_some,Bool.and_eq_true,Bool.not_eq_eq_eq_not,Bool.not_true]
  rw [fZ ho (fun i=>listed.getD i false),List.all_eq_true]
  refine and_congr_right fun _=>⟨fun h i hi=>?_,fun h i hi=>?_⟩
  ·have h1:=List.all_eq_true.1 (List.all_eq_true.1 hfw j (List.mem_range.2 hj)) i hi
   have hij:i<j:=Nat.le_of_ble_eq_true h1
   have h2:=h i hi
   rw [← hl i (by omega)]
   have hi':i<listed.size:=by omega
   simpa [Array.getD_eq_getD_getElem?,Array.getElem?_eq_getElem hi'] using h2
  ·have h1:=List.all_eq_true.1 (List.all_eq_true.1 hfw j (List.mem_range.2 hj)) i hi
   have hij:i<j:=Nat.le_of_ble_eq_true h1
   have h2:=h i hi
   rw [← hl i (by omega)] at h2
   have hi':i<listed.size:=by omega
   simpa [Array.getD_eq_getD_getElem?,Array.getElem?_eq_getElem hi'] using h2
 intro m
 induction m with
 |zero =>
  intro listed b a w hsz hl hcl hm hI
  have hall:∀ j,j<ops.size→b j=true:=by
   intro j hj
   cases hb:b j with
   |true=>rfl
   |false =>
    have:j∈(List.range ops.size).filter fun j=>!b j:=List.mem_filter.2 ⟨List.mem_range.2 hj,by simp [hb]⟩
    rw [List.eq_nil_of_length_eq_zero hm] at this
    cases this
  refine ⟨?_,hend b a w hall hI⟩
  refine List.eq_nil_iff_forall_not_mem.2 (fun j hj=>?_)
  obtain ⟨h1,h2,_⟩:=(hready listed b hsz hl j).1 hj
  rw [hall j h1] at h2
  cases h2
 |succ m ih =>
  intro listed b a w hsz hl hcl hm hI
  refine ⟨fun hr=>?_,fun j hj=>?_⟩
  ·exfalso
   have hex:∃ i,i<ops.size∧b i=false:=by
    cases hf:(List.range ops.size).filter (fun j=>!b j) with
    |nil=>rw [hf] at hm; simp at hm
    |cons x r =>
     have hx:x∈(List.range ops.size).filter (fun j=>!b j):=by rw [hf]; exact List.mem_cons_self
     rw [List.mem_filter,List.mem_range] at hx
     exact ⟨x,hx.1,by simpa using hx.2⟩
   have hmin:∀ k,(∃ i,i≤k∧i<ops.size∧b i=false)→∃ i,i<ops.size∧b i=false∧∀ j,j<i→b j=true:=by
    intro k
    induction k with
    |zero =>
     rintro ⟨i,hi,h1,h2⟩
     exact ⟨i,h1,h2,fun j hj=>by omega⟩
    |succ k ihk =>
     rintro ⟨i,hi,h1,h2⟩
     by_cases hlow:∃ j,j≤k∧j<ops.size∧b j=false
     ·exact ihk hlow
     ·refine ⟨i,h1,h2,fun j hj=>?_⟩
      cases hb:b j with
      |true=>rfl
      |false=>exact absurd ⟨j,by omega,by omega,hb⟩ hlow
   obtain ⟨i0,h1,h2⟩:=hex
   obtain ⟨i,hi,hb,hlow⟩:=hmin i0 ⟨i0,Nat.le_refl _,h1,h2⟩
   have hin:i∈Region.ready .any ops listed:=(hready listed b hsz hl i).2 ⟨hi,hb,fun n hn=>hlow n (Nat.le_of_ble_eq_true (List.all_eq_true.1 (List.all_eq_true.1 hfw i (List.mem_range.2 hi)) n hn))⟩
   rw [hr] at hin
   cases hin
  ·obtain ⟨h1,h2,h3⟩:=(hready listed b hsz hl j).1 hj
   have h4:=hstep j h1 b a w hI h2 h3 hcl
   rw [wpOps_cons] at h4
   have ho:ops[j]?=some ops[j]:=Array.getElem?_eq_getElem h1
   have h5:∀ a' w',wpOps P ops (fun en a' w'=>en=.normal∧I (upd b j) a' w') [] a' w'→wpAny P .any ops Q m (listed.setIfInBounds j true) a' w':=by
    intro a' w' h
    refine ih (listed.setIfInBounds j true) (upd b j) a' w' (by simpa using hsz) (fun i hi=>?_) (fun m hm' hbm i hi=>?_) ?_ h.2
    ·by_cases hij:i=j
     ·subst hij
      rw [Oa]
      simp [Array.getD_eq_getD_getElem?,hsz,hi]
     ·rw [upd_ne b hij,← hl i hi]
      simp [Array.getD_eq_getD_getElem?,Array.getElem?_setIfInBounds_ne (Ne.symm hij)]
    ·by_cases hij:i=j
     ·rw [hij,Oa]
     ·rw [upd_ne b hij]
      by_cases hmj:m=j
      ·rw [hmj] at hi; exact h3 i hi
      ·rw [upd_ne b hmj] at hbm; exact hcl m hm' hbm i hi
    ·have hcnt:∀ (l:List Nat),l.Nodup→j∈l→(l.filter fun i=>!upd b j i).length+1=(l.filter fun i=>!b i).length:=by
      intro l
      induction l with
      |nil=>intro _ h; cases h
      |cons x r ihl =>
       intro hn hx
       rw [List.nodup_cons] at hn
       rcases List.mem_cons.1 hx with rfl | hx
       ·have h1:(r.filter fun i=>!upd b j i)=r.filter fun i=>!b i:=List.filter_congr (fun i hi=>by rw [upd_ne b (fun e=>hn.1 (by rw [← e]; exact hi))])
        rw [List.filter_cons,List.filter_cons]
        simp [Oa,h2,h1]
       ·have hxj:x≠j:=fun e=>hn.1 (e ▸ hx)
        have h1:=ihl hn.2 hx
        rw [List.filter_cons,List.filter_cons,upd_ne b hxj]
        cases hbx:b x
        ·simp only [Bool.not_false,if_true,List.length_cons]; omega
        ·simpa using h1
     have:=hcnt (List.range ops.size) List.nodup_range (List.mem_range.2 h1)
     omega
   unfold wpOp at h4 ⊢
   rw [ho] at h4 ⊢
   simp only at h4 ⊢
   split
   ·rename_i hw
    rw [if_pos hw] at h4
    rcases h4 with h4 | ⟨_,a0,w0,h0,_⟩
    ·refine .inl ?_
     have hmono:=Oper.wp_mono (P:=P) (Q:=fun en a' w'=>en=.normal∧I (upd b j) a' w') h5 h4
     unfold Oper.wp at hmono ⊢
     revert hmono
     generalize (execOp a.eval ops[j]).run P w=r
     intro hmono
     cases r with
     |ok n w' =>
      cases n<;>simp only [Oper.upon] at hmono ⊢<;>first
       |exact hmono
       |exact Calls.mono hmono (fun e w'' he=>by cases e with
         |returned v=>exact he
         |panicked c=>exact absurd he.1 (by simp)
         |outgrown=>obtain ⟨_,_,h,_⟩:=he; cases h)
     |halt x w'=>cases x<;>simp only [Oper.upon] at hmono ⊢<;>first | exact hmono | exact absurd hmono.1 (by simp)
    ·cases h0
   ·rename_i hw
    rw [if_neg hw] at h4
    exact h5 _ _ h4
theorem G.Wh {id:Nat} (hm:P.follows .mixedOrders=true) (hfw:forward ops=true) (I:(Nat→Bool)→Act→World→Prop) (h0:∀ a,Sat N e a→I (fun _=>false) a w.drew)
  (hstep:∀ j,j<ops.size→∀ b a w,I b a w→b j=false→(∀ i∈needs ops j,b i=true)→(∀ m,m<ops.size→b m=true→∀ i∈needs ops m,b i=true)→wpOps P ops (fun en a' w'=>en=.normal∧I (upd b j) a' w') [j] a w)
  (hend:∀ b a w,(∀ j,j<ops.size→b j=true)→I b a w→Lb P f k R a w):G P f N e (.code (.region id ops true)::k) w R:=by
 intro a hs b cs hb hk
 have h1:=wp_region_any (id:=id) (Q:=fun en a' w'=>en=.normal∧Lb P f k R a' w') (a:=a) (w:=w) hm (oJ I hfw hstep (fun b a w hall hI=>⟨rfl,hend b a w hall hI⟩) ops.size (Array.replicate ops.size false) (fun _=>false) a _ (by simp) (fun j hj=>by simp [Array.getD_eq_getD_getElem?,hj]) (fun _ _ h=>Bool.noConfusion h) (by rw [List.filter_eq_self.2 (by simp),List.length_range]) (h0 a hs))
 obtain ⟨en,a',w',⟨hq,hc⟩,har⟩:=h1 b k cs
 subst hq
 obtain ⟨en,w2,fr,hR,hcm,hf,hl⟩:=hc b cs hb hk
 exact ⟨en,w2,fr,hR,Comes.of_steps har hcm,hf,hl⟩
def start (args:List Value):Nat→Env
 |i=>match args with
  |[]=>[]
  |v::r=>(i,v)::start r (i+1)
theorem T9:∀ (args:List Value) (i t:Nat) (v:Value),look (start args i) t=some v→i≤t∧args[t - i]?=some v
 |[],_,_,_,h=>by cases h
 |x::r,i,t,v,h=>by
  simp only [start,look] at h
  cases hb:Nat.beq i t with
  |true =>
   rw [hb] at h
   have:=Nat.eq_of_beq_eq_true hb
   subst this
   simpa using h
  |false =>
   rw [hb] at h
   have hne:i≠t:=Nat.ne_of_beq_eq_false hb
   obtain ⟨h1,h2⟩:=T9 r (i+1) t v h
   refine ⟨by omega,?_⟩
   have:t - i=(t - (i+1))+1:=by omega
   rw [this,List.getElem?_cons_succ]
   exact h2
theorem Calls.Aat {fn:Func} {c:Code} {args:List Value} (hf:P.funcs[f]?=some fn) (hb:fn.body=some c) (hn:fn.ntmps=N) (hl:Nat.ble args.length N=true)
  (g:G P f N (start args 0) [.code c] w R):Calls P f args.toArray w R:=by
 subst hn
 have hl':args.length≤fn.ntmps:=Nat.le_of_ble_eq_true hl
 intro cs
 let b:Frame:={ (default:Frame) with fn:=f,kind:=.normal }
 let a:Act:={ tmps:=args.toArray++Array.replicate (fn.ntmps - args.toArray.size) undef,defers:=[] }
 have henter:Frame.enter P f args.toArray .normal=b.at a [.code c]:=by
  simp [Frame.enter,Frame.at,hf,hb,b,a]
 rw [henter]
 refine g a ⟨rfl,by simp [a]; omega,fun t v ht=>?_⟩ b cs rfl rfl
 obtain ⟨_,h2⟩:=T9 args 0 t v ht
 have ht2:t<args.length:=(List.getElem?_eq_some_iff.1 h2).1
 have h3:args[t]?=some v:=h2
 simp only [a]
 rw [Array.getElem?_append_left (by simpa using ht2)]
 simpa using h3
end
structure Dc where
 P:World→(Nat→Prop)→Prop
 loc:∀ {w w':World} {q:Nat→Prop},P w q→(∀ k,q k→w'.heap[k]?=w.heap[k]?)→P w' q
 more:∀ {w:World} {q q':Nat→Prop},P w q→(∀ k,q k→q' k)→P w q'
def Sep:List Dc→World→(Nat→Prop)→Prop
 |[],_,_=>True
 |o::L,w,p=>∃ q r:Nat→Prop,(∀ k,q k→p k)∧(∀ k,r k→p k)∧(∀ k,q k→¬ r k)∧o.P w q∧Sep L w r
structure St (w0 w:World) (L:List Dc):Prop where
 below:Below w0.heap.size w0 w
 sep:Sep L w (fun k=>w0.heap.size≤k∧k<w.heap.size)
section
variable {w0 w w':World} {L:List Dc} {p p':Nat→Prop} {o o':Dc}
theorem Sep.more:∀ {L:List Dc} {p p':Nat→Prop},Sep L w p→(∀ k,p k→p' k)→Sep L w p'
 |[],_,_,_,_=>trivial
 |_::_,_,_,⟨q,r,hq,hr,hd,ho,hs⟩,h=>⟨q,r,fun k hk=>h k (hq k hk),fun k hk=>h k (hr k hk),hd,ho,hs⟩
theorem Sep.loc:∀ {L:List Dc} {p:Nat→Prop},Sep L w p→(∀ k,p k→w'.heap[k]?=w.heap[k]?)→Sep L w' p
 |[],_,_,_=>trivial
 |o::_,_,⟨q,r,hq,hr,hd,ho,hs⟩,h=>⟨q,r,hq,hr,hd,o.loc ho (fun k hk=>h k (hq k hk)),Sep.loc hs (fun k hk=>h k (hr k hk))⟩
theorem Sep.get:∀ {L:List Dc} {p:Nat→Prop} {j:Nat} {o:Dc},Sep L w p→L[j]?=some o→∃ q,(∀ k,q k→p k)∧o.P w q
 |_::_,_,0,_,⟨q,_,hq,_,_,ho,_⟩,h=>by cases h; exact ⟨q,hq,ho⟩
 |_::_,_,j+1,_,⟨_,r,_,hr,_,_,hs⟩,h=>by
  obtain ⟨q,hq,ho⟩:=Sep.get hs (by simpa using h)
  exact ⟨q,fun k hk=>hr k (hq k hk),ho⟩
theorem Sep.drop:∀ {n:Nat} {L:List Dc} {p:Nat→Prop},Sep L w p→Sep (L.drop n) w p
 |0,_,_,h=>h
 |_+1,[],_,h=>h
 |_+1,_::_,_,⟨_,_,_,hr,_,_,hs⟩=>by
  rw [List.drop_succ_cons]
  exact (Sep.drop hs).more hr
def Emp:Dc where
 P:=fun _ _=>True
 loc:=fun _ _=>trivial
 more:=fun _ _=>trivial
theorem Sep.take:∀ {L:List Dc} {p:Nat→Prop} {j:Nat} {o:Dc},Sep L w p→L[j]?=some o→Sep (o::L.set j Emp) w p
 |_::_,p,0,_,⟨q,r,hq,hr,hd,ho,hs⟩,hj=>by
  cases hj
  exact ⟨q,r,hq,hr,hd,ho,fun _=>False,r,fun _ h=>h.elim,fun _ h=>h,fun _ h=>h.elim,trivial,hs⟩
 |x::L,p,j+1,o,⟨q,r,hq,hr,hd,ho,hs⟩,hj=>by
  obtain ⟨q1,r1,hq1,hr1,hd1,ho1,hs1⟩:=Sep.take (j:=j) (o:=o) hs (by simpa using hj)
  refine ⟨q1,fun k=>q k∨r1 k,fun k hk=>hr k (hq1 k hk),fun k hk=>hk.elim (hq k) (fun h=>hr k (hr1 k h)),fun k hk hn=>?_,ho1,⟨q,r1,fun k hk=>.inl hk,fun k hk=>.inr hk,fun k hk hn=>hd k hk (hr1 k hn),ho,hs1⟩⟩
  rcases hn with hn | hn
  ·exact hd k hn (hq1 k hk)
  ·exact hd1 k hk hn
def pick (n:Nat) (L:List Dc):List Nat→List Dc
 |[]=>L.drop n
 |i::is=>L.getD i Emp::pick n (L.set i Emp) is
theorem Sep.pick:∀ {is:List Nat} {n:Nat} {L:List Dc} {p:Nat→Prop},Sep L w p→Sep (Go.Proofs.YtgkgmhkgahalgaaGreat.pick n L is) w p
 |[],n,L,p,h=>h.drop
 |i::is,n,L,p,h=>by
  unfold Go.Proofs.YtgkgmhkgahalgaaGreat.pick
  cases hi:L[i]? with
  |none =>
   have hl:=List.getElem?_eq_none_iff.1 hi
   rw [List.getD_eq_getElem?_getD,hi,List.set_eq_of_length_le hl]
   exact ⟨fun _=>False,p,fun _ h=>h.elim,fun _ h=>h,fun _ h=>h.elim,trivial,Sep.pick h⟩
  |some o =>
   rw [List.getD_eq_getElem?_getD,hi]
   obtain ⟨q,r,hq,hr,hd,ho,hs⟩:=h.take hi
   exact ⟨q,r,hq,hr,hd,ho,Sep.pick hs⟩
theorem Sep.upd (fresh:Nat→Prop):∀ {L:List Dc} {p:Nat→Prop} {j:Nat},Sep L w p→L[j]?=some o→(∀ k,fresh k→¬ p k) →
  (∀ q,(∀ k,q k→p k)→o.P w q→∃ q',(∀ k,q' k→q k∨fresh k)∧o'.P w' q'∧∀ k,p k→¬ q k→w'.heap[k]?=w.heap[k]?)→Sep (L.set j o') w' (fun k=>p k∨fresh k)
 |_::_,p,0,⟨q,r,hq,hr,hd,ho,hs⟩,hj,hf,hu=>by
  cases hj
  obtain ⟨q',hq',ho',hk⟩:=hu q hq ho
  refine ⟨q',r,fun k hk=>(hq' k hk).imp (hq k) id,fun k hk=>.inl (hr k hk),fun k hk hn=>?_,ho',hs.loc (fun k hr'=>hk k (hr k hr') (fun h=>hd k h hr'))⟩
  rcases hq' k hk with h | h
  ·exact hd k h hn
  ·exact hf k h (hr k hn)
 |x::L,p,j+1,⟨q,r,hq,hr,hd,ho,hs⟩,hj,hf,hu=>by
  have h1:=Sep.upd fresh (j:=j) hs (by simpa using hj) (fun k hk hn=>hf k hk (hr k hn)) (fun q1 hq1 ho1=>by
   obtain ⟨q',h1,h2,h3⟩:=hu q1 (fun k hk=>hr k (hq1 k hk)) ho1
   exact ⟨q',h1,h2,fun k hk hn=>h3 k (hr k hk) hn⟩)
  obtain ⟨q1,hq1,ho1⟩:=hs.get (j:=j) (by simpa using hj)
  obtain ⟨q',_,_,h3⟩:=hu q1 (fun k hk=>hr k (hq1 k hk)) ho1
  refine ⟨q,fun k=>r k∨fresh k,fun k hk=>.inl (hq k hk),fun k hk=>hk.imp (hr k) id,fun k hk hn=>?_,x.loc ho (fun k hk=>h3 k (hq k hk) (fun h=>hd k hk (hq1 k h))),h1⟩
  rcases hn with hn | hn
  ·exact hd k hk hn
  ·exact hf k hn (hq k hk)
theorem Sep.cons (fresh:Nat→Prop) (h:Sep L w p) (hf:∀ k,fresh k→¬ p k) (hk:∀ k,p k→w'.heap[k]?=w.heap[k]?) (ho:o.P w' fresh):Sep (o::L) w' (fun k=>p k∨fresh k) :=
 ⟨fresh,p,fun k hk=>.inr hk,fun k hk=>.inl hk,hf,ho,h.loc hk⟩
theorem St.refl (w:World):St w w []:=⟨Below.refl _ _,trivial⟩
theorem St.pick (n:Nat) (is:List Nat) (h:St w0 w L):St w0 w (pick n L is):=⟨h.below,h.sep.pick⟩
theorem St.drop (n:Nat) (h:St w0 w L):St w0 w (L.drop n):=⟨h.below,h.sep.drop⟩
theorem St.get {j:Nat} (h:St w0 w L) (hj:L[j]?=some o):∃ q:Nat→Prop,(∀ k,q k→w0.heap.size≤k∧k<w.heap.size)∧o.P w q:=h.sep.get hj
theorem St.upd {j:Nat} (h:St w0 w L) (hj:L[j]?=some o) (hg:w.heap.size≤w'.heap.size) (hos:w'.os=w.os) (htape:w'.tape=w.tape) (hout:w'.output=w.output)
  (hu:∀ q:Nat→Prop,o.P w q→∃ q':Nat→Prop,(∀ k,q' k→q k∨(w.heap.size≤k∧k<w'.heap.size))∧o'.P w' q'∧∀ k,k<w.heap.size→¬ q k→w'.heap[k]?=w.heap[k]?):St w0 w' (L.set j o'):=by
 obtain ⟨q,hq,ho⟩:=h.get hj
 obtain ⟨q',_,_,h3⟩:=hu q ho
 refine ⟨h.below.trans ⟨hos,htape,hout,hg,fun k hk=>h3 k (Nat.lt_of_lt_of_le hk h.below.size) (fun h=>by have:=hq k h; omega)⟩,?_⟩
 refine (Sep.upd (fun k=>w.heap.size≤k∧k<w'.heap.size) h.sep hj (fun k hk hn=>by omega) (fun q1 hq1 ho1=>?_)).more (fun k hk=>?_)
 ·obtain ⟨q',h1,h2,h3⟩:=hu q1 ho1
  exact ⟨q',h1,h2,fun k hk hn=>h3 k hk.2 hn⟩
 ·have:=h.below.size
  rcases hk with hk | hk<;>omega
theorem St.cons (h:St w0 w L) (hg:w.heap.size≤w'.heap.size) (hos:w'.os=w.os) (htape:w'.tape=w.tape) (hout:w'.output=w.output) (hk:∀ k,k<w.heap.size→w'.heap[k]?=w.heap[k]?)
  (ho:o.P w' (fun k=>w.heap.size≤k∧k<w'.heap.size)):St w0 w' (o::L):=by
 refine ⟨h.below.trans ⟨hos,htape,hout,hg,fun k hk'=>hk k (Nat.lt_of_lt_of_le hk' h.below.size)⟩,?_⟩
 refine (Sep.cons (fun k=>w.heap.size≤k∧k<w'.heap.size) h.sep (fun k hk hn=>by omega) (fun k hp=>hk k hp.2) ho).more (fun k hk=>?_)
 have:=h.below.size
 rcases hk with hk | hk<;>omega
theorem St.drew (h:St w0 w L):St w0 w.drew L:=⟨h.below.drew,h.sep.loc (fun _ _=>rfl)⟩
end
def Box (b:Nat) (t:TypeId) (cs:List Value):Dc where
 P:=fun w q=>q b∧w.heap[b]?=some (.cells cs.toArray t (0,0))
 loc:=fun h hk=>⟨h.1,(hk b h.1).trans h.2⟩
 more:=fun h hq=>⟨hq b h.1,h.2⟩
section
variable {w0 w w':World} {L:List Dc} {b j:Nat} {t:TypeId} {cs:List Value}
theorem St.box (h:St w0 w L) (hj:L[j]?=some (Box b t cs)):w.heap[b]?=some (.cells cs.toArray t (0,0)):=by
 obtain ⟨q,_,h1,h2⟩:=h.get hj
 exact h2
theorem St.Rh (h:St w0 w L) (hj:L[j]?=some (Box b t cs)) {i:Nat} {u:Value} (hi:cs[i]?=some u):w.cell? ⟨b,i,none⟩=some u:=by
 rw [cell_of_row w b i cs.toArray t (0,0) (h.box hj)]
 simpa using hi
theorem St.alloc (h:St w0 w L) (cs:List Value) (t:TypeId):St w0 (w.alloc (.cells cs.toArray t)) (Box w.heap.size t cs::L) :=
 h.cons (by simp) rfl rfl rfl (fun k hk=>Below.heap_alloc w _ k hk) ⟨by simp,heap_alloc_new w _⟩
end
structure Ty (α:Type) where
 Lay:Type
 sz:Nat
 cells:Lay→α→List Value
 M:World→(Nat→Prop)→Lay→α→Prop
 K:World→Lay→α→Prop
 len:∀ l x,(cells l x).length=sz
 one:∀ l x u,u∈cells l x→u.oneCell'=true
 Rc:∀ {w w' q l x},M w q l x→(∀ k,q k→w'.heap[k]?=w.heap[k]?)→M w' q l x
 Ql:∀ {w:World} {q q':Nat→Prop} {l x},M w q l x→(∀ k,q k→q' k)→M w q' l x
 Px:∀ {w q l x},M w q l x→K w l x
 Nt:∀ {w w':World} {l x},Below w.heap.size w w'→K w l x→K w' l x
def ea (A:Option Addr) (n:Nat):Addr:=(A.getD ⟨0,0,none⟩).add n
theorem addr_add_add (a:Addr) (i j:Nat):(a.add i).add j=a.add (i+j):=by
 unfold Addr.add
 by_cases hi:i=0<;>by_cases hj:j=0<;>simp [hi,hj,Nat.add_assoc]
theorem aV (A:Option Addr) (n m:Nat):(ea A n).add m=ea A (n+m):=addr_add_add _ _ _
theorem Tu (a:Addr) (n:Nat):ea (some a) n=a.add n:=rfl
section
variable {α:Type} {T:Ty α} {ly:Nat→T.Lay} {w w':World} {q q':Nat→Prop}
def rc (T:Ty α) (ly:Nat→T.Lay):Nat→List α→List Value
 |_,[]=>[]
 |i,x::r=>T.cells (ly i) x++rc T ly (i+1) r
theorem F7:∀ (i:Nat) (xs:List α),(rc T ly i xs).length=xs.length*T.sz
 |_,[]=>by simp [rc]
 |i,x::r=>by rw [rc,List.length_append,T.len,F7,List.length_cons,Nat.succ_mul,Nat.add_comm]
theorem iT:∀ {xs:List α} {i n j:Nat} {x:α},xs[n]?=some x→j<T.sz→(rc T ly i xs)[n*T.sz+j]?=(T.cells (ly (i+n)) x)[j]?
 |x::r,i,0,j,_,h,hj=>by
  cases h
  rw [rc,Nat.zero_mul,Nat.zero_add,List.getElem?_append_left (by rw [T.len]; exact hj)]
  rfl
 |y::r,i,n+1,j,x,h,hj=>by
  rw [rc,List.getElem?_append_right (by rw [T.len,Nat.succ_mul]; omega),T.len]
  have h1:(n+1)*T.sz+j - T.sz=n*T.sz+j:=by rw [Nat.succ_mul]; omega
  rw [h1,iT (i:=i+1) (by simpa using h) hj,show i+1+n=i+(n+1) by omega]
theorem Ji:∀ (i:Nat) (xs ys:List α),rc T ly i (xs++ys)=rc T ly i xs++rc T ly (i+xs.length) ys
 |i,[],ys=>by simp [rc]
 |i,x::r,ys=>by
  rw [List.cons_append,rc,rc,Ji,List.append_assoc,List.length_cons,show i+1+r.length=i+(r.length+1) by omega]
theorem Qz {ly':Nat→T.Lay}:∀ {xs:List α} {i:Nat},(∀ k,i≤k→k<i+xs.length→ly k=ly' k)→rc T ly i xs=rc T ly' i xs
 |[],_,_=>rfl
 |x::r,i,h=>by
  rw [rc,rc,h i (Nat.le_refl _) (by simp),Qz (fun k h1 h2=>h k (by omega) (by simp only [List.length_cons]; omega))]
theorem Ym:∀ {xs:List α} {i:Nat} {u:Value},u∈rc T ly i xs→u.oneCell'=true
 |[],_,_,h=>by cases h
 |x::r,i,u,h=>by
  rw [rc,List.mem_append] at h
  rcases h with h | h
  ·exact T.one _ _ _ h
  ·exact Ym h
def Ir (T:Ty α) (w:World) (ly:Nat→T.Lay):Nat→List α→(Nat→Prop)→Prop
 |_,[],_=>True
 |i,x::r,q=>∃ q0 q1:Nat→Prop,(∀ k,q0 k→q k)∧(∀ k,q1 k→q k)∧(∀ k,q0 k→¬ q1 k)∧T.M w q0 (ly i) x∧Ir T w ly (i+1) r q1
theorem Ir.more:∀ {xs:List α} {i:Nat} {q q':Nat→Prop},Ir T w ly i xs q→(∀ k,q k→q' k)→Ir T w ly i xs q'
 |[],_,_,_,_,_=>trivial
 |_::_,_,_,_,⟨q0,q1,h0,h1,hd,hm,hs⟩,h=>⟨q0,q1,fun k hk=>h k (h0 k hk),fun k hk=>h k (h1 k hk),hd,hm,hs⟩
theorem Ir.loc:∀ {xs:List α} {i:Nat} {q:Nat→Prop},Ir T w ly i xs q→(∀ k,q k→w'.heap[k]?=w.heap[k]?)→Ir T w' ly i xs q
 |[],_,_,_,_=>trivial
 |_::_,_,_,⟨q0,q1,h0,h1,hd,hm,hs⟩,h=>⟨q0,q1,h0,h1,hd,T.Rc hm (fun k hk=>h k (h0 k hk)),Ir.loc hs (fun k hk=>h k (h1 k hk))⟩
theorem Ir.congr {ly':Nat→T.Lay}:∀ {xs:List α} {i:Nat} {q:Nat→Prop},Ir T w ly i xs q→(∀ k,i≤k→k<i+xs.length→ly k=ly' k)→Ir T w ly' i xs q
 |[],_,_,_,_=>trivial
 |_::_,i,_,⟨q0,q1,h0,h1,hd,hm,hs⟩,h=>⟨q0,q1,h0,h1,hd,by rw [← h i (Nat.le_refl _) (by simp)]; exact hm,Ir.congr hs (fun k hk hl=>h k (by omega) (by simp only [List.length_cons]; omega))⟩
theorem Ir.get:∀ {xs:List α} {i n:Nat} {x:α} {q:Nat→Prop},Ir T w ly i xs q→xs[n]?=some x→∃ q0:Nat→Prop,(∀ k,q0 k→q k)∧T.M w q0 (ly (i+n)) x
 |_::_,i,0,_,_,⟨q0,_,h0,_,_,hm,_⟩,h=>by cases h; exact ⟨q0,h0,hm⟩
 |_::_,i,n+1,_,_,⟨_,q1,_,h1,_,_,hs⟩,h=>by
  obtain ⟨q0,h2,hm⟩:=Ir.get hs (by simpa using h)
  exact ⟨q0,fun k hk=>h1 k (h2 k hk),by rw [show i+(n+1)=i+1+n by omega]; exact hm⟩
theorem Ir.snoc:∀ {xs:List α} {i:Nat} {y:α} {q q2:Nat→Prop},Ir T w ly i xs q→T.M w q2 (ly (i+xs.length)) y→(∀ k,q k→¬ q2 k)→Ir T w ly i (xs++[y]) (fun k=>q k∨q2 k)
 |[],i,y,q,q2,_,hm,hd=>⟨q2,fun _=>False,fun k hk=>.inr hk,fun k hk=>hk.elim,fun k _ hk=>hk,hm,trivial⟩
 |x::r,i,y,q,q2,⟨q0,q1,h0,h1,hdd,hx,hs⟩,hm,hd=>by
  have h2:=Ir.snoc (y:=y) (q2:=q2) hs (by rw [show i+1+r.length=i+(x::r).length by simp only [List.length_cons]; omega]; exact hm) (fun k hk=>hd k (h1 k hk))
  exact ⟨q0,fun k=>q1 k∨q2 k,fun k hk=>.inl (h0 k hk),fun k hk=>hk.imp (h1 k) id,fun k hk hn=>hn.elim (hdd k hk) (hd k (h0 k hk)),hx,h2⟩
def Flat (T:Ty α):Prop:=∀ (w:World) (l:T.Lay) (x:α),T.M w (fun _=>False) l x
theorem Ir.flat (hf:Flat T):∀ (xs:List α) (i:Nat) (q:Nat→Prop),Ir T w ly i xs q
 |[],_,_=>trivial
 |x::r,i,q=>⟨fun _=>False,q,fun _ h=>h.elim,fun _ h=>h,fun _ h=>h.elim,hf w _ x,Ir.flat hf r (i+1) q⟩
end
theorem Jj (b o k:Nat):(⟨b,o,none⟩:Addr).add k=⟨b,o+k,none⟩:=by unfold Addr.add; split<;>simp_all
def splice (cs:List Value) (o:Nat) (vs:List Value):List Value:=cs.take o++vs++cs.drop (o+vs.length)
theorem Zd {cs vs:List Value} {o n:Nat} (h:o+vs.length≤n) (hn:n≤cs.length):(splice cs o vs).take n=splice (cs.take n) o vs:=by
 unfold splice
 rw [List.take_append,List.take_append]
 have h1:(cs.take o).take n=(cs.take n).take o:=by rw [List.take_take,List.take_take,Nat.min_comm]
 rw [h1]
 have h2:(cs.take o).length=o:=by rw [List.length_take]; omega
 have h3:vs.take (n - (cs.take o).length)=vs:=List.take_of_length_le (by rw [h2]; omega)
 rw [h3,List.length_append,h2,List.drop_take]
theorem Sv {cs vs:List Value} {o k:Nat} (h:o≤cs.length):(splice cs (o+k) vs).drop o=splice (cs.drop o) k vs:=by
 unfold splice
 rw [List.append_assoc,List.append_assoc,List.drop_append,List.length_take,List.drop_take,List.drop_drop,show o+k - o=k by omega,show o+(k+vs.length)=o+k+vs.length by omega]
 by_cases hk:o+k≤cs.length
 ·rw [show o - min (o+k) cs.length=0 by omega,List.drop_zero]
 ·rw [show o - min (o+k) cs.length=0 by omega,List.drop_zero]
theorem Nz {cs vs:List Value} {o:Nat} (h:o+vs.length≤cs.length):(splice cs o vs).length=cs.length:=by
 simp only [splice,List.length_append,List.length_take,List.length_drop]; omega
def OR (w:World) (t:TypeId) (sz:Nat) (v:Value) (n:Nat) (xs:List Value):Prop :=
 xs.length=n*sz∧((v=.slice none 0 0∧n=0) ∨
  ∃ g o cap cur,v=.slice (some ⟨g,o,none⟩) n cap∧w.heap[g]?=some (.cells cur t (0,0))∧n≤cap∧cap≤maxLen∧o+cap*sz≤cur.size∧(cur.toList.drop o).take (n*sz)=xs)
section
variable {w w':World} {t:TypeId} {sz n c:Nat} {v:Value} {A:Option Addr} {xs:List Value}
theorem OR.of {base:Nat} (h:w.ownsRow base t sz v n xs):OR w t sz v n xs :=
 ⟨h.1,h.2.imp id fun ⟨g,cap,cur,hv,_,hh,hn,hm,hs,ht⟩=>⟨g,0,cap,cur,hv,hh,hn,hm,by omega,by simpa using ht⟩⟩
theorem OR.nil (w:World) (t:TypeId) (sz:Nat):OR w t sz (.slice none 0 0) 0 []:=⟨by simp,.inl ⟨rfl,rfl⟩⟩
theorem OR.lt (h:OR w t sz v n xs):∀ k,v.ownBlock=some k→k<w.heap.size:=by
 intro k hk
 rcases h.2 with ⟨rfl,_⟩|⟨g,o,cap,cur,rfl,hh,_⟩
 ·simp [Value.ownBlock] at hk
 ·have:g=k:=by simpa [Value.ownBlock] using hk
  subst this
  exact (Array.getElem?_eq_some_iff.1 hh).1
theorem OR.loc (h:OR w t sz v n xs) (hm:∀ k,v.ownBlock=some k→w'.heap[k]?=w.heap[k]?):OR w' t sz v n xs:=by
 obtain ⟨h1,h2⟩:=h
 refine ⟨h1,?_⟩
 rcases h2 with h2 | ⟨g,o,cap,cur,rfl,hh,r⟩
 ·exact .inl h2
 ·exact .inr ⟨g,o,cap,cur,rfl,(hm g (by simp [Value.ownBlock])).trans hh,r⟩
theorem OR.open (h:OR w t sz (.slice A n c) n xs) (hn:0<n):∃ g o cur,A=some ⟨g,o,none⟩∧w.heap[g]?=some (.cells cur t (0,0))∧n≤c∧c≤maxLen∧o+c*sz≤cur.size∧(cur.toList.drop o).take (n*sz)=xs:=by
 rcases h.2 with ⟨_,h0⟩|⟨g,o,cap,cur,hv,hh,hnc,hcm,hsz,htk⟩
 ·omega
 injection hv with hA _ hc
 subst hc
 exact ⟨g,o,cur,hA,hh,hnc,hcm,hsz,htk⟩
theorem OR.slice (h:OR w t sz v n xs):∃ A c,v=.slice A n c:=by
 rcases h.2 with ⟨h,h0⟩|⟨g,o,cap,cur,hv,_⟩
 ·exact ⟨none,0,by rw [h,h0]⟩
 ·exact ⟨_,_,hv⟩
theorem OR.cells (h:OR w t sz (.slice A n c) n xs) (hn:0<n):∀ j u,xs[j]?=some u→w.cell? ((A.getD ⟨0,0,none⟩).add j)=some u:=by
 intro j u hu
 obtain ⟨g,o,cur,rfl,hh,_,_,_,htk⟩:=h.open hn
 rw [Option.getD_some,Jj,cell_of_row w g (o+j) cur t (0,0) hh]
 rw [← htk,List.getElem?_take] at hu
 split at hu
 ·rw [List.getElem?_drop] at hu; simpa using hu
 ·cases hu
theorem OR.put {g o k:Nat} {cur:Array Value} {vs:List Value} (h:OR w t sz (.slice (some ⟨g,o,none⟩) n c) n xs) (hh:w.heap[g]?=some (.cells cur t (0,0))) (hk:k+vs.length≤xs.length) :
  o+k+vs.length≤cur.size∧OR (w.setRow g (splice cur.toList (o+k) vs).toArray) t sz (.slice (some ⟨g,o,none⟩) n c) n (splice xs k vs):=by
 obtain ⟨h1,h2⟩:=h
 rcases h2 with ⟨h2,_⟩|⟨g',o',cap,cur',hv,hh',hnc,hcm,hsz,htk⟩
 ·cases h2
 injection hv with hA _ hc
 cases hA
 subst hc
 rw [hh] at hh'
 obtain rfl:cur=cur':=by injection hh' with h; injection h
 have hmul:n*sz≤c*sz:=Nat.mul_le_mul_right _ hnc
 have hcl:cur.toList.length=cur.size:=Array.length_toList
 have hle:o+k+vs.length≤cur.toList.length:=by omega
 refine ⟨by rw [← hcl]; exact hle,by rw [Nz hk]; exact h1,.inr ⟨g,o,c,_,rfl,setRow_heap w g _ _ t (0,0) hh,hnc,hcm,?_,?_⟩⟩
 ·rw [List.size_toArray,Nz hle,Array.length_toList]; exact hsz
 ·show ((splice cur.toList (o+k) vs).drop o).take (n*sz)=_
  rw [Sv (by omega),Zd (by omega) (by rw [List.length_drop]; omega),htk]
end
section
variable {α:Type} {T:Ty α} {ly:Nat→T.Lay} {w w':World} {q q':Nat→Prop}
def O8 (T:Ty α) (t:TypeId) (A:Option Addr) (c:Nat) (ly:Nat→T.Lay) (xs:List α) (w:World) (q:Nat→Prop):Prop :=
 ∃ q1 q2:Nat→Prop,(∀ k,q1 k→q k)∧(∀ k,q2 k→q k)∧(∀ k,q1 k→¬ q2 k)∧OR w t T.sz (.slice A xs.length c) xs.length (rc T ly 0 xs) ∧
  (∀ k,(Value.slice A xs.length c).ownBlock=some k→q1 k)∧Ir T w ly 0 xs q2
theorem O8.loc {t:TypeId} {A:Option Addr} {c:Nat} {xs:List α} (h:O8 T t A c ly xs w q) (hk:∀ k,q k→w'.heap[k]?=w.heap[k]?):O8 T t A c ly xs w' q:=by
 obtain ⟨q1,q2,h1,h2,hd,ho,hb,hs⟩:=h
 exact ⟨q1,q2,h1,h2,hd,ho.loc (fun k hk'=>hk k (h1 k (hb k hk'))),hb,hs.loc (fun k hk'=>hk k (h2 k hk'))⟩
theorem O8.more {t:TypeId} {A:Option Addr} {c:Nat} {xs:List α} (h:O8 T t A c ly xs w q) (hk:∀ k,q k→q' k):O8 T t A c ly xs w q':=by
 obtain ⟨q1,q2,h1,h2,r⟩:=h
 exact ⟨q1,q2,fun k hk'=>hk k (h1 k hk'),fun k hk'=>hk k (h2 k hk'),r⟩
theorem O8.nil (t:TypeId) (ly:Nat→T.Lay) (w:World) (q:Nat→Prop):O8 T t none 0 ly [] w q :=
 ⟨fun _=>False,fun _=>False,fun _ h=>h.elim,fun _ h=>h.elim,fun _ h=>h.elim,OR.nil _ _ _,fun k hk=>by simp [Value.ownBlock] at hk,trivial⟩
def Rd (T:Ty α) (w:World) (A:Option Addr) (c:Nat) (ly:Nat→T.Lay) (xs:List α):Prop :=
 xs.length≤c∧c≤9223372036854775807∧(0<xs.length→∃ b o,A=some ⟨b,o,none⟩)∧(∀ j u,(rc T ly 0 xs)[j]?=some u→w.cell? (ea A j)=some u)∧∀ i x,xs[i]?=some x→T.K w (ly i) x
theorem O8.reads {t:TypeId} {A:Option Addr} {c:Nat} {xs:List α} (h:O8 T t A c ly xs w q):Rd T w A c ly xs:=by
 obtain ⟨q1,q2,h1,h2,hd,ho,hb,hs⟩:=h
 refine ⟨?_,?_,?_,?_,?_⟩
 ·rcases ho.2 with ⟨h,h0⟩|⟨g,o,cap,cur,hv,_,hn,_⟩
  ·omega
  ·injection hv with _ _ hc; omega
 ·rcases ho.2 with ⟨h,h0⟩|⟨g,o,cap,cur,hv,_,hn,hm,_⟩
  ·injection h with _ _ hc; omega
  ·injection hv with _ _ hc; simp only [maxLen] at hm; omega
 ·intro hn
  obtain ⟨g,o,_,hA,_⟩:=ho.open hn
  exact ⟨g,o,hA⟩
 ·intro j u hu
  have hn:0<xs.length:=by
   rcases Nat.eq_zero_or_pos xs.length with h0 | h0
   ·have:=List.eq_nil_of_length_eq_zero h0
    subst this
    simp [rc] at hu
   ·exact h0
  exact ho.cells hn j u hu
 ·intro i x hx
  obtain ⟨q0,_,hm⟩:=hs.get hx
  have:=T.Px hm
  rwa [Nat.zero_add] at this
theorem Rd.below {A:Option Addr} {c:Nat} {xs:List α} (h:Rd T w A c ly xs) (hb:Below w.heap.size w w'):Rd T w' A c ly xs :=
 ⟨h.1,h.2.1,h.2.2.1,fun j u hu=>by
  have h1:=h.2.2.2.1 j u hu
  exact (hb.cell (World.block_lt_of_cell? w _ h1)).trans h1,fun i x hx=>T.Nt hb (h.2.2.2.2 i x hx)⟩
theorem Rd.cell {A:Option Addr} {c:Nat} {xs:List α} (h:Rd T w A c ly xs) {i j:Nat} {x:α} {u:Value} (hx:xs[i]?=some x) (hj:j<T.sz) (hu:(T.cells (ly i) x)[j]?=some u):w.cell? (ea A (i*T.sz+j))=some u :=
 h.2.2.2.1 _ _ (by rw [iT hx hj,Nat.zero_add]; exact hu)
end
structure Ti (β:Type) where
 A:Option Addr
 c:Nat
 ly:Nat→β
abbrev Ty.flat {α:Type} (sz:Nat) (enc:α→List Value) (hl:∀ x,(enc x).length=sz) (h1:∀ x u,u∈enc x→u.oneCell'=true):Ty α where
 Lay:=Unit
 sz:=sz
 cells:=fun _ x=>enc x
 M:=fun _ _ _ _=>True
 K:=fun _ _ _=>True
 len:=fun _ x=>hl x
 one:=fun _ x u=>h1 x u
 Rc:=fun h _=>h
 Ql:=fun h _=>h
 Px:=fun _=>trivial
 Nt:=fun _ h=>h
abbrev Ty.slice {α:Type} (t:TypeId) (T:Ty α):Ty (List α) where
 Lay:=Ti T.Lay
 sz:=1
 cells:=fun l xs=>[.slice l.A xs.length l.c]
 M:=fun w q l xs=>O8 T t l.A l.c l.ly xs w q
 K:=fun w l xs=>Rd T w l.A l.c l.ly xs
 len:=fun _ _=>rfl
 one:=fun _ _ u h=>by rw [List.mem_singleton.1 h]; rfl
 Rc:=fun h hk=>h.loc hk
 Ql:=fun h hk=>h.more hk
 Px:=fun h=>h.reads
 Nt:=fun hb h=>h.below hb
abbrev Ac (k:IntKind):Ty Int:=Ty.flat 1 (fun x=>[.int k x]) (fun _=>rfl) (fun x u h=>by rw [List.mem_singleton.1 h]; rfl)
abbrev Fy:Ty Bool:=Ty.flat 1 (fun x=>[.bool x]) (fun _=>rfl) (fun x u h=>by rw [List.mem_singleton.1 h]; rfl)
theorem Ao {α:Type} {sz:Nat} {enc:α→List Value} {hl:∀ x,(enc x).length=sz} {h1:∀ x u,u∈enc x→u.oneCell'=true}:Flat (Ty.flat sz enc hl h1):=fun _ _ _=>trivial
def Own {α:Type} (T:Ty α) (t:TypeId) (A:Option Addr) (c:Nat) (ly:Nat→T.Lay) (xs:List α):Dc where
 P:=O8 T t A c ly xs
 loc:=fun h hk=>h.loc hk
 more:=fun h hk=>h.more hk
def Bv {α:Type} (w0:World) (L:List Dc) (T:Ty α) (A:Option Addr) (c:Nat) (ly:Nat→T.Lay) (xs:List α):Prop:=∀ w,St w0 w L→Rd T w A c ly xs
section
variable {α:Type} {T:Ty α} {ly:Nat→T.Lay} {w0 w w':World} {L:List Dc} {A:Option Addr} {c:Nat} {xs:List α} {t:TypeId}
theorem Bv.own {j:Nat} (hj:L[j]?=some (Own T t A c ly xs)):Bv w0 L T A c ly xs:=fun w h=>by
 obtain ⟨q,_,ho⟩:=h.get hj
 exact O8.reads ho
theorem Bv.old (h:Rd T w0 A c ly xs):Bv w0 L T A c ly xs:=fun w hs=>h.below hs.below
theorem Bv.drop (n:Nat) (h:Bv w0 (L.drop n) T A c ly xs):Bv w0 L T A c ly xs:=fun w hs=>h w (hs.drop n)
theorem Bv.elem {S:Ty α} {u:TypeId} {ly:Nat→Ti S.Lay} {xss:List (List α)} (h:Bv w0 L (Ty.slice u S) A c ly xss) {i:Int} (h0:0≤i) (h1:i<(xss.length:Int)) :
  Bv w0 L S (ly i.toNat).A (ly i.toNat).c (ly i.toNat).ly (xss.getD i.toNat []):=fun w hs=>by
 have hl:i.toNat<xss.length:=by omega
 have:=(h w hs).2.2.2.2 i.toNat (xss[i.toNat]) (List.getElem?_eq_getElem hl)
 rw [List.getD_eq_getElem?_getD,List.getElem?_eq_getElem hl]
 exact this
theorem St.Jz (h:St w0 w L) (T:Ty α) (t:TypeId) (ly:Nat→T.Lay):St w0 w (Own T t none 0 ly []::L) :=
 ⟨h.below,fun _=>False,fun k=>w0.heap.size≤k∧k<w.heap.size,fun _ h=>h.elim,fun _ h=>h,fun _ h=>h.elim,O8.nil t ly w _,h.sep⟩
theorem getD_some {d:α} {i:Nat} (h:i<xs.length):xs[i]?=some (xs.getD i d):=by
 rw [List.getD_eq_getElem?_getD,List.getElem?_eq_getElem h]; rfl
theorem St.Ib {b j:Nat} {cs:List Value} (h:St w0 w L) (hj:L[j]?=some (Box b t cs)) (hfl:Flat T) (ly:Nat→T.Lay) (xs:List α) (hc:rc T ly 0 xs=cs) (hm:xs.length≤9223372036854775807):St w0 w (L.set j (Own T t (some ⟨b,0,none⟩) xs.length ly xs)):=by
 refine h.upd hj (Nat.le_refl _) rfl rfl rfl (fun q hq=>⟨q,fun k hk=>.inl hk,⟨fun k=>k=b,fun _=>False,fun k hk=>by rw [hk]; exact hq.1,fun _ hk=>hk.elim,fun _ _ hk=>hk,?_,fun k hk=>?_,Ir.flat hfl _ _ _⟩,fun k _ _=>rfl⟩)
 ·refine ⟨F7 _ _,.inr ⟨b,0,xs.length,cs.toArray,rfl,hq.2,Nat.le_refl _,by simp only [maxLen]; omega,?_,?_⟩⟩
  ·rw [← hc]; simp [F7]
  ·rw [← hc]
   simp only [List.toList_toArray,List.drop_zero]
   rw [List.take_of_length_le (by rw [F7]; exact Nat.le_refl _)]
 ·simp [Value.ownBlock] at hk
  exact hk.symm
end
def w64 (x:Int):Int:=IntKind.wrap .i64 x
theorem E9 {x:Int} (h : -9223372036854775808≤x) (h':x≤9223372036854775807):w64 x=x:=by
 unfold w64
 rw [IntKind.wrap_i64]
 omega
section
variable {P:Program} {f:FuncId} {N:Nat} {e:Env} {k:List Item} {w:World} {R:Ending→World→Prop} {Q:Act→World→Prop} {ops:Array Oper} {i d:Nat} {rest:List Nat} {ty:TypeId} {ps:String} {af:Array Edge}
theorem G.Aap {c:Operand} {x y:Code} {b:Bool} (h:ev e c=some (.bool b)) (hb:b=true) (g:G P f N e (.code x::k) w R):G P f N e (.code (.cond c x y)::k) w R:=by
 subst hb; exact G.yes h g
theorem G.noB {c:Operand} {x y:Code} {b:Bool} (h:ev e c=some (.bool b)) (hb:b=false) (g:G P f N e (.code y::k) w R):G P f N e (.code (.cond c x y)::k) w R:=by
 subst hb; exact G.no h g
theorem GO.move {x:Operand} {v:Value} (ho:ops[i]?=some ⟨some d,.move x,ty,ps,af,none⟩) (hx:ev e x=some v) (hN:Nat.blt d N=true) (g:GO P N ops rest ((d,v)::e) w Q):GO P N ops (i::rest) e w Q :=
 GO.val v ho rfl rfl hN (fun a hs=>by simp [execOp,hs.ev hx]) g
theorem GO.assign {x:Operand} {v:Value} (ho:ops[i]?=some ⟨some d,.assign x,ty,ps,af,none⟩) (hx:ev e x=some v) (hN:Nat.blt d N=true) (g:GO P N ops rest ((d,v)::e) w Q):GO P N ops (i::rest) e w Q :=
 GO.val v ho rfl rfl hN (fun a hs=>by simp [execOp,hs.ev hx]) g
theorem GO.Gq {c x y:Operand} {v:Value} {b:Bool} (ho:ops[i]?=some ⟨some d,.pick c x y,ty,ps,af,none⟩) (hc:ev e c=some (.bool b)) (hb:b=true) (hx:ev e x=some v) (hN:Nat.blt d N=true) (g:GO P N ops rest ((d,v)::e) w Q):GO P N ops (i::rest) e w Q :=
 GO.val v ho rfl rfl hN (fun a hs=>by simp [execOp,hs.ev hc,hs.ev hx,hb,asBool]) g
theorem GO.Iw {c x y:Operand} {v:Value} {b:Bool} (ho:ops[i]?=some ⟨some d,.pick c x y,ty,ps,af,none⟩) (hc:ev e c=some (.bool b)) (hb:b=false) (hx:ev e y=some v) (hN:Nat.blt d N=true) (g:GO P N ops rest ((d,v)::e) w Q):GO P N ops (i::rest) e w Q :=
 GO.val v ho rfl rfl hN (fun a hs=>by simp [execOp,hs.ev hc,hs.ev hx,hb,asBool]) g
theorem GO.extract {x:Operand} {vs:Array Value} {n:Nat} {v:Value} (ho:ops[i]?=some ⟨some d,.extract x n,ty,ps,af,none⟩) (hx:ev e x=some (.tuple vs)) (hv:vs[n]?=some v) (hN:Nat.blt d N=true) (g:GO P N ops rest ((d,v)::e) w Q):GO P N ops (i::rest) e w Q :=
 GO.val v ho rfl rfl hN (fun a hs=>by simp [execOp,hs.ev hx,Instr.extract,hv]) g
theorem GO.U9 {fn:Fn} {first cap:Array Operand} {vs us:List Value} (ho:ops[i]?=some ⟨some d,.makeFunc fn first cap,ty,ps,af,none⟩) (h1:evs e first.toList=some vs) (h2:evs e cap.toList=some us) (hN:Nat.blt d N=true) (g:GO P N ops rest ((d,.func fn vs.toArray us.toArray)::e) w Q):GO P N ops (i::rest) e w Q :=
 GO.val _ ho rfl rfl hN (fun a hs=>by
  have e1:=hs.evs h1
  have e2:=hs.evs h2
  have e3:first.map a.eval=vs.toArray:=by rw [← e1,← List.map_toArray,Array.toArray_toList]
  have e4:cap.map a.eval=us.toArray:=by rw [← e2,← List.map_toArray,Array.toArray_toList]
  simp [execOp,Instr.makeFunc,e3,e4]) g
theorem GO.bin {op:BinOp} {t t':TypeId} {x y:Operand} {kd:IntKind} {m n:Int} (v:Value) (ho:ops[i]?=some ⟨some d,.binOp op t x y t',ty,ps,af,none⟩) (hx:ev e x=some (.int kd m)) (hy:ev e y=some (.int kd n))
  (hv:∀ w,(do eqGuard op t x y (.int kd m) (.int kd n); binOp op t (.int kd m) (.int kd n)).run P w=.ok v w) (hN:Nat.blt d N=true) (g:GO P N ops rest ((d,v)::e) w Q):GO P N ops (i::rest) e w Q :=
 GO.val v ho rfl rfl hN (fun a hs=>by
  have h:=hv w
  simp only [Sem.run_bind] at h
  simp only [execOp,hs.ev hx,hs.ev hy,Sem.run_bind]
  rw [h]
  rfl) g
section
variable {t t':TypeId} {x y:Operand} {kd:IntKind} {m n:Int}
theorem GO.add (ho:ops[i]?=some ⟨some d,.binOp .add t x y t',ty,ps,af,none⟩) (hx:ev e x=some (.int kd m)) (hy:ev e y=some (.int kd n)) (hN:Nat.blt d N=true) (g:GO P N ops rest ((d,.int kd (kd.wrap (m+n)))::e) w Q):GO P N ops (i::rest) e w Q :=
 GO.bin _ ho hx hy (fun w=>by simp [eqGuard,binOp,Op.intArith]) hN g
theorem GO.sub (ho:ops[i]?=some ⟨some d,.binOp .sub t x y t',ty,ps,af,none⟩) (hx:ev e x=some (.int kd m)) (hy:ev e y=some (.int kd n)) (hN:Nat.blt d N=true) (g:GO P N ops rest ((d,.int kd (kd.wrap (m - n)))::e) w Q):GO P N ops (i::rest) e w Q :=
 GO.bin _ ho hx hy (fun w=>by simp [eqGuard,binOp,Op.intArith]) hN g
theorem GO.mul (ho:ops[i]?=some ⟨some d,.binOp .mul t x y t',ty,ps,af,none⟩) (hx:ev e x=some (.int kd m)) (hy:ev e y=some (.int kd n)) (hN:Nat.blt d N=true) (g:GO P N ops rest ((d,.int kd (kd.wrap (m*n)))::e) w Q):GO P N ops (i::rest) e w Q :=
 GO.bin _ ho hx hy (fun w=>by simp [eqGuard,binOp,Op.intArith]) hN g
theorem GO.quo (ho:ops[i]?=some ⟨some d,.binOp .quo t x y t',ty,ps,af,none⟩) (hx:ev e x=some (.int kd m)) (hy:ev e y=some (.int kd n)) (h0:¬ n=0) (hN:Nat.blt d N=true) (g:GO P N ops rest ((d,.int kd (kd.wrap (m.tdiv n)))::e) w Q):GO P N ops (i::rest) e w Q :=
 GO.bin _ ho hx hy (fun w=>by simp [eqGuard,binOp,Op.intDiv,h0]) hN g
theorem GO.rem (ho:ops[i]?=some ⟨some d,.binOp .rem t x y t',ty,ps,af,none⟩) (hx:ev e x=some (.int kd m)) (hy:ev e y=some (.int kd n)) (h0:¬ n=0) (hN:Nat.blt d N=true) (g:GO P N ops rest ((d,.int kd (m.tmod n))::e) w Q):GO P N ops (i::rest) e w Q :=
 GO.bin _ ho hx hy (fun w=>by simp [eqGuard,binOp,Op.intDiv,h0]) hN g
theorem GO.lss (ho:ops[i]?=some ⟨some d,.binOp .lss t x y t',ty,ps,af,none⟩) (hx:ev e x=some (.int kd m)) (hy:ev e y=some (.int kd n)) (hN:Nat.blt d N=true) (g:GO P N ops rest ((d,.bool (decide (m<n)))::e) w Q):GO P N ops (i::rest) e w Q :=
 GO.bin _ ho hx hy (fun w=>by simp [eqGuard,binOp,Op.intCmp]) hN g
theorem GO.leq (ho:ops[i]?=some ⟨some d,.binOp .leq t x y t',ty,ps,af,none⟩) (hx:ev e x=some (.int kd m)) (hy:ev e y=some (.int kd n)) (hN:Nat.blt d N=true) (g:GO P N ops rest ((d,.bool (decide (m≤n)))::e) w Q):GO P N ops (i::rest) e w Q :=
 GO.bin _ ho hx hy (fun w=>by simp [eqGuard,binOp,Op.intCmp]) hN g
theorem GO.gtr (ho:ops[i]?=some ⟨some d,.binOp .gtr t x y t',ty,ps,af,none⟩) (hx:ev e x=some (.int kd m)) (hy:ev e y=some (.int kd n)) (hN:Nat.blt d N=true) (g:GO P N ops rest ((d,.bool (decide (n<m)))::e) w Q):GO P N ops (i::rest) e w Q :=
 GO.bin _ ho hx hy (fun w=>by simp [eqGuard,binOp,Op.intCmp]) hN g
theorem GO.geq (ho:ops[i]?=some ⟨some d,.binOp .geq t x y t',ty,ps,af,none⟩) (hx:ev e x=some (.int kd m)) (hy:ev e y=some (.int kd n)) (hN:Nat.blt d N=true) (g:GO P N ops rest ((d,.bool (decide (n≤m)))::e) w Q):GO P N ops (i::rest) e w Q :=
 GO.bin _ ho hx hy (fun w=>by simp [eqGuard,binOp,Op.intCmp]) hN g
theorem GO.eql (ho:ops[i]?=some ⟨some d,.binOp .eql t x y t',ty,ps,af,none⟩) (hx:ev e x=some (.int kd m)) (hy:ev e y=some (.int kd n)) (hN:Nat.blt d N=true) (g:GO P N ops rest ((d,.bool (decide (m=n)))::e) w Q):GO P N ops (i::rest) e w Q :=
 GO.bin _ ho hx hy (fun w=>by simp [eqGuard,binOp,Op.intCmp]; rfl) hN g
theorem GO.neq (ho:ops[i]?=some ⟨some d,.binOp .neq t x y t',ty,ps,af,none⟩) (hx:ev e x=some (.int kd m)) (hy:ev e y=some (.int kd n)) (hN:Nat.blt d N=true) (g:GO P N ops rest ((d,.bool (!decide (m=n)))::e) w Q):GO P N ops (i::rest) e w Q :=
 GO.bin _ ho hx hy (fun w=>by simp [eqGuard,binOp,Op.intCmp]; rfl) hN g
end
theorem GO.not {t:TypeId} {x:Operand} {b:Bool} (ho:ops[i]?=some ⟨some d,.unOp .not t x,ty,ps,af,none⟩) (hx:ev e x=some (.bool b)) (hN:Nat.blt d N=true) (g:GO P N ops rest ((d,.bool (!b))::e) w Q):GO P N ops (i::rest) e w Q :=
 GO.val _ ho rfl rfl hN (fun a hs=>by simp [execOp,hs.ev hx,Op.unary]) g
theorem GO.neg {t:TypeId} {x:Operand} {kd:IntKind} {n:Int} (ho:ops[i]?=some ⟨some d,.unOp .neg t x,ty,ps,af,none⟩) (hx:ev e x=some (.int kd n)) (hN:Nat.blt d N=true) (g:GO P N ops rest ((d,.int kd (kd.wrap (0 - n)))::e) w Q):GO P N ops (i::rest) e w Q :=
 GO.val _ ho rfl rfl hN (fun a hs=>by simp [execOp,hs.ev hx,Op.unary,Op.intArith]) g
theorem run_equalIn_bool {t:TypeId} (ht:P.underlying t=some .bool) (dp:Nat) (m n:Bool) (w:World):(Op.equalIn (dp+1) t (.bool m) (.bool n)).run P w=.ok (m == n) w:=by
 simp [Op.equalIn,run_underlying ht]
theorem run_equal_bool {t:TypeId} (ht:P.underlying t=some .bool) (m n:Bool) (w:World):(Op.equal t (.bool m) (.bool n)).run P w=.ok (m == n) w:=run_equalIn_bool ht 9999 m n w
theorem GO.Aa1 {t t':TypeId} {x y:Operand} {m n:Bool} (ho:ops[i]?=some ⟨some d,.binOp .eql t x y t',ty,ps,af,none⟩) (hx:ev e x=some (.bool m)) (hy:ev e y=some (.bool n)) (ht:P.underlying t=some .bool) (hN:Nat.blt d N=true) (g:GO P N ops rest ((d,.bool (m == n))::e) w Q):GO P N ops (i::rest) e w Q :=
 GO.val _ ho rfl rfl hN (fun a hs=>by simp [execOp,hs.ev hx,hs.ev hy,eqGuard,binOp,run_equal_bool ht]) g
theorem GO.Aa6 {t:TypeId} {x:Operand} {A:Option Addr} {n c:Nat} {s:TypeId} (ho:ops[i]?=some ⟨some d,.call { callee:=.builtin .len,args:=#[x],argTypes:=#[t] },ty,ps,af,none⟩) (hx:ev e x=some (.slice A n c)) (ht:P.underlying t=some (.slice s)) (hN:Nat.blt d N=true)
  (g:GO P N ops rest ((d,.int .i64 (n:Int))::e) w Q):GO P N ops (i::rest) e w Q :=
 GO.val _ ho rfl rfl hN (fun a hs=>by simp [execOp,resolve,invoke,builtin,Builtin.len_,hs.ev hx,run_underlying ht,goInt]) g
theorem GO.build {t:TypeId} {parts:Array (Nat × Operand)} {vs:List (Nat × Value)} (v:Value) (ho:ops[i]?=some ⟨some d,.build t parts,ty,ps,af,none⟩) (hx:∀ a,Sat N e a→parts.map (fun p=>(p.1,a.eval p.2))=vs.toArray) (hr:∀ w,(Instr.build t vs.toArray).run P w=.ok v w) (hN:Nat.blt d N=true)
  (g:GO P N ops rest ((d,v)::e) w Q):GO P N ops (i::rest) e w Q :=
 GO.val _ ho rfl rfl hN (fun a hs=>by
  have h1:=hx a hs
  have h2:=hr w
  simp only [execOp]
  rw [show (Array.map (fun x=>match x with | (i,x)=>(i,a.eval x)) parts)=parts.map (fun p=>(p.1,a.eval p.2)) from rfl,h1]
  simp [h2]) g
theorem GO.fld {s:TypeId} {x:Operand} {fi off:Nat} {ad:Addr} (ad':Addr) (ho:ops[i]?=some ⟨some d,.fieldAddr s x fi,ty,ps,af,none⟩) (hx:ev e x=some (.pointer (some ad))) (hr:∀ (ad:Addr) (w:World),(Instr.fieldAt s (.pointer (some ad)) fi).run P w=.ok (.pointer (some (ad.add off))) w) (he:ad.add off=ad') (hN:Nat.blt d N=true)
  (g:GO P N ops rest ((d,.pointer (some ad'))::e) w Q):GO P N ops (i::rest) e w Q :=
 GO.val _ ho rfl rfl hN (fun a hs=>by simp [execOp,hs.ev hx,hr,he]) g
theorem GO.ix {t el:TypeId} {x y:Operand} {A:Option Addr} {n c sz:Nat} {kd:IntKind} {m:Int} (ho:ops[i]?=some ⟨some d,.indexAddr t x y,ty,ps,af,none⟩) (hx:ev e x=some (.slice A n c)) (hy:ev e y=some (.int kd m)) (ht:P.underlying t=some (.slice el)) (hsz:(P.info? el).map (·.size)=some sz)
  (hA:0<n→∃ b o,A=some ⟨b,o,none⟩) (h0:0≤m) (h1:m<(n:Int)) (hN:Nat.blt d N=true) (g:GO P N ops rest ((d,.pointer (some (ea A (m.toNat*sz))))::e) w Q):GO P N ops (i::rest) e w Q :=
 GO.val _ ho rfl rfl hN (fun a hs=>by
  obtain ⟨b,o,rfl⟩:=hA (by omega)
  obtain ⟨inf,hi,hi2⟩:=Option.map_eq_some_iff.1 hsz
  simp [execOp,hs.ev hx,hs.ev hy,Instr.indexAt,asIntOf,run_underlying ht,h0,h1,sizeOf,typeInfo,hi,hi2,ea]) g
theorem GO.mR {t el:TypeId} {x y:Operand} {kd kd':IntKind} {len:Nat} {m:Int} (l:List Int) (ho:ops[i]?=some ⟨some d,.index t x y,ty,ps,af,none⟩) (hx:ev e x=some (.agg (l.map (Value.int kd)).toArray)) (hy:ev e y=some (.int kd' m)) (ht:P.underlying t=some (.array len el)) (hel:P.underlying el=some (.int kd))
  (hsz:(P.info? el).map (·.size)=some 1) (hl:l.length=len) (h0:0≤m) (h1:m<(len:Int)) (hN:Nat.blt d N=true) (g:GO P N ops rest ((d,.int kd (l.getD m.toNat 0))::e) w Q):GO P N ops (i::rest) e w Q :=
 GO.val _ ho rfl rfl hN (fun a hs=>by
  obtain ⟨inf,hi,hi2⟩:=Option.map_eq_some_iff.1 hsz
  have hm:m.toNat<l.length:=by omega
  simp [execOp,hs.ev hx,hs.ev hy,Instr.index,asIntOf,run_underlying ht,h0,h1,sizeOf,typeInfo,hi,hi2,part,isAgg,run_underlying hel,hm,List.getD_eq_getElem?_getD]) g
theorem Q0 {h : FuncId} {fn : Func} (hf : P.funcs[h]? = some fn) (hn : (fn.name == "runtime.NumGoroutine") = false) (hb : fn.body.isNone = false) (args : Array Value) (w : World) : (callFunc h args).run P w = .ok (.enter h args) w := by
  unfold callFunc
  simp only [Sem.run_bind,run_program,Result.andThen_ok,hf,hn,hb]
  rfl
theorem GO.fn {h : FuncId} {fn : Func} {args : Array Operand} {tys : Array TypeId} {vs : List Value} {R1 : Ending → World → Prop} (ho : ops[i]? = some ⟨some d, .call { callee := .value (.func h), args := args, argTypes := tys }, ty, ps, af, none⟩) (hf : P.funcs[h]? = some fn) (hn : (fn.name == "runtime.NumGoroutine") = false) (hb : fn.body.isNone = false)
    (hx:evs e args.toList=some vs) (hN:Nat.blt d N=true) (hc:Calls P h vs.toArray w R1) (hr:∀ en w2,R1 en w2→∃ v,en=.returned v∧GO P N ops rest ((d,v)::e) w2 Q):GO P N ops (i::rest) e w Q :=
  GO.call ho rfl rfl hN (fun a hs=>by
    have e1:=hs.evs hx
    have e3:args.map a.eval=vs.toArray:=by rw [← e1,← List.map_toArray,Array.toArray_toList]
    simp [execOp,resolve,Deferred.ofValue,Act.eval,invoke,e3,Q0 hf hn hb]) hc hr
theorem GO.clo {h : FuncId} {fn : Func} {c : Operand} {args : Array Operand} {tys : Array TypeId} {vs : List Value} {us : Array Value} {R1 : Ending → World → Prop} (ho : ops[i]? = some ⟨some d, .call { callee := .value c, args := args, argTypes := tys }, ty, ps, af, none⟩) (hcl : ev e c = some (.func (.func h) #[] us)) (hf : P.funcs[h]? = some fn) (hn : (fn.name == "runtime.NumGoroutine") = false) (hb : fn.body.isNone = false)
    (hx:evs e args.toList=some vs) (hN:Nat.blt d N=true) (hc:Calls P h (vs.toArray++us) w R1) (hr:∀ en w2,R1 en w2→∃ v,en=.returned v∧GO P N ops rest ((d,v)::e) w2 Q):GO P N ops (i::rest) e w Q :=
  GO.call ho rfl rfl hN (fun a hs=>by
    have e1:=hs.evs hx
    have e3:args.map a.eval=vs.toArray:=by rw [← e1,← List.map_toArray,Array.toArray_toList]
    simp [execOp,resolve,Deferred.ofValue,hs.ev hcl,invoke,e3,Q0 hf hn hb]) hc hr
end
def evp (e:Env):List (Nat × Operand)→Option (List (Nat × Value))
 |[]=>some []
 |p::r=>(ev e p.2).bind fun v=>(evp e r).map ((p.1,v)::·)
theorem Sat.evp {N:Nat} {e:Env} {a:Act} (h:Sat N e a):∀ {xs:List (Nat × Operand)} {vs:List (Nat × Value)},evp e xs=some vs→xs.map (fun p=>(p.1,a.eval p.2))=vs
 |[],vs,hx=>by cases hx; rfl
 |x::r,vs,hx=>by
  unfold Go.Proofs.YtgkgmhkgahalgaaGreat.evp at hx
  cases hv:Go.Proofs.YtgkgmhkgahalgaaGreat.ev e x.2 with
  |none=>rw [hv] at hx; cases hx
  |some v =>
   rw [hv] at hx
   cases hr:Go.Proofs.YtgkgmhkgahalgaaGreat.evp e r with
   |none=>rw [hr] at hx; cases hx
   |some us =>
    rw [hr] at hx
    cases hx
    rw [List.map_cons,h.ev hv,h.evp hr]
theorem Sat.xU {N:Nat} {e:Env} {a:Act} (h:Sat N e a) {xs:Array (Nat × Operand)} {vs:List (Nat × Value)} (hx:Go.Proofs.YtgkgmhkgahalgaaGreat.evp e xs.toList=some vs):xs.map (fun p=>(p.1,a.eval p.2))=vs.toArray:=by
 rw [← h.evp hx,← List.map_toArray,Array.toArray_toList]
def naB (P:Program) (t:TypeId):Bool:=(match P.underlying t with | some (.struct _)=>false | some (.array _ _)=>false | some _=>true | none=>false) && ((P.info? t).map (·.size) == some 1)
def agB (P:Program) (t:TypeId) (n:Nat):Bool:=(match P.underlying t with | some (.struct _)=>true | some (.array _ _)=>true | _=>false) && ((P.info? t).map (·.size) == some n)
section
variable {P:Program} {w:World} {t:TypeId}
theorem O0 (h:naB P t=true):(isAgg t).run P w=.ok false w:=by
 unfold naB at h
 rw [Bool.and_eq_true] at h
 cases hu:P.underlying t with
 |none=>rw [hu] at h; simp at h
 |some d =>
  rw [hu] at h
  cases d<;>simp [isAgg,run_underlying hu] at h ⊢
theorem Vn {n:Nat} (h:agB P t n=true):(isAgg t).run P w=.ok true w:=by
 unfold agB at h
 rw [Bool.and_eq_true] at h
 cases hu:P.underlying t with
 |none=>rw [hu] at h; simp at h
 |some d =>
  rw [hu] at h
  cases d<;>simp [isAgg,run_underlying hu] at h ⊢
theorem Pv (h:naB P t=true):(sizeOf t).run P w=.ok 1 w:=by
 unfold naB at h
 rw [Bool.and_eq_true,beq_iff_eq] at h
 obtain ⟨i,hi,h1⟩:=Option.map_eq_some_iff.1 h.2
 simp [sizeOf,typeInfo,hi,h1]
theorem Oq {n:Nat} (h:agB P t n=true):(sizeOf t).run P w=.ok n w:=by
 unfold agB at h
 rw [Bool.and_eq_true,beq_iff_eq] at h
 obtain ⟨i,hi,h1⟩:=Option.map_eq_some_iff.1 h.2
 simp [sizeOf,typeInfo,hi,h1]
theorem Wq (h:naB P t=true) {ad:Addr} {v:Value} (hc:w.cell? ad=some v):(loadVar t ad).run P w=.ok v w:=by
 simp [loadVar,O0 h,hc]
theorem Qj {cs:List Value} (h:agB P t cs.length=true) {ad:Addr} (hc:∀ j v,cs[j]?=some v→w.cell? (ad.add j)=some v):(loadVar t ad).run P w=.ok (.agg cs.toArray) w:=by
 simp [loadVar,Vn h,Oq h,run_loadCells_list (P:=P) w ad cs hc]
end
theorem St.nU {w0 w:World} {L:List Dc} {b j:Nat} {t:TypeId} {cs:List Value} (h:St w0 w L) (hj:L[j]?=some (Box b t cs)) (o:Nat) (vs:List Value) :
  St w0 (w.setRow b (splice cs o vs).toArray) (L.set j (Box b t (splice cs o vs))) :=
 h.upd hj (by simp) rfl rfl rfl (fun q hq=>⟨q,fun k hk=>.inl hk,⟨hq.1,setRow_heap w b _ _ t (0,0) hq.2⟩,fun k hk hn=>setRow_other w b k _ (fun e=>hn (by rw [e]; exact hq.1))⟩)
theorem sD {P:Program} {t:TypeId} {w:World} {b o:Nat} {tb:TypeId} {cs vs:List Value} {v:Value} (hv:v.cells=vs.toArray) (hs:(sizeOf t).run P w=.ok vs.length w) (hb:w.heap[b]?=some (.cells cs.toArray tb (0,0))) (h1:∀ u∈vs,u.oneCell'=true) (hl:o+vs.length≤cs.length) :
  (storeVar t ⟨b,o,none⟩ v).run P w=.ok () (w.setRow b (splice cs o vs).toArray):=by
 have h2:=run_storeCells_at P b o tb vs 0 cs.toArray w hb (by simpa using hl) h1
 simp only [Nat.add_zero] at h2
 simp [storeVar,hs,hv,h2,splice]
theorem U8 {P:Program} {t:TypeId} {w:World} {b o:Nat} {tb:TypeId} {cur:Array Value} {vs:List Value} {v:Value} (hv:v.cells=vs.toArray) (hs:(sizeOf t).run P w=.ok vs.length w) (hb:w.heap[b]?=some (.cells cur tb (0,0))) (h1:∀ u∈vs,u.oneCell'=true) (hl:o+vs.length≤cur.size) :
  (storeVar t ⟨b,o,none⟩ v).run P w=.ok () (w.setRow b (splice cur.toList o vs).toArray):=by
 have h2:=run_storeCells_at P b o tb vs 0 cur w hb (by simpa using hl) h1
 simp only [Nat.add_zero] at h2
 simp [storeVar,hs,hv,h2,splice]
section
variable {α:Type} {T:Ty α} {ly:Nat→T.Lay}
theorem Xa:∀ {xs:List α} {i n f:Nat} {x y:α} {vs:List Value},xs[n]?=some x→f+vs.length≤T.sz→T.cells (ly (i+n)) y=splice (T.cells (ly (i+n)) x) f vs→rc T ly i (xs.set n y)=splice (rc T ly i xs) (n*T.sz+f) vs
 |x::r,i,0,f,_,y,vs,h,hj,hy=>by
  cases h
  have hy':T.cells (ly i) y=splice (T.cells (ly i) x) f vs:=hy
  rw [List.set_cons_zero,rc,rc,Nat.zero_mul,Nat.zero_add,hy']
  unfold splice
  have hl:=T.len (ly i) x
  rw [List.take_append_of_le_length (by omega),List.drop_append_of_le_length (by omega)]
  simp only [List.append_assoc]
 |z::r,i,n+1,f,x,y,vs,h,hj,hy=>by
  rw [List.set_cons_succ,rc,rc,Xa (i:=i+1) (x:=x) (by simpa using h) hj (by rw [show i+1+n=i+(n+1) by omega]; exact hy)]
  unfold splice
  have hl:=T.len (ly i) z
  have h1:(n+1)*T.sz+f=T.sz+(n*T.sz+f):=by rw [Nat.succ_mul]; omega
  rw [h1,List.take_append,List.drop_append,hl]
  have h2:(T.cells (ly i) z).take (T.sz+(n*T.sz+f))=T.cells (ly i) z:=List.take_of_length_le (by omega)
  have h3:(T.cells (ly i) z).drop (T.sz+(n*T.sz+f)+vs.length)=[]:=List.drop_of_length_le (by omega)
  rw [h2,h3,show T.sz+(n*T.sz+f) - T.sz=n*T.sz+f by omega,show T.sz+(n*T.sz+f)+vs.length - T.sz=n*T.sz+f+vs.length by omega]
  simp only [List.append_assoc,List.nil_append]
theorem St.pE {w0 w:World} {L:List Dc} {A:Option Addr} {c j n f:Nat} {t:TypeId} {xs:List α} {x y:α} {vs:List Value} (h:St w0 w L) (hj:L[j]?=some (Own T t A c ly xs)) (hfl:Flat T) (hx:xs[n]?=some x) (hf:f+vs.length≤T.sz) (hy:T.cells (ly n) y=splice (T.cells (ly n) x) f vs) :
  ∃ (g o:Nat) (cur:Array Value),ea A (n*T.sz+f)=⟨g,o,none⟩∧w.heap[g]?=some (.cells cur t (0,0))∧o+vs.length≤cur.size∧St w0 (w.setRow g (splice cur.toList o vs).toArray) (L.set j (Own T t A c ly (xs.set n y))):=by
 have hnl:=(List.getElem?_eq_some_iff.1 hx).1
 obtain ⟨q,_,ho⟩:=h.get hj
 obtain ⟨q1,q2,h1,h2,hd,hown,hb,hs⟩:=ho
 obtain ⟨g,o,cur,hA,hh,hnc,hcm,hsz,htk⟩:=hown.open (by omega)
 subst hA
 have hmul:(n+1)*T.sz≤xs.length*T.sz:=Nat.mul_le_mul_right _ hnl
 rw [Nat.succ_mul] at hmul
 have hput:=hown.put (k:=n*T.sz+f) (vs:=vs) hh (by rw [F7]; omega)
 refine ⟨g,o+(n*T.sz+f),cur,by rw [Tu,Jj],hh,hput.1,h.upd hj (by simp) rfl rfl rfl (fun q ho=>?_)⟩
 obtain ⟨q1,q2,h1,h2,hd,hown,hb,hs⟩:=ho
 have hg:q1 g:=hb g rfl
 refine ⟨q,fun k hk=>.inl hk,⟨q1,q2,h1,h2,hd,?_,by rw [List.length_set]; exact hb,Ir.flat hfl _ _ _⟩,fun k hk hn=>setRow_other w g k _ (fun e=>hn (by rw [e]; exact h1 g hg))⟩
 rw [List.length_set,Xa hx hf (by rw [Nat.zero_add]; exact hy)]
 exact hput.2
end
theorem Mm {α:Type} {T:Ty α} (l:T.Lay) (z:α):∀ (n i:Nat),rc T (fun _=>l) i (List.replicate n z)=(List.replicate n (T.cells l z)).flatten
 |0,_=>rfl
 |n+1,i=>by rw [List.replicate_succ,rc,List.replicate_succ,List.flatten_cons,Mm]
theorem Mj (z:List Value) (hz:0<z.length):∀ n,(madeCells z.toArray (n*z.length)).toList=(List.replicate n z).flatten:=by
 intro n
 apply List.ext_getElem?
 intro j
 simp only [madeCells,Array.toList_map,Array.toList_range,List.size_toArray]
 rw [List.getElem?_map]
 have hfl:∀ (m:Nat),((List.replicate m z).flatten).length=m*z.length:=fun m=>by simp
 by_cases hj:j<n*z.length
 ·rw [List.getElem?_range hj,Option.map_some]
  have key:∀ (m j:Nat),j<m*z.length→((List.replicate m z).flatten)[j]?=z[j%z.length]?:=by
   intro m
   induction m with
   |zero=>intro j hj; omega
   |succ m ih =>
    intro j hj
    rw [List.replicate_succ,List.flatten_cons]
    rcases Nat.lt_or_ge j z.length with h | h
    ·rw [List.getElem?_append_left h,Nat.mod_eq_of_lt h]
    ·rw [List.getElem?_append_right h,ih (j - z.length) (by rw [Nat.succ_mul] at hj; omega),← Nat.mod_eq_sub_mod h]
  rw [key n j hj]
  have hm:=Nat.mod_lt j hz
  simp [List.getElem?_eq_getElem hm,hm]
 ·rw [List.getElem?_eq_none (by simp; omega),List.getElem?_eq_none (by rw [hfl]; omega)]
  rfl
section
variable {α:Type} {T:Ty α} {P:Program} {f:FuncId} {N:Nat} {e:Env} {k:List Item} {w0 w:World} {L:List Dc} {R:Ending→World→Prop} {Q:Act→World→Prop} {ops:Array Oper} {i d:Nat} {rest:List Nat} {ty:TypeId} {ps:String} {af:Array Edge}
theorem GO.alloc {t:TypeId} {z:Value} {cs:List Value} (HS:St w0 w L) (ho:ops[i]?=some ⟨some d,.alloc t,ty,ps,af,none⟩) (hz:(P.info? t).map (·.zero)=some (some z)) (hc:z.cells=cs.toArray) (hN:Nat.blt d N=true)
  (g:∀ b w',St w0 w' (Box b t cs::L)→GO P N ops rest ((d,.pointer (some ⟨b,0,none⟩))::e) w' Q):GO P N ops (i::rest) e w Q:=by
 obtain ⟨inf,hi,hz'⟩:=Option.map_eq_some_iff.1 hz
 exact GO.val _ ho rfl rfl hN (fun a hs=>by simp [execOp,Instr.alloc,zeroValue,typeInfo,hi,hz',newVar,newRow,hc]) (g _ _ (HS.alloc cs t))
theorem GO.box {t:TypeId} {x:Operand} {v:Value} {cs:List Value} (HS:St w0 w L) (ho:ops[i]?=some ⟨some d,.box t x,ty,ps,af,none⟩) (hx:ev e x=some v) (hc:v.cells=cs.toArray) (hN:Nat.blt d N=true)
  (g:∀ b w',St w0 w' (Box b t cs::L)→GO P N ops rest ((d,.pointer (some ⟨b,0,none⟩))::e) w' Q):GO P N ops (i::rest) e w Q :=
 GO.val _ ho rfl rfl hN (fun a hs=>by simp [execOp,Instr.box,hs.ev hx,newVar,newRow,hc]) (g _ _ (HS.alloc cs t))
theorem GO.Je {t:TypeId} {parts:Array (Nat × Operand)} {vs:List (Nat × Value)} (v:Value) (ho:ops[i]?=some ⟨some d,.build t parts,ty,ps,af,none⟩) (hx:evp e parts.toList=some vs) (hr:∀ w,(Instr.build t vs.toArray).run P w=.ok v w) (hN:Nat.blt d N=true)
  (g:GO P N ops rest ((d,v)::e) w Q):GO P N ops (i::rest) e w Q :=
 GO.build v ho (fun a hs=>hs.xU hx) hr hN g
theorem GO.D8 {t el:TypeId} {n:Nat} {parts:Array (Nat × Operand)} {vs:List (Nat × Value)} (cs:List Value) (HS:St w0 w L) (ho:ops[i]?=some ⟨some d,.buildSlice t n parts,ty,ps,af,none⟩) (hx:evp e parts.toList=some vs)
  (hr:∀ w,(Instr.buildSlice t n vs.toArray).run P w=.ok (.slice (some ⟨w.heap.size,0,none⟩) n n) (w.alloc (.cells cs.toArray el))) (hN:Nat.blt d N=true)
  (g:∀ b w',St w0 w' (Box b el cs::L)→GO P N ops rest ((d,.slice (some ⟨b,0,none⟩) n n)::e) w' Q):GO P N ops (i::rest) e w Q :=
 GO.val _ ho rfl rfl hN (fun a hs=>by
  simp only [execOp]
  rw [show (Array.map (fun x=>match x with | (i,x)=>(i,a.eval x)) parts)=parts.map (fun p=>(p.1,a.eval p.2)) from rfl,hs.xU hx]
  simp [hr w]) (g _ _ (HS.alloc cs el))
theorem GO.rM {t tb:TypeId} {x:Operand} {b off j:Nat} {cs:List Value} {v:Value} (HS:St w0 w L) (hj:L[j]?=some (Box b tb cs)) (ho:ops[i]?=some ⟨some d,.load t x,ty,ps,af,none⟩) (hx:ev e x=some (.pointer (some ⟨b,off,none⟩))) (hv:cs[off]?=some v) (ht:naB P t=true) (hN:Nat.blt d N=true)
  (g:GO P N ops rest ((d,v)::e) w Q):GO P N ops (i::rest) e w Q :=
 GO.val _ ho rfl rfl hN (fun a hs=>by simp [execOp,Instr.loadAt,Instr.sureAddr,hs.ev hx,Wq ht (HS.Rh hj hv)]) g
theorem GO.Gc {t tb:TypeId} {x:Operand} {b off j:Nat} {cs:List Value} (vs:List Value) (HS:St w0 w L) (hj:L[j]?=some (Box b tb cs)) (ho:ops[i]?=some ⟨some d,.load t x,ty,ps,af,none⟩) (hx:ev e x=some (.pointer (some ⟨b,off,none⟩))) (hv:(cs.drop off).take vs.length=vs) (ht:agB P t vs.length=true) (hN:Nat.blt d N=true)
  (g:GO P N ops rest ((d,.agg vs.toArray)::e) w Q):GO P N ops (i::rest) e w Q :=
 GO.val _ ho rfl rfl hN (fun a hs=>by
  have hc:∀ j v,vs[j]?=some v→w.cell? ((⟨b,off,none⟩:Addr).add j)=some v:=fun m u hu=>by
   rw [Jj]
   refine HS.Rh hj ?_
   rw [← hv,List.getElem?_take] at hu
   split at hu
   ·rwa [List.getElem?_drop] at hu
   ·cases hu
  simp [execOp,Instr.loadAt,Instr.sureAddr,hs.ev hx,Qj ht hc]) g
theorem GO.C8 {t:TypeId} {x:Operand} {A:Option Addr} {c n o:Nat} {ly:Nat→T.Lay} {xs:List α} {x0:α} {v:Value} (HS:St w0 w L) (hr:Bv w0 L T A c ly xs) (ho:ops[i]?=some ⟨some d,.load t x,ty,ps,af,none⟩) (hx:ev e x=some (.pointer (some (ea A (n*T.sz+o))))) (hn:xs[n]?=some x0) (hof:Nat.blt o T.sz=true) (hv:(T.cells (ly n) x0)[o]?=some v) (ht:naB P t=true) (hN:Nat.blt d N=true)
  (g:GO P N ops rest ((d,v)::e) w Q):GO P N ops (i::rest) e w Q :=
 GO.val _ ho rfl rfl hN (fun a hs=>by
  have hc:=(hr w HS).cell hn (Nat.le_of_ble_eq_true hof) hv
  simp [execOp,Instr.loadAt,Instr.sureAddr,hs.ev hx,Wq ht hc]) g
theorem GO.Kk {t:TypeId} {x:Operand} {A:Option Addr} {c n:Nat} {ly:Nat→T.Lay} {xs:List α} {x0:α} (HS:St w0 w L) (hr:Bv w0 L T A c ly xs) (ho:ops[i]?=some ⟨some d,.load t x,ty,ps,af,none⟩) (hx:ev e x=some (.pointer (some (ea A (n*T.sz))))) (hn:xs[n]?=some x0) (ht:agB P t T.sz=true) (hN:Nat.blt d N=true)
  (g:GO P N ops rest ((d,.agg (T.cells (ly n) x0).toArray)::e) w Q):GO P N ops (i::rest) e w Q :=
 GO.val _ ho rfl rfl hN (fun a hs=>by
  have hc:∀ j v,(T.cells (ly n) x0)[j]?=some v→w.cell? ((ea A (n*T.sz)).add j)=some v:=fun j v hv=>by
   have hj:=(List.getElem?_eq_some_iff.1 hv).1
   rw [T.len] at hj
   rw [aV]
   exact (hr w HS).cell hn hj hv
  simp [execOp,Instr.loadAt,Instr.sureAddr,hs.ev hx,Qj (by rw [T.len]; exact ht) hc]) g
theorem GO.K7 {t tb:TypeId} {x y:Operand} {b off j:Nat} {cs vs:List Value} {v:Value} (cs':List Value) (HS:St w0 w L) (hj:L[j]?=some (Box b tb cs)) (ho:ops[i]?=some ⟨none,.store t x y,ty,ps,af,none⟩) (hx:ev e x=some (.pointer (some ⟨b,off,none⟩))) (hy:ev e y=some v) (hv:v.cells=vs.toArray)
  (ht:(naB P t && vs.length == 1 || agB P t vs.length)=true) (h1:vs.all (·.oneCell')=true) (hl:Nat.ble (off+vs.length) cs.length=true) (hc:splice cs off vs=cs')
  (g:∀ w',St w0 w' (L.set j (Box b tb cs'))→GO P N ops rest e w' Q):GO P N ops (i::rest) e w Q:=by
 subst hc
 have hsz:(sizeOf t).run P w=.ok vs.length w:=by
  rw [Bool.or_eq_true,Bool.and_eq_true,beq_iff_eq] at ht
  rcases ht with ht | ht
  ·rw [ht.2]; exact Pv ht.1
  ·exact Oq ht
 exact GO.Rf ho rfl rfl (fun a hs=>by simp [execOp,Instr.storeAt,Instr.sureAddr,hs.ev hx,hs.ev hy,sD hv hsz (HS.box hj) (fun u hu=>List.all_eq_true.1 h1 u hu) (Nat.le_of_ble_eq_true hl)]) (g _ (HS.nU hj off vs))
theorem GO.Hl {t tb:TypeId} {x y:Operand} {A:Option Addr} {c j n o:Nat} {ly:Nat→T.Lay} {xs:List α} {x0:α} {vs:List Value} {v:Value} (y0:α) (HS:St w0 w L) (hj:L[j]?=some (Own T tb A c ly xs)) (hfl:Flat T) (ho:ops[i]?=some ⟨none,.store t x y,ty,ps,af,none⟩) (hx:ev e x=some (.pointer (some (ea A (n*T.sz+o))))) (hy:ev e y=some v) (hv:v.cells=vs.toArray)
  (ht:(naB P t && vs.length == 1 || agB P t vs.length)=true) (h1:vs.all (·.oneCell')=true) (hn:xs[n]?=some x0) (hl:Nat.ble (o+vs.length) T.sz=true) (hc:T.cells (ly n) y0=splice (T.cells (ly n) x0) o vs)
  (g:∀ w',St w0 w' (L.set j (Own T tb A c ly (xs.set n y0)))→GO P N ops rest e w' Q):GO P N ops (i::rest) e w Q:=by
 have hsz:(sizeOf t).run P w=.ok vs.length w:=by
  rw [Bool.or_eq_true,Bool.and_eq_true,beq_iff_eq] at ht
  rcases ht with ht | ht
  ·rw [ht.2]; exact Pv ht.1
  ·exact Oq ht
 obtain ⟨gb,og,cur,hea,hh,hle,hst⟩:=HS.pE hj hfl hn (Nat.le_of_ble_eq_true hl) hc
 rw [hea] at hx
 exact GO.Rf ho rfl rfl (fun a hs=>by simp [execOp,Instr.storeAt,Instr.sureAddr,hs.ev hx,hs.ev hy,U8 hv hsz hh (fun u hu=>List.all_eq_true.1 h1 u hu) hle]) (g _ hst)
theorem GO.make {t el:TypeId} {x y:Operand} {kl kc:IntKind} {m:Int} {z:Value} {bytes:Nat} (z0:α) (l:T.Lay) (HS:St w0 w L) (hfl:Flat T) (ho:ops[i]?=some ⟨some d,.makeSlice t x y,ty,ps,af,none⟩) (hx:ev e x=some (.int kl m)) (hy:ev e y=some (.int kc m)) (ht:P.underlying t=some (.slice el)) (hinf:(P.info? el).map (fun i=>(i.zero,i.size,i.bytes))=some (some z,T.sz,bytes)) (hz:z.cells=(T.cells l z0).toArray) (hs0:Nat.blt 0 T.sz=true) (hb0:Nat.blt 0 bytes=true)
  (h0:0≤m) (hm:m.toNat*bytes≤281474976710656) (hN:Nat.blt d N=true)
  (g:∀ b w',St w0 w' (Own T el (some ⟨b,0,none⟩) m.toNat (fun _=>l) (List.replicate m.toNat z0)::L)→GO P N ops rest ((d,.slice (some ⟨b,0,none⟩) (List.replicate m.toNat z0).length m.toNat)::e) w' Q):GO P N ops (i::rest) e w Q:=by
 simp only [List.length_replicate] at g
 obtain ⟨inf,hi,hzz⟩:=Option.map_eq_some_iff.1 hinf
 simp only [Prod.mk.injEq] at hzz
 obtain ⟨hz0,hz1,hz2⟩:=hzz
 have hs0':0<T.sz:=Nat.le_of_ble_eq_true hs0
 have hb0':0<bytes:=Nat.le_of_ble_eq_true hb0
 have hmm:m.toNat≤281474976710656:=Nat.le_trans (Nat.le_mul_of_pos_right _ hb0') hm
 have hbm:(inf.bytes:Int)*m≤281474976710656:=by
  have h3:((m.toNat*bytes:Nat):Int)≤281474976710656:=by omega
  rw [Int.natCast_mul,Int.toNat_of_nonneg h0,Int.mul_comm] at h3
  rw [hz2]
  exact h3
 have hrun:=run_make (P:=P) w t el inf z ht hi hz0 kl kc m m h0 (Int.le_refl _) hbm (by omega)
 refine GO.val (w':=w.alloc (.cells (madeCells z.cells (m.toNat*inf.size)) el)) _ ho rfl rfl hN (fun a hs=>by simp [execOp,hs.ev hx,hs.ev hy,hrun]) (g w.heap.size _ ?_)
 rw [hz1,hz]
 have hlen:(T.cells l z0).length=T.sz:=T.len l z0
 have hcl:(madeCells (T.cells l z0).toArray (m.toNat*T.sz)).toList=rc T (fun _=>l) 0 (List.replicate m.toNat z0):=by
  rw [Mm,← hlen]
  exact Mj _ (by rw [hlen]; exact hs0') _
 have h1:=(HS.alloc (rc T (fun _=>l) 0 (List.replicate m.toNat z0)) el).Ib (j:=0) rfl hfl (fun _=>l) (List.replicate m.toNat z0) rfl (by simp; omega)
 rw [← hcl] at h1
 simpa using h1
theorem Rz {P:Program} (w:World) (t ty e:TypeId) (i:TypeInfo) (ht:P.underlying t=some (.slice e)) (hi:P.info? e=some i) (g o n cap:Nat) (cur:Array Value) (tb:TypeId) (hg:w.heap[g]?=some (.cells cur tb (0,0)))
  (a:Addr) (m c:Nat) (news:List Value) (hl:news.length=m*i.size) (hnews:∀ j u,news[j]?=some u→w.cell? (a.add j)=some u) (h1:∀ u∈news,u.oneCell'=true) (hroom:n+m≤cap) (hfit:o+n*i.size+news.length≤cur.size) :
  (Builtin.append_ #[t,t] ty #[.slice (some ⟨g,o,none⟩) n cap,.slice (some a) m c]).run P w=.ok (.slice (some ⟨g,o,none⟩) (n+m) cap) (w.setRow g (splice cur.toList (o+n*i.size) news).toArray):=by
 have hld:=run_firstCells_some (P:=P) w i.size m a m c news hl hnews
 have hsto:=run_storeCells_at P g (o+n*i.size) tb news 0 cur w hg (by simpa using hfit) h1
 simp only [Nat.add_zero] at hsto
 simp [Builtin.append_,run_underlying ht,sizeOf,typeInfo,hi,Builtin.lenOf,hroom,hld,Jj,hsto,splice]
theorem cB {w w':World} {row:Option Nat} (h:w.grownBy w' none):w.grownBy w' row:=⟨h.os,h.tape,h.output,h.size,fun k hk _=>h.block k hk (by simp)⟩
theorem M9 {P:Program} (w:World) (t ty e:TypeId) (i:TypeInfo) (z:Value) (size bytes:Nat) (ht:P.underlying t=some (.slice e)) (hi:P.info? e=some i) (hz:i.zero=some z)
  (hsize:i.size=size) (hby:i.bytes=bytes) (hzs:z.cells.size=size) (hsz:0<size) (v:Value) (n:Nat) (xs:List Value) (hown:OR w e size v n xs)
  (a:Addr) (m c:Nat) (news:List Value) (hl:news.length=m*size) (hnews:∀ j u,news[j]?=some u→w.cell? (a.add j)=some u) (h1:∀ u∈news,u.oneCell'=true)
  (h63:n+m≤maxLen) (hbytes:(n+m)*bytes≤140737488355328) :
  ∃ v' w',(Builtin.append_ #[t,t] ty #[v,.slice (some a) m c]).run P w=.ok v' w'∧OR w' e size v' (n+m) (xs++news)∧w.grownBy w' v.ownBlock∧∀ k,v'.ownBlock=some k→v.ownBlock=some k∨w.heap.size≤k:=by
 have hxs:=hown.1
 rcases hown.2 with ⟨rfl,rfl⟩|⟨g,o,cap,cur,rfl,hh,hnc,hcm,hcs,htk⟩
 ·have hx:xs=[]:=List.eq_nil_of_length_eq_zero (by simpa using hxs)
  subst hx
  obtain ⟨v',w',hr,ho,hg,_,hat⟩:=run_append_own_at (P:=P) w 0 t ty e i z size bytes ht hi hz hsize hby hzs hsz _ 0 [] (World.ownsRow_nil _ _ _ _) a m c news hl hnews h1 h63 hbytes (Nat.zero_le _)
  refine ⟨v',w',hr,OR.of ho,hg,fun k hk=>?_⟩
  rcases hat with e | e
  ·exact .inl (by rw [← e]; exact hk)
  ·rw [e] at hk; exact .inr (Nat.le_of_eq (Option.some.inj hk))
 ·by_cases hroom:n+m≤cap
  ·have hmul:(n+m)*size≤cap*size:=Nat.mul_le_mul_right _ hroom
   rw [Nat.add_mul] at hmul
   have hcl:cur.toList.length=cur.size:=Array.length_toList
   have hfit:o+n*size+news.length≤cur.toList.length:=by omega
   have hr:=Rz (P:=P) w t ty e i ht hi g o n cap cur e hh a m c news (by rw [hsize]; exact hl) hnews h1 hroom (by rw [hsize]; omega)
   rw [hsize] at hr
   refine ⟨_,_,hr,⟨by rw [List.length_append,hxs,hl,Nat.add_mul],.inr ⟨g,o,cap,_,rfl,setRow_heap w g cur _ e (0,0) hh,hroom,hcm,?_,?_⟩⟩,⟨rfl,rfl,rfl,by simp,fun k _ hk=>setRow_other w g k _ (fun e=>hk (by simp [Value.ownBlock,e]))⟩,fun k hk=>.inl (by simpa [Value.ownBlock] using hk)⟩
   ·rw [List.size_toArray,Nz hfit,Array.length_toList]; exact hcs
   ·show ((splice cur.toList (o+n*size) news).drop o).take ((n+m)*size)=_
    have hdl:n*size≤(cur.toList.drop o).length:=by rw [List.length_drop]; omega
    rw [Sv (by omega),← htk]
    unfold splice
    exact List.take_left' (by rw [List.length_append,List.length_take,hl,Nat.add_mul]; omega)
  ·have hold:∀ j u,xs[j]?=some u→w.cell? ((⟨g,o,none⟩:Addr).add j)=some u:=by
    intro j u hu
    rcases Nat.eq_zero_or_pos n with h0 | h0
    ·subst h0
     have hx:xs=[]:=List.eq_nil_of_length_eq_zero (by simpa using hxs)
     subst hx
     simp at hu
    ·exact hown.cells h0 j u hu
   obtain ⟨v',w',hr,ho,hg⟩:=run_append_arg_grows (P:=P) w t ty e i z size bytes ht hi hz hsize hby hzs hsz ⟨g,o,none⟩ n cap xs hxs hold a m c news hl hnews (by omega) h63 hbytes
   exact ⟨v',w',hr,OR.of ho,cB hg,fun k hk=>.inr (ho.lt k hk).1⟩
theorem St.appended {el:TypeId} {A A':Option Addr} {c c' j n':Nat} {ly:Nat→T.Lay} {xs zs:List α} {w':World} (HS:St w0 w L) (hj:L[j]?=some (Own T el A c ly xs)) (hfl:Flat T) (hn:n'=zs.length) (hown':OR w' el T.sz (.slice A' n' c') n' (rc T ly 0 zs))
  (hg:w.grownBy w' (Value.slice A xs.length c).ownBlock) (hat:∀ k,(Value.slice A' n' c').ownBlock=some k→(Value.slice A xs.length c).ownBlock=some k∨w.heap.size≤k):St w0 w' (L.set j (Own T el A' c' ly zs)):=by
 subst hn
 refine HS.upd hj hg.size hg.os hg.tape hg.output (fun q ho2=>?_)
 obtain ⟨q1,q2,h1,h2,hd,hown2,hb,hs⟩:=ho2
 have hlt:∀ b',(Value.slice A' zs.length c').ownBlock=some b'→b'<w'.heap.size:=fun b' hb'=>hown'.lt b' hb'
 refine ⟨fun k'=>q k'∨(w.heap.size≤k'∧k'<w'.heap.size),fun k' hk=>hk,⟨fun k'=>q1 k'∨(w.heap.size≤k'∧k'<w'.heap.size),fun _=>False,fun k' hk=>hk.imp (h1 k') id,fun k' hk=>hk.elim,fun _ _ hk=>hk,hown',fun k' hk=>?_,Ir.flat hfl _ _ _⟩,fun k' hk hn=>hg.block k' hk (fun e=>hn ?_)⟩
 ·rcases hat k' hk with e | e
  ·exact .inl (hb k' e)
  ·exact .inr ⟨e,hlt k' hk⟩
 ·exact h1 k' (hb k' e.symm)
theorem GO.app1 {t el tb:TypeId} {x y:Operand} {A:Option Addr} {c j jb b:Nat} {ly:Nat→T.Lay} {xs:List α} {z:Value} {bytes:Nat} (y0:α) (HS:St w0 w L) (hj:L[j]?=some (Own T el A c ly xs)) (hjb:L[jb]?=some (Box b tb (T.cells (ly xs.length) y0))) (hfl:Flat T) (ho:ops[i]?=some ⟨some d,.call { callee:=.builtin .append,args:=#[x,y],argTypes:=#[t,t] },ty,ps,af,none⟩) (hx:ev e x=some (.slice A xs.length c)) (hy:ev e y=some (.slice (some ⟨b,0,none⟩) 1 1))
  (ht:P.underlying t=some (.slice el)) (hinf:(P.info? el).map (fun i=>(i.zero,i.size,i.bytes))=some (some z,T.sz,bytes)) (hz:(z.cells.size == T.sz)=true) (hs0:Nat.blt 0 T.sz=true) (hb0:Nat.blt 0 bytes=true) (hm:(xs.length+1)*bytes≤140737488355328) (hN:Nat.blt d N=true)
  (g:∀ A' c' w',St w0 w' (L.set j (Own T el A' c' ly (xs++[y0])))→GO P N ops rest ((d,.slice A' (xs++[y0]).length c')::e) w' Q):GO P N ops (i::rest) e w Q:=by
 obtain ⟨inf,hi,hzz⟩:=Option.map_eq_some_iff.1 hinf
 simp only [Prod.mk.injEq] at hzz
 obtain ⟨hz0,hz1,hz2⟩:=hzz
 have hs0':0<T.sz:=Nat.le_of_ble_eq_true hs0
 have hb0':0<bytes:=Nat.le_of_ble_eq_true hb0
 have hmm:xs.length+1≤140737488355328:=Nat.le_trans (Nat.le_mul_of_pos_right _ hb0') hm
 obtain ⟨q,_,ho1⟩:=HS.get hj
 obtain ⟨q1,q2,h1,h2,hd,hown,hb,hs⟩:=ho1
 have hcells:∀ m u,(T.cells (ly xs.length) y0)[m]?=some u→w.cell? ((⟨b,0,none⟩:Addr).add m)=some u:=fun m u hu=>by
  rw [Jj,Nat.zero_add]
  exact HS.Rh hjb hu
 obtain ⟨v',w',hr,hown',hg,hat⟩:=M9 (P:=P) w t ty el inf z T.sz bytes ht hi hz0 hz1 hz2 (by simpa using hz) hs0' _ _ _ hown ⟨b,0,none⟩ 1 1 (T.cells (ly xs.length) y0) (by rw [T.len,Nat.one_mul]) hcells (fun u hu=>T.one _ _ u hu) (by simp only [maxLen]; omega) hm
 obtain ⟨A',c',rfl⟩:=hown'.slice
 have hlen:xs.length+1=(xs++[y0]).length:=by simp
 have hrc:rc T ly 0 xs++T.cells (ly xs.length) y0=rc T ly 0 (xs++[y0]):=by rw [Ji]; simp [rc]
 rw [hrc,hlen] at hown'
 rw [hlen] at hr
 refine GO.val _ ho rfl rfl hN (fun a hs=>by simp only [execOp,resolve,invoke,builtin,Sem.run_bind,Sem.run_pure,Result.andThen_ok,List.map_toArray,List.map_cons,List.map_nil,hs.ev hx,hs.ev hy,hr]) (g A' c' w' ?_)
 exact HS.appended hj hfl rfl hown' hg (by rw [hlen] at hat; exact hat)
end
end Go.Proofs.YtgkgmhkgahalgaaGreat
