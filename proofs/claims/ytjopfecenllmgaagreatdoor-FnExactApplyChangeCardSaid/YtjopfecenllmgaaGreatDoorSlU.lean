/-
  Short words for the printed walks.
  A row of elements with memory of their own, seen as a row of numbers: the elements stay, the row names them.
  A row into which an element is put: the rows' cells alone, and the rules of slices.Insert.
  Maps whose keys and values are any that are told as plain values; arrays under an index that is not told.
  Regions of open order, told shortly: what each operation's slot holds stands in one list; an operation names the operations it reads.
-/
import Derived.Test.YtjopfecenllmgaaGreatDoorSlN
import Derived.Lib.Overlaps
set_option linter.unusedSectionVars false
set_option linter.unusedSimpArgs false
set_option linter.unusedVariables false
namespace Go.Proofs.YtjopfecenllmgaaGreatDoor
open Go.RowKit
theorem Z {α:Sort _} {a:α}:a=a:=rfl
theorem tT {p:Prop} [h:Decidable p] (c:p):decide p=true:=decide_eq_true c
theorem tF {p:Prop} [h:Decidable p] (c:¬ p):decide p=false:=decide_eq_false c
theorem nT {p:Prop} [h:Decidable p] (c:p):(!decide p)=false:=congrArg Bool.not (decide_eq_true c)
theorem nF {p:Prop} [h:Decidable p] (c:¬ p):(!decide p)=true:=congrArg Bool.not (decide_eq_false c)
theorem sI {α:Type _} {a b:α} (h:some a=some b):a=b:=Option.some.inj h
theorem bI {α β:Type _} {o:Option α} {f:α→Option β} {b:β} (h:o.bind f=some b):∃ a,o=some a∧f a=some b:=Option.bind_eq_some_iff.1 h
abbrev I (x:Int):Value:=.int .i64 x
abbrev I4 (w0:World) (L:List Cn) (r1:Int) (en:Ending) (w:World):Prop:=en=.returned (.int .i64 r1)∧St w0 w (L)
abbrev Ga (w0:World) (L:List Cn) (r1:Bool) (en:Ending) (w:World):Prop:=en=.returned (.bool r1)∧St w0 w (L)
section
variable {P:Program} {f:FuncId} {N:Nat} {e:Env} {k:List Item} {w0 w:World} {L:List Cn} {R:Ending→World→Prop} {Q:Act→World→Prop} {ops:Array Oper} {i d:Nat} {rest:List Nat} {ty:TypeId} {ps:String} {af:Array Edge}
theorem oF {o:Oper} {d j t:Nat} {b:Bool} (h:(ops[i]?,o.guard,Ro ops j,look e t,o.dst,Nat.blt d N)=(some o,some (j,b),some t,some (.bool (!b)),some d,true)) (g:GO P N ops rest ((d,undef)::e) w Q):GO P N ops (i::rest) e w Q:=by
  simp only [Prod.mk.injEq] at h
  exact GO.off h.1 h.2.1 h.2.2.1 h.2.2.2.1 h.2.2.2.2.1 h.2.2.2.2.2 g
theorem oN {o:Oper} {j t:Nat} {b:Bool} (h:(ops[i]?,o.guard,Ro ops j,look e t)=(some o,some (j,b),some t,some (.bool b))) (g:GO P N #[{ o with guard:=none }] [0] e w (fun a' w'=>wpOps P ops (fun en a w=>en=.normal∧Q a w) rest a' w')):GO P N ops (i::rest) e w Q:=by
  simp only [Prod.mk.injEq] at h
  exact GO.on h.1 h.2.1 h.2.2.1 h.2.2.2 g
theorem mV {x:Operand} {v:Value} (h:(ops[i]?,ev e x,Nat.blt d N)=(some ⟨some d,.move x,ty,ps,af,none⟩,some v,true)) (g:GO P N ops rest ((d,v)::e) w Q):GO P N ops (i::rest) e w Q:=by
  simp only [Prod.mk.injEq] at h
  exact GO.move h.1 h.2.1 h.2.2 g
theorem aS {x:Operand} {v:Value} (h:(ops[i]?,ev e x,Nat.blt d N)=(some ⟨some d,.assign x,ty,ps,af,none⟩,some v,true)) (g:GO P N ops rest ((d,v)::e) w Q):GO P N ops (i::rest) e w Q:=by
  simp only [Prod.mk.injEq] at h
  exact GO.assign h.1 h.2.1 h.2.2 g
theorem fL {s:TypeId} {x:Operand} {fi off:Nat} {ad:Addr} (b o:Nat) (hr:∀ (ad:Addr) (w:World),(Instr.fieldAt s (.pointer (some ad)) fi).run P w=.ok (.pointer (some (ad.add off))) w) (h:(ops[i]?,ev e x,ad.add off,Nat.blt d N)=(some ⟨some d,.fieldAddr s x fi,ty,ps,af,none⟩,some (.pointer (some ad)),⟨b,o,none⟩,true)) (g:GO P N ops rest ((d,.pointer (some ⟨b,o,none⟩))::e) w Q):GO P N ops (i::rest) e w Q:=by
  simp only [Prod.mk.injEq] at h
  exact GO.fld ⟨b,o,none⟩ h.1 h.2.1 hr h.2.2.1 h.2.2.2 g
theorem lB {t tb:TypeId} {x:Operand} {b off:Nat} {cs:List Value} {v:Value} (j:Nat) (HS:St w0 w L) (h:(L[j]?,ops[i]?,ev e x,cs[off]?)=(some (Box b tb cs),some ⟨some d,.load t x,ty,ps,af,none⟩,some (.pointer (some ⟨b,off,none⟩)),some v)) (ht:naB P t=true) (hN:Nat.blt d N=true) (g:GO P N ops rest ((d,v)::e) w Q):GO P N ops (i::rest) e w Q:=by
  simp only [Prod.mk.injEq] at h
  exact GO.uU HS h.1 h.2.1 h.2.2.1 h.2.2.2 ht hN g
theorem lW {t tb:TypeId} {x:Operand} {b:Nat} {cs:List Value} (j:Nat) (HS:St w0 w L) (h:(L[j]?,ops[i]?,ev e x,Nat.blt d N)=(some (Box b tb cs),some ⟨some d,.load t x,ty,ps,af,none⟩,some (.pointer (some ⟨b,0,none⟩)),true)) (ht:agB P t cs.length=true) (g:GO P N ops rest ((d,.agg cs.toArray)::e) w Q):GO P N ops (i::rest) e w Q:=by
  simp only [Prod.mk.injEq] at h
  exact GO.Du cs HS h.1 h.2.1 h.2.2.1 (by simp) ht h.2.2.2 g
theorem sW {t tb:TypeId} {x y:Operand} {b:Nat} {cs vs:List Value} (j:Nat) (HS:St w0 w L) (h:(L[j]?,ops[i]?,ev e x,ev e y)=(some (Box b tb cs),some ⟨none,.store t x y,ty,ps,af,none⟩,some (.pointer (some ⟨b,0,none⟩)),some (.agg vs.toArray))) (ht:agB P t vs.length=true) (h1:(vs.all (·.oneCell'),Nat.beq cs.length vs.length)=(true,true)) (g:∀ w',St w0 w' (L.set j (Box b tb vs))→GO P N ops rest e w' Q):GO P N ops (i::rest) e w Q:=by
  simp only [Prod.mk.injEq] at h h1
  have hl:=Nat.eq_of_beq_eq_true h1.2
  refine GO.H9 vs HS h.1 h.2.1 h.2.2.1 h.2.2.2 rfl (htA ht) h1.1 (by rw [Nat.zero_add,hl]; exact Nat.ble_self_eq_true _) ?_ g
  unfold splice
  rw [List.take_zero,List.nil_append,Nat.zero_add,← hl,List.drop_length,List.append_nil]
theorem bA {t:TypeId} {x:Operand} {cs:List Value} (HS:St w0 w L) (h:(ops[i]?,ev e x,Nat.blt d N)=(some ⟨some d,.box t x,ty,ps,af,none⟩,some (.agg cs.toArray),true)) (g:∀ b w',St w0 w' (Box b t cs::L)→GO P N ops rest ((d,.pointer (some ⟨b,0,none⟩))::e) w' Q):GO P N ops (i::rest) e w Q:=by
  simp only [Prod.mk.injEq] at h
  exact GO.box HS h.1 h.2.1 rfl h.2.2 g
abbrev FK (P : Program) (h : FuncId) (f : Func) : Prop := P.funcs[h]? = some f ∧ (f.name == "runtime.NumGoroutine") = false ∧ f.body.isNone = false
theorem fJ {h:FuncId} {fn:Func} {args:Array Operand} {tys:Array TypeId} {vs:List Value} {R1:Ending→World→Prop} (k:FK P h fn) (hh:(ops[i]?,evs e args.toList,Nat.blt d N)=(some ⟨some d,.call { callee:=.value (.func h),args:=args,argTypes:=tys },ty,ps,af,none⟩,some vs,true)) (hc:Calls P h vs.toArray w R1) (hr:∀ en w2,R1 en w2→∃ v,en=.returned v∧GO P N ops rest ((d,v)::e) w2 Q):GO P N ops (i::rest) e w Q:=by
  simp only [Prod.mk.injEq] at hh
  exact GO.fn hh.1 k.1 k.2.1 k.2.2 hh.2.1 hh.2.2 hc hr
theorem cG {fn:Func} {c:Code} {args:List Value} (hf:P.funcs[f]?=some fn) (h:(fn.body,fn.ntmps,Nat.ble args.length N)=(some c,N,true)) (g:G P f N (start args 0) [.code c] w R):Calls P f args.toArray w R:=by
  simp only [Prod.mk.injEq] at h
  exact Calls.Abj hf h.1 h.2.1 h.2.2 g
theorem kN (t:Nat) {x b:Bool} {l:List Nat} (h:look e t=some (.bool x)) (hx:x=b) (g:GO P N ops l ((t,.bool b)::e) w Q):GO P N ops l e w Q:=GO.known h hx g
end
theorem GO.join {P:Program} {N:Nat} {e:Env} {w:World} {Q:Act→World→Prop} {ops:Array Oper} {l:List Nat} (n d:Nat) (v:Value) (k:∀ Q,GO P N ops (l.drop n) ((d,v)::e) w Q→GO P N ops l e w Q) (g:GO P N ops (l.drop n) ((d,v)::e) w Q):GO P N ops l e w Q:=k Q g
theorem orT {a b:Bool} (h:a=true):true=(a || b):=by rw [h]; rfl
theorem orF {a b:Bool} (h:a=false):b=(a || b):=by rw [h]; rfl
abbrev bK:=@GO.back
abbrev rG:=@G.region
abbrev nL:=@GO.nil
abbrev rN:=@G.run
abbrev pS:=@GO.ps
abbrev iE:=@nV
abbrev iN:=@oG
abbrev rD:=@Av.drop
abbrev rT:=@G.Abq
abbrev yB:=@G.Abh
abbrev nB:=@G.noB
abbrev lS:=@GO.Abs
abbrev qL:=@GX.l0
abbrev sQ:=@G.seq
abbrev lR:=@Nat.le_refl
theorem nJ {c:Prop} [Decidable c] {α:Type _} {a b r:Option α} (h:(if c then a else b)=r):(¬ c∧b=r)∨(c∧a=r):=by
  by_cases hc:c
  · exact .inr ⟨hc,by rw [if_pos hc] at h; exact h⟩
  · exact .inl ⟨hc,by rw [if_neg hc] at h; exact h⟩
abbrev iS:=@nJ
theorem tv:True:=trivial
def vK {α:Type} (T:Ty α) (ly:Nat→T.Lay) (xs:List α) (z:α) (l0:T.Lay):Option Nat→List Value
  | none=>T.cells l0 z
  | some k=>T.cells (ly k) (xs.getD k z)
theorem pF {α:Type} (T:Ty α) (ly:Nat→T.Lay) (xs:List α) (z:α) (l0:T.Lay) (o:Option Nat):(vK T ly xs z l0 o).length=T.sz:=by cases o <;> exact T.len _ _
theorem lX {α:Type} (T:Ty α) (ly:Nat→T.Lay) (xs:List α) (z:α) (l0:T.Lay) (o:Option Nat) (u:Value) (h:u ∈ vK T ly xs z l0 o):u.oneCell'=true:=by cases o <;> exact T.one _ _ _ h
abbrev TIx {α:Type} (T:Ty α) (ly:Nat→T.Lay) (xs:List α) (z:α) (l0:T.Lay):Ty (Option Nat):=Ty.flat T.sz (fun o=>vK T ly xs z l0 o) (pF T ly xs z l0) (lX T ly xs z l0)
def Q7 {α:Type} (T:Ty α) (ly:Nat→T.Lay) (xs:List α):Cn where
  P:=fun w q=>G9 T w ly 0 xs q
  loc:=fun h hk=>h.loc hk
  more:=fun h hk=>h.more hk
section
variable {α:Type} {T:Ty α} {t:TypeId} {w0 w:World} {L:List Cn} {A A':Option Addr} {c c' m:Nat} {ly ly':Nat→T.Lay} {xs r:List α} {z:α} {l0:T.Lay} {is:List (Option Nat)}
theorem sS:∀ (ys:List α) (i m:Nat),(∀ k,k<ys.length→xs.getD (i+k) z=ys.getD k z)→rc T ly i ys=rc (TIx T ly xs z l0) (fun _=>()) m ((List.range' i ys.length).map some)
  | [],_,_,_=>rfl
  | y::r,i,m,h=>by
    have h0:=h 0 (by simp)
    rw [Nat.add_zero,List.getD_cons_zero] at h0
    have ih:=sS r (i+1) (m+1) (fun k hk=>by
      have:=h (k+1) (by simp only [List.length_cons]; omega)
      rw [List.getD_cons_succ] at this
      rw [show i+1+k=i+(k+1) by omega]
      exact this)
    rw [List.length_cons,List.range'_succ,List.map_cons,rc,rc,ih]
    show T.cells (ly i) y++_=T.cells (ly i) (xs.getD i z)++_
    rw [h0]
theorem St.mQ (z:α) (l0:T.Lay) (HS:St w0 w (Own T t A c ly xs::L)):St w0 w (Own (TIx T ly xs z l0) t A c (fun _=>()) (allRows xs.length)::Q7 T ly xs::L):=by
  obtain ⟨hbel,q,r,hq,hr,hqr,⟨q1,q2,h1,h2,hd,hown,hb,hs⟩,hL⟩:=HS
  refine ⟨hbel,q1,fun k=>q2 k∨r k,fun k hk=>hq k (h1 k hk),fun k hk=>hk.elim (fun h=>hq k (h2 k h)) (hr k),fun k hk hn=>hn.elim (hd k hk) (fun h=>hqr k (h1 k hk) h),⟨q1,fun _=>False,fun _ h=>h,fun _ h=>h.elim,fun _ _ h=>h,?_,?_,G9.flat Bw _ _ _⟩,q2,r,fun k hk=>.inl hk,fun k hk=>.inr hk,fun k hk hn=>hqr k (h2 k hk) hn,hs,hL⟩
  · have he:=sS (ly:=ly) (xs:=xs) (z:=z) (l0:=l0) xs 0 0 (fun k _=>by rw [Nat.zero_add])
    rw [I6]
    unfold allRows
    rw [List.range_eq_range',← he]
    exact hown
  · rw [I6]; exact hb
def Ii {α:Type} (z:α) (xs:List α) (is:List (Option Nat)):Option (List α) :=
  if is=(is.map (·.getD 0)).map some∧(is.map (·.getD 0)).Pairwise (·<·)∧∀ k,k ∈ is.map (·.getD 0)→k<xs.length then some ((is.map (·.getD 0)).map (fun k=>xs.getD k z)) else none
theorem bQ:∀ (js:List Nat) (i m:Nat),(∀ k,k<js.length→ly' (i+k)=ly (js.getD k 0))→rc (TIx T ly xs z l0) (fun _=>()) m (js.map some)=rc T ly' i (js.map (fun k=>xs.getD k z))
  | [],_,_,_=>rfl
  | k::js,i,m,h=>by
    have h0:=h 0 (by simp)
    rw [Nat.add_zero,List.getD_cons_zero] at h0
    have ih:=bQ js (i+1) (m+1) (fun k hk=>by
      have:=h (k+1) (by simp only [List.length_cons]; omega)
      rw [List.getD_cons_succ] at this
      rw [show i+1+k=i+(k+1) by omega]
      exact this)
    rw [List.map_cons,List.map_cons,rc,rc,ih]
    show T.cells (ly k) (xs.getD k z)++_=T.cells (ly' i) (xs.getD k z)++_
    rw [h0]
theorem St.dE (HS:St w0 w (Own (TIx T ly xs z l0) t A c (fun _=>()) is::Q7 T ly xs::L)) (hm:m≤is.length) (hr:Ii z xs (is.take m)=some r) (hA:A'=A) (hc:c'=c) :
    ∃ ly',r.length=m∧St w0 w (Own T t A' c' ly' r::L):=by
  subst hA
  subst hc
  have hcut:=HS.Xl (j:=0) (l:=0) (h:=m) (m:=c') rfl (Nat.zero_le _) hm (Nat.le_trans hm ((Av.own (j:=0) rfl) w HS).1) (Nat.le_refl _) rfl rfl
  rw [List.drop_zero] at hcut
  replace hcut:St w0 w (Own (TIx T ly xs z l0) t (Ja A' 0 c' T.sz) (c' - 0) (fun _=>()) (is.take m)::Q7 T ly xs::L):=hcut
  rw [Ps,Nat.sub_zero] at hcut
  unfold Ii at hr
  split at hr
  · rename_i hc
    obtain ⟨hc1,hc2,hc3⟩:=hc
    obtain rfl:=Option.some.inj hr
    generalize hjs:(is.take m).map (·.getD 0)=js at hc1 hc2 hc3
    have hlen:js.length=m:=by rw [← hjs,List.length_map,List.length_take]; omega
    have hil:(is.take m).length=js.length:=by rw [hc1,List.length_map]
    obtain ⟨hbel,q,r,hq,hr,hqr,⟨q1,q2,h1,h2,hd,hown,hb,hs⟩,q3,r3,hq3,hr3,hd3,hs3,hL⟩:=hcut
    refine ⟨fun k=>ly (js.getD k 0),by rw [List.length_map,hlen],hbel,fun k=>q1 k∨q3 k,r3,?_,?_,?_,⟨q1,q3,fun k hk=>.inl hk,fun k hk=>.inr hk,?_,?_,?_,?_⟩,hL⟩
    · exact fun k hk=>hk.elim (fun h=>hq k (h1 k h)) (fun h=>hr k (hq3 k h))
    · exact fun k hk=>hr k (hr3 k hk)
    · exact fun k hk hn=>hk.elim (fun h=>hqr k (h1 k h) (hr3 k hn)) (fun h=>hd3 k h hn)
    · exact fun k hk hn=>hqr k (h1 k hk) (hq3 k hn)
    · have he:=bQ (ly:=ly) (ly':=fun k=>ly (js.getD k 0)) (xs:=xs) (z:=z) (l0:=l0) js 0 0 (fun k _=>by rw [Nat.zero_add])
      rw [← he,← hc1,List.length_map,← hil]
      exact hown
    · intro k hk
      rw [List.length_map,← hil] at hk
      exact hb k hk
    · have:=G9.sel (ly':=fun k=>ly (js.getD k 0)) (d:=z) (i0:=0) hs3 hc2 (fun k hk=>⟨Nat.zero_le _,by rw [Nat.zero_add]; exact hc3 k hk⟩) (fun m _=>by rw [Nat.zero_add])
      simpa using this
  · cases hr
end
abbrev Raw (n:Nat):={ v:List Value // v.length=n∧∀ u,u ∈ v→u.oneCell'=true }
abbrev Nv (n:Nat):Ty (Raw n):=Ty.flat n (fun v=>v.1) (fun v=>v.2.1) (fun v u h=>v.2.2 u h)
def hd {α:Type} (T:Ty α) (l:T.Lay) (x:α):Raw T.sz:=⟨T.cells l x,T.len l x,fun u h=>T.one l x u h⟩
def hds {α:Type} (T:Ty α) (ly:Nat→T.Lay):Nat→List α→List (Raw T.sz)
  | _,[]=>[]
  | i,x::r=>hd T (ly i) x::hds T ly (i+1) r
section
variable {α:Type} {T:Ty α} {t:TypeId} {w0 w:World} {L:List Cn} {A A':Option Addr} {c c' m:Nat} {ly ly':Nat→T.Lay} {xs ys r:List α} {l:T.Lay} {y0:α}
theorem fB:∀ (xs:List α) (i m:Nat),rc (Nv T.sz) (fun _=>()) m (hds T ly i xs)=rc T ly i xs
  | [],_,_=>rfl
  | x::r,i,m=>by rw [hds,rc,rc,fB r (i+1) (m+1)]; rfl
theorem Po:∀ (xs:List α) (i:Nat),(hds T ly i xs).length=xs.length
  | [],_=>rfl
  | x::r,i=>by rw [hds,List.length_cons,List.length_cons,Po r (i+1)]
theorem Ud:∀ (xs ys:List α) (i:Nat),hds T ly i (xs++ys)=hds T ly i xs++hds T ly (i+xs.length) ys
  | [],ys,i=>rfl
  | x::r,ys,i=>by
    rw [List.cons_append,hds,hds,Ud r ys (i+1),List.cons_append,List.length_cons,show i+1+r.length=i+(r.length+1) by omega]
theorem Vf:∀ (xs:List α) (i j:Nat),(∀ k,k<xs.length→ly (i+k)=ly' (j+k))→hds T ly i xs=hds T ly' j xs
  | [],_,_,_=>rfl
  | x::r,i,j,h=>by
    have h0:=h 0 (by simp)
    rw [Nat.add_zero,Nat.add_zero] at h0
    rw [hds,hds,h0,Vf r (i+1) (j+1) (fun k hk=>by
      have:=h (k+1) (by simp only [List.length_cons]; omega)
      rw [show i+1+k=i+(k+1) by omega,show j+1+k=j+(k+1) by omega]
      exact this)]
theorem G9.move:∀ {xs:List α} {i j:Nat} {q:Nat→Prop},G9 T w ly i xs q→(∀ k,k<xs.length→ly (i+k)=ly' (j+k))→G9 T w ly' j xs q
  | [],_,_,_,_,_=>trivial
  | x::r,i,j,q,⟨q0,q1,h0,h1,hd,hx,hs⟩,h=>by
    have e:=h 0 (by simp)
    rw [Nat.add_zero,Nat.add_zero] at e
    exact ⟨q0,q1,h0,h1,hd,e ▸ hx,G9.move hs (fun k hk=>by
      have:=h (k+1) (by simp only [List.length_cons]; omega)
      rw [show i+1+k=i+(k+1) by omega,show j+1+k=j+(k+1) by omega]
      exact this)⟩
theorem St.Abu (HS:St w0 w (Own T t A c ly xs::L)):St w0 w (Own (Nv T.sz) t A c (fun _=>()) (hds T ly 0 xs)::Q7 T ly xs::L):=by
  obtain ⟨hbel,q,r,hq,hr,hqr,⟨q1,q2,h1,h2,hd,hown,hb,hs⟩,hL⟩:=HS
  refine ⟨hbel,q1,fun k=>q2 k∨r k,fun k hk=>hq k (h1 k hk),fun k hk=>hk.elim (fun h=>hq k (h2 k h)) (hr k),fun k hk hn=>hn.elim (hd k hk) (fun h=>hqr k (h1 k hk) h),⟨q1,fun _=>False,fun _ h=>h,fun _ h=>h.elim,fun _ _ h=>h,?_,?_,G9.flat Bw _ _ _⟩,q2,r,fun k hk=>.inl hk,fun k hk=>.inr hk,fun k hk hn=>hqr k (h2 k hk) hn,hs,hL⟩
  · rw [Po,fB]; exact hown
  · rw [Po]; exact hb
theorem St.yY (HS:St w0 w (Own (Nv T.sz) t A c (fun _=>()) (hds T ly 0 xs)::Q7 T ly xs::L)):St w0 w (Own T t A c ly xs::L):=by
  obtain ⟨hbel,q,r,hq,hr,hqr,⟨q1,q2,h1,h2,hd,hown,hb,hs⟩,q3,r3,hq3,hr3,hd3,hs3,hL⟩:=HS
  rw [Po] at hown hb
  rw [fB] at hown
  exact ⟨hbel,fun k=>q1 k∨q3 k,r3,fun k hk=>hk.elim (fun h=>hq k (h1 k h)) (fun h=>hr k (hq3 k h)),fun k hk=>hr k (hr3 k hk),fun k hk hn=>hk.elim (fun h=>hqr k (h1 k h) (hr3 k hn)) (fun h=>hd3 k h hn),
    ⟨q1,q3,fun k hk=>.inl hk,fun k hk=>.inr hk,fun k hk hn=>hqr k (h1 k hk) (hq3 k hn),hown,hb,hs3⟩,hL⟩
def Pg {β:Type} (ly:Nat→β) (l:β) (n:Nat):Nat→β:=fun k=>if k<n then ly k else if k=n then l else ly (k - 1)
theorem St.rF {n:Nat} (hn:n≤xs.length) (HS:St w0 w (Q7 T ly xs::Elt T l y0::L)):St w0 w (Q7 T (Pg ly l n) (xs.take n++y0::xs.drop n)::L):=by
  obtain ⟨hbel,q,r,hq,hr,hqr,hs,q2,r2,h2,h3,hd2,hy,hL⟩:=HS
  refine ⟨hbel,fun k=>q k∨q2 k,r2,fun k hk=>hk.elim (hq k) (fun h=>hr k (h2 k h)),fun k hk=>hr k (h3 k hk),fun k hk hn=>hk.elim (fun h=>hqr k h (h3 k hn)) (fun h=>hd2 k h hn),?_,hL⟩
  have hs':G9 T w ly 0 (xs.take n++xs.drop n) q:=by rw [List.take_append_drop]; exact hs
  obtain ⟨p1,p2,g1,g2,gd,s1,s2⟩:=G9.cut hs'
  have hl:(xs.take n).length=n:=by rw [List.length_take]; omega
  rw [hl,Nat.zero_add] at s2
  have s1':G9 T w (Pg ly l n) 0 (xs.take n) p1:=G9.move s1 (fun k hk=>by rw [hl] at hk; simp only [Pg,Nat.zero_add,if_pos hk])
  have s2':G9 T w (Pg ly l n) (n+1) (xs.drop n) p2:=G9.move s2 (fun k hk=>by
    simp only [Pg]
    rw [if_neg (by omega),if_neg (by omega),show n+1+k - 1=n+k by omega])
  have hy':T.M w q2 (Pg ly l n n) y0:=by simp only [Pg]; rw [if_neg (by omega),if_pos trivial]; exact hy
  have hjn:G9 T w (Pg ly l n) 0 (xs.take n++y0::xs.drop n) (fun k=>p1 k∨(q2 k∨p2 k)):=G9.join s1' (by
    rw [hl,Nat.zero_add]
    exact ⟨q2,p2,fun k hk=>.inl hk,fun k hk=>.inr hk,fun k hk hn=>hqr k (g2 k hn) (h2 k hk),hy',s2'⟩) (fun k hk hn=>hn.elim (fun h=>hqr k (g1 k hk) (h2 k h)) (gd k hk))
  exact G9.more hjn (fun k hk=>hk.elim (fun h=>.inl (g1 k h)) (fun h=>h.elim .inr (fun h=>.inl (g2 k h))))
theorem pM {n:Nat} (hn:n≤xs.length):hds T (Pg ly l n) 0 (xs.take n++y0::xs.drop n)=(hds T ly 0 xs).take n++hd T l y0::(hds T ly 0 xs).drop n:=by
  have hl:(xs.take n).length=n:=by rw [List.length_take]; omega
  have h0:hds T ly 0 xs=hds T ly 0 (xs.take n)++hds T ly n (xs.drop n):=by
    conv=>lhs; rw [← List.take_append_drop n xs,Ud,hl,Nat.zero_add]
  have hl2:(hds T ly 0 (xs.take n)).length=n:=by rw [Po,hl]
  rw [Ud,hl,Nat.zero_add,hds,h0,List.take_left' hl2,List.drop_left' hl2]
  have e1:hds T (Pg ly l n) 0 (xs.take n)=hds T ly 0 (xs.take n):=Vf _ _ _ (fun k hk=>by rw [hl] at hk; simp only [Pg,Nat.zero_add,if_pos hk])
  have e2:hds T (Pg ly l n) (n+1) (xs.drop n)=hds T ly n (xs.drop n):=Vf _ _ _ (fun k hk=>by
    simp only [Pg]
    rw [if_neg (by omega),if_neg (by omega),show n+1+k - 1=n+k by omega])
  have e3:Pg ly l n n=l:=by simp only [Pg]; rw [if_neg (by omega),if_pos trivial]
  rw [e1,e2,e3]
theorem St.Aat {n:Nat} (hn:n≤xs.length) (HS:St w0 w (Own (Nv T.sz) t A c (fun _=>()) ((hds T ly 0 xs).take n++hd T l y0::(hds T ly 0 xs).drop n)::Q7 T ly xs::Elt T l y0::L)):St w0 w (Own T t A c (Pg ly l n) (xs.take n++y0::xs.drop n)::L):=by
  rw [← pM hn] at HS
  have h1:St w0 w (Q7 T ly xs::Elt T l y0::Own (Nv T.sz) t A c (fun _=>()) (hds T (Pg ly l n) 0 (xs.take n++y0::xs.drop n))::L):=HS.pk 3 [1,2,0] rfl
  have h2:St w0 w (Own (Nv T.sz) t A c (fun _=>()) (hds T (Pg ly l n) 0 (xs.take n++y0::xs.drop n))::Q7 T (Pg ly l n) (xs.take n++y0::xs.drop n)::L):=(h1.rF hn).pk 2 [1,0] rfl
  exact h2.yY
end
theorem Vn {P:Program} (w:World) (t tx ty e:TypeId) (i:TypeInfo) (z:Value) (size bytes:Nat) (ht:P.underlying t=some (.slice e)) (htx:P.underlying tx=some (.int .i64)) (hi:P.info? e=some i) (hz:i.zero=some z)
    (hsize:i.size=size) (hby:i.bytes=bytes) (hzs:z.cells.size=size) (hsz:0<size)
    (b:Addr) (n cap:Nat) (olds:List Value) (hlo:olds.length=n * size) (holds:∀ j u,olds[j]?=some u→w.cell? (b.add j)=some u) (m:Nat)
    (hp:0<m) (hg:cap<n+m) (h63:n+m≤maxLen) (hbytes:(n+m) * bytes≤140737488355328) :
    ∃ v' w',(Builtin.append_ #[t,tx] ty #[.slice (some b) n cap,.int .i64 (m:Int)]).run P w=.ok v' w'∧w'.ownsRow w.heap.size e size v' (n+m) (olds++(Builtin.zeroCells z.cells m).toList)∧w.grownBy w' none:=by
  subst hsize
  subst hby
  have hsmall:n+m≤9223372036854775807:=by simp only [maxLen] at h63; omega
  have hzl:(Builtin.zeroCells z.cells m).toList.length=m * i.size:=by rw [Array.length_toList,size_zeroCells,hzs]
  have hlen:(olds++(Builtin.zeroCells z.cells m).toList).length=(n+m) * i.size:=by rw [List.length_append,hlo,hzl,Nat.add_mul]
  have hge:=grownCap_ge w (n+m) cap e
  have hcm:grownCap w (n+m) cap e≤maxLen:=grownCap_le_maxLen w (n+m) cap e h63
  have hn:¬ (n+m≤cap):=by omega
  have h63':¬ (9223372036854775807<((n:Int)+(m:Int))):=by omega
  have hfit:=growslice_fits hg hbytes
  have h48':¬ (281474976710656<Builtin.nextslicecap (n+m) cap * i.bytes):=by omega
  have hmb:m * i.bytes≤140737488355328:=Nat.le_trans (Nat.mul_le_mul_right _ (Nat.le_add_left m n)) hbytes
  have hmb':¬ (281474976710656<(m:Int) * (i.bytes:Int)):=by rw [← Int.natCast_mul]; omega
  have hm9:¬ ((m:Int)<0):=by omega
  have hmx:¬ (9223372036854775807<(n:Int)+max (m:Int) 0):=by omega
  have hw:IntKind.i64.wrap (m:Int)=(m:Int):=Ip (by omega) (by omega)
  have hfo:=run_firstCells_some (P:=P) w.drew i.size n b n cap olds hlo (by simpa using holds)
  refine ⟨.slice (some ⟨w.heap.size,0,none⟩) (n+m) (grownCap w (n+m) cap e),w.drew.alloc (.cells (olds.toArray++Builtin.zeroCells z.cells m++Builtin.zeroCells z.cells (grownCap w (n+m) cap e - (n+m))) e),?_,
    ⟨hlen,.inr ⟨w.heap.size,_,_,rfl,Nat.le_refl _,heap_alloc_new w.drew _,hge,hcm,?_,?_⟩⟩,⟨rfl,rfl,rfl,by simp,fun k hk _=>heap_alloc_old w.drew _ hk⟩⟩
  · simp [Builtin.append_,run_underlying ht,run_underlying htx,sizeOf,typeInfo,zeroValue,hi,hz,hn,h63',hm9,hmx,h48',hmb',hw,asInt,asIntOf,Question.forced,hfo,newRow,grownCap]
    have h0:¬ (m * i.size=0):=Nat.ne_of_gt (Nat.mul_pos hp hsz)
    simp [h0,hm9]
  · simp only [Array.size_append,List.size_toArray,size_zeroCells,hzs,hlo,← Nat.add_mul]
    congr 1
    omega
  · simp only [Array.toList_append,List.append_assoc]
    rw [← List.append_assoc,← hlen]
    exact List.take_left
section
variable {P:Program} {w:World} {A:Option Addr} {t el:TypeId} {kl kh:IntKind} {l h:Int} {n c:Nat}
theorem lZ {inf:TypeInfo} (ht:P.underlying t=some (.slice el)) (hi:P.info? el=some inf) (h0:0≤l) (h1:l≤(n:Int)) (hc:n≤c) :
    (Instr.sliceAt t (.slice A n c) (some (.int kl l)) none none).run P w=.ok (.slice (Ja A l.toNat c inf.size) (n - l.toNat) (c - l.toNat)) w:=by
  have he:P.elem t=el:=by simp [Program.elem,ht]
  have ht':P.underlying t=some (.slice (P.elem t)):=by rw [he]; exact ht
  have hs:(sizeOf (P.elem t)).run P w=.ok inf.size w:=by rw [he]; simp [sizeOf,typeInfo,hi]
  have hN:l.toNat≤n:=by omega
  rw [run_sliceAt_slice (h:=ht')]
  simp [Instr.slice,run_underlying ht',Instr.sliceBounds,run_sliceBound,hs,Ja,h0,h1,hc,hN]
theorem lC {inf:TypeInfo} (ht:P.underlying t=some (.slice el)) (hi:P.info? el=some inf) (h0:0≤h) (hc:h≤(c:Int)) :
    (Instr.sliceAt t (.slice A n c) none (some (.int kh h)) none).run P w=.ok (.slice A h.toNat c) w:=by
  have he:P.elem t=el:=by simp [Program.elem,ht]
  have ht':P.underlying t=some (.slice (P.elem t)):=by rw [he]; exact ht
  have hs:(sizeOf (P.elem t)).run P w=.ok inf.size w:=by rw [he]; simp [sizeOf,typeInfo,hi]
  have eh:(h.toNat:Int)=h:=Int.toNat_of_nonneg h0
  have hA:Ja A 0 c inf.size=A:=Ps _ _ _
  unfold Ja at hA
  have hN:h.toNat≤c:=by omega
  rw [run_sliceAt_slice (h:=ht')]
  simp [Instr.slice,run_underlying ht',Instr.sliceBounds,run_sliceBound,hs,h0,hc,eh,hN]
  simpa using hA
end
theorem Sat.eqV {N:Nat} {e:Env} {a:Act} {t:Nat} {v v':Value} (hs:Sat N e a) (h:look e t=some v) (hv:v=v'):Sat N ((t,v')::e) a:=by
  subst hv
  refine ⟨hs.defers,hs.size,fun s v' hv=>?_⟩
  simp only [look] at hv
  cases hb:Nat.beq t s with
  | true=>rw [hb] at hv; have:=Nat.eq_of_beq_eq_true hb; subst this; cases hv; exact hs.at_ t _ h
  | false=>rw [hb] at hv; exact hs.at_ s v' hv
theorem GO.eqV {P:Program} {N:Nat} {e:Env} {w:World} {Q:Act→World→Prop} {ops:Array Oper} {l:List Nat} (t:Nat) (v':Value) {v:Value} (h:Go.Proofs.YtjopfecenllmgaaGreatDoor.look e t=some v) (hv:v=v') (g:GO P N ops l ((t,v')::e) w Q):GO P N ops l e w Q:=fun a hs=>g a (hs.eqV h hv)
theorem G.eqV {P:Program} {f:FuncId} {N:Nat} {e:Env} {k:List Item} {w:World} {R:Ending→World→Prop} (t:Nat) (v':Value) {v:Value} (h:Go.Proofs.YtjopfecenllmgaaGreatDoor.look e t=some v) (hv:v=v') (g:G P f N ((t,v')::e) k w R):G P f N e k w R:=fun a hs=>g a (hs.eqV h hv)
theorem xO {A:Option Addr} {c k s:Nat} (h:k<c) (g o:Nat) (hA:A=some ⟨g,o,none⟩):Ja A k c s=some ⟨g,o+k * s,none⟩:=by
  subst hA
  unfold Ja
  rw [if_neg (by omega)]
  simp [Ia]
section
variable {α:Type} {T:Ty α} {P:Program} {N:Nat} {e:Env} {w0 w:World} {L:List Cn} {Q:Act→World→Prop} {ops:Array Oper} {i d:Nat} {rest:List Nat} {ty:TypeId} {ps:String} {af:Array Edge} {t el:TypeId} {x y z:Operand} {A:Option Addr} {n c sz:Nat} {kl kh:IntKind} {l h:Int}
theorem GO.dU (hc:n≤c) (ho:ops[i]?=some ⟨some d,.slice t x (some y) none none,ty,ps,af,none⟩) (hx:ev e x=some (.slice A n c)) (hy:ev e y=some (.int kl l)) (ht:P.underlying t=some (.slice el)) (hsz:(P.info? el).map (·.size)=some sz) (h0:0≤l) (h1:l≤(n:Int)) (hN:Nat.blt d N=true)
    (g:GO P N ops rest ((d,.slice (Ja A l.toNat c sz) (n - l.toNat) (c - l.toNat))::e) w Q):GO P N ops (i::rest) e w Q:=by
  obtain ⟨inf,hi,hi2⟩:=Option.map_eq_some_iff.1 hsz
  refine GO.val _ ho rfl rfl hN (fun a hs=>?_) g
  have:=lZ (P:=P) (w:=w) (A:=A) (kl:=kl) ht hi h0 h1 hc
  simp [execOp,hs.ev hx,hs.ev hy,this,hi2]
theorem GO.Aap (ho:ops[i]?=some ⟨some d,.slice t x none (some z) none,ty,ps,af,none⟩) (hx:ev e x=some (.slice A n c)) (hz:ev e z=some (.int kh h)) (ht:P.underlying t=some (.slice el)) (hsz:(P.info? el).map (·.size)=some sz) (h0:0≤h) (hc:h≤(c:Int)) (hN:Nat.blt d N=true)
    (g:GO P N ops rest ((d,.slice A h.toNat c)::e) w Q):GO P N ops (i::rest) e w Q:=by
  obtain ⟨inf,hi,hi2⟩:=Option.map_eq_some_iff.1 hsz
  refine GO.val _ ho rfl rfl hN (fun a hs=>?_) g
  have:=lC (P:=P) (w:=w) (A:=A) (n:=n) (kh:=kh) ht hi h0 hc
  simp [execOp,hs.ev hx,hs.ev hz,this]
theorem GO.Abp {tx:TypeId} {ad:Addr} {k m j:Nat} {H:List (Raw sz)} {zv:Value} {bytes:Nat} (zr:Raw sz) (HS:St w0 w L) (hj:L[j]?=some (Own (Nv sz) el (some ad) c (fun _=>()) H)) (hk:k≤H.length) (hk0:0<H.length) (ho:ops[i]?=some ⟨some d,.call { callee:=.builtin .append,args:=#[x,y],argTypes:=#[t,tx] },ty,ps,af,none⟩) (hx:ev e x=some (.slice (some ad) k c)) (hy:ev e y=some (.int .i64 (m:Int)))
    (hp:0<m) (hg:c<k+m) (ht:P.underlying t=some (.slice el)) (htx:P.underlying tx=some (.int .i64)) (hinf:(P.info? el).map (fun i=>(i.zero,i.size,i.bytes))=some (some zv,sz,bytes)) (hz:zv.cells.toList=zr.1) (hs0:Nat.blt 0 sz=true) (hb0:Nat.blt 0 bytes=true) (hm:(k+m) * bytes≤140737488355328) (hN:Nat.blt d N=true)
    (g:∀ A' c' w',St w0 w' (Own (Nv sz) el A' c' (fun _=>()) (H.take k++List.replicate m zr)::L)→GO P N ops rest ((d,.slice A' (k+m) c')::e) w' Q):GO P N ops (i::rest) e w Q:=by
  obtain ⟨inf,hi,hzz⟩:=Option.map_eq_some_iff.1 hinf
  simp only [Prod.mk.injEq] at hzz
  obtain ⟨hz0,hz1,hz2⟩:=hzz
  have hs0':0<sz:=Nat.le_of_ble_eq_true hs0
  have hb0':0<bytes:=Nat.le_of_ble_eq_true hb0
  have hmm:k+m≤140737488355328:=Nat.le_trans (Nat.le_mul_of_pos_right _ hb0') hm
  have hzs:zv.cells.size=sz:=by rw [← Array.length_toList,hz]; exact zr.2.1
  obtain ⟨q,_,ho1⟩:=HS.get hj
  obtain ⟨q1,q2,h1,h2,hd,hown,hb,hs⟩:=ho1
  have hcells:=hown.cells hk0
  have hsplit:rc (Nv sz) (fun _=>()) 0 H=rc (Nv sz) (fun _=>()) 0 (H.take k)++rc (Nv sz) (fun _=>()) (0+(H.take k).length) (H.drop k):=by
    conv=>lhs; rw [← List.take_append_drop k H,H8]
  have hlk:(H.take k).length=k:=by rw [List.length_take]; omega
  have hlo:(rc (Nv sz) (fun _=>()) 0 (H.take k)).length=k * sz:=by rw [Ec,hlk]
  obtain ⟨v',w',hr,hown',hgr⟩:=Vn (P:=P) w t tx ty el inf zv sz bytes ht htx hi hz0 hz1 hz2 hzs hs0' ad k c (rc (Nv sz) (fun _=>()) 0 (H.take k)) hlo (fun j u hu=>by
    have:=hcells j u (by rw [hsplit,List.getElem?_append_left (List.getElem?_eq_some_iff.1 hu).1]; exact hu)
    simpa using this) m hp hg (by simp only [maxLen]; omega) hm
  obtain ⟨A',c',rfl⟩:=(OR.of hown').slice
  have hrep:∀ (m i:Nat),rc (Nv sz) (fun _=>()) i (List.replicate m zr)=(List.replicate m zr.1).flatten:=by
    intro m
    induction m with
    | zero=>intro i; rfl
    | succ m ih=>intro i; rw [List.replicate_succ,List.replicate_succ,rc,ih,List.flatten_cons]
  have hzc:(Builtin.zeroCells zv.cells m).toList=(List.replicate m zr.1).flatten:=by
    have hza:zv.cells=zr.1.toArray:=by rw [← hz]
    have hp0:0<zr.1.length:=by rw [zr.2.1]; exact hs0'
    have:=Nb zr.1 hp0 m
    rw [hza,← this]
    simp [Builtin.zeroCells,madeCells]
  have hrc:rc (Nv sz) (fun _=>()) 0 (H.take k)++(Builtin.zeroCells zv.cells m).toList=rc (Nv sz) (fun _=>()) 0 (H.take k++List.replicate m zr):=by rw [H8,hrep,hzc]
  rw [hrc] at hown'
  have hlen:k+m=(H.take k++List.replicate m zr).length:=by rw [List.length_append,hlk,List.length_replicate]
  refine GO.val _ ho rfl rfl hN (fun a hs=>by simp only [execOp,resolve,invoke,builtin,Sem.run_bind,Sem.run_pure,Result.andThen_ok,List.map_toArray,List.map_cons,List.map_nil,hs.ev hx,hs.ev hy,hr]) (g A' c' w' ?_)
  have h0:=HS.Da (Nv sz) el (fun _=>())
  exact h0.appended (j:=0) (zs:=H.take k++List.replicate m zr) rfl Bw hlen (OR.of hown') hgr (fun k hk=>.inr (((OR.of hown').lt k hk |> fun _=>by
    rcases hown'.2 with ⟨hv,_⟩ | ⟨g',cap,cur,hv,hle,_⟩
    · injection hv with hA; subst hA; simp [Value.ownBlock] at hk
    · injection hv with hA; subst hA; have:g'=k:=by simpa [Value.ownBlock] using hk
      omega)))
theorem qD (ly:Nat→T.Lay) {xs:List α} (hn:n≤xs.length):(rc T ly 0 xs).take (n * T.sz)=rc T ly 0 (xs.take n):=by
  conv=>lhs; rw [← List.take_append_drop n xs,H8]
  have hl:(rc T ly 0 (xs.take n)).length=n * T.sz:=by rw [Ec,List.length_take,Nat.min_eq_left hn]
  exact List.take_left' hl
theorem GO.wC {u:TypeId} {dc sn sc j k:Nat} {H:List (Raw sz)} (HS:St w0 w L) (hj:L[j]?=some (Own (Nv sz) el A c (fun _=>()) H)) (ho:ops[i]?=some ⟨some d,.call { callee:=.builtin .copy,args:=#[x,y],argTypes:=#[t,u] },ty,ps,af,none⟩) (hx:ev e x=some (.slice (Ja A (k+1) c sz) n dc)) (hy:ev e y=some (.slice (Ja A k c sz) sn sc))
    (ht:P.underlying t=some (.slice el)) (hsz:(P.info? el).map (·.size)=some sz) (hk:k<H.length) (hn:n=H.length - k) (hsn:n≤sn) (hc:H.length<c) (hN:Nat.blt d N=true)
    (g:∀ w',St w0 w' (L.set j (Own (Nv sz) el A c (fun _=>()) (H.take (k+1)++H.drop k)))→GO P N ops rest ((d,.int .i64 (n:Int))::e) w' Q):GO P N ops (i::rest) e w Q:=by
  obtain ⟨q,_,ho1⟩:=HS.get hj
  obtain ⟨q1,q2,h1,h2,hd,hown,hb,hs⟩:=ho1
  obtain ⟨gb,og,cur,rfl,hh,hnc,hcm,hcs,htk⟩:=hown.open (by omega)
  replace hcs:og+c * sz≤cur.size:=hcs
  have hcells:=hown.cells (by omega)
  have hlk:(H.take k).length=k:=by rw [List.length_take]; omega
  have hfl:∀ (ys:List (Raw sz)) (i j:Nat),rc (Nv sz) (fun _=>()) i ys=rc (Nv sz) (fun _=>()) j ys:=by
    intro ys
    induction ys with
    | nil=>intro i j; rfl
    | cons y r ih=>intro i j; rw [rc,rc,ih (i+1) (j+1)]
  have hsplit:rc (Nv sz) (fun _=>()) 0 H=rc (Nv sz) (fun _=>()) 0 (H.take k)++rc (Nv sz) (fun _=>()) 0 (H.drop k):=by
    conv=>lhs; rw [← List.take_append_drop k H,H8]
    rw [hfl (H.drop k) (0+(H.take k).length) 0]
  have hmin:Nat.min sn n=n:=Nat.min_eq_right hsn
  have hlo:(rc (Nv sz) (fun _=>()) 0 (H.take k)).length=k * sz:=by rw [Ec,hlk]
  have hlc:(rc (Nv sz) (fun _=>()) 0 (H.drop k)).length=n * sz:=by rw [Ec,List.length_drop,hn]
  generalize hcse:rc (Nv sz) (fun _=>()) 0 (H.drop k)=cs at hlc hsplit
  have hA1:Ja (some ⟨gb,og,none⟩) (k+1) c sz=some ⟨gb,og+(k+1) * sz,none⟩:=by unfold Ja; rw [if_neg (by omega)]; simp [Ia]
  have hA0:Ja (some ⟨gb,og,none⟩) k c sz=some ⟨gb,og+k * sz,none⟩:=by unfold Ja; rw [if_neg (by omega)]; simp [Ia]
  rw [hA1] at hx
  rw [hA0] at hy
  have hmul:(H.length+1) * sz≤c * sz:=Nat.mul_le_mul_right _ hc
  have hnk:k * sz+n * sz=H.length * sz:=by rw [← Nat.add_mul]; congr 1; omega
  have e1:(k+1) * sz=k * sz+sz:=Nat.succ_mul k sz
  have e2:(H.length+1) * sz=H.length * sz+sz:=Nat.succ_mul _ sz
  have hfit:og+(k+1) * sz+cs.length≤cur.size:=by rw [hlc,e1]; omega
  have hcl:cur.toList.length=cur.size:=Array.length_toList
  have hr:=Vt (P:=P) w t u ty el sz gb (og+(k+1) * sz) n dc ⟨gb,og+k * sz,none⟩ sn sc cur el cs ht hsz hh (by rw [hlc,hmin]) (fun j v hv=>by
    have:=hcells (k * sz+j) v (by rw [hsplit,List.getElem?_append_right (by rw [hlo]; omega),hlo,Nat.add_sub_cancel_left]; exact hv)
    rw [Option.getD_some,Ia] at this
    rw [Ia,Nat.add_assoc]
    exact this) hfit (fun v hv=>by
    rw [← hcse] at hv
    exact Vq hv)
  rw [hmin] at hr
  refine GO.val _ ho rfl rfl hN (fun a hs=>by simp only [execOp,resolve,invoke,builtin,Sem.run_bind,Sem.run_pure,Result.andThen_ok,List.map_toArray,List.map_cons,List.map_nil,hs.ev hx,hs.ev hy,hr]; rfl) (g (w.setRow gb (splice cur.toList (og+(k+1) * sz) cs).toArray) ?_)
  refine HS.upd hj (by simp) rfl rfl rfl (fun q ho=>?_)
  obtain ⟨q1,q2,h1,h2,hd,hown,hb,hs⟩:=ho
  have hg:q1 gb:=hb gb rfl
  have hlen:(H.take (k+1)++H.drop k).length=H.length+1:=by rw [List.length_append,List.length_take,List.length_drop]; omega
  refine ⟨q,fun k hk=>.inl hk,⟨q1,q2,h1,h2,hd,?_,by rw [hlen]; exact hb,G9.flat Bw _ _ _⟩,fun k hk hn=>setRow_other w gb k _ (fun e=>hn (by rw [e]; exact h1 gb hg))⟩
  rw [hlen]
  refine ⟨by rw [Ec,hlen],.inr ⟨gb,og,c,_,rfl,setRow_heap w gb _ _ el (0,0) hh,hc,hcm,?_,?_⟩⟩
  · rw [List.size_toArray,P5 (by rw [hcl]; exact hfit),Array.length_toList]; exact hcs
  · show ((splice cur.toList (og+(k+1) * sz) cs).drop og).take ((H.length+1) * sz)=_
    rw [Sg (by omega),H8,hfl _ (0+_) 0,hcse]
    unfold splice
    have htk1:(cur.toList.drop og).take ((k+1) * sz)=rc (Nv sz) (fun _=>()) 0 (H.take (k+1)):=by
      have h3:=qD (T:=Nv sz) (fun _=>()) (xs:=H) (n:=k+1) (by omega)
      rw [← h3,← htk,List.take_take,Nat.min_eq_left (Nat.mul_le_mul_right _ (show k+1≤H.length by omega))]
    rw [htk1]
    have hl1:(rc (Nv sz) (fun _=>()) 0 (H.take (k+1))).length=(k+1) * sz:=by rw [Ec,List.length_take,Nat.min_eq_left (by omega)]
    exact List.take_left' (by rw [List.length_append,hl1,hlc,e1,e2]; omega)
theorem GO.ovl {tS tR tb:TypeId} {hh:FuncId} {fn:Func} {tys:Array TypeId} {b la ca lb cb k:Nat} {cs:List Value} {X:Cn} {H:List (Raw sz)} (HS:St w0 w (Own (Nv sz) el A c (fun _=>()) H::X::Box b tb cs::L)) (hH:0<H.length) (hs0:Nat.blt 0 sz=true)
    (ho : ops[i]? = some ⟨some d, .call { callee := .value (.func hh), args := #[x, y], argTypes := tys }, ty, ps, af, none⟩) (hf : P.funcs[hh]? = some fn) (hn : (fn.name == "runtime.NumGoroutine") = false) (hb : fn.body.isNone = true) (hn2 : Extern.findNext fn = none) (he : Extern.find fn = some (Extern.SlicesOverlaps.overlaps #[tS, tS] #[tR]))
    (ht:P.underlying tS=some (.slice el)) (hsz:(P.info? el).map (·.size)=some sz) (hx:ev e x=some (.slice (some ⟨b,0,none⟩) la ca)) (hy:ev e y=some (.slice (Ja A k c sz) lb cb)) (hN:Nat.blt d N=true) (g:GO P N ops rest ((d,.bool false)::e) w Q):GO P N ops (i::rest) e w Q:=by
  obtain ⟨inf,hi,hi2⟩:=Option.map_eq_some_iff.1 hsz
  have hs0':0<sz:=Nat.le_of_ble_eq_true hs0
  have hbox:=HS.box (j:=2) rfl
  obtain ⟨_,q,r,hq,hr,hqr,⟨q1,q2,h1,h2,hd,hown,hb1,hs⟩,q3,r3,hq3,hr3,hd3,hX,q4,r4,hq4,hr4,hd4,⟨hbq,_⟩,hL⟩:=HS
  obtain ⟨gb,og,cur,rfl,hh1,hnc,hcm,hcs,htk⟩:=hown.open hH
  have hne:b≠gb:=fun e=>hqr gb (h1 gb (hb1 gb rfl)) (hr3 gb (hq4 gb (by rw [← e]; exact hbq)))
  have hc0:0<c * (Nv sz).sz:=Nat.mul_pos (by omega) hs0'
  obtain ⟨o2,hcut⟩:∃ o2,Ja (some ⟨gb,og,none⟩) k c sz=some ⟨gb,o2,none⟩:=by
    unfold Ja
    split
    · exact ⟨_,rfl⟩
    · exact ⟨og+k * sz,by simp [Ia]⟩
  rw [hcut] at hy
  refine GO.val _ ho rfl rfl hN (fun a' hs=>?_) g
  have e3:(#[x,y]:Array Operand).map a'.eval=#[Value.slice (some ⟨b,0,none⟩) la ca,Value.slice (some ⟨gb,o2,none⟩) lb cb]:=by simp [hs.ev hx,hs.ev hy]
  have hr:=run_callFunc_extern hf hn hb hn2 he #[Value.slice (some ⟨b,0,none⟩) la ca,Value.slice (some ⟨gb,o2,none⟩) lb cb] w
  rw [Lib.run_overlaps_apart (P:=P) w tS tR el ht sz (fun w=>by simp [sizeOf,typeInfo,hi,hi2]) ⟨b,0,none⟩ ⟨gb,o2,none⟩ la ca lb cb hne tb el cs.toArray.size cur.size (by simp [World.shape?,hbox]) (by simp [World.shape?,hh1]) (by omega) (by simp [World.frozen?,hbox]) (by simp [World.frozen?,hbox])] at hr
  have e4:a'.eval (Operand.func hh)=Value.func (Fn.func hh) #[] #[]:=rfl
  simp only [execOp,resolve,Deferred.ofValue,e4,invoke,e3,Array.empty_append]
  exact hr
theorem qG {H:List α} {n k:Nat} {zr h0:α} (hn:H.length=n) (hk:k<n):over (over (H.take k++List.replicate (n+1 - k) zr) k ([h0].take (n+1 - k))) (k+1) (((H.take H.length).drop k).take (n+1 - (k+1)))=H.take k++h0::H.drop k:=by
  subst hn
  rw [show H.length+1 - (k+1)=H.length - k by omega]
  have hl:(H.take k).length=k:=by rw [List.length_take]; omega
  have e1:[h0].take (H.length+1 - k)=[h0]:=List.take_of_length_le (by simp; omega)
  have e2:((H.take H.length).drop k).take (H.length - k)=H.drop k:=by rw [List.take_length]; exact List.take_of_length_le (by rw [List.length_drop]; omega)
  have e3:over (H.take k++List.replicate (H.length+1 - k) zr) k [h0]=(H.take k++[h0])++List.replicate (H.length - k) zr:=by
    unfold over
    rw [List.take_left' hl,show H.length+1 - k=(H.length - k)+1 by omega,List.replicate_succ]
    congr 1
    have:H.take k++zr::List.replicate (H.length - k) zr=(H.take k++[zr])++List.replicate (H.length - k) zr:=by rw [List.append_assoc]; rfl
    rw [this]
    exact List.drop_left' (by rw [List.length_append,hl]; rfl)
  rw [e1,e2,e3]
  unfold over
  have hl2:(H.take k++[h0]).length=k+1:=by rw [List.length_append,hl]; rfl
  have e4:(H.take k++[h0]++List.replicate (H.length - k) zr).drop (k+1+(H.drop k).length)=[]:=List.drop_of_length_le (by rw [List.length_append,hl2,List.length_replicate,List.length_drop]; omega)
  rw [List.take_left' hl2,e4,List.append_nil,List.append_assoc]
  rfl
theorem yM {H:List α} {n k:Nat} {h0:α} (hn:H.length=n) (hk:k<n):over (H.take (k+1)++H.drop k) k ([h0].take (n+1 - k))=H.take k++h0::H.drop k:=by
  subst hn
  have hl:(H.take k).length=k:=by rw [List.length_take]; omega
  have e1:[h0].take (H.length+1 - k)=[h0]:=List.take_of_length_le (by simp; omega)
  rw [e1]
  unfold over
  have hl1:(H.take (k+1)).length=k+1:=by rw [List.length_take]; omega
  have e2:(H.take (k+1)++H.drop k).take k=H.take k:=by rw [List.take_append_of_le_length (by omega),List.take_take,Nat.min_eq_left (by omega)]
  rw [e2,show k+[h0].length=k+1 from rfl,List.drop_left' hl1,List.append_assoc]
  rfl
end
section
variable {κ ν:Type} [DecidableEq κ]
variable {P:Program} {kt:TypeId} {ke:κ→Value} {ve:ν→Value} {w0 w:World} {L:List Cn} {b j:Nat} {m:List (κ × ν)}
variable {N:Nat} {e:Env} {Q:Act→World→Prop} {ops:Array Oper} {i d:Nat} {rest:List Nat} {ty:TypeId} {ps:String} {af:Array Edge} {t el:TypeId} {x y z:Operand} {key:κ} {v:ν}
end
section
variable {P:Program} {N:Nat} {e:Env} {w0 w:World} {L:List Cn} {Q:Act→World→Prop} {ops:Array Oper} {i d:Nat} {rest:List Nat} {ty:TypeId} {ps:String} {af:Array Edge} {t el tb:TypeId} {x y:Operand} {b j o sz len:Nat} {m:Int} {kd:IntKind} {cs vs:List Value}
end
section
variable {α:Type} {S:Ty α} {P:Program} {N:Nat} {e:Env} {w0 w:World} {L:List Cn} {Q:Act→World→Prop} {ops:Array Oper} {i d:Nat} {rest:List Nat} {ty:TypeId} {ps:String} {af:Array Edge}
end
section
variable {P:Program} {kt el:TypeId}
end
section
variable {P:Program} {N:Nat} {e:Env} {w0 w:World} {L L':List Cn} {Q:Act→World→Prop} {ops:Array Oper} {i d:Nat} {rest:List Nat} {ty:TypeId} {ps:String} {af:Array Edge} {t t' el:TypeId} {x y:Operand} {A:Option Addr} {v:Bool}
end
section
variable {α:Type} {w0 w:World} {L:List Cn}
end
abbrev RV:=Option (Nat × Value × Option Value)
abbrev rv (d:Nat) (v:Value):RV:=some (d,v,none)
structure RS (N:Nat) (pre:Env) (vals:List RV) (b:Nat→Bool) (a:Act):Prop where
  sat:Sat N pre a
  on:∀ j d v o,vals[j]?=some (some (d,v,o))→b j=true→a.tmps[d]?=some v
  off:∀ j d v u,vals[j]?=some (some (d,v,some u))→b j=false→a.tmps[d]?=some u
def onE (vals:List RV):List Nat→Env→Env
  | [],pre=>pre
  | k::r,pre=>match vals[k]? with
    | some (some (d,v,_))=>(d,v)::onE vals r pre
    | _=>onE vals r pre
def dJ (vals:List RV):List Nat→Env→Env
  | [],pre=>pre
  | k::r,pre=>match vals[k]? with
    | some (some (d,_,some u))=>(d,u)::dJ vals r pre
    | _=>dJ vals r pre
def qN:List RV→Env→Env
  | [],pre=>pre
  | some (d,v,_)::r,pre=>(d,v)::qN r pre
  | none::r,pre=>qN r pre
def jP:List RV→Env→Env
  | [],pre=>pre
  | some (d,_,some u)::r,pre=>(d,u)::jP r pre
  | _::r,pre=>jP r pre
def clo (ops:Array Oper):Nat→List Nat→List Nat
  | 0,S=>S
  | i+1,S=>clo ops i (bif S.any (Nat.beq i) then needs ops i++S else S)
def waits (ops:Array Oper) (j i:Nat):Bool:=(clo ops j (needs ops j)).any (Nat.beq i)
structure RQ (ops:Array Oper) (j:Nat) (b:Nat→Bool):Prop where
  lt:j<ops.size
  hb:b j=false
  hd:∀ i ∈ needs ops j,b i=true
  hcl:∀ m,m<ops.size→b m=true→∀ i ∈ needs ops m,b i=true
section
variable {P:Program} {f:FuncId} {N:Nat} {e:Env} {k:List Item} {w:World} {R:Ending→World→Prop} {ops:Array Oper} {Q:Act→World→Prop} {b:Nat→Bool} {j:Nat}
theorem kU (hcl:∀ m,m<ops.size→b m=true→∀ i ∈ needs ops m,b i=true):∀ (n:Nat) (S:List Nat),n≤ops.size→(∀ i ∈ S,b i=true)→∀ i ∈ clo ops n S,b i=true
  | 0,S,_,h,i,hi=>h i hi
  | n+1,S,hn,h,i,hi=>by
    unfold clo at hi
    refine kU hcl n _ (by omega) ?_ i hi
    cases hc:S.any (Nat.beq n) with
    | false=>exact h
    | true =>
      obtain ⟨x,hx,he⟩:=List.any_eq_true.1 hc
      have:n=x:=Nat.eq_of_beq_eq_true he
      subst this
      intro m hm
      rcases List.mem_append.1 hm with hm | hm
      · exact hcl n (by omega) (h n hx) m hm
      · exact h m hm
theorem bX (hcl:∀ m,m<ops.size→b m=true→∀ i ∈ needs ops m,b i=true) {i:Nat} (hj:j≤ops.size) (hd:∀ i ∈ needs ops j,b i=true) (h:waits ops j i=true):b i=true:=by
  obtain ⟨x,hx,he⟩:=List.any_eq_true.1 h
  rw [Nat.eq_of_beq_eq_true he]
  exact kU hcl j _ hj hd x hx
theorem RQ.on (q:RQ ops j b) (i:Nat) (h:waits ops j i=true:=by kernel_rfl):b i=true:=bX q.hcl (Nat.le_of_lt q.lt) q.hd h
theorem RQ.no (q:RQ ops j b) (i:Nat) (hi:b i=true) (h:(Nat.blt i ops.size && waits ops i j)=true:=by kernel_rfl):False:=by
  rw [Bool.and_eq_true] at h
  have h1:i<ops.size:=Nat.le_of_ble_eq_true h.1
  have:=bX q.hcl (Nat.le_of_lt h1) (q.hcl i h1 hi) h.2
  rw [q.hb] at this
  cases this
theorem RQ.off (q:RQ ops j b) (i:Nat) (h:(Nat.blt i ops.size && waits ops i j)=true:=by kernel_rfl):b i=false:=by
  cases hi:b i with
  | false=>rfl
  | true=>exact (q.no i hi h).elim
theorem G.Rp {id:Nat} (hm:P.follows .mixedOrders=true) (hfw:forward ops=true) (I:(Nat→Bool)→Act→World→Prop) (h0:∀ a,Sat N e a→I (fun _=>false) a w.drew)
    (hstep:∀ j b a w,j<ops.size→I b a w→RQ ops j b→wpOps P ops (fun en a' w'=>en=.normal∧I (upd b j) a' w') [j] a w)
    (hend:∀ b a w,(∀ j,j<ops.size→b j=true)→I b a w→Oy P f k R a w):G P f N e (.code (.region id ops true)::k) w R :=
  G.Y7 hm hfw I h0 (fun j hj b a w hI hb hd hcl=>hstep j b a w hj hI ⟨hj,hb,hd,hcl⟩) hend
theorem Y2:∀ {vals:List RV} {pre:Env} {j d:Nat} {v u:Value},vals[j]?=some (some (d,v,some u))→(d,u) ∈ jP vals pre
  | [],_,_,_,_,_,h=>by simp at h
  | x::r,pre,0,d,v,u,h=>by
    have:x=some (d,v,some u):=by simpa using h
    subst this
    exact List.mem_cons_self
  | x::r,pre,j+1,d,v,u,h=>by
    have ih:=Y2 (pre:=pre) (by simpa using h:r[j]?=some (some (d,v,some u)))
    match x with
    | none=>exact ih
    | some (_,_,none)=>exact ih
    | some (_,_,some _)=>exact List.mem_cons_of_mem _ ih
theorem Qq:∀ {vals:List RV} {pre:Env} {p:Nat × Value},p ∈ pre→p ∈ jP vals pre
  | [],_,_,h=>h
  | none::r,_,_,h=>Qq (vals:=r) h
  | some (_,_,none)::r,_,_,h=>Qq (vals:=r) h
  | some (_,_,some _)::r,_,_,h=>List.mem_cons_of_mem _ (Qq (vals:=r) h)
theorem W9:∀ {e:Env} {t:Nat} {v:Value},look e t=some v→(t,v) ∈ e
  | [],_,_,h=>by cases h
  | p::r,t,v,h=>by
    simp only [look] at h
    cases hb:Nat.beq p.1 t with
    | true =>
      rw [hb] at h
      have:p.1=t:=Nat.eq_of_beq_eq_true hb
      subst this
      cases h
      exact List.mem_cons_self
    | false =>
      rw [hb] at h
      exact List.mem_cons_of_mem _ (W9 h)
theorem Uk {α β:Type _} {F G:α→β}:∀ {l:List α},l.map F=l.map G→∀ x ∈ l,F x=G x
  | [],_,_,h=>by cases h
  | y::r,h,x,hx=>by
    rw [List.map_cons,List.map_cons] at h
    injection h with h1 h2
    rcases List.mem_cons.1 hx with rfl | hx
    · exact h1
    · exact Uk h2 x hx
theorem Sat.init {a:Act} {pre:Env} {vals:List RV} (hs:Sat N e a) (h:(jP vals pre).map (fun p=>look e p.1)=(jP vals pre).map (fun p=>some p.2)):RS N pre vals (fun _=>false) a where
  sat:=⟨hs.defers,hs.size,fun t v ht=>hs.at_ t v (Uk h (t,v) (Qq (W9 ht)))⟩
  on:=fun _ _ _ _ _ h=>Bool.noConfusion h
  off:=fun j d v u hv _=>hs.at_ d u (Uk h (d,u) (Y2 hv))
theorem Sat.cons {a:Act} {d:Nat} {v:Value} (hs:Sat N e a) (h:a.tmps[d]?=some v):Sat N ((d,v)::e) a:=⟨hs.defers,hs.size,fun t u ht=>by
  simp only [look] at ht
  cases hb:Nat.beq d t with
  | true =>
    rw [hb] at ht
    have:d=t:=Nat.eq_of_beq_eq_true hb
    subst this
    cases ht
    exact h
  | false =>
    rw [hb] at ht
    exact hs.at_ t u ht⟩
theorem RS.onE {pre:Env} {vals:List RV} {a:Act} (hs:RS N pre vals b a):∀ (ks:List Nat) (e:Env),(∀ k ∈ ks,b k=true)→Sat N e a→Sat N (Go.Proofs.YtjopfecenllmgaaGreatDoor.onE vals ks e) a
  | [],e,_,h=>h
  | k::r,e,hk,h=>by
    have ih:=RS.onE hs r e (fun k hk'=>hk k (List.mem_cons_of_mem _ hk')) h
    unfold Go.Proofs.YtjopfecenllmgaaGreatDoor.onE
    split
    · rename_i d v o hv
      exact ih.cons (hs.on k d v o hv (hk k List.mem_cons_self))
    · exact ih
theorem RS.dJ {pre:Env} {vals:List RV} {a:Act} (hs:RS N pre vals b a):∀ (ks:List Nat) (e:Env),(∀ k ∈ ks,b k=false)→Sat N e a→Sat N (Go.Proofs.YtjopfecenllmgaaGreatDoor.dJ vals ks e) a
  | [],e,_,h=>h
  | k::r,e,hk,h=>by
    have ih:=RS.dJ hs r e (fun k hk'=>hk k (List.mem_cons_of_mem _ hk')) h
    unfold Go.Proofs.YtjopfecenllmgaaGreatDoor.dJ
    split
    · rename_i d v u hv
      exact ih.cons (hs.off k d v u hv (hk k List.mem_cons_self))
    · exact ih
theorem RS.all {pre:Env} {vals:List RV} {a:Act} (hs:RS N pre vals b a) (hall:∀ j,j<ops.size→b j=true) (h:Nat.ble vals.length ops.size=true:=by kernel_rfl):Sat N (qN vals pre) a:=by
  have hl:vals.length≤ops.size:=Nat.le_of_ble_eq_true h
  suffices ∀ (r:List RV),(∀ d v o,some (d,v,o) ∈ r→a.tmps[d]?=some v)→Sat N (qN r pre) a by
    refine this vals fun d v o hm=>?_
    obtain ⟨i,hi⟩:=List.getElem?_of_mem hm
    have hlt:i<vals.length:=(List.getElem?_eq_some_iff.1 hi).1
    exact hs.on i d v o hi (hall i (by omega))
  intro r hr
  induction r with
  | nil=>exact hs.sat
  | cons x r ih =>
    have ih':=ih fun d v o hm=>hr d v o (List.mem_cons_of_mem _ hm)
    match x with
    | none=>exact ih'
    | some (d,v,o)=>exact ih'.cons (hr d v o List.mem_cons_self)
def FR (ops:Array Oper) (j:Nat) (a a':Act):Prop:=∃ v,a'.tmps=(a.put (Ro ops j) v).tmps
theorem oL {a:Act} (h:wpOps P ops (fun en a' w'=>en=.normal∧(FR ops j a a'→Q a' w')) [j] a w):wpOps P ops (fun en a' w'=>en=.normal∧Q a' w') [j] a w:=by
  rw [wpOps_cons] at h ⊢
  unfold wpOp at h ⊢
  cases ho:ops[j]? with
  | none =>
    rw [ho] at h
    exact ⟨h.1,h.2 ⟨undef,by simp [Ro,ho,Act.put]⟩⟩
  | some o =>
    rw [ho] at h
    simp only at h ⊢
    have hg:Ro ops j=o.dst:=by simp [Ro,ho]
    have key:∀ v w',(wpOps P ops (fun en a' w'=>en=.normal∧(FR ops j a a'→Q a' w')) [] (a.put o.dst v) w')→wpOps P ops (fun en a' w'=>en=.normal∧Q a' w') [] (a.put o.dst v) w':=fun v w' h=>⟨h.1,h.2 ⟨v,by rw [hg]⟩⟩
    split
    · rename_i hw
      rw [if_pos hw] at h
      rcases h with h | ⟨_,a0,w0,h0,_⟩
      · refine .inl ?_
        unfold Oper.wp at h ⊢
        revert h
        generalize (execOp a.eval o).run P w=r
        intro h
        cases r with
        | ok n w' =>
          cases n <;> simp only [Oper.upon] at h ⊢ <;> first
            | exact key _ _ h
            | exact Calls.mono h (fun e w'' he=>by cases e with
                | returned v=>exact key _ _ he
                | panicked c=>exact absurd he.1 (by simp)
                | outgrown=>obtain ⟨_,_,h,_⟩:=he; cases h)
            | exact Rows.mono h (fun _ _ he=>key _ _ he)
            | exact ⟨h.1,h.2 ⟨undef,by rw [hg]; simp [Act.put]; cases o.dst <;> rfl⟩⟩
        | halt x w'=>cases x <;> simp only [Oper.upon] at h ⊢ <;> first | exact h | exact absurd h.1 (by simp)
      · cases h0
    · rename_i hw
      rw [if_neg hw] at h
      exact key _ _ h
def AaR (ops:Array Oper) (j:Nat) (ks os:List Nat):Bool:=ks.all (waits ops j) && os.all (fun i=>Nat.beq i j || (Nat.blt i ops.size && waits ops i j))
theorem RS.at {pre:Env} {vals:List RV} {a:Act} (hs:RS N pre vals b a) (q:RQ ops j b) (ks os:List Nat) (g:GO P N ops [j] (Go.Proofs.YtjopfecenllmgaaGreatDoor.onE vals ks (Go.Proofs.YtjopfecenllmgaaGreatDoor.dJ vals os pre)) w (fun a' w'=>FR ops j a a'→Q a' w')) (ok:AaR ops j ks os=true:=by kernel_rfl) :
    wpOps P ops (fun en a' w'=>en=.normal∧Q a' w') [j] a w:=by
  unfold AaR at ok
  rw [Bool.and_eq_true] at ok
  refine oL (g a (hs.onE ks _ (fun k hk=>q.on k (List.all_eq_true.1 ok.1 k hk)) (hs.dJ os _ (fun k hk=>?_) hs.sat)))
  have h:=List.all_eq_true.1 ok.2 k hk
  rw [Bool.or_eq_true] at h
  rcases h with h | h
  · rw [Nat.eq_of_beq_eq_true h,q.hb]
  · exact q.off k h
def okD (ops:Array Oper) (j:Nat) (pre:Env) (vals:List RV):Bool:=match Ro ops j with
  | none=>true
  | some d=>pre.all (fun p=>!Nat.beq p.1 d) && (List.range vals.length).all fun i=>Nat.beq i j || (match vals[i]? with
    | some (some (d',_,_))=>!Nat.beq d' d
    | _=>true)
def mask:List Nat→Nat→List RV→List RV
  | D,i,[]=>[]
  | D,i,x::r=>(bif D.any (Nat.beq i) then x.map (fun p=>(p.1,undef,p.2.2)) else x)::mask D (i+1) r
theorem dC (D:List Nat):∀ (l:List RV) (i m:Nat),(mask D i l)[m]?=(l[m]?).map fun x=>bif D.any (Nat.beq (i+m)) then x.map (fun p=>(p.1,undef,p.2.2)) else x
  | [],_,_=>by simp [mask]
  | x::r,i,0=>by simp [mask]
  | x::r,i,m+1=>by
    rw [mask,List.getElem?_cons_succ,dC D r (i+1) m,List.getElem?_cons_succ]
    rw [show i+1+m=i+(m+1) by omega]
theorem FR.slot {a a':Act} {t:Nat} (h:FR ops j a a') (ht:Ro ops j≠some t):a'.tmps[t]?=a.tmps[t]?:=by
  obtain ⟨v,h⟩:=h
  rw [h]
  cases hd:Ro ops j with
  | none=>rfl
  | some d =>
    rw [hd] at ht
    have:d≠t:=fun e=>ht (by rw [e])
    simp [Act.put,Array.getElem?_setIfInBounds_ne this]
theorem RS.Tz {e':Env} {pre:Env} {vals vals':List RV} {a:Act} {d:Nat} {v:Value} {o:Option Value} (hs:RS N pre vals b a) (q:RQ ops j b) (D:List Nat) (g:∀ a',RS N pre vals' (upd b j) a'→Q a' w) (hm:mask D 0 vals=mask D 0 vals') (h:(vals'[j]?,look e' d)=(some (some (d,v,o)),some v))
    (ok:(okD ops j pre vals && D.all (fun i=>Nat.beq i j || (Nat.blt i ops.size && waits ops i j)))=true:=by kernel_rfl):GO P N ops [] e' w (fun a' w'=>FR ops j a a'→Q a' w'):=by
  refine GO.fin fun a' hs' fr=>g a' ?_
  simp only [Prod.mk.injEq] at h
  rw [Bool.and_eq_true] at ok
  obtain ⟨ok,okm⟩:=ok
  have hpre:∀ t v,look pre t=some v→Ro ops j≠some t:=by
    intro t v ht hd
    unfold okD at ok
    rw [hd] at ok
    simp only [Bool.and_eq_true] at ok
    have:=List.all_eq_true.1 ok.1 _ (W9 ht)
    simp at this
  have hval:∀ i d' v' o',vals[i]?=some (some (d',v',o'))→i≠j→Ro ops j≠some d':=by
    intro i d' v' o' hi hne hd
    unfold okD at ok
    rw [hd] at ok
    simp only [Bool.and_eq_true] at ok
    have hlt:i<vals.length:=(List.getElem?_eq_some_iff.1 hi).1
    have:=List.all_eq_true.1 ok.2 i (List.mem_range.2 hlt)
    rw [hi] at this
    simp at this
    exact hne this
  have hcmp:∀ i d' v' o',vals'[i]?=some (some (d',v',o'))→∃ v0,vals[i]?=some (some (d',v0,o'))∧(D.any (Nat.beq i)=false→v0=v'):=by
    intro i d' v' o' hi
    have hq:=congrArg (fun l=>l[i]?) hm
    simp only [dC,Nat.zero_add,hi] at hq
    cases hv:vals[i]? with
    | none=>rw [hv] at hq; simp at hq
    | some x =>
      rw [hv] at hq
      cases hD:D.any (Nat.beq i) with
      | false =>
        rw [hD] at hq
        simp at hq
        exact ⟨v',by rw [hq],fun _=>rfl⟩
      | true =>
        rw [hD] at hq
        match x with
        | none=>simp at hq
        | some (d0,v0,o0) =>
          simp at hq
          exact ⟨v0,by rw [hq.1,hq.2],fun h=>Bool.noConfusion h⟩
  refine ⟨⟨hs'.defers,hs'.size,fun t v ht=>by rw [fr.slot (hpre t v ht)]; exact hs.sat.at_ t v ht⟩,?_,?_⟩
  · intro i d' v' o' hi hbi
    by_cases hij:i=j
    · subst hij
      rw [h.1] at hi
      injection hi with hi
      injection hi with hi
      simp only [Prod.mk.injEq] at hi
      rw [← hi.1,← hi.2.1]
      exact hs'.at_ d v h.2
    · rw [upd_ne b hij] at hbi
      obtain ⟨v0,hv0,hsame⟩:=hcmp i d' v' o' hi
      rw [fr.slot (hval i d' v0 o' hv0 hij)]
      cases hD:D.any (Nat.beq i) with
      | false =>
        rw [← hsame hD]
        exact hs.on i d' v0 o' hv0 hbi
      | true =>
        obtain ⟨x,hx,he⟩:=List.any_eq_true.1 hD
        have hix:i=x:=Nat.eq_of_beq_eq_true he
        subst hix
        have:=List.all_eq_true.1 okm i hx
        rw [Bool.or_eq_true] at this
        rcases this with this | this
        · exact absurd (Nat.eq_of_beq_eq_true this) hij
        · exact (q.no i hbi this).elim
  · intro i d' v' u hi hbi
    have hij:i≠j:=fun e=>by rw [e,Rm] at hbi; cases hbi
    rw [upd_ne b hij] at hbi
    obtain ⟨v0,hv0,_⟩:=hcmp i d' v' _ hi
    rw [fr.slot (hval i d' v0 _ hv0 hij)]
    exact hs.off i d' v0 u hv0 hbi
theorem RS.fin {e':Env} {pre:Env} {vals:List RV} {a:Act} {d:Nat} {v:Value} {o:Option Value} (hs:RS N pre vals b a) (q:RQ ops j b) (h:(vals[j]?,look e' d)=(some (some (d,v,o)),some v)) (g:∀ a',RS N pre vals (upd b j) a'→Q a' w)
    (ok:okD ops j pre vals=true:=by kernel_rfl):GO P N ops [] e' w (fun a' w'=>FR ops j a a'→Q a' w') :=
  RS.Tz hs q [] g rfl h (by rw [ok]; rfl)
theorem RS.qO {e':Env} {pre:Env} {vals:List RV} {a:Act} (hs:RS N pre vals b a) (q:RQ ops j b) (h:(vals[j]?,Ro ops j)=(some none,none)) (g:∀ a',RS N pre vals (upd b j) a'→Q a' w):GO P N ops [] e' w (fun a' w'=>FR ops j a a'→Q a' w'):=by
  refine GO.fin fun a' hs' fr=>g a' ?_
  simp only [Prod.mk.injEq] at h
  have fr':∀ t,a'.tmps[t]?=a.tmps[t]?:=fun t=>fr.slot (by rw [h.2]; simp)
  refine ⟨⟨hs'.defers,hs'.size,fun t v ht=>by rw [fr']; exact hs.sat.at_ t v ht⟩,?_,?_⟩
  · intro i d' v' o' hi hbi
    have hij:i≠j:=fun e=>by rw [e,h.1] at hi; cases hi
    rw [upd_ne b hij] at hbi
    rw [fr']
    exact hs.on i d' v' o' hi hbi
  · intro i d' v' u hi hbi
    have hij:i≠j:=fun e=>by rw [e,h.1] at hi; cases hi
    rw [upd_ne b hij] at hbi
    rw [fr']
    exact hs.off i d' v' u hi hbi
end
theorem lp {K:Nat} {p:Nat→Prop} (h0:p 0) (hs:∀ n,n+1≤K→(∀ m,m≤n→p m)→p (n+1)):∀ m,m≤K→p m:=by
  intro m
  induction m using Nat.strongRecOn with
  | _ m ih =>
    intro hm
    cases m with
    | zero=>exact h0
    | succ n=>exact hs n hm fun i hi=>ih i (Nat.lt_succ_of_le hi) (Nat.le_trans hi (Nat.le_of_succ_le hm))
theorem jp {K:Nat} {p:Nat→Prop} (h0:p 0) (hs:∀ n,n+1≤K→p (n+1)):∀ m,m≤K→p m
  | 0,_=>h0
  | n+1,hm=>hs n hm
def gets (e:Env):Env→List (Option Value)
  | []=>[]
  | p::r=>look e p.1::gets e r
def gU:Env→List (Option Value)
  | []=>[]
  | p::r=>some p.2::gU r
theorem dP {e:Env}:∀ {e':Env},gets e e'=gU e'→Cov e e'
  | [],_=>trivial
  | p::r,h=>by
    unfold gets gU at h
    injection h with h1 h2
    exact ⟨h1,dP h2⟩
theorem gW {P:Program} {f:FuncId} {N:Nat} {e e':Env} {k:List Item} {w:World} {R:Ending→World→Prop} (g:G P f N e' k w R) (h:gets e e'=gU e'):G P f N e k w R:=g.weak (dP h)
abbrev uu {α:Type}:α→Unit:=fun _=>()
abbrev sb (b:Nat):Option Addr:=some ⟨b,0,none⟩
abbrev pT (b:Nat):Value:=.pointer (some ⟨b,0,none⟩)
abbrev sV {α:Type} (A:Option Addr) (xs:List α) (c:Nat):Value:=.slice A xs.length c
section
variable {α:Type} {T:Ty α} {ly:Nat→T.Lay} {w0 w:World} {L:List Cn} {A:Option Addr} {c:Nat} {xs:List α} {t:TypeId}
theorem ro (j:Nat) (hj:L[j]?=some (Own T t A c ly xs)):Av w0 L T A c ly xs:=Av.own hj
theorem rk (h:Av w0 L T A c ly xs) (HS:St w0 w L):0<xs.length→∃ b o,A=some ⟨b,o,none⟩:=(h _ HS).2.2.1
end
section
variable {P:Program} {f:FuncId} {N:Nat} {e:Env} {w0 w:World} {L:List Cn} {Q:Act→World→Prop} {ops:Array Oper} {i d:Nat} {rest:List Nat} {ty:TypeId} {ps:String} {af:Array Edge}
theorem iX {t el:TypeId} {x y:Operand} {A:Option Addr} {n c sz:Nat} {kd:IntKind} {m:Int} (h:(ops[i]?,ev e x,ev e y,Nat.blt d N)=(some ⟨some d,.indexAddr t x y,ty,ps,af,none⟩,some (.slice A n c),some (.int kd m),true)) (ht:P.underlying t=some (.slice el)) (hsz:(P.info? el).map (·.size)=some sz)
    (hA:0<n→∃ b o,A=some ⟨b,o,none⟩) (h0:0≤m∧m<(n:Int)) (g:GO P N ops rest ((d,.pointer (some (ea A (m.toNat * sz))))::e) w Q):GO P N ops (i::rest) e w Q:=by
  simp only [Prod.mk.injEq] at h
  exact GO.ix h.1 h.2.1 h.2.2.1 ht hsz hA h0.1 h0.2 h.2.2.2 g
end
end Go.Proofs.YtjopfecenllmgaaGreatDoor
