/-
  Small words of the walk: tests, names, guards, results, rows that take rows in.
  More of the operations: shifts, min and max, arrays behind pointers, slice expressions, copy.
  Maps from whole numbers to whole numbers.
  More: deletion out of a map, map literals; rows of rows that are made, that take a row in; rows of rows seen as rows of numbers.
-/
import Derived.Test.YtjopfecenllmgaaGreatDoorSlE
import Derived.Laws.Cover3
import Derived.MapKept
set_option linter.unusedSimpArgs false
set_option linter.unusedVariables false
namespace Go.Proofs.YtjopfecenllmgaaGreatDoor
open Go.RowKit
section
variable {α β:Type} {c:Prop} [Decidable c] {a b:Option α} {r:α}
theorem nV (h:(if c then a else b)=some r):(c∧a=some r)∨(¬ c∧b=some r):=by
  by_cases hc:c
  · rw [if_pos hc] at h; exact .inl ⟨hc,h⟩
  · rw [if_neg hc] at h; exact .inr ⟨hc,h⟩
theorem oG (h:(if c then a else none)=some r):c∧a=some r:=by
  by_cases hc:c
  · rw [if_pos hc] at h; exact ⟨hc,h⟩
  · rw [if_neg hc] at h; cases h
theorem Vb (h:(if c then none else b)=some r):¬ c∧b=some r:=by
  by_cases hc:c
  · rw [if_pos hc] at h; cases h
  · rw [if_neg hc] at h; exact ⟨hc,h⟩
def bnd (x:β) (f:β→Option α):Option α:=f x
theorem Cr {x:β} {f:β→Option α} (h:bnd x f=some r):∃ y,x=y∧f y=some r:=⟨x,rfl,h⟩
end
def Ed {α0 α1 β:Type} (x:Option (α0 × α1)) (f:α0→α1→Option β):Option β:=x.bind fun z=>f z.1 z.2
theorem Dt {α0 α1 β:Type} {x:Option (α0 × α1)} {f:α0→α1→Option β} {r:β} (h:Ed x f=some r):∃ a0 a1,x=some (a0,a1)∧f a0 a1=some r:=by
  obtain ⟨⟨a0,a1⟩,h1,h2⟩:=Option.bind_eq_some_iff.1 h
  exact ⟨a0,a1,h1,h2⟩
def M8 {α0 α1 α2 β:Type} (x:Option (α0 × α1 × α2)) (f:α0→α1→α2→Option β):Option β:=x.bind fun z=>f z.1 z.2.1 z.2.2
theorem M5 {α0 α1 α2 β:Type} {x:Option (α0 × α1 × α2)} {f:α0→α1→α2→Option β} {r:β} (h:M8 x f=some r):∃ a0 a1 a2,x=some (a0,a1,a2)∧f a0 a1 a2=some r:=by
  obtain ⟨⟨a0,a1,a2⟩,h1,h2⟩:=Option.bind_eq_some_iff.1 h
  exact ⟨a0,a1,a2,h1,h2⟩
def Jv {α0 α1 α2 α3 β:Type} (x:Option (α0 × α1 × α2 × α3)) (f:α0→α1→α2→α3→Option β):Option β:=x.bind fun z=>f z.1 z.2.1 z.2.2.1 z.2.2.2
theorem Hz {α0 α1 α2 α3 β:Type} {x:Option (α0 × α1 × α2 × α3)} {f:α0→α1→α2→α3→Option β} {r:β} (h:Jv x f=some r):∃ a0 a1 a2 a3,x=some (a0,a1,a2,a3)∧f a0 a1 a2 a3=some r:=by
  obtain ⟨⟨a0,a1,a2,a3⟩,h1,h2⟩:=Option.bind_eq_some_iff.1 h
  exact ⟨a0,a1,a2,a3,h1,h2⟩
def gZ {α0 α1 α2 α3 α4 β:Type} (x:Option (α0 × α1 × α2 × α3 × α4)) (f:α0→α1→α2→α3→α4→Option β):Option β:=x.bind fun z=>f z.1 z.2.1 z.2.2.1 z.2.2.2.1 z.2.2.2.2
theorem Ye {α0 α1 α2 α3 α4 β:Type} {x:Option (α0 × α1 × α2 × α3 × α4)} {f:α0→α1→α2→α3→α4→Option β} {r:β} (h:gZ x f=some r):∃ a0 a1 a2 a3 a4,x=some (a0,a1,a2,a3,a4)∧f a0 a1 a2 a3 a4=some r:=by
  obtain ⟨⟨a0,a1,a2,a3,a4⟩,h1,h2⟩:=Option.bind_eq_some_iff.1 h
  exact ⟨a0,a1,a2,a3,a4,h1,h2⟩
def V9 {α0 α1 α2 α3 α4 α5 α6 β:Type} (x:Option (α0 × α1 × α2 × α3 × α4 × α5 × α6)) (f:α0→α1→α2→α3→α4→α5→α6→Option β):Option β:=x.bind fun z=>f z.1 z.2.1 z.2.2.1 z.2.2.2.1 z.2.2.2.2.1 z.2.2.2.2.2.1 z.2.2.2.2.2.2
theorem Xk {α0 α1 α2 α3 α4 α5 α6 β:Type} {x:Option (α0 × α1 × α2 × α3 × α4 × α5 × α6)} {f:α0→α1→α2→α3→α4→α5→α6→Option β} {r:β} (h:V9 x f=some r):∃ a0 a1 a2 a3 a4 a5 a6,x=some (a0,a1,a2,a3,a4,a5,a6)∧f a0 a1 a2 a3 a4 a5 a6=some r:=by
  obtain ⟨⟨a0,a1,a2,a3,a4,a5,a6⟩,h1,h2⟩:=Option.bind_eq_some_iff.1 h
  exact ⟨a0,a1,a2,a3,a4,a5,a6,h1,h2⟩
theorem Nq {α0 α1:Type} {a0:α0} {a1:α1} {b0:α0} {b1:α1} (h:some (a0,a1)=some (b0,b1)):a0=b0∧a1=b1:=by cases h; exact ⟨rfl,rfl⟩
theorem Rb {α0 α1 α2:Type} {a0:α0} {a1:α1} {a2:α2} {b0:α0} {b1:α1} {b2:α2} (h:some (a0,a1,a2)=some (b0,b1,b2)):a0=b0∧a1=b1∧a2=b2:=by cases h; exact ⟨rfl,rfl,rfl⟩
theorem Kc {α0 α1 α2 α3:Type} {a0:α0} {a1:α1} {a2:α2} {a3:α3} {b0:α0} {b1:α1} {b2:α2} {b3:α3} (h:some (a0,a1,a2,a3)=some (b0,b1,b2,b3)):a0=b0∧a1=b1∧a2=b2∧a3=b3:=by cases h; exact ⟨rfl,rfl,rfl,rfl⟩
theorem tQ {α0 α1 α2 α3 α4:Type} {a0:α0} {a1:α1} {a2:α2} {a3:α3} {a4:α4} {b0:α0} {b1:α1} {b2:α2} {b3:α3} {b4:α4} (h:some (a0,a1,a2,a3,a4)=some (b0,b1,b2,b3,b4)):a0=b0∧a1=b1∧a2=b2∧a3=b3∧a4=b4:=by cases h; exact ⟨rfl,rfl,rfl,rfl,rfl⟩
theorem tZ {α0 α1 α2 α3 α4 α5 α6:Type} {a0:α0} {a1:α1} {a2:α2} {a3:α3} {a4:α4} {a5:α5} {a6:α6} {b0:α0} {b1:α1} {b2:α2} {b3:α3} {b4:α4} {b5:α5} {b6:α6} (h:some (a0,a1,a2,a3,a4,a5,a6)=some (b0,b1,b2,b3,b4,b5,b6)):a0=b0∧a1=b1∧a2=b2∧a3=b3∧a4=b4∧a5=b5∧a6=b6:=by cases h; exact ⟨rfl,rfl,rfl,rfl,rfl,rfl,rfl⟩
theorem Bt {b:Bool} (h:¬ b=true):b=false:=by cases b <;> simp_all
theorem ltN {i:Int} {n:Nat} (h:0≤i∧i<(n:Int)):i.toNat<n:=by omega
theorem Ba {α:Type} {xs:List α} {d e:α} {i:Nat} (h:i<xs.length) (he:xs.getD i d=e):xs[i]?=some e:=by rw [← he]; exact getD_some h
section
variable {P:Program} {f:FuncId} {N:Nat} {e:Env} {k:List Item} {w:World} {R:Ending→World→Prop} {Q:Act→World→Prop} {ops:Array Oper} {l:List Nat} {i:Nat} {rest:List Nat}
theorem G.name (h:∀ k',k'=k→G P f N e k' w R):G P f N e k w R:=h k rfl
theorem G.Qj {x:Item} (h:∀ k',k'=k→G P f N e (x::k') w R):G P f N e (x::k) w R:=h k rfl
theorem Sat.known {a:Act} {t:Nat} {x b:Bool} (hs:Sat N e a) (h:look e t=some (.bool x)) (hx:x=b):Sat N ((t,.bool b)::e) a:=by
  subst hx
  refine ⟨hs.defers,hs.size,fun s v hv=>?_⟩
  simp only [look] at hv
  cases hb:Nat.beq t s with
  | true=>rw [hb] at hv; have:=Nat.eq_of_beq_eq_true hb; subst this; cases hv; exact hs.at_ t _ h
  | false=>rw [hb] at hv; exact hs.at_ s v hv
theorem Sat.len {a:Act} {t n m c:Nat} {A:Option Addr} (hs:Sat N e a) (h:look e t=some (.slice A n c)) (hx:n=m):Sat N ((t,.slice A m c)::e) a:=by
  subst hx
  refine ⟨hs.defers,hs.size,fun s v hv=>?_⟩
  simp only [look] at hv
  cases hb:Nat.beq t s with
  | true=>rw [hb] at hv; have:=Nat.eq_of_beq_eq_true hb; subst this; cases hv; exact hs.at_ t _ h
  | false=>rw [hb] at hv; exact hs.at_ s v hv
theorem GO.known {t:Nat} {x b:Bool} (h:look e t=some (.bool x)) (hx:x=b) (g:GO P N ops l ((t,.bool b)::e) w Q):GO P N ops l e w Q:=fun a hs=>g a (hs.known h hx)
theorem G.len {t n m c:Nat} {A:Option Addr} (h:look e t=some (.slice A n c)) (hx:n=m) (g:G P f N ((t,.slice A m c)::e) k w R):G P f N e k w R:=fun a hs=>g a (hs.len h hx)
theorem GO.on {o:Oper} {j t:Nat} {b:Bool} (ho:ops[i]?=some o) (hg:o.guard=some (j,b)) (hj:Ro ops j=some t) (hb:look e t=some (.bool b))
    (g:GO P N #[{ o with guard:=none }] [0] e w (fun a' w'=>wpOps P ops (fun en a w=>en=.normal∧Q a w) rest a' w')):GO P N ops (i::rest) e w Q:=by
  intro a hs
  have h1:=hs.at_ t _ hb
  have h2:(ops[j]?).bind (·.dst)=some t:=hj
  have hw:Region.wanted o (yielded ops a.tmps)=true:=by
    simp only [Region.wanted,hg,yielded,h2]
    simp [h1]
  have h3:=g a hs
  have hw':Region.wanted { o with guard:=none } (yielded #[{ o with guard:=none }] a.tmps)=true:=rfl
  rw [wpOps_cons] at h3 ⊢
  unfold wpOp at h3 ⊢
  rw [ho]
  simp only [hw,if_true]
  have ho':(#[{ o with guard:=none }]:Array Oper)[0]?=some { o with guard:=none }:=rfl
  rw [ho'] at h3
  simp only [hw',if_true] at h3
  rcases h3 with h3 | ⟨_,a0,w0,h0,_⟩
  · refine .inl ?_
    have hmono:=Oper.wp_mono (P:=P) (K':=wpOps P ops (fun en a w=>en=.normal∧Q a w) rest) (fun a w h=>h.2) h3
    have he:execOp a.eval { o with guard:=none }=execOp a.eval o:=rfl
    unfold Oper.wp at hmono ⊢
    rw [he] at hmono
    revert hmono
    generalize (execOp a.eval o).run P w=r
    intro hmono
    cases r with
    | ok n w' =>
      cases n <;> simp only [Oper.upon] at hmono ⊢ <;> first
        | exact hmono
        | exact Calls.mono hmono (fun e w'' he=>by cases e with
            | returned v=>exact he
            | panicked c=>exact absurd he.1 (by simp)
            | outgrown=>obtain ⟨_,_,h,_⟩:=he; cases h)
    | halt x w'=>cases x <;> simp only [Oper.upon] at hmono ⊢ <;> first | exact hmono | exact absurd hmono.1 (by simp)
  · cases h0
theorem GO.back {o:Oper} (g:GO P N ops rest e w Q):GO P N #[o] [] e w (fun a' w'=>wpOps P ops (fun en a w=>en=.normal∧Q a w) rest a' w'):=fun a hs=>⟨rfl,g a hs⟩
theorem GO.Od {o:Oper} {d j t:Nat} {b:Bool} (ho:ops[i]?=some o) (hg:o.guard=some (j,b)) (hj:Ro ops j=some t) (hb:look e t=some undef) (hd:o.dst=some d) (hN:Nat.blt d N=true)
    (g:GO P N ops rest ((d,undef)::e) w Q):GO P N ops (i::rest) e w Q:=by
  intro a hs
  have h1:=hs.at_ t _ hb
  have h2:(ops[j]?).bind (·.dst)=some t:=hj
  have hw:Region.wanted o (yielded ops a.tmps)=false:=by
    simp only [Region.wanted,hg,yielded,h2]
    simp [h1,undef]
  simp only [wpOps,ho,hw,hd]
  exact g _ (hs.put hN undef)
theorem G.at {a:Act} (hs:Sat N e a) (g:G P f N e k w R):Oy P f k R a w:=g a hs
end
theorem htA {P:Program} {t:TypeId} {n:Nat} {b:Bool} (h:agB P t n=true):(naB P t && b || agB P t n)=true:=by rw [h,Bool.or_true]
theorem htN {P:Program} {t:TypeId} {n:Nat} {b:Bool} (h:naB P t=true) (hb:b=true):(naB P t && b || agB P t n)=true:=by rw [h,hb]; rfl
theorem Qd {xs n:Nat} (h:Nat.ble xs n=true):xs≤n:=Nat.le_of_ble_eq_true h
section
variable {w0 w:World} {L:List Cn} {b j:Nat} {t:TypeId} {cs:List Value}
theorem St.emp (h:St w0 w L):St w0 w (Emp::L):=⟨h.below,fun _=>False,fun k=>w0.heap.size≤k∧k<w.heap.size,fun _ h=>h.elim,fun _ h=>h,fun _ h=>h.elim,trivial,h.sep⟩
theorem Si {l:List Cn} {i:Nat} {x:Cn} (h:l[i]?=some x):l.set i x=l:=by
  apply List.ext_getElem?
  intro m
  by_cases hm:i=m
  · subst hm; rw [List.getElem?_set_self (List.getElem?_eq_some_iff.1 h).1,h]
  · rw [List.getElem?_set_ne hm]
theorem St.Li {cs':List Value} (h:St w0 w L) (hj:L[j]?=some (Box b t cs)) (he:cs=cs'):St w0 w (L.set j (Box b t cs')):=by
  subst he; rw [Si hj]; exact h
theorem Iq.Ji {P:Program} {e:Env} {s:Nat} {ty tb:TypeId} {vs:List Value} (HS:St w0 w L) (hj:L[j]?=some (Box b tb cs)) (hx:look e s=some (.pointer (some ⟨b,0,none⟩))) (hv:cs.take vs.length=vs) (ht:agB P ty vs.length=true):Iq P w e (.cell s ty) (.agg vs.toArray):=by
  refine ⟨_,hx,Ue ht (fun m u hu=>?_)⟩
  rw [Ia,Nat.zero_add]
  refine HS.Uw hj ?_
  rw [← hv,List.getElem?_take] at hu
  split at hu
  · exact hu
  · cases hu
end
section
variable {α:Type} {T:Ty α} {P:Program} {N:Nat} {e:Env} {w0 w:World} {L:List Cn} {Q:Act→World→Prop} {ops:Array Oper} {i d:Nat} {rest:List Nat} {ty:TypeId} {ps:String} {af:Array Edge}
theorem Wi (t ty el:TypeId) (inf:TypeInfo) (ht:P.underlying t=some (.slice el)) (hi:P.info? el=some inf) {v:Value} {n c size:Nat} {xs:List Value} (hown:OR w el size v n xs):(Builtin.append_ #[t,t] ty #[v,.slice none 0 c]).run P w=.ok v w:=by
  rcases hown.2 with ⟨rfl,rfl⟩ | ⟨g,o,cap,cur,rfl,_,hnc,_⟩
  · simp [Builtin.append_,run_underlying ht,sizeOf,typeInfo,hi,Builtin.lenOf,Builtin.firstCells]
  · simp [Builtin.append_,run_underlying ht,sizeOf,typeInfo,hi,Builtin.lenOf,Builtin.firstCells,hnc,storeCells]
theorem GO.Wh {t el:TypeId} {x y:Operand} {A B:Option Addr} {c cb j:Nat} {ly ly2:Nat→T.Lay} {xs ys:List α} {z:Value} {bytes:Nat} (HS:St w0 w L) (hj:L[j]?=some (Own T el A c ly xs)) (hr:Av w0 L T B cb ly2 ys) (hfl:Flat T) (ho:ops[i]?=some ⟨some d,.call { callee:=.builtin .append,args:=#[x,y],argTypes:=#[t,t] },ty,ps,af,none⟩) (hx:ev e x=some (.slice A xs.length c)) (hy:ev e y=some (.slice B ys.length cb))
    (ht:P.underlying t=some (.slice el)) (hinf:(P.info? el).map (fun i=>(i.zero,i.size,i.bytes))=some (some z,T.sz,bytes)) (hz:(z.cells.size == T.sz)=true) (hs0:Nat.blt 0 T.sz=true) (hb0:Nat.blt 0 bytes=true) (hm:(xs.length+ys.length) * bytes≤140737488355328) (hN:Nat.blt d N=true)
    (hly:∀ k,ly2 k=ly (xs.length+k):=by intro _; rfl)
    (g:∀ A' c' w',St w0 w' (L.set j (Own T el A' c' ly (xs++ys)))→GO P N ops rest ((d,.slice A' (xs++ys).length c')::e) w' Q):GO P N ops (i::rest) e w Q:=by
  obtain ⟨inf,hi,hzz⟩:=Option.map_eq_some_iff.1 hinf
  simp only [Prod.mk.injEq] at hzz
  obtain ⟨hz0,hz1,hz2⟩:=hzz
  have hs0':0<T.sz:=Nat.le_of_ble_eq_true hs0
  have hb0':0<bytes:=Nat.le_of_ble_eq_true hb0
  have hmm:xs.length+ys.length≤140737488355328:=Nat.le_trans (Nat.le_mul_of_pos_right _ hb0') hm
  obtain ⟨q,_,ho1⟩:=HS.get hj
  obtain ⟨q1,q2,h1,h2,hd,hown,hb,hs⟩:=ho1
  obtain ⟨hle,hcm,hA,hcell,_⟩:=hr w HS
  rcases Nat.eq_zero_or_pos ys.length with h0 | h0
  · obtain rfl:=List.eq_nil_of_length_eq_zero h0
    cases B with
    | none =>
      have hrun:=Wi (P:=P) (w:=w) t ty el inf ht hi (c:=cb) hown
      have hst:St w0 w (L.set j (Own T el A c ly (xs++[]))):=by rw [List.append_nil,Si hj]; exact HS
      refine GO.val (.slice A (xs++([]:List α)).length c) ho rfl rfl hN (fun a hs=>by
        simp only [execOp,resolve,invoke,builtin,Sem.run_bind,Sem.run_pure,Result.andThen_ok,List.map_toArray,List.map_cons,List.map_nil,hs.ev hx,hs.ev hy,List.length_nil,hrun,List.append_nil]) (g A c w hst)
    | some ad =>
      have hcells:∀ m u,([]:List Value)[m]?=some u→w.cell? (ad.add m)=some u:=fun m u hu=>by simp at hu
      obtain ⟨v',w',hrn,hown',hg,hat⟩:=Pk (P:=P) w t ty el inf z T.sz bytes ht hi hz0 hz1 hz2 (by simpa using hz) hs0' _ _ _ hown ad 0 cb [] (by simp) hcells (fun u hu=>by cases hu) (by simp only [maxLen]; omega) (by simpa using hm)
      obtain ⟨A',c',rfl⟩:=hown'.slice
      rw [List.append_nil] at hown'
      have hst:=HS.appended hj hfl (zs:=xs) rfl hown' hg hat
      refine GO.val (.slice A' (xs++([]:List α)).length c') ho rfl rfl hN (fun a hs=>by
        simp only [execOp,resolve,invoke,builtin,Sem.run_bind,Sem.run_pure,Result.andThen_ok,List.map_toArray,List.map_cons,List.map_nil,hs.ev hx,hs.ev hy,List.length_nil,hrn,List.append_nil]; rfl) (g A' c' w' (by rw [List.append_nil]; exact hst))
  · obtain ⟨b,o,hB⟩:=hA h0
    subst hB
    have hcells:∀ m u,(rc T ly2 0 ys)[m]?=some u→w.cell? ((⟨b,o,none⟩:Addr).add m)=some u:=fun m u hu=>hcell m u hu
    obtain ⟨v',w',hrn,hown',hg,hat⟩:=Pk (P:=P) w t ty el inf z T.sz bytes ht hi hz0 hz1 hz2 (by simpa using hz) hs0' _ _ _ hown ⟨b,o,none⟩ ys.length cb (rc T ly2 0 ys) (Ec _ _) hcells (fun u hu=>Vq hu) (by simp only [maxLen]; omega) hm
    obtain ⟨A',c',rfl⟩:=hown'.slice
    have hrc:rc T ly 0 xs++rc T ly2 0 ys=rc T ly 0 (xs++ys):=by
      rw [H8,Nat.zero_add]
      congr 1
      have key:∀ (ys:List α) (i:Nat),rc T ly2 i ys=rc T ly (xs.length+i) ys:=by
        intro ys
        induction ys with
        | nil=>intro i; rfl
        | cons y r ih=>intro i; rw [rc,rc,ih,hly i]; rfl
      exact key ys 0
    rw [hrc] at hown'
    have hlen:xs.length+ys.length=(xs++ys).length:=by rw [List.length_append]
    have hst:=HS.appended hj hfl hlen hown' hg hat
    refine GO.val (.slice A' (xs++ys).length c') ho rfl rfl hN (fun a hs=>by
      simp only [execOp,resolve,invoke,builtin,Sem.run_bind,Sem.run_pure,Result.andThen_ok,List.map_toArray,List.map_cons,List.map_nil,hs.ev hx,hs.ev hy,hrn,← hlen]) (g A' c' w' hst)
theorem GO.dW {β:Type} {S:Ty β} {u t el tb:TypeId} {x y:Operand} {A A2:Option Addr} {c c2 b:Nat} {ly:Nat→Vj S.Lay} {ly2:Nat→S.Lay} {xs:List (List β)} {ys:List β} {z:Value} {bytes:Nat} (HS:St w0 w (Own (Ty.slice u S) el A c ly xs::Box b tb [.slice A2 ys.length c2]::Own S u A2 c2 ly2 ys::L)) (ho:ops[i]?=some ⟨some d,.call { callee:=.builtin .append,args:=#[x,y],argTypes:=#[t,t] },ty,ps,af,none⟩) (hx:ev e x=some (.slice A xs.length c)) (hy:ev e y=some (.slice (some ⟨b,0,none⟩) 1 1))
    (ht:P.underlying t=some (.slice el)) (hinf:(P.info? el).map (fun i=>(i.zero,i.size,i.bytes))=some (some z,1,bytes)) (hz:(z.cells.size == 1)=true) (hb0:Nat.blt 0 bytes=true) (hm:(xs.length+1) * bytes≤140737488355328) (hN:Nat.blt d N=true)
    (g:∀ A' c' (ly':Nat→Vj S.Lay) w',St w0 w' (Own (Ty.slice u S) el A' c' ly' (xs++[ys])::Box b tb [.slice A2 ys.length c2]::L)→GO P N ops rest ((d,.slice A' (xs++[ys]).length c')::e) w' Q):GO P N ops (i::rest) e w Q:=by
  obtain ⟨inf,hi,hzz⟩:=Option.map_eq_some_iff.1 hinf
  simp only [Prod.mk.injEq] at hzz
  obtain ⟨hz0,hz1,hz2⟩:=hzz
  have hb0':0<bytes:=Nat.le_of_ble_eq_true hb0
  have hmm:xs.length+1≤140737488355328:=Nat.le_trans (Nat.le_mul_of_pos_right _ hb0') hm
  obtain ⟨hbel,q,r,hq,hr,hqr,⟨q1,q2,h1,h2,hd,hown,hb,hs⟩,qb,rb,hqb,hrb,hbd,⟨hbq,hbx⟩,qe,re,hqe,hre,hed,hoe,hL⟩:=HS
  have hcells:∀ m v,([.slice A2 ys.length c2]:List Value)[m]?=some v→w.cell? ((⟨b,0,none⟩:Addr).add m)=some v:=fun m v hv=>by
    rw [Ia,Nat.zero_add,cell_of_row w b m _ tb (0,0) hbx]
    simpa using hv
  obtain ⟨v',w',hrn,hown',hg,hat⟩:=Pk (P:=P) w t ty el inf z 1 bytes ht hi hz0 hz1 hz2 (by simpa using hz) (by decide) _ _ _ hown ⟨b,0,none⟩ 1 1 [.slice A2 ys.length c2] rfl hcells (fun v hv=>by rw [List.mem_singleton.1 hv]; rfl) (by simp only [maxLen]; omega) hm
  obtain ⟨A',c',rfl⟩:=hown'.slice
  let ly':Nat→Vj S.Lay:=fun k=>if k=xs.length then ⟨A2,c2,ly2⟩ else ly k
  have hlen:xs.length+1=(xs++[ys]).length:=by simp
  have hcg:rc (Ty.slice u S) ly 0 xs=rc (Ty.slice u S) ly' 0 xs:=Qu (fun k _ hk=>by simp only [ly']; rw [if_neg (by omega)])
  have hrc:rc (Ty.slice u S) ly 0 xs++[.slice A2 ys.length c2]=rc (Ty.slice u S) ly' 0 (xs++[ys]):=by
    refine (congrArg (·++[Value.slice A2 ys.length c2]) hcg).trans ((H8 (T:=Ty.slice u S) (ly:=ly') 0 xs [ys]).trans ?_).symm
    refine congrArg (rc (Ty.slice u S) ly' 0 xs++·) ?_
    simp [rc,ly']
  rw [hrc,hlen] at hown'
  rw [hlen] at hrn hat
  refine GO.val _ ho rfl rfl hN (fun a hs=>by simp only [execOp,resolve,invoke,builtin,Sem.run_bind,Sem.run_pure,Result.andThen_ok,List.map_toArray,List.map_cons,List.map_nil,hs.ev hx,hs.ev hy,hrn]) (g A' c' ly' w' ?_)
  have hkeep:∀ k,k<w.heap.size→¬ q1 k→w'.heap[k]?=w.heap[k]?:=fun k hk hn=>hg.block k hk (fun e=>hn (hb k e.symm))
  have hlt:=hown'.lt
  refine ⟨hbel.trans ⟨hg.os,hg.tape,hg.output,hg.size,fun k hk=>hkeep k (Nat.lt_of_lt_of_le hk hbel.size) (fun hk1=>by have:=hq k (h1 k hk1); omega)⟩,fun k=>q k∨qe k∨(w.heap.size≤k∧k<w'.heap.size),fun k=>qb k∨re k,?_,?_,?_,⟨fun k=>q1 k∨(w.heap.size≤k∧k<w'.heap.size),fun k=>q2 k∨qe k,?_,?_,?_,hown',?_,?_⟩,qb,re,fun k hk=>.inl hk,fun k hk=>.inr hk,?_,⟨hbq,?_⟩,?_⟩
  · intro k hk
    have hsz:=hg.size
    have hB:=hbel.size
    rcases hk with hk | hk | hk
    · have:=hq k hk; omega
    · have:=hr k (hrb k (hqe k hk)); omega
    · omega
  · intro k hk
    have hsz:=hg.size
    rcases hk with hk | hk
    · have:=hr k (hqb k hk); omega
    · have:=hr k (hrb k (hre k hk)); omega
  · intro k hk hn
    rcases hk with hk | hk | hk
    · rcases hn with hn | hn
      · exact hqr k hk (hqb k hn)
      · exact hqr k hk (hrb k (hre k hn))
    · rcases hn with hn | hn
      · exact hbd k hn (hqe k hk)
      · exact hed k hk hn
    · rcases hn with hn | hn
      · have:=hr k (hqb k hn); omega
      · have:=hr k (hrb k (hre k hn)); omega
  · intro k hk; rcases hk with hk | hk
    · exact .inl (h1 k hk)
    · exact .inr (.inr hk)
  · intro k hk; rcases hk with hk | hk
    · exact .inl (h2 k hk)
    · exact .inr (.inl hk)
  · intro k hk hn
    rcases hk with hk | hk
    · rcases hn with hn | hn
      · exact hd k hk hn
      · exact hqr k (h1 k hk) (hrb k (hqe k hn))
    · rcases hn with hn | hn
      · have:=hq k (h2 k hn); omega
      · have:=hr k (hrb k (hqe k hn)); omega
  · intro k hk
    rcases hat k hk with e | e
    · exact .inl (hb k e)
    · exact .inr ⟨e,hlt k hk⟩
  · have hs1:G9 (Ty.slice u S) w' ly' 0 xs q2:=(hs.loc (fun k hk=>hkeep k (hq k (h2 k hk)).2 (fun h=>hd k h hk))).congr (fun k _ hk=>by simp only [ly']; rw [if_neg (by omega)])
    refine G9.snoc hs1 ?_ (fun k hk hn=>hqr k (h2 k hk) (hrb k (hqe k hn)))
    show Qk S u (ly' (0+xs.length)).A (ly' (0+xs.length)).c (ly' (0+xs.length)).ly ys w' qe
    have:ly' (0+xs.length)=⟨A2,c2,ly2⟩:=by simp [ly']
    rw [this]
    exact Qk.loc hoe (fun k hk=>hkeep k (hr k (hrb k (hqe k hk))).2 (fun h=>hqr k (h1 k h) (hrb k (hqe k hk))))
  · intro k hk hn; exact hbd k hk (hre k hn)
  · rw [hkeep b (hr b (hqb b hbq)).2 (fun h=>hqr b (h1 b h) (hqb b hbq))]; exact hbx
  · exact hL.loc (fun k hk=>hkeep k (hr k (hrb k (hre k hk))).2 (fun h=>hqr k (h1 k h) (hrb k (hre k hk))))
end
section
variable {P:Program} {N:Nat} {e:Env} {w:World} {Q:Act→World→Prop} {ops:Array Oper} {i d:Nat} {rest:List Nat} {ty:TypeId} {ps:String} {af:Array Edge}
theorem GO.shr {t t':TypeId} {x y:Operand} {kd kd':IntKind} {m n:Int} (ho:ops[i]?=some ⟨some d,.binOp .shr t x y t',ty,ps,af,none⟩) (hx:ev e x=some (.int kd m)) (hy:ev e y=some (.int kd' n)) (h0:0≤n) (h1:n≤(kd.bits:Int)) (hN:Nat.blt d N=true)
    (g:GO P N ops rest ((d,.int kd (m / 2 ^ n.toNat))::e) w Q):GO P N ops (i::rest) e w Q :=
  GO.val _ ho rfl rfl hN (fun a hs=>by simp [execOp,hs.ev hx,hs.ev hy,eqGuard,binOp,shift_shr kd kd' m n h0 h1]) g
theorem GO.max2 {t u:TypeId} {x y:Operand} {kd:IntKind} {m n:Int} (ho:ops[i]?=some ⟨some d,.call { callee:=.builtin .max,args:=#[x,y],argTypes:=#[t,u] },ty,ps,af,none⟩) (hx:ev e x=some (.int kd m)) (hy:ev e y=some (.int kd n)) (hN:Nat.blt d N=true)
    (g:GO P N ops rest ((d,.int kd (if n > m then n else m))::e) w Q):GO P N ops (i::rest) e w Q :=
  GO.val _ ho rfl rfl hN (fun a hs=>by simp [execOp,resolve,invoke,builtin,hs.ev hx,hs.ev hy,run_max_int2]) g
theorem GO.min2 {t u:TypeId} {x y:Operand} {kd:IntKind} {m n:Int} (ho:ops[i]?=some ⟨some d,.call { callee:=.builtin .min,args:=#[x,y],argTypes:=#[t,u] },ty,ps,af,none⟩) (hx:ev e x=some (.int kd m)) (hy:ev e y=some (.int kd n)) (hN:Nat.blt d N=true)
    (g:GO P N ops rest ((d,.int kd (if n<m then n else m))::e) w Q):GO P N ops (i::rest) e w Q :=
  GO.val _ ho rfl rfl hN (fun a hs=>by simp [execOp,resolve,invoke,builtin,hs.ev hx,hs.ev hy,run_min_int2]) g
theorem GO.ixP {t el:TypeId} {x y:Operand} {b off len sz:Nat} {kd:IntKind} {m:Int} (n:Nat) (ho:ops[i]?=some ⟨some d,.indexAddr t x y,ty,ps,af,none⟩) (hx:ev e x=some (.pointer (some ⟨b,off,none⟩))) (hy:ev e y=some (.int kd m)) (hm:m=(n:Int)) (ht:P.underlying t=some (.array len el)) (hsz:(P.info? el).map (·.size)=some sz)
    (hl:Nat.blt n len=true) (hN:Nat.blt d N=true) (g:GO P N ops rest ((d,.pointer (some ⟨b,off+n * sz,none⟩))::e) w Q):GO P N ops (i::rest) e w Q:=by
  subst hm
  have hl':n<len:=Nat.le_of_ble_eq_true hl
  refine GO.val _ ho rfl rfl hN (fun a hs=>?_) g
  obtain ⟨inf,hi,hi2⟩:=Option.map_eq_some_iff.1 hsz
  have h1:(0:Int)≤(n:Int)∧(n:Int)<(len:Int):=⟨by omega,by omega⟩
  simp [execOp,hs.ev hx,hs.ev hy,Instr.indexAt,Instr.sureAddr,asIntOf,run_underlying ht,h1,sizeOf,typeInfo,hi,hi2,Ia,hl']
end
def Ja (A:Option Addr) (l c s:Nat):Option Addr:=if c=l then A else A.map (·.add (l * s))
section
variable {α:Type} {T:Ty α} {P:Program} {N:Nat} {e:Env} {w0 w:World} {L:List Cn} {Q:Act→World→Prop} {ops:Array Oper} {i d:Nat} {rest:List Nat} {ty:TypeId} {ps:String} {af:Array Edge} {ly:Nat→T.Lay} {A:Option Addr} {c:Nat} {xs:List α}
theorem Xd:∀ (l i:Nat) (xs:List α),rc T (fun k=>ly (l+k)) i xs=rc T ly (l+i) xs
  | _,_,[]=>rfl
  | l,i,x::r=>by rw [rc,rc,Xd l (i+1) r,Nat.add_assoc]
theorem Rd.cut {l h:Nat} (hr:Rd T w A c ly xs) (hlh:l≤h) (hh:h≤xs.length):Rd T w (Ja A l c T.sz) (c - l) (fun k=>ly (l+k)) ((xs.take h).drop l):=by
  obtain ⟨h1,h2,h3,h4,h5⟩:=hr
  have hlen:((xs.take h).drop l).length=h - l:=by rw [List.length_drop,List.length_take]; omega
  refine ⟨by rw [hlen]; omega,by omega,fun hp=>?_,fun j u hu=>?_,fun j x hx=>?_⟩
  · rw [hlen] at hp
    obtain ⟨b,o,rfl⟩:=h3 (by omega)
    exact ⟨b,o+l * T.sz,by unfold Ja; rw [if_neg (by omega)]; exact congrArg some (Ia b o _)⟩
  · have hp:0<h - l:=by
      rcases Nat.eq_zero_or_pos (h - l) with h0 | h0
      · rw [List.eq_nil_of_length_eq_zero (hlen.trans h0)] at hu
        simp [rc] at hu
      · exact h0
    have he:ea (Ja A l c T.sz) j=ea A (l * T.sz+j):=by
      obtain ⟨b,o,rfl⟩:=h3 (by omega)
      unfold Ja
      rw [if_neg (by omega)]
      exact addr_add_add _ _ _
    rw [he]
    apply h4
    rw [Xd,Nat.add_zero] at hu
    have hsplit:xs=(xs.take l)++((xs.take h).drop l)++xs.drop h:=by
      rw [List.drop_take,List.append_assoc]
      have:List.take (h - l) (List.drop l xs)++List.drop h xs=List.drop l xs:=by
        have:=List.take_append_drop (h - l) (List.drop l xs)
        rwa [List.drop_drop,show l+(h - l)=h by omega] at this
      rw [this,List.take_append_drop]
    rw [hsplit,H8,H8]
    have hl2:(rc T ly 0 (xs.take l)).length=l * T.sz:=by rw [Ec,List.length_take,Nat.min_eq_left (by omega)]
    have hlt:(xs.take l).length=l:=by rw [List.length_take,Nat.min_eq_left (by omega)]
    rw [hlt,Nat.zero_add,List.append_assoc,List.getElem?_append_right (by rw [hl2]; omega),hl2,Nat.add_sub_cancel_left,List.getElem?_append_left (List.getElem?_eq_some_iff.1 hu).1]
    exact hu
  · rw [List.getElem?_drop,List.getElem?_take] at hx
    split at hx
    · exact h5 _ _ hx
    · cases hx
theorem Av.cut {l h:Nat} (hr:Av w0 L T A c ly xs) (hlh:l≤h) (hh:h≤xs.length):Av w0 L T (Ja A l c T.sz) (c - l) (fun k=>ly (l+k)) ((xs.take h).drop l):=fun w hs=>(hr w hs).cut hlh hh
theorem iM {t el:TypeId} {inf:TypeInfo} (ht:P.underlying t=some (.slice el)) (hi:P.info? el=some inf) (hle:xs.length≤c) {kl kh:IntKind} {l h:Int} (lo hi':Option Value) (hlo:(lo=none∧l=0)∨lo=some (.int kl l)) (hhi:(hi'=none∧h=xs.length)∨hi'=some (.int kh h)) (h0:0≤l) (h1:l≤h) (h2:h≤(xs.length:Int)) :
    (Instr.sliceAt t (.slice A xs.length c) lo hi' none).run P w=.ok (.slice (Ja A l.toNat c inf.size) (h.toNat - l.toNat) (c - l.toNat)) w:=by
  have eh:(h.toNat:Int)=h:=Int.toNat_of_nonneg (by omega)
  have hc:h≤(c:Int):=by omega
  have he:P.elem t=el:=by simp [Program.elem,ht]
  have ht':P.underlying t=some (.slice (P.elem t)):=by rw [he]; exact ht
  have hs:(sizeOf (P.elem t)).run P w=.ok inf.size w:=by rw [he]; simp [sizeOf,typeInfo,hi]
  have h4:0≤h:=by omega
  have hN:l.toNat≤h.toNat∧h.toNat≤xs.length∧h.toNat≤c:=by omega
  rw [run_sliceAt_slice (h:=ht')]
  rcases hlo with ⟨rfl,rfl⟩ | rfl <;> rcases hhi with ⟨rfl,rfl⟩ | rfl
  · simp [Instr.slice,run_underlying ht',Instr.sliceBounds,run_sliceBound,hs,Ja,hle]
  · simp [Instr.slice,run_underlying ht',Instr.sliceBounds,run_sliceBound,hs,Ja,hle,h4,hc,eh,hN]
  · simp [Instr.slice,run_underlying ht',Instr.sliceBounds,run_sliceBound,hs,Ja,hle,h0,h1]
  · simp [Instr.slice,run_underlying ht',Instr.sliceBounds,run_sliceBound,hs,Ja,hle,h0,h1,h4,hc,eh,hN]
section
variable {t el:TypeId} {x y z:Operand} {kl kh:IntKind} {l h:Int}
theorem rJ (h0:0≤l) (h1:l≤h) (h2:h≤(xs.length:Int)):((xs.take h.toNat).drop l.toNat).length=h.toNat - l.toNat:=by rw [List.length_drop,List.length_take]; omega
theorem GO.slL (HS:St w0 w L) (hr:Av w0 L T A c ly xs) (ho:ops[i]?=some ⟨some d,.slice t x (some y) none none,ty,ps,af,none⟩) (hx:ev e x=some (.slice A xs.length c)) (hy:ev e y=some (.int kl l))
    (ht:P.underlying t=some (.slice el)) (hsz:(P.info? el).map (·.size)=some T.sz) (h0:0≤l) (h2:l≤(xs.length:Int)) (hN:Nat.blt d N=true)
    (g:GO P N ops rest ((d,.slice (Ja A l.toNat c T.sz) ((xs.take xs.length).drop l.toNat).length (c - l.toNat))::e) w Q):GO P N ops (i::rest) e w Q:=by
  obtain ⟨inf,hi,hi2⟩:=Option.map_eq_some_iff.1 hsz
  refine GO.val _ ho rfl rfl hN (fun a hs=>?_) g
  have:=iM (P:=P) (w:=w) (A:=A) (kh:=.i64) ht hi (hr w HS).1 (some (.int kl l)) none (.inr rfl) (.inl ⟨rfl,rfl⟩) h0 h2 (Int.le_refl _)
  simp [execOp,hs.ev hx,hs.ev hy,this,hi2]
theorem GO.slH (HS:St w0 w L) (hr:Av w0 L T A c ly xs) (ho:ops[i]?=some ⟨some d,.slice t x none (some z) none,ty,ps,af,none⟩) (hx:ev e x=some (.slice A xs.length c)) (hz:ev e z=some (.int kh h))
    (ht:P.underlying t=some (.slice el)) (hsz:(P.info? el).map (·.size)=some T.sz) (h0:0≤h) (h2:h≤(xs.length:Int)) (hN:Nat.blt d N=true)
    (g:GO P N ops rest ((d,.slice (Ja A 0 c T.sz) ((xs.take h.toNat).drop 0).length (c - 0))::e) w Q):GO P N ops (i::rest) e w Q:=by
  obtain ⟨inf,hi,hi2⟩:=Option.map_eq_some_iff.1 hsz
  refine GO.val _ ho rfl rfl hN (fun a hs=>?_) g
  have:=iM (P:=P) (w:=w) (A:=A) (kl:=.i64) (l:=0) ht hi (hr w HS).1 none (some (.int kh h)) (.inl ⟨rfl,rfl⟩) (.inr rfl) (Int.le_refl _) h0 h2
  have hm:h.toNat≤xs.length:=by omega
  simp [execOp,hs.ev hx,hs.ev hz,this,hi2,Nat.min_eq_left hm]
end
theorem Vt (w:World) (dT sT ty elem:TypeId) (sz g o dLen dCap:Nat) (a:Addr) (sLen sCap:Nat) (cur:Array Value) (t:TypeId) (cs:List Value)
    (hu:P.underlying dT=some (.slice elem)) (hs:(P.info? elem).map (·.size)=some sz)
    (hg:w.heap[g]?=some (.cells cur t (0,0))) (hn:cs.length=Nat.min sLen dLen * sz)
    (hsrc:∀ j v,cs[j]?=some v→w.cell? (a.add j)=some v) (hfit:o+cs.length≤cur.size) (h1:∀ v ∈ cs,v.oneCell'=true) :
    (Builtin.copy_ #[dT,sT] ty #[.slice (some ⟨g,o,none⟩) dLen dCap,.slice (some a) sLen sCap]).run P w =
      .ok (goInt (Nat.min sLen dLen)) (w.setRow g (splice cur.toList o cs).toArray):=by
  have hl:=run_loadCells_list (P:=P) w a cs hsrc
  have hst:=run_storeCells_at P g o t cs 0 cur w hg (by simpa using hfit) h1
  obtain ⟨i,hq,hi⟩:=Option.map_eq_some_iff.1 hs
  rw [hn] at hl
  simp only [Nat.add_zero] at hst
  simp [Builtin.copy_,run_underlying hu,Builtin.lenOf,Builtin.firstCells,sizeOf,typeInfo,hq,hi,hl,hst,splice]
theorem Yp (w:World) (dT sT ty elem:TypeId) (sz:Nat) (d a:Option Addr) (dLen dCap sLen sCap:Nat) (hu:P.underlying dT=some (.slice elem)) (hs:(P.info? elem).map (·.size)=some sz) (hn:Nat.min sLen dLen=0) :
    (Builtin.copy_ #[dT,sT] ty #[.slice d dLen dCap,.slice a sLen sCap]).run P w=.ok (goInt 0) w:=by
  obtain ⟨i,hq,hi⟩:=Option.map_eq_some_iff.1 hs
  have hl:∀ (x:Addr),(loadCells x 0).run P w=.ok #[] w:=fun x=>by simpa using run_loadCells_list (P:=P) w x [] (by simp)
  cases d <;> cases a <;> simp [Builtin.copy_,run_underlying hu,Builtin.lenOf,Builtin.firstCells,sizeOf,typeInfo,hq,hi,hn,storeCells,hl]
def over {α:Type} (xs:List α) (l:Nat) (ys:List α):List α:=xs.take l++ys++xs.drop (l+ys.length)
theorem Ls {α:Type} {xs ys:List α} {l:Nat} (h:l+ys.length≤xs.length):(over xs l ys).length=xs.length:=by
  unfold over; simp only [List.length_append,List.length_take,List.length_drop]; omega
theorem sH {ys:List α} {l:Nat} (h:l+ys.length≤xs.length) (hfl:∀ k k',ly k=ly k'):rc T ly 0 (over xs l ys)=splice (rc T ly 0 xs) (l * T.sz) (rc T ly 0 ys):=by
  have h1:∀ (i j:Nat) (zs:List α),rc T ly i zs=rc T ly j zs:=by
    intro i j zs
    induction zs generalizing i j with
    | nil=>rfl
    | cons z r ih=>rw [rc,rc,hfl i j,ih (i+1) (j+1)]
  have htk:∀ n,n≤xs.length→(rc T ly 0 xs).take (n * T.sz)=rc T ly 0 (xs.take n):=fun n hn=>by
    conv=>lhs; rw [← List.take_append_drop n xs,H8]
    rw [List.take_append_of_le_length (by rw [Ec,List.length_take,Nat.min_eq_left hn]; exact Nat.le_refl _)]
    exact List.take_of_length_le (by rw [Ec,List.length_take,Nat.min_eq_left hn]; exact Nat.le_refl _)
  have hdr:∀ n,n≤xs.length→(rc T ly 0 xs).drop (n * T.sz)=rc T ly 0 (xs.drop n):=fun n hn=>by
    conv=>lhs; rw [← List.take_append_drop n xs,H8]
    have hl:(rc T ly 0 (xs.take n)).length=n * T.sz:=by rw [Ec,List.length_take,Nat.min_eq_left hn]
    rw [List.drop_append_of_le_length (by rw [hl]; exact Nat.le_refl _),List.drop_of_length_le (by rw [hl]; exact Nat.le_refl _),List.nil_append]
    exact h1 _ _ _
  unfold over splice
  rw [H8,H8,htk l (by omega),Ec,show l * T.sz+ys.length * T.sz=(l+ys.length) * T.sz by rw [Nat.add_mul],hdr _ h,h1 _ 0 ys,h1 _ 0 (xs.drop _)]
theorem St.aB {g o:Nat} {t:TypeId} {j:Nat} {ys:List α} {l:Nat} (h:St w0 w L) (hj:L[j]?=some (Own T t A c ly xs)) (hfl:Flat T) (hly:∀ k k',ly k=ly k') (hl:l+ys.length≤xs.length) (hp:0<ys.length) :
    ∃ (g o:Nat) (cur:Array Value),A=some ⟨g,o,none⟩∧w.heap[g]?=some (.cells cur t (0,0))∧o+l * T.sz+ys.length * T.sz≤cur.size∧St w0 (w.setRow g (splice cur.toList (o+l * T.sz) (rc T ly 0 ys)).toArray) (L.set j (Own T t A c ly (over xs l ys))):=by
  obtain ⟨q,_,ho⟩:=h.get hj
  obtain ⟨q1,q2,h1,h2,hd,hown,hb,hs⟩:=ho
  obtain ⟨g,o,cur,hA,hh,hnc,hcm,hsz,htk⟩:=hown.open (by omega)
  subst hA
  have hmul:(l+ys.length) * T.sz≤xs.length * T.sz:=Nat.mul_le_mul_right _ hl
  rw [Nat.add_mul] at hmul
  have hput:=hown.put (k:=l * T.sz) (vs:=rc T ly 0 ys) hh (by rw [Ec,Ec]; omega)
  rw [Ec] at hput
  refine ⟨g,o,cur,rfl,hh,hput.1,h.upd hj (by simp) rfl rfl rfl (fun q ho=>?_)⟩
  obtain ⟨q1,q2,h1,h2,hd,hown,hb,hs⟩:=ho
  have hg:q1 g:=hb g rfl
  refine ⟨q,fun k hk=>.inl hk,⟨q1,q2,h1,h2,hd,?_,by rw [Ls hl]; exact hb,G9.flat hfl _ _ _⟩,fun k hk hn=>setRow_other w g k _ (fun e=>hn (by rw [e]; exact h1 g hg))⟩
  rw [Ls hl,sH hl hly]
  exact hput.2
theorem GO.bP {t u el:TypeId} {x y:Operand} {B C:Option Addr} {dn dc cb j l:Nat} {ys:List α} {ly2:Nat→T.Lay} (HS:St w0 w L) (hj:L[j]?=some (Own T el A c ly xs)) (hr:Av w0 L T B cb ly2 ys) (hfl:Flat T) (ho:ops[i]?=some ⟨some d,.call { callee:=.builtin .copy,args:=#[x,y],argTypes:=#[t,u] },ty,ps,af,none⟩) (hx:ev e x=some (.slice C dn dc)) (hy:ev e y=some (.slice B ys.length cb))
    (ht:P.underlying t=some (.slice el)) (hsz:(P.info? el).map (·.size)=some T.sz) (hN:Nat.blt d N=true) (hC:0<dn→∀ g o,A=some ⟨g,o,none⟩→C=some ⟨g,o+l * T.sz,none⟩) (hln:l+dn≤xs.length)
    (hly:∀ k k',ly k=ly k') (hly2:∀ k,ly2 k=ly k)
    (g:∀ w',St w0 w' (L.set j (Own T el A c ly (over xs l (ys.take dn))))→GO P N ops rest ((d,.int .i64 ((ys.take dn).length:Int))::e) w' Q):GO P N ops (i::rest) e w Q:=by
  have hlen:(ys.take dn).length=Nat.min ys.length dn:=by rw [List.length_take,Nat.min_comm]
  rcases Nat.eq_zero_or_pos (ys.take dn).length with h0 | h0
  · have hov:over xs l (ys.take dn)=xs:=by
      rw [List.eq_nil_of_length_eq_zero h0]; unfold over; simp
    have hst:St w0 w (L.set j (Own T el A c ly (over xs l (ys.take dn)))):=by rw [hov,Si hj]; exact HS
    refine GO.val _ ho rfl rfl hN (fun a hs=>?_) (g w hst)
    have:=Yp (P:=P) w t u ty el T.sz C B dn dc ys.length cb ht hsz (by rw [← hlen]; exact h0)
    simp only [execOp,resolve,invoke,builtin,Sem.run_bind,Sem.run_pure,Result.andThen_ok,List.map_toArray,List.map_cons,List.map_nil,hs.ev hx,hs.ev hy,this,h0]
    rfl
  · have hp:0<dn∧0<ys.length:=by rw [List.length_take] at h0; exact ⟨by omega,by omega⟩
    have hle:l+(ys.take dn).length≤xs.length:=by rw [List.length_take]; omega
    obtain ⟨gb,og,cur,hA,hh,hfit,hst⟩:=HS.aB (g:=0) (o:=0) hj hfl hly hle h0
    have hCe:=hC hp.1 gb og hA
    subst hCe
    obtain ⟨hrl,hrc,hrA,hrcell,_⟩:=hr w HS
    obtain ⟨b,o,rfl⟩:=hrA hp.2
    have heq:rc T ly2 0 ys=rc T ly 0 ys:=Qu (fun k _ _=>hly2 k)
    have hcs:∀ m v,(rc T ly 0 (ys.take dn))[m]?=some v→w.cell? ((⟨b,o,none⟩:Addr).add m)=some v:=fun m v hv=>by
      refine hrcell m v ?_
      rw [heq]
      conv=>lhs; rw [← List.take_append_drop dn ys,H8]
      rw [List.getElem?_append_left (List.getElem?_eq_some_iff.1 hv).1]
      exact hv
    refine GO.val _ ho rfl rfl hN (fun a hs=>?_) (g _ hst)
    have:=Vt (P:=P) w t u ty el T.sz gb (og+l * T.sz) dn dc ⟨b,o,none⟩ ys.length cb cur el (rc T ly 0 (ys.take dn)) ht hsz hh (by rw [Ec,hlen]) hcs (by rw [Ec]; exact hfit) (fun u hu=>Vq hu)
    simp only [execOp,resolve,invoke,builtin,Sem.run_bind,Sem.run_pure,Result.andThen_ok,List.map_toArray,List.map_cons,List.map_nil,hs.ev hx,hs.ev hy,this,hlen]
    rfl
theorem St.aH {b j:Nat} {t:TypeId} (h:St w0 w L) (hj:L[j]?=some (Box b t [])) (ly:Nat→T.Lay):St w0 w (L.set j (Own T t (some ⟨b,0,none⟩) 0 ly [])):=by
  refine h.upd hj (Nat.le_refl _) rfl rfl rfl (fun q hq=>⟨q,fun k hk=>.inl hk,⟨fun k=>k=b,fun _=>False,fun k hk=>by rw [hk]; exact hq.1,fun _ hk=>hk.elim,fun _ _ hk=>hk,?_,fun k hk=>?_,trivial⟩,fun k _ _=>rfl⟩)
  · exact ⟨Ec _ _,.inr ⟨b,0,0,#[],rfl,hq.2,Nat.le_refl _,by simp only [maxLen]; omega,by simp,by simp [rc]⟩⟩
  · simp [Value.ownBlock] at hk; exact hk.symm
end
theorem leN {i:Int} {n:Nat} (h:0≤i∧i≤(n:Int)):i.toNat≤n:=by omega
theorem qX {i k:Int} (h:0≤i∧i≤k):i.toNat≤k.toNat:=by omega
theorem dF {α:Type} {xs ys:List α} {l n:Nat} (h:l+n≤xs.length):(over xs l (ys.take n)).length=xs.length:=Ls (by rw [List.length_take]; omega)
theorem iW {α:Type} {xs:List α} {l h:Nat} (hlh:l≤h) (hh:h≤xs.length):l+((xs.take h).drop l).length≤xs.length:=by rw [List.length_drop,List.length_take]; omega
theorem zG {α:Type} {xs:List α} {A:Option Addr} {l h c s:Nat} (hh:h≤xs.length) (hc:xs.length≤c) (hn:0<((xs.take h).drop l).length) (g o:Nat) (hA:A=some ⟨g,o,none⟩):Ja A l c s=some ⟨g,o+l * s,none⟩:=by
  rw [List.length_drop,List.length_take] at hn
  subst hA
  unfold Ja
  rw [if_neg (by omega)]
  exact congrArg some (Ia g o _)
theorem vW {A:Option Addr} {s n:Nat} (hn:0<n) (g o:Nat) (hA:A=some ⟨g,o,none⟩):A=some ⟨g,o+0 * s,none⟩:=by rw [hA,Nat.zero_mul,Nat.add_zero]
theorem Q9 {α:Type} {T:Ty α} {w0 w:World} {L:List Cn} {ly:Nat→T.Lay} {A:Option Addr} {c:Nat} {xs:List α} (h:Av w0 L T A c ly xs) (HS:St w0 w L) (hA:A.isNone=true):xs=[]:=by
  rcases Nat.eq_zero_or_pos xs.length with h0 | h0
  · exact List.eq_nil_of_length_eq_zero h0
  · obtain ⟨b,o,rfl⟩:=(h w HS).2.2.1 h0
    cases hA
theorem GO.iQ {P:Program} {N:Nat} {e:Env} {w:World} {Q:Act→World→Prop} {ops:Array Oper} {i d:Nat} {rest:List Nat} {ty:TypeId} {ps:String} {af:Array Edge} {t t' el:TypeId} {x y:Operand} {A:Option Addr} {n c:Nat} (ho:ops[i]?=some ⟨some d,.binOp .eql t x y t',ty,ps,af,none⟩) (hx:ev e x=some (.slice A n c)) (hy:ev e y=some (.slice none 0 0)) (ht:P.underlying t=some (.slice el)) (hN:Nat.blt d N=true)
    (g:GO P N ops rest ((d,.bool A.isNone)::e) w Q):GO P N ops (i::rest) e w Q :=
  GO.val _ ho rfl rfl hN (fun a hs=>by
    have h1:=run_equal_slice_nil (P:=P) w t el A n c ht
    simp [execOp,hs.ev hx,hs.ev hy,eqGuard,binOp,h1]) g
theorem Sat.Oj {N:Nat} {e:Env} {a:Act} {t n m c c':Nat} {A:Option Addr} (hs:Sat N e a) (h:look e t=some (.slice A n c)) (hx:n=m) (hc:c=c'):Sat N ((t,.slice A m c')::e) a:=by
  subst hc
  exact hs.len h hx
theorem GO.Oj {P:Program} {N:Nat} {e:Env} {w:World} {Q:Act→World→Prop} {ops:Array Oper} {l:List Nat} {t n m c c':Nat} {A:Option Addr} (h:look e t=some (.slice A n c)) (hx:n=m) (hc:c=c') (g:GO P N ops l ((t,.slice A m c')::e) w Q):GO P N ops l e w Q:=fun a hs=>g a (hs.Oj h hx hc)
theorem G.Oj {P:Program} {f:FuncId} {N:Nat} {e:Env} {k:List Item} {w:World} {R:Ending→World→Prop} {t n m c c':Nat} {A:Option Addr} (h:look e t=some (.slice A n c)) (hx:n=m) (hc:c=c') (g:G P f N ((t,.slice A m c')::e) k w R):G P f N e k w R:=fun a hs=>g a (hs.Oj h hx hc)
def Nw:List (Int × Int)→Int→Option Int
  | [],_=>none
  | p::r,k=>if k=p.1 then some p.2 else Nw r k
def O5:List (Int × Int)→Int→Int→List (Int × Int)
  | [],k,v=>[(k,v)]
  | p::r,k,v=>if k=p.1 then (k,v)::r else p::O5 r k v
def Qf (kk kv:IntKind) (es:List MapEntry) (m:List (Int × Int)):Prop:=es.map (fun x=>(x.key,x.val))=m.map (fun p=>(Value.int kk p.1,Value.int kv p.2))
section
variable {w0 w w':World} {L:List Cn} {b j:Nat} {kk kv:IntKind} {m:List (Int × Int)}
theorem Su {k:Int}:∀ {es:List MapEntry} {m:List (Int × Int)} (i:Nat),Qf kk kv es m →
    (Nw m k=none∧Instr.findNow (.int kk) (.int kk k) es i=some none∧(∀ v,Qf kk kv (es++[⟨.int kk k,.int kv v,0⟩]) (O5 m k v))) ∨
    (∃ v0 n e0,Nw m k=some v0∧Instr.findNow (.int kk) (.int kk k) es i=some (some (i+n,.int kv v0))∧es[n]?=some e0∧e0.key=.int kk k∧∀ v,Qf kk kv (es.modify n (fun e=>{ e with key:=.int kk k,val:=.int kv v })) (O5 m k v))
  | [],[],_,_=>.inl ⟨rfl,rfl,fun v=>rfl⟩
  | [],_::_,_,h=>by cases h
  | _::_,[],_,h=>by cases h
  | e::es,p::m,i,h=>by
    have h':(e.key,e.val)=(Value.int kk p.1,Value.int kv p.2)∧Qf kk kv es m:=by
      unfold Qf at h
      simp only [List.map_cons,List.cons.injEq] at h
      exact h
    obtain ⟨he,hr⟩:=h'
    obtain ⟨he1,he2⟩:=Prod.mk.inj he
    by_cases hk:k=p.1
    · subst hk
      refine .inr ⟨p.2,0,e,by simp [Nw],?_,rfl,he1,fun v=>?_⟩
      · simp [Instr.findNow,Instr.sameNow,he1,he2]
      · unfold Qf
        simp only [List.modify,List.modifyTailIdx,List.modifyTailIdx.go,List.modifyHead,O5,if_true,List.map_cons]
        exact congrArg _ hr
    · have hbe:(k == p.1)=false:=beq_eq_false_iff_ne.2 hk
      rcases Su (k:=k) (i+1) hr with ⟨h1,h2,h3⟩ | ⟨v0,n,e0,h1,h2,h3,h4,h5⟩
      · refine .inl ⟨by simp [Nw,hk,h1],?_,fun v=>?_⟩
        · simp [Instr.findNow,Instr.sameNow,he1,hbe,h2]
        · unfold Qf
          simp only [O5,if_neg hk,List.cons_append,List.map_cons]
          exact congr (congrArg List.cons he) (h3 v)
      · refine .inr ⟨v0,n+1,e0,by simp [Nw,hk,h1],?_,h3,h4,fun v=>?_⟩
        · simp [Instr.findNow,Instr.sameNow,he1,hbe,h2,Nat.add_assoc,Nat.add_comm 1 n]
        · unfold Qf
          simp only [O5,if_neg hk,List.map_cons,List.modify_succ_cons]
          exact congr (congrArg List.cons he) (h5 v)
end
section
variable {P:Program} {N:Nat} {e:Env} {w0 w:World} {L:List Cn} {Q:Act→World→Prop} {ops:Array Oper} {i d:Nat} {rest:List Nat} {ty:TypeId} {ps:String} {af:Array Edge} {b j:Nat} {kk kv:IntKind} {m:List (Int × Int)}
end
theorem exI {α:Sort _} {p:α→Prop} {b:Prop} (h:∀ x,p x→b):(∃ x,p x)→b:=fun ⟨x,hx⟩=>h x hx
theorem anI {p q b:Prop} (h:p→q→b):p∧q→b:=fun ⟨x,y⟩=>h x y
def aM (n:Nat):List Nat→Bool
  | []=>true
  | i::is=>Nat.blt i n && !(is.any (Nat.beq i ·)) && aM n is
def V5 (n:Nat) (L:List Cn):List Nat→List Cn
  | []=>L.drop n
  | i::is=>L.getD i Emp::V5 n L is
theorem Y8 {n i:Nat} {L:List Cn} {x:Cn} (hi:i<n):∀ {is:List Nat},is.any (Nat.beq i ·)=false→V5 n (L.set i x) is=V5 n L is
  | [],_=>by
    unfold V5
    rw [List.drop_set]
    split
    · rfl
    · omega
  | j::is,h=>by
    rw [List.any_cons,Bool.or_eq_false_iff] at h
    unfold V5
    rw [Y8 hi h.2,List.getD_eq_getElem?_getD,List.getElem?_set_ne (fun e=>by rw [e,Nat.beq_refl] at h; exact Bool.noConfusion h.1),← List.getD_eq_getElem?_getD]
theorem iH {n:Nat}:∀ {is:List Nat} {L:List Cn},aM n is=true→pick n L is=V5 n L is
  | [],L,_=>rfl
  | i::is,L,h=>by
    unfold aM at h
    rw [Bool.and_eq_true,Bool.and_eq_true] at h
    have h1:i<n:=Nat.le_of_ble_eq_true h.1.1
    have h2:is.any (Nat.beq i ·)=false:=by
      have:=h.1.2
      revert this
      cases is.any (Nat.beq i ·) <;> simp
    unfold pick V5
    rw [iH h.2,Y8 h1 h2]
theorem St.pk {w0 w:World} {L:List Cn} (n:Nat) (is:List Nat) (h:St w0 w L) (ho:aM n is=true):St w0 w (V5 n L is):=by
  rw [← iH ho]
  exact h.pick n is
theorem Xn:∀ (m:List (Int × Int)) (k v k':Int),Nw (O5 m k v) k'=if k'=k then some v else Nw m k'
  | [],k,v,k'=>by simp [O5,Nw]
  | p::r,k,v,k'=>by
    unfold O5
    by_cases h:k=p.1
    · rw [if_pos h]
      unfold Nw
      by_cases h2:k'=k
      · simp [h2]
      · rw [if_neg h2,if_neg h2,if_neg (fun e=>h2 (e.trans h.symm))]
    · rw [if_neg h]
      unfold Nw
      by_cases h2:k'=p.1
      · rw [if_pos h2,if_neg (fun e=>h (e.symm.trans h2)),if_pos h2]
      · rw [if_neg h2,Xn r k v k',if_neg h2]
theorem aQ:∀ (m:List (Int × Int)) (k v:Int),(O5 m k v).length=if (Nw m k).isSome then m.length else m.length+1
  | [],_,_=>rfl
  | p::r,k,v=>by
    unfold O5 Nw
    by_cases h2:k=p.1
    · rw [if_pos h2,if_pos h2]; simp
    · rw [if_neg h2,if_neg h2,List.length_cons,aQ r k v,List.length_cons]
      split <;> rfl
def UM (m:List (Int × Int)):Prop:=(m.map (·.1)).Nodup
theorem cB:∀ (m:List (Int × Int)) (k v:Int) (x:Int),x ∈ (O5 m k v).map (·.1)↔x=k∨x ∈ m.map (·.1)
  | [],k,v,x=>by simp [O5]
  | p::r,k,v,x=>by
    unfold O5
    by_cases h2:k=p.1
    · rw [if_pos h2]; simp only [List.map_cons,List.mem_cons]; rw [h2]; simp
    · rw [if_neg h2,List.map_cons,List.mem_cons,cB r k v x,List.map_cons,List.mem_cons]
      constructor
      · rintro (h | h | h)
        · exact .inr (.inl h)
        · exact .inl h
        · exact .inr (.inr h)
      · rintro (h | h | h)
        · exact .inr (.inl h)
        · exact .inl h
        · exact .inr (.inr h)
theorem UM.put:∀ {m:List (Int × Int)} (k v:Int),UM m→UM (O5 m k v)
  | [],k,v,_=>by simp [UM,O5]
  | p::r,k,v,h=>by
    have h':=List.nodup_cons.1 (show (p.1::r.map (·.1)).Nodup from h)
    unfold O5
    by_cases h2:k=p.1
    · rw [if_pos h2]
      show (k::r.map (·.1)).Nodup
      rw [h2]
      exact h
    · rw [if_neg h2]
      refine List.nodup_cons.2 ⟨fun hm=>?_,UM.put k v h'.2⟩
      rcases (cB r k v p.1).1 hm with e | e
      · exact h2 e.symm
      · exact h'.1 e
structure dI (m' m:List (Int × Int)):Prop where
  u':UM m'
  u:UM m
  g:∀ k,Nw m' k=Nw m k
  l:m'.length=m.length
theorem dI.put {m' m:List (Int × Int)} (h:dI m' m) (k v:Int):dI (O5 m' k v) (O5 m k v):=⟨h.u'.put k v,h.u.put k v,fun k'=>by rw [Xn,Xn,h.g],by rw [aQ,aQ,h.g,h.l]⟩
def Uv (b:Nat) (kk kv:IntKind) (m:List (Int × Int)):Cn where
  P:=fun w q=>q b∧∃ es clock m',w.heap[b]?=some (.map es clock)∧Qf kk kv es.toList m'∧dI m' m
  loc:=fun h hk=>⟨h.1,by obtain ⟨es,c,m',h1,h2,h3⟩:=h.2; exact ⟨es,c,m',(hk b h.1).trans h1,h2,h3⟩⟩
  more:=fun h hq=>⟨hq b h.1,h.2⟩
section
variable {w0 w w':World} {L:List Cn} {b j:Nat} {kk kv:IntKind} {m:List (Int × Int)}
theorem St.aY (h:St w0 w L) (kk kv:IntKind):St w0 (w.alloc (.map #[] 0)) (Uv w.heap.size kk kv []::L) :=
  h.cons (by simp) rfl rfl rfl (fun k hk=>Below.heap_alloc w _ k hk) ⟨by simp,#[],0,[],heap_alloc_new w _,rfl,⟨List.nodup_nil,List.nodup_nil,fun _=>rfl,rfl⟩⟩
theorem St.vF (h:St w0 w L) (hj:L[j]?=some (Uv b kk kv m)):∃ es clock m',w.heap[b]?=some (.map es clock)∧Qf kk kv es.toList m'∧dI m' m:=by
  obtain ⟨q,_,h1,h2⟩:=h.get hj
  exact h2
end
section
variable {P:Program} {N:Nat} {e:Env} {w0 w:World} {L:List Cn} {Q:Act→World→Prop} {ops:Array Oper} {i d:Nat} {rest:List Nat} {ty:TypeId} {ps:String} {af:Array Edge} {b j:Nat} {kk kv:IntKind} {m:List (Int × Int)}
theorem GO.aY {t:TypeId} (kk kv:IntKind) (HS:St w0 w L) (ho:ops[i]?=some ⟨some d,.makeMap t none,ty,ps,af,none⟩) (hN:Nat.blt d N=true)
    (g:∀ b w',St w0 w' (Uv b kk kv []::L)→GO P N ops rest ((d,.map (some b))::e) w' Q):GO P N ops (i::rest) e w Q :=
  GO.val (.map (some w.heap.size)) ho rfl rfl hN (fun a hs=>by simp [execOp,Instr.makeMap]) (g _ _ (HS.aY kk kv))
theorem Zd {t k el:TypeId} {key:Int} (HS:St w0 w L) (hj:L[j]?=some (Uv b kk kv m)) (ht:P.underlying t=some (.map k el)) (hk:P.underlying k=some (.int kk)) (hz:(P.info? el).map (·.zero)=some (some (.int kv 0))) (cm:Bool) :
    (Instr.lookup t (.map (some b)) (.int kk key) cm).run P w=.ok (bif cm then .tuple #[.int kv ((Nw m key).getD 0),.bool (Nw m key).isSome] else .int kv ((Nw m key).getD 0)) w:=by
  obtain ⟨es,clock,m',hb,hm,hsm⟩:=HS.vF hj
  rw [← hsm.g]
  obtain ⟨inf,hi,hz'⟩:=Option.map_eq_some_iff.1 hz
  have hck:=MapKept.run_checkKey (w:=w) hk (k:=.int kk key) (by simp [MapKept.IsKey]) es.isEmpty 9999
  have hzz:(zeroValue el).run P w=.ok (.int kv 0) w:=by simp [zeroValue,typeInfo,hi,hz']
  rcases Su (k:=key) 0 hm with ⟨h1,h2,_⟩ | ⟨v0,n,e0,h1,h2,_,_,_⟩
  · have hf:=MapKept.run_findKey (w:=w) hk h2
    cases cm <;> simp [Instr.lookup,run_underlying ht,MapKept.run_getObj_map hb,hck,hf,hzz,h1]
  · have hf:=MapKept.run_findKey (w:=w) hk h2
    cases cm <;> simp [Instr.lookup,run_underlying ht,MapKept.run_getObj_map hb,hck,hf,h1]
theorem GO.sD {t k el:TypeId} {x y:Operand} {key:Int} (HS:St w0 w L) (hj:L[j]?=some (Uv b kk kv m)) (ho:ops[i]?=some ⟨some d,.lookup t x y true,ty,ps,af,none⟩) (hx:ev e x=some (.map (some b))) (hy:ev e y=some (.int kk key)) (ht:P.underlying t=some (.map k el)) (hk:P.underlying k=some (.int kk)) (hz:(P.info? el).map (·.zero)=some (some (.int kv 0))) (hN:Nat.blt d N=true)
    (g:GO P N ops rest ((d,.tuple #[.int kv ((Nw m key).getD 0),.bool (Nw m key).isSome])::e) w Q):GO P N ops (i::rest) e w Q :=
  GO.val _ ho rfl rfl hN (fun a hs=>by simp [execOp,hs.ev hx,hs.ev hy,Zd HS hj ht hk hz true]) g
theorem GO.Aal {t k el:TypeId} {x y:Operand} {key:Int} (HS:St w0 w L) (hj:L[j]?=some (Uv b kk kv m)) (ho:ops[i]?=some ⟨some d,.lookup t x y false,ty,ps,af,none⟩) (hx:ev e x=some (.map (some b))) (hy:ev e y=some (.int kk key)) (ht:P.underlying t=some (.map k el)) (hk:P.underlying k=some (.int kk)) (hz:(P.info? el).map (·.zero)=some (some (.int kv 0))) (hN:Nat.blt d N=true)
    (g:GO P N ops rest ((d,.int kv ((Nw m key).getD 0))::e) w Q):GO P N ops (i::rest) e w Q :=
  GO.val _ ho rfl rfl hN (fun a hs=>by simp [execOp,hs.ev hx,hs.ev hy,Zd HS hj ht hk hz false]) g
theorem GO.zX {t k el:TypeId} {x:Operand} (HS:St w0 w L) (hj:L[j]?=some (Uv b kk kv m)) (ho:ops[i]?=some ⟨some d,.call { callee:=.builtin .len,args:=#[x],argTypes:=#[t] },ty,ps,af,none⟩) (hx:ev e x=some (.map (some b))) (ht:P.underlying t=some (.map k el)) (hN:Nat.blt d N=true)
    (g:GO P N ops rest ((d,.int .i64 (m.length:Int))::e) w Q):GO P N ops (i::rest) e w Q:=by
  refine GO.val _ ho rfl rfl hN (fun a hs=>?_) g
  obtain ⟨es,clock,m',hb,hm,hsm⟩:=HS.vF hj
  have hl:es.size=m.length:=by have:=congrArg List.length hm; rw [← hsm.l]; simpa using this
  simp [execOp,resolve,invoke,builtin,hs.ev hx,Builtin.len_,run_underlying ht,MapKept.run_getObj_map hb,goInt,hl]
theorem qV {t k el:TypeId} {key v:Int} (HS:St w0 w L) (hj:L[j]?=some (Uv b kk kv m)) (ht:P.underlying t=some (.map k el)) (hk:P.underlying k=some (.int kk)) :
    ∃ w',(Instr.mapUpdate t (.map (some b)) (.int kk key) (.int kv v)).run P w=.ok () w'∧St w0 w' (L.set j (Uv b kk kv (O5 m key v))):=by
  obtain ⟨es,clock,m0,hb,hm,hsm⟩:=HS.vF hj
  have hck:=MapKept.run_checkKey (w:=w) hk (k:=.int kk key) (by simp [MapKept.IsKey]) false 9999
  have hup:∀ (o:Obj),(∃ es' c',o=.map es' c'∧Qf kk kv es'.toList (O5 m0 key v))→St w0 { w with heap:=w.heap.setIfInBounds b o } (L.set j (Uv b kk kv (O5 m key v))):=fun o ho=>by
    obtain ⟨es',c',rfl,hm'⟩:=ho
    obtain ⟨hs1,hs2⟩:=MapKept.heap_set (w:=w) (o':=.map es' c') hb
    refine HS.upd hj (by simp) rfl rfl rfl (fun q hq=>⟨q,fun k hk=>.inl hk,⟨hq.1,es',c',_,hs1,hm',hsm.put key v⟩,fun k hk hn=>hs2 k (fun e=>hn (by rw [e]; exact hq.1))⟩)
  rcases Su (k:=key) 0 hm with ⟨h1,h2,h3⟩ | ⟨v0,n,e0,h1,h2,h3,h4,h5⟩
  · have hf:=MapKept.run_findKey (w:=w) hk h2
    refine ⟨{ w with heap:=w.heap.setIfInBounds b (.map (es.push ⟨.int kk key,.int kv v,clock⟩) (clock+1)) },?_,hup _ ⟨_,_,rfl,?_⟩⟩
    · simp [Instr.mapUpdate,run_underlying ht,MapKept.run_getObj_map hb,hck,hf,MapKept.run_setObj_map _ hb]
    · have:=h3 v
      unfold Qf at this ⊢
      simpa using this
  · have hf:=MapKept.run_findKey (w:=w) hk h2
    have hst:=MapKept.run_keyThatStays (P:=P) (w:=w) (k:=.int kk key) (d:=.int kk) (by simp [MapKept.IsKey])
    have h3':es[n]?=some e0:=by simpa using h3
    refine ⟨{ w with heap:=w.heap.setIfInBounds b (.map (es.modify n fun e=>{ e with key:=.int kk key,val:=.int kv v }) clock) },?_,hup _ ⟨_,_,rfl,?_⟩⟩
    · simp [Instr.mapUpdate,run_underlying ht,MapKept.run_getObj_map hb,hck,hf,h3',h4,hst,MapKept.run_setObj_map _ hb]
    · have:=h5 v
      rw [Array.toList_modify]
      exact this
theorem GO.zK {t k el:TypeId} {x y z:Operand} {key v:Int} (HS:St w0 w L) (hj:L[j]?=some (Uv b kk kv m)) (ho:ops[i]?=some ⟨none,.mapUpdate t x y z,ty,ps,af,none⟩) (hx:ev e x=some (.map (some b))) (hy:ev e y=some (.int kk key)) (hv:ev e z=some (.int kv v)) (ht:P.underlying t=some (.map k el)) (hk:P.underlying k=some (.int kk))
    (g:∀ w',St w0 w' (L.set j (Uv b kk kv (O5 m key v)))→GO P N ops rest e w' Q):GO P N ops (i::rest) e w Q:=by
  obtain ⟨w',hr,hst⟩:=qV (key:=key) (v:=v) HS hj ht hk
  exact GO.Tn ho rfl rfl (fun a hs=>by simp [execOp,hs.ev hx,hs.ev hy,hs.ev hv,hr]) (g w' hst)
end
theorem dR (x:Value) (R:List Value) (n:Nat) (v:Value):splice (x::R) (n+1) [v]=x::splice R n [v]:=by simp [splice]
section
variable {α:Type} {T:Ty α} {w w':World} {ly:Nat→T.Lay}
theorem G9.set {l':T.Lay} {y:α}:∀ {xs:List α} {i n m:Nat} {q q2:Nat→Prop},G9 T w ly i xs q→n<xs.length→m=i+n→T.M w q2 l' y→(∀ k,q k→¬ q2 k)→G9 T w (fun k=>if k=m then l' else ly k) i (xs.set n y) (fun k=>q k∨q2 k)
  | x::r,i,0,m,q,q2,⟨q0,q1,h0,h1,hdd,hx,hs⟩,hn,hm,hy,hd=>by
    obtain rfl:m=i:=by omega
    refine ⟨q2,q1,fun k hk=>.inr hk,fun k hk=>.inl (h1 k hk),fun k hk hn=>hd k (h1 k hn) hk,?_,hs.congr (fun k hk _=>?_)⟩
    · show T.M w q2 (if m=m then l' else ly m) y
      rw [if_pos rfl]; exact hy
    · rw [if_neg (by omega)]
  | x::r,i,n+1,m,q,q2,⟨q0,q1,h0,h1,hdd,hx,hs⟩,hn,hm,hy,hd=>by
    refine ⟨q0,fun k=>q1 k∨q2 k,fun k hk=>.inl (h0 k hk),fun k hk=>hk.imp (h1 k) id,fun k hk hn=>hn.elim (hdd k hk) (hd k (h0 k hk)),?_,?_⟩
    · show T.M w q0 (if i=m then l' else ly i) x
      rw [if_neg (by omega)]; exact hx
    · exact G9.set hs (by simp only [List.length_cons] at hn; omega) (by omega) hy (fun k hk=>hd k (h1 k hk))
theorem G9.sel {ly':Nat→T.Lay} {d:α}:∀ {xs:List α} {i:Nat} {js:List Nat} {i0:Nat} {q:Nat→Prop},G9 T w ly i xs q→js.Pairwise (·<·)→(∀ k,k ∈ js→i≤k∧k<i+xs.length)→(∀ m,m<js.length→ly' (i0+m)=ly (js.getD m 0))→G9 T w ly' i0 (js.map (fun k=>xs.getD (k - i) d)) q
  | _,_,[],_,_,_,_,_,_=>trivial
  | [],i,k::js,i0,q,hs,hp,hr,hl=>by
    have:=hr k (List.mem_cons_self ..)
    simp only [List.length_nil] at this
    omega
  | x::r,i,k::js,i0,q,⟨q0,q1,h0,h1,hdd,hx,hs⟩,hp,hr,hl=>by
    have hpc:=List.pairwise_cons.1 hp
    have hk:=hr k (List.mem_cons_self ..)
    have hget:∀ k',i+1≤k'→(x::r).getD (k' - i) d=r.getD (k' - (i+1)) d:=fun k' h=>by
      rw [show k' - i=(k' - (i+1))+1 by omega,List.getD_cons_succ]
    by_cases hki:k=i
    · subst hki
      have hm:List.map (fun k'=>(x::r).getD (k' - k) d) js=List.map (fun k'=>r.getD (k' - (k+1)) d) js:=List.map_congr_left (fun k' h'=>hget k' (hpc.1 k' h'))
      rw [List.map_cons,hm,Nat.sub_self,List.getD_cons_zero]
      have h00:=hl 0 (Nat.succ_pos _)
      rw [Nat.add_zero,List.getD_cons_zero] at h00
      refine ⟨q0,q1,h0,h1,hdd,by rw [h00]; exact hx,G9.sel hs hpc.2 (fun k' h'=>⟨hpc.1 k' h',by have:=hr k' (List.mem_cons_of_mem _ h'); simp only [List.length_cons] at this; omega⟩) (fun m hm=>?_)⟩
      have:=hl (m+1) (by simp only [List.length_cons]; omega)
      rw [List.getD_cons_succ] at this
      rw [show i0+1+m=i0+(m+1) by omega]
      exact this
    · have hlt:∀ k',k' ∈ k::js→i+1≤k':=fun k' h'=>by
        rcases List.mem_cons.1 h' with h' | h'
        · subst h'; omega
        · have:=hpc.1 k' h'; omega
      have hm:List.map (fun k'=>(x::r).getD (k' - i) d) (k::js)=List.map (fun k'=>r.getD (k' - (i+1)) d) (k::js):=List.map_congr_left (fun k' h'=>hget k' (hlt k' h'))
      rw [hm]
      exact (G9.sel hs hp (fun k' h'=>⟨hlt k' h',by have:=hr k' h'; simp only [List.length_cons] at this; omega⟩) hl).more h1
theorem St.iU {w0:World} {L:List Cn} {b j:Nat} {t:TypeId} {cs:List Value} {xs:List α} (h:St w0 w L) (hj:L[j]?=some (Box b t cs)) (hsep:∀ q,G9 T w ly 0 xs q) (hc:rc T ly 0 xs=cs) (hm:xs.length≤9223372036854775807):St w0 w (L.set j (Own T t (some ⟨b,0,none⟩) xs.length ly xs)):=by
  refine h.upd hj (Nat.le_refl _) rfl rfl rfl (fun q hq=>⟨q,fun k hk=>.inl hk,⟨fun k=>k=b,fun _=>False,fun k hk=>by rw [hk]; exact hq.1,fun _ hk=>hk.elim,fun _ _ hk=>hk,?_,fun k hk=>?_,hsep _⟩,fun k _ _=>rfl⟩)
  · refine ⟨Ec _ _,.inr ⟨b,0,xs.length,cs.toArray,rfl,hq.2,Nat.le_refl _,by simp only [maxLen]; omega,?_,?_⟩⟩
    · rw [← hc]; simp [Ec]
    · rw [← hc]
      simp only [List.toList_toArray,List.drop_zero]
      rw [List.take_of_length_le (by rw [Ec]; exact Nat.le_refl _)]
  · simp [Value.ownBlock] at hk
    exact hk.symm
end
theorem G9.Aa8 {α:Type} {S:Ty α} {u:TypeId} {w:World} (l0:Nat→S.Lay):∀ (n i:Nat) (q:Nat→Prop),G9 (Ty.slice u S) w (fun _=>⟨none,0,l0⟩) i (List.replicate n []) q
  | 0,_,_=>trivial
  | n+1,i,q=>⟨fun _=>False,q,fun _ h=>h.elim,fun _ h=>h,fun _ h=>h.elim,Qk.nil u l0 w _,G9.Aa8 l0 n (i+1) q⟩
theorem Yx {α:Type} {S:Ty α} {u:TypeId} {ly:Nat→Vj S.Lay} {l':Vj S.Lay} {y:List α}:∀ {xs:List (List α)} {i n m:Nat},n<xs.length→m=i+n→rc (Ty.slice u S) (fun k=>if k=m then l' else ly k) i (xs.set n y)=splice (rc (Ty.slice u S) ly i xs) n [.slice l'.A y.length l'.c]
  | x::r,i,0,m,hn,hm=>by
    obtain rfl:m=i:=by omega
    have h1:rc (Ty.slice u S) (fun k=>if k=m then l' else ly k) (m+1) r=rc (Ty.slice u S) ly (m+1) r:=Qu (fun k hk _=>by rw [if_neg (by omega)])
    rw [List.set_cons_zero,rc,rc,h1]
    simp [splice]
  | x::r,i,n+1,m,hn,hm=>by
    have ih:=Yx (u:=u) (ly:=ly) (l':=l') (y:=y) (xs:=r) (i:=i+1) (n:=n) (m:=m) (by simp only [List.length_cons] at hn; omega) (by omega)
    rw [List.set_cons_succ,rc,rc,ih]
    show [Value.slice (if i=m then l' else ly i).A x.length (if i=m then l' else ly i).c]++_=splice ([Value.slice (ly i).A x.length (ly i).c]++_) (n+1) _
    rw [if_neg (by omega),List.singleton_append,List.singleton_append,dR]
section
variable {α:Type} {S:Ty α} {P:Program} {N:Nat} {e:Env} {w0 w:World} {L:List Cn} {Q:Act→World→Prop} {ops:Array Oper} {i d:Nat} {rest:List Nat} {ty:TypeId} {ps:String} {af:Array Edge}
theorem GO.uY {u t el:TypeId} {x y:Operand} {kl kc:IntKind} {m:Int} {bytes:Nat} (l0:Nat→S.Lay) (HS:St w0 w L) (ho:ops[i]?=some ⟨some d,.makeSlice t x y,ty,ps,af,none⟩) (hx:ev e x=some (.int kl m)) (hy:ev e y=some (.int kc m)) (ht:P.underlying t=some (.slice el)) (hinf:(P.info? el).map (fun i=>(i.zero,i.size,i.bytes))=some (some (.slice none 0 0),1,bytes)) (hb0:Nat.blt 0 bytes=true)
    (h0:0≤m) (hm:m.toNat * bytes≤281474976710656) (hN:Nat.blt d N=true)
    (g:∀ b w',St w0 w' (Own (Ty.slice u S) el (some ⟨b,0,none⟩) m.toNat (fun _=>⟨none,0,l0⟩) (List.replicate m.toNat [])::L)→GO P N ops rest ((d,.slice (some ⟨b,0,none⟩) (List.replicate m.toNat ([]:List α)).length m.toNat)::e) w' Q):GO P N ops (i::rest) e w Q:=by
  simp only [List.length_replicate] at g
  obtain ⟨inf,hi,hzz⟩:=Option.map_eq_some_iff.1 hinf
  simp only [Prod.mk.injEq] at hzz
  obtain ⟨hz0,hz1,hz2⟩:=hzz
  have hb0':0<bytes:=Nat.le_of_ble_eq_true hb0
  have hmm:m.toNat≤281474976710656:=Nat.le_trans (Nat.le_mul_of_pos_right _ hb0') hm
  have hbm:(inf.bytes:Int) * m≤281474976710656:=by
    have h3:((m.toNat * bytes:Nat):Int)≤281474976710656:=by omega
    rw [Int.natCast_mul,Int.toNat_of_nonneg h0,Int.mul_comm] at h3
    rw [hz2]
    exact h3
  have hrun:=run_make (P:=P) w t el inf (.slice none 0 0) ht hi hz0 kl kc m m h0 (Int.le_refl _) hbm (by omega)
  refine GO.val (w':=w.alloc (.cells (madeCells (Value.slice none 0 0).cells (m.toNat * inf.size)) el)) _ ho rfl rfl hN (fun a hs=>by simp [execOp,hs.ev hx,hs.ev hy,hrun]) (g w.heap.size _ ?_)
  rw [hz1]
  let l:Vj S.Lay:=⟨none,0,l0⟩
  have hcl:(madeCells [Value.slice none 0 0].toArray (m.toNat * 1)).toList=rc (Ty.slice u S) (fun _=>l) 0 (List.replicate m.toNat []):=by
    rw [O3]
    exact Nb [Value.slice none 0 0] (by decide) _
  have h1:=(HS.alloc (rc (Ty.slice u S) (fun _=>l) 0 (List.replicate m.toNat [])) el).iU (j:=0) rfl (fun q=>G9.Aa8 l0 _ _ q) rfl (by simp; omega)
  rw [← hcl] at h1
  simpa [Value.cells] using h1
theorem GO.mO {u t tb:TypeId} {x y:Operand} {A A2:Option Addr} {c c2 n:Nat} {ly:Nat→Vj S.Lay} {ly2:Nat→S.Lay} {xs:List (List α)} {ys:List α} (HS:St w0 w (Own (Ty.slice u S) tb A c ly xs::Own S u A2 c2 ly2 ys::L)) (ho:ops[i]?=some ⟨none,.store t x y,ty,ps,af,none⟩) (hx:ev e x=some (.pointer (some (ea A (n * 1))))) (hy:ev e y=some (.slice A2 ys.length c2))
    (ht:naB P t=true) (hn:n<xs.length)
    (g:∀ (ly':Nat→Vj S.Lay) w',St w0 w' (Own (Ty.slice u S) tb A c ly' (xs.set n ys)::L)→GO P N ops rest e w' Q):GO P N ops (i::rest) e w Q:=by
  obtain ⟨hbel,q,r,hq,hr,hqr,⟨q1,q2,h1,h2,hd,hown,hb,hs⟩,qe,re,hqe,hre,hed,hoe,hL⟩:=HS
  obtain ⟨gb,og,cur,hA,hh,hnc,hcm,hsz,htk⟩:=hown.open (by omega)
  subst hA
  have hg1:q1 gb:=hb gb rfl
  have hput:=hown.put (k:=n) (vs:=[Value.slice A2 ys.length c2]) hh (by rw [Ec,List.length_singleton]; show n+1≤xs.length * 1; omega)
  have hea:ea (some ⟨gb,og,none⟩) (n * 1)=⟨gb,og+n,none⟩:=by rw [R6,Ia]; simp
  rw [hea] at hx
  let l':Vj S.Lay:=⟨A2,c2,ly2⟩
  refine GO.Tn (w':=w.setRow gb (splice cur.toList (og+n) [.slice A2 ys.length c2]).toArray) ho rfl rfl (fun a hs=>by simp [execOp,Instr.storeAt,Instr.sureAddr,hs.ev hx,hs.ev hy,R3 (v:=.slice A2 ys.length c2) (vs:=[.slice A2 ys.length c2]) rfl (Qb ht) hh (fun u hu=>by rw [List.mem_singleton.1 hu]; rfl) hput.1]) (g (fun k=>if k=n then l' else ly k) _ ?_)
  have hkeep:∀ k,k≠gb→(w.setRow gb (splice cur.toList (og+n) [.slice A2 ys.length c2]).toArray).heap[k]?=w.heap[k]?:=fun k hk=>setRow_other w gb k _ hk
  have hqg:=hq gb (h1 gb hg1)
  refine ⟨hbel.trans ⟨rfl,rfl,rfl,by simp,fun k hk=>hkeep k (by omega)⟩,fun k=>q k∨qe k,re,?_,?_,?_,⟨q1,fun k=>q2 k∨qe k,?_,?_,?_,?_,?_,?_⟩,?_⟩
  · intro k hk
    simp only [size_setRow]
    rcases hk with hk | hk
    · exact hq k hk
    · exact hr k (hqe k hk)
  · intro k hk
    simp only [size_setRow]
    exact hr k (hre k hk)
  · intro k hk hn
    rcases hk with hk | hk
    · exact hqr k hk (hre k hn)
    · exact hed k hk hn
  · exact fun k hk=>.inl (h1 k hk)
  · intro k hk
    rcases hk with hk | hk
    · exact .inl (h2 k hk)
    · exact .inr hk
  · intro k hk hn
    rcases hn with hn | hn
    · exact hd k hk hn
    · exact hqr k (h1 k hk) (hqe k hn)
  · rw [List.length_set,Yx (l':=l') hn (by omega)]
    exact hput.2
  · rw [List.length_set]; exact hb
  · have hlocq:∀ k,q2 k→(w.setRow gb (splice cur.toList (og+n) [.slice A2 ys.length c2]).toArray).heap[k]?=w.heap[k]?:=fun k hk=>hkeep k (fun e=>hd gb hg1 (by rw [← e]; exact hk))
    have hloce:∀ k,qe k→(w.setRow gb (splice cur.toList (og+n) [.slice A2 ys.length c2]).toArray).heap[k]?=w.heap[k]?:=fun k hk=>hkeep k (fun e=>hqr gb (h1 gb hg1) (hqe gb (by rw [← e]; exact hk)))
    exact G9.set (T:=Ty.slice u S) (l':=l') (hs.loc hlocq) hn (by omega) (Qk.loc hoe hloce) (fun k hk hn=>hqr k (h2 k hk) (hqe k hn))
  · exact hL.loc (fun k hk=>hkeep k (fun e=>hqr gb (h1 gb hg1) (hre gb (by rw [← e]; exact hk))))
end
def allRows (n:Nat):List (Option Nat):=(List.range n).map some
theorem I6 (n:Nat):(allRows n).length=n:=by simp [allRows]
theorem Y0 {α:Type} {xs:List α} {l n:Nat} {z:α} (h:l+n≤xs.length):(over xs l (List.replicate n z)).length=xs.length:=Ls (by rw [List.length_replicate]; exact h)
abbrev Ix:=Nat
theorem Ps (A:Option Addr) (c s:Nat):Ja A 0 c s=A:=by
  unfold Ja
  split
  · rfl
  · cases A with
    | none=>rfl
    | some a=>simp [Addr.add]
section
variable {α:Type} {T:Ty α} {P:Program} {N:Nat} {e:Env} {w0 w:World} {L:List Cn} {Q:Act→World→Prop} {ops:Array Oper} {i d:Nat} {rest:List Nat} {ty:TypeId} {ps:String} {af:Array Edge} {ly:Nat→T.Lay} {A:Option Addr} {c:Nat} {xs:List α}
theorem bM (w:World) (t ty elem:TypeId) (sz g o n cap:Nat) (cur:Array Value) (tb:TypeId) (z:Value) (inf:TypeInfo) (hu:P.underlying t=some (.slice elem)) (hi:P.info? elem=some inf) (hz:inf.zero=some z) (hp:0<n)
    (hg:w.heap[g]?=some (.cells cur tb (0,0))) (hfit:o+(Builtin.zeroCells z.cells n).toList.length≤cur.size) (h1:∀ v ∈ (Builtin.zeroCells z.cells n).toList,v.oneCell'=true) :
    (Builtin.clear_ #[t] ty #[.slice (some ⟨g,o,none⟩) n cap]).run P w=.ok (.tuple #[]) (w.setRow g (splice cur.toList o (Builtin.zeroCells z.cells n).toList).toArray):=by
  have hst:=run_storeCells_at P g o tb (Builtin.zeroCells z.cells n).toList 0 cur w hg (by simpa using hfit) h1
  simp only [Nat.add_zero] at hst
  obtain ⟨n',rfl⟩:∃ n',n=n'+1:=⟨n - 1,by omega⟩
  simp [Builtin.clear_,run_underlying hu,zeroValue,typeInfo,hi,hz,hst,splice]
theorem GO.kK {t el tb:TypeId} {x:Operand} {B:Option Addr} {j l dn dc:Nat} {z:Value} (z0:α) (l0:T.Lay) (HS:St w0 w L) (hj:L[j]?=some (Own T tb A c ly xs)) (hfl:Flat T) (ho:ops[i]?=some ⟨none,.call { callee:=.builtin .clear,args:=#[x],argTypes:=#[t] },ty,ps,af,none⟩) (hx:ev e x=some (.slice B dn dc))
    (ht:P.underlying t=some (.slice el)) (hz:(P.info? el).map (·.zero)=some (some z)) (hzc:z.cells=(T.cells l0 z0).toArray) (hs0:Nat.blt 0 T.sz=true) (hC:0<dn→∀ g o,A=some ⟨g,o,none⟩→B=some ⟨g,o+l * T.sz,none⟩) (hl:l+dn≤xs.length) (hly:∀ k,ly k=l0)
    (g:∀ w',St w0 w' (L.set j (Own T tb A c ly (over xs l (List.replicate dn z0))))→GO P N ops rest e w' Q):GO P N ops (i::rest) e w Q:=by
  obtain ⟨inf,hi,hzz⟩:=Option.map_eq_some_iff.1 hz
  rcases Nat.eq_zero_or_pos dn with h0 | h0
  · subst h0
    have ho':over xs l (List.replicate 0 z0)=xs:=by unfold over; simp
    rw [ho',Si hj] at g
    refine GO.act (.tuple #[]) ho rfl rfl (fun a hs=>?_) (g w HS)
    cases B <;> simp [execOp,resolve,invoke,builtin,hs.ev hx,Builtin.clear_,run_underlying ht]
  · obtain ⟨gb,og,cur,hA,hh,hfit,hst⟩:=HS.aB (g:=0) (o:=0) (ys:=List.replicate dn z0) (l:=l) hj hfl (fun k k'=>by rw [hly k,hly k']) (by rw [List.length_replicate]; exact hl) (by rw [List.length_replicate]; exact h0)
    have hB:=hC h0 gb og hA
    subst hB
    have hcs:(Builtin.zeroCells z.cells dn).toList=rc T ly 0 (List.replicate dn z0):=by
      have e1:Builtin.zeroCells z.cells dn=madeCells (T.cells l0 z0).toArray (dn * (T.cells l0 z0).length):=by
        rw [hzc]; unfold Builtin.zeroCells madeCells; simp
      have e2:rc T ly 0 (List.replicate dn z0)=rc T (fun _=>l0) 0 (List.replicate dn z0):=Qu (fun k _ _=>hly k)
      rw [e1,e2,O3]
      exact Nb _ (by rw [T.len]; exact Nat.le_of_ble_eq_true hs0) _
    refine GO.act (.tuple #[]) ho rfl rfl (fun a hs=>?_) (g _ hst)
    have hr:=bM (P:=P) w t ty el T.sz gb (og+l * T.sz) dn dc cur tb z inf ht hi hzz h0 hh (by rw [hcs,Ec]; simpa using hfit) (fun u hu=>by rw [hcs] at hu; exact Vq hu)
    rw [hcs] at hr
    simp only [execOp,resolve,invoke,builtin,Sem.run_bind,Sem.run_pure,Result.andThen_ok,List.map_toArray,List.map_cons,List.map_nil,hs.ev hx,hr]
end
section
variable {P:Program} {N:Nat} {e:Env} {w0 w:World} {L:List Cn} {Q:Act→World→Prop} {ops:Array Oper} {i d:Nat} {rest:List Nat} {ty:TypeId} {ps:String} {af:Array Edge}
theorem GO.ixV {t el:TypeId} {x y:Operand} {b len:Nat} {kd:IntKind} {m:Int} (ho:ops[i]?=some ⟨some d,.indexAddr t x y,ty,ps,af,none⟩) (hx:ev e x=some (.pointer (some ⟨b,0,none⟩))) (hy:ev e y=some (.int kd m)) (ht:P.underlying t=some (.array len el)) (hsz:(P.info? el).map (·.size)=some 1)
    (h0:0≤m) (h1:m<(len:Int)) (hN:Nat.blt d N=true) (g:GO P N ops rest ((d,.pointer (some ⟨b,m.toNat,none⟩))::e) w Q):GO P N ops (i::rest) e w Q:=by
  refine GO.val _ ho rfl rfl hN (fun a hs=>?_) g
  obtain ⟨inf,hi,hi2⟩:=Option.map_eq_some_iff.1 hsz
  simp [execOp,hs.ev hx,hs.ev hy,Instr.indexAt,Instr.sureAddr,asIntOf,run_underlying ht,h0,h1,sizeOf,typeInfo,hi,hi2,Ia]
theorem GO.nD {t tb:TypeId} {x:Operand} {b m j:Nat} {kd:IntKind} {cs:List Value} (l:List Int) (HS:St w0 w L) (hj:L[j]?=some (Box b tb cs)) (ho:ops[i]?=some ⟨some d,.load t x,ty,ps,af,none⟩) (hx:ev e x=some (.pointer (some ⟨b,m,none⟩))) (hm:m<l.length) (ht:naB P t=true) (hN:Nat.blt d N=true) (hc:cs=l.map (Value.int kd))
    (g:GO P N ops rest ((d,.int kd (l.getD m 0))::e) w Q):GO P N ops (i::rest) e w Q:=by
  subst hc
  have hv:(l.map (Value.int kd))[m]?=some (.int kd (l.getD m 0)):=by
    rw [List.getElem?_map,getD_some (d:=(0:Int)) hm]; rfl
  exact GO.uU HS hj ho hx hv ht hN g
end
section
variable {P:Program} {N:Nat} {e:Env} {w:World} {Q:Act→World→Prop} {ops:Array Oper} {i d:Nat} {rest:List Nat} {ty:TypeId} {ps:String} {af:Array Edge}
end
end Go.Proofs.YtjopfecenllmgaaGreatDoor
