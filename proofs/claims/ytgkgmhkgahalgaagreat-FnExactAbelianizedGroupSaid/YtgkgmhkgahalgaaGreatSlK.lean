import Derived.Test.YtgkgmhkgahalgaaGreatSlE
import Derived.Laws.Cover3
import Derived.MapKept
import Derived.Still
set_option linter.unusedVariables false
set_option linter.unusedSimpArgs false
namespace Go.Proofs.YtgkgmhkgahalgaaGreat
open Go.RowKit
section
variable {α β:Type} {c:Prop} [Decidable c] {a b:Option α} {r:α}
theorem lX (h:(if c then a else b)=some r):(c∧a=some r)∨(¬ c∧b=some r):=by
 by_cases hc:c
 ·rw [if_pos hc] at h; exact .inl ⟨hc,h⟩
 ·rw [if_neg hc] at h; exact .inr ⟨hc,h⟩
theorem mI (h:(if c then a else none)=some r):c∧a=some r:=by
 by_cases hc:c
 ·rw [if_pos hc] at h; exact ⟨hc,h⟩
 ·rw [if_neg hc] at h; cases h
theorem Ll (h:(if c then none else b)=some r):¬ c∧b=some r:=by
 by_cases hc:c
 ·rw [if_pos hc] at h; cases h
 ·rw [if_neg hc] at h; exact ⟨hc,h⟩
def bnd (x:β) (f:β→Option α):Option α:=f x
theorem Gp {x:β} {f:β→Option α} (h:bnd x f=some r):∃ y,x=y∧f y=some r:=⟨x,rfl,h⟩
end
def Dw {α0 α1 β:Type} (x:Option (α0 × α1)) (f:α0→α1→Option β):Option β:=x.bind fun z=>f z.1 z.2
theorem Cx {α0 α1 β:Type} {x:Option (α0 × α1)} {f:α0→α1→Option β} {r:β} (h:Dw x f=some r):∃ a0 a1,x=some (a0,a1)∧f a0 a1=some r:=by
 obtain ⟨⟨a0,a1⟩,h1,h2⟩:=Option.bind_eq_some_iff.1 h
 exact ⟨a0,a1,h1,h2⟩
def Gy {α0 α1 α2 β:Type} (x:Option (α0 × α1 × α2)) (f:α0→α1→α2→Option β):Option β:=x.bind fun z=>f z.1 z.2.1 z.2.2
theorem Gb {α0 α1 α2 β:Type} {x:Option (α0 × α1 × α2)} {f:α0→α1→α2→Option β} {r:β} (h:Gy x f=some r):∃ a0 a1 a2,x=some (a0,a1,a2)∧f a0 a1 a2=some r:=by
 obtain ⟨⟨a0,a1,a2⟩,h1,h2⟩:=Option.bind_eq_some_iff.1 h
 exact ⟨a0,a1,a2,h1,h2⟩
def Hm {α0 α1 α2 α3 β:Type} (x:Option (α0 × α1 × α2 × α3)) (f:α0→α1→α2→α3→Option β):Option β:=x.bind fun z=>f z.1 z.2.1 z.2.2.1 z.2.2.2
theorem Ii {α0 α1 α2 α3 β:Type} {x:Option (α0 × α1 × α2 × α3)} {f:α0→α1→α2→α3→Option β} {r:β} (h:Hm x f=some r):∃ a0 a1 a2 a3,x=some (a0,a1,a2,a3)∧f a0 a1 a2 a3=some r:=by
 obtain ⟨⟨a0,a1,a2,a3⟩,h1,h2⟩:=Option.bind_eq_some_iff.1 h
 exact ⟨a0,a1,a2,a3,h1,h2⟩
def M5 {α0 α1 α2 α3 α4 α5 β:Type} (x:Option (α0 × α1 × α2 × α3 × α4 × α5)) (f:α0→α1→α2→α3→α4→α5→Option β):Option β:=x.bind fun z=>f z.1 z.2.1 z.2.2.1 z.2.2.2.1 z.2.2.2.2.1 z.2.2.2.2.2
theorem Ou {α0 α1 α2 α3 α4 α5 β:Type} {x:Option (α0 × α1 × α2 × α3 × α4 × α5)} {f:α0→α1→α2→α3→α4→α5→Option β} {r:β} (h:M5 x f=some r):∃ a0 a1 a2 a3 a4 a5,x=some (a0,a1,a2,a3,a4,a5)∧f a0 a1 a2 a3 a4 a5=some r:=by
 obtain ⟨⟨a0,a1,a2,a3,a4,a5⟩,h1,h2⟩:=Option.bind_eq_some_iff.1 h
 exact ⟨a0,a1,a2,a3,a4,a5,h1,h2⟩
def Wi {α0 α1 α2 α3 α4 α5 α6 α7 β:Type} (x:Option (α0 × α1 × α2 × α3 × α4 × α5 × α6 × α7)) (f:α0→α1→α2→α3→α4→α5→α6→α7→Option β):Option β:=x.bind fun z=>f z.1 z.2.1 z.2.2.1 z.2.2.2.1 z.2.2.2.2.1 z.2.2.2.2.2.1 z.2.2.2.2.2.2.1 z.2.2.2.2.2.2.2
theorem cZ {α0 α1 α2 α3 α4 α5 α6 α7 β:Type} {x:Option (α0 × α1 × α2 × α3 × α4 × α5 × α6 × α7)} {f:α0→α1→α2→α3→α4→α5→α6→α7→Option β} {r:β} (h:Wi x f=some r):∃ a0 a1 a2 a3 a4 a5 a6 a7,x=some (a0,a1,a2,a3,a4,a5,a6,a7)∧f a0 a1 a2 a3 a4 a5 a6 a7=some r:=by
 obtain ⟨⟨a0,a1,a2,a3,a4,a5,a6,a7⟩,h1,h2⟩:=Option.bind_eq_some_iff.1 h
 exact ⟨a0,a1,a2,a3,a4,a5,a6,a7,h1,h2⟩
theorem H8 {α0 α1:Type} {a0:α0} {a1:α1} {b0:α0} {b1:α1} (h:some (a0,a1)=some (b0,b1)):a0=b0∧a1=b1:=by cases h; exact ⟨rfl,rfl⟩
theorem Kw {α0 α1 α2:Type} {a0:α0} {a1:α1} {a2:α2} {b0:α0} {b1:α1} {b2:α2} (h:some (a0,a1,a2)=some (b0,b1,b2)):a0=b0∧a1=b1∧a2=b2:=by cases h; exact ⟨rfl,rfl,rfl⟩
theorem Sl {α0 α1 α2 α3:Type} {a0:α0} {a1:α1} {a2:α2} {a3:α3} {b0:α0} {b1:α1} {b2:α2} {b3:α3} (h:some (a0,a1,a2,a3)=some (b0,b1,b2,b3)):a0=b0∧a1=b1∧a2=b2∧a3=b3:=by cases h; exact ⟨rfl,rfl,rfl,rfl⟩
theorem Oo {α0 α1 α2 α3 α4 α5:Type} {a0:α0} {a1:α1} {a2:α2} {a3:α3} {a4:α4} {a5:α5} {b0:α0} {b1:α1} {b2:α2} {b3:α3} {b4:α4} {b5:α5} (h:some (a0,a1,a2,a3,a4,a5)=some (b0,b1,b2,b3,b4,b5)):a0=b0∧a1=b1∧a2=b2∧a3=b3∧a4=b4∧a5=b5:=by cases h; exact ⟨rfl,rfl,rfl,rfl,rfl,rfl⟩
theorem Sn {α0 α1 α2 α3 α4 α5 α6 α7:Type} {a0:α0} {a1:α1} {a2:α2} {a3:α3} {a4:α4} {a5:α5} {a6:α6} {a7:α7} {b0:α0} {b1:α1} {b2:α2} {b3:α3} {b4:α4} {b5:α5} {b6:α6} {b7:α7} (h:some (a0,a1,a2,a3,a4,a5,a6,a7)=some (b0,b1,b2,b3,b4,b5,b6,b7)):a0=b0∧a1=b1∧a2=b2∧a3=b3∧a4=b4∧a5=b5∧a6=b6∧a7=b7:=by cases h; exact ⟨rfl,rfl,rfl,rfl,rfl,rfl,rfl,rfl⟩
theorem Cv {b:Bool} (h:¬ b=true):b=false:=by cases b<;>simp_all
theorem ltN {i:Int} {n:Nat} (h:0≤i∧i<(n:Int)):i.toNat<n:=by omega
theorem Gt {α:Type} {xs:List α} {d e:α} {i:Nat} (h:i<xs.length) (he:xs.getD i d=e):xs[i]?=some e:=by rw [← he]; exact getD_some h
section
variable {P:Program} {f:FuncId} {N:Nat} {e:Env} {k:List Item} {w:World} {R:Ending→World→Prop} {Q:Act→World→Prop} {ops:Array Oper} {l:List Nat} {i:Nat} {rest:List Nat}
theorem G.name (h:∀ k',k'=k→G P f N e k' w R):G P f N e k w R:=h k rfl
theorem G.Wd {x:Item} (h:∀ k',k'=k→G P f N e (x::k') w R):G P f N e (x::k) w R:=h k rfl
theorem Sat.known {a:Act} {t:Nat} {x b:Bool} (hs:Sat N e a) (h:look e t=some (.bool x)) (hx:x=b):Sat N ((t,.bool b)::e) a:=by
 subst hx
 refine ⟨hs.defers,hs.size,fun s v hv=>?_⟩
 simp only [look] at hv
 cases hb:Nat.beq t s with
 |true=>rw [hb] at hv; have:=Nat.eq_of_beq_eq_true hb; subst this; cases hv; exact hs.at_ t _ h
 |false=>rw [hb] at hv; exact hs.at_ s v hv
theorem Sat.len {a:Act} {t n m c:Nat} {A:Option Addr} (hs:Sat N e a) (h:look e t=some (.slice A n c)) (hx:n=m):Sat N ((t,.slice A m c)::e) a:=by
 subst hx
 refine ⟨hs.defers,hs.size,fun s v hv=>?_⟩
 simp only [look] at hv
 cases hb:Nat.beq t s with
 |true=>rw [hb] at hv; have:=Nat.eq_of_beq_eq_true hb; subst this; cases hv; exact hs.at_ t _ h
 |false=>rw [hb] at hv; exact hs.at_ s v hv
theorem GO.known {t:Nat} {x b:Bool} (h:look e t=some (.bool x)) (hx:x=b) (g:GO P N ops l ((t,.bool b)::e) w Q):GO P N ops l e w Q:=fun a hs=>g a (hs.known h hx)
theorem G.len {t n m c:Nat} {A:Option Addr} (h:look e t=some (.slice A n c)) (hx:n=m) (g:G P f N ((t,.slice A m c)::e) k w R):G P f N e k w R:=fun a hs=>g a (hs.len h hx)
theorem GO.on {o:Oper} {j t:Nat} {b:Bool} (ho:ops[i]?=some o) (hg:o.guard=some (j,b)) (hj:Od ops j=some t) (hb:look e t=some (.bool b))
  (g:GO P N #[{ o with guard:=none }] [0] e w (fun a' w'=>wpOps P ops (fun en a w=>en=.normal∧Q a w) rest a' w')):GO P N ops (i::rest) e w Q:=by
 intro a hs
 have h1:=hs.at_ t _ hb
 have h2:(ops[j]?).bind (·.dst)=some t:=hj
 have hw:Region.wanted o (yielded ops a.tmps)=true:=by
  simp only [Region.wanted,hg,yielded,h2]
  simp [h1]
 have h3:=g a hs
 have hw':Region.wanted { o with guard:=none } (yielded #[{ o with guard:=none }] a.tmps)=true:=rfl
 rw [wpOps_cons] at h3 ⊢
 unfold wpOp at h3 ⊢
 rw [ho]
 simp only [hw,if_true]
 have ho':(#[{ o with guard:=none }]:Array Oper)[0]?=some { o with guard:=none }:=rfl
 rw [ho'] at h3
 simp only [hw',if_true] at h3
 rcases h3 with h3 | ⟨_,a0,w0,h0,_⟩
 ·refine .inl ?_
  have hmono:=Oper.wp_mono (P:=P) (K':=wpOps P ops (fun en a w=>en=.normal∧Q a w) rest) (fun a w h=>h.2) h3
  have he:execOp a.eval { o with guard:=none }=execOp a.eval o:=rfl
  unfold Oper.wp at hmono ⊢
  rw [he] at hmono
  revert hmono
  generalize (execOp a.eval o).run P w=r
  intro hmono
  cases r with
  |ok n w' =>
   cases n<;>simp only [Oper.upon] at hmono ⊢<;>first
    |exact hmono
    |exact Calls.mono hmono (fun e w'' he=>by cases e with
      |returned v=>exact he
      |panicked c=>exact absurd he.1 (by simp)
      |outgrown=>obtain ⟨_,_,h,_⟩:=he; cases h)
  |halt x w'=>cases x<;>simp only [Oper.upon] at hmono ⊢<;>first | exact hmono | exact absurd hmono.1 (by simp)
 ·cases h0
theorem GO.back {o:Oper} (g:GO P N ops rest e w Q):GO P N #[o] [] e w (fun a' w'=>wpOps P ops (fun en a w=>en=.normal∧Q a w) rest a' w'):=fun a hs=>⟨rfl,g a hs⟩
theorem GO.Mv {o:Oper} {d j t:Nat} {b:Bool} (ho:ops[i]?=some o) (hg:o.guard=some (j,b)) (hj:Od ops j=some t) (hb:look e t=some undef) (hd:o.dst=some d) (hN:Nat.blt d N=true)
  (g:GO P N ops rest ((d,undef)::e) w Q):GO P N ops (i::rest) e w Q:=by
 intro a hs
 have h1:=hs.at_ t _ hb
 have h2:(ops[j]?).bind (·.dst)=some t:=hj
 have hw:Region.wanted o (yielded ops a.tmps)=false:=by
  simp only [Region.wanted,hg,yielded,h2]
  simp [h1,undef]
 simp only [wpOps,ho,hw,hd]
 exact g _ (hs.put hN undef)
theorem G.at {a:Act} (hs:Sat N e a) (g:G P f N e k w R):Lb P f k R a w:=g a hs
end
theorem htA {P:Program} {t:TypeId} {n:Nat} {b:Bool} (h:agB P t n=true):(naB P t && b || agB P t n)=true:=by rw [h,Bool.or_true]
theorem htN {P:Program} {t:TypeId} {n:Nat} {b:Bool} (h:naB P t=true) (hb:b=true):(naB P t && b || agB P t n)=true:=by rw [h,hb]; rfl
theorem Ky {xs n:Nat} (h:Nat.ble xs n=true):xs≤n:=Nat.le_of_ble_eq_true h
section
variable {w0 w:World} {L:List Dc} {b j:Nat} {t:TypeId} {cs:List Value}
theorem St.emp (h:St w0 w L):St w0 w (Emp::L):=⟨h.below,fun _=>False,fun k=>w0.heap.size≤k∧k<w.heap.size,fun _ h=>h.elim,fun _ h=>h,fun _ h=>h.elim,trivial,h.sep⟩
theorem Q6 {l:List Dc} {i:Nat} {x:Dc} (h:l[i]?=some x):l.set i x=l:=by
 apply List.ext_getElem?
 intro m
 by_cases hm:i=m
 ·subst hm; rw [List.getElem?_set_self (List.getElem?_eq_some_iff.1 h).1,h]
 ·rw [List.getElem?_set_ne hm]
theorem St.G6 {cs':List Value} (h:St w0 w L) (hj:L[j]?=some (Box b t cs)) (he:cs=cs'):St w0 w (L.set j (Box b t cs')):=by
 subst he; rw [Q6 hj]; exact h
theorem Kc.Lh {P:Program} {e:Env} {s:Nat} {ty tb:TypeId} {vs:List Value} (HS:St w0 w L) (hj:L[j]?=some (Box b tb cs)) (hx:look e s=some (.pointer (some ⟨b,0,none⟩))) (hv:cs.take vs.length=vs) (ht:agB P ty vs.length=true):Kc P w e (.cell s ty) (.agg vs.toArray):=by
 refine ⟨_,hx,Qj ht (fun m u hu=>?_)⟩
 rw [Jj,Nat.zero_add]
 refine HS.Rh hj ?_
 rw [← hv,List.getElem?_take] at hu
 split at hu
 ·exact hu
 ·cases hu
end
section
variable {α:Type} {T:Ty α} {P:Program} {N:Nat} {e:Env} {w0 w:World} {L:List Dc} {Q:Act→World→Prop} {ops:Array Oper} {i d:Nat} {rest:List Nat} {ty:TypeId} {ps:String} {af:Array Edge}
theorem Tj (t ty el:TypeId) (inf:TypeInfo) (ht:P.underlying t=some (.slice el)) (hi:P.info? el=some inf) {v:Value} {n c size:Nat} {xs:List Value} (hown:OR w el size v n xs):(Builtin.append_ #[t,t] ty #[v,.slice none 0 c]).run P w=.ok v w:=by
 rcases hown.2 with ⟨rfl,rfl⟩|⟨g,o,cap,cur,rfl,_,hnc,_⟩
 ·simp [Builtin.append_,run_underlying ht,sizeOf,typeInfo,hi,Builtin.lenOf,Builtin.firstCells]
 ·simp [Builtin.append_,run_underlying ht,sizeOf,typeInfo,hi,Builtin.lenOf,Builtin.firstCells,hnc,storeCells]
theorem GO.kH {t el:TypeId} {x y:Operand} {A B:Option Addr} {c cb j:Nat} {ly ly2:Nat→T.Lay} {xs ys:List α} {z:Value} {bytes:Nat} (HS:St w0 w L) (hj:L[j]?=some (Own T el A c ly xs)) (hr:Bv w0 L T B cb ly2 ys) (hfl:Flat T) (ho:ops[i]?=some ⟨some d,.call { callee:=.builtin .append,args:=#[x,y],argTypes:=#[t,t] },ty,ps,af,none⟩) (hx:ev e x=some (.slice A xs.length c)) (hy:ev e y=some (.slice B ys.length cb))
  (ht:P.underlying t=some (.slice el)) (hinf:(P.info? el).map (fun i=>(i.zero,i.size,i.bytes))=some (some z,T.sz,bytes)) (hz:(z.cells.size == T.sz)=true) (hs0:Nat.blt 0 T.sz=true) (hb0:Nat.blt 0 bytes=true) (hm:(xs.length+ys.length)*bytes≤140737488355328) (hN:Nat.blt d N=true)
  (hly:∀ k,ly2 k=ly (xs.length+k):=by intro _; rfl)
  (g:∀ A' c' w',St w0 w' (L.set j (Own T el A' c' ly (xs++ys)))→GO P N ops rest ((d,.slice A' (xs++ys).length c')::e) w' Q):GO P N ops (i::rest) e w Q:=by
 obtain ⟨inf,hi,hzz⟩:=Option.map_eq_some_iff.1 hinf
 simp only [Prod.mk.injEq] at hzz
 obtain ⟨hz0,hz1,hz2⟩:=hzz
 have hs0':0<T.sz:=Nat.le_of_ble_eq_true hs0
 have hb0':0<bytes:=Nat.le_of_ble_eq_true hb0
 have hmm:xs.length+ys.length≤140737488355328:=Nat.le_trans (Nat.le_mul_of_pos_right _ hb0') hm
 obtain ⟨q,_,ho1⟩:=HS.get hj
 obtain ⟨q1,q2,h1,h2,hd,hown,hb,hs⟩:=ho1
 obtain ⟨hle,hcm,hA,hcell,_⟩:=hr w HS
 rcases Nat.eq_zero_or_pos ys.length with h0 | h0
 ·obtain rfl:=List.eq_nil_of_length_eq_zero h0
  cases B with
  |none =>
   have hrun:=Tj (P:=P) (w:=w) t ty el inf ht hi (c:=cb) hown
   have hst:St w0 w (L.set j (Own T el A c ly (xs++[]))):=by rw [List.append_nil,Q6 hj]; exact HS
   refine GO.val (.slice A (xs++([]:List α)).length c) ho rfl rfl hN (fun a hs=>by
    simp only [execOp,resolve,invoke,builtin,Sem.run_bind,Sem.run_pure,Result.andThen_ok,List.map_toArray,List.map_cons,List.map_nil,hs.ev hx,hs.ev hy,List.length_nil,hrun,List.append_nil]) (g A c w hst)
  |some ad =>
   have hcells:∀ m u,([]:List Value)[m]?=some u→w.cell? (ad.add m)=some u:=fun m u hu=>by simp at hu
   obtain ⟨v',w',hrn,hown',hg,hat⟩:=M9 (P:=P) w t ty el inf z T.sz bytes ht hi hz0 hz1 hz2 (by simpa using hz) hs0' _ _ _ hown ad 0 cb [] (by simp) hcells (fun u hu=>by cases hu) (by simp only [maxLen]; omega) (by simpa using hm)
   obtain ⟨A',c',rfl⟩:=hown'.slice
   rw [List.append_nil] at hown'
   have hst:=HS.appended hj hfl (zs:=xs) rfl hown' hg hat
   refine GO.val (.slice A' (xs++([]:List α)).length c') ho rfl rfl hN (fun a hs=>by
    simp only [execOp,resolve,invoke,builtin,Sem.run_bind,Sem.run_pure,Result.andThen_ok,List.map_toArray,List.map_cons,List.map_nil,hs.ev hx,hs.ev hy,List.length_nil,hrn,List.append_nil]; rfl) (g A' c' w' (by rw [List.append_nil]; exact hst))
 ·obtain ⟨b,o,hB⟩:=hA h0
  subst hB
  have hcells:∀ m u,(rc T ly2 0 ys)[m]?=some u→w.cell? ((⟨b,o,none⟩:Addr).add m)=some u:=fun m u hu=>hcell m u hu
  obtain ⟨v',w',hrn,hown',hg,hat⟩:=M9 (P:=P) w t ty el inf z T.sz bytes ht hi hz0 hz1 hz2 (by simpa using hz) hs0' _ _ _ hown ⟨b,o,none⟩ ys.length cb (rc T ly2 0 ys) (F7 _ _) hcells (fun u hu=>Ym hu) (by simp only [maxLen]; omega) hm
  obtain ⟨A',c',rfl⟩:=hown'.slice
  have hrc:rc T ly 0 xs++rc T ly2 0 ys=rc T ly 0 (xs++ys):=by
   rw [Ji,Nat.zero_add]
   congr 1
   have key:∀ (ys:List α) (i:Nat),rc T ly2 i ys=rc T ly (xs.length+i) ys:=by
    intro ys
    induction ys with
    |nil=>intro i; rfl
    |cons y r ih=>intro i; rw [rc,rc,ih,hly i]; rfl
   exact key ys 0
  rw [hrc] at hown'
  have hlen:xs.length+ys.length=(xs++ys).length:=by rw [List.length_append]
  have hst:=HS.appended hj hfl hlen hown' hg hat
  refine GO.val (.slice A' (xs++ys).length c') ho rfl rfl hN (fun a hs=>by
   simp only [execOp,resolve,invoke,builtin,Sem.run_bind,Sem.run_pure,Result.andThen_ok,List.map_toArray,List.map_cons,List.map_nil,hs.ev hx,hs.ev hy,hrn,← hlen]) (g A' c' w' hst)
theorem GO.Z6 {β:Type} {S:Ty β} {u t el tb:TypeId} {x y:Operand} {A A2:Option Addr} {c c2 b:Nat} {ly:Nat→Ti S.Lay} {ly2:Nat→S.Lay} {xs:List (List β)} {ys:List β} {z:Value} {bytes:Nat} (HS:St w0 w (Own (Ty.slice u S) el A c ly xs::Box b tb [.slice A2 ys.length c2]::Own S u A2 c2 ly2 ys::L)) (ho:ops[i]?=some ⟨some d,.call { callee:=.builtin .append,args:=#[x,y],argTypes:=#[t,t] },ty,ps,af,none⟩) (hx:ev e x=some (.slice A xs.length c)) (hy:ev e y=some (.slice (some ⟨b,0,none⟩) 1 1))
  (ht:P.underlying t=some (.slice el)) (hinf:(P.info? el).map (fun i=>(i.zero,i.size,i.bytes))=some (some z,1,bytes)) (hz:(z.cells.size == 1)=true) (hb0:Nat.blt 0 bytes=true) (hm:(xs.length+1)*bytes≤140737488355328) (hN:Nat.blt d N=true)
  (g:∀ A' c' (ly':Nat→Ti S.Lay) w',St w0 w' (Own (Ty.slice u S) el A' c' ly' (xs++[ys])::Box b tb [.slice A2 ys.length c2]::L)→GO P N ops rest ((d,.slice A' (xs++[ys]).length c')::e) w' Q):GO P N ops (i::rest) e w Q:=by
 obtain ⟨inf,hi,hzz⟩:=Option.map_eq_some_iff.1 hinf
 simp only [Prod.mk.injEq] at hzz
 obtain ⟨hz0,hz1,hz2⟩:=hzz
 have hb0':0<bytes:=Nat.le_of_ble_eq_true hb0
 have hmm:xs.length+1≤140737488355328:=Nat.le_trans (Nat.le_mul_of_pos_right _ hb0') hm
 obtain ⟨hbel,q,r,hq,hr,hqr,⟨q1,q2,h1,h2,hd,hown,hb,hs⟩,qb,rb,hqb,hrb,hbd,⟨hbq,hbx⟩,qe,re,hqe,hre,hed,hoe,hL⟩:=HS
 have hcells:∀ m v,([.slice A2 ys.length c2]:List Value)[m]?=some v→w.cell? ((⟨b,0,none⟩:Addr).add m)=some v:=fun m v hv=>by
  rw [Jj,Nat.zero_add,cell_of_row w b m _ tb (0,0) hbx]
  simpa using hv
 obtain ⟨v',w',hrn,hown',hg,hat⟩:=M9 (P:=P) w t ty el inf z 1 bytes ht hi hz0 hz1 hz2 (by simpa using hz) (by decide) _ _ _ hown ⟨b,0,none⟩ 1 1 [.slice A2 ys.length c2] rfl hcells (fun v hv=>by rw [List.mem_singleton.1 hv]; rfl) (by simp only [maxLen]; omega) hm
 obtain ⟨A',c',rfl⟩:=hown'.slice
 let ly':Nat→Ti S.Lay:=fun k=>if k=xs.length then ⟨A2,c2,ly2⟩ else ly k
 have hlen:xs.length+1=(xs++[ys]).length:=by simp
 have hcg:rc (Ty.slice u S) ly 0 xs=rc (Ty.slice u S) ly' 0 xs:=Qz (fun k _ hk=>by simp only [ly']; rw [if_neg (by omega)])
 have hrc:rc (Ty.slice u S) ly 0 xs++[.slice A2 ys.length c2]=rc (Ty.slice u S) ly' 0 (xs++[ys]):=by
  refine (congrArg (·++[Value.slice A2 ys.length c2]) hcg).trans ((Ji (T:=Ty.slice u S) (ly:=ly') 0 xs [ys]).trans ?_).symm
  refine congrArg (rc (Ty.slice u S) ly' 0 xs++·) ?_
  simp [rc,ly']
 rw [hrc,hlen] at hown'
 rw [hlen] at hrn hat
 refine GO.val _ ho rfl rfl hN (fun a hs=>by simp only [execOp,resolve,invoke,builtin,Sem.run_bind,Sem.run_pure,Result.andThen_ok,List.map_toArray,List.map_cons,List.map_nil,hs.ev hx,hs.ev hy,hrn]) (g A' c' ly' w' ?_)
 have hkeep:∀ k,k<w.heap.size→¬ q1 k→w'.heap[k]?=w.heap[k]?:=fun k hk hn=>hg.block k hk (fun e=>hn (hb k e.symm))
 have hlt:=hown'.lt
 refine ⟨hbel.trans ⟨hg.os,hg.tape,hg.output,hg.size,fun k hk=>hkeep k (Nat.lt_of_lt_of_le hk hbel.size) (fun hk1=>by have:=hq k (h1 k hk1); omega)⟩,fun k=>q k∨qe k∨(w.heap.size≤k∧k<w'.heap.size),fun k=>qb k∨re k,?_,?_,?_,⟨fun k=>q1 k∨(w.heap.size≤k∧k<w'.heap.size),fun k=>q2 k∨qe k,?_,?_,?_,hown',?_,?_⟩,qb,re,fun k hk=>.inl hk,fun k hk=>.inr hk,?_,⟨hbq,?_⟩,?_⟩
 ·intro k hk
  have hsz:=hg.size
  have hB:=hbel.size
  rcases hk with hk | hk | hk
  ·have:=hq k hk; omega
  ·have:=hr k (hrb k (hqe k hk)); omega
  ·omega
 ·intro k hk
  have hsz:=hg.size
  rcases hk with hk | hk
  ·have:=hr k (hqb k hk); omega
  ·have:=hr k (hrb k (hre k hk)); omega
 ·intro k hk hn
  rcases hk with hk | hk | hk
  ·rcases hn with hn | hn
   ·exact hqr k hk (hqb k hn)
   ·exact hqr k hk (hrb k (hre k hn))
  ·rcases hn with hn | hn
   ·exact hbd k hn (hqe k hk)
   ·exact hed k hk hn
  ·rcases hn with hn | hn
   ·have:=hr k (hqb k hn); omega
   ·have:=hr k (hrb k (hre k hn)); omega
 ·intro k hk; rcases hk with hk | hk
  ·exact .inl (h1 k hk)
  ·exact .inr (.inr hk)
 ·intro k hk; rcases hk with hk | hk
  ·exact .inl (h2 k hk)
  ·exact .inr (.inl hk)
 ·intro k hk hn
  rcases hk with hk | hk
  ·rcases hn with hn | hn
   ·exact hd k hk hn
   ·exact hqr k (h1 k hk) (hrb k (hqe k hn))
  ·rcases hn with hn | hn
   ·have:=hq k (h2 k hn); omega
   ·have:=hr k (hrb k (hqe k hn)); omega
 ·intro k hk
  rcases hat k hk with e | e
  ·exact .inl (hb k e)
  ·exact .inr ⟨e,hlt k hk⟩
 ·have hs1:Ir (Ty.slice u S) w' ly' 0 xs q2:=(hs.loc (fun k hk=>hkeep k (hq k (h2 k hk)).2 (fun h=>hd k h hk))).congr (fun k _ hk=>by simp only [ly']; rw [if_neg (by omega)])
  refine Ir.snoc hs1 ?_ (fun k hk hn=>hqr k (h2 k hk) (hrb k (hqe k hn)))
  show O8 S u (ly' (0+xs.length)).A (ly' (0+xs.length)).c (ly' (0+xs.length)).ly ys w' qe
  have:ly' (0+xs.length)=⟨A2,c2,ly2⟩:=by simp [ly']
  rw [this]
  exact O8.loc hoe (fun k hk=>hkeep k (hr k (hrb k (hqe k hk))).2 (fun h=>hqr k (h1 k h) (hrb k (hqe k hk))))
 ·intro k hk hn; exact hbd k hk (hre k hn)
 ·rw [hkeep b (hr b (hqb b hbq)).2 (fun h=>hqr b (h1 b h) (hqb b hbq))]; exact hbx
 ·exact hL.loc (fun k hk=>hkeep k (hr k (hrb k (hre k hk))).2 (fun h=>hqr k (h1 k h) (hrb k (hre k hk))))
end
section
variable {P:Program} {N:Nat} {e:Env} {w:World} {Q:Act→World→Prop} {ops:Array Oper} {i d:Nat} {rest:List Nat} {ty:TypeId} {ps:String} {af:Array Edge}
theorem GO.max2 {t u:TypeId} {x y:Operand} {kd:IntKind} {m n:Int} (ho:ops[i]?=some ⟨some d,.call { callee:=.builtin .max,args:=#[x,y],argTypes:=#[t,u] },ty,ps,af,none⟩) (hx:ev e x=some (.int kd m)) (hy:ev e y=some (.int kd n)) (hN:Nat.blt d N=true)
  (g:GO P N ops rest ((d,.int kd (if n > m then n else m))::e) w Q):GO P N ops (i::rest) e w Q :=
 GO.val _ ho rfl rfl hN (fun a hs=>by simp [execOp,resolve,invoke,builtin,hs.ev hx,hs.ev hy,run_max_int2]) g
theorem GO.min2 {t u:TypeId} {x y:Operand} {kd:IntKind} {m n:Int} (ho:ops[i]?=some ⟨some d,.call { callee:=.builtin .min,args:=#[x,y],argTypes:=#[t,u] },ty,ps,af,none⟩) (hx:ev e x=some (.int kd m)) (hy:ev e y=some (.int kd n)) (hN:Nat.blt d N=true)
  (g:GO P N ops rest ((d,.int kd (if n<m then n else m))::e) w Q):GO P N ops (i::rest) e w Q :=
 GO.val _ ho rfl rfl hN (fun a hs=>by simp [execOp,resolve,invoke,builtin,hs.ev hx,hs.ev hy,run_min_int2]) g
theorem GO.ixP {t el:TypeId} {x y:Operand} {b off len sz:Nat} {kd:IntKind} {m:Int} (n:Nat) (ho:ops[i]?=some ⟨some d,.indexAddr t x y,ty,ps,af,none⟩) (hx:ev e x=some (.pointer (some ⟨b,off,none⟩))) (hy:ev e y=some (.int kd m)) (hm:m=(n:Int)) (ht:P.underlying t=some (.array len el)) (hsz:(P.info? el).map (·.size)=some sz)
  (hl:Nat.blt n len=true) (hN:Nat.blt d N=true) (g:GO P N ops rest ((d,.pointer (some ⟨b,off+n*sz,none⟩))::e) w Q):GO P N ops (i::rest) e w Q:=by
 subst hm
 have hl':n<len:=Nat.le_of_ble_eq_true hl
 refine GO.val _ ho rfl rfl hN (fun a hs=>?_) g
 obtain ⟨inf,hi,hi2⟩:=Option.map_eq_some_iff.1 hsz
 have h1:(0:Int)≤(n:Int)∧(n:Int)<(len:Int):=⟨by omega,by omega⟩
 simp [execOp,hs.ev hx,hs.ev hy,Instr.indexAt,Instr.sureAddr,asIntOf,run_underlying ht,h1,sizeOf,typeInfo,hi,hi2,Jj,hl']
end
def Jn (A:Option Addr) (l c s:Nat):Option Addr:=if c=l then A else A.map (·.add (l*s))
section
variable {α:Type} {T:Ty α} {P:Program} {N:Nat} {e:Env} {w0 w:World} {L:List Dc} {Q:Act→World→Prop} {ops:Array Oper} {i d:Nat} {rest:List Nat} {ty:TypeId} {ps:String} {af:Array Edge} {ly:Nat→T.Lay} {A:Option Addr} {c:Nat} {xs:List α}
theorem Uo:∀ (l i:Nat) (xs:List α),rc T (fun k=>ly (l+k)) i xs=rc T ly (l+i) xs
 |_,_,[]=>rfl
 |l,i,x::r=>by rw [rc,rc,Uo l (i+1) r,Nat.add_assoc]
theorem Rd.cut {l h:Nat} (hr:Rd T w A c ly xs) (hlh:l≤h) (hh:h≤xs.length):Rd T w (Jn A l c T.sz) (c - l) (fun k=>ly (l+k)) ((xs.take h).drop l):=by
 obtain ⟨h1,h2,h3,h4,h5⟩:=hr
 have hlen:((xs.take h).drop l).length=h - l:=by rw [List.length_drop,List.length_take]; omega
 refine ⟨by rw [hlen]; omega,by omega,fun hp=>?_,fun j u hu=>?_,fun j x hx=>?_⟩
 ·rw [hlen] at hp
  obtain ⟨b,o,rfl⟩:=h3 (by omega)
  exact ⟨b,o+l*T.sz,by unfold Jn; rw [if_neg (by omega)]; exact congrArg some (Jj b o _)⟩
 ·have hp:0<h - l:=by
   rcases Nat.eq_zero_or_pos (h - l) with h0 | h0
   ·rw [List.eq_nil_of_length_eq_zero (hlen.trans h0)] at hu
    simp [rc] at hu
   ·exact h0
  have he:ea (Jn A l c T.sz) j=ea A (l*T.sz+j):=by
   obtain ⟨b,o,rfl⟩:=h3 (by omega)
   unfold Jn
   rw [if_neg (by omega)]
   exact addr_add_add _ _ _
  rw [he]
  apply h4
  rw [Uo,Nat.add_zero] at hu
  have hsplit:xs=(xs.take l)++((xs.take h).drop l)++xs.drop h:=by
   rw [List.drop_take,List.append_assoc]
   have:List.take (h - l) (List.drop l xs)++List.drop h xs=List.drop l xs:=by
    have:=List.take_append_drop (h - l) (List.drop l xs)
    rwa [List.drop_drop,show l+(h - l)=h by omega] at this
   rw [this,List.take_append_drop]
  rw [hsplit,Ji,Ji]
  have hl2:(rc T ly 0 (xs.take l)).length=l*T.sz:=by rw [F7,List.length_take,Nat.min_eq_left (by omega)]
  have hlt:(xs.take l).length=l:=by rw [List.length_take,Nat.min_eq_left (by omega)]
  rw [hlt,Nat.zero_add,List.append_assoc,List.getElem?_append_right (by rw [hl2]; omega),hl2,Nat.add_sub_cancel_left,List.getElem?_append_left (List.getElem?_eq_some_iff.1 hu).1]
  exact hu
 ·rw [List.getElem?_drop,List.getElem?_take] at hx
  split at hx
  ·exact h5 _ _ hx
  ·cases hx
theorem Bv.cut {l h:Nat} (hr:Bv w0 L T A c ly xs) (hlh:l≤h) (hh:h≤xs.length):Bv w0 L T (Jn A l c T.sz) (c - l) (fun k=>ly (l+k)) ((xs.take h).drop l):=fun w hs=>(hr w hs).cut hlh hh
theorem Yc {t el:TypeId} {inf:TypeInfo} (ht:P.underlying t=some (.slice el)) (hi:P.info? el=some inf) (hle:xs.length≤c) {kl kh:IntKind} {l h:Int} (lo hi':Option Value) (hlo:(lo=none∧l=0)∨lo=some (.int kl l)) (hhi:(hi'=none∧h=xs.length)∨hi'=some (.int kh h)) (h0:0≤l) (h1:l≤h) (h2:h≤(xs.length:Int)) :
  (Instr.sliceAt t (.slice A xs.length c) lo hi' none).run P w=.ok (.slice (Jn A l.toNat c inf.size) (h.toNat - l.toNat) (c - l.toNat)) w:=by
 have eh:(h.toNat:Int)=h:=Int.toNat_of_nonneg (by omega)
 have hc:h≤(c:Int):=by omega
 have he:P.elem t=el:=by simp [Program.elem,ht]
 have ht':P.underlying t=some (.slice (P.elem t)):=by rw [he]; exact ht
 have hs:(sizeOf (P.elem t)).run P w=.ok inf.size w:=by rw [he]; simp [sizeOf,typeInfo,hi]
 have h4:0≤h:=by omega
 have hN:l.toNat≤h.toNat∧h.toNat≤xs.length∧h.toNat≤c:=by omega
 rw [run_sliceAt_slice (h:=ht')]
 rcases hlo with ⟨rfl,rfl⟩ | rfl<;>rcases hhi with ⟨rfl,rfl⟩ | rfl
 ·simp [Instr.slice,run_underlying ht',Instr.sliceBounds,run_sliceBound,hs,Jn,hle]
 ·simp [Instr.slice,run_underlying ht',Instr.sliceBounds,run_sliceBound,hs,Jn,hle,h4,hc,eh,hN]
 ·simp [Instr.slice,run_underlying ht',Instr.sliceBounds,run_sliceBound,hs,Jn,hle,h0,h1]
 ·simp [Instr.slice,run_underlying ht',Instr.sliceBounds,run_sliceBound,hs,Jn,hle,h0,h1,h4,hc,eh,hN]
section
variable {t el:TypeId} {x y z:Operand} {kl kh:IntKind} {l h:Int}
theorem eH (h0:0≤l) (h1:l≤h) (h2:h≤(xs.length:Int)):((xs.take h.toNat).drop l.toNat).length=h.toNat - l.toNat:=by rw [List.length_drop,List.length_take]; omega
theorem GO.Aav (HS:St w0 w L) (hr:Bv w0 L T A c ly xs) (ho:ops[i]?=some ⟨some d,.slice t x (some y) (some z) none,ty,ps,af,none⟩) (hx:ev e x=some (.slice A xs.length c)) (hy:ev e y=some (.int kl l)) (hz:ev e z=some (.int kh h))
  (ht:P.underlying t=some (.slice el)) (hsz:(P.info? el).map (·.size)=some T.sz) (h0:0≤l) (h1:l≤h) (h2:h≤(xs.length:Int)) (hN:Nat.blt d N=true)
  (g:GO P N ops rest ((d,.slice (Jn A l.toNat c T.sz) ((xs.take h.toNat).drop l.toNat).length (c - l.toNat))::e) w Q):GO P N ops (i::rest) e w Q:=by
 obtain ⟨inf,hi,hi2⟩:=Option.map_eq_some_iff.1 hsz
 refine GO.val _ ho rfl rfl hN (fun a hs=>?_) g
 have:=Yc (P:=P) (w:=w) (A:=A) ht hi (hr w HS).1 (some (.int kl l)) (some (.int kh h)) (.inr rfl) (.inr rfl) h0 h1 h2
 simp [execOp,hs.ev hx,hs.ev hy,hs.ev hz,this,hi2,eH h0 h1 h2]
theorem GO.slL (HS:St w0 w L) (hr:Bv w0 L T A c ly xs) (ho:ops[i]?=some ⟨some d,.slice t x (some y) none none,ty,ps,af,none⟩) (hx:ev e x=some (.slice A xs.length c)) (hy:ev e y=some (.int kl l))
  (ht:P.underlying t=some (.slice el)) (hsz:(P.info? el).map (·.size)=some T.sz) (h0:0≤l) (h2:l≤(xs.length:Int)) (hN:Nat.blt d N=true)
  (g:GO P N ops rest ((d,.slice (Jn A l.toNat c T.sz) ((xs.take xs.length).drop l.toNat).length (c - l.toNat))::e) w Q):GO P N ops (i::rest) e w Q:=by
 obtain ⟨inf,hi,hi2⟩:=Option.map_eq_some_iff.1 hsz
 refine GO.val _ ho rfl rfl hN (fun a hs=>?_) g
 have:=Yc (P:=P) (w:=w) (A:=A) (kh:=.i64) ht hi (hr w HS).1 (some (.int kl l)) none (.inr rfl) (.inl ⟨rfl,rfl⟩) h0 h2 (Int.le_refl _)
 simp [execOp,hs.ev hx,hs.ev hy,this,hi2]
theorem GO.slH (HS:St w0 w L) (hr:Bv w0 L T A c ly xs) (ho:ops[i]?=some ⟨some d,.slice t x none (some z) none,ty,ps,af,none⟩) (hx:ev e x=some (.slice A xs.length c)) (hz:ev e z=some (.int kh h))
  (ht:P.underlying t=some (.slice el)) (hsz:(P.info? el).map (·.size)=some T.sz) (h0:0≤h) (h2:h≤(xs.length:Int)) (hN:Nat.blt d N=true)
  (g:GO P N ops rest ((d,.slice (Jn A 0 c T.sz) ((xs.take h.toNat).drop 0).length (c - 0))::e) w Q):GO P N ops (i::rest) e w Q:=by
 obtain ⟨inf,hi,hi2⟩:=Option.map_eq_some_iff.1 hsz
 refine GO.val _ ho rfl rfl hN (fun a hs=>?_) g
 have:=Yc (P:=P) (w:=w) (A:=A) (kl:=.i64) (l:=0) ht hi (hr w HS).1 none (some (.int kh h)) (.inl ⟨rfl,rfl⟩) (.inr rfl) (Int.le_refl _) h0 h2
 have hm:h.toNat≤xs.length:=by omega
 simp [execOp,hs.ev hx,hs.ev hz,this,hi2,Nat.min_eq_left hm]
end
def over {α:Type} (xs:List α) (l:Nat) (ys:List α):List α:=xs.take l++ys++xs.drop (l+ys.length)
theorem Lu {α:Type} {xs ys:List α} {l:Nat} (h:l+ys.length≤xs.length):(over xs l ys).length=xs.length:=by
 unfold over; simp only [List.length_append,List.length_take,List.length_drop]; omega
theorem pR {ys:List α} {l:Nat} (h:l+ys.length≤xs.length) (hfl:∀ k k',ly k=ly k'):rc T ly 0 (over xs l ys)=splice (rc T ly 0 xs) (l*T.sz) (rc T ly 0 ys):=by
 have h1:∀ (i j:Nat) (zs:List α),rc T ly i zs=rc T ly j zs:=by
  intro i j zs
  induction zs generalizing i j with
  |nil=>rfl
  |cons z r ih=>rw [rc,rc,hfl i j,ih (i+1) (j+1)]
 have htk:∀ n,n≤xs.length→(rc T ly 0 xs).take (n*T.sz)=rc T ly 0 (xs.take n):=fun n hn=>by
  conv=>lhs; rw [← List.take_append_drop n xs,Ji]
  rw [List.take_append_of_le_length (by rw [F7,List.length_take,Nat.min_eq_left hn]; exact Nat.le_refl _)]
  exact List.take_of_length_le (by rw [F7,List.length_take,Nat.min_eq_left hn]; exact Nat.le_refl _)
 have hdr:∀ n,n≤xs.length→(rc T ly 0 xs).drop (n*T.sz)=rc T ly 0 (xs.drop n):=fun n hn=>by
  conv=>lhs; rw [← List.take_append_drop n xs,Ji]
  have hl:(rc T ly 0 (xs.take n)).length=n*T.sz:=by rw [F7,List.length_take,Nat.min_eq_left hn]
  rw [List.drop_append_of_le_length (by rw [hl]; exact Nat.le_refl _),List.drop_of_length_le (by rw [hl]; exact Nat.le_refl _),List.nil_append]
  exact h1 _ _ _
 unfold over splice
 rw [Ji,Ji,htk l (by omega),F7,show l*T.sz+ys.length*T.sz=(l+ys.length)*T.sz by rw [Nat.add_mul],hdr _ h,h1 _ 0 ys,h1 _ 0 (xs.drop _)]
theorem St.dG {g o:Nat} {t:TypeId} {j:Nat} {ys:List α} {l:Nat} (h:St w0 w L) (hj:L[j]?=some (Own T t A c ly xs)) (hfl:Flat T) (hly:∀ k k',ly k=ly k') (hl:l+ys.length≤xs.length) (hp:0<ys.length) :
  ∃ (g o:Nat) (cur:Array Value),A=some ⟨g,o,none⟩∧w.heap[g]?=some (.cells cur t (0,0))∧o+l*T.sz+ys.length*T.sz≤cur.size∧St w0 (w.setRow g (splice cur.toList (o+l*T.sz) (rc T ly 0 ys)).toArray) (L.set j (Own T t A c ly (over xs l ys))):=by
 obtain ⟨q,_,ho⟩:=h.get hj
 obtain ⟨q1,q2,h1,h2,hd,hown,hb,hs⟩:=ho
 obtain ⟨g,o,cur,hA,hh,hnc,hcm,hsz,htk⟩:=hown.open (by omega)
 subst hA
 have hmul:(l+ys.length)*T.sz≤xs.length*T.sz:=Nat.mul_le_mul_right _ hl
 rw [Nat.add_mul] at hmul
 have hput:=hown.put (k:=l*T.sz) (vs:=rc T ly 0 ys) hh (by rw [F7,F7]; omega)
 rw [F7] at hput
 refine ⟨g,o,cur,rfl,hh,hput.1,h.upd hj (by simp) rfl rfl rfl (fun q ho=>?_)⟩
 obtain ⟨q1,q2,h1,h2,hd,hown,hb,hs⟩:=ho
 have hg:q1 g:=hb g rfl
 refine ⟨q,fun k hk=>.inl hk,⟨q1,q2,h1,h2,hd,?_,by rw [Lu hl]; exact hb,Ir.flat hfl _ _ _⟩,fun k hk hn=>setRow_other w g k _ (fun e=>hn (by rw [e]; exact h1 g hg))⟩
 rw [Lu hl,pR hl hly]
 exact hput.2
theorem St.Un {b j:Nat} {t:TypeId} (h:St w0 w L) (hj:L[j]?=some (Box b t [])) (ly:Nat→T.Lay):St w0 w (L.set j (Own T t (some ⟨b,0,none⟩) 0 ly [])):=by
 refine h.upd hj (Nat.le_refl _) rfl rfl rfl (fun q hq=>⟨q,fun k hk=>.inl hk,⟨fun k=>k=b,fun _=>False,fun k hk=>by rw [hk]; exact hq.1,fun _ hk=>hk.elim,fun _ _ hk=>hk,?_,fun k hk=>?_,trivial⟩,fun k _ _=>rfl⟩)
 ·exact ⟨F7 _ _,.inr ⟨b,0,0,#[],rfl,hq.2,Nat.le_refl _,by simp only [maxLen]; omega,by simp,by simp [rc]⟩⟩
 ·simp [Value.ownBlock] at hk; exact hk.symm
end
theorem leN {i:Int} {n:Nat} (h:0≤i∧i≤(n:Int)):i.toNat≤n:=by omega
theorem Tg {i k:Int} (h:0≤i∧i≤k):i.toNat≤k.toNat:=by omega
theorem fE {α:Type} {xs:List α} {l h:Nat} (hlh:l≤h) (hh:h≤xs.length):l+((xs.take h).drop l).length≤xs.length:=by rw [List.length_drop,List.length_take]; omega
theorem qC {α:Type} {xs:List α} {A:Option Addr} {l h c s:Nat} (hh:h≤xs.length) (hc:xs.length≤c) (hn:0<((xs.take h).drop l).length) (g o:Nat) (hA:A=some ⟨g,o,none⟩):Jn A l c s=some ⟨g,o+l*s,none⟩:=by
 rw [List.length_drop,List.length_take] at hn
 subst hA
 unfold Jn
 rw [if_neg (by omega)]
 exact congrArg some (Jj g o _)
theorem Zq {α:Type} {T:Ty α} {w0 w:World} {L:List Dc} {ly:Nat→T.Lay} {A:Option Addr} {c:Nat} {xs:List α} (h:Bv w0 L T A c ly xs) (HS:St w0 w L) (hA:A.isNone=true):xs=[]:=by
 rcases Nat.eq_zero_or_pos xs.length with h0 | h0
 ·exact List.eq_nil_of_length_eq_zero h0
 ·obtain ⟨b,o,rfl⟩:=(h w HS).2.2.1 h0
  cases hA
theorem GO.zS {P:Program} {N:Nat} {e:Env} {w:World} {Q:Act→World→Prop} {ops:Array Oper} {i d:Nat} {rest:List Nat} {ty:TypeId} {ps:String} {af:Array Edge} {t t' el:TypeId} {x y:Operand} {A:Option Addr} {n c:Nat} (ho:ops[i]?=some ⟨some d,.binOp .eql t x y t',ty,ps,af,none⟩) (hx:ev e x=some (.slice A n c)) (hy:ev e y=some (.slice none 0 0)) (ht:P.underlying t=some (.slice el)) (hN:Nat.blt d N=true)
  (g:GO P N ops rest ((d,.bool A.isNone)::e) w Q):GO P N ops (i::rest) e w Q :=
 GO.val _ ho rfl rfl hN (fun a hs=>by
  have h1:=run_equal_slice_nil (P:=P) w t el A n c ht
  simp [execOp,hs.ev hx,hs.ev hy,eqGuard,binOp,h1]) g
theorem Sat.Ke {N:Nat} {e:Env} {a:Act} {t n m c c':Nat} {A:Option Addr} (hs:Sat N e a) (h:look e t=some (.slice A n c)) (hx:n=m) (hc:c=c'):Sat N ((t,.slice A m c')::e) a:=by
 subst hc
 exact hs.len h hx
theorem GO.Ke {P:Program} {N:Nat} {e:Env} {w:World} {Q:Act→World→Prop} {ops:Array Oper} {l:List Nat} {t n m c c':Nat} {A:Option Addr} (h:look e t=some (.slice A n c)) (hx:n=m) (hc:c=c') (g:GO P N ops l ((t,.slice A m c')::e) w Q):GO P N ops l e w Q:=fun a hs=>g a (hs.Ke h hx hc)
theorem G.Ke {P:Program} {f:FuncId} {N:Nat} {e:Env} {k:List Item} {w:World} {R:Ending→World→Prop} {t n m c c':Nat} {A:Option Addr} (h:look e t=some (.slice A n c)) (hx:n=m) (hc:c=c') (g:G P f N ((t,.slice A m c')::e) k w R):G P f N e k w R:=fun a hs=>g a (hs.Ke h hx hc)
def K5:List (Int × Int)→Int→Option Int
 |[],_=>none
 |p::r,k=>if k=p.1 then some p.2 else K5 r k
def Lp:List (Int × Int)→Int→Int→List (Int × Int)
 |[],k,v=>[(k,v)]
 |p::r,k,v=>if k=p.1 then (k,v)::r else p::Lp r k v
def Mw (kk kv:IntKind) (es:List MapEntry) (m:List (Int × Int)):Prop:=es.map (fun x=>(x.key,x.val))=m.map (fun p=>(Value.int kk p.1,Value.int kv p.2))
section
variable {w0 w w':World} {L:List Dc} {b j:Nat} {kk kv:IntKind} {m:List (Int × Int)}
theorem Po {k:Int}:∀ {es:List MapEntry} {m:List (Int × Int)} (i:Nat),Mw kk kv es m →
  (K5 m k=none∧Instr.findNow (.int kk) (.int kk k) es i=some none∧(∀ v,Mw kk kv (es++[⟨.int kk k,.int kv v,0⟩]) (Lp m k v))) ∨
  (∃ v0 n e0,K5 m k=some v0∧Instr.findNow (.int kk) (.int kk k) es i=some (some (i+n,.int kv v0))∧es[n]?=some e0∧e0.key=.int kk k∧∀ v,Mw kk kv (es.modify n (fun e=>{ e with key:=.int kk k,val:=.int kv v })) (Lp m k v))
 |[],[],_,_=>.inl ⟨rfl,rfl,fun v=>rfl⟩
 |[],_::_,_,h=>by cases h
 |_::_,[],_,h=>by cases h
 |e::es,p::m,i,h=>by
  have h':(e.key,e.val)=(Value.int kk p.1,Value.int kv p.2)∧Mw kk kv es m:=by
   unfold Mw at h
   simp only [List.map_cons,List.cons.injEq] at h
   exact h
  obtain ⟨he,hr⟩:=h'
  obtain ⟨he1,he2⟩:=Prod.mk.inj he
  by_cases hk:k=p.1
  ·subst hk
   refine .inr ⟨p.2,0,e,by simp [K5],?_,rfl,he1,fun v=>?_⟩
   ·simp [Instr.findNow,Instr.sameNow,he1,he2]
   ·unfold Mw
    simp only [List.modify,List.modifyTailIdx,List.modifyTailIdx.go,List.modifyHead,Lp,if_true,List.map_cons]
    exact congrArg _ hr
  ·have hbe:(k == p.1)=false:=beq_eq_false_iff_ne.2 hk
   rcases Po (k:=k) (i+1) hr with ⟨h1,h2,h3⟩|⟨v0,n,e0,h1,h2,h3,h4,h5⟩
   ·refine .inl ⟨by simp [K5,hk,h1],?_,fun v=>?_⟩
    ·simp [Instr.findNow,Instr.sameNow,he1,hbe,h2]
    ·unfold Mw
     simp only [Lp,if_neg hk,List.cons_append,List.map_cons]
     exact congr (congrArg List.cons he) (h3 v)
   ·refine .inr ⟨v0,n+1,e0,by simp [K5,hk,h1],?_,h3,h4,fun v=>?_⟩
    ·simp [Instr.findNow,Instr.sameNow,he1,hbe,h2,Nat.add_assoc,Nat.add_comm 1 n]
    ·unfold Mw
     simp only [Lp,if_neg hk,List.map_cons,List.modify_succ_cons]
     exact congr (congrArg List.cons he) (h5 v)
end
section
variable {P:Program} {N:Nat} {e:Env} {w0 w:World} {L:List Dc} {Q:Act→World→Prop} {ops:Array Oper} {i d:Nat} {rest:List Nat} {ty:TypeId} {ps:String} {af:Array Edge} {b j:Nat} {kk kv:IntKind} {m:List (Int × Int)}
end
theorem exI {α:Sort _} {p:α→Prop} {b:Prop} (h:∀ x,p x→b):(∃ x,p x)→b:=fun ⟨x,hx⟩=>h x hx
theorem anI {p q b:Prop} (h:p→q→b):p∧q→b:=fun ⟨x,y⟩=>h x y
def Xr (n:Nat):List Nat→Bool
 |[]=>true
 |i::is=>Nat.blt i n && !(is.any (Nat.beq i ·)) && Xr n is
def Ta (n:Nat) (L:List Dc):List Nat→List Dc
 |[]=>L.drop n
 |i::is=>L.getD i Emp::Ta n L is
theorem Wj {n i:Nat} {L:List Dc} {x:Dc} (hi:i<n):∀ {is:List Nat},is.any (Nat.beq i ·)=false→Ta n (L.set i x) is=Ta n L is
 |[],_=>by
  unfold Ta
  rw [List.drop_set]
  split
  ·rfl
  ·omega
 |j::is,h=>by
  rw [List.any_cons,Bool.or_eq_false_iff] at h
  unfold Ta
  rw [Wj hi h.2,List.getD_eq_getElem?_getD,List.getElem?_set_ne (fun e=>by rw [e,Nat.beq_refl] at h; exact Bool.noConfusion h.1),← List.getD_eq_getElem?_getD]
theorem dY {n:Nat}:∀ {is:List Nat} {L:List Dc},Xr n is=true→pick n L is=Ta n L is
 |[],L,_=>rfl
 |i::is,L,h=>by
  unfold Xr at h
  rw [Bool.and_eq_true,Bool.and_eq_true] at h
  have h1:i<n:=Nat.le_of_ble_eq_true h.1.1
  have h2:is.any (Nat.beq i ·)=false:=by
   have:=h.1.2
   revert this
   cases is.any (Nat.beq i ·)<;>simp
  unfold pick Ta
  rw [dY h.2,Wj h1 h2]
theorem St.pk {w0 w:World} {L:List Dc} (n:Nat) (is:List Nat) (h:St w0 w L) (ho:Xr n is=true):St w0 w (Ta n L is):=by
 rw [← dY ho]
 exact h.pick n is
theorem Uy:∀ (m:List (Int × Int)) (k v k':Int),K5 (Lp m k v) k'=if k'=k then some v else K5 m k'
 |[],k,v,k'=>by simp [Lp,K5]
 |p::r,k,v,k'=>by
  unfold Lp
  by_cases h:k=p.1
  ·rw [if_pos h]
   unfold K5
   by_cases h2:k'=k
   ·simp [h2]
   ·rw [if_neg h2,if_neg h2,if_neg (fun e=>h2 (e.trans h.symm))]
  ·rw [if_neg h]
   unfold K5
   by_cases h2:k'=p.1
   ·rw [if_pos h2,if_neg (fun e=>h (e.symm.trans h2)),if_pos h2]
   ·rw [if_neg h2,Uy r k v k',if_neg h2]
theorem X4:∀ (m:List (Int × Int)) (k v:Int),(Lp m k v).length=if (K5 m k).isSome then m.length else m.length+1
 |[],_,_=>rfl
 |p::r,k,v=>by
  unfold Lp K5
  by_cases h2:k=p.1
  ·rw [if_pos h2,if_pos h2]; simp
  ·rw [if_neg h2,if_neg h2,List.length_cons,X4 r k v,List.length_cons]
   split<;>rfl
def UM (m:List (Int × Int)):Prop:=(m.map (·.1)).Nodup
theorem Y6:∀ (m:List (Int × Int)) (k v:Int) (x:Int),x∈(Lp m k v).map (·.1)↔x=k∨x∈m.map (·.1)
 |[],k,v,x=>by simp [Lp]
 |p::r,k,v,x=>by
  unfold Lp
  by_cases h2:k=p.1
  ·rw [if_pos h2]; simp only [List.map_cons,List.mem_cons]; rw [h2]; simp
  ·rw [if_neg h2,List.map_cons,List.mem_cons,Y6 r k v x,List.map_cons,List.mem_cons]
   constructor
   ·rintro (h | h | h)
    ·exact .inr (.inl h)
    ·exact .inl h
    ·exact .inr (.inr h)
   ·rintro (h | h | h)
    ·exact .inr (.inl h)
    ·exact .inl h
    ·exact .inr (.inr h)
theorem UM.put:∀ {m:List (Int × Int)} (k v:Int),UM m→UM (Lp m k v)
 |[],k,v,_=>by simp [UM,Lp]
 |p::r,k,v,h=>by
  have h':=List.nodup_cons.1 (show (p.1::r.map (·.1)).Nodup from h)
  unfold Lp
  by_cases h2:k=p.1
  ·rw [if_pos h2]
   show (k::r.map (·.1)).Nodup
   rw [h2]
   exact h
  ·rw [if_neg h2]
   refine List.nodup_cons.2 ⟨fun hm=>?_,UM.put k v h'.2⟩
   rcases (Y6 r k v p.1).1 hm with e | e
   ·exact h2 e.symm
   ·exact h'.1 e
structure Zo (m' m:List (Int × Int)):Prop where
 u':UM m'
 u:UM m
 g:∀ k,K5 m' k=K5 m k
 l:m'.length=m.length
theorem Zo.put {m' m:List (Int × Int)} (h:Zo m' m) (k v:Int):Zo (Lp m' k v) (Lp m k v):=⟨h.u'.put k v,h.u.put k v,fun k'=>by rw [Uy,Uy,h.g],by rw [X4,X4,h.g,h.l]⟩
def Q9 (b:Nat) (kk kv:IntKind) (m:List (Int × Int)):Dc where
 P:=fun w q=>q b∧∃ es clock m',w.heap[b]?=some (.map es clock)∧Mw kk kv es.toList m'∧Zo m' m
 loc:=fun h hk=>⟨h.1,by obtain ⟨es,c,m',h1,h2,h3⟩:=h.2; exact ⟨es,c,m',(hk b h.1).trans h1,h2,h3⟩⟩
 more:=fun h hq=>⟨hq b h.1,h.2⟩
section
variable {w0 w w':World} {L:List Dc} {b j:Nat} {kk kv:IntKind} {m:List (Int × Int)}
theorem St.Yd (h:St w0 w L) (kk kv:IntKind):St w0 (w.alloc (.map #[] 0)) (Q9 w.heap.size kk kv []::L) :=
 h.cons (by simp) rfl rfl rfl (fun k hk=>Below.heap_alloc w _ k hk) ⟨by simp,#[],0,[],heap_alloc_new w _,rfl,⟨List.nodup_nil,List.nodup_nil,fun _=>rfl,rfl⟩⟩
theorem St.rZ (h:St w0 w L) (hj:L[j]?=some (Q9 b kk kv m)):∃ es clock m',w.heap[b]?=some (.map es clock)∧Mw kk kv es.toList m'∧Zo m' m:=by
 obtain ⟨q,_,h1,h2⟩:=h.get hj
 exact h2
end
section
variable {P:Program} {N:Nat} {e:Env} {w0 w:World} {L:List Dc} {Q:Act→World→Prop} {ops:Array Oper} {i d:Nat} {rest:List Nat} {ty:TypeId} {ps:String} {af:Array Edge} {b j:Nat} {kk kv:IntKind} {m:List (Int × Int)}
theorem GO.Yd {t:TypeId} (kk kv:IntKind) (HS:St w0 w L) (ho:ops[i]?=some ⟨some d,.makeMap t none,ty,ps,af,none⟩) (hN:Nat.blt d N=true)
  (g:∀ b w',St w0 w' (Q9 b kk kv []::L)→GO P N ops rest ((d,.map (some b))::e) w' Q):GO P N ops (i::rest) e w Q :=
 GO.val (.map (some w.heap.size)) ho rfl rfl hN (fun a hs=>by simp [execOp,Instr.makeMap]) (g _ _ (HS.Yd kk kv))
theorem Wo {t k el:TypeId} {key:Int} (HS:St w0 w L) (hj:L[j]?=some (Q9 b kk kv m)) (ht:P.underlying t=some (.map k el)) (hk:P.underlying k=some (.int kk)) (hz:(P.info? el).map (·.zero)=some (some (.int kv 0))) (cm:Bool) :
  (Instr.lookup t (.map (some b)) (.int kk key) cm).run P w=.ok (bif cm then .tuple #[.int kv ((K5 m key).getD 0),.bool (K5 m key).isSome] else .int kv ((K5 m key).getD 0)) w:=by
 obtain ⟨es,clock,m',hb,hm,hsm⟩:=HS.rZ hj
 rw [← hsm.g]
 obtain ⟨inf,hi,hz'⟩:=Option.map_eq_some_iff.1 hz
 have hck:=MapKept.run_checkKey (w:=w) hk (k:=.int kk key) (by simp [MapKept.IsKey]) es.isEmpty 9999
 have hzz:(zeroValue el).run P w=.ok (.int kv 0) w:=by simp [zeroValue,typeInfo,hi,hz']
 rcases Po (k:=key) 0 hm with ⟨h1,h2,_⟩|⟨v0,n,e0,h1,h2,_,_,_⟩
 ·have hf:=MapKept.run_findKey (w:=w) hk h2
  cases cm<;>simp [Instr.lookup,run_underlying ht,MapKept.run_getObj_map hb,hck,hf,hzz,h1]
 ·have hf:=MapKept.run_findKey (w:=w) hk h2
  cases cm<;>simp [Instr.lookup,run_underlying ht,MapKept.run_getObj_map hb,hck,hf,h1]
theorem GO.pQ {t k el:TypeId} {x y:Operand} {key:Int} (HS:St w0 w L) (hj:L[j]?=some (Q9 b kk kv m)) (ho:ops[i]?=some ⟨some d,.lookup t x y true,ty,ps,af,none⟩) (hx:ev e x=some (.map (some b))) (hy:ev e y=some (.int kk key)) (ht:P.underlying t=some (.map k el)) (hk:P.underlying k=some (.int kk)) (hz:(P.info? el).map (·.zero)=some (some (.int kv 0))) (hN:Nat.blt d N=true)
  (g:GO P N ops rest ((d,.tuple #[.int kv ((K5 m key).getD 0),.bool (K5 m key).isSome])::e) w Q):GO P N ops (i::rest) e w Q :=
 GO.val _ ho rfl rfl hN (fun a hs=>by simp [execOp,hs.ev hx,hs.ev hy,Wo HS hj ht hk hz true]) g
theorem GO.yO {t k el:TypeId} {x y:Operand} {key:Int} (HS:St w0 w L) (hj:L[j]?=some (Q9 b kk kv m)) (ho:ops[i]?=some ⟨some d,.lookup t x y false,ty,ps,af,none⟩) (hx:ev e x=some (.map (some b))) (hy:ev e y=some (.int kk key)) (ht:P.underlying t=some (.map k el)) (hk:P.underlying k=some (.int kk)) (hz:(P.info? el).map (·.zero)=some (some (.int kv 0))) (hN:Nat.blt d N=true)
  (g:GO P N ops rest ((d,.int kv ((K5 m key).getD 0))::e) w Q):GO P N ops (i::rest) e w Q :=
 GO.val _ ho rfl rfl hN (fun a hs=>by simp [execOp,hs.ev hx,hs.ev hy,Wo HS hj ht hk hz false]) g
theorem GO.xH {t k el:TypeId} {x:Operand} (HS:St w0 w L) (hj:L[j]?=some (Q9 b kk kv m)) (ho:ops[i]?=some ⟨some d,.call { callee:=.builtin .len,args:=#[x],argTypes:=#[t] },ty,ps,af,none⟩) (hx:ev e x=some (.map (some b))) (ht:P.underlying t=some (.map k el)) (hN:Nat.blt d N=true)
  (g:GO P N ops rest ((d,.int .i64 (m.length:Int))::e) w Q):GO P N ops (i::rest) e w Q:=by
 refine GO.val _ ho rfl rfl hN (fun a hs=>?_) g
 obtain ⟨es,clock,m',hb,hm,hsm⟩:=HS.rZ hj
 have hl:es.size=m.length:=by have:=congrArg List.length hm; rw [← hsm.l]; simpa using this
 simp [execOp,resolve,invoke,builtin,hs.ev hx,Builtin.len_,run_underlying ht,MapKept.run_getObj_map hb,goInt,hl]
theorem oO {t k el:TypeId} {key v:Int} (HS:St w0 w L) (hj:L[j]?=some (Q9 b kk kv m)) (ht:P.underlying t=some (.map k el)) (hk:P.underlying k=some (.int kk)) :
  ∃ w',(Instr.mapUpdate t (.map (some b)) (.int kk key) (.int kv v)).run P w=.ok () w'∧St w0 w' (L.set j (Q9 b kk kv (Lp m key v))):=by
 obtain ⟨es,clock,m0,hb,hm,hsm⟩:=HS.rZ hj
 have hck:=MapKept.run_checkKey (w:=w) hk (k:=.int kk key) (by simp [MapKept.IsKey]) false 9999
 have hup:∀ (o:Obj),(∃ es' c',o=.map es' c'∧Mw kk kv es'.toList (Lp m0 key v))→St w0 { w with heap:=w.heap.setIfInBounds b o } (L.set j (Q9 b kk kv (Lp m key v))):=fun o ho=>by
  obtain ⟨es',c',rfl,hm'⟩:=ho
  obtain ⟨hs1,hs2⟩:=MapKept.heap_set (w:=w) (o':=.map es' c') hb
  refine HS.upd hj (by simp) rfl rfl rfl (fun q hq=>⟨q,fun k hk=>.inl hk,⟨hq.1,es',c',_,hs1,hm',hsm.put key v⟩,fun k hk hn=>hs2 k (fun e=>hn (by rw [e]; exact hq.1))⟩)
 rcases Po (k:=key) 0 hm with ⟨h1,h2,h3⟩|⟨v0,n,e0,h1,h2,h3,h4,h5⟩
 ·have hf:=MapKept.run_findKey (w:=w) hk h2
  refine ⟨{ w with heap:=w.heap.setIfInBounds b (.map (es.push ⟨.int kk key,.int kv v,clock⟩) (clock+1)) },?_,hup _ ⟨_,_,rfl,?_⟩⟩
  ·simp [Instr.mapUpdate,run_underlying ht,MapKept.run_getObj_map hb,hck,hf,MapKept.run_setObj_map _ hb]
  ·have:=h3 v
   unfold Mw at this ⊢
   simpa using this
 ·have hf:=MapKept.run_findKey (w:=w) hk h2
  have hst:=MapKept.run_keyThatStays (P:=P) (w:=w) (k:=.int kk key) (d:=.int kk) (by simp [MapKept.IsKey])
  have h3':es[n]?=some e0:=by simpa using h3
  refine ⟨{ w with heap:=w.heap.setIfInBounds b (.map (es.modify n fun e=>{ e with key:=.int kk key,val:=.int kv v }) clock) },?_,hup _ ⟨_,_,rfl,?_⟩⟩
  ·simp [Instr.mapUpdate,run_underlying ht,MapKept.run_getObj_map hb,hck,hf,h3',h4,hst,MapKept.run_setObj_map _ hb]
  ·have:=h5 v
   rw [Array.toList_modify]
   exact this
theorem GO.wR {t k el:TypeId} {x y z:Operand} {key v:Int} (HS:St w0 w L) (hj:L[j]?=some (Q9 b kk kv m)) (ho:ops[i]?=some ⟨none,.mapUpdate t x y z,ty,ps,af,none⟩) (hx:ev e x=some (.map (some b))) (hy:ev e y=some (.int kk key)) (hv:ev e z=some (.int kv v)) (ht:P.underlying t=some (.map k el)) (hk:P.underlying k=some (.int kk))
  (g:∀ w',St w0 w' (L.set j (Q9 b kk kv (Lp m key v)))→GO P N ops rest e w' Q):GO P N ops (i::rest) e w Q:=by
 obtain ⟨w',hr,hst⟩:=oO (key:=key) (v:=v) HS hj ht hk
 exact GO.Rf ho rfl rfl (fun a hs=>by simp [execOp,hs.ev hx,hs.ev hy,hs.ev hv,hr]) (g w' hst)
end
theorem Zx (x:Value) (R:List Value) (n:Nat) (v:Value):splice (x::R) (n+1) [v]=x::splice R n [v]:=by simp [splice]
section
variable {α:Type} {T:Ty α} {w w':World} {ly:Nat→T.Lay}
theorem Ir.set {l':T.Lay} {y:α}:∀ {xs:List α} {i n m:Nat} {q q2:Nat→Prop},Ir T w ly i xs q→n<xs.length→m=i+n→T.M w q2 l' y→(∀ k,q k→¬ q2 k)→Ir T w (fun k=>if k=m then l' else ly k) i (xs.set n y) (fun k=>q k∨q2 k)
 |x::r,i,0,m,q,q2,⟨q0,q1,h0,h1,hdd,hx,hs⟩,hn,hm,hy,hd=>by
  obtain rfl:m=i:=by omega
  refine ⟨q2,q1,fun k hk=>.inr hk,fun k hk=>.inl (h1 k hk),fun k hk hn=>hd k (h1 k hn) hk,?_,hs.congr (fun k hk _=>?_)⟩
  ·show T.M w q2 (if m=m then l' else ly m) y
   rw [if_pos rfl]; exact hy
  ·rw [if_neg (by omega)]
 |x::r,i,n+1,m,q,q2,⟨q0,q1,h0,h1,hdd,hx,hs⟩,hn,hm,hy,hd=>by
  refine ⟨q0,fun k=>q1 k∨q2 k,fun k hk=>.inl (h0 k hk),fun k hk=>hk.imp (h1 k) id,fun k hk hn=>hn.elim (hdd k hk) (hd k (h0 k hk)),?_,?_⟩
  ·show T.M w q0 (if i=m then l' else ly i) x
   rw [if_neg (by omega)]; exact hx
  ·exact Ir.set hs (by simp only [List.length_cons] at hn; omega) (by omega) hy (fun k hk=>hd k (h1 k hk))
theorem Ir.sel {ly':Nat→T.Lay} {d:α}:∀ {xs:List α} {i:Nat} {js:List Nat} {i0:Nat} {q:Nat→Prop},Ir T w ly i xs q→js.Pairwise (·<·)→(∀ k,k∈js→i≤k∧k<i+xs.length)→(∀ m,m<js.length→ly' (i0+m)=ly (js.getD m 0))→Ir T w ly' i0 (js.map (fun k=>xs.getD (k - i) d)) q
 |_,_,[],_,_,_,_,_,_=>trivial
 |[],i,k::js,i0,q,hs,hp,hr,hl=>by
  have:=hr k (List.mem_cons_self ..)
  simp only [List.length_nil] at this
  omega
 |x::r,i,k::js,i0,q,⟨q0,q1,h0,h1,hdd,hx,hs⟩,hp,hr,hl=>by
  have hpc:=List.pairwise_cons.1 hp
  have hk:=hr k (List.mem_cons_self ..)
  have hget:∀ k',i+1≤k'→(x::r).getD (k' - i) d=r.getD (k' - (i+1)) d:=fun k' h=>by
   rw [show k' - i=(k' - (i+1))+1 by omega,List.getD_cons_succ]
  by_cases hki:k=i
  ·subst hki
   have hm:List.map (fun k'=>(x::r).getD (k' - k) d) js=List.map (fun k'=>r.getD (k' - (k+1)) d) js:=List.map_congr_left (fun k' h'=>hget k' (hpc.1 k' h'))
   rw [List.map_cons,hm,Nat.sub_self,List.getD_cons_zero]
   have h00:=hl 0 (Nat.succ_pos _)
   rw [Nat.add_zero,List.getD_cons_zero] at h00
   refine ⟨q0,q1,h0,h1,hdd,by rw [h00]; exact hx,Ir.sel hs hpc.2 (fun k' h'=>⟨hpc.1 k' h',by have:=hr k' (List.mem_cons_of_mem _ h'); simp only [List.length_cons] at this; omega⟩) (fun m hm=>?_)⟩
   have:=hl (m+1) (by simp only [List.length_cons]; omega)
   rw [List.getD_cons_succ] at this
   rw [show i0+1+m=i0+(m+1) by omega]
   exact this
  ·have hlt:∀ k',k'∈k::js→i+1≤k':=fun k' h'=>by
    rcases List.mem_cons.1 h' with h' | h'
    ·subst h'; omega
    ·have:=hpc.1 k' h'; omega
   have hm:List.map (fun k'=>(x::r).getD (k' - i) d) (k::js)=List.map (fun k'=>r.getD (k' - (i+1)) d) (k::js):=List.map_congr_left (fun k' h'=>hget k' (hlt k' h'))
   rw [hm]
   exact (Ir.sel hs hp (fun k' h'=>⟨hlt k' h',by have:=hr k' h'; simp only [List.length_cons] at this; omega⟩) hl).more h1
theorem St.pU {w0:World} {L:List Dc} {b j:Nat} {t:TypeId} {cs:List Value} {xs:List α} (h:St w0 w L) (hj:L[j]?=some (Box b t cs)) (hsep:∀ q,Ir T w ly 0 xs q) (hc:rc T ly 0 xs=cs) (hm:xs.length≤9223372036854775807):St w0 w (L.set j (Own T t (some ⟨b,0,none⟩) xs.length ly xs)):=by
 refine h.upd hj (Nat.le_refl _) rfl rfl rfl (fun q hq=>⟨q,fun k hk=>.inl hk,⟨fun k=>k=b,fun _=>False,fun k hk=>by rw [hk]; exact hq.1,fun _ hk=>hk.elim,fun _ _ hk=>hk,?_,fun k hk=>?_,hsep _⟩,fun k _ _=>rfl⟩)
 ·refine ⟨F7 _ _,.inr ⟨b,0,xs.length,cs.toArray,rfl,hq.2,Nat.le_refl _,by simp only [maxLen]; omega,?_,?_⟩⟩
  ·rw [← hc]; simp [F7]
  ·rw [← hc]
   simp only [List.toList_toArray,List.drop_zero]
   rw [List.take_of_length_le (by rw [F7]; exact Nat.le_refl _)]
 ·simp [Value.ownBlock] at hk
  exact hk.symm
end
theorem Ir.zL {α:Type} {S:Ty α} {u:TypeId} {w:World} (l0:Nat→S.Lay):∀ (n i:Nat) (q:Nat→Prop),Ir (Ty.slice u S) w (fun _=>⟨none,0,l0⟩) i (List.replicate n []) q
 |0,_,_=>trivial
 |n+1,i,q=>⟨fun _=>False,q,fun _ h=>h.elim,fun _ h=>h,fun _ h=>h.elim,O8.nil u l0 w _,Ir.zL l0 n (i+1) q⟩
theorem V3 {α:Type} {S:Ty α} {u:TypeId} {ly:Nat→Ti S.Lay} {l':Ti S.Lay} {y:List α}:∀ {xs:List (List α)} {i n m:Nat},n<xs.length→m=i+n→rc (Ty.slice u S) (fun k=>if k=m then l' else ly k) i (xs.set n y)=splice (rc (Ty.slice u S) ly i xs) n [.slice l'.A y.length l'.c]
 |x::r,i,0,m,hn,hm=>by
  obtain rfl:m=i:=by omega
  have h1:rc (Ty.slice u S) (fun k=>if k=m then l' else ly k) (m+1) r=rc (Ty.slice u S) ly (m+1) r:=Qz (fun k hk _=>by rw [if_neg (by omega)])
  rw [List.set_cons_zero,rc,rc,h1]
  simp [splice]
 |x::r,i,n+1,m,hn,hm=>by
  have ih:=V3 (u:=u) (ly:=ly) (l':=l') (y:=y) (xs:=r) (i:=i+1) (n:=n) (m:=m) (by simp only [List.length_cons] at hn; omega) (by omega)
  rw [List.set_cons_succ,rc,rc,ih]
  show [Value.slice (if i=m then l' else ly i).A x.length (if i=m then l' else ly i).c]++_=splice ([Value.slice (ly i).A x.length (ly i).c]++_) (n+1) _
  rw [if_neg (by omega),List.singleton_append,List.singleton_append,Zx]
section
variable {α:Type} {S:Ty α} {P:Program} {N:Nat} {e:Env} {w0 w:World} {L:List Dc} {Q:Act→World→Prop} {ops:Array Oper} {i d:Nat} {rest:List Nat} {ty:TypeId} {ps:String} {af:Array Edge}
theorem GO.rQ {u t el:TypeId} {x y:Operand} {kl kc:IntKind} {m:Int} {bytes:Nat} (l0:Nat→S.Lay) (HS:St w0 w L) (ho:ops[i]?=some ⟨some d,.makeSlice t x y,ty,ps,af,none⟩) (hx:ev e x=some (.int kl m)) (hy:ev e y=some (.int kc m)) (ht:P.underlying t=some (.slice el)) (hinf:(P.info? el).map (fun i=>(i.zero,i.size,i.bytes))=some (some (.slice none 0 0),1,bytes)) (hb0:Nat.blt 0 bytes=true)
  (h0:0≤m) (hm:m.toNat*bytes≤281474976710656) (hN:Nat.blt d N=true)
  (g:∀ b w',St w0 w' (Own (Ty.slice u S) el (some ⟨b,0,none⟩) m.toNat (fun _=>⟨none,0,l0⟩) (List.replicate m.toNat [])::L)→GO P N ops rest ((d,.slice (some ⟨b,0,none⟩) (List.replicate m.toNat ([]:List α)).length m.toNat)::e) w' Q):GO P N ops (i::rest) e w Q:=by
 simp only [List.length_replicate] at g
 obtain ⟨inf,hi,hzz⟩:=Option.map_eq_some_iff.1 hinf
 simp only [Prod.mk.injEq] at hzz
 obtain ⟨hz0,hz1,hz2⟩:=hzz
 have hb0':0<bytes:=Nat.le_of_ble_eq_true hb0
 have hmm:m.toNat≤281474976710656:=Nat.le_trans (Nat.le_mul_of_pos_right _ hb0') hm
 have hbm:(inf.bytes:Int)*m≤281474976710656:=by
  have h3:((m.toNat*bytes:Nat):Int)≤281474976710656:=by omega
  rw [Int.natCast_mul,Int.toNat_of_nonneg h0,Int.mul_comm] at h3
  rw [hz2]
  exact h3
 have hrun:=run_make (P:=P) w t el inf (.slice none 0 0) ht hi hz0 kl kc m m h0 (Int.le_refl _) hbm (by omega)
 refine GO.val (w':=w.alloc (.cells (madeCells (Value.slice none 0 0).cells (m.toNat*inf.size)) el)) _ ho rfl rfl hN (fun a hs=>by simp [execOp,hs.ev hx,hs.ev hy,hrun]) (g w.heap.size _ ?_)
 rw [hz1]
 let l:Ti S.Lay:=⟨none,0,l0⟩
 have hcl:(madeCells [Value.slice none 0 0].toArray (m.toNat*1)).toList=rc (Ty.slice u S) (fun _=>l) 0 (List.replicate m.toNat []):=by
  rw [Mm]
  exact Mj [Value.slice none 0 0] (by decide) _
 have h1:=(HS.alloc (rc (Ty.slice u S) (fun _=>l) 0 (List.replicate m.toNat [])) el).pU (j:=0) rfl (fun q=>Ir.zL l0 _ _ q) rfl (by simp; omega)
 rw [← hcl] at h1
 simpa [Value.cells] using h1
theorem GO.kG {u t tb:TypeId} {x y:Operand} {A A2:Option Addr} {c c2 n:Nat} {ly:Nat→Ti S.Lay} {ly2:Nat→S.Lay} {xs:List (List α)} {ys:List α} (HS:St w0 w (Own (Ty.slice u S) tb A c ly xs::Own S u A2 c2 ly2 ys::L)) (ho:ops[i]?=some ⟨none,.store t x y,ty,ps,af,none⟩) (hx:ev e x=some (.pointer (some (ea A (n*1))))) (hy:ev e y=some (.slice A2 ys.length c2))
  (ht:naB P t=true) (hn:n<xs.length)
  (g:∀ (ly':Nat→Ti S.Lay) w',St w0 w' (Own (Ty.slice u S) tb A c ly' (xs.set n ys)::L)→GO P N ops rest e w' Q):GO P N ops (i::rest) e w Q:=by
 obtain ⟨hbel,q,r,hq,hr,hqr,⟨q1,q2,h1,h2,hd,hown,hb,hs⟩,qe,re,hqe,hre,hed,hoe,hL⟩:=HS
 obtain ⟨gb,og,cur,hA,hh,hnc,hcm,hsz,htk⟩:=hown.open (by omega)
 subst hA
 have hg1:q1 gb:=hb gb rfl
 have hput:=hown.put (k:=n) (vs:=[Value.slice A2 ys.length c2]) hh (by rw [F7,List.length_singleton]; show n+1≤xs.length*1; omega)
 have hea:ea (some ⟨gb,og,none⟩) (n*1)=⟨gb,og+n,none⟩:=by rw [Tu,Jj]; simp
 rw [hea] at hx
 let l':Ti S.Lay:=⟨A2,c2,ly2⟩
 refine GO.Rf (w':=w.setRow gb (splice cur.toList (og+n) [.slice A2 ys.length c2]).toArray) ho rfl rfl (fun a hs=>by simp [execOp,Instr.storeAt,Instr.sureAddr,hs.ev hx,hs.ev hy,U8 (v:=.slice A2 ys.length c2) (vs:=[.slice A2 ys.length c2]) rfl (Pv ht) hh (fun u hu=>by rw [List.mem_singleton.1 hu]; rfl) hput.1]) (g (fun k=>if k=n then l' else ly k) _ ?_)
 have hkeep:∀ k,k≠gb→(w.setRow gb (splice cur.toList (og+n) [.slice A2 ys.length c2]).toArray).heap[k]?=w.heap[k]?:=fun k hk=>setRow_other w gb k _ hk
 have hqg:=hq gb (h1 gb hg1)
 refine ⟨hbel.trans ⟨rfl,rfl,rfl,by simp,fun k hk=>hkeep k (by omega)⟩,fun k=>q k∨qe k,re,?_,?_,?_,⟨q1,fun k=>q2 k∨qe k,?_,?_,?_,?_,?_,?_⟩,?_⟩
 ·intro k hk
  simp only [size_setRow]
  rcases hk with hk | hk
  ·exact hq k hk
  ·exact hr k (hqe k hk)
 ·intro k hk
  simp only [size_setRow]
  exact hr k (hre k hk)
 ·intro k hk hn
  rcases hk with hk | hk
  ·exact hqr k hk (hre k hn)
  ·exact hed k hk hn
 ·exact fun k hk=>.inl (h1 k hk)
 ·intro k hk
  rcases hk with hk | hk
  ·exact .inl (h2 k hk)
  ·exact .inr hk
 ·intro k hk hn
  rcases hn with hn | hn
  ·exact hd k hk hn
  ·exact hqr k (h1 k hk) (hqe k hn)
 ·rw [List.length_set,V3 (l':=l') hn (by omega)]
  exact hput.2
 ·rw [List.length_set]; exact hb
 ·have hlocq:∀ k,q2 k→(w.setRow gb (splice cur.toList (og+n) [.slice A2 ys.length c2]).toArray).heap[k]?=w.heap[k]?:=fun k hk=>hkeep k (fun e=>hd gb hg1 (by rw [← e]; exact hk))
  have hloce:∀ k,qe k→(w.setRow gb (splice cur.toList (og+n) [.slice A2 ys.length c2]).toArray).heap[k]?=w.heap[k]?:=fun k hk=>hkeep k (fun e=>hqr gb (h1 gb hg1) (hqe gb (by rw [← e]; exact hk)))
  exact Ir.set (T:=Ty.slice u S) (l':=l') (hs.loc hlocq) hn (by omega) (O8.loc hoe hloce) (fun k hk hn=>hqr k (h2 k hk) (hqe k hn))
 ·exact hL.loc (fun k hk=>hkeep k (fun e=>hqr gb (h1 gb hg1) (hre gb (by rw [← e]; exact hk))))
end
def allRows (n:Nat):List (Option Nat):=(List.range n).map some
theorem Kh (n:Nat):(allRows n).length=n:=by simp [allRows]
theorem Rw {α:Type} {xs:List α} {l n:Nat} {z:α} (h:l+n≤xs.length):(over xs l (List.replicate n z)).length=xs.length:=Lu (by rw [List.length_replicate]; exact h)
theorem Og (A:Option Addr) (c s:Nat):Jn A 0 c s=A:=by
 unfold Jn
 split
 ·rfl
 ·cases A with
  |none=>rfl
  |some a=>simp [Addr.add]
section
variable {α:Type} {T:Ty α} {P:Program} {N:Nat} {e:Env} {w0 w:World} {L:List Dc} {Q:Act→World→Prop} {ops:Array Oper} {i d:Nat} {rest:List Nat} {ty:TypeId} {ps:String} {af:Array Edge} {ly:Nat→T.Lay} {A:Option Addr} {c:Nat} {xs:List α}
theorem Yl (w:World) (t ty elem:TypeId) (sz g o n cap:Nat) (cur:Array Value) (tb:TypeId) (z:Value) (inf:TypeInfo) (hu:P.underlying t=some (.slice elem)) (hi:P.info? elem=some inf) (hz:inf.zero=some z) (hp:0<n)
  (hg:w.heap[g]?=some (.cells cur tb (0,0))) (hfit:o+(Builtin.zeroCells z.cells n).toList.length≤cur.size) (h1:∀ v∈(Builtin.zeroCells z.cells n).toList,v.oneCell'=true) :
  (Builtin.clear_ #[t] ty #[.slice (some ⟨g,o,none⟩) n cap]).run P w=.ok (.tuple #[]) (w.setRow g (splice cur.toList o (Builtin.zeroCells z.cells n).toList).toArray):=by
 have hst:=run_storeCells_at P g o tb (Builtin.zeroCells z.cells n).toList 0 cur w hg (by simpa using hfit) h1
 simp only [Nat.add_zero] at hst
 obtain ⟨n',rfl⟩:∃ n',n=n'+1:=⟨n - 1,by omega⟩
 simp [Builtin.clear_,run_underlying hu,zeroValue,typeInfo,hi,hz,hst,splice]
theorem GO.aF {t el tb:TypeId} {x:Operand} {B:Option Addr} {j l dn dc:Nat} {z:Value} (z0:α) (l0:T.Lay) (HS:St w0 w L) (hj:L[j]?=some (Own T tb A c ly xs)) (hfl:Flat T) (ho:ops[i]?=some ⟨none,.call { callee:=.builtin .clear,args:=#[x],argTypes:=#[t] },ty,ps,af,none⟩) (hx:ev e x=some (.slice B dn dc))
  (ht:P.underlying t=some (.slice el)) (hz:(P.info? el).map (·.zero)=some (some z)) (hzc:z.cells=(T.cells l0 z0).toArray) (hs0:Nat.blt 0 T.sz=true) (hC:0<dn→∀ g o,A=some ⟨g,o,none⟩→B=some ⟨g,o+l*T.sz,none⟩) (hl:l+dn≤xs.length) (hly:∀ k,ly k=l0)
  (g:∀ w',St w0 w' (L.set j (Own T tb A c ly (over xs l (List.replicate dn z0))))→GO P N ops rest e w' Q):GO P N ops (i::rest) e w Q:=by
 obtain ⟨inf,hi,hzz⟩:=Option.map_eq_some_iff.1 hz
 rcases Nat.eq_zero_or_pos dn with h0 | h0
 ·subst h0
  have ho':over xs l (List.replicate 0 z0)=xs:=by unfold over; simp
  rw [ho',Q6 hj] at g
  refine GO.act (.tuple #[]) ho rfl rfl (fun a hs=>?_) (g w HS)
  cases B<;>simp [execOp,resolve,invoke,builtin,hs.ev hx,Builtin.clear_,run_underlying ht]
 ·obtain ⟨gb,og,cur,hA,hh,hfit,hst⟩:=HS.dG (g:=0) (o:=0) (ys:=List.replicate dn z0) (l:=l) hj hfl (fun k k'=>by rw [hly k,hly k']) (by rw [List.length_replicate]; exact hl) (by rw [List.length_replicate]; exact h0)
  have hB:=hC h0 gb og hA
  subst hB
  have hcs:(Builtin.zeroCells z.cells dn).toList=rc T ly 0 (List.replicate dn z0):=by
   have e1:Builtin.zeroCells z.cells dn=madeCells (T.cells l0 z0).toArray (dn*(T.cells l0 z0).length):=by
    rw [hzc]; unfold Builtin.zeroCells madeCells; simp
   have e2:rc T ly 0 (List.replicate dn z0)=rc T (fun _=>l0) 0 (List.replicate dn z0):=Qz (fun k _ _=>hly k)
   rw [e1,e2,Mm]
   exact Mj _ (by rw [T.len]; exact Nat.le_of_ble_eq_true hs0) _
  refine GO.act (.tuple #[]) ho rfl rfl (fun a hs=>?_) (g _ hst)
  have hr:=Yl (P:=P) w t ty el T.sz gb (og+l*T.sz) dn dc cur tb z inf ht hi hzz h0 hh (by rw [hcs,F7]; simpa using hfit) (fun u hu=>by rw [hcs] at hu; exact Ym hu)
  rw [hcs] at hr
  simp only [execOp,resolve,invoke,builtin,Sem.run_bind,Sem.run_pure,Result.andThen_ok,List.map_toArray,List.map_cons,List.map_nil,hs.ev hx,hr]
end
theorem St.jH {α:Type} {T:Ty α} {w0 w:World} {L:List Dc} {t:TypeId} {A A':Option Addr} {c c' j m:Nat} {ly:Nat→T.Lay} {xs:List α} (HS:St w0 w L) (hj:L[j]?=some (Own T t A c ly xs)) (hfl:Flat T) (hm:m≤xs.length) (hA:A'=A) (hc:c'=c):St w0 w (L.set j (Own T t A' c' ly ((xs.take m).drop 0))):=by
 subst hA
 subst hc
 rw [List.drop_zero]
 have hlen:(xs.take m).length=m:=by rw [List.length_take]; omega
 refine HS.upd hj (Nat.le_refl _) rfl rfl rfl (fun q ho=>?_)
 obtain ⟨q1,q2,h1,h2,hd,hown,hb,hs⟩:=ho
 refine ⟨q,fun k hk=>.inl hk,⟨q1,q2,h1,h2,hd,?_,?_,Ir.flat hfl _ _ _⟩,fun k _ _=>rfl⟩
 ·have htk:rc T ly 0 (xs.take m)=(rc T ly 0 xs).take (m*T.sz):=by
   conv=>rhs; rw [← List.take_append_drop m xs,Ji]
   rw [List.take_append_of_le_length (by rw [F7,hlen]; exact Nat.le_refl _)]
   exact (List.take_of_length_le (by rw [F7,hlen]; exact Nat.le_refl _)).symm
  rw [hlen,htk]
  rcases hown.2 with ⟨hv,h0⟩|⟨g,o,cap,cur,hv,hh,hnc,hcm,hsz,htkk⟩
  ·have hm0:m=0:=by omega
   injection hv with hA _ hcc
   subst hA
   subst hcc
   subst hm0
   exact ⟨by simp,.inl ⟨rfl,rfl⟩⟩
  ·injection hv with hA _ hcc
   subst hA
   subst hcc
   have hmul:m*T.sz≤xs.length*T.sz:=Nat.mul_le_mul_right _ hm
   refine ⟨by rw [List.length_take,F7]; omega,.inr ⟨g,o,c',cur,rfl,hh,by omega,hcm,hsz,?_⟩⟩
   rw [← htkk,List.take_take]
   congr 1
   omega
 ·intro k hk
  exact hb k (by
    cases A' with
    |none=>simp [Value.ownBlock] at hk
    |some a=>simpa [Value.ownBlock] using hk)
section
variable {P:Program} {N:Nat} {e:Env} {w0 w:World} {L:List Dc} {Q:Act→World→Prop} {ops:Array Oper} {i d:Nat} {rest:List Nat} {ty:TypeId} {ps:String} {af:Array Edge}
end
section
variable {P:Program} {N:Nat} {e:Env} {w:World} {Q:Act→World→Prop} {ops:Array Oper} {i d:Nat} {rest:List Nat} {ty:TypeId} {ps:String} {af:Array Edge}
end
def kIx:IntKind→Nat
 |.i8=>0 | .i16=>1 | .i32=>2 | .i64=>3 | .u8=>4 | .u16=>5 | .u32=>6 | .u64=>7
theorem qA {a b:IntKind} (h:Nat.beq (kIx a) (kIx b)=true):a=b:=by
 cases a<;>cases b<;>first | rfl | cases h
def Aab (op:BinOp) (k:IntKind) (m n:Int):Option Value :=
 match op with
 |.add=>some (.int k (k.wrap (m+n)))
 |.sub=>some (.int k (k.wrap (m - n)))
 |.mul=>some (.int k (k.wrap (m*n)))
 |.lss=>some (.bool (decide (m<n)))
 |.leq=>some (.bool (decide (m≤n)))
 |.gtr=>some (.bool (decide (n<m)))
 |.geq=>some (.bool (decide (n≤m)))
 |.eql=>some (.bool (decide (m=n)))
 |.neq=>some (.bool (!decide (m=n)))
 |_=>none
def fM (e:Env):Op→Option Value
 |.move x=>ev e x
 |.assign x=>ev e x
 |.binOp op _ x y _=>match ev e x with
  |some (.int k m)=>match ev e y with
   |some (.int k' n)=>bif Nat.beq (kIx k) (kIx k') then Aab op k m n else none
   |_=>none
  |_=>none
 |.unOp .not _ x=>match ev e x with
  |some (.bool b)=>some (.bool (!b))
  |_=>none
 |.extract x n=>match ev e x with
  |some (.tuple vs)=>vs[n]?
  |_=>none
 |.pick c x y=>match ev e c with
  |some (.bool true)=>ev e x
  |some (.bool false)=>ev e y
  |_=>none
 |_=>none
def kM (N:Nat) (ops:Array Oper) (i:Nat) (e:Env):Option (Nat × Value) :=
 match ops[i]? with
 |some ⟨some d,op,_,_,_,none⟩=>match fM e op with
  |some v=>bif Nat.blt d N then some (d,v) else none
  |none=>none
 |_=>none
def cls (o:Oper):Nat :=
 match o.op with
 |.move _=>0
 |.assign _=>0
 |.pick _ _ _=>0
 |.binOp _ _ _ _ _=>0
 |.unOp _ _ _=>0
 |.convert _ _ _=>0
 |.build _ _=>0
 |.fieldAddr _ _ _=>0
 |.indexAddr _ _ _=>0
 |.index _ _ _=>0
 |.extract _ _=>0
 |.makeFunc _ _ _=>0
 |.nilCheck _=>0
 |.slice _ _ _ _ _=>1
 |.call c=>match c.callee with
  |.builtin .len=>1
  |.builtin .cap=>1
  |.builtin .max=>1
  |.builtin .min=>1
  |_=>2
 |.load _ _=>1
 |.lookup _ _ _ _=>1
 |_=>2
section
variable {P:Program} {f:FuncId} {N:Nat} {e e':Env} {k k':List Item} {w:World} {R:Ending→World→Prop} {Q:Act→World→Prop} {ops:Array Oper} {l l':List Nat} {i d:Nat} {v:Value}
theorem dV {op:Op} {ty:TypeId} {ps:String} {af:Array Edge} {rest:List Nat} (ho:ops[i]?=some ⟨some d,op,ty,ps,af,none⟩) (h:fM e op=some v) (hN:Nat.blt d N=true):cls ⟨some d,op,ty,ps,af,none⟩=0∧∀ {w:World} {Q:Act→World→Prop},GO P N ops rest ((d,v)::e) w Q→GO P N ops (i::rest) e w Q:=by
 cases op<;>try (cases h; done)
 case move x=>exact ⟨rfl,fun g=>GO.move ho h hN g⟩
 case assign x=>exact ⟨rfl,fun g=>GO.assign ho h hN g⟩
 case pick c x y =>
  refine ⟨rfl,fun g=>?_⟩
  simp only [fM] at h
  split at h
  ·rename_i hc; exact GO.Gq ho hc rfl h hN g
  ·rename_i hc; exact GO.Iw ho hc rfl h hN g
  ·cases h
 case extract x n =>
  refine ⟨rfl,fun g=>?_⟩
  simp only [fM] at h
  split at h
  ·rename_i hx; exact GO.extract ho hx h hN g
  ·cases h
 case unOp uo t x =>
  refine ⟨rfl,fun g=>?_⟩
  cases uo<;>simp only [fM] at h<;>try (cases h; done)
  split at h
  ·rename_i hx
   obtain rfl:=Option.some.inj h
   exact GO.not ho hx hN g
  ·cases h
 case binOp op t x y t' =>
  refine ⟨rfl,fun g=>?_⟩
  simp only [fM] at h
  split at h
  ·rename_i kd m hx
   split at h
   ·rename_i kd' n hy
    cases hk:Nat.beq (kIx kd) (kIx kd') with
    |false=>rw [hk] at h; cases h
    |true =>
     rw [hk] at h
     obtain rfl:=qA hk
     cases op<;>simp only [Aab,cond_true] at h<;>first
      |cases h; done
      |obtain rfl:=Option.some.inj h
       first
       |exact GO.add ho hx hy hN g
       |exact GO.sub ho hx hy hN g
       |exact GO.mul ho hx hy hN g
       |exact GO.lss ho hx hy hN g
       |exact GO.leq ho hx hy hN g
       |exact GO.gtr ho hx hy hN g
       |exact GO.geq ho hx hy hN g
       |exact GO.eql ho hx hy hN g
       |exact GO.neq ho hx hy hN g
   ·cases h
  ·cases h
theorem Y4 (h:kM N ops i e=some (d,v)):∃ o,ops[i]?=some o∧o.dst=some d∧cls o=0∧Nat.blt d N=true∧∀ {rest:List Nat} {w:World} {Q:Act→World→Prop},GO P N ops rest ((d,v)::e) w Q→GO P N ops (i::rest) e w Q:=by
 unfold kM at h
 split at h
 ·rename_i d' op ty ps af ho
  split at h
  ·rename_i v' hv
   cases hb:Nat.blt d' N with
   |false=>rw [hb] at h; cases h
   |true =>
    rw [hb] at h
    obtain ⟨rfl,rfl⟩:=Prod.mk.inj (Option.some.inj h)
    exact ⟨_,ho,rfl,(dV (P:=P) (rest:=[]) ho hv hb).1,hb,fun g=>(dV ho hv hb).2 g⟩
  ·cases h
 ·cases h
def fG (N:Nat) (ops:Array Oper):Nat→List Nat→Env→Option (List Nat × Env)
 |0,l,e=>some (l,e)
 |n+1,i::r,e=>match kM N ops i e with
  |some (d,v)=>fG N ops n r ((d,v)::e)
  |none=>none
 |_+1,[],_=>none
theorem GO.ps (n:Nat):∀ {l:List Nat} {e:Env},fG N ops n l e=some (l',e')→GO P N ops l' e' w Q→GO P N ops l e w Q:=by
 induction n with
 |zero =>
  intro l e h g
  obtain ⟨rfl,rfl⟩:=Prod.mk.inj (Option.some.inj h)
  exact g
 |succ n ih =>
  intro l e h g
  cases l with
  |nil=>cases h
  |cons i r =>
   simp only [fG] at h
   split at h
   ·rename_i d v hp
    obtain ⟨o,_,_,_,_,hg⟩:=Y4 (P:=P) hp
    exact hg (ih h g)
   ·cases h
def Rj (N:Nat):Nat→Env→List Item→Option (Env × List Item)
 |0,e,k=>some (e,k)
 |n+1,e,it::k=>match it with
  |.code c=>match c with
   |.seq x y=>Rj N n e (.code x::.code y::k)
   |.skip=>Rj N n e k
   |.block id c=>Rj N n e (.code c::.inBlock id::k)
   |.loop c=>Rj N n e (.code c::.inLoop c::k)
   |.exit id=>match exitTo id k with
    |some k'=>Rj N n e k'
    |none=>none
   |.region _ ops false=>match fG N ops ops.size (List.range ops.size) e with
    |some ([],e')=>Rj N n e' k
    |_=>none
   |.cond c x y=>match ev e c with
    |some (.bool true)=>Rj N n e (.code x::k)
    |some (.bool false)=>Rj N n e (.code y::k)
    |_=>none
   |_=>none
  |.inBlock _=>Rj N n e k
  |.inLoop c=>Rj N n e (.code c::.inLoop c::k)
  |_=>none
 |_+1,_,[]=>none
theorem G.run (n:Nat):∀ {e:Env} {k:List Item},Rj N n e k=some (e',k')→G P f N e' k' w R→G P f N e k w R:=by
 induction n with
 |zero =>
  intro e k h g
  obtain ⟨rfl,rfl⟩:=Prod.mk.inj (Option.some.inj h)
  exact g
 |succ n ih =>
  intro e k h g
  cases k with
  |nil=>cases h
  |cons it k =>
   cases it<;>try (cases h; done)
   case inBlock id=>exact G.Uc (ih h g)
   case inLoop c=>exact G.again (ih h g)
   case code c =>
    cases c<;>try (cases h; done)
    case seq x y=>exact G.seq (ih h g)
    case skip=>exact G.skip (ih h g)
    case block id c=>exact G.block (ih h g)
    case loop c=>exact G.loop (ih h g)
    case exit id =>
     simp only [Rj] at h
     split at h
     ·rename_i hk; exact G.exit hk (ih h g)
     ·cases h
    case region id ops draw =>
     cases draw
     ·simp only [Rj] at h
      split at h
      ·rename_i hp; exact G.region (GO.ps _ hp (GO.nil (ih h g)))
      ·cases h
     ·cases h
    case cond c x y =>
     simp only [Rj] at h
     split at h
     ·rename_i hc; exact G.yes hc (ih h g)
     ·rename_i hc; exact G.no hc (ih h g)
     ·cases h
theorem Wu {s:Sem Value} {n:Next} {w':World} (h:(do let x ← s; pure (Next.value x):Sem Next).run P w=.ok n w'):∃ v,n=.value v:=by
 rw [Sem.run_bind] at h
 cases hr:s.run P w with
 |ok x w1 =>
  rw [hr] at h
  simp only [Result.andThen_ok,Sem.run_pure] at h
  injection h with h1 h2
  exact ⟨x,h1.symm⟩
 |halt x w1 =>
  rw [hr] at h
  cases h
theorem Qp {β:Type} {s:Sem β} {f:β→Sem Next} {n:Next} {w w':World} (hf:∀ x w n w',(f x).run P w=.ok n w'→∃ v,n=.value v) (h:(s >>= f).run P w=.ok n w'):∃ v,n=.value v:=by
 rw [Sem.run_bind] at h
 cases hr:s.run P w with
 |ok x w1 =>
  rw [hr] at h
  exact hf _ _ _ _ h
 |halt x w1 =>
  rw [hr] at h
  cases h
theorem uX {o:Oper} (hc:cls o≠2) {ρ:Operand→Value} {n:Next} {w':World} (h:(execOp ρ o).run P w=.ok n w'):∃ v,n=.value v:=by
 obtain ⟨dst,op,ty,ps,af,gd⟩:=o
 cases op<;>try (exact absurd rfl hc)
 case move x=>simp only [execOp,Sem.run_pure] at h; injection h with h1 h2; exact ⟨_,h1.symm⟩
 case assign x=>simp only [execOp,Sem.run_pure] at h; injection h with h1 h2; exact ⟨_,h1.symm⟩
 case pick c x y =>
  simp only [execOp,Sem.run_bind] at h
  cases hr:(asBool (ρ c)).run P w with
  |ok b w1=>rw [hr] at h; simp only [Result.andThen_ok,Sem.run_pure] at h; injection h with h1 h2; exact ⟨_,h1.symm⟩
  |halt b w1=>rw [hr] at h; cases h
 case nilCheck x =>
  simp only [execOp] at h
  split at h
  ·simp [runtimePanic] at h
  ·simp [runtimePanic] at h
  ·simp [runtimePanic] at h
  ·split at h
   ·simp [runtimePanic] at h
   ·refine Qp (fun x w n w' h=>?_) h
    refine Qp (fun x w n w' h=>?_) h
    split at h
    ·refine Qp (fun x w n w' h=>?_) h
     simp only [Sem.run_pure] at h; injection h with h1 h2; exact ⟨_,h1.symm⟩
    ·simp only [Sem.run_pure] at h; injection h with h1 h2; exact ⟨_,h1.symm⟩
   ·simp only [Sem.run_pure] at h; injection h with h1 h2; exact ⟨_,h1.symm⟩
  ·simp only [Sem.run_pure] at h; injection h with h1 h2; exact ⟨_,h1.symm⟩
 case call c =>
  obtain ⟨callee,args,tys⟩:=c
  cases callee<;>try (exact absurd rfl hc)
  case builtin b =>
   cases b<;>try (exact absurd rfl hc)
   all_goals
    simp only [execOp,resolve,invoke,builtin,pure_bind] at h
    exact Wu h
 all_goals exact Wu h
theorem GO.inv {o:Oper} (ho:ops[i]?=some o) (hc:cls o≠2) (hd:o.dst=some d) (hv:Go.Proofs.YtgkgmhkgahalgaaGreat.look e' d=some v) (h:GO P N ops [i] e w (fun a' w'=>w'=w∧Sat N e' a')) {a:Act} (hs:Sat N e a) :
  ((Region.wanted o (yielded ops a.tmps)=true∧(execOp a.eval o).run P w=.ok (.value v) w)∨(Region.wanted o (yielded ops a.tmps)=false∧v=undef))∧Sat N e' (a.put (some d) v):=by
 have same:∀ u,Sat N e' (a.put (some d) u)→u=v:=fun u hu=>by
  have h1:=hu.at_ d v hv
  simp only [Act.put] at h1
  have hlt:=(Array.getElem?_eq_some_iff.1 h1).1
  rw [Array.size_setIfInBounds] at hlt
  rw [Array.getElem?_setIfInBounds_self_of_lt hlt] at h1
  exact Option.some.inj h1
 have h1:=h a hs
 simp only [wpOps,ho] at h1
 cases hw:Region.wanted o (yielded ops a.tmps) with
 |true =>
  rw [hw,if_pos rfl] at h1
  rcases h1 with h1 | ⟨_,a0,w0,h0,_⟩
  ·unfold Oper.wp at h1
   cases hr:(execOp a.eval o).run P w with
   |ok n w' =>
    obtain ⟨u,rfl⟩:=uX hc hr
    rw [hr] at h1
    simp only [Oper.upon,hd] at h1
    obtain ⟨_,rfl,h2⟩:=h1
    have:=same u h2
    subst this
    exact ⟨.inl ⟨rfl,rfl⟩,h2⟩
   |halt x w' =>
    rw [hr] at h1
    cases x<;>simp only [Oper.upon] at h1<;>exact absurd h1.1 (by simp)
  ·cases h0
 |false =>
  rw [hw,if_neg (by decide)] at h1
  simp only [hd] at h1
  have:=same undef h1.2.2
  subst this
  exact ⟨.inr ⟨rfl,rfl⟩,h1.2.2⟩
def QF:Exit→Act→World→Prop:=fun _ _ _=>False
theorem Vy {Q Q':Exit→Act→World→Prop} (hp:∀ c a w,Q (.panic c) a w→Q' (.panic c) a w) (hl:∀ a w,¬ Q .outgrown a w) {i:Nat} {K:Act→World→Prop} {a:Act} {w:World} (h:wpOp P ops Q i K a w):wpOp P ops Q' i K a w:=by
 unfold wpOp at *
 split
 ·rename_i ho; simp only [ho] at h; exact h
 ·rename_i o ho
  simp only [ho] at h
  split
  ·rename_i hw
   rw [if_pos hw] at h
   rcases h with h | ⟨_,a0,w0,h0⟩
   ·refine .inl ?_
    unfold Oper.wp at h ⊢
    generalize (execOp a.eval o).run P w=r at h ⊢
    cases r with
    |ok n w' =>
     cases n<;>simp only [Oper.upon] at h ⊢<;>first
      |exact h
      |exact Calls.mono h (fun e w'' he=>by cases e with
        |returned v=>exact he
        |panicked c=>exact hp _ _ _ he
        |outgrown=>obtain ⟨a1,w1,h1⟩:=he; exact absurd h1 (hl _ _))
    |halt x w'=>cases x<;>simp only [Oper.upon] at h ⊢<;>exact hp _ _ _ h
   ·exact absurd h0 (hl _ _)
  ·rename_i hw
   rw [if_neg hw] at h
   exact h
def Ki (P:Program) (ops:Array Oper) (S:World→Prop) (o:Oper) (v:Value) (a:Act):Prop :=
 (Region.wanted o (yielded ops a.tmps)=true∧∀ w,S w→(execOp a.eval o).run P w=.ok (.value v) w)∨(Region.wanted o (yielded ops a.tmps)=false∧v=undef)
theorem Ki.of_same {S:World→Prop} {o:Oper} {v:Value} {a a':Act} (hy:Ki P ops S o v a) (he:execOp a'.eval o=execOp a.eval o) (hw:Region.wanted o (yielded ops a'.tmps)=Region.wanted o (yielded ops a.tmps)):Ki P ops S o v a':=by
 unfold Ki at *
 rw [he,hw]
 exact hy
theorem Ki.at_ {S:World→Prop} {o:Oper} {v:Value} {a:Act} (hy:Ki P ops S o v a) (hS:S w):YieldsAt P ops w o v a:=by
 rcases hy with h | h
 ·exact .inl ⟨h.1,.inl (h.2 w hS)⟩
 ·exact .inr h
theorem xI {S:World→Prop} {j:Nat} {oi oj:Oper} {v:Value} (hj:ops[j]?=some oj) (hap:oi.apart ops oj=true)
  (hsi:∀ cs b,oi.op≠.select cs b) (hsj:∀ cs b,oj.op≠.select cs b) {K:Act→World→Prop} {a:Act}
  (hy:Ki P ops S oi v a) (h:wpOp P ops QF j K (a.put oi.dst v) w) :
  wpOp P ops QF j (fun a' w'=>Ki P ops S oi v a'∧K (a'.put oi.dst v) w') a w:=by
 obtain ⟨h1,h2,h3⟩:=Oper.apart_spec hap
 have keep:∀ (a:Act),Ki P ops S oi v a→∀ u,Ki P ops S oi v (a.put oj.dst u):=fun a hy u =>
  hy.of_same (execOp_put oi hsi a oj.dst u h3) (wanted_put oi a oj.dst u h3)
 have keepD:∀ d,Ki P ops S oi v { a with defers:=d::a.defers }:=fun d=>hy.of_same rfl rfl
 unfold wpOp at *
 simp only [hj] at *
 rw [wanted_put oj a oi.dst v h1] at h
 split
 ·rename_i hw
  simp only [hw,if_true] at h
  rcases h with h | ⟨_,a0,w0,h0⟩
  ·refine .inl ?_
   unfold Oper.wp at *
   rw [execOp_put oj hsj a oi.dst v h1] at h
   generalize (execOp a.eval oj).run P w=r at *
   cases r with
   |ok n w' =>
    cases n<;>simp only [Oper.upon] at h ⊢
    case value u=>exact ⟨keep a hy u,by rw [← Act.put_comm a v u h2]; exact h⟩
    case skip=>exact ⟨keep a hy _,by rw [← Act.put_comm a v undef h2]; exact h⟩
    case defer d =>
     refine ⟨keep _ (keepD d) _,?_⟩
     rw [← Act.put_comm _ v undef h2,← Act.put_defers]
     exact h
    case enter f args =>
     refine Calls.mono h fun e w'' he=>?_
     cases e with
     |returned u=>exact ⟨keep a hy u,by rw [← Act.put_comm a v u h2]; exact he⟩
     |panicked c=>exact he.elim
     |outgrown=>exact he
    case row row args=>exact Rows.mono h fun u w'' he=>⟨keep a hy u,by rw [← Act.put_comm a v u h2]; exact he⟩
   |halt x w' =>
    cases x<;>simp only [Oper.upon] at h ⊢
    case panic u=>exact h.elim
  ·exact h0.elim
 ·rename_i hw
  simp only [hw] at h
  exact ⟨keep a hy _,by rw [← Act.put_comm a v undef h2]; exact h⟩
def LX (P:Program) (ops:Array Oper) (S:World→Prop) (st:List Nat) (z:List Nat) (Q:Act→World→Prop):List Nat→Act→World→Prop
 |[],a,w=>Q a w
 |i::r,a,w=>∃ o,ops[i]?=some o ∧
  ((cls o=0∧∃ v,Ki P ops (fun _=>True) o v a∧LX P ops S st z Q r (a.put o.dst v) w) ∨
   (cls o=1∧st.contains i=true∧∃ v,Ki P ops S o v a∧LX P ops S st z Q r (a.put o.dst v) w) ∨
   (cls o=1∧st.contains i=false∧∃ v,YieldsAt P ops w o v a∧LX P ops S st z Q r (a.put o.dst v) w) ∨
   (cls o=2∧wpOp P ops QF i (fun a w=>(S w∨z.contains i=true)∧LX P ops S st z Q r a w) a w))
def cK (ops:Array Oper) (si:Bool) (oi oj:Oper):Bool:=oi.apart ops oj && (Nat.beq (cls oi) 0 || (Nat.beq (cls oi) 1 && (si || Nat.ble (cls oj) 1)))
variable {S:World→Prop} {st:List Nat} {z:List Nat}
theorem LX.swap (hsel:Region.noSelect ops=true) {i j:Nat} {oi oj:Oper} {r:List Nat} {a:Act} (hi:ops[i]?=some oi) (hj:ops[j]?=some oj) (hin:cK ops (st.contains i) oi oj=true) (h:LX P ops S st z Q (i::j::r) a w):LX P ops S st z Q (j::i::r) a w:=by
 unfold cK at hin
 rw [Bool.and_eq_true] at hin
 obtain ⟨hap,hc⟩:=hin
 obtain ⟨h1,h2,h3⟩:=Oper.apart_spec hap
 have hsi:=fun cs b=>Region.noSelect_spec hsel i oi cs b hi
 have hsj:=fun cs b=>Region.noSelect_spec hsel j oj cs b hj
 have keepY:∀ {T:World→Prop} {v:Value} (u:Value),Ki P ops T oi v a→Ki P ops T oi v (a.put oj.dst u):=fun u hy=>hy.of_same (execOp_put oi hsi a oj.dst u h3) (wanted_put oi a oj.dst u h3)
 have keepA:∀ {v:Value} (u:Value),YieldsAt P ops w oi v a→YieldsAt P ops w oi v (a.put oj.dst u):=fun u hy=>hy.of_same (execOp_put oi hsi a oj.dst u h3) (wanted_put oi a oj.dst u h3)
 have backY:∀ {T:World→Prop} {v u:Value},Ki P ops T oj u (a.put oi.dst v)→Ki P ops T oj u a:=fun {T v u} hy=>hy.of_same (execOp_put oj hsj a oi.dst v h1).symm (wanted_put oj a oi.dst v h1).symm
 have backA:∀ {v u:Value},YieldsAt P ops w oj u (a.put oi.dst v)→YieldsAt P ops w oj u a:=fun {v u} hy=>hy.of_same (execOp_put oj hsj a oi.dst v h1).symm (wanted_put oj a oi.dst v h1).symm
 have comm:∀ (v u:Value),(a.put oi.dst v).put oj.dst u=(a.put oj.dst u).put oi.dst v:=fun v u=>Act.put_comm a v u h2
 obtain ⟨o,ho,h⟩:=h
 rw [hi] at ho
 obtain rfl:=Option.some.inj ho
 rcases h with ⟨c0,v,hy,o',ho',h⟩|⟨c1,cs,v,hy,o',ho',h⟩|⟨c1,cs,v,hy,o',ho',h⟩|⟨c2,_⟩
 ·rw [hj] at ho'
  obtain rfl:=Option.some.inj ho'
  rcases h with ⟨d0,u,hu,h⟩|⟨d1,ds,u,hu,h⟩|⟨d1,ds,u,hu,h⟩|⟨d2,h⟩
  ·exact ⟨_,hj,.inl ⟨d0,u,backY hu,_,hi,.inl ⟨c0,v,keepY u hy,by rw [← comm]; exact h⟩⟩⟩
  ·exact ⟨_,hj,.inr (.inl ⟨d1,ds,u,backY hu,_,hi,.inl ⟨c0,v,keepY u hy,by rw [← comm]; exact h⟩⟩)⟩
  ·exact ⟨_,hj,.inr (.inr (.inl ⟨d1,ds,u,backA hu,_,hi,.inl ⟨c0,v,keepY u hy,by rw [← comm]; exact h⟩⟩))⟩
  ·refine ⟨_,hj,.inr (.inr (.inr ⟨d2,?_⟩))⟩
   exact wpOp_mono (fun a' w' h'=>⟨h'.2.1,_,hi,.inl ⟨c0,v,h'.1,h'.2.2⟩⟩) (xI hj hap hsi hsj hy h)
 ·rw [hj] at ho'
  obtain rfl:=Option.some.inj ho'
  rcases h with ⟨d0,u,hu,h⟩|⟨d1,ds,u,hu,h⟩|⟨d1,ds,u,hu,h⟩|⟨d2,h⟩
  ·exact ⟨_,hj,.inl ⟨d0,u,backY hu,_,hi,.inr (.inl ⟨c1,cs,v,keepY u hy,by rw [← comm]; exact h⟩)⟩⟩
  ·exact ⟨_,hj,.inr (.inl ⟨d1,ds,u,backY hu,_,hi,.inr (.inl ⟨c1,cs,v,keepY u hy,by rw [← comm]; exact h⟩)⟩)⟩
  ·exact ⟨_,hj,.inr (.inr (.inl ⟨d1,ds,u,backA hu,_,hi,.inr (.inl ⟨c1,cs,v,keepY u hy,by rw [← comm]; exact h⟩)⟩))⟩
  ·refine ⟨_,hj,.inr (.inr (.inr ⟨d2,?_⟩))⟩
   exact wpOp_mono (fun a' w' h'=>⟨h'.2.1,_,hi,.inr (.inl ⟨c1,cs,v,h'.1,h'.2.2⟩)⟩) (xI hj hap hsi hsj hy h)
 ·rw [hj] at ho'
  obtain rfl:=Option.some.inj ho'
  rcases h with ⟨d0,u,hu,h⟩|⟨d1,ds,u,hu,h⟩|⟨d1,ds,u,hu,h⟩|⟨d2,h⟩
  ·exact ⟨_,hj,.inl ⟨d0,u,backY hu,_,hi,.inr (.inr (.inl ⟨c1,cs,v,keepA u hy,by rw [← comm]; exact h⟩))⟩⟩
  ·exact ⟨_,hj,.inr (.inl ⟨d1,ds,u,backY hu,_,hi,.inr (.inr (.inl ⟨c1,cs,v,keepA u hy,by rw [← comm]; exact h⟩))⟩)⟩
  ·exact ⟨_,hj,.inr (.inr (.inl ⟨d1,ds,u,backA hu,_,hi,.inr (.inr (.inl ⟨c1,cs,v,keepA u hy,by rw [← comm]; exact h⟩))⟩))⟩
  ·rw [c1,d2,cs] at hc; exact absurd hc (by decide)
 ·rw [c2] at hc; cases hc
theorem LX.fT {i:Nat} {r r':List Nat} {a:Act} (hm:∀ a w,LX P ops S st z Q r a w→LX P ops S st z Q r' a w) (h:LX P ops S st z Q (i::r) a w):LX P ops S st z Q (i::r') a w:=by
 obtain ⟨o,ho,h⟩:=h
 refine ⟨o,ho,?_⟩
 rcases h with ⟨c0,v,hy,h⟩|⟨c1,cs,v,hy,h⟩|⟨c1,cs,v,hy,h⟩|⟨c2,h⟩
 ·exact .inl ⟨c0,v,hy,hm _ _ h⟩
 ·exact .inr (.inl ⟨c1,cs,v,hy,hm _ _ h⟩)
 ·exact .inr (.inr (.inl ⟨c1,cs,v,hy,hm _ _ h⟩))
 ·exact .inr (.inr (.inr ⟨c2,wpOp_mono (fun a w h=>⟨h.1,hm _ _ h.2⟩) h⟩))
def Tq (ops:Array Oper) (st:List Nat) (i j:Nat):Bool:=match ops[i]?,ops[j]? with
 |some oi,some oj=>cK ops (st.contains i) oi oj
 |_,_=>false
theorem LX.front (hsel:Region.noSelect ops=true) {j:Nat} {l2:List Nat}:∀ {l1:List Nat} {a:Act} {w:World},(∀ i,i∈l1→Tq ops st i j=true)→LX P ops S st z Q (l1++j::l2) a w→LX P ops S st z Q (j::(l1++l2)) a w
 |[],a,w,_,h=>h
 |i::l1,a,w,hin,h=>by
  have h1:LX P ops S st z Q (i::j::(l1++l2)) a w:=LX.fT (fun a w h=>LX.front hsel (fun i hi=>hin i (List.mem_cons_of_mem _ hi)) h) h
  have h2:=hin i (List.mem_cons_self ..)
  unfold Tq at h2
  split at h2
  ·rename_i oi oj hi hj
   exact LX.swap hsel hi hj h2 h1
  ·cases h2
theorem LX.first {j:Nat} {r:List Nat} {a:Act} {Q':Exit→Act→World→Prop} (hS:S w∨st.contains j=false) (h:LX P ops S st z Q (j::r) a w):wpOp P ops Q' j (fun a w'=>(w'=w∨S w'∨z.contains j=true)∧LX P ops S st z Q r a w') a w:=by
 obtain ⟨o,ho,h⟩:=h
 have one:∀ {v:Value},YieldsAt P ops w o v a→LX P ops S st z Q r (a.put o.dst v) w→wpOp P ops Q' j (fun a w'=>(w'=w∨S w'∨z.contains j=true)∧LX P ops S st z Q r a w') a w:=fun hy h=>wpOp_of_stOp (K:=fun a'=>LX P ops S st z Q r a' w) (fun _ h=>⟨.inl rfl,h⟩) (hy.stOp ho h)
 rcases h with ⟨c0,v,hy,h⟩|⟨c1,cs,v,hy,h⟩|⟨c1,cs,v,hy,h⟩|⟨c2,h⟩
 ·exact one (hy.at_ trivial) h
 ·rcases hS with hS' | hS'
  ·exact one (hy.at_ hS') h
  ·rw [hS'] at cs; cases cs
 ·exact one hy h
 ·exact Vy (fun _ _ _ hf=>hf.elim) (fun _ _ hf=>hf) (wpOp_mono (fun a w h=>⟨.inr h.1,h.2⟩) h)
def Ud (ops:Array Oper):Nat→Nat→Nat→Bool
 |0,_,_=>false
 |n+1,j,i=>(needs ops j).any fun m=>Nat.beq m i || (Nat.blt i m && Ud ops n m i)
theorem Qv {b:Nat→Bool} (hcl:∀ m,m<ops.size→b m=true→∀ i∈needs ops m,b i=true) (hfw:forward ops=true):∀ (n j i:Nat),j<ops.size→(∀ m∈needs ops j,b m=true)→Ud ops n j i=true→b i=true
 |0,_,_,_,_,h=>by cases h
 |n+1,j,i,hj,hr,h=>by
  obtain ⟨m,hm,h1⟩:=List.any_eq_true.1 h
  have hmj:m<j:=Nat.le_of_ble_eq_true (List.all_eq_true.1 (List.all_eq_true.1 hfw j (List.mem_range.2 hj)) m hm)
  rcases Bool.or_eq_true_iff.1 h1 with h1 | h1
  ·rw [← Nat.eq_of_beq_eq_true h1]; exact hr m hm
  ·rw [Bool.and_eq_true] at h1
   exact Qv hcl hfw n m i (by omega) (hcl m (by omega) (hr m hm)) h1.2
def U1 (ops:Array Oper) (st:List Nat):List Nat→Bool
 |[]=>true
 |i::r=>(r.all fun j=>Tq ops st i j || Ud ops ops.size j i) && U1 ops st r
def qO (n:Nat) (ord:List Nat):Bool:=Nat.beq ord.length n && (List.range n).all fun j=>ord.contains j
def lY (ops:Array Oper) (st ord:List Nat):Bool:=forward ops && Region.noSelect ops && qO ops.size ord && U1 ops st ord
theorem Tz {i j:Nat}:∀ {l1 m2 l2:List Nat},U1 ops st (l1++i::(m2++j::l2))=true→Tq ops st i j=true∨Ud ops ops.size j i=true
 |[],m2,l2,h=>by
  rw [List.nil_append,U1,Bool.and_eq_true] at h
  exact Bool.or_eq_true_iff.1 (List.all_eq_true.1 h.1 j (List.mem_append_right _ (List.mem_cons_self ..)))
 |x::l1,m2,l2,h=>by
  rw [List.cons_append,U1,Bool.and_eq_true] at h
  exact Tz h.2
theorem Qh:∀ {n:Nat} {l:List Nat},l.length=n→(∀ j,j<n→j∈l)→l.Nodup∧∀ j,j∈l→j<n
 |0,l,hl,_=>by
  rw [List.eq_nil_of_length_eq_zero hl]
  exact ⟨List.nodup_nil,fun j hj=>by cases hj⟩
 |n+1,l,hl,h=>by
  have hm:=h n (Nat.lt_succ_self _)
  obtain ⟨h1,h2⟩:=Qh (n:=n) (l:=l.erase n) (by rw [List.length_erase_of_mem hm,hl]; rfl) (fun j hj=>(List.mem_erase_of_ne (by omega)).2 (h j (by omega)))
  have hp:l.Perm (n::l.erase n):=List.perm_cons_erase hm
  refine ⟨hp.nodup_iff.2 (List.nodup_cons.2 ⟨fun hn=>absurd (h2 n hn) (Nat.lt_irrefl _),h1⟩),fun j hj=>?_⟩
  rcases List.mem_cons.1 (hp.mem_iff.1 hj) with h3 | h3
  ·omega
  ·have:=h2 j h3; omega
theorem Ya {b:Nat→Bool} {j:Nat}:∀ {l:List Nat},l.Nodup→j∈l→b j=false→∃ m1 m2,l=m1++j::m2∧(l.filter fun i=>!b i)=(m1.filter fun i=>!b i)++j::(m2.filter fun i=>!b i)∧(l.filter fun i=>!upd b j i)=(m1.filter fun i=>!b i)++(m2.filter fun i=>!b i):=fun {l} hn hm hb=>by
 obtain ⟨m1,m2,rfl⟩:=List.append_of_mem hm
 have hn':=List.nodup_append.1 hn
 have hj1:j ∉ m1:=fun h=>hn'.2.2 j h j (List.mem_cons_self ..) rfl
 have hj2:j ∉ m2:=(List.nodup_cons.1 hn'.2.1).1
 have hu:∀ m:List Nat,j ∉ m→(m.filter fun i=>!upd b j i)=m.filter fun i=>!b i:=fun m hm=>List.filter_congr (fun i hi=>by rw [upd_ne b (show i≠j from fun e=>hm (by rw [← e]; exact hi))])
 refine ⟨m1,m2,rfl,?_,?_⟩
 ·rw [List.filter_append,List.filter_cons,hb]; rfl
 ·rw [List.filter_append,List.filter_cons,Oa,hu m1 hj1,hu m2 hj2]; rfl
def zOk (ops:Array Oper) (st z:List Nat):Bool:=z.all fun j=>st.all fun i=>Ud ops ops.size j i
def GX (P:Program) (N:Nat) (ops:Array Oper) (S:World→Prop) (st:List Nat) (z:List Nat) (l:List Nat) (e:Env) (w:World) (Q:Act→World→Prop):Prop:=∀ a,Sat N e a→LX P ops S st z Q l a w
theorem G.Jk {id:Nat} (hm:P.follows .mixedOrders=true) (S:World→Prop) (st ord z:List Nat) (hok:lY ops st ord=true) (hzo:zOk ops st z=true) (hS:S w.drew) (g:GX P N ops S st z ord e w.drew (Lb P f k R)):G P f N e (.code (.region id ops true)::k) w R:=by
 simp only [lY,Bool.and_eq_true] at hok
 obtain ⟨⟨⟨hfw,hsel⟩,hperm⟩,hpairs⟩:=hok
 simp only [qO,Bool.and_eq_true] at hperm
 obtain ⟨hnd,hlt⟩:=Qh (Nat.eq_of_beq_eq_true hperm.1) (fun j hj=>by simpa using List.all_eq_true.1 hperm.2 j (List.mem_range.2 hj))
 have hall:∀ j,j<ops.size→j∈ord:=fun j hj=>by simpa using List.all_eq_true.1 hperm.2 j (List.mem_range.2 hj)
 refine G.Wh (N:=N) (e:=e) hm hfw (fun b a w=>(S w∨∃ z',z.contains z'=true∧z'<ops.size∧b z'=true)∧LX P ops S st z (Lb P f k R) (ord.filter fun i=>!b i) a w) (fun a hs=>?_) (fun j hj b a w hI hb hr hcl=>?_) (fun b a w hd hI=>?_)
 ·refine ⟨.inl hS,?_⟩
  have hf:(ord.filter fun i=>!(fun _=>false) i)=ord:=List.filter_eq_self.2 (fun _ _=>rfl)
  show LX P ops S st z (Lb P f k R) (ord.filter fun i=>!(fun _=>false) i) a w.drew
  rw [hf]
  exact g a hs
 ·obtain ⟨m1,m2,hl,hf,hfu⟩:=Ya hnd (hall j hj) hb
  have h1:=hI.2
  have hSw:S w∨st.contains j=false:=by
   rcases hI.1 with h | ⟨z',hz,hzs,hbz⟩
   ·exact .inl h
   ·cases hst:st.contains j with
    |false=>exact .inr rfl
    |true =>
     have:=Qv hcl hfw _ z' j hzs (hcl z' hzs hbz) (List.all_eq_true.1 (List.all_eq_true.1 hzo z' (by simpa using hz)) j (by simpa using hst))
     rw [hb] at this; cases this
  rw [hf] at h1
  have h2:=LX.front hsel (fun i hi=>by
   have him:=List.mem_filter.1 hi
   obtain ⟨p1,p2,hp⟩:=List.append_of_mem him.1
   rw [hl,hp,List.append_assoc,List.cons_append] at hpairs
   have hib:b i=false:=by simpa using him.2
   have hio:i∈ord:=by rw [hl]; exact List.mem_append_left _ him.1
   have hne:i≠j:=fun e=>by
    rw [hl] at hnd
    exact (List.nodup_append.1 hnd).2.2 i him.1 j (List.mem_cons_self ..) e
   rcases Tz hpairs with h | h
   ·exact h
   ·have:=Qv hcl hfw _ j i hj hr h
    rw [hib] at this; cases this) h1
  rw [wpOps_cons]
  refine wpOp_mono (fun a' w' h'=>?_) (LX.first hSw h2)
  refine ⟨rfl,?_,?_⟩
  ·rcases h'.1 with e | e | e
   ·rw [e]
    refine hI.1.imp (fun h=>h) (fun ⟨z',hz,hzs,hbz⟩=>⟨z',hz,hzs,?_⟩)
    rw [upd_ne b (show z'≠j from fun e=>by rw [e,hb] at hbz; cases hbz)]
    exact hbz
   ·exact .inl e
   ·exact .inr ⟨j,e,hj,Oa b j⟩
  rw [hfu]
  exact h'.2
 ·have h1:=hI.2
  rw [List.filter_eq_nil_iff.2 (fun i hi=>by rw [hd i (hlt i hi)]; decide)] at h1
  exact h1
theorem G.lex {id:Nat} (hm:P.follows .mixedOrders=true) (ord:List Nat) (hok:lY ops [] ord=true) (g:GX P N ops (fun _=>True) [] [] ord e w.drew (Lb P f k R)):G P f N e (.code (.region id ops true)::k) w R:=G.Jk hm _ _ ord [] hok rfl trivial g
theorem GX.nil (g:G P f N e k w R):GX P N ops S st z [] e w (Lb P f k R):=fun a hs=>g a hs
theorem GX.fin (hS:S w) (g:GX P N ops S st z l e w Q):GO P N ops [] e w (fun a w=>(S w∨z.contains i=true)∧LX P ops S st z Q l a w):=fun a hs=>⟨rfl,.inl hS,g a hs⟩
theorem GX.Y2 (hz:z.contains i=true) (g:GX P N ops S st z l e w Q):GO P N ops [] e w (fun a w=>(S w∨z.contains i=true)∧LX P ops S st z Q l a w):=fun a hs=>⟨rfl,.inr hz,g a hs⟩
def Uj (ops:Array Oper) (i:Nat):Nat:=match ops[i]? with
 |some o=>cls o
 |none=>3
theorem inS {T:World→Prop} {o:Oper} (ho:ops[i]?=some o) (hc:cls o≠2) (hd:o.dst=some d) (hv:look e' d=some v) (hT:T w) (h:∀ w,T w→∀ Q,GO P N ops [] e' w Q→GO P N ops [i] e w Q) {a:Act} (hs:Sat N e a):Ki P ops T o v a∧Sat N e' (a.put (some d) v):=by
 have hall:=fun w (hw:T w)=>GO.inv ho hc hd hv (h w hw (fun a' w'=>w'=w∧Sat N e' a') (fun a hs=>⟨rfl,rfl,hs⟩)) hs
 refine ⟨?_,(hall w hT).2⟩
 cases hw:Region.wanted o (yielded ops a.tmps) with
 |true =>
  refine .inl ⟨hw,fun w hw'=>?_⟩
  rcases (hall w hw').1 with h1 | h1
  ·exact h1.2
  ·rw [hw] at h1; cases h1.1
 |false =>
  refine .inr ⟨hw,?_⟩
  rcases (hall w hT).1 with h1 | h1
  ·rw [hw] at h1; cases h1.1
  ·exact h1.2
theorem GX.l0' {o:Oper} (ho:ops[i]?=some o) (hc:cls o=0) (hd:o.dst=some d) (hv:look e' d=some v) (h:∀ w Q,GO P N ops [] e' w Q→GO P N ops [i] e w Q) (g:GX P N ops S st z l e' w Q):GX P N ops S st z (i::l) e w Q:=fun a hs=>by
 have hall:=inS (T:=fun _=>True) (w:=w) ho (by rw [hc]; decide) hd hv trivial (fun w _=>h w) hs
 exact ⟨o,ho,.inl ⟨hc,v,hall.1,by rw [hd]; exact g _ hall.2⟩⟩
theorem R6 {c:Nat} (hc:Uj ops i=c) (hd:Od ops i=some d):∃ o,ops[i]?=some o∧cls o=c∧o.dst=some d:=by
 unfold Uj at hc
 unfold Od at hd
 cases ho:ops[i]? with
 |none=>rw [ho] at hd; cases hd
 |some o=>rw [ho] at hc hd; exact ⟨o,rfl,hc,hd⟩
theorem GX.l0 (hc:Uj ops i=0) (hd:Od ops i=some d) (h:∀ w Q,GO P N ops [] e' w Q→GO P N ops [i] e w Q) (hv:look e' d=some v) (g:GX P N ops S st z l e' w Q):GX P N ops S st z (i::l) e w Q:=by
 obtain ⟨o,ho,h1,h2⟩:=R6 hc hd
 exact GX.l0' ho h1 h2 hv h g
theorem GX.ls (hc:Uj ops i=1) (hst:st.contains i=true) (hd:Od ops i=some d) (hS:S w) (h:∀ w,S w→∀ Q,GO P N ops [] e' w Q→GO P N ops [i] e w Q) (hv:look e' d=some v) (g:GX P N ops S st z l e' w Q):GX P N ops S st z (i::l) e w Q:=fun a hs=>by
 obtain ⟨o,ho,h1,h2⟩:=R6 hc hd
 have hall:=inS ho (by rw [h1]; decide) h2 hv hS h hs
 exact ⟨o,ho,.inr (.inl ⟨h1,hst,v,hall.1,by rw [h2]; exact g _ hall.2⟩)⟩
theorem GX.l1 (hc:Uj ops i=1) (hst:st.contains i=false) (hd:Od ops i=some d) (h:∀ Q,GO P N ops [] e' w Q→GO P N ops [i] e w Q) (hv:look e' d=some v) (g:GX P N ops S st z l e' w Q):GX P N ops S st z (i::l) e w Q:=fun a hs=>by
 obtain ⟨o,ho,h1,h2⟩:=R6 hc hd
 have hi:=GO.inv ho (by rw [h1]; decide) h2 hv (h (fun a' w'=>w'=w∧Sat N e' a') (fun a hs=>⟨rfl,rfl,hs⟩)) hs
 refine ⟨o,ho,.inr (.inr (.inl ⟨h1,hst,v,?_,?_⟩))⟩
 ·rcases hi.1 with h3 | h3
  ·exact .inl ⟨h3.1,.inl h3.2⟩
  ·exact .inr h3
 ·rw [h2]; exact g _ hi.2
theorem GX.l2 (hc:Uj ops i=2) (h:GO P N ops [i] e w (fun a w=>(S w∨z.contains i=true)∧LX P ops S st z Q l a w)):GX P N ops S st z (i::l) e w Q:=fun a hs=>by
 unfold Uj at hc
 cases ho:ops[i]? with
 |none=>rw [ho] at hc; cases hc
 |some o =>
  rw [ho] at hc
  refine ⟨o,ho,.inr (.inr (.inr ⟨hc,?_⟩))⟩
  have h1:=h a hs
  rw [wpOps_cons] at h1
  exact wpOp_mono (fun a' w' h'=>h'.2) (Vy (Q':=QF) (fun _ _ _ hf=>absurd hf.1 (by simp)) (fun _ _ hf=>absurd hf.1 (by simp)) h1)
theorem GX.ps (n:Nat):∀ {l:List Nat} {e:Env},fG N ops n l e=some (l',e')→GX P N ops S st z l' e' w Q→GX P N ops S st z l e w Q:=by
 induction n with
 |zero =>
  intro l e h g
  obtain ⟨rfl,rfl⟩:=Prod.mk.inj (Option.some.inj h)
  exact g
 |succ n ih =>
  intro l e h g
  cases l with
  |nil=>cases h
  |cons i r =>
   simp only [fG] at h
   split at h
   ·rename_i d v hp
    obtain ⟨o,ho,hd,hc,hN,hg⟩:=Y4 (P:=P) hp
    refine GX.l0' ho hc hd (v:=v) ?_ (fun w Q g=>hg g) (ih h g)
    simp only [look,Nat.beq_eq,cond_true]
    simp
   ·cases h
end
end Go.Proofs.YtgkgmhkgahalgaaGreat
