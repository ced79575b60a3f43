/-
  In how many rounds: words for 'from some number of rounds on the answer is this'; the law's own copying, comparing and marking of diagrams.
  How much a diagram is; tests that are known.
  An item's parts copied, compared with themselves, and how much they are.
  Loops that look for the first item that fails, whatever the loop; names, braid words and plain certificates.
  The text of a move is empty at the same moves; plain certificates.
  Permutations by their numbers, both ways.
  Triangulations: both look at the same faces in the same order.
  Positions at crossings: the arc at a position, whether it enters; the search for a position finds it.
  The scan of all positions: the program's lists of ends and the reference's marks run in step; when both go through, every arc has its one way in and its one way out.
  Rows of one element; the test of the signs; the reference's counting where a sign is wrong; both scans as wholes.
-/
import Derived.Test.YtjopfecenllmgaaGreatDoorAlM
import Derived.KernelRfl
set_option linter.unusedSectionVars false
set_option linter.unusedSimpArgs false
set_option linter.unusedVariables false
namespace Go.Proofs.YtjopfecenllmgaaGreatDoor
open Go.RowKit
def Ab {α:Type} (F:Nat→Option α) (r:α):Prop:=∃ n,∀ K,n≤K→F K=some r
def Ac {α:Type} (F:Nat→Nat→Option α) (r:α):Prop:=∃ n,∀ K k,n≤K→n≤k→F K k=some r
section
variable {α β γ δ ε ζ:Type}
theorem Ab.const (r:α):Ab (fun _=>some r) r:=⟨0,fun _ _=>rfl⟩
theorem Ac.const (r:α):Ac (fun _ _=>some r) r:=⟨0,fun _ _ _ _=>rfl⟩
theorem Ab.congr {F G:Nat→Option α} {r:α} (h:∀ K,F K=G K) (hg:Ab G r):Ab F r:=by
  obtain ⟨n,hn⟩:=hg
  exact ⟨n,fun K hK=>(h K).trans (hn K hK)⟩
theorem Ac.congr {F G:Nat→Nat→Option α} {r:α} (h:∀ K k,F K k=G K k) (hg:Ac G r):Ac F r:=by
  obtain ⟨n,hn⟩:=hg
  exact ⟨n,fun K k hK hk=>(h K k).trans (hn K k hK hk)⟩
theorem Ac.succ {F:Nat→Nat→Option α} {r:α} (h:Ac (fun K k=>F K (k+1)) r):Ac F r:=by
  obtain ⟨n,hn⟩:=h
  refine ⟨n+1,fun K k hK hk=>?_⟩
  obtain ⟨k',rfl⟩:∃ k',k=k'+1:=⟨k - 1,by omega⟩
  exact hn K k' (by omega) (by omega)
theorem Ac.I5 {F:Nat→Nat→Option α} {r:α} (h:Ac F r):Ab (fun K=>F K K) r:=by
  obtain ⟨n,hn⟩:=h
  exact ⟨n,fun K hK=>hn K K hK hK⟩
theorem Ab.two {F:Nat→Option α} {r:α} (h:Ab F r):Ac (fun K _=>F K) r:=by
  obtain ⟨n,hn⟩:=h
  exact ⟨n,fun K k hK hk=>hn K hK⟩
theorem Ab.bind {F:Nat→Option α} {G:Nat→α→Option β} {a:α} {r:β} (h:Ab F a) (g:Ab (fun K=>G K a) r):Ab (fun K=>(F K).bind (G K)) r:=by
  obtain ⟨n,hn⟩:=h
  obtain ⟨m,hm⟩:=g
  exact ⟨n+m,fun K hK=>by show (F K).bind (G K)=some r; rw [hn K (by omega)]; exact hm K (by omega)⟩
theorem Ab.Ed {F:Nat→Option (α × β)} {G:Nat→α→β→Option γ} {a:α} {b:β} {r:γ} (h:Ab F (a,b)) (g:Ab (fun K=>G K a b) r):Ab (fun K=>Go.Proofs.YtjopfecenllmgaaGreatDoor.Ed (F K) (G K)) r:=by
  obtain ⟨n,hn⟩:=h
  obtain ⟨m,hm⟩:=g
  exact ⟨n+m,fun K hK=>by show Go.Proofs.YtjopfecenllmgaaGreatDoor.Ed (F K) (G K)=some r; rw [hn K (by omega)]; exact hm K (by omega)⟩
theorem Ab.M8 {F:Nat→Option (α × β × γ)} {G:Nat→α→β→γ→Option δ} {a:α} {b:β} {c:γ} {r:δ} (h:Ab F (a,b,c)) (g:Ab (fun K=>G K a b c) r):Ab (fun K=>Go.Proofs.YtjopfecenllmgaaGreatDoor.M8 (F K) (G K)) r:=by
  obtain ⟨n,hn⟩:=h
  obtain ⟨m,hm⟩:=g
  exact ⟨n+m,fun K hK=>by show Go.Proofs.YtjopfecenllmgaaGreatDoor.M8 (F K) (G K)=some r; rw [hn K (by omega)]; exact hm K (by omega)⟩
theorem Ac.bind {F:Nat→Nat→Option α} {G:Nat→Nat→α→Option β} {a:α} {r:β} (h:Ac F a) (g:Ac (fun K k=>G K k a) r):Ac (fun K k=>(F K k).bind (G K k)) r:=by
  obtain ⟨n,hn⟩:=h
  obtain ⟨m,hm⟩:=g
  exact ⟨n+m,fun K k hK hk=>by show (F K k).bind (G K k)=some r; rw [hn K k (by omega) (by omega)]; exact hm K k (by omega) (by omega)⟩
theorem Ac.Ed {F:Nat→Nat→Option (α × β)} {G:Nat→Nat→α→β→Option γ} {a:α} {b:β} {r:γ} (h:Ac F (a,b)) (g:Ac (fun K k=>G K k a b) r):Ac (fun K k=>Go.Proofs.YtjopfecenllmgaaGreatDoor.Ed (F K k) (G K k)) r:=by
  obtain ⟨n,hn⟩:=h
  obtain ⟨m,hm⟩:=g
  exact ⟨n+m,fun K k hK hk=>by show Go.Proofs.YtjopfecenllmgaaGreatDoor.Ed (F K k) (G K k)=some r; rw [hn K k (by omega) (by omega)]; exact hm K k (by omega) (by omega)⟩
theorem Ab.get {F:Nat→Option α} {r:α} (h:Ab F r):∃ K,F K=some r:=by
  obtain ⟨n,hn⟩:=h
  exact ⟨n,hn n (Nat.le_refl _)⟩
end
theorem Ce {j:Nat} (h:j<4611686018427387904):w64 ((j:Int)+1)=((j+1:Nat):Int):=by rw [Ip (by omega) (by omega)]; omega
theorem qY {j:Nat} (h:j<4611686018427387904):w64 (j:Int)=(j:Int):=Ip (by omega) (by omega)
theorem F5 {α β:Type} (x:β) (f:β→Option α):bnd x f=f x:=rfl
theorem Sd {xs:List Ah} (hn:xs.length≤2000000):∀ (m i:Nat) (out:List Ah),xs.length - i=m→i≤xs.length→out.length=xs.length→(∀ j,j<i→out[j]?=xs[j]?) →
    Ac (fun K k=>Ea.l1 K k xs out (i:Int)) xs
  | 0,i,out,hm,hi,hl,ho=>by
    have he:out=xs:=by
      apply List.ext_getElem?
      intro j
      by_cases hj:j<i
      · exact ho j hj
      · rw [List.getElem?_eq_none (by omega),List.getElem?_eq_none (by omega)]
    refine Ac.succ (Ac.congr (G:=fun _ _=>some xs) (fun K k=>?_) (Ac.const _))
    rw [Ea.l1,if_neg (by omega),he]
  | m+1,i,out,hm,hi,hl,ho=>by
    have hlt:i<xs.length:=by omega
    have ih:=Sd hn m (i+1) (out.set i xs[i]) (by omega) (by omega) (by rw [List.length_set]; exact hl) (fun j hj=>by
      by_cases hij:i=j
      · subst hij; rw [List.getElem?_set_self (by omega),List.getElem?_eq_getElem hlt]
      · rw [List.getElem?_set_ne hij]; exact ho j (by omega))
    refine Ac.succ (Ac.congr (fun K k=>?_) ih)
    rw [Ea.l1,if_pos (by omega),if_pos (by omega),F5]
    simp only [Kz.f,gZ,Option.bind_some]
    rw [if_pos (by omega),Int.toNat_natCast,Ce (by omega),List.getD_eq_getElem?_getD,List.getElem?_eq_getElem hlt]
    rfl
theorem dM {xs:List Ah} (hn:xs.length≤2000000):Ab (fun K=>Ea.f K xs) xs:=by
  refine Ab.congr (fun K=>?_) (Sd hn xs.length 0 (List.replicate xs.length Ar) (by omega) (by omega) (by simp) (fun j hj=>by omega)).I5
  rw [Ea.f,if_pos (by omega),if_pos (by omega),Int.toNat_natCast]
  rfl
theorem jD {xs:List Ah} (hn:xs.length≤2000000) (c:Int):Ab (fun K=>Lg.f K xs c) (xs,c):=(dM hn).bind (Ab.const _)
theorem Sz {xs:List Ah} (hn:xs.length≤2000000):∀ (m i:Nat),xs.length - i=m→Ac (fun K k=>Em.l1 K k xs xs (i:Int)) true
  | 0,i,hm=>by
    refine Ac.succ (Ac.congr (G:=fun _ _=>some true) (fun K k=>?_) (Ac.const _))
    rw [Em.l1,if_neg (by omega)]
  | m+1,i,hm=>by
    refine Ac.succ (Ac.congr (fun K k=>?_) (Sz hn m (i+1) (by omega)))
    rw [Em.l1,if_pos (by omega),if_pos (by omega),F5,if_pos (by omega),F5]
    simp only [K4.f,if_true,Option.bind_some]
    rw [Ce (by omega)]
theorem jS {xs:List Ah} (hn:xs.length≤2000000) (c:Int):Ab (fun K=>Lr.f K xs c xs c) true:=by
  refine Ab.bind (a:=true) (Ab.congr (fun K=>?_) (Sz hn xs.length 0 (by omega)).I5) (Ab.congr (G:=fun _=>some true) (fun K=>by simp) (Ab.const _))
  rw [Em.f,if_pos rfl]
  rfl
theorem Ab.pos {α:Type} {p:Prop} [Decidable p] {F G:Nat→Option α} {r:α} (hp:p) (h:Ab F r):Ab (fun K=>if p then F K else G K) r:=Ab.congr (fun K=>if_pos hp) h
theorem Ab.neg {α:Type} {p:Prop} [Decidable p] {F G:Nat→Option α} {r:α} (hp:¬ p) (h:Ab G r):Ab (fun K=>if p then F K else G K) r:=Ab.congr (fun K=>if_neg hp) h
theorem Ac.pos {α:Type} {p:Prop} [Decidable p] {F G:Nat→Nat→Option α} {r:α} (hp:p) (h:Ac F r):Ac (fun K k=>if p then F K k else G K k) r:=Ac.congr (fun K k=>if_pos hp) h
theorem Ac.neg {α:Type} {p:Prop} [Decidable p] {F G:Nat→Nat→Option α} {r:α} (hp:¬ p) (h:Ac G r):Ac (fun K k=>if p then F K k else G K k) r:=Ac.congr (fun K k=>if_neg hp) h
theorem Xa {xs:List Br} (hn:xs.length≤2000000):∀ (m i:Nat) (out:List Br),xs.length - i=m→i≤xs.length→out.length=xs.length→(∀ j,j<i→out[j]?=xs[j]?) →
    Ac (fun K k=>G5.l1 K k xs out (i:Int)) xs
  | 0,i,out,hm,hi,hl,ho=>by
    have he:out=xs:=by
      apply List.ext_getElem?
      intro j
      by_cases hj:j<i
      · exact ho j hj
      · rw [List.getElem?_eq_none (by omega),List.getElem?_eq_none (by omega)]
    refine Ac.succ (Ac.congr (G:=fun _ _=>some xs) (fun K k=>?_) (Ac.const _))
    rw [G5.l1,if_neg (by omega),he]
  | m+1,i,out,hm,hi,hl,ho=>by
    have hlt:i<xs.length:=by omega
    have ih:=Xa hn m (i+1) (out.set i xs[i]) (by omega) (by omega) (by rw [List.length_set]; exact hl) (fun j hj=>by
      by_cases hij:i=j
      · subst hij; rw [List.getElem?_set_self (by omega),List.getElem?_eq_getElem hlt]
      · rw [List.getElem?_set_ne hij]; exact ho j (by omega))
    refine Ac.succ (Ac.congr (fun K k=>?_) ih)
    rw [G5.l1,if_pos (by omega),if_pos (by omega)]
    try simp only [Nn.f,Ed,Option.bind_some,F5]
    rw [if_pos (by omega),Int.toNat_natCast,Ce (by omega),List.getD_eq_getElem?_getD,List.getElem?_eq_getElem hlt]
    rfl
theorem pO {xs:List Br} (hn:xs.length≤2000000):Ab (fun K=>G5.f K xs) xs:=by
  refine Ab.congr (fun K=>?_) (Xa hn xs.length 0 (List.replicate xs.length Md) (by omega) (by omega) (by simp) (fun j hj=>by omega)).I5
  rw [G5.f,if_pos (by omega),if_pos (by omega),Int.toNat_natCast]
  rfl
theorem Wm {xs:List Cc} (hn:xs.length≤2000000):∀ (m i:Nat) (out:List Cc),xs.length - i=m→i≤xs.length→out.length=xs.length→(∀ j,j<i→out[j]?=xs[j]?) →
    Ac (fun K k=>Gx.l1 K k xs out (i:Int)) xs
  | 0,i,out,hm,hi,hl,ho=>by
    have he:out=xs:=by
      apply List.ext_getElem?
      intro j
      by_cases hj:j<i
      · exact ho j hj
      · rw [List.getElem?_eq_none (by omega),List.getElem?_eq_none (by omega)]
    refine Ac.succ (Ac.congr (G:=fun _ _=>some xs) (fun K k=>?_) (Ac.const _))
    rw [Gx.l1,if_neg (by omega),he]
  | m+1,i,out,hm,hi,hl,ho=>by
    have hlt:i<xs.length:=by omega
    have ih:=Wm hn m (i+1) (out.set i xs[i]) (by omega) (by omega) (by rw [List.length_set]; exact hl) (fun j hj=>by
      by_cases hij:i=j
      · subst hij; rw [List.getElem?_set_self (by omega),List.getElem?_eq_getElem hlt]
      · rw [List.getElem?_set_ne hij]; exact ho j (by omega))
    refine Ac.succ (Ac.congr (fun K k=>?_) ih)
    rw [Gx.l1,if_pos (by omega),if_pos (by omega)]
    try simp only [Nl.f,M8,Option.bind_some,F5]
    rw [if_pos (by omega),Int.toNat_natCast,Ce (by omega),List.getD_eq_getElem?_getD,List.getElem?_eq_getElem hlt]
    rfl
theorem pU {xs:List Cc} (hn:xs.length≤2000000):Ab (fun K=>Gx.f K xs) xs:=by
  refine Ab.congr (fun K=>?_) (Wm hn xs.length 0 (List.replicate xs.length Io) (by omega) (by omega) (by simp) (fun j hj=>by omega)).I5
  rw [Gx.f,if_pos (by omega),if_pos (by omega),Int.toNat_natCast]
  rfl
theorem We {xs:List Int} (hn:xs.length≤2000000):∀ (m i:Nat) (out:List Int),xs.length - i=m→i≤xs.length→out.length=xs.length→(∀ j,j<i→out[j]?=xs[j]?) →
    Ac (fun K k=>En.l1 K k xs out (i:Int)) xs
  | 0,i,out,hm,hi,hl,ho=>by
    have he:out=xs:=by
      apply List.ext_getElem?
      intro j
      by_cases hj:j<i
      · exact ho j hj
      · rw [List.getElem?_eq_none (by omega),List.getElem?_eq_none (by omega)]
    refine Ac.succ (Ac.congr (G:=fun _ _=>some xs) (fun K k=>?_) (Ac.const _))
    rw [En.l1,if_neg (by omega),he]
  | m+1,i,out,hm,hi,hl,ho=>by
    have hlt:i<xs.length:=by omega
    have ih:=We hn m (i+1) (out.set i xs[i]) (by omega) (by omega) (by rw [List.length_set]; exact hl) (fun j hj=>by
      by_cases hij:i=j
      · subst hij; rw [List.getElem?_set_self (by omega),List.getElem?_eq_getElem hlt]
      · rw [List.getElem?_set_ne hij]; exact ho j (by omega))
    refine Ac.succ (Ac.congr (fun K k=>?_) ih)
    rw [En.l1,if_pos (by omega),if_pos (by omega)]
    try simp only [Option.bind_some,F5]
    rw [if_pos (by omega),Int.toNat_natCast,Ce (by omega),List.getD_eq_getElem?_getD,List.getElem?_eq_getElem hlt]
    rfl
theorem Wx {xs:List Int} (hn:xs.length≤2000000):Ab (fun K=>En.f K xs) xs:=by
  refine Ab.congr (fun K=>?_) (We hn xs.length 0 (List.replicate xs.length 0) (by omega) (by omega) (by simp) (fun j hj=>by omega)).I5
  rw [En.f,if_pos (by omega),if_pos (by omega),Int.toNat_natCast]
  rfl
theorem Yg {xs:List Br} (hn:xs.length≤2000000):∀ (m i:Nat),xs.length - i=m→Ac (fun K k=>Gz.l1 K k xs xs (i:Int)) true
  | 0,i,hm=>by
    refine Ac.succ (Ac.congr (G:=fun _ _=>some true) (fun K k=>?_) (Ac.const _))
    rw [Gz.l1,if_neg (by omega)]
  | m+1,i,hm=>by
    refine Ac.succ (Ac.congr (fun K k=>?_) (Yg hn m (i+1) (by omega)))
    rw [Gz.l1,if_pos (by omega),if_pos (by omega),F5,if_pos (by omega),F5]
    simp only [Nh.f,if_true,Option.bind_some]
    rw [Ce (by omega)]
theorem rU {xs:List Br} (hn:xs.length≤2000000):Ab (fun K=>Gz.f K xs xs) true:=by
  refine Ab.congr (fun K=>?_) (Yg hn xs.length 0 (by omega)).I5
  rw [Gz.f,if_pos rfl]
  rfl
theorem X6 {xs:List Cc} (hn:xs.length≤2000000):∀ (m i:Nat),xs.length - i=m→Ac (fun K k=>Gv.l1 K k xs xs (i:Int)) true
  | 0,i,hm=>by
    refine Ac.succ (Ac.congr (G:=fun _ _=>some true) (fun K k=>?_) (Ac.const _))
    rw [Gv.l1,if_neg (by omega)]
  | m+1,i,hm=>by
    refine Ac.succ (Ac.congr (fun K k=>?_) (X6 hn m (i+1) (by omega)))
    rw [Gv.l1,if_pos (by omega),if_pos (by omega),F5,if_pos (by omega),F5]
    simp only [Ng.f,if_true,Option.bind_some]
    rw [Ce (by omega)]
theorem sG {xs:List Cc} (hn:xs.length≤2000000):Ab (fun K=>Gv.f K xs xs) true:=by
  refine Ab.congr (fun K=>?_) (X6 hn xs.length 0 (by omega)).I5
  rw [Gv.f,if_pos rfl]
  rfl
theorem Vw {xs:List Int} (hn:xs.length≤2000000):∀ (m i:Nat),xs.length - i=m→Ac (fun K k=>Eo.l1 K k xs xs (i:Int)) true
  | 0,i,hm=>by
    refine Ac.succ (Ac.congr (G:=fun _ _=>some true) (fun K k=>?_) (Ac.const _))
    rw [Eo.l1,if_neg (by omega)]
  | m+1,i,hm=>by
    refine Ac.succ (Ac.congr (fun K k=>?_) (Vw hn m (i+1) (by omega)))
    rw [Eo.l1,if_pos (by omega),if_pos (by omega),if_pos (by omega),if_pos rfl]
    skip
    rw [Ce (by omega)]
theorem Xy {xs:List Int} (hn:xs.length≤2000000):Ab (fun K=>Eo.f K xs xs) true:=by
  refine Ab.congr (fun K=>?_) (Vw hn xs.length 0 (by omega)).I5
  rw [Eo.f,if_pos rfl]
  rfl
theorem V3 {xs:List (List Br)} (hn:xs.length≤2000000) (hr:∀ i,i<xs.length→(xs.getD i []).length≤2000000):∀ (m i:Nat) (out:List (List Br)),xs.length - i=m→i≤xs.length→out.length=xs.length→(∀ j,j<i→out[j]?=xs[j]?) →
    Ac (fun K k=>Fx.l1 K k xs out (i:Int)) xs
  | 0,i,out,hm,hi,hl,ho=>by
    have he:out=xs:=by
      apply List.ext_getElem?
      intro j
      by_cases hj:j<i
      · exact ho j hj
      · rw [List.getElem?_eq_none (by omega),List.getElem?_eq_none (by omega)]
    refine Ac.succ (Ac.congr (G:=fun _ _=>some xs) (fun K k=>?_) (Ac.const _))
    rw [Fx.l1,if_neg (by omega),he]
  | m+1,i,out,hm,hi,hl,ho=>by
    have hlt:i<xs.length:=by omega
    have hg:xs.getD i []=xs[i]:=by rw [List.getD_eq_getElem?_getD,List.getElem?_eq_getElem hlt]; rfl
    have ih:=V3 hn hr m (i+1) (out.set i xs[i]) (by omega) (by omega) (by rw [List.length_set]; exact hl) (fun j hj=>by
      by_cases hij:i=j
      · subst hij; rw [List.getElem?_set_self (by omega),List.getElem?_eq_getElem hlt]
      · rw [List.getElem?_set_ne hij]; exact ho j (by omega))
    have hb:=Ac.bind (G:=fun K k t=>if 0≤(i:Int)∧(i:Int)<(out.length:Int) then Fx.l1 K k xs (out.set i t) (w64 ((i:Int)+1)) else none) (pO (hr i hlt)).two (r:=xs) (Ac.pos (by omega) (by rw [hg,Ce (by omega)]; exact ih))
    refine Ac.succ (Ac.congr (fun K k=>?_) hb)
    rw [Fx.l1,if_pos (by omega),if_pos (by omega),Int.toNat_natCast]
theorem lL {xs:List (List Br)} (hn:xs.length≤2000000) (hr:∀ i,i<xs.length→(xs.getD i []).length≤2000000):Ab (fun K=>Fx.f K xs) xs:=by
  refine Ab.congr (fun K=>?_) (V3 hn hr xs.length 0 (List.replicate xs.length []) (by omega) (by omega) (by simp) (fun j hj=>by omega)).I5
  rw [Fx.f,if_pos (by omega),if_pos (by omega),Int.toNat_natCast]
  rfl
theorem V7 {xs:List (List Br)} (hn:xs.length≤2000000) (hr:∀ i,i<xs.length→(xs.getD i []).length≤2000000):∀ (m i:Nat),xs.length - i=m→Ac (fun K k=>Fy.l1 K k xs xs (i:Int)) true
  | 0,i,hm=>by
    refine Ac.succ (Ac.congr (G:=fun _ _=>some true) (fun K k=>?_) (Ac.const _))
    rw [Fy.l1,if_neg (by omega)]
  | m+1,i,hm=>by
    have hb:=Ac.bind (G:=fun K k t=>if t=true then Fy.l1 K k xs xs (w64 ((i:Int)+1)) else some false) (rU (hr i (by omega))).two (r:=true) (Ac.pos rfl (by rw [Ce (by omega)]; exact V7 hn hr m (i+1) (by omega)))
    refine Ac.succ (Ac.congr (fun K k=>?_) hb)
    rw [Fy.l1,if_pos (by omega),if_pos (by omega),if_pos (by omega),Int.toNat_natCast]
theorem nG {xs:List (List Br)} (hn:xs.length≤2000000) (hr:∀ i,i<xs.length→(xs.getD i []).length≤2000000):Ab (fun K=>Fy.f K xs xs) true:=by
  refine Ab.congr (fun K=>?_) (V7 hn hr xs.length 0 (by omega)).I5
  rw [Fy.f,if_pos rfl]
  rfl
theorem Pt {F:Nat→Option Int} {G:Nat→Int→Option Int} {P Q:Int→Prop} (h:∃ r,Ab F r∧(r<0∨P r)) (g:∀ r,P r→¬ r<0→∃ s,Ab (fun K=>G K r) s∧(s<0∨Q s)) :
    ∃ r,Ab (fun K=>(F K).bind fun t=>if t<0 then some (-1) else G K t) r∧(r<0∨Q r):=by
  obtain ⟨r,t,c⟩:=h
  by_cases hr:r<0
  · exact ⟨-1,Ab.bind t (Ab.pos hr (Ab.const _)),.inl (by omega)⟩
  · obtain ⟨s,t2,c2⟩:=g r (by rcases c with c | c; exact absurd c hr; exact c) hr
    exact ⟨s,Ab.bind t (Ab.neg hr t2),c2⟩
def K7 (n:Nat) (P:Nat→Bool):Bool:=(List.range n).all P
theorem Tg {n:Nat} {P:Nat→Bool} (h:∀ j,j<n→P j=true):K7 n P=true:=by
  unfold K7; rw [List.all_eq_true]; intro x hx; exact h x (List.mem_range.1 hx)
theorem Wq {n:Nat} {P:Nat→Bool} (h:∃ j,j<n∧P j=false):K7 n P=false:=by
  obtain ⟨j,h1,h2⟩:=h
  unfold K7; rw [List.all_eq_false]; exact ⟨j,List.mem_range.2 h1,by rw [h2]; decide⟩
theorem Tc {n:Nat} {P:Nat→Bool} (h:K7 n P=true) {j:Nat} (hj:j<n):P j=true:=by
  unfold K7 at h; exact List.all_eq_true.1 h j (List.mem_range.2 hj)
theorem fA {n:Nat} {P Q:Nat→Bool} (h:∀ j,j<n→P j=Q j):K7 n P=K7 n Q:=by
  cases hq:K7 n Q with
  | true=>exact Tg fun j hj=>(h j hj).trans (Tc hq hj)
  | false =>
    unfold K7 at hq; rw [List.all_eq_false] at hq
    obtain ⟨j,hj,hn⟩:=hq
    exact Wq ⟨j,List.mem_range.1 hj,by rw [h j (List.mem_range.1 hj)]; exact Bool.eq_false_iff.2 hn⟩
section
variable {α:Type} {l:Nat→Nat→Nat→Option α} {n:Nat} {P:Nat→Bool} {r:α} {N:α→Prop}
theorem Zq (go:∀ i,i<n→P i=true→∀ v,Ac (fun K k=>l K k (i+1)) v→Ac (fun K k=>l K k i) v)
    (stop:∀ i,i<n→P i=false→∃ v,N v∧Ac (fun K k=>l K k i) v) (fin:Ac (fun K k=>l K k n) r) :
    ∀ m i,n - i=m→i≤n→((∀ j,i≤j→j<n→P j=true)∧Ac (fun K k=>l K k i) r)∨((∃ j,j<n∧P j=false)∧∃ v,N v∧Ac (fun K k=>l K k i) v)
  | 0,i,hm,hi=>by
    obtain rfl:i=n:=by omega
    exact .inl ⟨fun j h1 h2=>by omega,fin⟩
  | m+1,i,hm,hi=>by
    cases hp:P i with
    | false=>exact .inr ⟨⟨i,by omega,hp⟩,stop i (by omega) hp⟩
    | true =>
      rcases Zq go stop fin m (i+1) (by omega) (by omega) with ⟨h1,h2⟩ | ⟨h1,v,h2,h3⟩
      · refine .inl ⟨fun j hj hlt=>?_,go i (by omega) hp _ h2⟩
        by_cases e:j=i
        · subst e; exact hp
        · exact h1 j (by omega) hlt
      · exact .inr ⟨h1,v,h2,go i (by omega) hp _ h3⟩
theorem uK (go:∀ i,i<n→P i=true→∀ v,Ac (fun K k=>l K k (i+1)) v→Ac (fun K k=>l K k i) v)
    (stop:∀ i,i<n→P i=false→∃ v,N v∧Ac (fun K k=>l K k i) v) (fin:Ac (fun K k=>l K k n) r) :
    (K7 n P=true∧Ac (fun K k=>l K k 0) r)∨(K7 n P=false∧∃ v,N v∧Ac (fun K k=>l K k 0) v):=by
  rcases Zq go stop fin n 0 (by omega) (by omega) with ⟨h1,h2⟩ | ⟨h1,h2⟩
  · exact .inl ⟨Tg fun j hj=>h1 j (Nat.zero_le _) hj,h2⟩
  · exact .inr ⟨Wq h1,h2⟩
end
theorem Nc {l:Nat→Nat→Nat→Option Bool} {n:Nat} {P:Nat→Bool} {r:Bool} (go:∀ i,i<n→P i=true→∀ v,Ac (fun K k=>l K k (i+1)) v→Ac (fun K k=>l K k i) v)
    (stop:∀ i,i<n→P i=false→Ac (fun K k=>l K k i) false) (fin:Ac (fun K k=>l K k n) r):Ac (fun K k=>l K k 0) (K7 n P && r):=by
  rcases uK (N:=fun v=>v=false) go (fun i h1 h2=>⟨false,rfl,stop i h1 h2⟩) fin with ⟨h1,h2⟩ | ⟨h1,v,rfl,h2⟩
  · rw [h1]; exact h2
  · rw [h1]; exact h2
theorem Q0 {l:Nat→Nat→Nat→Option Int} {n:Nat} {P:Nat→Bool} (go:∀ i,i<n→P i=true→∀ v,Ac (fun K k=>l K k (i+1)) v→Ac (fun K k=>l K k i) v)
    (stop:∀ i,i<n→P i=false→Ac (fun K k=>l K k i) (i:Int)) (fin:Ac (fun K k=>l K k n) (-1)):∃ v:Int,Ac (fun K k=>l K k 0) v∧decide (0≤v)=!K7 n P:=by
  rcases uK (N:=fun v=>0≤v) go (fun i h1 h2=>⟨(i:Int),Int.natCast_nonneg i,stop i h1 h2⟩) fin with ⟨h1,h2⟩ | ⟨h1,v,h3,h2⟩
  · exact ⟨-1,h2,by rw [h1]; rfl⟩
  · exact ⟨v,h2,by rw [h1,decide_eq_true h3]; rfl⟩
theorem Ac.of {α:Type} {F:Nat→Nat→Option α} {r:α} (h:∀ K k,F K (k+1)=some r):Ac F r:=Ac.succ (Ac.congr (G:=fun _ _=>some r) h (Ac.const _))
theorem Ac.step {α:Type} {F G:Nat→Nat→Option α} {r:α} (h:∀ K k,F K (k+1)=G K k) (g:Ac G r):Ac F r:=Ac.succ (Ac.congr h g)
theorem Vm (v lo hi:Int):Ef.f v lo hi=some (decide (lo≤v∧v≤hi)):=by
  unfold Ef.f
  by_cases h:lo≤v <;> simp [h]
theorem fO (v lo hi:Int):J9.f v lo hi=some (decide (lo≤v∧v≤hi)):=by
  unfold J9.f
  by_cases h:lo≤v <;> simp [h]
theorem Qh (v lo hi:Int):Cu.f v lo hi=some (decide (lo≤v∧v≤hi)):=by
  unfold Cu.f
  by_cases h:lo≤v <;> simp [h]
theorem mE (s:ByteArray) {i:Nat} (h:i<s.size):Yo s i=((s.get! i).toNat:Int):=by
  unfold Yo
  have h':i<s.data.size:=h
  have e:s.get! i=s.data[i]!:=rfl
  rw [e,List.getD_eq_getElem?_getD,Array.getElem?_toList,getElem?_pos s.data i h',getElem!_pos s.data i h']
  rfl
theorem jM {s:ByteArray} {i:Nat} (h:(s.get! i).toNat<128):Utf8.decode s i=((s.get! i).toNat,1):=by
  unfold Utf8.decode
  simp only [Nat.add_zero]
  rw [if_pos h]
theorem jT {s:ByteArray} {i:Nat} (h:128≤(s.get! i).toNat):128≤(Utf8.decode s i).1:=by
  unfold Utf8.decode
  simp only [Nat.add_zero,Utf8.runeError]
  rw [if_neg (by omega)]
  repeat' split
  all_goals first | (simp_all; done) | (simp_all; omega) | (simp only; omega)
def Py (s:ByteArray) (i:Nat):Bool:=decide (97≤Yo s i∧Yo s i≤122)
theorem Yt {s:ByteArray} (hs:s.size≤2000000):Ab (fun K=>Fw.f K s) (K7 s.size (Py s) && decide (1≤s.size∧s.size≤8)):=by
  refine (Nc (l:=fun K k i=>Fw.l1 K k s (i:Int)) (fun i hi hp v hv=>?_) (fun i hi hp=>?_) ?_).I5
  · have:=of_decide_eq_true hp
    refine Ac.step (fun K k=>?_) hv
    rw [Fw.l1,if_pos (by omega),if_pos (by omega),Int.toNat_natCast,if_neg (by omega),if_neg (by omega),Ce (by omega)]
  · have:=of_decide_eq_false hp
    refine Ac.of fun K k=>?_
    rw [Fw.l1,if_pos (by omega),if_pos (by omega),Int.toNat_natCast]
    by_cases h:Yo s i<97
    · rw [if_pos h]
    · rw [if_neg h,if_pos (by omega)]
  · refine Ac.of fun K k=>?_
    rw [Fw.l1,if_neg (by omega)]
    by_cases h:1≤s.size
    · rw [if_pos (by omega)]; congr 1; apply decide_eq_decide.2; omega
    · rw [if_neg (by omega)]; congr 1; symm; apply decide_eq_false; omega
theorem aV {s:ByteArray} {i:Nat} (hi:i<s.size):Hg.f ((Utf8.decode s i).1:Int)=some (!Py s i)∧(Py s i=true→(Utf8.decode s i).2=1):=by
  have e:=mE s hi
  have hf:∀ c:Int,Hg.f c=some (!decide (97≤c∧c≤122)):=fun c=>by
    unfold Hg.f
    by_cases h:c<97
    · rw [if_pos h,decide_eq_false (by omega)]; rfl
    · rw [if_neg h]; congr 1
      by_cases h2:122<c
      · rw [decide_eq_true h2,decide_eq_false (by omega)]; rfl
      · rw [decide_eq_false h2,decide_eq_true (by omega)]; rfl
  rw [hf]
  by_cases h:(s.get! i).toNat<128
  · rw [jM h]; unfold Py; rw [e]; exact ⟨rfl,fun _=>rfl⟩
  · have h2:=jT (s:=s) (i:=i) (by omega)
    unfold Py
    rw [e,decide_eq_false (by omega),decide_eq_false (by omega)]
    exact ⟨rfl,fun h=>by cases h⟩
theorem Zm {s:ByteArray} (hs:s.size≤2000000):Ab (fun K=>Hm.f K s) (K7 s.size (Py s) && decide (1≤s.size∧s.size≤8)):=by
  obtain ⟨v,t,e⟩:=Q0 (l:=fun K k i=>Cb.l1 K k s true i) (n:=s.size) (P:=Py s) (fun i hi hp v hv=>Ac.step (fun K k=>by
      rw [Cb.l1,if_pos hi,(aV hi).1,Option.bind_some,hp,if_neg (by decide),(aV hi).2 hp]) hv)
    (fun i hi hp=>Ac.of fun K k=>by rw [Cb.l1,if_pos hi,(aV hi).1,Option.bind_some,hp,if_pos (by decide)])
    (Ac.of fun K k=>by rw [Cb.l1,if_neg (Nat.lt_irrefl _)])
  have t1:Ab (fun K=>Dw.f K s) (!K7 s.size (Py s)):=by
    rw [← e]
    exact Ab.bind (F:=fun K=>Ei.f K s) (Ab.bind (F:=fun K=>Cb.f K s true) t.I5 (Ab.const _)) (Ab.const _)
  unfold Hm.f
  by_cases h1:1≤s.size
  · by_cases h2:s.size≤8
    · rw [decide_eq_true (show 1≤s.size∧s.size≤8 from ⟨h1,h2⟩),Bool.and_true]
      refine Ab.pos (by omega) (Ab.pos (by omega) (Ab.bind t1 ?_))
      rw [Bool.not_not]; exact Ab.const _
    · rw [decide_eq_false (by omega),Bool.and_false]
      exact Ab.pos (by omega) (Ab.neg (by omega) (Ab.const _))
  · rw [decide_eq_false (by omega),Bool.and_false]
    exact Ab.neg (by omega) (Ab.const _)
def fE (st n:Int):Bool:=decide (n≠0∧w64 (1 - st)≤n∧n≤w64 (st - 1))
theorem Vx (n st:Int):Ku.f n st=some (fE st n):=by
  unfold Ku.f fE
  by_cases h:n=0
  · rw [if_pos h,decide_eq_false (by omega)]
  · rw [if_neg h,Vm,Option.bind_some]; congr 1; apply decide_eq_decide.2; exact ⟨fun x=>⟨h,x⟩,fun x=>x.2⟩
theorem Vy (n st:Int):K6.f st n=some (fE st n):=by
  unfold K6.f fE
  by_cases h:n=0
  · rw [if_pos h,decide_eq_false (by omega)]
  · rw [if_neg h,Qh,Option.bind_some]; congr 1; apply decide_eq_decide.2; exact ⟨fun x=>⟨h,x⟩,fun x=>x.2⟩
theorem fM (st:Int) (wd:List Int) (hw:wd.length≤2000000):∃ b,Ab (fun K=>D6.f K st wd) b∧Ab (fun K=>Ih.f K st wd) b:=by
  have hs:Ac (fun K k=>D6.l1 K k st wd 0) (K7 wd.length (fun i=>fE st (wd.getD i 0)) && true) :=
    Nc (l:=fun K k i=>D6.l1 K k st wd (i:Int)) (fun i hi hp v hv=>Ac.step (fun K k=>by
        rw [D6.l1,if_pos (by omega),if_pos (by omega),Int.toNat_natCast,Vx,Option.bind_some,if_pos hp,Ce (by omega)]) hv)
      (fun i hi hp=>Ac.of fun K k=>by rw [D6.l1,if_pos (by omega),if_pos (by omega),Int.toNat_natCast,Vx,Option.bind_some,if_neg (by rw [hp]; decide)])
      (Ac.of fun K k=>by rw [D6.l1,if_neg (by omega)])
  obtain ⟨v,t,e⟩:=Q0 (l:=fun K k i=>Bo.l1 K k wd st wd (i:Int)) (n:=wd.length) (P:=fun i=>fE st (wd.getD i 0)) (fun i hi hp v hv=>Ac.step (fun K k=>by
      rw [Bo.l1,if_pos (by omega),if_pos (by omega),Int.toNat_natCast,Ha.f,Vy,Option.bind_some,Option.bind_some,if_neg (by rw [hp]; decide),Ce (by omega)]) hv)
    (fun i hi hp=>Ac.of fun K k=>by rw [Bo.l1,if_pos (by omega),if_pos (by omega),Int.toNat_natCast,Ha.f,Vy,Option.bind_some,Option.bind_some,if_pos (by rw [hp]; rfl)])
    (Ac.of fun K k=>by rw [Bo.l1,if_neg (by omega)])
  have t1:Ab (fun K=>Cx.f K wd st wd) (!K7 wd.length (fun i=>fE st (wd.getD i 0))):=by
    rw [← e]
    exact Ab.bind (F:=fun K=>Bo.f K wd st wd) t.I5 (Ab.const _)
  unfold D6.f Ih.f
  simp only [Vm,Qh,Option.bind_some]
  by_cases h1:1≤st∧st≤6
  · rw [decide_eq_true h1]
    by_cases h2:wd.length≤24
    · refine ⟨_,Ab.pos rfl (Ab.neg (by omega) hs.I5),Ab.pos rfl (Ab.pos (by omega) (Ab.bind t1 ?_))⟩
      rw [Bool.not_not,Bool.and_true]; exact Ab.const _
    · exact ⟨false,Ab.pos rfl (Ab.pos (by omega) (Ab.const _)),Ab.pos rfl (Ab.neg (by omega) (Ab.const _))⟩
  · rw [decide_eq_false h1]
    exact ⟨false,Ab.neg (by decide) (Ab.const _),Ab.neg (by decide) (Ab.const _)⟩
theorem Wv (a:ByteArray):seq a a=true:=by unfold seq; exact beq_self_eq_true _
theorem oI {t:ByteArray} (h:0<t.size):seq t ByteArray.empty=false:=by
  unfold seq
  rw [ByteArray.toList_eq,ByteArray.toList_eq]
  cases ht:t.data.toList with
  | nil=>exact absurd (show t.data.size=0 by rw [← Array.length_toList,ht]; rfl) (by have:t.data.size=t.size:=rfl; omega)
  | cons a l=>rfl
theorem Ua (n:Nat) (h:n≤7):∃ d:ByteArray,d.size≤20∧Ab (fun K=>Kt.f K (n:Int)) d:=by
  refine ⟨(Kt.f 1 (n:Int)).getD ByteArray.empty,?_,1,fun K hK=>?_⟩
  · match n,h with
    | 0,_ | 1,_ | 2,_ | 3,_ | 4,_ | 5,_ | 6,_ | 7,_=>exact of_decide_eq_true (by decide +kernel)
  · obtain ⟨k,rfl⟩:∃ k,K=k+1:=⟨K - 1,by omega⟩
    match n,h with
    | 0,_ | 1,_ | 2,_ | 3,_ | 4,_ | 5,_ | 6,_ | 7,_=>rfl
theorem Uq (kd:Int) (b:Bool) {v:Int} (h:(if b=true then (3:Int) else if kd=2 then 5 else if kd=3 then 0 else -1)=v):Ab (fun K=>Ff.j1 K K kd b) v :=
  (Ac.of (F:=fun K k=>Ff.j1 K k kd b) fun K k=>by
    show Ff.j1 K (k+1) kd b=some v
    rw [Ff.j1,← h]
    split
    · rfl
    · split
      · rfl
      · split <;> rfl).I5
theorem Xh (kd:Int) (b:Bool) {v:Int} (h:(if b=true then (4:Int) else if kd=2 then 6 else if kd=3 then 1 else 0)=v):Ab (fun K=>Gp.j1 K K kd b) v :=
  (Ac.of (F:=fun K k=>Gp.j1 K k kd b) fun K k=>by
    show Gp.j1 K (k+1) kd b=some v
    rw [Gp.j1,← h]
    split
    · rfl
    · split
      · rfl
      · split <;> rfl).I5
theorem jH (kd:Int):∃ m:Int,Ab (fun K=>Ff.f K kd) m∧Ab (fun K=>Gp.f K kd) (m+1)∧((1≤kd∧kd≤4∧0≤m∧m≤5)∨m = -1):=by
  unfold Ff.f Gp.f
  by_cases h1:kd=1
  · exact ⟨3,Ab.pos h1 (Uq _ _ (if_pos (decide_eq_true h1))),Ab.pos h1 (Xh _ _ (if_pos (decide_eq_true h1))),.inl (by omega)⟩
  by_cases h4:kd=4
  · exact ⟨3,Ab.neg h1 (Uq _ _ (if_pos (decide_eq_true h4))),Ab.neg h1 (Xh _ _ (if_pos (decide_eq_true h4))),.inl (by omega)⟩
  have hd:¬ decide (kd=4)=true:=by rw [decide_eq_true_eq]; exact h4
  by_cases h2:kd=2
  · exact ⟨5,Ab.neg h1 (Uq _ _ (by rw [if_neg hd,if_pos h2])),Ab.neg h1 (Xh _ _ (by rw [if_neg hd,if_pos h2]; rfl)),.inl (by omega)⟩
  by_cases h3:kd=3
  · exact ⟨0,Ab.neg h1 (Uq _ _ (by rw [if_neg hd,if_neg h2,if_pos h3])),Ab.neg h1 (Xh _ _ (by rw [if_neg hd,if_neg h2,if_pos h3]; rfl)),.inl (by omega)⟩
  exact ⟨-1,Ab.neg h1 (Uq _ _ (by rw [if_neg hd,if_neg h2,if_neg h3])),Ab.neg h1 (Xh _ _ (by rw [if_neg hd,if_neg h2,if_neg h3]; rfl)),.inr rfl⟩
theorem gM (j:Nat):(([(⟨#[50,51]⟩:ByteArray),(⟨#[51,50]⟩:ByteArray),(⟨#[49,52]⟩:ByteArray),(⟨#[52,49]⟩:ByteArray)]:List ByteArray).getD j ByteArray.empty).size≤2:=by
  match j with
  | 0 | 1 | 2 | 3=>exact Nat.le_refl 2
  | _+4=>exact Nat.zero_le 2
theorem oJ (a b:Nat):((⟨#[50,51,51,50,49,52,52,49]⟩:ByteArray).extract a b).size≤8:=by
  rw [ByteArray.size_extract]
  have:(⟨#[50,51,51,50,49,52,52,49]⟩:ByteArray).size=8:=rfl
  omega
theorem Pz:(⟨#[32]⟩:ByteArray).size=1:=rfl
theorem Za (kd tet ix:Int):∃ t t',Ab (fun K=>Kl.f K kd tet ix) t∧Ab (fun K=>Kk.f K kd tet ix) t'∧seq t ByteArray.empty=seq t' ByteArray.empty:=by
  obtain ⟨m,tm,ti,hm⟩:=jH kd
  unfold Kl.f Kk.f
  simp only [fO,Qh,Option.bind_some,Mh.f,Km.f]
  by_cases ht:0≤tet∧tet≤7
  rotate_left
  · rw [decide_eq_false ht]
    refine ⟨ByteArray.empty,ByteArray.empty,Ab.bind tm ?_,Ab.neg (by decide) (Ab.const _),rfl⟩
    by_cases hn:m<0
    · exact Ab.pos hn (Ab.const _)
    · exact Ab.neg hn (Ab.neg (by decide) (Ab.const _))
  rw [decide_eq_true ht]
  rcases hm with ⟨k1,k2,m0,m1⟩ | rfl
  rotate_left
  · refine ⟨ByteArray.empty,ByteArray.empty,Ab.bind tm (Ab.pos (by decide) (Ab.const _)),Ab.pos rfl (Ab.bind ti (Ab.neg ?_ (Ab.const _))),rfl⟩
    rw [decide_eq_true_eq]
    have:w64 ((-1:Int)+1 - 1) = -1:=by decide
    rw [this]; omega
  have em:w64 (m+1 - 1)=m:=by rw [Ip (by omega) (by omega)]; omega
  by_cases hi:0≤ix∧ix≤m
  rotate_left
  · exact ⟨ByteArray.empty,ByteArray.empty,Ab.bind tm (Ab.neg (by omega) (Ab.pos rfl (Ab.bind tm (Ab.neg (by rw [decide_eq_true_eq]; exact hi) (Ab.const _))))),Ab.pos rfl (Ab.bind ti (Ab.neg (by rw [decide_eq_true_eq,em]; exact hi) (Ab.const _))),rfl⟩
  have e1:w64 (kd - 1)=kd - 1:=Ip (by omega) (by omega)
  have e2:w64 (2 * kd)=2 * kd:=Ip (by omega) (by omega)
  have e3:w64 (2 * kd - 2)=2 * kd - 2:=Ip (by omega) (by omega)
  obtain ⟨n1,rfl⟩:∃ n:Nat,tet=n:=⟨tet.toNat,by omega⟩
  obtain ⟨n2,rfl⟩:∃ n:Nat,ix=n:=⟨ix.toNat,by omega⟩
  obtain ⟨d1,s1,t1⟩:=Ua n1 (by omega)
  obtain ⟨d2,s2,t2⟩:=Ua n2 (by omega)
  have z8:((⟨#[50,51,51,50,49,52,52,49]⟩:ByteArray).size:Int)=8:=rfl
  have zn:=gM (kd - 1).toNat
  have zc:=oJ (2 * kd - 2).toNat (2 * kd).toNat
  simp only [e1,e2,e3]
  refine ⟨_,_,Ab.bind tm (Ab.neg (by omega) (Ab.pos trivial (Ab.bind tm (Ab.pos (decide_eq_true hi) (Ab.pos ⟨by omega,by show kd - 1<4; omega⟩ (Ab.pos ?_ (Ab.pos ?_ (Ab.pos ?_ (Ab.pos ?_ (Ab.const _)))))))))),
    Ab.pos trivial (Ab.bind ti (Ab.pos (by rw [decide_eq_true_eq,em]; exact hi) (Ab.pos (by omega) (Ab.pos (by rw [z8]; omega) (Ab.pos ?_ (Ab.bind t1 (Ab.pos ?_ (Ab.pos ?_ (Ab.bind t2 (Ab.pos ?_ (Ab.const _))))))))))),?_⟩
  · rw [Pz]; omega
  · rw [ByteArray.size_append,strOfNums_size,Pz]; simp only [List.length_cons,List.length_nil]; omega
  · rw [ByteArray.size_append,ByteArray.size_append,strOfNums_size,Pz]; simp only [List.length_cons,List.length_nil]; omega
  · rw [ByteArray.size_append,ByteArray.size_append,ByteArray.size_append,strOfNums_size,strOfNums_size,Pz]; simp only [List.length_cons,List.length_nil]; omega
  · rw [Pz]; omega
  · rw [ByteArray.size_append,Pz]; omega
  · rw [ByteArray.size_append,ByteArray.size_append,Pz]; omega
  · rw [ByteArray.size_append,ByteArray.size_append,ByteArray.size_append,Pz]; omega
  · rw [oI (by simp only [ByteArray.size_append,Pz]; omega),oI (by simp only [ByteArray.size_append,Pz]; omega)]
theorem eX (cn ct:Int) (mv:List Cc) (tt pp:List Int) (h1:mv.length≤2000000) (h2:tt.length≤2000000) (h3:pp.length≤2000000):∃ b,Ab (fun K=>Bq.f K cn ct mv tt pp) b∧Ab (fun K=>Ig.f K cn ct mv tt pp) b:=by
  obtain ⟨PM,hPM⟩:∃ PM:Nat→Bool,∀ i,∃ t t',Ab (fun K=>Kl.f K (mv.getD i Io).Kind (mv.getD i Io).Tet (mv.getD i Io).Index) t∧Ab (fun K=>Kk.f K (mv.getD i Io).Kind (mv.getD i Io).Tet (mv.getD i Io).Index) t'∧seq t ByteArray.empty=!PM i∧seq t' ByteArray.empty=!PM i:=by
    refine ⟨fun i=>!seq (Classical.choose (Za (mv.getD i Io).Kind (mv.getD i Io).Tet (mv.getD i Io).Index)) ByteArray.empty,fun i=>?_⟩
    obtain ⟨t',a,b,c⟩:=Classical.choose_spec (Za (mv.getD i Io).Kind (mv.getD i Io).Tet (mv.getD i Io).Index)
    exact ⟨_,t',a,b,by rw [Bool.not_not],by rw [Bool.not_not]; exact c.symm⟩
  let PT:Nat→Bool:=fun i=>decide (0≤tt.getD i 0∧tt.getD i 0≤7)
  let PP:Nat→Bool:=fun i=>decide (0≤pp.getD i 0∧pp.getD i 0≤23)
  have valid:∀ p,I9.f p=some (decide (0≤p∧p≤23)):=fun p=>by
    unfold I9.f
    by_cases h:0≤p
    · rw [if_pos h]; congr 1; apply decide_eq_decide.2; omega
    · rw [if_neg h,decide_eq_false (by omega)]
  have s4:tt.length=pp.length→Ac (fun K k=>Bq.l4 K k ct mv tt pp 0) (K7 tt.length (fun i=>PT i && PP i) && (decide (ct=0) || decide (w64 ((mv.length:Int)+(tt.length:Int))=0))):=fun hl =>
    Nc (l:=fun K k i=>Bq.l4 K k ct mv tt pp (i:Int)) (fun i hi hp v hv=>Ac.step (fun K k=>by
        rw [Bool.and_eq_true] at hp
        rw [Bq.l4,if_pos (by omega),if_pos (by omega),Int.toNat_natCast,Vm,Option.bind_some,if_pos hp.1,if_pos (by omega),valid,Option.bind_some,if_pos hp.2,Ce (by omega)]) hv)
      (fun i hi hp=>Ac.of fun K k=>by
        rw [Bq.l4,if_pos (by omega),if_pos (by omega),Int.toNat_natCast,Vm,Option.bind_some]
        cases ha:PT i with
        | false=>rw [if_neg (by show ¬ PT i=true; rw [ha]; decide)]
        | true =>
          have hb:PP i=false:=by rw [ha] at hp; exact hp
          rw [if_pos ha,if_pos (by omega),valid,Option.bind_some,if_neg (by show ¬ PP i=true; rw [hb]; decide)])
      (Ac.of fun K k=>by
        rw [Bq.l4,if_neg (by omega)]
        by_cases h:ct=0
        · rw [if_pos h,decide_eq_true h]; rfl
        · rw [if_neg h,decide_eq_false h]; rfl)
  have s1:tt.length=pp.length→Ac (fun K k=>Bq.l1 K k ct mv tt pp 0) (K7 mv.length PM && (K7 tt.length (fun i=>PT i && PP i) && (decide (ct=0) || decide (w64 ((mv.length:Int)+(tt.length:Int))=0)))):=fun hl=>by
    refine Nc (l:=fun K k i=>Bq.l1 K k ct mv tt pp (i:Int)) (fun i hi hp v hv=>?_) (fun i hi hp=>?_) ?_
    · obtain ⟨t,t',a,_,c,_⟩:=hPM i
      refine Ac.step (fun K k=>?_) (Ac.bind (G:=fun K k t=>if seq t ByteArray.empty=true then some false else Bq.l1 K k ct mv tt pp (w64 ((i:Int)+1))) a.two (Ac.neg (by rw [c,hp]; decide) (by rw [Ce (by omega)]; exact hv)))
      rw [Bq.l1,if_pos (by omega),if_pos (by omega),Int.toNat_natCast,F5]
    · obtain ⟨t,t',a,_,c,_⟩:=hPM i
      refine Ac.step (fun K k=>?_) (Ac.bind (G:=fun K k t=>if seq t ByteArray.empty=true then some false else Bq.l1 K k ct mv tt pp (w64 ((i:Int)+1))) a.two (Ac.pos (by rw [c,hp]; rfl) (Ac.const _)))
      rw [Bq.l1,if_pos (by omega),if_pos (by omega),Int.toNat_natCast,F5]
    · refine Ac.step (fun K k=>?_) (s4 hl)
      rw [Bq.l1,if_neg (by omega)]
  obtain ⟨v1,t1,e1⟩:=Q0 (l:=fun K k i=>Bc.l1 K k mv (i:Int)) (n:=mv.length) (P:=PM) (fun i hi hp v hv=>by
      obtain ⟨t,t',_,a,_,c⟩:=hPM i
      have fn:Ab (fun K=>Jt.f K (mv.getD i Io).Kind (mv.getD i Io).Tet (mv.getD i Io).Index) (seq t' ByteArray.empty):=Ab.bind a (Ab.const _)
      refine Ac.step (fun K k=>?_) (Ac.bind (G:=fun K k b=>if b=true then some (i:Int) else Bc.l1 K k mv (w64 ((i:Int)+1))) fn.two (Ac.neg (by rw [c,hp]; decide) (by rw [Ce (by omega)]; exact hv)))
      rw [Bc.l1,if_pos (by omega),if_pos (by omega),Int.toNat_natCast,F5])
    (fun i hi hp=>by
      obtain ⟨t,t',_,a,_,c⟩:=hPM i
      have fn:Ab (fun K=>Jt.f K (mv.getD i Io).Kind (mv.getD i Io).Tet (mv.getD i Io).Index) (seq t' ByteArray.empty):=Ab.bind a (Ab.const _)
      refine Ac.step (fun K k=>?_) (Ac.bind (G:=fun K k b=>if b=true then some (i:Int) else Bc.l1 K k mv (w64 ((i:Int)+1))) fn.two (Ac.pos (by rw [c,hp]; rfl) (Ac.const _)))
      rw [Bc.l1,if_pos (by omega),if_pos (by omega),Int.toNat_natCast,F5])
    (Ac.of fun K k=>by rw [Bc.l1,if_neg (by omega)])
  obtain ⟨v2,t2,e2⟩:=Q0 (l:=fun K k i=>Bp.l1 K k tt (i:Int)) (n:=tt.length) (P:=PT) (fun i hi hp v hv=>Ac.step (fun K k=>by
      rw [Bp.l1,if_pos (by omega),if_pos (by omega),Int.toNat_natCast,Jq.f,Qh,Option.bind_some,Option.bind_some,if_neg (by show ¬ (!PT i)=true; rw [hp]; decide),Ce (by omega)]) hv)
    (fun i hi hp=>Ac.of fun K k=>by rw [Bp.l1,if_pos (by omega),if_pos (by omega),Int.toNat_natCast,Jq.f,Qh,Option.bind_some,Option.bind_some,if_pos (by show (!PT i)=true; rw [hp]; rfl)])
    (Ac.of fun K k=>by rw [Bp.l1,if_neg (by omega)])
  obtain ⟨v3,t3,e3⟩:=Q0 (l:=fun K k i=>Bn.l1 K k pp (i:Int)) (n:=pp.length) (P:=PP) (fun i hi hp v hv=>Ac.step (fun K k=>by
      rw [Bn.l1,if_pos (by omega),if_pos (by omega),Int.toNat_natCast,Jo.f,Jy.f,Qh,Option.bind_some,Option.bind_some,Option.bind_some,if_neg (by show ¬ (!PP i)=true; rw [hp]; decide),Ce (by omega)]) hv)
    (fun i hi hp=>Ac.of fun K k=>by rw [Bn.l1,if_pos (by omega),if_pos (by omega),Int.toNat_natCast,Jo.f,Jy.f,Qh,Option.bind_some,Option.bind_some,Option.bind_some,if_pos (by show (!PP i)=true; rw [hp]; rfl)])
    (Ac.of fun K k=>by rw [Bn.l1,if_neg (by omega)])
  have c1:Ab (fun K=>Bz.f K mv) (!K7 mv.length PM):=by
    rw [← e1]; exact Ab.bind (F:=fun K=>Bc.f K mv) t1.I5 (Ab.const _)
  have c2:Ab (fun K=>Cs.f K tt) (!K7 tt.length PT):=by
    rw [← e2]; exact Ab.bind (F:=fun K=>Bp.f K tt) t2.I5 (Ab.const _)
  have c3:Ab (fun K=>Cw.f K pp) (!K7 pp.length PP):=by
    rw [← e3]; exact Ab.bind (F:=fun K=>Bn.f K pp) t3.I5 (Ab.const _)
  unfold Bq.f Ig.f L6.f Mt.f
  simp only [Vm,Qh,Option.bind_some]
  by_cases hn:0≤cn∧cn≤4
  rotate_left
  · rw [decide_eq_false hn]; exact ⟨false,Ab.neg (by decide) (Ab.const _),Ab.neg (by decide) (Ab.const _)⟩
  by_cases ht:0≤ct∧ct≤4
  rotate_left
  · rw [decide_eq_true hn,decide_eq_false ht]; exact ⟨false,Ab.pos rfl (Ab.neg (by decide) (Ab.const _)),Ab.pos rfl (Ab.neg (by decide) (Ab.const _))⟩
  rw [decide_eq_true hn,decide_eq_true ht]
  by_cases h0:ct=0
  · -- the trait 0: the same tests in another order
    by_cases h40:40<mv.length
    · exact ⟨false,Ab.pos rfl (Ab.pos rfl (Ab.pos (by omega) (Ab.const _))),Ab.pos rfl (Ab.pos rfl (Ab.pos h0 (Ab.neg (by omega) (Ab.const _))))⟩
    by_cases hl:tt.length=pp.length
    rotate_left
    · refine ⟨false,Ab.pos rfl (Ab.pos rfl (Ab.neg (by omega) (Ab.neg (by omega) (Ab.const _)))),Ab.pos rfl (Ab.pos rfl (Ab.pos h0 (Ab.pos (by omega) (Ab.bind c1 ?_))))⟩
      cases K7 mv.length PM with
      | true=>exact Ab.neg (by decide) (Ab.neg (by omega) (Ab.const _))
      | false=>exact Ab.pos rfl (Ab.const _)
    by_cases h8:8<tt.length
    · refine ⟨false,Ab.pos rfl (Ab.pos rfl (Ab.neg (by omega) (Ab.pos (by omega) (Ab.pos (by omega) (Ab.const _))))),Ab.pos rfl (Ab.pos rfl (Ab.pos h0 (Ab.pos (by omega) (Ab.bind c1 ?_))))⟩
      cases K7 mv.length PM with
      | true=>exact Ab.neg (by decide) (Ab.pos (by omega) (Ab.neg (by omega) (Ab.const _)))
      | false=>exact Ab.pos rfl (Ab.const _)
    refine ⟨_,Ab.pos rfl (Ab.pos rfl (Ab.neg (by omega) (Ab.pos (by omega) (Ab.neg (by omega) (s1 hl).I5)))),Ab.pos rfl (Ab.pos rfl (Ab.pos h0 (Ab.pos (by omega) (Ab.bind c1 ?_))))⟩
    rw [decide_eq_true h0,Bool.true_or,Bool.and_true]
    cases hM:K7 mv.length PM with
    | false=>exact Ab.pos rfl (Ab.const _)
    | true =>
      refine Ab.neg (by decide) (Ab.pos (by omega) (Ab.pos (by omega) (Ab.bind c2 ?_)))
      rw [Bool.true_and]
      cases hT:K7 tt.length PT with
      | false =>
        have:K7 tt.length (fun i=>PT i && PP i)=false:=by
          cases hx:K7 tt.length (fun i=>PT i && PP i) with
          | false=>rfl
          | true =>
            have:=Tg (n:=tt.length) (P:=PT) fun j hj=>by have:=Tc hx hj; rw [Bool.and_eq_true] at this; exact this.1
            rw [hT] at this; cases this
        rw [this]; exact Ab.pos rfl (Ab.const _)
      | true =>
        refine Ab.neg (by decide) (Ab.bind c3 ?_)
        have:K7 tt.length (fun i=>PT i && PP i)=K7 pp.length PP:=by
          rw [← hl]; exact fA fun j hj=>by show (PT j && PP j)=PP j; rw [Tc hT hj,Bool.true_and]
        rw [this,Bool.not_not]; exact Ab.const _
  · -- any other trait: nothing but the name and the trait
    by_cases ha:mv.length=0∧tt.length=0∧pp.length=0
    · obtain ⟨a1,a2,a3⟩:=ha
      refine ⟨true,Ab.pos rfl (Ab.pos rfl (Ab.neg (by omega) (Ab.pos (by omega) (Ab.neg (by omega) ?_)))),Ab.pos rfl (Ab.pos rfl (Ab.neg h0 (Ab.pos (by omega) (Ab.pos (by omega) ?_))))⟩
      · have:=(s1 (by omega)).I5
        rw [a1,a2] at this
        have e:(K7 0 PM && (K7 0 (fun i=>PT i && PP i) && (decide (ct=0) || decide (w64 (((0:Nat):Int)+((0:Nat):Int))=0))))=true:=by rw [decide_eq_false h0]; rfl
        rw [e] at this; exact this
      · rw [decide_eq_true (show (pp.length:Int)=0 by omega)]; exact Ab.const _
    · have hI:Ab (fun K=>if (mv.length:Int)=0 then if (tt.length:Int)=0 then some (decide ((pp.length:Int)=0)) else some false else some false) false:=by
        by_cases a1:mv.length=0
        · by_cases a2:tt.length=0
          · have a3:¬ pp.length=0:=fun h=>ha ⟨a1,a2,h⟩
            refine Ab.pos (by omega) (Ab.pos (by omega) ?_)
            rw [decide_eq_false (show ¬ (pp.length:Int)=0 by omega)]; exact Ab.const _
          · exact Ab.pos (by omega) (Ab.neg (by omega) (Ab.const _))
        · exact Ab.neg (by omega) (Ab.const _)
      refine ⟨false,Ab.pos rfl (Ab.pos rfl ?_),Ab.pos rfl (Ab.pos rfl (Ab.neg h0 hI))⟩
      by_cases h40:40<mv.length
      · exact Ab.pos (by omega) (Ab.const _)
      refine Ab.neg (by omega) ?_
      by_cases hl:tt.length=pp.length
      rotate_left
      · exact Ab.neg (by omega) (Ab.const _)
      refine Ab.pos (by omega) ?_
      by_cases h8:8<tt.length
      · exact Ab.pos (by omega) (Ab.const _)
      refine Ab.neg (by omega) ?_
      have:=(s1 hl).I5
      rw [decide_eq_false h0,Ip (by omega) (by omega),decide_eq_false (show ¬ ((mv.length:Int)+(tt.length:Int)=0) by omega),Bool.or_false,Bool.and_false,Bool.and_false] at this
      exact this
end Go.Proofs.YtjopfecenllmgaaGreatDoor
set_option maxRecDepth 100000
set_option maxHeartbeats 4000000
namespace Go.Proofs.YtjopfecenllmgaaGreatDoor
open Go.RowKit
def atP (p k:Nat):Int:=(Mk.f 40 (p:Int) (k:Int)).getD 0
def Ws (p:Nat):Int:=(He.f 40 (p:Int)).getD 0
theorem sJ {p:Nat} (h:p<24):p=0∨p=1∨p=2∨p=3∨p=4∨p=5∨p=6∨p=7∨p=8∨p=9∨p=10∨p=11∨p=12∨p=13∨p=14∨p=15∨p=16∨p=17∨p=18∨p=19∨p=20∨p=21∨p=22∨p=23:=by omega
theorem is4 {k:Nat} (h:k<4):k=0∨k=1∨k=2∨k=3:=by omega
theorem pY {p k:Nat} (hp:p<24) (hk:k<4):(fun K=>Mk.f (K+40) (p:Int) (k:Int))=fun _=>some (atP p k):=by
  rcases sJ hp with rfl | rfl | rfl | rfl | rfl | rfl | rfl | rfl | rfl | rfl | rfl | rfl | rfl | rfl | rfl | rfl | rfl | rfl | rfl | rfl | rfl | rfl | rfl | rfl
  all_goals rcases is4 hk with rfl | rfl | rfl | rfl
  all_goals (clear hp hk; kernel_rfl)
theorem rM {p k:Nat} (hp:p<24) (hk:k<4):(fun K t=>I7.f (K+40) t (p:Int) (k:Int))=fun _ _=>some (atP p k):=by
  rcases sJ hp with rfl | rfl | rfl | rfl | rfl | rfl | rfl | rfl | rfl | rfl | rfl | rfl | rfl | rfl | rfl | rfl | rfl | rfl | rfl | rfl | rfl | rfl | rfl | rfl
  all_goals rcases is4 hk with rfl | rfl | rfl | rfl
  all_goals (clear hp hk; kernel_rfl)
theorem jN {p:Nat} (hp:p<24):(fun K=>He.f (K+40) (p:Int))=fun _=>some (Ws p):=by
  rcases sJ hp with rfl | rfl | rfl | rfl | rfl | rfl | rfl | rfl | rfl | rfl | rfl | rfl | rfl | rfl | rfl | rfl | rfl | rfl | rfl | rfl | rfl | rfl | rfl | rfl
  all_goals (clear hp; kernel_rfl)
theorem jA {p:Nat} (hp:p<24):(fun K=>Ib.f (K+40) (p:Int))=fun _=>some (Ws p):=by
  rcases sJ hp with rfl | rfl | rfl | rfl | rfl | rfl | rfl | rfl | rfl | rfl | rfl | rfl | rfl | rfl | rfl | rfl | rfl | rfl | rfl | rfl | rfl | rfl | rfl | rfl
  all_goals (clear hp; kernel_rfl)
theorem lT:∀ p:Nat,p<24→∀ k:Nat,k<4→0≤atP p k∧atP p k<4:=by decide +kernel
theorem Ab.bD {α:Type} {F:Nat→Option α} {r:α} (h:(fun K=>F (K+40))=fun _=>some r):Ab F r:=⟨40,fun K hK=>by
  obtain ⟨k,rfl⟩:∃ k,K=k+40:=⟨K - 40,by omega⟩
  exact congrFun h k⟩
theorem valid_eq (p:Int):I9.f p=some (decide (0≤p∧p≤23)):=by
  unfold I9.f
  by_cases h:0≤p
  · rw [if_pos h]; congr 1; apply decide_eq_decide.2; omega
  · rw [if_neg h,decide_eq_false (by omega)]
section
variable {ts:List (List Br)} (h8:ts.length≤8) (h4:∀ i,i<ts.length→(ts.getD i []).length=4)
include h8 h4
theorem aL (v:Int):E5.f ts v=some (decide (0≤v∧v≤(ts.length:Int) - 1)):=by
  unfold E5.f Gt.f
  rw [Option.bind_some,Qh,Option.bind_some,Ip (by omega) (by omega)]
theorem Zz {a f:Nat} (ha:a<ts.length) (hf:f<4):∃ b,Ab (fun K=>Eb.f K ts (a:Int) (f:Int)) b ∧
    (b=true→∀ v,Ac (fun K k=>Aq.l37 K k ts (a:Int) ((f+1:Nat):Int)) v→Ac (fun K k=>Aq.l37 K k ts (a:Int) (f:Int)) v) ∧
    (b=false→Ac (fun K k=>Aq.l37 K k ts (a:Int) (f:Int)) false):=by
  have hr:=h4 a ha
  generalize hx:(ts.getD a []).getD f Md=x
  have enter:∀ (c:Bool) (v:Bool),(x.Tet = -1→c=decide (x.Perm=0))→(x.Tet≠-1→c=false)→Ac (fun K k=>Aq.j40 K k ts (a:Int) (f:Int) x c) v→Ac (fun K k=>Aq.l37 K k ts (a:Int) (f:Int)) v:=fun c v c1 c2 h=>by
    refine Ac.step (fun K k=>?_) h
    rw [Aq.l37,if_pos (by omega),if_pos (by omega),Int.toNat_natCast,if_pos (by omega),Int.toNat_natCast,hx,F5]
    by_cases ht:x.Tet = -1
    · rw [if_pos ht,← c1 ht]
    · rw [if_neg ht,c2 ht]
  have no:∀ c:Bool,(c=true→False)→(0≤x.Tet∧x.Tet≤(ts.length:Int) - 1→0≤x.Perm∧x.Perm≤23→False)→Ac (fun K k=>Aq.j40 K k ts (a:Int) (f:Int) x c) false:=fun c hc h=>by
    refine Ac.of fun K k=>?_
    rw [Aq.j40,if_neg (fun e=>hc e),Hu.f,Option.bind_some,fO,Option.bind_some,Ip (by omega) (by omega)]
    by_cases h1:0≤x.Tet∧x.Tet≤(ts.length:Int) - 1
    · rw [decide_eq_true h1,if_pos rfl,valid_eq,Option.bind_some,if_neg (by rw [decide_eq_true_eq]; exact h h1)]
    · rw [decide_eq_false h1,if_neg (by decide)]
  have impl0:∀ b:Bool,Ab (fun K=>if x.Tet=(-1) then (some (decide (x.Perm=0))) else ((E5.f ts x.Tet).bind fun t20=>(if t20=true then ((Jy.f x.Perm).bind fun t25=>(if t25=true then ((I7.f K x.Tet x.Perm f).bind fun t30=>(if 0≤x.Tet∧x.Tet<(ts.length:Int) then (if 0≤t30∧t30<((ts.getD x.Tet.toNat []).length:Int) then (bnd ((ts.getD x.Tet.toNat []).getD t30.toNat Md) (fun e36=>Ed (Hy.f K x.Tet x.Perm a) (fun t38 t39=>(if (e36.Tet,e36.Perm)=(t38,t39) then (if x.Tet=(a:Int) then (some (!(decide (t30=f)))) else (some true)) else (some false))))) else none) else none)) else (some false))) else (some false)))) b→Ab (fun K=>Eb.f K ts (a:Int) (f:Int)) b:=fun b h=>by
    refine Ab.congr (fun K=>?_) h
    rw [Eb.f,if_pos (by omega),Int.toNat_natCast,if_pos (by omega),Int.toNat_natCast,hx,F5]
  by_cases ht:x.Tet = -1
  · refine ⟨decide (x.Perm=0),impl0 _ (Ab.pos ht (Ab.const _)),fun hb v hv=>?_,fun hb=>?_⟩
    · refine enter true v (fun _=>hb.symm) (fun h=>absurd ht h) (Ac.step (fun K k=>?_) hv)
      rw [Aq.j40,if_pos rfl,Ce (by omega)]
    · exact enter false false (fun _=>hb.symm) (fun h=>absurd ht h) (no false (by decide) (fun h=>by omega))
  · by_cases h1:0≤x.Tet∧x.Tet≤(ts.length:Int) - 1
    rotate_left
    · refine ⟨false,impl0 _ (Ab.neg ht ?_),(fun h=>by cases h),fun _=>enter false false (fun h=>absurd h ht) (fun _=>rfl) (no false (by decide) (fun h=>absurd h h1))⟩
      rw [aL h8 h4,decide_eq_false h1]; exact Ab.const _
    by_cases h2:0≤x.Perm∧x.Perm≤23
    rotate_left
    · refine ⟨false,impl0 _ (Ab.neg ht ?_),(fun h=>by cases h),fun _=>enter false false (fun h=>absurd h ht) (fun _=>rfl) (no false (by decide) (fun _ h=>absurd h h2))⟩
      rw [aL h8 h4,decide_eq_true h1]
      refine Ab.bind (Ab.const true) (Ab.pos rfl ?_)
      unfold Jy.f
      rw [Qh,decide_eq_false h2]; exact Ab.const _
    obtain ⟨u,hu⟩:∃ u:Nat,x.Tet=u:=⟨x.Tet.toNat,by omega⟩
    obtain ⟨q,hq⟩:∃ q:Nat,x.Perm=q:=⟨x.Perm.toNat,by omega⟩
    have hq24:q<24:=by omega
    have hs:=lT q hq24 f hf
    have h4u:=h4 u (by omega)
    have tA:Ab (fun K=>Mk.f K x.Perm (f:Int)) (atP q f):=by rw [hq]; exact Ab.bD (pY hq24 hf)
    have tB:Ab (fun K=>He.f K x.Perm) (Ws q):=by rw [hq]; exact Ab.bD (jN hq24)
    have iA:Ab (fun K=>I7.f K x.Tet x.Perm (f:Int)) (atP q f):=by rw [hq]; exact Ab.bD (funext fun K=>congrFun (congrFun (rM hq24 hf) K) x.Tet)
    have iB:Ab (fun K=>Hy.f K x.Tet x.Perm (a:Int)) ((a:Int),Ws q):=by
      rw [hq]; exact Ab.bind (Ab.bD (jA hq24)) (Ab.const _)
    generalize hy:(ts.getD x.Tet.toNat []).getD (atP q f).toNat Md=y
    have hut:(ts.getD x.Tet.toNat []).length=4:=by rw [hu,Int.toNat_natCast]; exact h4u
    let c:Bool:=decide ((y.Tet,y.Perm)=((a:Int),Ws q)) && !(decide (x.Tet=(a:Int)) && decide (atP q f=(f:Int)))
    have hspec:∀ v r:Bool,(c=true→Ac (fun K k=>Aq.l37 K k ts (a:Int) ((f+1:Nat):Int)) v∧r=v)→(c=false→r=false)→Ac (fun K k=>Aq.j40 K k ts (a:Int) (f:Int) x false) r:=fun v r g1 g2=>by
      refine Ac.step (G:=fun K k=>(Mk.f K x.Perm (f:Int)).bind fun t1613=>(He.f K x.Perm).bind fun t1617=>(if 0≤x.Tet∧x.Tet<(ts.length:Int) then (if 0≤t1613∧t1613<((ts.getD x.Tet.toNat []).length:Int) then (bnd ((ts.getD x.Tet.toNat []).getD t1613.toNat Md) (fun e1626=>if (e1626.Tet,e1626.Perm)=((a:Int),t1617) then (if x.Tet=(a:Int) then (if t1613=(f:Int) then (some false) else (Aq.l37 K k ts (a:Int) (w64 ((f:Int)+1)))) else (Aq.l37 K k ts (a:Int) (w64 ((f:Int)+1)))) else (some false))) else none) else none)) (fun K k=>?_) ?_
      · rw [Aq.j40,if_neg (by decide),Hu.f,Option.bind_some,fO,Option.bind_some,Ip (by omega) (by omega),decide_eq_true h1,if_pos rfl,valid_eq,Option.bind_some,decide_eq_true h2,if_pos rfl]
      · refine Ac.bind tA.two (Ac.bind tB.two (Ac.pos (by omega) (Ac.pos (by rw [hut]; omega) ?_)))
        rw [hy]
        simp only [F5,Ce (show f<4611686018427387904 by omega)]
        by_cases e1:(y.Tet,y.Perm)=((a:Int),Ws q)
        · refine Ac.pos e1 ?_
          by_cases e2:x.Tet=(a:Int)
          · by_cases e3:atP q f=(f:Int)
            · have:c=false:=by show (_ && _)=false; rw [decide_eq_true e1,decide_eq_true e2,decide_eq_true e3]; rfl
              rw [g2 this]; exact Ac.pos e2 (Ac.pos e3 (Ac.const _))
            · have:c=true:=by show (_ && _)=true; rw [decide_eq_true e1,decide_eq_true e2,decide_eq_false e3]; rfl
              rw [(g1 this).2]; exact Ac.pos e2 (Ac.neg e3 (g1 this).1)
          · have:c=true:=by show (_ && _)=true; rw [decide_eq_true e1,decide_eq_false e2]; rfl
            rw [(g1 this).2]; exact Ac.neg e2 (g1 this).1
        · have:c=false:=by show (_ && _)=false; rw [decide_eq_false e1]; rfl
          rw [g2 this]; exact Ac.neg e1 (Ac.const _)
    refine ⟨c,impl0 _ (Ab.neg ht ?_),fun hb v hv=>enter false v (fun h=>absurd h ht) (fun _=>rfl) (hspec v v (fun _=>⟨hv,rfl⟩) (fun h=>by rw [hb] at h; cases h)),fun hb=>enter false false (fun h=>absurd h ht) (fun _=>rfl) (hspec false false (fun h=>by rw [hb] at h; cases h) (fun _=>rfl))⟩
    rw [aL h8 h4,decide_eq_true h1]
    refine Ab.bind (Ab.const true) (Ab.pos rfl ?_)
    unfold Jy.f
    rw [Qh,decide_eq_true h2]
    refine Ab.bind (a:=true) (Ab.const _) (Ab.pos rfl <| Ab.bind iA (Ab.pos (by omega) (Ab.pos (by rw [hut]; omega) ?_)))
    rw [hy]
    simp only [F5]
    refine Ab.Ed iB ?_
    by_cases e1:(y.Tet,y.Perm)=((a:Int),Ws q)
    · refine Ab.pos e1 ?_
      by_cases e2:x.Tet=(a:Int)
      · refine Ab.pos e2 ?_
        have:c=!decide (atP q f=(f:Int)):=by show (_ && _)=_; rw [decide_eq_true e1,decide_eq_true e2]; simp
        rw [this]; exact Ab.const _
      · have:c=true:=by show (_ && _)=true; rw [decide_eq_true e1,decide_eq_false e2]; rfl
        rw [this]; exact Ab.neg e2 (Ab.const _)
    · have:c=false:=by show (_ && _)=false; rw [decide_eq_false e1]; rfl
      rw [this]; exact Ab.neg e1 (Ab.const _)
theorem Xf:∀ m a,ts.length - a=m→a≤ts.length→∃ b,Ac (fun K k=>Aq.l28 K k ts (a:Int)) b∧Ac (fun K k=>Bv.l1 K k ts (ts.length:Int) (a:Int)) b
  | 0,a,hm,hi=>⟨true,Ac.of fun K k=>by rw [Aq.l28,Hu.f,Option.bind_some,if_neg (by omega)],Ac.of fun K k=>by rw [Bv.l1,if_neg (by omega)]⟩
  | m+1,a,hm,hi=>by
    obtain ⟨b',t1,t2⟩:=Xf m (a+1) (by omega) (by omega)
    have ha:a<ts.length:=by omega
    obtain ⟨G,hG⟩:∃ G:Nat→Bool,∀ f:Nat,f<4→Ab (fun K=>Eb.f K ts (a:Int) (f:Int)) (G f) ∧
        (G f=true→∀ v,Ac (fun K k=>Aq.l37 K k ts (a:Int) ((f+1:Nat):Int)) v→Ac (fun K k=>Aq.l37 K k ts (a:Int) (f:Int)) v) ∧
        (G f=false→Ac (fun K k=>Aq.l37 K k ts (a:Int) (f:Int)) false) :=
      ⟨fun f=>if h:f<4 then Classical.choose (Zz h8 h4 ha h) else false,fun f h=>by simp only [dif_pos h]; exact Classical.choose_spec (Zz h8 h4 ha h)⟩
    have s:=Nc (l:=fun K k i=>Aq.l37 K k ts (a:Int) (i:Int)) (n:=4) (P:=G) (r:=b') (fun i hi hp v hv=>(hG i hi).2.1 hp v hv) (fun i hi hp=>(hG i hi).2.2 hp)
      (Ac.step (fun K k=>by rw [Aq.l37,if_neg (by decide),Ce (by omega)]) t1)
    have i:=Nc (l:=fun K k i=>Bv.l4 K k ts (ts.length:Int) (a:Int) (i:Int)) (n:=4) (P:=G) (r:=b') (fun i hi hp v hv=>by
        refine Ac.step (fun K k=>?_) (Ac.bind (G:=fun K k t=>if t=true then Bv.l4 K k ts (ts.length:Int) (a:Int) (w64 ((i:Int)+1)) else some false) (hG i hi).1.two (Ac.pos hp (by rw [Ce (by omega)]; exact hv)))
        rw [Bv.l4,if_pos (by omega)])
      (fun i hi hp=>by
        refine Ac.step (fun K k=>?_) (Ac.bind (G:=fun K k t=>if t=true then Bv.l4 K k ts (ts.length:Int) (a:Int) (w64 ((i:Int)+1)) else some false) (hG i hi).1.two (Ac.neg (by rw [hp]; decide) (Ac.const _)))
        rw [Bv.l4,if_pos (by omega)])
      (Ac.step (fun K k=>by rw [Bv.l4,if_neg (by decide),Ce (by omega)]) t2)
    exact ⟨_,Ac.step (fun K k=>by rw [Aq.l28,Hu.f,Option.bind_some,if_pos (by omega)]; rfl) s,Ac.step (fun K k=>by rw [Bv.l1,if_pos (by omega)]; rfl) i⟩
end
theorem kE {α:Type} {l:Nat→Nat→Nat→Option α} {n:Nat} {P:Nat→Bool} {no:α} (go:∀ i,i<n→P i=true→∀ v,Ac (fun K k=>l K k (i+1)) v→Ac (fun K k=>l K k i) v)
    (stop:∀ i,i<n→P i=false→Ac (fun K k=>l K k i) no) (h:K7 n P=false):Ac (fun K k=>l K k 0) no:=by
  have main:∀ m i,n - i=m→(∃ j,i≤j∧j<n∧P j=false)→Ac (fun K k=>l K k i) no:=by
    intro m
    induction m with
    | zero=>intro i hm ⟨j,h1,h2,_⟩; omega
    | succ m ih =>
      intro i hm ⟨j,h1,h2,h3⟩
      cases hp:P i with
      | false=>exact stop i (by omega) hp
      | true=>exact go i (by omega) hp _ (ih (i+1) (by omega) ⟨j,by
          by_cases e:j=i
          · subst e; rw [hp] at h3; cases h3
          · omega,h2,h3⟩)
  unfold K7 at h
  rw [List.all_eq_false] at h
  obtain ⟨j,hj,hn⟩:=h
  exact main n 0 (by omega) ⟨j,Nat.zero_le _,List.mem_range.1 hj,Bool.eq_false_iff.2 hn⟩
theorem oC (ts:List (List Br)) (hn:ts.length≤2000000):∃ b,Ab (fun K=>Aq.f K ts) b∧Ab (fun K=>Bv.f K ts) b:=by
  unfold Aq.f Bv.f Gt.f Hu.f
  simp only [Option.bind_some]
  by_cases h8:8<ts.length
  · exact ⟨false,Ab.pos (by omega) (Ab.const _),Ab.pos (by omega) (Ab.const _)⟩
  let P:Nat→Bool:=fun i=>decide (((ts.getD i []).length:Int)=4)
  obtain ⟨v,t,e⟩:=Q0 (l:=fun K k i=>Aw.l1 K k ts (i:Int)) (n:=ts.length) (P:=P) (fun i hi hp v hv=>Ac.step (fun K k=>by
      rw [Aw.l1,if_pos (by omega),if_pos (by omega),Int.toNat_natCast,Gf.f,Option.bind_some,if_neg (by show ¬ (!P i)=true; rw [hp]; decide),Ce (by omega)]) hv)
    (fun i hi hp=>Ac.of fun K k=>by rw [Aw.l1,if_pos (by omega),if_pos (by omega),Int.toNat_natCast,Gf.f,Option.bind_some,if_pos (by show (!P i)=true; rw [hp]; rfl)])
    (Ac.of fun K k=>by rw [Aw.l1,if_neg (by omega)])
  have tc:Ab (fun K=>Cg.f K ts) (!K7 ts.length P):=by
    rw [← e]; exact Ab.bind (F:=fun K=>Aw.f K ts) t.I5 (Ab.const _)
  cases hA:K7 ts.length P with
  | false =>
    rw [hA] at tc
    refine ⟨false,Ab.neg (by omega) (kE (l:=fun K k i=>Aq.l1 K k ts (i:Int)) (n:=ts.length) (P:=P) (fun i hi hp v hv=>Ac.step (fun K k=>by
        rw [Aq.l1,if_pos (by omega),if_pos (by omega),Int.toNat_natCast,if_pos (of_decide_eq_true hp),Ce (by omega)]) hv)
      (fun i hi hp=>Ac.of fun K k=>by rw [Aq.l1,if_pos (by omega),if_pos (by omega),Int.toNat_natCast,if_neg (of_decide_eq_false hp)]) hA).I5,Ab.neg (by omega) (Ab.bind tc (Ab.pos rfl (Ab.const _)))⟩
  | true =>
    rw [hA] at tc
    have h4:∀ i,i<ts.length→(ts.getD i []).length=4:=fun i hi=>by
      have:=of_decide_eq_true (Tc hA hi)
      omega
    obtain ⟨b,t1,t2⟩:=Xf (by omega) h4 ts.length 0 (by omega) (by omega)
    have hs:=Nc (l:=fun K k i=>Aq.l1 K k ts (i:Int)) (n:=ts.length) (P:=P) (r:=b) (fun i hi hp v hv=>Ac.step (fun K k=>by
        rw [Aq.l1,if_pos (by omega),if_pos (by omega),Int.toNat_natCast,if_pos (of_decide_eq_true hp),Ce (by omega)]) hv)
      (fun i hi hp=>Ac.of fun K k=>by rw [Aq.l1,if_pos (by omega),if_pos (by omega),Int.toNat_natCast,if_neg (of_decide_eq_false hp)])
      (Ac.step (fun K k=>by rw [Aq.l1,if_neg (by omega)]; rfl) t1)
    rw [hA,Bool.true_and] at hs
    exact ⟨b,Ab.neg (by omega) hs.I5,Ab.neg (by omega) (Ab.bind tc (Ab.neg (by decide) t2.I5))⟩
def vU (x:Ah) (p:Nat):Int:=[x.A,x.B,x.C,x.D].getD p 0
def ent (x:Ah) (p:Nat):Bool:=p == 0 || (p == 3 && decide (x.Sign=1)) || (p == 1 && decide (x.Sign = -1))
def Hl (xs:List Ah) (q:Nat):Int:=vU (xs.getD (q / 4) Ar) (q % 4)
def Ma (xs:List Ah) (q:Nat):Bool:=ent (xs.getD (q / 4) Ar) (q % 4)
theorem aP (x:Ah) {p:Nat} (h:p<4):Jw.f x.A x.B x.C x.D x.Sign (p:Int)=some (vU x p):=by
  unfold Jw.f
  rw [if_pos (by simp; omega),Int.toNat_natCast]
  rfl
theorem Tk (x:Ah) {p:Nat} (h:p<4):Ij.f x.A x.B x.C x.D x.Sign (p:Int)=some (ent x p):=by
  unfold Ij.f ent
  match p,h with
  | 0,_=>rfl
  | 1,_=>simp
  | 2,_=>simp
  | 3,_=>by_cases h1:x.Sign=1 <;> simp [h1]
theorem bO {c p:Nat} (h:p<4):(4 * c+p) / 4=c:=by omega
theorem aT {c p:Nat} (h:p<4):(4 * c+p) % 4=p:=by omega
theorem U0 (xs:List Ah) {c p:Nat} (h:p<4):Hl xs (4 * c+p)=vU (xs.getD c Ar) p:=by unfold Hl; rw [bO h,aT h]
theorem P9 (xs:List Ah) {c p:Nat} (h:p<4):Ma xs (4 * c+p)=ent (xs.getD c Ar) p:=by unfold Ma; rw [bO h,aT h]
section
variable {xs:List Ah} (hn:xs.length≤2000000) {a:Int} {b:Bool} {q0:Nat} (hq:q0<4 * xs.length) (ha:Hl xs q0=a) (hb:Ma xs q0=b) (hf:∀ q,q<q0→¬ (Hl xs q=a∧Ma xs q=b))
include hn hq ha hb hf
theorem X4:∀ (m c p:Nat),5 * c+p+m=5 * xs.length→p≤4→c<xs.length→4 * c+p≤q0 →
    Ac (fun K k=>Cm.l4 K k xs a b (c:Int) (p:Int)) (((q0 / 4:Nat):Int),((q0 % 4:Nat):Int))
  | 0,c,p,hm,hp,hc,hle=>by omega
  | m+1,c,p,hm,hp,hc,hle=>by
    refine Ac.succ ?_
    by_cases h4:p<4
    · have h1:∀ K k,Cm.l4 K (k+1) xs a b (c:Int) (p:Int)=if Hl xs (4 * c+p)=a then (if (Ma xs (4 * c+p) == b)=true then some ((c:Int),(p:Int)) else Cm.l4 K k xs a b (c:Int) ((p+1:Nat):Int)) else Cm.l4 K k xs a b (c:Int) ((p+1:Nat):Int):=fun K k=>by
        rw [Cm.l4,if_pos (by omega),if_pos (by omega),F5,Int.toNat_natCast,aP _ h4,Option.bind_some,Tk _ h4,Option.bind_some,U0 _ h4,P9 _ h4,Ce (by omega)]
      refine Ac.congr h1 ?_
      by_cases hm':Hl xs (4 * c+p)=a∧Ma xs (4 * c+p)=b
      · have he:4 * c+p=q0:=by
          rcases Nat.lt_or_ge (4 * c+p) q0 with h | h
          · exact absurd hm' (hf _ h)
          · omega
        refine Ac.pos hm'.1 (Ac.pos (by rw [hm'.2]; exact beq_self_eq_true b) ?_)
        rw [← he,bO h4,aT h4]
        exact Ac.const _
      · have hne:4 * c+p≠q0:=fun e=>hm' (by rw [e]; exact ⟨ha,hb⟩)
        have ih:=X4 m c (p+1) (by omega) (by omega) hc (by omega)
        by_cases h5:Hl xs (4 * c+p)=a
        · refine Ac.pos h5 (Ac.neg (fun h6=>hm' ⟨h5,eq_of_beq h6⟩) ih)
        · exact Ac.neg h5 ih
    · obtain rfl:p=4:=by omega
      have hc':c+1<xs.length:=by omega
      have ih:=X4 m (c+1) 0 (by omega) (by omega) hc' (by omega)
      have h1:∀ K k,Cm.l4 K (k+1) xs a b (c:Int) ((4:Nat):Int)=Cm.l1 K k xs a b ((c+1:Nat):Int):=fun K k=>by
        rw [Cm.l4,if_neg (by omega),Ce (by omega)]
      refine Ac.congr h1 (Ac.succ (Ac.congr (fun K k=>?_) ih))
      rw [Cm.l1,if_pos (by omega)]
      rfl
theorem place (cs:Int):Ab (fun K=>Cm.f K xs cs a b) (((q0 / 4:Nat):Int),((q0 % 4:Nat):Int)):=by
  have hl:=X4 hn hq ha hb hf (5 * xs.length) 0 0 (by omega) (by omega) (by omega) (by omega)
  refine Ab.congr (fun K=>?_) (Ac.I5 (Ac.succ (F:=fun K k=>Cm.l1 K k xs a b 0) (Ac.congr (fun K k=>?_) hl)))
  · rfl
  · rw [Cm.l1,if_pos (by omega)]
    rfl
end
theorem Vg:∀ (l:List Bool) (i:Nat),l[i]?=some false→(l.set i true).count true=l.count true+1
  | b::r,0,h=>by
    obtain rfl:b=false:=by simpa using h
    simp
  | b::r,i+1,h=>by
    have:=Vg r i (by simpa using h)
    rw [List.set_cons_succ,List.count_cons,List.count_cons,this]
    omega
def Vd (xs:List Ah):Nat→Nat
  | 0=>0
  | q+1=>Vd xs q+(if Ma xs q=true then 1 else 0)
def U7 (xs:List Ah):Prop:=∀ c,c<xs.length→(xs.getD c Ar).Sign=1∨(xs.getD c Ar).Sign = -1
theorem Abg {x:Ah} (h:x.Sign=1∨x.Sign = -1):(if ent x 0=true then 1 else 0)+(if ent x 1=true then 1 else 0)+(if ent x 2=true then 1 else 0)+(if ent x 3=true then 1 else 0)=2:=by
  unfold ent
  rcases h with h | h <;> rw [h] <;> decide
theorem Yu {xs:List Ah} (hs:U7 xs):∀ c,c≤xs.length→Vd xs (4 * c)=2 * c
  | 0,_=>rfl
  | c+1,h=>by
    have h1:=Yu hs c (by omega)
    have h2:=Abg (hs c (by omega))
    have e0:Ma xs (4 * c)=ent (xs.getD c Ar) 0:=P9 xs (c:=c) (p:=0) (by omega)
    have e1:=P9 xs (c:=c) (p:=1) (by omega)
    have e2:=P9 xs (c:=c) (p:=2) (by omega)
    have e3:=P9 xs (c:=c) (p:=3) (by omega)
    show Vd xs (4 * c+1+1+1+1)=_
    simp only [Vd]
    rw [show 4 * c+1+1+1=4 * c+3 by omega,show 4 * c+1+1=4 * c+2 by omega,e0,e1,e2,e3]
    rw [h1]
    omega
theorem Vs {x:Ah} (h:x.Sign=1∨x.Sign = -1) {p:Nat} (hp:p<4):Gi.f x.A x.B x.C x.D x.Sign (p:Int)=some (ent x p):=by
  unfold Gi.f ent
  have hw:w64 (2+x.Sign)=2+x.Sign:=Ip (by omega) (by omega)
  rw [hw]
  match p,hp with
  | 0,_=>rfl
  | 1,_=>rcases h with h | h <;> rw [h] <;> decide
  | 2,_=>rcases h with h | h <;> rw [h] <;> decide
  | 3,_=>rcases h with h | h <;> rw [h] <;> decide
theorem tK (a:Int) (n:Nat) (hn:n≤2000000):Ef.f a 0 (w64 (w64 (2 * (n:Int)) - 1))=some (decide (0≤a∧a<2 * (n:Int))):=by
  rw [Ip (x:=2 * (n:Int)) (by omega) (by omega),Ip (by omega) (by omega)]
  unfold Ef.f
  by_cases h:0≤a
  · rw [if_pos h]
    congr 1
    rw [decide_eq_decide]
    omega
  · rw [if_neg h]
    congr 1
    exact (decide_eq_false (by omega)).symm
theorem has_eq (l:List Gm) (a:Int) (hl:l.length≤4000000):D9.f l a=some (decide (0≤a∧a<(l.length:Int))):=by
  unfold D9.f Jg.f Cu.f
  rw [Option.bind_some,Ip (by omega) (by omega)]
  by_cases h:0≤a
  · rw [if_pos h,Option.bind_some]
    congr 1
    rw [decide_eq_decide]
    omega
  · rw [if_neg h,Option.bind_some]
    congr 1
    exact (decide_eq_false (by omega)).symm
def Pm (q:Nat):Gm:=⟨((q / 4:Nat):Int),((q % 4:Nat):Int)⟩
structure Side (xs:List Ah) (b:Bool) (q:Nat) (l:List Gm) (t:List Bool):Prop where
  len:l.length=2 * xs.length
  U1:t.length=2 * xs.length
  has:∀ q',q'<q→Ma xs q'=b→0≤Hl xs q'∧Hl xs q'<2 * (xs.length:Int)∧l[(Hl xs q').toNat]?=some (Pm q')
  back:∀ i,i<2 * xs.length→0≤(l.getD i Ka).crossing→∃ q',q'<q∧Ma xs q'=b∧Hl xs q'=(i:Int)
  mark:∀ i,i<2 * xs.length→t.getD i false=decide (0≤(l.getD i Ka).crossing)
theorem Side.skip {xs:List Ah} {b:Bool} {q:Nat} {l:List Gm} {t:List Bool} (h:Side xs b q l t) (hb:Ma xs q≠b):Side xs b (q+1) l t :=
  ⟨h.len,h.U1,fun q' hq he=>by
    rcases Nat.lt_or_ge q' q with h1 | h1
    · exact h.has q' h1 he
    · obtain rfl:q'=q:=by omega
      exact absurd he hb,fun i hi hc=>by
    obtain ⟨q',h1,h2⟩:=h.back i hi hc
    exact ⟨q',by omega,h2⟩,h.mark⟩
theorem Side.put {xs:List Ah} {b:Bool} {q:Nat} {l:List Gm} {t:List Bool} (h:Side xs b q l t) (hb:Ma xs q=b) (h0:0≤Hl xs q) (h1:Hl xs q<2 * (xs.length:Int)) (hfree:¬ 0≤(l.getD (Hl xs q).toNat Ka).crossing) :
    Side xs b (q+1) (l.set (Hl xs q).toNat (Pm q)) (t.set (Hl xs q).toNat true):=by
  have hi:(Hl xs q).toNat<2 * xs.length:=by omega
  have hget:∀ i,i<2 * xs.length→(l.set (Hl xs q).toNat (Pm q)).getD i Ka=if (Hl xs q).toNat=i then Pm q else l.getD i Ka:=fun i hi'=>by
    rw [List.getD_eq_getElem?_getD,List.getElem?_set]
    by_cases he:(Hl xs q).toNat=i
    · subst he; simp [h.len,hi]
    · simp [he]
  have hc0:0≤(Pm q).crossing:=by unfold Pm; exact Int.natCast_nonneg _
  refine ⟨by rw [List.length_set]; exact h.len,by rw [List.length_set]; exact h.U1,fun q' hq he=>?_,fun i hi' hc=>?_,fun i hi'=>?_⟩
  · rcases Nat.lt_or_ge q' q with hlt | hge
    · obtain ⟨p0,p1,p2⟩:=h.has q' hlt he
      refine ⟨p0,p1,?_⟩
      have hne:(Hl xs q).toNat≠(Hl xs q').toNat:=fun e=>hfree (by rw [e,List.getD_eq_getElem?_getD,p2]; exact Int.natCast_nonneg _)
      rw [List.getElem?_set_ne hne]
      exact p2
    · obtain rfl:q'=q:=by omega
      exact ⟨h0,h1,List.getElem?_set_self (by rw [h.len]; exact hi)⟩
  · rw [hget i hi'] at hc
    by_cases he:(Hl xs q).toNat=i
    · exact ⟨q,by omega,hb,by omega⟩
    · rw [if_neg he] at hc
      obtain ⟨q',h1',h2'⟩:=h.back i hi' hc
      exact ⟨q',by omega,h2'⟩
  · rw [hget i hi',List.getD_eq_getElem?_getD,List.getElem?_set]
    by_cases he:(Hl xs q).toNat=i
    · subst he; simp [h.U1,hi,hc0]
    · simp only [he,if_false]
      rw [← List.getD_eq_getElem?_getD]
      exact h.mark i hi'
structure Both (xs:List Ah) (q:Nat) (f t:List Gm) (tin tout:List Bool):Prop where
  inn:Side xs true q t tin
  out:Side xs false q f tout
  cin:tin.count true=Vd xs q
  xV:tout.count true+Vd xs q=q
structure Good (xs:List Ah) (f t:List Gm):Prop where
  qH:f.length=2 * xs.length
  U1:t.length=2 * xs.length
  tin:∀ q,q<4 * xs.length→Ma xs q=true→0≤Hl xs q∧Hl xs q<2 * (xs.length:Int)∧t[(Hl xs q).toNat]?=some (Pm q)
  lI:∀ q,q<4 * xs.length→Ma xs q=false→0≤Hl xs q∧Hl xs q<2 * (xs.length:Int)∧f[(Hl xs q).toNat]?=some (Pm q)
  AaY:∀ i,i<2 * xs.length→∃ q,q<4 * xs.length∧Ma xs q=true∧Hl xs q=(i:Int)
  fall:∀ i,i<2 * xs.length→∃ q,q<4 * xs.length∧Ma xs q=false∧Hl xs q=(i:Int)
theorem Ux {l:List Bool} (h:l.count true=l.length) {i:Nat} (hi:i<l.length):l.getD i false=true:=by
  have:=List.count_eq_length.1 h (l[i]) (List.getElem_mem hi)
  rw [List.getD_eq_getElem?_getD,List.getElem?_eq_getElem hi]
  exact this.symm
theorem Both.good {xs:List Ah} {f t:List Gm} {tin tout:List Bool} (hs:U7 xs) (h:Both xs (4 * xs.length) f t tin tout):Good xs f t:=by
  have he:=Yu hs xs.length (Nat.le_refl _)
  refine ⟨h.out.len,h.inn.len,fun q hq hb=>h.inn.has q hq hb,fun q hq hb=>h.out.has q hq hb,fun i hi=>?_,fun i hi=>?_⟩
  · have hm:=h.inn.mark i hi
    rw [Ux (by rw [h.cin,he,h.inn.U1]) (by rw [h.inn.U1]; exact hi)] at hm
    exact h.inn.back i hi (of_decide_eq_true hm.symm)
  · have hm:=h.out.mark i hi
    have hc:=h.xV
    rw [Ux (by rw [h.out.U1]; omega) (by rw [h.out.U1]; exact hi)] at hm
    exact h.out.back i hi (of_decide_eq_true hm.symm)
structure Inj (xs:List Ah):Prop where
  range:∀ q,q<4 * xs.length→0≤Hl xs q∧Hl xs q<2 * (xs.length:Int)
  one:∀ q q',q<4 * xs.length→q'<4 * xs.length→Hl xs q=Hl xs q'→Ma xs q=Ma xs q'→q=q'
section
variable {xs:List Ah} (hn:xs.length≤10) (hs:U7 xs)
include hn
theorem Oo {c:Nat} (hc:c<xs.length) (hs:(xs.getD c Ar).Sign=1∨(xs.getD c Ar).Sign = -1) {tin tout:List Bool} {r:Bool} (h:Ac (fun K k=>Bg.l13 K k xs (c:Int) (xs.getD c Ar) tin tout 0) r) :
    Ac (fun K k=>Bg.l1 K k xs tin tout (c:Int)) r:=by
  refine Ac.succ (Ac.congr (G:=fun K k=>Bg.j12 K k xs tin tout (c:Int) (xs.getD c Ar) false) (fun K k=>?_) (Ac.succ (Ac.congr (fun K k=>?_) h)))
  · rw [Bg.l1,if_pos (by omega),if_pos (by omega),F5,Int.toNat_natCast]
    rcases hs with h1 | h1
    · rw [if_pos h1]
    · rw [if_neg (by omega),h1]; rfl
  · rw [Bg.j12,if_neg (by decide)]
theorem Ql {c:Nat} (hc:c<xs.length) {f t:List Gm} {r} (h:Ac (fun K k=>Bl.l10 K k xs (c:Int) (xs.getD c Ar) (xs.getD c Ar).A (xs.getD c Ar).B (xs.getD c Ar).C (xs.getD c Ar).D f t 0) r) :
    Ac (fun K k=>Bl.l1 K k xs f t (c:Int)) r:=by
  refine Ac.succ (Ac.congr (fun K k=>?_) h)
  rw [Bl.l1,if_pos (by omega),if_pos (by omega),F5,Int.toNat_natCast]
  rfl
include hs
theorem scan:∀ (m c p:Nat) (f t:List Gm) (tin tout:List Bool),5 * c+p+m=5 * xs.length→p≤4→c<xs.length→Both xs (4 * c+p) f t tin tout →
    (Ac (fun K k=>Bg.l13 K k xs (c:Int) (xs.getD c Ar) tin tout (p:Int)) false∧∃ f' t',Ac (fun K k=>Bl.l10 K k xs (c:Int) (xs.getD c Ar) (xs.getD c Ar).A (xs.getD c Ar).B (xs.getD c Ar).C (xs.getD c Ar).D f t (p:Int)) (f',t',false)∧¬ Inj xs) ∨
    (Ac (fun K k=>Bg.l13 K k xs (c:Int) (xs.getD c Ar) tin tout (p:Int)) true∧∃ f' t',Ac (fun K k=>Bl.l10 K k xs (c:Int) (xs.getD c Ar) (xs.getD c Ar).A (xs.getD c Ar).B (xs.getD c Ar).C (xs.getD c Ar).D f t (p:Int)) (f',t',true)∧Good xs f' t')
  | 0,c,p,f,t,tin,tout,hm,hp,hc,hB=>by omega
  | m+1,c,p,f,t,tin,tout,hm,hp,hc,hB=>by
    by_cases h4:p<4
    · have hE:=U0 xs (c:=c) h4
      have hN:=P9 xs (c:=c) h4
      have hget:([(xs.getD c Ar).A,(xs.getD c Ar).B,(xs.getD c Ar).C,(xs.getD c Ar).D]:List Int).getD p 0=Hl xs (4 * c+p):=by rw [hE]; rfl
      have hend:(⟨(c:Int),(p:Int)⟩:Gm)=Pm (4 * c+p):=by unfold Pm; rw [bO h4,aT h4]
      generalize ha:Hl xs (4 * c+p)=a at *
      -- both ways' first steps
      have hS:∀ K k,Bg.l13 K (k+1) xs (c:Int) (xs.getD c Ar) tin tout (p:Int)=if decide (0≤a∧a<2 * (xs.length:Int))=true then (if Ma xs (4 * c+p)=true then (if 0≤a∧a<(tin.length:Int) then (if (tin.getD a.toNat false)=true then some false else Bg.l13 K k xs (c:Int) (xs.getD c Ar) (tin.set a.toNat true) tout ((p+1:Nat):Int)) else none) else (if 0≤a∧a<(tout.length:Int) then (if (tout.getD a.toNat false)=true then some false else Bg.l13 K k xs (c:Int) (xs.getD c Ar) tin (tout.set a.toNat true) ((p+1:Nat):Int)) else none)) else some false:=fun K k=>by
        rw [Bg.l13,if_pos (by omega),aP _ h4,← hE,Option.bind_some,tK _ _ (by omega),Option.bind_some,Tk _ h4,← hN,Option.bind_some,Ce (by omega)]
      have hI:∀ K k,Bl.l10 K (k+1) xs (c:Int) (xs.getD c Ar) (xs.getD c Ar).A (xs.getD c Ar).B (xs.getD c Ar).C (xs.getD c Ar).D f t (p:Int)=if Ma xs (4 * c+p)=true then (if decide (0≤a∧a<(t.length:Int))=true then (if 0≤a∧a<(t.length:Int) then (if 0≤(t.getD a.toNat Ka).crossing then some (f,t,false) else Bl.l10 K k xs (c:Int) (xs.getD c Ar) (xs.getD c Ar).A (xs.getD c Ar).B (xs.getD c Ar).C (xs.getD c Ar).D f (t.set a.toNat (Pm (4 * c+p))) ((p+1:Nat):Int)) else none) else some (f,t,false)) else (if decide (0≤a∧a<(f.length:Int))=true then (if 0≤a∧a<(f.length:Int) then (if 0≤(f.getD a.toNat Ka).crossing then some (f,t,false) else Bl.l10 K k xs (c:Int) (xs.getD c Ar) (xs.getD c Ar).A (xs.getD c Ar).B (xs.getD c Ar).C (xs.getD c Ar).D (f.set a.toNat (Pm (4 * c+p))) t ((p+1:Nat):Int)) else none) else some (f,t,false)):=fun K k=>by
        rw [Bl.l10,if_pos (by omega),if_pos (by omega),Vs (hs c hc) h4,← hN,Option.bind_some,Int.toNat_natCast,hget,has_eq _ _ (by rw [hB.inn.len]; omega),has_eq _ _ (by rw [hB.out.len]; omega),Option.bind_some,Option.bind_some,F5,F5,Ce (by omega),hend]
      by_cases hr:0≤a∧a<2 * (xs.length:Int)
      · have hti:(tin.length:Int)=2 * (xs.length:Int):=by rw [hB.inn.U1]; omega
        have hto:(tout.length:Int)=2 * (xs.length:Int):=by rw [hB.out.U1]; omega
        have hfl:(f.length:Int)=2 * (xs.length:Int):=by rw [hB.out.len]; omega
        have htl:(t.length:Int)=2 * (xs.length:Int):=by rw [hB.inn.len]; omega
        have hia:a.toNat<2 * xs.length:=by omega
        cases hb:Ma xs (4 * c+p) with
        | true =>
          have hmk:=hB.inn.mark a.toNat hia
          by_cases hu:0≤(t.getD a.toNat Ka).crossing
          · rw [decide_eq_true hu] at hmk
            refine .inl ⟨Ac.succ (Ac.congr hS ?_),f,t,Ac.succ (Ac.congr hI ?_),fun hj=>(by obtain ⟨q',k1,k2,k3⟩:=hB.inn.back a.toNat hia hu; have:=hj.one q' (4 * c+p) (by omega) (by omega) (by omega) (by rw [k2,hb]); omega)⟩
            · rw [hb]
              exact Ac.pos (decide_eq_true hr) (Ac.pos rfl (Ac.pos (by rw [hti]; exact hr) (Ac.pos hmk (Ac.const _))))
            · rw [hb]
              exact Ac.pos rfl (Ac.pos (decide_eq_true (by rw [htl]; exact hr)) (Ac.pos (by rw [htl]; exact hr) (Ac.pos hu (Ac.const _))))
          · rw [decide_eq_false hu] at hmk
            have hB':Both xs (4 * c+(p+1)) f (t.set a.toNat (Pm (4 * c+p))) (tin.set a.toNat true) tout:=by
              refine ⟨?_,hB.out.skip (by rw [hb]; decide),?_,?_⟩
              · have:=hB.inn.put hb (by rw [ha]; exact hr.1) (by rw [ha]; exact hr.2) (by rw [ha]; exact hu)
                rw [ha] at this
                exact this
              · rw [Vg _ _ (by rw [← hmk]; exact getD_some (by rw [hB.inn.U1]; exact hia)),hB.cin]
                show _=Vd xs (4 * c+p+1)
                rw [Vd,if_pos hb]
              · show _+Vd xs (4 * c+p+1)=_
                rw [Vd,if_pos hb]
                have:=hB.xV
                omega
            have ih:=scan m c (p+1) f _ _ tout (by omega) (by omega) hc hB'
            have gS:∀ {r},Ac (fun K k=>Bg.l13 K k xs (c:Int) (xs.getD c Ar) (tin.set a.toNat true) tout ((p+1:Nat):Int)) r→Ac (fun K k=>Bg.l13 K k xs (c:Int) (xs.getD c Ar) tin tout (p:Int)) r:=fun h=>by
              refine Ac.succ (Ac.congr hS ?_)
              rw [hb]
              exact Ac.pos (decide_eq_true hr) (Ac.pos rfl (Ac.pos (by rw [hti]; exact hr) (Ac.neg (by rw [hmk]; decide) h)))
            have gI:∀ {r},Ac (fun K k=>Bl.l10 K k xs (c:Int) (xs.getD c Ar) (xs.getD c Ar).A (xs.getD c Ar).B (xs.getD c Ar).C (xs.getD c Ar).D f (t.set a.toNat (Pm (4 * c+p))) ((p+1:Nat):Int)) r→Ac (fun K k=>Bl.l10 K k xs (c:Int) (xs.getD c Ar) (xs.getD c Ar).A (xs.getD c Ar).B (xs.getD c Ar).C (xs.getD c Ar).D f t (p:Int)) r:=fun h=>by
              refine Ac.succ (Ac.congr hI ?_)
              rw [hb]
              exact Ac.pos rfl (Ac.pos (decide_eq_true (by rw [htl]; exact hr)) (Ac.pos (by rw [htl]; exact hr) (Ac.neg hu h)))
            rcases ih with ⟨h1,f',t',h2,h3⟩ | ⟨h1,f',t',h2,h3⟩
            · exact .inl ⟨gS h1,f',t',gI h2,h3⟩
            · exact .inr ⟨gS h1,f',t',gI h2,h3⟩
        | false =>
          have hmk:=hB.out.mark a.toNat hia
          by_cases hu:0≤(f.getD a.toNat Ka).crossing
          · rw [decide_eq_true hu] at hmk
            refine .inl ⟨Ac.succ (Ac.congr hS ?_),f,t,Ac.succ (Ac.congr hI ?_),fun hj=>(by obtain ⟨q',k1,k2,k3⟩:=hB.out.back a.toNat hia hu; have:=hj.one q' (4 * c+p) (by omega) (by omega) (by omega) (by rw [k2,hb]); omega)⟩
            · rw [hb]
              exact Ac.pos (decide_eq_true hr) (Ac.neg (by decide) (Ac.pos (by rw [hto]; exact hr) (Ac.pos hmk (Ac.const _))))
            · rw [hb]
              exact Ac.neg (by decide) (Ac.pos (decide_eq_true (by rw [hfl]; exact hr)) (Ac.pos (by rw [hfl]; exact hr) (Ac.pos hu (Ac.const _))))
          · rw [decide_eq_false hu] at hmk
            have hB':Both xs (4 * c+(p+1)) (f.set a.toNat (Pm (4 * c+p))) t tin (tout.set a.toNat true):=by
              refine ⟨hB.inn.skip (by rw [hb]; decide),?_,?_,?_⟩
              · have:=hB.out.put hb (by rw [ha]; exact hr.1) (by rw [ha]; exact hr.2) (by rw [ha]; exact hu)
                rw [ha] at this
                exact this
              · show _=Vd xs (4 * c+p+1)
                rw [Vd,if_neg (by rw [hb]; decide)]
                exact hB.cin
              · rw [Vg _ _ (by rw [← hmk]; exact getD_some (by rw [hB.out.U1]; exact hia))]
                show _+Vd xs (4 * c+p+1)=_
                rw [Vd,if_neg (by rw [hb]; decide)]
                have:=hB.xV
                omega
            have ih:=scan m c (p+1) _ t tin _ (by omega) (by omega) hc hB'
            have gS:∀ {r},Ac (fun K k=>Bg.l13 K k xs (c:Int) (xs.getD c Ar) tin (tout.set a.toNat true) ((p+1:Nat):Int)) r→Ac (fun K k=>Bg.l13 K k xs (c:Int) (xs.getD c Ar) tin tout (p:Int)) r:=fun h=>by
              refine Ac.succ (Ac.congr hS ?_)
              rw [hb]
              exact Ac.pos (decide_eq_true hr) (Ac.neg (by decide) (Ac.pos (by rw [hto]; exact hr) (Ac.neg (by rw [hmk]; decide) h)))
            have gI:∀ {r},Ac (fun K k=>Bl.l10 K k xs (c:Int) (xs.getD c Ar) (xs.getD c Ar).A (xs.getD c Ar).B (xs.getD c Ar).C (xs.getD c Ar).D (f.set a.toNat (Pm (4 * c+p))) t ((p+1:Nat):Int)) r→Ac (fun K k=>Bl.l10 K k xs (c:Int) (xs.getD c Ar) (xs.getD c Ar).A (xs.getD c Ar).B (xs.getD c Ar).C (xs.getD c Ar).D f t (p:Int)) r:=fun h=>by
              refine Ac.succ (Ac.congr hI ?_)
              rw [hb]
              exact Ac.neg (by decide) (Ac.pos (decide_eq_true (by rw [hfl]; exact hr)) (Ac.pos (by rw [hfl]; exact hr) (Ac.neg hu h)))
            rcases ih with ⟨h1,f',t',h2,h3⟩ | ⟨h1,f',t',h2,h3⟩
            · exact .inl ⟨gS h1,f',t',gI h2,h3⟩
            · exact .inr ⟨gS h1,f',t',gI h2,h3⟩
      · refine .inl ⟨Ac.succ (Ac.congr hS (Ac.neg (by rw [decide_eq_false hr]; decide) (Ac.const _))),f,t,Ac.succ (Ac.congr hI ?_),fun hj=>hr (by have:=hj.range (4 * c+p) (by omega); rw [ha] at this; exact this)⟩
        have hrt:¬ (0≤a∧a<(t.length:Int)):=by rw [hB.inn.len]; omega
        have hrf:¬ (0≤a∧a<(f.length:Int)):=by rw [hB.out.len]; omega
        cases hb:Ma xs (4 * c+p) with
        | true=>exact Ac.pos rfl (Ac.neg (by rw [decide_eq_false hrt]; decide) (Ac.const _))
        | false=>exact Ac.neg (by decide) (Ac.neg (by rw [decide_eq_false hrf]; decide) (Ac.const _))
    · obtain rfl:p=4:=by omega
      have gS:∀ {r},Ac (fun K k=>Bg.l1 K k xs tin tout ((c+1:Nat):Int)) r→Ac (fun K k=>Bg.l13 K k xs (c:Int) (xs.getD c Ar) tin tout ((4:Nat):Int)) r:=fun h=>by
        refine Ac.succ (Ac.congr (fun K k=>?_) h)
        rw [Bg.l13,if_neg (by omega),Ce (by omega)]
      have gI:∀ {r},Ac (fun K k=>Bl.l1 K k xs f t ((c+1:Nat):Int)) r→Ac (fun K k=>Bl.l10 K k xs (c:Int) (xs.getD c Ar) (xs.getD c Ar).A (xs.getD c Ar).B (xs.getD c Ar).C (xs.getD c Ar).D f t ((4:Nat):Int)) r:=fun h=>by
        refine Ac.succ (Ac.congr (fun K k=>?_) h)
        rw [Bl.l10,if_neg (by omega),Ce (by omega)]
      by_cases hc1:c+1<xs.length
      · have ih:=scan m (c+1) 0 f t tin tout (by omega) (by omega) hc1 (by rw [show 4 * (c+1)+0=4 * c+4 by omega]; exact hB)
        rcases ih with ⟨h1,f',t',h2,h3⟩ | ⟨h1,f',t',h2,h3⟩
        · exact .inl ⟨gS (Oo hn hc1 (hs _ hc1) h1),f',t',gI (Ql hn hc1 h2),h3⟩
        · exact .inr ⟨gS (Oo hn hc1 (hs _ hc1) h1),f',t',gI (Ql hn hc1 h2),h3⟩
      · have hB':Both xs (4 * xs.length) f t tin tout:=by rw [show 4 * xs.length=4 * c+4 by omega]; exact hB
        refine .inr ⟨gS (Ac.succ (Ac.congr (fun K k=>?_) (Ac.const true))),f,t,gI (Ac.succ (Ac.congr (fun K k=>?_) (Ac.const (f,t,true)))),hB'.good hs⟩
        · rw [Bg.l1,if_neg (by omega)]
        · rw [Bl.l1,if_neg (by omega)]
end
theorem xL (e:Gm) {m:Nat} (hm:m≤2000000):∀ (d i:Nat) (xs:List Gm),m - i=d→i≤m→(0<i∨m=0)→xs.length=m→(∀ j,j<i→xs[j]?=some e)→Ac (fun K k=>Be.l4 K k xs (i:Int)) (List.replicate m e):=by
  intro d
  induction d using Nat.strongRecOn with
  | _ d ih =>
    intro i xs hd hi h0 hl hx
    by_cases hlt:i<m
    · have hi0:0<i:=by omega
      have hys:((xs.take i).drop 0).take ((xs.take xs.length).drop i).length=xs.take (min i (m - i)):=by
        rw [List.drop_zero,List.take_length,List.length_drop,List.take_take,hl,Nat.min_comm]
      have hyl:(xs.take (min i (m - i))).length=min i (m - i):=by rw [List.length_take]; omega
      have hti:(xs.take i).length=i:=by rw [List.length_take]; omega
      have hov:over xs i (xs.take (min i (m - i)))=over xs i (xs.take (min i (m - i))):=rfl
      have hget:∀ j,j<i+min i (m - i)→(over xs i (xs.take (min i (m - i))))[j]?=some e:=fun j hj=>by
        unfold over
        by_cases h1:j<i
        · rw [List.append_assoc,List.getElem?_append_left (by rw [List.length_take]; omega),List.getElem?_take,if_pos h1]
          exact hx j h1
        · rw [List.append_assoc,List.getElem?_append_right (by rw [hti]; omega),hti,List.getElem?_append_left (by rw [hyl]; omega),List.getElem?_take,if_pos (by omega)]
          exact hx _ (by omega)
      have h2:=ih (m - (i+min i (m - i))) (by omega) (i+min i (m - i)) (over xs i (xs.take (min i (m - i)))) rfl (by omega) (.inl (by omega)) (by rw [Ls (by rw [hyl]; omega)]; exact hl) hget
      refine Ac.succ (Ac.congr (fun K k=>?_) h2)
      rw [Be.l4,if_pos (by omega),if_pos (by omega),Int.toNat_natCast,hys,hyl]
      rw [Ip (by omega) (by omega)]
      rfl
    · obtain rfl:i=m:=by omega
      have he:xs=List.replicate i e:=by
        apply List.ext_getElem?
        intro j
        by_cases hj:j<i
        · rw [hx j hj,List.getElem?_replicate,if_pos hj]
        · rw [List.getElem?_eq_none (by omega),List.getElem?_eq_none (by simp; omega)]
      refine Ac.succ (Ac.congr (fun K k=>?_) (Ac.const _))
      rw [Be.l4,if_neg (by omega),he]
theorem jI:∀ n:Nat,n≤10→Ld.f (IntKind.wrap .u64 1) (IntKind.wrap .u64 (2 * (n:Int)))=some (0,2 * (n:Int))
  | 0,_ | 1,_ | 2,_ | 3,_ | 4,_ | 5,_ | 6,_ | 7,_ | 8,_ | 9,_ | 10,_=>by decide
  | n+11,h=>by omega
theorem Xp (e:Gm) {n:Nat} (hn:n≤10):Ab (fun K=>Be.f K [e] (w64 (2 * (n:Int)))) (List.replicate (2 * n) e):=by
  have hw:w64 (2 * (n:Int))=2 * (n:Int):=Ip (by omega) (by omega)
  have ht:(2 * (n:Int)).toNat=2 * n:=by omega
  have hl:∃ i:Nat,(([e]:List Gm).take (List.replicate (2 * n) Ka).length).length=i∧i≤2 * n∧(0<i∨2 * n=0)∧i≤1:=⟨_,rfl,by simp; omega,by simp; omega,by simp; omega⟩
  obtain ⟨i,h1,h2,h3,h4⟩:=hl
  have hx:∀ j,j<i→(over (List.replicate (2 * n) Ka) 0 (([e]:List Gm).take (List.replicate (2 * n) Ka).length))[j]?=some e:=fun j hj=>by
    obtain rfl:j=0:=by omega
    unfold over
    have:([e]:List Gm).take (List.replicate (2 * n) Ka).length=[e]:=List.take_of_length_le (by simp; omega)
    rw [this]
    rfl
  have hm:=xL e (m:=2 * n) (by omega) (2 * n - i) i (over (List.replicate (2 * n) Ka) 0 (([e]:List Gm).take (List.replicate (2 * n) Ka).length)) rfl h2 h3 (by rw [Ls (by rw [h1]; simp; omega)]; simp) hx
  refine Ab.congr (fun K=>?_) (Ac.I5 (Ac.succ (F:=fun K k=>Be.j2 K k [e] (2 * (n:Int)) false) (Ac.congr (fun K k=>?_) hm)))
  · rw [Be.f,hw,if_neg (by omega)]
    show Ed (Ld.f (IntKind.wrap .u64 1) (IntKind.wrap .u64 (2 * (n:Int)))) _=_
    rw [jI n hn]
    simp only [Ed,Option.bind_some]
    rw [if_neg (by omega),decide_eq_false (by omega)]
  · rw [Be.j2,if_neg (by decide),hw,if_pos (by omega),ht,if_pos (by omega),h1]
def Ov (x:Ah):Bool:=decide (x.Sign=1∨x.Sign = -1)
theorem bG (x:Ah):Gg.f x.A x.B x.C x.D x.Sign=some (!Ov x):=by
  unfold Gg.f Ov
  by_cases h:x.Sign=1
  · simp [h]
  · rw [if_neg h]
    by_cases h2:x.Sign = -1 <;> simp [h,h2]
section
variable {xs:List Ah} (hn:xs.length≤10)
include hn
theorem Xm:∀ (m i:Nat),xs.length - i=m→(∀ c,i≤c→c<xs.length→Ov (xs.getD c Ar)=true)→Ac (fun K k=>Bd.l1 K k xs (i:Int)) (-1)
  | 0,i,hm,h=>Ac.succ (Ac.congr (fun K k=>by rw [Bd.l1,if_neg (by omega)]) (Ac.const _))
  | m+1,i,hm,h=>by
    refine Ac.succ (Ac.congr (fun K k=>?_) (Xm m (i+1) (by omega) (fun c h1 h2=>h c (by omega) h2)))
    rw [Bd.l1,if_pos (by omega),if_pos (by omega),F5,bG,Option.bind_some,Int.toNat_natCast,h i (by omega) (by omega),Ce (by omega)]
    rfl
theorem Zw {c:Nat} (hc:c<xs.length) (hb:Ov (xs.getD c Ar)=false):∀ (m i:Nat),xs.length - i=m→i≤c→∃ r:Int,0≤r∧Ac (fun K k=>Bd.l1 K k xs (i:Int)) r
  | 0,i,hm,h=>by omega
  | m+1,i,hm,h=>by
    cases hs:Ov (xs.getD i Ar) with
    | false =>
      refine ⟨i,by omega,Ac.succ (Ac.congr (fun K k=>?_) (Ac.const _))⟩
      rw [Bd.l1,if_pos (by omega),if_pos (by omega),F5,bG,Option.bind_some,Int.toNat_natCast,hs]
      rfl
    | true =>
      have hne:i≠c:=fun e=>by rw [e,hb] at hs; cases hs
      obtain ⟨r,h0,hr⟩:=Zw hc hb m (i+1) (by omega) (by omega)
      refine ⟨r,h0,Ac.succ (Ac.congr (fun K k=>?_) hr)⟩
      rw [Bd.l1,if_pos (by omega),if_pos (by omega),F5,bG,Option.bind_some,Int.toNat_natCast,hs,Ce (by omega)]
      rfl
theorem Ym (h:∀ c,c<xs.length→Ov (xs.getD c Ar)=true):Ab (fun K=>Ch.f K xs) false:=by
  refine Ab.bind (Ab.congr (fun K=>rfl) (Xm hn xs.length 0 (by omega) (fun c _ hc=>h c hc)).I5) ?_
  exact Ab.const false
theorem aR {c:Nat} (hc:c<xs.length) (hb:Ov (xs.getD c Ar)=false):Ab (fun K=>Ch.f K xs) true:=by
  obtain ⟨r,h0,hr⟩:=Zw hn hc hb xs.length 0 (by omega) (by omega)
  refine Ab.bind (Ab.congr (fun K=>rfl) hr.I5) (Ab.congr (fun K=>?_) (Ab.const true))
  rw [decide_eq_true h0]
theorem R7 {c0:Nat} (hc0:c0<xs.length) (hb:Ov (xs.getD c0 Ar)=false):∀ (m c p:Nat) (tin tout:List Bool),5 * c+p+m=5 * xs.length→p≤4→c<c0→tin.length=2 * xs.length→tout.length=2 * xs.length →
    Ac (fun K k=>Bg.l13 K k xs (c:Int) (xs.getD c Ar) tin tout (p:Int)) false
  | 0,c,p,tin,tout,hm,hp,hc,hi,ho=>by omega
  | m+1,c,p,tin,tout,hm,hp,hc,hi,ho=>by
    by_cases h4:p<4
    · have hS:∀ K k,Bg.l13 K (k+1) xs (c:Int) (xs.getD c Ar) tin tout (p:Int)=if decide (0≤Hl xs (4 * c+p)∧Hl xs (4 * c+p)<2 * (xs.length:Int))=true then (if Ma xs (4 * c+p)=true then (if 0≤Hl xs (4 * c+p)∧Hl xs (4 * c+p)<(tin.length:Int) then (if (tin.getD (Hl xs (4 * c+p)).toNat false)=true then some false else Bg.l13 K k xs (c:Int) (xs.getD c Ar) (tin.set (Hl xs (4 * c+p)).toNat true) tout ((p+1:Nat):Int)) else none) else (if 0≤Hl xs (4 * c+p)∧Hl xs (4 * c+p)<(tout.length:Int) then (if (tout.getD (Hl xs (4 * c+p)).toNat false)=true then some false else Bg.l13 K k xs (c:Int) (xs.getD c Ar) tin (tout.set (Hl xs (4 * c+p)).toNat true) ((p+1:Nat):Int)) else none)) else some false:=fun K k=>by
        rw [Bg.l13,if_pos (by omega),aP _ h4,← U0 xs h4,Option.bind_some,tK _ _ (by omega),Option.bind_some,Tk _ h4,← P9 xs h4,Option.bind_some,Ce (by omega)]
      refine Ac.succ (Ac.congr hS ?_)
      by_cases hr:0≤Hl xs (4 * c+p)∧Hl xs (4 * c+p)<2 * (xs.length:Int)
      · refine Ac.pos (decide_eq_true hr) ?_
        by_cases hN:Ma xs (4 * c+p)=true
        · refine Ac.pos hN (Ac.pos (by rw [hi]; omega) ?_)
          by_cases hu:(tin.getD (Hl xs (4 * c+p)).toNat false)=true
          · exact Ac.pos hu (Ac.const _)
          · exact Ac.neg hu (R7 hc0 hb m c (p+1) _ _ (by omega) (by omega) hc (by rw [List.length_set]; exact hi) ho)
        · refine Ac.neg hN (Ac.pos (by rw [ho]; omega) ?_)
          by_cases hu:(tout.getD (Hl xs (4 * c+p)).toNat false)=true
          · exact Ac.pos hu (Ac.const _)
          · exact Ac.neg hu (R7 hc0 hb m c (p+1) _ _ (by omega) (by omega) hc hi (by rw [List.length_set]; exact ho))
      · exact Ac.neg (by rw [decide_eq_false hr]; decide) (Ac.const _)
    · obtain rfl:p=4:=by omega
      refine Ac.succ (Ac.congr (G:=fun K k=>Bg.l1 K k xs tin tout ((c+1:Nat):Int)) (fun K k=>by rw [Bg.l13,if_neg (by omega),Ce (by omega)]) ?_)
      cases hs:Ov (xs.getD (c+1) Ar) with
      | true =>
        have hne:c+1≠c0:=fun e=>by rw [e,hb] at hs; cases hs
        exact Oo hn (by omega) (of_decide_eq_true hs) (R7 hc0 hb m (c+1) 0 _ _ (by omega) (by omega) (by omega) hi ho)
      | false =>
        have h2:=of_decide_eq_false hs
        refine Ac.succ (Ac.congr (G:=fun K k=>Bg.j12 K k xs tin tout ((c+1:Nat):Int) (xs.getD (c+1) Ar) true) (fun K k=>?_) (Ac.succ (Ac.congr (fun K k=>?_) (Ac.const _))))
        · rw [Bg.l1,if_pos (by omega),if_pos (by omega),F5,Int.toNat_natCast,if_neg (fun h=>h2 (.inl h)),decide_eq_false (fun h=>h2 (.inr h))]
          rfl
        · rw [Bg.j12,if_pos rfl]
theorem Um (cs:Int) (r:Bool) (h:Ac (fun K k=>Bg.l1 K k xs (List.replicate (2 * xs.length) false) (List.replicate (2 * xs.length) false) 0) r):Ab (fun K=>Bg.f K xs cs) r:=by
  refine Ab.congr (fun K=>?_) h.I5
  have hw:w64 (2 * (xs.length:Int))=2 * (xs.length:Int):=Ip (by omega) (by omega)
  have ht:(2 * (xs.length:Int)).toNat=2 * xs.length:=by omega
  rw [Bg.f,hw,if_pos (by omega),ht,if_pos (by omega)]
theorem aK (cs:Int) {c0:Nat} (hc0:c0<xs.length) (hb:Ov (xs.getD c0 Ar)=false):Ab (fun K=>Bg.f K xs cs) false:=by
  refine Um hn cs _ ?_
  cases hs:Ov (xs.getD 0 Ar) with
  | true =>
    have hne:0≠c0:=fun e=>by rw [← e,hs] at hb; cases hb
    exact Oo hn (c:=0) (by omega) (of_decide_eq_true hs) (R7 hn hc0 hb (5 * xs.length) 0 0 _ _ (by omega) (by omega) (by omega) (by simp) (by simp))
  | false =>
    have h2:=of_decide_eq_false hs
    refine Ac.succ (Ac.congr (G:=fun K k=>Bg.j12 K k xs (List.replicate (2 * xs.length) false) (List.replicate (2 * xs.length) false) 0 (xs.getD 0 Ar) true) (fun K k=>?_) (Ac.succ (Ac.congr (fun K k=>?_) (Ac.const _))))
    · rw [Bg.l1,if_pos (by omega),if_pos (by omega),F5]
      show (if (xs.getD 0 Ar).Sign=1 then _ else _)=_
      rw [if_neg (fun h=>h2 (.inl h))]
      show Bg.j12 K k xs _ _ 0 (xs.getD 0 Ar) (!(decide ((xs.getD 0 Ar).Sign=(-1))))=_
      rw [decide_eq_false (fun h=>h2 (.inr h))]
      rfl
    · rw [Bg.j12,if_pos rfl]
theorem X0:Both xs 0 (List.replicate (2 * xs.length) ⟨-1,0⟩) (List.replicate (2 * xs.length) ⟨-1,0⟩) (List.replicate (2 * xs.length) false) (List.replicate (2 * xs.length) false):=by
  have hs:∀ b,Side xs b 0 (List.replicate (2 * xs.length) ⟨-1,0⟩) (List.replicate (2 * xs.length) false):=fun b=>by
    have hg:∀ i,i<2 * xs.length→((List.replicate (2 * xs.length) (⟨-1,0⟩:Gm)).getD i Ka)=⟨-1,0⟩:=fun i hi=>by
      rw [List.getD_eq_getElem?_getD,List.getElem?_replicate,if_pos hi]; rfl
    refine ⟨by simp,by simp,fun q' h=>by omega,fun i hi hc=>?_,fun i hi=>?_⟩
    · rw [hg i hi] at hc; exact absurd hc (by decide)
    · rw [hg i hi,List.getD_eq_getElem?_getD,List.getElem?_replicate,if_pos hi]; rfl
  have hc:(List.replicate (2 * xs.length) false).count true=0:=by rw [List.count_replicate]; rfl
  exact ⟨hs true,hs false,hc,by rw [hc]; rfl⟩
theorem scans (cs:Int) (hs:U7 xs) :
    (Ab (fun K=>Bg.f K xs cs) false∧∃ f t,Ab (fun K=>Bl.f K xs cs) (f,t,false)∧¬ Inj xs) ∨
    (Ab (fun K=>Bg.f K xs cs) true∧∃ f t,Ab (fun K=>Bl.f K xs cs) (f,t,true)∧Good xs f t):=by
  have gI:∀ r,Ac (fun K k=>Bl.l1 K k xs (List.replicate (2 * xs.length) ⟨-1,0⟩) (List.replicate (2 * xs.length) ⟨-1,0⟩) 0) r→Ab (fun K=>Bl.f K xs cs) r:=fun r h=>by
    refine Ab.congr (fun K=>rfl) (Ab.bind (Xp ⟨-1,0⟩ hn) (Ab.bind (Xp ⟨-1,0⟩ hn) ?_))
    exact h.I5
  by_cases h0:0<xs.length
  · rcases scan hn hs (5 * xs.length) 0 0 _ _ _ _ (by omega) (by omega) h0 (X0 hn) with ⟨h1,f,t,h2,h3⟩ | ⟨h1,f,t,h2,h3⟩
    · exact .inl ⟨Um hn cs _ (Oo hn (c:=0) h0 (hs 0 h0) h1),f,t,gI _ (Ql hn (c:=0) h0 h2),h3⟩
    · exact .inr ⟨Um hn cs _ (Oo hn (c:=0) h0 (hs 0 h0) h1),f,t,gI _ (Ql hn (c:=0) h0 h2),h3⟩
  · refine .inr ⟨Um hn cs _ (Ac.succ (Ac.congr (fun K k=>?_) (Ac.const true))),_,_,gI _ (Ac.succ (Ac.congr (fun K k=>?_) (Ac.const (_,_,true)))),Both.good hs (tin:=List.replicate (2 * xs.length) false) (tout:=List.replicate (2 * xs.length) false) (by rw [show 4 * xs.length=0 by omega]; exact X0 hn)⟩
    · rw [Bg.l1,if_neg (by omega)]
    · rw [Bl.l1,if_neg (by omega)]
end
end Go.Proofs.YtjopfecenllmgaaGreatDoor
