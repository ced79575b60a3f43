/-
  Triangulations: the classes of faces and of vertices in both.
  Triangulations: the moves that are possible, in both.
  ApplyMoves in both.
  SimplifyMoves in both: the number of tetrahedra falls.
  Marks of lists, in general: what marking leaves is found again.
  Marks of moves; moves are equal to themselves.
  Marks of triangulations: what marking leaves is found again.
-/
import Derived.Test.YtbjfinndngafoaaGreatPlT27
import Derived.Test.YtbjfinndngafoaaGreatPlT53
set_option linter.unusedVariables false
set_option linter.unusedSimpArgs false
set_option linter.unusedSectionVars false
namespace Go.Proofs.YtbjfinndngafoaaGreat
open Go.RowKit
section
variable {n:Nat} (hn:n≤8) {a f b p:Nat} (ha:a<n) (hf:f<4) (hb:b<n) (hp:p<24) {J:List (Nat × Nat)}
include hn ha hf hb hp
theorem yG {s:List Int} (hs:G7 (4 * n) J s):∃ s',Ac (fun K=>Cx.f K (a:Int) (f:Int) (b:Int) (p:Int) (PA p 0:Int) (PA p 1:Int) (PA p 2:Int) (PA p 3:Int) s) s'∧s'.length=s.length∧G7 (4 * n) (J++jf ⟨b,p⟩ a f) s':=by
  have h:=Ei hp hf
  obtain ⟨s1,t1,l1,h1⟩:=Zd (by omega) hs (i:=4 * a+f) (k:=4 * b+PA p f) (mul_lt ha hf) (mul_lt hb h)
  refine ⟨s1,Ac.pos (by omega) (Ac.bind (a:=s1) ?_ (Ac.pos l1 (Ac.const _))),l1,h1⟩
  refine Ac.congr (fun K=>?_) t1
  have e1:=w6 (c:=4) (a:=a) (e:=f) (by decide) (by omega) (by omega)
  have e2:=w6 (c:=4) (a:=b) (e:=PA p f) (by decide) (by omega) (by omega)
  rw [Qy hf,← e1,← e2]
  rfl
theorem V4 {t7:List Int} {i v:Nat} (hi:i<3) (hl:t7.length=3) (hv:v<4) (ht:t7.getD i 0=(v:Int)) {s:List Int} (hs:G7 (4 * n) J s) :
    ∃ s1,s1.length=s.length∧G7 (4 * n) (J++[(4 * a+v,4 * b+PA p v)]) s1∧∀ R,Aa (fun K k=>Bc.l1 K k (a:Int) (b:Int) (PA p 0:Int) (PA p 1:Int) (PA p 2:Int) (PA p 3:Int) t7 s1 ((i+1:Nat):Int)) R→Aa (fun K k=>Bc.l1 K k (a:Int) (b:Int) (PA p 0:Int) (PA p 1:Int) (PA p 2:Int) (PA p 3:Int) t7 s (i:Int)) R:=by
  have h:=Ei hp hv
  obtain ⟨s1,t1,l1,h1⟩:=Zd (by omega) hs (i:=4 * a+v) (k:=4 * b+PA p v) (mul_lt ha hv) (mul_lt hb h)
  refine ⟨s1,l1,h1,fun R hR=>?_⟩
  have e1:w64 (w64 (4 * (a:Int))+(v:Int))=((4 * a+v:Nat):Int):=w6 (c:=4) (by decide) (by omega) (by omega)
  have e2:w64 (w64 (4 * (b:Int))+(PA p v:Int))=((4 * b+PA p v:Nat):Int):=w6 (c:=4) (by decide) (by omega) (by omega)
  have g:=Qy (p:=p) hv
  rw [Int.toNat_natCast] at g
  refine Aa.succ ?_
  simp only [Bc.l1,Int.toNat_natCast,ht,g,e1,e2]
  refine Aa.pos (by omega) (Aa.pos (by omega) (Aa.pos (by omega) ?_))
  refine Aa.bind t1.two (Aa.pos l1 ?_)
  rw [Be (by omega)]
  exact hR
theorem xX {s:List Int} (hs:G7 (4 * n) J s):∃ s',Ac (fun K=>Bc.f K (a:Int) (f:Int) (b:Int) (p:Int) (PA p 0:Int) (PA p 1:Int) (PA p 2:Int) (PA p 3:Int) s) s'∧s'.length=s.length∧G7 (4 * n) (J++LJ (jv ⟨b,p⟩ a f) 4) s':=by
  obtain ⟨u,v,w,hO,hu,hv',hw,hJ⟩:∃ u v w,OT [f]=[u,v,w]∧u<4∧v<4∧w<4∧LJ (jv ⟨b,p⟩ a f) 4=[(4 * a+u,4 * b+PA p u),(4 * a+v,4 * b+PA p v),(4 * a+w,4 * b+PA p w)]:=by
    rcases (by omega:f=0∨f=1∨f=2∨f=3) with rfl | rfl | rfl | rfl
    · exact ⟨1,2,3,rfl,by omega,by omega,by omega,rfl⟩
    · exact ⟨0,2,3,rfl,by omega,by omega,by omega,rfl⟩
    · exact ⟨0,1,3,rfl,by omega,by omega,by omega,rfl⟩
    · exact ⟨0,1,2,rfl,by omega,by omega,by omega,rfl⟩
  obtain ⟨s1,l1,p1,c1⟩:=V4 hn ha hf hb hp (t7:=ints [u,v,w]) (i:=0) (v:=u) (by omega) rfl hu rfl hs
  obtain ⟨s2,l2,p2,c2⟩:=V4 hn ha hf hb hp (t7:=ints [u,v,w]) (i:=1) (v:=v) (by omega) rfl hv' rfl p1
  obtain ⟨s3,l3,p3,c3⟩:=V4 hn ha hf hb hp (t7:=ints [u,v,w]) (i:=2) (v:=w) (by omega) rfl hw rfl p2
  refine ⟨s3,Ac.bind (Mg hf) ?_,by omega,?_⟩
  · rw [hO]
    refine Aa.Hg (F:=fun K k=>Bc.l1 K k (a:Int) (b:Int) (PA p 0:Int) (PA p 1:Int) (PA p 2:Int) (PA p 3:Int) (ints [u,v,w]) s ((0:Nat):Int)) ?_
    refine c1 _ (c2 _ (c3 _ (Aa.of fun K k=>?_)))
    rw [Bc.l1,if_neg (by show ¬ ((3:Nat):Int)<((3:Nat):Int); omega)]
  · rw [hJ]
    have e:J++[(4 * a+u,4 * b+PA p u),(4 * a+v,4 * b+PA p v),(4 * a+w,4 * b+PA p w)]=J++[(4 * a+u,4 * b+PA p u)]++[(4 * a+v,4 * b+PA p v)]++[(4 * a+w,4 * b+PA p w)]:=by simp
    rw [e]; exact p3
end
section
variable {ts:List (List Ab)} (hv:Val ts)
include hv
theorem Z7 {a:Nat} (ha:a<ts.length) {J:List (Nat × Nat)}:∀ (d f:Nat) (s:List Int),4 - f=d→f≤4→G7 (4 * ts.length) (J++LJ (JFf ts a) f) s →
    ∃ s',s'.length=s.length∧G7 (4 * ts.length) (J++LJ (JFf ts a) 4) s'∧∀ R,Aa (fun K k=>Ag.l1 K k ts s' ((a+1:Nat):Int)) R→Aa (fun K k=>Ag.l4 K k ts (a:Int) s (f:Int)) R
  | 0,f,s,hd,hf,hs=>by
    obtain rfl:f=4:=by omega
    refine ⟨s,rfl,hs,fun R hR=>Aa.step (fun K k=>?_) hR⟩
    have:=hv.four a ha
    have:=hv.le
    rw [Ag.l4,Int.toNat_natCast,if_neg (by omega),Be (by omega)]
  | d+1,f,s,hd,hf,hs=>by
    have h4:=hv.four a ha
    have h8:=hv.le
    rcases Ep hv ha (show f<4 by omega) with ⟨h1,h2⟩ | ⟨h1,b,p,hb,hp,h2,_⟩
    · obtain ⟨s',l,h,c⟩:=Z7 ha d (f+1) s (by omega) (by omega) (by rw [LJ,JFf,if_pos h1,List.append_nil]; exact hs)
      refine ⟨s',l,h,fun R hR=>Aa.step (fun K k=>?_) (c R hR)⟩
      rw [Ag.l4,Int.toNat_natCast,if_pos (by omega),if_pos (by omega),Int.toNat_natCast,Fs,Be (by omega)]
      show (Bi.f (Cg ts a f).Tet (Cg ts a f).Perm).bind _=_
      rw [isB hv,Option.bind_some,decide_eq_true h1,if_pos rfl]
    · obtain ⟨s1,t1,l1,g1⟩:=yG hv.le ha (show f<4 by omega) hb hp hs
      obtain ⟨s',l,h,c⟩:=Z7 ha d (f+1) s1 (by omega) (by omega) (by rw [LJ,JFf,if_neg h1,h2,← List.append_assoc]; exact g1)
      refine ⟨s',l.trans l1,h,fun R hR=>Aa.step (fun K k=>?_) (Aa.D7 (F:=fun K _=>Ct.f K (p:Int)) (G:=fun K k i0 i1 i2 i3=>(Cx.f K (a:Int) (f:Int) (b:Int) (p:Int) i0 i1 i2 i3 s).bind fun t228=>if t228.length=s.length then Ag.l4 K k ts (a:Int) t228 ((f+1:Nat):Int) else none) (Kz hp).two (Aa.bind t1.two (Aa.pos l1 (c R hR))))⟩
      rw [Ag.l4,Int.toNat_natCast,if_pos (by omega),if_pos (by omega),Int.toNat_natCast,Fs,Be (by omega)]
      show (Bi.f (Cg ts a f).Tet (Cg ts a f).Perm).bind _=_
      rw [isB hv,Option.bind_some,decide_eq_false h1,if_neg (by decide)]
      show D7 (Ct.f K (Cg ts a f).Perm) (fun t221 t222 t223 t224=>(Cx.f K (a:Int) (f:Int) (Cg ts a f).Tet (Cg ts a f).Perm t221 t222 t223 t224 s).bind _)=_
      rw [h2]
theorem iD:∀ (d a:Nat) (s:List Int),ts.length - a=d→a≤ts.length→G7 (4 * ts.length) (LJ (fun a=>LJ (JFf ts a) 4) a) s →
    ∃ s',Aa (fun K k=>Ag.l1 K k ts s (a:Int)) s'∧s'.length=s.length∧G7 (4 * ts.length) (JF ts) s'
  | 0,a,s,hd,ha,hs=>by
    obtain rfl:a=ts.length:=by omega
    exact ⟨s,Aa.of fun K k=>by rw [Ag.l1,if_neg (by omega)],rfl,hs⟩
  | d+1,a,s,hd,ha,hs=>by
    have hlt:a<ts.length:=by omega
    obtain ⟨s1,l1,g1,c⟩:=Z7 hv hlt 4 0 s (by omega) (by omega) (by rw [LJ,List.append_nil]; exact hs)
    obtain ⟨s',t,l,h⟩:=iD d (a+1) s1 (by omega) (by omega) (by rw [LJ]; exact g1)
    refine ⟨s',Aa.step (fun K k=>?_) (c s' t),l.trans l1,h⟩
    rw [Ag.l1,if_pos (by omega),if_pos (by omega)]
    rfl
theorem Ut:∃ s,G7 (4 * ts.length) (JF ts) s∧Ac (fun K=>Dy.f K ts) (CN (4 * ts.length) s):=by
  have h8:=hv.le
  obtain ⟨s',t,l,h⟩:=iD hv ts.length 0 (upto (4 * ts.length)) (by omega) (by omega) (Mw _)
  refine ⟨s',h,Ac.Nz (x:=(ts.length:Int)) rfl (Ac.bind (a:=upto (4 * ts.length)) ?_ (Ac.bind t.Hg (Ac.pos l (Ac.bind (a:=CN (4 * ts.length) s') ?_ (Ac.const _)))))⟩
  · refine Ac.congr (fun K=>?_) (M3 hv (N:=4 * ts.length) (by omega) _ 0 rfl (Nat.zero_le _)).Hg
    have e1:=w6' (c:=4) (a:=ts.length) (by decide) (by omega)
    rw [← e1]
    rfl
  · have:=numbered (s:=s') (by rw [h.len]; omega)
    rw [h.len] at this
    exact this
theorem Zt {a:Nat} (ha:a<ts.length) {J:List (Nat × Nat)}:∀ (d f:Nat) (s:List Int),4 - f=d→f≤4→G7 (4 * ts.length) (J++LJ (JVf ts a) f) s →
    ∃ s',s'.length=s.length∧G7 (4 * ts.length) (J++LJ (JVf ts a) 4) s'∧∀ R,Aa (fun K k=>Af.l1 K k ts s' ((a+1:Nat):Int)) R→Aa (fun K k=>Af.l4 K k ts (a:Int) s (f:Int)) R
  | 0,f,s,hd,hf,hs=>by
    obtain rfl:f=4:=by omega
    refine ⟨s,rfl,hs,fun R hR=>Aa.step (fun K k=>?_) hR⟩
    have:=hv.four a ha
    have:=hv.le
    rw [Af.l4,Int.toNat_natCast,if_neg (by omega),Be (by omega)]
  | d+1,f,s,hd,hf,hs=>by
    have h4:=hv.four a ha
    have h8:=hv.le
    rcases Ep hv ha (show f<4 by omega) with ⟨h1,h2⟩ | ⟨h1,b,p,hb,hp,h2,_⟩
    · obtain ⟨s',l,h,c⟩:=Zt ha d (f+1) s (by omega) (by omega) (by rw [LJ,JVf,if_pos h1,List.append_nil]; exact hs)
      refine ⟨s',l,h,fun R hR=>Aa.step (fun K k=>?_) (c R hR)⟩
      rw [Af.l4,Int.toNat_natCast,if_pos (by omega),if_pos (by omega),Int.toNat_natCast,Fs,Be (by omega)]
      show (Bi.f (Cg ts a f).Tet (Cg ts a f).Perm).bind _=_
      rw [isB hv,Option.bind_some,decide_eq_true h1,if_pos rfl]
    · obtain ⟨s1,t1,l1,g1⟩:=xX hv.le ha (show f<4 by omega) hb hp hs
      obtain ⟨s',l,h,c⟩:=Zt ha d (f+1) s1 (by omega) (by omega) (by rw [LJ,JVf,if_neg h1,h2,← List.append_assoc]; exact g1)
      refine ⟨s',l.trans l1,h,fun R hR=>Aa.step (fun K k=>?_) (Aa.D7 (F:=fun K _=>Ct.f K (p:Int)) (G:=fun K k i0 i1 i2 i3=>(Bc.f K (a:Int) (f:Int) (b:Int) (p:Int) i0 i1 i2 i3 s).bind fun t228=>if t228.length=s.length then Af.l4 K k ts (a:Int) t228 ((f+1:Nat):Int) else none) (Kz hp).two (Aa.bind t1.two (Aa.pos l1 (c R hR))))⟩
      rw [Af.l4,Int.toNat_natCast,if_pos (by omega),if_pos (by omega),Int.toNat_natCast,Fs,Be (by omega)]
      show (Bi.f (Cg ts a f).Tet (Cg ts a f).Perm).bind _=_
      rw [isB hv,Option.bind_some,decide_eq_false h1,if_neg (by decide)]
      show D7 (Ct.f K (Cg ts a f).Perm) (fun t221 t222 t223 t224=>(Bc.f K (a:Int) (f:Int) (Cg ts a f).Tet (Cg ts a f).Perm t221 t222 t223 t224 s).bind _)=_
      rw [h2]
theorem jO:∀ (d a:Nat) (s:List Int),ts.length - a=d→a≤ts.length→G7 (4 * ts.length) (LJ (fun a=>LJ (JVf ts a) 4) a) s →
    ∃ s',Aa (fun K k=>Af.l1 K k ts s (a:Int)) s'∧s'.length=s.length∧G7 (4 * ts.length) (JV ts) s'
  | 0,a,s,hd,ha,hs=>by
    obtain rfl:a=ts.length:=by omega
    exact ⟨s,Aa.of fun K k=>by rw [Af.l1,if_neg (by omega)],rfl,hs⟩
  | d+1,a,s,hd,ha,hs=>by
    have hlt:a<ts.length:=by omega
    obtain ⟨s1,l1,g1,c⟩:=Zt hv hlt 4 0 s (by omega) (by omega) (by rw [LJ,List.append_nil]; exact hs)
    obtain ⟨s',t,l,h⟩:=jO d (a+1) s1 (by omega) (by omega) (by rw [LJ]; exact g1)
    refine ⟨s',Aa.step (fun K k=>?_) (c s' t),l.trans l1,h⟩
    rw [Af.l1,if_pos (by omega),if_pos (by omega)]
    rfl
theorem Rx:∃ s,G7 (4 * ts.length) (JV ts) s∧Ac (fun K=>Dt.f K ts) (CN (4 * ts.length) s):=by
  have h8:=hv.le
  obtain ⟨s',t,l,h⟩:=jO hv ts.length 0 (upto (4 * ts.length)) (by omega) (by omega) (Mw _)
  refine ⟨s',h,Ac.Nz (x:=(ts.length:Int)) rfl (Ac.bind (a:=upto (4 * ts.length)) ?_ (Ac.bind t.Hg (Ac.pos l (Ac.bind (a:=CN (4 * ts.length) s') ?_ (Ac.const _)))))⟩
  · refine Ac.congr (fun K=>?_) (M3 hv (N:=4 * ts.length) (by omega) _ 0 rfl (Nat.zero_le _)).Hg
    have e1:=w6' (c:=4) (a:=ts.length) (by decide) (by omega)
    rw [← e1]
    rfl
  · have:=numbered (s:=s') (by rw [h.len]; omega)
    rw [h.len] at this
    exact this
end
def Uq (ts:List (List Ab)) (l:List Dg):Prop:=∀ m,m ∈ l→Ac (fun K=>Hq.f K ts m.Kind m.Tet m.Index) 0
theorem Uq.app {ts:List (List Ab)} {l:List Dg} {k a i:Int} (h:Uq ts l) (hm:Ac (fun K=>Hq.f K ts k a i) 0):Uq ts (l++[⟨k,a,i⟩]):=fun m hm'=>by
  rcases List.mem_append.1 hm' with h' | h'
  · exact h m h'
  · rw [List.mem_singleton] at h'; subst h'; exact hm
structure Seen (m:List (Gq × Bool)) (k:Nat) (seen:List Int):Prop where
  now:∀ c:Int,(Jn m ⟨(k:Int),c⟩).getD false=true↔c ∈ seen
  later:∀ k':Nat,k<k'→∀ c:Int,Jn m ⟨(k':Int),c⟩=none
theorem Seen.next {m:List (Gq × Bool)} {k:Nat} {seen:List Int} (h:Seen m k seen):Seen m (k+1) [] :=
  ⟨fun c=>by rw [h.later (k+1) (by omega) c]; simp,fun k' hk c=>h.later k' (by omega) c⟩
theorem Seen.put {m:List (Gq × Bool)} {k:Nat} {seen:List Int} (h:Seen m k seen) (v:Int):Seen (Ns m ⟨(k:Int),v⟩ true) k (seen++[v]):=by
  refine ⟨fun c=>?_,fun k' hk c=>?_⟩
  · rw [Mh,List.mem_append,List.mem_singleton]
    by_cases e:c=v
    · subst e
      rw [if_pos rfl]; simp
    · rw [if_neg (fun q=>e (by injection q)),h.now]
      simp [e]
  · rw [Mh,if_neg (fun q=>by injection q with q _; omega)]
    exact h.later k' hk c
theorem Wv:Seen [] 1 []:=⟨fun c=>by simp [Jn],fun _ _ _=>rfl⟩
section
variable {ts:List (List Ab)} (hv:Val ts) (hT:Ac (fun K=>Aj.f K ts) true) {vs ys fs:List Int}
  (hV:Ac (fun K=>Dt.f K ts) (CN (4 * ts.length) vs)) (hE:Ac (fun K=>Bl.f K ts) (CN (6 * ts.length) ys)) (hF:Ac (fun K=>Dy.f K ts) (CN (4 * ts.length) fs))
include hv hT hV hE hF
theorem kK {k:Nat} (hk:1≤k) (hk4:k≤4) {a i:Nat} (ha:a<ts.length) (hi:(i:Int)<most (k:Int)):∃ c:Int,
    Ac (fun _=>Jd.f (rowsOf (CN (4 * ts.length) vs) 4 ts.length) (rowsOf (CN (6 * ts.length) ys) 6 ts.length) (rowsOf (CN (4 * ts.length) fs) 4 ts.length) (k:Int) (a:Int) (i:Int)) c∧Ac (fun K=>Fh.f K ts (k:Int) (a:Int) (i:Int)) c:=by
  have h8:=hv.le
  unfold most at hi
  rcases (by omega:k=1∨k=2∨k=3∨k=4) with rfl | rfl | rfl | rfl
  · have hi:i<4:=by simp at hi; omega
    have w:w64 (w64 (4 * (a:Int))+(i:Int))=((4 * a+i:Nat):Int):=w6 (c:=4) (by decide) (by omega) (by omega)
    refine ⟨(CN (4 * ts.length) fs).getD (4 * a+i) 0,?_,?_⟩
    · refine Ac.pos rfl (Ac.pos (by rw [Hd]; omega) ?_)
      simp only [Int.toNat_natCast,Ij ha,Jf hi]
      exact Ac.pos (by rw [Jl]; omega) (Ac.const _)
    · refine Ac.pos rfl (Ac.bind hF ?_)
      simp only [w,Int.toNat_natCast]
      exact Ac.pos (by rw [La]; omega) (Ac.const _)
  · have hi:i<6:=by simp at hi; omega
    have w:w64 (w64 (6 * (a:Int))+(i:Int))=((6 * a+i:Nat):Int):=w6 (c:=6) (by decide) (by omega) (by omega)
    refine ⟨(CN (6 * ts.length) ys).getD (6 * a+i) 0,?_,?_⟩
    · refine Ac.neg (by decide) (Ac.pos rfl (Ac.pos (by rw [Hd]; omega) ?_))
      simp only [Int.toNat_natCast,Ij ha,Jf hi]
      exact Ac.pos (by rw [Jl]; omega) (Ac.const _)
    · refine Ac.neg (by decide) (Ac.pos rfl (Ac.bind hE ?_))
      simp only [w,Int.toNat_natCast]
      exact Ac.pos (by rw [La]; omega) (Ac.const _)
  · exact ⟨(a:Int),Ac.neg (by decide) (Ac.neg (by decide) (Ac.pos rfl (Ac.const _))),Ac.neg (by decide) (Ac.neg (by decide) (Ac.pos rfl (Ac.const _)))⟩
  · have hi:i<4:=by simp at hi; omega
    have w:w64 (w64 (4 * (a:Int))+(i:Int))=((4 * a+i:Nat):Int):=w6 (c:=4) (by decide) (by omega) (by omega)
    refine ⟨(CN (4 * ts.length) vs).getD (4 * a+i) 0,?_,?_⟩
    · refine Ac.neg (by decide) (Ac.neg (by decide) (Ac.neg (by decide) (Ac.pos (by rw [Hd]; omega) ?_)))
      simp only [Int.toNat_natCast,Ij ha,Jf hi]
      exact Ac.pos (by rw [Jl]; omega) (Ac.const _)
    · refine Ac.neg (by decide) (Ac.neg (by decide) (Ac.neg (by decide) (Ac.bind hV ?_)))
      simp only [w,Int.toNat_natCast]
      exact Ac.pos (by rw [La]; omega) (Ac.const _)
theorem V5 {k:Nat} (hk:1≤k) (hk4:k≤4) {a:Nat} (ha:a<ts.length):∀ (d i:Nat) (out:List Dg) (seen:List Int) (m:List (Gq × Bool)),(most (k:Int)).toNat - i=d→i≤(most (k:Int)).toNat→Seen m k seen→out.length+d≤500→seen.length+d≤500 →
    ∃ out' seen' m',Seen m' k seen'∧(out'.length≤out.length+d∧(Uq ts out→Uq ts out'))∧seen'.length≤seen.length+d ∧
      (∀ R,Aa (fun K r=>Br.l10 K r ts (rowsOf (CN (4 * ts.length) vs) 4 ts.length) (rowsOf (CN (6 * ts.length) ys) 6 ts.length) (rowsOf (CN (4 * ts.length) fs) 4 ts.length) (k:Int) out' seen' ((a+1:Nat):Int)) R →
        Aa (fun K r=>Br.l13 K r ts (rowsOf (CN (4 * ts.length) vs) 4 ts.length) (rowsOf (CN (6 * ts.length) ys) 6 ts.length) (rowsOf (CN (4 * ts.length) fs) 4 ts.length) (k:Int) (a:Int) out seen (i:Int)) R) ∧
      (∀ R,Aa (fun K r=>Ak.l10 K r ts (k:Int) (ts.length:Int) out' m' ((a+1:Nat):Int)) R →
        Aa (fun K r=>Ak.l13 K r ts (k:Int) (ts.length:Int) (a:Int) (most (k:Int)) out m (i:Int)) R)
  | 0,i,out,seen,m,hd,hle,hs,b1,b2=>by
    have h8:=hv.le
    have hm:0≤most (k:Int)∧most (k:Int)≤6:=by unfold most; (repeat' split) <;> omega
    refine ⟨out,seen,m,hs,⟨by omega,id⟩,by omega,fun R h=>?_,fun R h=>?_⟩
    · refine Aa.succ ?_
      simp only [Br.l13]
      refine Aa.bind (Ui (k:Int)).two (Aa.neg (by omega) ?_)
      rw [Be (by omega)]; exact h
    · refine Aa.step (fun K r=>?_) h
      rw [Ak.l13,if_neg (by omega),Be (by omega)]
  | d+1,i,out,seen,m,hd,hle,hs,b1,b2=>by
    have h8:=hv.le
    have hm:0≤most (k:Int)∧most (k:Int)≤6:=by unfold most; (repeat' split) <;> omega
    have hi:(i:Int)<most (k:Int):=by omega
    have a1:(most (k:Int)).toNat - (i+1)=d:=by omega
    have a2:i+1≤(most (k:Int)).toNat:=by omega
    obtain ⟨c,c1,c2⟩:=kK hv hT hV hE hF hk hk4 ha hi
    obtain ⟨r,code,pl,q1,q2,_⟩:=jF hv hT (k:Int) (a:Int) (i:Int)
    have q3:Ac (fun K=>Hq.f K ts (k:Int) (a:Int) (i:Int)) code:=Ac.D7 q2 (Ac.const _)
    by_cases hc:code=0∧¬ c ∈ seen
    · obtain ⟨out',seen',m',g1,⟨g2,gp⟩,g3,g4,g5⟩:=V5 hk hk4 ha d (i+1) (out++[⟨(k:Int),(a:Int),(i:Int)⟩]) (seen++[c]) (Ns m ⟨(k:Int),c⟩ true) a1 a2 (hs.put c) (by rw [List.length_append,List.length_singleton]; omega) (by rw [List.length_append,List.length_singleton]; omega)
      rw [List.length_append,List.length_singleton] at g2 g3
      refine ⟨out',seen',m',g1,⟨by omega,fun p=>gp (p.app (by rw [← hc.1]; exact q3))⟩,by omega,fun R h=>?_,fun R h=>?_⟩
      · have:=g4 R h
        refine Aa.succ ?_
        simp only [Br.l13]
        refine Aa.bind (Ui (k:Int)).two (Aa.pos (by omega) ?_)
        refine Aa.bind c1.two ?_
        refine Aa.bind (aX (by omega)).two ?_
        refine Aa.neg (by rw [decide_eq_true_eq]; exact hc.2) ?_
        refine Aa.bind q3.two ?_
        refine Aa.pos hc.1 (Aa.pos (by omega) (Aa.pos (by omega) ?_))
        rw [Be (by omega)]; exact this
      · have:=g5 R h
        refine Aa.succ ?_
        simp only [Ak.l13]
        refine Aa.pos (by omega) ?_
        refine Aa.Ew q1.two ?_
        refine Aa.pos hc.1 ?_
        refine Aa.bind c2.two ?_
        refine Aa.neg (fun q=>hc.2 ((hs.now c).1 q)) (Aa.pos (by omega) ?_)
        rw [Be (by omega)]; exact this
    · obtain ⟨out',seen',m',g1,⟨g2,gp⟩,g3,g4,g5⟩:=V5 hk hk4 ha d (i+1) out seen m a1 a2 hs (by omega) (by omega)
      refine ⟨out',seen',m',g1,⟨by omega,gp⟩,by omega,fun R h=>?_,fun R h=>?_⟩
      · have:=g4 R h
        refine Aa.succ ?_
        simp only [Br.l13]
        refine Aa.bind (Ui (k:Int)).two (Aa.pos (by omega) ?_)
        refine Aa.bind c1.two ?_
        refine Aa.bind (aX (by omega)).two ?_
        rw [Be (by omega)]
        by_cases hin:c ∈ seen
        · exact Aa.pos (decide_eq_true hin) this
        · refine Aa.neg (by rw [decide_eq_true_eq]; exact hin) (Aa.bind q3.two ?_)
          exact Aa.neg (fun e=>hc ⟨e,hin⟩) this
      · have:=g5 R h
        refine Aa.succ ?_
        simp only [Ak.l13]
        refine Aa.pos (by omega) ?_
        refine Aa.Ew q1.two ?_
        rw [Be (by omega)]
        by_cases h0:code=0
        · refine Aa.pos h0 (Aa.bind c2.two ?_)
          have hin:c ∈ seen:=Classical.byContradiction fun q=>hc ⟨h0,q⟩
          exact Aa.pos ((hs.now c).2 hin) this
        · exact Aa.neg h0 this
theorem bM {k:Nat} (hk:1≤k) (hk4:k≤4):∀ (d a:Nat) (out:List Dg) (seen:List Int) (m:List (Gq × Bool)),ts.length - a=d→a≤ts.length→Seen m k seen→out.length+6 * d≤490→seen.length+6 * d≤490 →
    ∃ out' m',Seen m' (k+1) []∧(out'.length≤out.length+6 * d∧(Uq ts out→Uq ts out')) ∧
      (∀ R,Aa (fun K r=>Br.l1 K r ts (rowsOf (CN (4 * ts.length) vs) 4 ts.length) (rowsOf (CN (6 * ts.length) ys) 6 ts.length) (rowsOf (CN (4 * ts.length) fs) 4 ts.length) out' ((k+1:Nat):Int)) R →
        Aa (fun K r=>Br.l10 K r ts (rowsOf (CN (4 * ts.length) vs) 4 ts.length) (rowsOf (CN (6 * ts.length) ys) 6 ts.length) (rowsOf (CN (4 * ts.length) fs) 4 ts.length) (k:Int) out seen (a:Int)) R) ∧
      (∀ R,Aa (fun K r=>Ak.l1 K r ts out' m' ((k+1:Nat):Int)) R →
        Aa (fun K r=>Ak.l10 K r ts (k:Int) (ts.length:Int) out m (a:Int)) R)
  | 0,a,out,seen,m,hd,hle,hs,b1,b2=>by
    have h8:=hv.le
    refine ⟨out,m,hs.next,⟨by omega,id⟩,fun R h=>Aa.step (fun K r=>?_) h,fun R h=>Aa.step (fun K r=>?_) h⟩
    · rw [Br.l10,Cs.f,Option.bind_some,if_neg (by omega),Be (by omega)]
    · rw [Ak.l10,if_neg (by omega),Be (by omega)]
  | d+1,a,out,seen,m,hd,hle,hs,b1,b2=>by
    have h8:=hv.le
    have hm:0≤most (k:Int)∧most (k:Int)≤6:=by unfold most; (repeat' split) <;> omega
    obtain ⟨o1,s1,m1,g1,⟨g2,gp⟩,g3,g4,g5⟩:=V5 hv hT hV hE hF hk hk4 (show a<ts.length by omega) _ 0 out seen m rfl (by omega) hs (by omega) (by omega)
    obtain ⟨o2,m2,f1,⟨f2,fp⟩,f3,f4⟩:=bM hk hk4 d (a+1) o1 s1 m1 (by omega) (by omega) g1 (by omega) (by omega)
    refine ⟨o2,m2,f1,⟨by omega,fun p=>fp (gp p)⟩,fun R h=>?_,fun R h=>?_⟩
    · refine Aa.step (fun K r=>?_) (g4 R (f3 R h))
      rw [Br.l10,Cs.f,Option.bind_some,if_pos (by omega)]; rfl
    · refine Aa.succ ?_
      simp only [Ak.l10]
      refine Aa.pos (by omega) (Aa.bind (Uu (k:Int)).two ?_)
      exact g5 R (f4 R h)
theorem eP:∀ (d k:Nat) (out:List Dg) (m:List (Gq × Bool)),5 - k=d→1≤k→k≤5→Seen m k []→out.length+48 * d≤200 →
    ∃ L:List Dg,(L.length≤out.length+48 * d∧(Uq ts out→Uq ts L))∧Aa (fun K r=>Br.l1 K r ts (rowsOf (CN (4 * ts.length) vs) 4 ts.length) (rowsOf (CN (6 * ts.length) ys) 6 ts.length) (rowsOf (CN (4 * ts.length) fs) 4 ts.length) out (k:Int)) L∧Aa (fun K r=>Ak.l1 K r ts out m (k:Int)) L
  | 0,k,out,m,hd,hk,hle,hs,b1=>by
    refine ⟨out,⟨by omega,id⟩,Aa.of fun K r=>?_,Aa.of fun K r=>?_⟩
    · rw [Br.l1,if_neg (by omega)]
    · rw [Ak.l1,if_neg (by omega)]
  | d+1,k,out,m,hd,hk,hle,hs,b1=>by
    have h8:=hv.le
    obtain ⟨o1,m1,g1,⟨g2,gp⟩,g3,g4⟩:=bM hv hT hV hE hF hk (show k≤4 by omega) ts.length 0 out [] m rfl (by omega) hs (by omega) (by simp; omega)
    obtain ⟨L,⟨f0,fp⟩,f1,f2⟩:=eP d (k+1) o1 m1 (by omega) (by omega) (by omega) g1 (by omega)
    refine ⟨L,⟨by omega,fun p=>fp (gp p)⟩,Aa.step (fun K r=>?_) (g3 L f1),Aa.step (fun K r=>?_) (g4 L f2)⟩
    · rw [Br.l1,if_pos (by omega)]; rfl
    · rw [Ak.l1,if_pos (by omega),Bw.f,Option.bind_some]; rfl
end
theorem aJ {ts:List (List Ab)} (hv:Val ts) (hT:Ac (fun K=>Aj.f K ts) true):∃ L:List Dg,L.length≤200∧Ac (fun K=>Br.f K ts) L∧Ac (fun K=>Ak.f K ts) L∧Uq ts L:=by
  obtain ⟨vs,ys,fs,h1,h2,h3,hcnt⟩:=aM hv
  obtain ⟨s1,p1,t1⟩:=Pj hv
  obtain ⟨s2,p2,t2⟩:=Rx hv
  obtain ⟨s3,p3,t3⟩:=Ut hv
  have hE:Ac (fun K=>Bl.f K ts) (CN (6 * ts.length) ys):=by rw [R8 (h2.1.same p1)]; exact t1
  have hV:Ac (fun K=>Dt.f K ts) (CN (4 * ts.length) vs):=by rw [R8 (h1.1.same p2)]; exact t2
  have hF:Ac (fun K=>Dy.f K ts) (CN (4 * ts.length) fs):=by rw [R8 (h3.1.same p3)]; exact t3
  obtain ⟨L,⟨l,p⟩,a,b⟩:=eP hv hT hV hE hF 4 1 [] [] (by omega) (by omega) (by omega) Wv (by simp)
  exact ⟨L,by simp at l; omega,Ac.D7 hcnt a.Hg,b.Hg,p fun m h=>(List.not_mem_nil h).elim⟩
theorem eZ {L:List (List Ab)} {m:Nat} (h:Shape L m) (hm:m≤100):∀ (d x:Nat) (out:List (List Ab)),m - x=d→x≤m→out=L.take x→Aa (fun K k=>Gy.l1 K k L out (x:Int)) L
  | 0,x,out,hd,hx,ho=>by
    have hl:=h.len
    refine Aa.of fun K k=>?_
    rw [Gy.l1,if_neg (by omega),ho,List.take_of_length_le (by omega)]
  | d+1,x,out,hd,hx,ho=>by
    have hl:=h.len
    have hr:=h.row x (by omega)
    have hlo:out.length=x:=by rw [ho,List.length_take]; omega
    refine Aa.step (fun K k=>?_) (eZ h hm d (x+1) (out++[L.getD x []]) (by omega) (by omega) (by
      rw [ho,List.take_add_one,List.getD_eq_getElem?_getD,List.getElem?_eq_getElem (by omega)]; rfl))
    rw [Gy.l1,if_pos (by omega),if_pos (by omega),Int.toNat_natCast,if_pos (by rw [hr]; decide),if_pos (by omega),Be (by omega)]
    rfl
theorem uV {L:List (List Ab)} {m:Nat} (h:Shape L m) (hm:m≤100):Ac (fun K=>Gy.f K L) L:=(eZ h hm m 0 [] rfl (by omega) rfl).Hg
theorem Val.shape {ts:List (List Ab)} (hv:Val ts):Shape ts ts.length:=⟨rfl,hv.four⟩
theorem Z0 (P:List Dg) (k:Int):(∀ i,i<P.length→(P.getD i G6).Kind≠k)∨∃ m,m<P.length∧(P.getD m G6).Kind=k∧∀ i,i<m→(P.getD i G6).Kind≠k:=by
  induction P with
  | nil=>exact .inl fun i h=>by simp at h
  | cons x r ih =>
    by_cases hx:x.Kind=k
    · exact .inr ⟨0,by simp,hx,fun i h=>by omega⟩
    · rcases ih with ih | ⟨m,h1,h2,h3⟩
      · refine .inl fun i h=>?_
        cases i with
        | zero=>exact hx
        | succ i=>exact ih i (by simpa using h)
      · refine .inr ⟨m+1,by simp; omega,h2,fun i h=>?_⟩
        cases i with
        | zero=>exact hx
        | succ i=>exact h3 i (by omega)
section
variable {P:List Dg} (hp:P.length≤200) {kd:Int} {n:Nat} (hn:n≤P.length) (hlt:∀ i,i<n→(P.getD i G6).Kind≠kd)
include hp hn hlt
theorem Vt {r:Int × Int × Int × Bool} (h:Aa (fun K k=>Dw.l1 K k P kd (n:Int)) r):∀ (d i:Nat),n - i=d→i≤n→Aa (fun K k=>Dw.l1 K k P kd (i:Int)) r
  | 0,i,hd,hi=>by
    obtain rfl:i=n:=by omega
    exact h
  | d+1,i,hd,hi=>by
    refine Aa.step (fun K k=>?_) (Vt h d (i+1) (by omega) (by omega))
    rw [Dw.l1,if_pos (by omega),if_pos (by omega),Int.toNat_natCast,Fs,if_neg (hlt i (by omega)),Be (by omega)]
theorem Xe {l:Nat→Nat→List Dg→Int→Option Int} (hl:∀ K k s x,l K (k+1) s x=if x<(s.length:Int) then (if 0≤x∧x<(s.length:Int) then (if (s.getD x.toNat G6).Kind=kd then some x else l K k s (w64 (x+1))) else none) else some (-1))
    {r:Int} (h:Aa (fun K k=>l K k P (n:Int)) r):∀ (d i:Nat),n - i=d→i≤n→Aa (fun K k=>l K k P (i:Int)) r
  | 0,i,hd,hi=>by
    obtain rfl:i=n:=by omega
    exact h
  | d+1,i,hd,hi=>by
    refine Aa.step (fun K k=>?_) (Xe hl h d (i+1) (by omega) (by omega))
    rw [hl,if_pos (by omega),if_pos (by omega),Int.toNat_natCast,if_neg (hlt i (by omega)),Be (by omega)]
end
theorem rH (K k:Nat) (s:List Dg) (x:Int):Aw.l1 K (k+1) s x=if x<(s.length:Int) then (if 0≤x∧x<(s.length:Int) then (if (s.getD x.toNat G6).Kind=4 then some x else Aw.l1 K k s (w64 (x+1))) else none) else some (-1):=by
  rw [Aw.l1]
  simp only [Fs,Et.f,Option.bind_some,decide_eq_true_eq]
theorem tJ (K k:Nat) (s:List Dg) (x:Int):Ay.l1 K (k+1) s x=if x<(s.length:Int) then (if 0≤x∧x<(s.length:Int) then (if (s.getD x.toNat G6).Kind=2 then some x else Ay.l1 K k s (w64 (x+1))) else none) else some (-1):=by
  rw [Ay.l1]
  simp only [Fs,Es.f,Option.bind_some,decide_eq_true_eq]
theorem Qe {P:List Dg} (hp:P.length≤200) {kd:Int} {l:Nat→Nat→List Dg→Int→Option Int} (hl:∀ K k s x,l K (k+1) s x=if x<(s.length:Int) then (if 0≤x∧x<(s.length:Int) then (if (s.getD x.toNat G6).Kind=kd then some x else l K k s (w64 (x+1))) else none) else some (-1)) :
    (Ac (fun K=>Dw.f K P kd) (0,0,0,false)∧Ac (fun K=>l K K P 0) (-1)) ∨
    ∃ m,m<P.length∧(P.getD m G6).Kind=kd∧Ac (fun K=>Dw.f K P kd) ((P.getD m G6).Kind,(P.getD m G6).Tet,(P.getD m G6).Index,true)∧Ac (fun K=>l K K P 0) (m:Int):=by
  rcases Z0 P kd with h | ⟨m,h1,h2,h3⟩
  · refine .inl ⟨(Vt hp (Nat.le_refl _) h (Aa.of fun K k=>?_) P.length 0 rfl (by omega)).Hg,(Xe hp (Nat.le_refl _) h hl (Aa.of fun K k=>?_) P.length 0 rfl (by omega)).Hg⟩
    · rw [Dw.l1,if_neg (by omega)]
    · rw [hl,if_neg (by omega)]
  · refine .inr ⟨m,h1,h2,(Vt hp (Nat.le_of_lt h1) h3 (Aa.of fun K k=>?_) m 0 (by omega) (by omega)).Hg,(Xe hp (Nat.le_of_lt h1) h3 hl (Aa.of fun K k=>?_) m 0 (by omega) (by omega)).Hg⟩
    · rw [Dw.l1,if_pos (by omega),if_pos (by omega),Int.toNat_natCast,Fs,if_pos h2]
    · rw [hl,if_pos (by omega),if_pos (by omega),Int.toNat_natCast,if_pos h2]
theorem Yi:∀ (n:Nat) (now:List (List Ab)) (done:List Dg),now.length≤n→n≤8→Val now→done.length+n≤8 →
    ∃ (L:List (List Ab)) (M:List Dg),Val L∧M.length≤8∧Aa (fun K k=>Cq.l1 K k now done) (L,M)∧Aa (fun K k=>Bg.l1 K k now done) (L,M):=by
  intro n
  induction n using Nat.strongRecOn with
  | _ n ih =>
    intro now done hl hn8 hv hd
    obtain ⟨P,hP,t1,t2,t3⟩:=aJ hv hv.tri.1
    have t1:Ac (fun K=>Hm.f K now) P:=Ac.bind hv.tri.1 (Ac.pos rfl (Ac.bind t1 (Ac.const _)))
    have stop:∀ (a b c:Int),Aa (fun K k=>Cq.j4 K k now done a b c false) (now,done):=fun a b c=>Aa.of fun K k=>by rw [Cq.j4,if_neg (by decide)]
    have stop':Aa (fun K k=>Bg.j4 K k now done P (-1)) (now,done):=Aa.of fun K k=>by rw [Bg.j4,if_pos (by decide)]
    -- what is done at a move
    have go:∀ m,m<P.length→((P.getD m G6).Kind=4∨(P.getD m G6).Kind=2)→∃ (L:List (List Ab)) (M:List Dg),Val L∧M.length≤8∧Aa (fun K k=>Cq.j4 K k now done (P.getD m G6).Kind (P.getD m G6).Tet (P.getD m G6).Index true) (L,M)∧Aa (fun K k=>Bg.j4 K k now done P (m:Int)) (L,M):=fun m hm hk=>by
      obtain ⟨L',code,v',dec,a,b,c⟩:=dX hv (P.getD m G6).Kind (P.getD m G6).Tet (P.getD m G6).Index
      have hc:code=0:=c.uniq (t3 _ (by rw [List.getD_eq_getElem?_getD,List.getElem?_eq_getElem hm]; exact List.getElem_mem hm))
      have hlt:=dec hc hk
      obtain ⟨L,M,v,m8,s,t⟩:=ih (n - 1) (by omega) L' (done++[P.getD m G6]) (by omega) (by omega) v' (by rw [List.length_append,List.length_singleton]; omega)
      refine ⟨L,M,v,m8,Aa.succ ?_,Aa.succ ?_⟩
      · simp only [Cq.j4]
        exact Aa.pos trivial (Aa.Ew a.two (Aa.pos hc (Aa.pos (by omega) s)))
      · simp only [Bg.j4,Int.toNat_natCast,Fs]
        exact Aa.neg (by omega) (Aa.pos (by omega) (Aa.Ew b.two (Aa.pos (by omega) t)))
    rcases Qe hP rH with ⟨a1,a2⟩ | ⟨m,m1,m2,a1,a2⟩
    · rcases Qe hP tJ with ⟨b1,b2⟩ | ⟨m,m1,m2,b1,b2⟩
      · refine ⟨now,done,hv,by omega,Aa.succ ?_,Aa.succ ?_⟩
        · simp only [Cq.l1]
          exact Aa.bind t1.two (Aa.D7 a1.two (Aa.neg (by decide) (Aa.D7 b1.two (stop _ _ _))))
        · simp only [Bg.l1]
          exact Aa.bind t2.two (Aa.bind (Ac.two a2) (Aa.pos (by decide) (Aa.bind (Ac.two b2) stop')))
      · obtain ⟨L,M,v,m8,s,t⟩:=go m m1 (.inr m2)
        refine ⟨L,M,v,m8,Aa.succ ?_,Aa.succ ?_⟩
        · simp only [Cq.l1]
          exact Aa.bind t1.two (Aa.D7 a1.two (Aa.neg (by decide) (Aa.D7 b1.two s)))
        · simp only [Bg.l1]
          exact Aa.bind t2.two (Aa.bind (Ac.two a2) (Aa.pos (by decide) (Aa.bind (Ac.two b2) t)))
    · obtain ⟨L,M,v,m8,s,t⟩:=go m m1 (.inl m2)
      refine ⟨L,M,v,m8,Aa.succ ?_,Aa.succ ?_⟩
      · simp only [Cq.l1]
        exact Aa.bind t1.two (Aa.D7 a1.two (Aa.pos rfl s))
      · simp only [Bg.l1]
        exact Aa.bind t2.two (Aa.bind (Ac.two a2) (Aa.neg (by omega) t))
theorem Ur (ts:List (List Ab)) (hn:ts.length≤2000000):∃ L M code,Val L∧M.length≤8∧Ac (fun K=>Hl.f K ts) (L,M,code)∧Ac (fun K=>Gw.f K ts) (L,M,code):=by
  obtain ⟨b,h1,h2,h3⟩:=jG ts hn
  cases b with
  | false=>exact ⟨[],[],1,Val.nil,by simp,Ac.bind h2 (Ac.neg (by decide) (Ac.const _)),Ac.bind h3 (Ac.neg (by decide) (Ac.const _))⟩
  | true =>
    have hv:=h1 rfl
    have h8:=hv.le
    obtain ⟨L,M,v,m,s,t⟩:=Yi 8 ts [] h8 (Nat.le_refl _) hv (by simp)
    exact ⟨L,M,0,v,m,Ac.bind h2 (Ac.pos rfl (Ac.Ew (Ac.bind (uV hv.shape (by omega)) s.Hg) (Ac.const _))),Ac.bind h3 (Ac.pos rfl (Ac.bind (eF hv.shape (by omega)) (Ac.Ew t.Hg (Ac.const _))))⟩
def Ol (f:Nat→Nat):Nat→Nat→Nat
  | _,0=>0
  | i,m+1=>f i+Ol f (i+1) m
def Yu:Int:=1000000000000000
theorem Sw {α:Type} {xs:List α} {i:Nat} {x z:α} (h:i<xs.length):(xs.set i x).getD i z=x:=by
  rw [List.getD_eq_getElem?_getD,List.getElem?_set_self h]; rfl
theorem eH {α:Type} {xs:List α} {i j:Nat} {x z:α} (h:i≠j):(xs.set i x).getD j z=xs.getD j z:=by
  rw [List.getD_eq_getElem?_getD,List.getElem?_set_ne h,← List.getD_eq_getElem?_getD]
theorem U6 {α:Type} {xs:List α} {z:α} {l:Nat→Nat→List α→Int→Nat→Option (Int × List α)} {l':Nat→Nat→List α→Int→Nat→Option Int} {cnt:Nat→Nat}
    (he:∀ K k ys kk,ys.length=xs.length→l K (k+1) ys kk xs.length=some (kk,ys)) (he':∀ K k ys kk,ys.length=xs.length→l' K (k+1) ys kk xs.length=some kk)
    (h1:∀ i,i<xs.length→∀ kk:Int,0≤kk→kk+(cnt i:Int)≤Yu→∃ y,
      (∀ ys r,ys.length=xs.length→ys.getD i z=xs.getD i z→Aa (fun K k=>l K k (ys.set i y) (kk+(cnt i:Int)) (i+1)) r→Aa (fun K k=>l K k ys kk i) r) ∧
      (∀ ys r,ys.length=xs.length→ys.getD i z=y→Aa (fun K k=>l' K k ys (kk+(cnt i:Int)) (i+1)) r→Aa (fun K k=>l' K k ys kk i) r)) :
    ∀ (m i:Nat) (ys:List α) (kk:Int),xs.length - i=m→i≤xs.length→ys.length=xs.length→(∀ j,i≤j→j<xs.length→ys.getD j z=xs.getD j z)→0≤kk→kk+(Ol cnt i m:Int)≤Yu →
      ∃ zs,zs.length=xs.length∧(∀ j,j<i→zs.getD j z=ys.getD j z)∧Aa (fun K k=>l K k ys kk i) (kk+(Ol cnt i m:Int),zs)∧Aa (fun K k=>l' K k zs kk i) (kk+(Ol cnt i m:Int))
  | 0,i,ys,kk,hm,hi,hy,hg,h0,hb=>by
    obtain rfl:i=xs.length:=by omega
    refine ⟨ys,hy,fun _ _=>rfl,Aa.of fun K k=>?_,Aa.of fun K k=>?_⟩
    · rw [he K k ys kk hy]; simp [Ol]
    · rw [he' K k ys kk hy]; simp [Ol]
  | m+1,i,ys,kk,hm,hi,hy,hg,h0,hb=>by
    have hlt:i<xs.length:=by omega
    have hs:(Ol cnt i (m+1):Int)=(cnt i:Int)+(Ol cnt (i+1) m:Int):=by rw [Ol]; omega
    obtain ⟨y,a,b⟩:=h1 i hlt kk h0 (by omega)
    obtain ⟨zs,z1,z2,z3,z4⟩:=U6 he he' h1 m (i+1) (ys.set i y) (kk+(cnt i:Int)) (by omega) (by omega) (by rw [List.length_set]; exact hy) (fun j hj hj'=>by rw [eH (by omega)]; exact hg j (by omega) hj') (by omega) (by omega)
    have hk:kk+(Ol cnt i (m+1):Int)=kk+(cnt i:Int)+(Ol cnt (i+1) m:Int):=by omega
    rw [hk]
    refine ⟨zs,z1,fun j hj=>?_,a ys _ hy (hg i (Nat.le_refl _) hlt) z3,b zs _ z1 ?_ z4⟩
    · rw [z2 j (by omega),eH (by omega)]
    · rw [z2 i (by omega),Sw (by omega)]
def Od {β:Type} (mark:Nat→List β→Int→Option (Int × List β)) (held:Nat→List β→Int→Option Int) (xs:List β) (c:Nat):Prop :=
  ∀ kk:Int,0≤kk→kk+(c:Int)≤Yu→∃ ys,ys.length=xs.length∧Ac (fun K=>mark K xs kk) (kk+(c:Int),ys)∧Ac (fun K=>held K ys kk) (kk+(c:Int))
theorem Od.of {α:Type} {xs:List α} {z:α} {mark:Nat→List α→Int→Option (Int × List α)} {held:Nat→List α→Int→Option Int} {l:Nat→Nat→List α→Int→Int→Option (Int × List α)} {l':Nat→Nat→List α→Int→Int→Option Int} {cnt:Nat→Nat}
    (hm:∀ K xs kk,mark K xs kk=l K K xs kk 0) (hh:∀ K xs kk,held K xs kk=l' K K xs kk 0)
    (he:∀ K k ys kk,ys.length=xs.length→l K (k+1) ys kk (xs.length:Int)=some (kk,ys)) (he':∀ K k ys kk,ys.length=xs.length→l' K (k+1) ys kk (xs.length:Int)=some kk)
    (h1:∀ i,i<xs.length→∀ kk:Int,0≤kk→kk+(cnt i:Int)≤Yu→∃ y,
      (∀ ys r,ys.length=xs.length→ys.getD i z=xs.getD i z→Aa (fun K k=>l K k (ys.set i y) (kk+(cnt i:Int)) ((i+1:Nat):Int)) r→Aa (fun K k=>l K k ys kk (i:Int)) r) ∧
      (∀ ys r,ys.length=xs.length→ys.getD i z=y→Aa (fun K k=>l' K k ys (kk+(cnt i:Int)) ((i+1:Nat):Int)) r→Aa (fun K k=>l' K k ys kk (i:Int)) r)):Od mark held xs (Ol cnt 0 xs.length):=fun kk h0 hb=>by
  obtain ⟨zs,z1,_,z3,z4⟩:=U6 (l:=fun K k ys kk i=>l K k ys kk (i:Int)) (l':=fun K k ys kk i=>l' K k ys kk (i:Int)) he he' h1 xs.length 0 xs kk (by omega) (by omega) rfl (fun _ _ _=>rfl) h0 hb
  exact ⟨zs,z1,Ac.congr (fun K=>hm K xs kk) z3.Hg,Ac.congr (fun K=>hh K zs kk) z4.Hg⟩
theorem Pw (c:Nat):∀ m i,Ol (fun _=>c) i m=c * m
  | 0,_=>rfl
  | m+1,i=>by rw [Ol,Pw c m,Nat.mul_succ,Nat.add_comm]
section
variable {kk:Int}
theorem w1 (h0:0≤kk) (h1:kk≤Yu+10):w64 (kk+1)=kk+1:=by unfold Yu at h1; exact He (by omega) (by omega)
end
theorem Od.rows {β:Type} {xs:List (List β)} {mark:Nat→List β→Int→Option (Int × List β)} {held:Nat→List β→Int→Option Int} {markS:Nat→List (List β)→Int→Option (Int × List (List β))} {heldS:Nat→List (List β)→Int→Option Int}
    {l:Nat→Nat→List (List β)→Int→Int→Option (Int × List (List β))} {l':Nat→Nat→List (List β)→Int→Int→Option Int} {cnt:Nat→Nat} (hn:xs.length≤2000000)
    (hm:∀ K xs kk,markS K xs kk=l K K xs kk 0) (hh:∀ K xs kk,heldS K xs kk=l' K K xs kk 0)
    (hl:∀ K k ys kk i,l K (k+1) ys kk i=if i<(ys.length:Int) then (if 0≤i∧i<(ys.length:Int) then Ew (mark K (ys.getD i.toNat []) kk) (fun a b=>if b.length=(ys.getD i.toNat []).length then l K k (ys.set i.toNat b) a (w64 (i+1)) else none) else none) else some (kk,ys))
    (hl':∀ K k ys kk i,l' K (k+1) ys kk i=if i<(ys.length:Int) then (if 0≤i∧i<(ys.length:Int) then (held K (ys.getD i.toNat []) kk).bind (fun t=>if t<0 then some (-1) else l' K k ys t (w64 (i+1))) else none) else some kk)
    (h1:∀ i,i<xs.length→Od mark held (xs.getD i []) (cnt i)):Od markS heldS xs (Ol cnt 0 xs.length) :=
  Od.of (z:=[]) hm hh (fun K k ys kk hy=>by rw [hl,if_neg (by omega)]) (fun K k ys kk hy=>by rw [hl',if_neg (by omega)]) fun i hi kk h0 hb=>by
    obtain ⟨y,y1,y2,y3⟩:=h1 i hi kk h0 hb
    refine ⟨y,fun ys r hy hg h=>?_,fun ys r hy hg h=>?_⟩
    · refine Aa.step (fun K k=>?_) (Aa.Ew (G:=fun K k a b=>if b.length=(xs.getD i []).length then l K k (ys.set i b) a ((i+1:Nat):Int) else none) y2.two (Aa.pos y1 h))
      rw [hl,if_pos (by omega),if_pos (by omega),Int.toNat_natCast,hg,Be (by omega)]
    · refine Aa.step (fun K k=>?_) (Aa.bind (G:=fun K k t=>if t<0 then some (-1) else l' K k ys t ((i+1:Nat):Int)) y3.two (Aa.neg (by omega) h))
      rw [hl',if_pos (by omega),if_pos (by omega),Int.toNat_natCast,hg,Be (by omega)]
theorem bB {f:Nat→Nat} {B:Nat}:∀ (m i:Nat),(∀ j,i≤j→j<i+m→f j≤B)→Ol f i m≤B * m
  | 0,_,_=>Nat.le_refl _
  | m+1,i,h=>by
    have h1:=h i (Nat.le_refl _) (by omega)
    have h2:=bB m (i+1) (fun j a b=>h j (by omega) (by omega))
    rw [Ol,Nat.mul_succ]; omega
theorem dV {xs:List Dg} (hn:xs.length≤2000000):Od Fg.f El.f xs (3 * xs.length):=by
  have h:=Od.of (xs:=xs) (z:=G6) (mark:=Fg.f) (held:=El.f) (l:=Fg.l1) (l':=El.l1) (cnt:=fun _=>3) (fun _ _ _=>rfl) (fun _ _ _=>rfl)
    (fun K k ys kk hy=>by rw [Fg.l1,if_neg (by omega)]) (fun K k ys kk hy=>by rw [El.l1,if_neg (by omega)]) (fun i hi kk h0 hb=>⟨⟨kk,kk+1,kk+2⟩,fun ys r hy hg h=>Aa.step (fun K k=>?_) h,fun ys r hy hg h=>Aa.step (fun K k=>?_) h⟩)
  · rw [Pw] at h; exact h
  all_goals
    have e1:=w1 h0 (by omega)
    have e2:w64 (kk+1+1)=kk+2:=(w1 (by omega) (by omega)).trans (by omega)
    have e3:w64 (kk+2+1)=kk+3:=(w1 (by omega) (by omega)).trans (by omega)
  · rw [Fg.l1,if_pos (by omega),if_pos (by omega),Int.toNat_natCast]
    simp only [Fs,List.length_set,if_pos (show 0≤(i:Int)∧(i:Int)<(ys.length:Int) by omega),Sw (show i<ys.length by omega),List.set_set,e1,e2,e3,Be (show i<4611686018427387904 by omega)]
    rfl
  · rw [El.l1,if_pos (by omega),if_pos (by omega),Int.toNat_natCast,hg,Fs,if_pos rfl,e1,if_pos rfl,e2,if_pos rfl,e3,Be (by omega)]; rfl
theorem Ub {xs:List Dg} (hn:xs.length≤2000000):∀ (m i:Nat),xs.length - i=m→Aa (fun K k=>Eu.l1 K k xs xs (i:Int)) true
  | 0,i,hm=>Aa.of fun K k=>by rw [Eu.l1,if_neg (by omega)]
  | m+1,i,hm=>by
    refine Aa.step (fun K k=>?_) (Ub hn m (i+1) (by omega))
    rw [Eu.l1,if_pos (by omega),if_pos (by omega),Fs,if_pos (by omega),Fs,Be (by omega)]
    unfold Jw.f
    rw [if_pos rfl,if_pos rfl,if_pos rfl,Option.bind_some,if_pos rfl]
theorem nH {xs:List Dg} (hn:xs.length≤2000000):Ac (fun K=>Eu.f K xs xs) true:=Ac.pos rfl (Ub hn xs.length 0 rfl).Hg
theorem dW {xs:List Ab} (hn:xs.length≤2000000):Od E5.f Ez.f xs (2 * xs.length):=by
  have h:=Od.of (xs:=xs) (z:=Bj) (mark:=E5.f) (held:=Ez.f) (l:=E5.l1) (l':=Ez.l1) (cnt:=fun _=>2) (fun _ _ _=>rfl) (fun _ _ _=>rfl)
    (fun K k ys kk hy=>by rw [E5.l1,if_neg (by omega)]) (fun K k ys kk hy=>by rw [Ez.l1,if_neg (by omega)]) (fun i hi kk h0 hb=>⟨⟨kk,kk+1⟩,fun ys r hy hg h=>Aa.step (fun K k=>?_) h,fun ys r hy hg h=>Aa.step (fun K k=>?_) h⟩)
  · rw [Pw] at h; exact h
  · have e1:=w1 h0 (by omega)
    have e2:w64 (kk+1+1)=kk+2:=(w1 (by omega) (by omega)).trans (by omega)
    rw [E5.l1,if_pos (by omega),if_pos (by omega),Int.toNat_natCast]
    simp only [Fs,List.length_set,if_pos (show 0≤(i:Int)∧(i:Int)<(ys.length:Int) by omega),Sw (show i<ys.length by omega),List.set_set,e1,e2,Be (show i<4611686018427387904 by omega)]
    rfl
  · have e1:=w1 h0 (by omega)
    have e2:w64 (kk+1+1)=kk+2:=(w1 (by omega) (by omega)).trans (by omega)
    rw [Ez.l1,if_pos (by omega),if_pos (by omega),Int.toNat_natCast,hg,Fs,if_pos rfl,e1,if_pos rfl,e2,Be (by omega)]; rfl
def cF (xs:List (List Ab)):Nat:=Ol (fun i=>2 * (xs.getD i []).length) 0 xs.length
theorem Zi {xs:List (List Ab)} (hn:xs.length≤2000000) (h:∀ j,j<xs.length→(xs.getD j []).length≤2000000):Od Fx.f Fp.f xs (cF xs) :=
  Od.rows (mark:=E5.f) (held:=Ez.f) (l:=Fx.l1) (l':=Fp.l1) hn (fun _ _ _=>rfl) (fun _ _ _=>rfl) (fun _ _ _ _ _=>rfl) (fun _ _ _ _ _=>rfl) (fun i hi=>dW (h i hi))
theorem aL {xs:List (List Ab)} (hn:xs.length≤2000000) (h:∀ j,j<xs.length→(xs.getD j []).length≤2000000):∃ (q:Int) (ys:List (List Ab)),(0≤q∧q≤100000000000000)∧ys.length=xs.length∧Ac (fun K=>Fz.f K xs 1) (q,ys)∧Ac (fun K=>Fp.f K ys 1) q:=by
  have hc:cF xs≤4000000 * xs.length:=by
    unfold cF
    exact bB xs.length 0 (fun j _ hj=>by have:=h j (by omega); show 2 * (xs.getD j []).length≤4000000; omega)
  obtain ⟨ys,y1,y2,y3⟩:=Zi hn h 1 (by decide) (by unfold Yu; omega)
  exact ⟨1+(cF xs:Int),ys,⟨by omega,by omega⟩,y1,Ac.Ew y2 (Ac.pos y1 (Ac.const _)),y3⟩
end Go.Proofs.YtbjfinndngafoaaGreat
