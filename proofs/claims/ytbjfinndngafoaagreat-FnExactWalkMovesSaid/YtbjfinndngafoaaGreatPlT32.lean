/-
  Triangulations: the classes of faces and of vertices in both.
  Triangulations: the moves that are possible, in both.
  ApplyMoves in both.
  WalkMoves in both.
  Marks of lists, in general: what marking leaves is found again.
  Numbers are copied, equal to themselves and marked.
  Marks of moves; moves are equal to themselves.
  Marks of triangulations: what marking leaves is found again.
-/
import Derived.Test.YtbjfinndngafoaaGreatPlT27
import Derived.Test.YtbjfinndngafoaaGreatPlT53
set_option linter.unusedVariables false
set_option linter.unusedSimpArgs false
set_option linter.unusedSectionVars false
namespace Go.Proofs.YtbjfinndngafoaaGreat
open Go.RowKit
section
variable {n:Nat} (hn:n≤8) {a f b p:Nat} (ha:a<n) (hf:f<4) (hb:b<n) (hp:p<24) {J:List (Nat × Nat)}
include hn ha hf hb hp
theorem yM {s:List Int} (hs:G6 (4 * n) J s):∃ s',Ac (fun K=>Cu.f K (a:Int) (f:Int) (b:Int) (p:Int) (PA p 0:Int) (PA p 1:Int) (PA p 2:Int) (PA p 3:Int) s) s'∧s'.length=s.length∧G6 (4 * n) (J++jf ⟨b,p⟩ a f) s':=by
  have h:=Eh hp hf
  obtain ⟨s1,t1,l1,h1⟩:=Zd (by omega) hs (i:=4 * a+f) (k:=4 * b+PA p f) (mul_lt ha hf) (mul_lt hb h)
  refine ⟨s1,Ac.pos (by omega) (Ac.bind (a:=s1) ?_ (Ac.pos l1 (Ac.const _))),l1,h1⟩
  refine Ac.congr (fun K=>?_) t1
  have e1:=w6 (c:=4) (a:=a) (e:=f) (by decide) (by omega) (by omega)
  have e2:=w6 (c:=4) (a:=b) (e:=PA p f) (by decide) (by omega) (by omega)
  rw [Qx hf,← e1,← e2]
  rfl
theorem V5 {t7:List Int} {i v:Nat} (hi:i<3) (hl:t7.length=3) (hv:v<4) (ht:t7.getD i 0=(v:Int)) {s:List Int} (hs:G6 (4 * n) J s) :
    ∃ s1,s1.length=s.length∧G6 (4 * n) (J++[(4 * a+v,4 * b+PA p v)]) s1∧∀ R,Aa (fun K k=>Ba.l1 K k (a:Int) (b:Int) (PA p 0:Int) (PA p 1:Int) (PA p 2:Int) (PA p 3:Int) t7 s1 ((i+1:Nat):Int)) R→Aa (fun K k=>Ba.l1 K k (a:Int) (b:Int) (PA p 0:Int) (PA p 1:Int) (PA p 2:Int) (PA p 3:Int) t7 s (i:Int)) R:=by
  have h:=Eh hp hv
  obtain ⟨s1,t1,l1,h1⟩:=Zd (by omega) hs (i:=4 * a+v) (k:=4 * b+PA p v) (mul_lt ha hv) (mul_lt hb h)
  refine ⟨s1,l1,h1,fun R hR=>?_⟩
  have e1:w64 (w64 (4 * (a:Int))+(v:Int))=((4 * a+v:Nat):Int):=w6 (c:=4) (by decide) (by omega) (by omega)
  have e2:w64 (w64 (4 * (b:Int))+(PA p v:Int))=((4 * b+PA p v:Nat):Int):=w6 (c:=4) (by decide) (by omega) (by omega)
  have g:=Qx (p:=p) hv
  rw [Int.toNat_natCast] at g
  refine Aa.succ ?_
  simp only [Ba.l1,Int.toNat_natCast,ht,g,e1,e2]
  refine Aa.pos (by omega) (Aa.pos (by omega) (Aa.pos (by omega) ?_))
  refine Aa.bind t1.two (Aa.pos l1 ?_)
  rw [Bb (by omega)]
  exact hR
theorem yD {s:List Int} (hs:G6 (4 * n) J s):∃ s',Ac (fun K=>Ba.f K (a:Int) (f:Int) (b:Int) (p:Int) (PA p 0:Int) (PA p 1:Int) (PA p 2:Int) (PA p 3:Int) s) s'∧s'.length=s.length∧G6 (4 * n) (J++LJ (jv ⟨b,p⟩ a f) 4) s':=by
  obtain ⟨u,v,w,hO,hu,hv',hw,hJ⟩:∃ u v w,OT [f]=[u,v,w]∧u<4∧v<4∧w<4∧LJ (jv ⟨b,p⟩ a f) 4=[(4 * a+u,4 * b+PA p u),(4 * a+v,4 * b+PA p v),(4 * a+w,4 * b+PA p w)]:=by
    rcases (by omega:f=0∨f=1∨f=2∨f=3) with rfl | rfl | rfl | rfl
    · exact ⟨1,2,3,rfl,by omega,by omega,by omega,rfl⟩
    · exact ⟨0,2,3,rfl,by omega,by omega,by omega,rfl⟩
    · exact ⟨0,1,3,rfl,by omega,by omega,by omega,rfl⟩
    · exact ⟨0,1,2,rfl,by omega,by omega,by omega,rfl⟩
  obtain ⟨s1,l1,p1,c1⟩:=V5 hn ha hf hb hp (t7:=ints [u,v,w]) (i:=0) (v:=u) (by omega) rfl hu rfl hs
  obtain ⟨s2,l2,p2,c2⟩:=V5 hn ha hf hb hp (t7:=ints [u,v,w]) (i:=1) (v:=v) (by omega) rfl hv' rfl p1
  obtain ⟨s3,l3,p3,c3⟩:=V5 hn ha hf hb hp (t7:=ints [u,v,w]) (i:=2) (v:=w) (by omega) rfl hw rfl p2
  refine ⟨s3,Ac.bind (Md hf) ?_,by omega,?_⟩
  · rw [hO]
    refine Aa.He (F:=fun K k=>Ba.l1 K k (a:Int) (b:Int) (PA p 0:Int) (PA p 1:Int) (PA p 2:Int) (PA p 3:Int) (ints [u,v,w]) s ((0:Nat):Int)) ?_
    refine c1 _ (c2 _ (c3 _ (Aa.of fun K k=>?_)))
    rw [Ba.l1,if_neg (by show ¬ ((3:Nat):Int)<((3:Nat):Int); omega)]
  · rw [hJ]
    have e:J++[(4 * a+u,4 * b+PA p u),(4 * a+v,4 * b+PA p v),(4 * a+w,4 * b+PA p w)]=J++[(4 * a+u,4 * b+PA p u)]++[(4 * a+v,4 * b+PA p v)]++[(4 * a+w,4 * b+PA p w)]:=by simp
    rw [e]; exact p3
end
section
variable {ts:List (List Ab)} (hv:Val ts)
include hv
theorem Z6 {a:Nat} (ha:a<ts.length) {J:List (Nat × Nat)}:∀ (d f:Nat) (s:List Int),4 - f=d→f≤4→G6 (4 * ts.length) (J++LJ (JFf ts a) f) s →
    ∃ s',s'.length=s.length∧G6 (4 * ts.length) (J++LJ (JFf ts a) 4) s'∧∀ R,Aa (fun K k=>Ag.l1 K k ts s' ((a+1:Nat):Int)) R→Aa (fun K k=>Ag.l4 K k ts (a:Int) s (f:Int)) R
  | 0,f,s,hd,hf,hs=>by
    obtain rfl:f=4:=by omega
    refine ⟨s,rfl,hs,fun R hR=>Aa.step (fun K k=>?_) hR⟩
    have:=hv.four a ha
    have:=hv.le
    rw [Ag.l4,Int.toNat_natCast,if_neg (by omega),Bb (by omega)]
  | d+1,f,s,hd,hf,hs=>by
    have h4:=hv.four a ha
    have h8:=hv.le
    rcases Em hv ha (show f<4 by omega) with ⟨h1,h2⟩ | ⟨h1,b,p,hb,hp,h2,_⟩
    · obtain ⟨s',l,h,c⟩:=Z6 ha d (f+1) s (by omega) (by omega) (by rw [LJ,JFf,if_pos h1,List.append_nil]; exact hs)
      refine ⟨s',l,h,fun R hR=>Aa.step (fun K k=>?_) (c R hR)⟩
      rw [Ag.l4,Int.toNat_natCast,if_pos (by omega),if_pos (by omega),Int.toNat_natCast,Fz,Bb (by omega)]
      show (Bg.f (Ce ts a f).Tet (Ce ts a f).Perm).bind _=_
      rw [isB hv,Option.bind_some,decide_eq_true h1,if_pos rfl]
    · obtain ⟨s1,t1,l1,g1⟩:=yM hv.le ha (show f<4 by omega) hb hp hs
      obtain ⟨s',l,h,c⟩:=Z6 ha d (f+1) s1 (by omega) (by omega) (by rw [LJ,JFf,if_neg h1,h2,← List.append_assoc]; exact g1)
      refine ⟨s',l.trans l1,h,fun R hR=>Aa.step (fun K k=>?_) (Aa.Ed (F:=fun K _=>Cq.f K (p:Int)) (G:=fun K k i0 i1 i2 i3=>(Cu.f K (a:Int) (f:Int) (b:Int) (p:Int) i0 i1 i2 i3 s).bind fun t228=>if t228.length=s.length then Ag.l4 K k ts (a:Int) t228 ((f+1:Nat):Int) else none) (Ky hp).two (Aa.bind t1.two (Aa.pos l1 (c R hR))))⟩
      rw [Ag.l4,Int.toNat_natCast,if_pos (by omega),if_pos (by omega),Int.toNat_natCast,Fz,Bb (by omega)]
      show (Bg.f (Ce ts a f).Tet (Ce ts a f).Perm).bind _=_
      rw [isB hv,Option.bind_some,decide_eq_false h1,if_neg (by decide)]
      show Ed (Cq.f K (Ce ts a f).Perm) (fun t221 t222 t223 t224=>(Cu.f K (a:Int) (f:Int) (Ce ts a f).Tet (Ce ts a f).Perm t221 t222 t223 t224 s).bind _)=_
      rw [h2]
theorem iL:∀ (d a:Nat) (s:List Int),ts.length - a=d→a≤ts.length→G6 (4 * ts.length) (LJ (fun a=>LJ (JFf ts a) 4) a) s →
    ∃ s',Aa (fun K k=>Ag.l1 K k ts s (a:Int)) s'∧s'.length=s.length∧G6 (4 * ts.length) (JF ts) s'
  | 0,a,s,hd,ha,hs=>by
    obtain rfl:a=ts.length:=by omega
    exact ⟨s,Aa.of fun K k=>by rw [Ag.l1,if_neg (by omega)],rfl,hs⟩
  | d+1,a,s,hd,ha,hs=>by
    have hlt:a<ts.length:=by omega
    obtain ⟨s1,l1,g1,c⟩:=Z6 hv hlt 4 0 s (by omega) (by omega) (by rw [LJ,List.append_nil]; exact hs)
    obtain ⟨s',t,l,h⟩:=iL d (a+1) s1 (by omega) (by omega) (by rw [LJ]; exact g1)
    refine ⟨s',Aa.step (fun K k=>?_) (c s' t),l.trans l1,h⟩
    rw [Ag.l1,if_pos (by omega),if_pos (by omega)]
    rfl
theorem Ut:∃ s,G6 (4 * ts.length) (JF ts) s∧Ac (fun K=>Du.f K ts) (CN (4 * ts.length) s):=by
  have h8:=hv.le
  obtain ⟨s',t,l,h⟩:=iL hv ts.length 0 (upto (4 * ts.length)) (by omega) (by omega) (Ms _)
  refine ⟨s',h,Ac.Nw (x:=(ts.length:Int)) rfl (Ac.bind (a:=upto (4 * ts.length)) ?_ (Ac.bind t.He (Ac.pos l (Ac.bind (a:=CN (4 * ts.length) s') ?_ (Ac.const _)))))⟩
  · refine Ac.congr (fun K=>?_) (Mw hv (N:=4 * ts.length) (by omega) _ 0 rfl (Nat.zero_le _)).He
    have e1:=w6' (c:=4) (a:=ts.length) (by decide) (by omega)
    rw [← e1]
    rfl
  · have:=numbered (s:=s') (by rw [h.len]; omega)
    rw [h.len] at this
    exact this
theorem Zt {a:Nat} (ha:a<ts.length) {J:List (Nat × Nat)}:∀ (d f:Nat) (s:List Int),4 - f=d→f≤4→G6 (4 * ts.length) (J++LJ (JVf ts a) f) s →
    ∃ s',s'.length=s.length∧G6 (4 * ts.length) (J++LJ (JVf ts a) 4) s'∧∀ R,Aa (fun K k=>Af.l1 K k ts s' ((a+1:Nat):Int)) R→Aa (fun K k=>Af.l4 K k ts (a:Int) s (f:Int)) R
  | 0,f,s,hd,hf,hs=>by
    obtain rfl:f=4:=by omega
    refine ⟨s,rfl,hs,fun R hR=>Aa.step (fun K k=>?_) hR⟩
    have:=hv.four a ha
    have:=hv.le
    rw [Af.l4,Int.toNat_natCast,if_neg (by omega),Bb (by omega)]
  | d+1,f,s,hd,hf,hs=>by
    have h4:=hv.four a ha
    have h8:=hv.le
    rcases Em hv ha (show f<4 by omega) with ⟨h1,h2⟩ | ⟨h1,b,p,hb,hp,h2,_⟩
    · obtain ⟨s',l,h,c⟩:=Zt ha d (f+1) s (by omega) (by omega) (by rw [LJ,JVf,if_pos h1,List.append_nil]; exact hs)
      refine ⟨s',l,h,fun R hR=>Aa.step (fun K k=>?_) (c R hR)⟩
      rw [Af.l4,Int.toNat_natCast,if_pos (by omega),if_pos (by omega),Int.toNat_natCast,Fz,Bb (by omega)]
      show (Bg.f (Ce ts a f).Tet (Ce ts a f).Perm).bind _=_
      rw [isB hv,Option.bind_some,decide_eq_true h1,if_pos rfl]
    · obtain ⟨s1,t1,l1,g1⟩:=yD hv.le ha (show f<4 by omega) hb hp hs
      obtain ⟨s',l,h,c⟩:=Zt ha d (f+1) s1 (by omega) (by omega) (by rw [LJ,JVf,if_neg h1,h2,← List.append_assoc]; exact g1)
      refine ⟨s',l.trans l1,h,fun R hR=>Aa.step (fun K k=>?_) (Aa.Ed (F:=fun K _=>Cq.f K (p:Int)) (G:=fun K k i0 i1 i2 i3=>(Ba.f K (a:Int) (f:Int) (b:Int) (p:Int) i0 i1 i2 i3 s).bind fun t228=>if t228.length=s.length then Af.l4 K k ts (a:Int) t228 ((f+1:Nat):Int) else none) (Ky hp).two (Aa.bind t1.two (Aa.pos l1 (c R hR))))⟩
      rw [Af.l4,Int.toNat_natCast,if_pos (by omega),if_pos (by omega),Int.toNat_natCast,Fz,Bb (by omega)]
      show (Bg.f (Ce ts a f).Tet (Ce ts a f).Perm).bind _=_
      rw [isB hv,Option.bind_some,decide_eq_false h1,if_neg (by decide)]
      show Ed (Cq.f K (Ce ts a f).Perm) (fun t221 t222 t223 t224=>(Ba.f K (a:Int) (f:Int) (Ce ts a f).Tet (Ce ts a f).Perm t221 t222 t223 t224 s).bind _)=_
      rw [h2]
theorem jU:∀ (d a:Nat) (s:List Int),ts.length - a=d→a≤ts.length→G6 (4 * ts.length) (LJ (fun a=>LJ (JVf ts a) 4) a) s →
    ∃ s',Aa (fun K k=>Af.l1 K k ts s (a:Int)) s'∧s'.length=s.length∧G6 (4 * ts.length) (JV ts) s'
  | 0,a,s,hd,ha,hs=>by
    obtain rfl:a=ts.length:=by omega
    exact ⟨s,Aa.of fun K k=>by rw [Af.l1,if_neg (by omega)],rfl,hs⟩
  | d+1,a,s,hd,ha,hs=>by
    have hlt:a<ts.length:=by omega
    obtain ⟨s1,l1,g1,c⟩:=Zt hv hlt 4 0 s (by omega) (by omega) (by rw [LJ,List.append_nil]; exact hs)
    obtain ⟨s',t,l,h⟩:=jU d (a+1) s1 (by omega) (by omega) (by rw [LJ]; exact g1)
    refine ⟨s',Aa.step (fun K k=>?_) (c s' t),l.trans l1,h⟩
    rw [Af.l1,if_pos (by omega),if_pos (by omega)]
    rfl
theorem Rv:∃ s,G6 (4 * ts.length) (JV ts) s∧Ac (fun K=>Dp.f K ts) (CN (4 * ts.length) s):=by
  have h8:=hv.le
  obtain ⟨s',t,l,h⟩:=jU hv ts.length 0 (upto (4 * ts.length)) (by omega) (by omega) (Ms _)
  refine ⟨s',h,Ac.Nw (x:=(ts.length:Int)) rfl (Ac.bind (a:=upto (4 * ts.length)) ?_ (Ac.bind t.He (Ac.pos l (Ac.bind (a:=CN (4 * ts.length) s') ?_ (Ac.const _)))))⟩
  · refine Ac.congr (fun K=>?_) (Mw hv (N:=4 * ts.length) (by omega) _ 0 rfl (Nat.zero_le _)).He
    have e1:=w6' (c:=4) (a:=ts.length) (by decide) (by omega)
    rw [← e1]
    rfl
  · have:=numbered (s:=s') (by rw [h.len]; omega)
    rw [h.len] at this
    exact this
end
def Uo (ts:List (List Ab)) (l:List Dv):Prop:=∀ m,m ∈ l→Ac (fun K=>Ho.f K ts m.Kind m.Tet m.Index) 0
theorem Uo.app {ts:List (List Ab)} {l:List Dv} {k a i:Int} (h:Uo ts l) (hm:Ac (fun K=>Ho.f K ts k a i) 0):Uo ts (l++[⟨k,a,i⟩]):=fun m hm'=>by
  rcases List.mem_append.1 hm' with h' | h'
  · exact h m h'
  · rw [List.mem_singleton] at h'; subst h'; exact hm
structure Seen (m:List (Gq × Bool)) (k:Nat) (seen:List Int):Prop where
  now:∀ c:Int,(Jm m ⟨(k:Int),c⟩).getD false=true↔c ∈ seen
  later:∀ k':Nat,k<k'→∀ c:Int,Jm m ⟨(k':Int),c⟩=none
theorem Seen.next {m:List (Gq × Bool)} {k:Nat} {seen:List Int} (h:Seen m k seen):Seen m (k+1) [] :=
  ⟨fun c=>by rw [h.later (k+1) (by omega) c]; simp,fun k' hk c=>h.later k' (by omega) c⟩
theorem Seen.put {m:List (Gq × Bool)} {k:Nat} {seen:List Int} (h:Seen m k seen) (v:Int):Seen (Np m ⟨(k:Int),v⟩ true) k (seen++[v]):=by
  refine ⟨fun c=>?_,fun k' hk c=>?_⟩
  · rw [Me,List.mem_append,List.mem_singleton]
    by_cases e:c=v
    · subst e
      rw [if_pos rfl]; simp
    · rw [if_neg (fun q=>e (by injection q)),h.now]
      simp [e]
  · rw [Me,if_neg (fun q=>by injection q with q _; omega)]
    exact h.later k' hk c
theorem Wx:Seen [] 1 []:=⟨fun c=>by simp [Jm],fun _ _ _=>rfl⟩
section
variable {ts:List (List Ab)} (hv:Val ts) (hT:Ac (fun K=>Aj.f K ts) true) {vs ys fs:List Int}
  (hV:Ac (fun K=>Dp.f K ts) (CN (4 * ts.length) vs)) (hE:Ac (fun K=>Bi.f K ts) (CN (6 * ts.length) ys)) (hF:Ac (fun K=>Du.f K ts) (CN (4 * ts.length) fs))
include hv hT hV hE hF
theorem kR {k:Nat} (hk:1≤k) (hk4:k≤4) {a i:Nat} (ha:a<ts.length) (hi:(i:Int)<most (k:Int)):∃ c:Int,
    Ac (fun _=>Jb.f (rowsOf (CN (4 * ts.length) vs) 4 ts.length) (rowsOf (CN (6 * ts.length) ys) 6 ts.length) (rowsOf (CN (4 * ts.length) fs) 4 ts.length) (k:Int) (a:Int) (i:Int)) c∧Ac (fun K=>Ff.f K ts (k:Int) (a:Int) (i:Int)) c:=by
  have h8:=hv.le
  unfold most at hi
  rcases (by omega:k=1∨k=2∨k=3∨k=4) with rfl | rfl | rfl | rfl
  · have hi:i<4:=by simp at hi; omega
    have w:w64 (w64 (4 * (a:Int))+(i:Int))=((4 * a+i:Nat):Int):=w6 (c:=4) (by decide) (by omega) (by omega)
    refine ⟨(CN (4 * ts.length) fs).getD (4 * a+i) 0,?_,?_⟩
    · refine Ac.pos rfl (Ac.pos (by rw [Hd]; omega) ?_)
      simp only [Int.toNat_natCast,Ii ha,Jd hi]
      exact Ac.pos (by rw [Jk]; omega) (Ac.const _)
    · refine Ac.pos rfl (Ac.bind hF ?_)
      simp only [w,Int.toNat_natCast]
      exact Ac.pos (by rw [La]; omega) (Ac.const _)
  · have hi:i<6:=by simp at hi; omega
    have w:w64 (w64 (6 * (a:Int))+(i:Int))=((6 * a+i:Nat):Int):=w6 (c:=6) (by decide) (by omega) (by omega)
    refine ⟨(CN (6 * ts.length) ys).getD (6 * a+i) 0,?_,?_⟩
    · refine Ac.neg (by decide) (Ac.pos rfl (Ac.pos (by rw [Hd]; omega) ?_))
      simp only [Int.toNat_natCast,Ii ha,Jd hi]
      exact Ac.pos (by rw [Jk]; omega) (Ac.const _)
    · refine Ac.neg (by decide) (Ac.pos rfl (Ac.bind hE ?_))
      simp only [w,Int.toNat_natCast]
      exact Ac.pos (by rw [La]; omega) (Ac.const _)
  · exact ⟨(a:Int),Ac.neg (by decide) (Ac.neg (by decide) (Ac.pos rfl (Ac.const _))),Ac.neg (by decide) (Ac.neg (by decide) (Ac.pos rfl (Ac.const _)))⟩
  · have hi:i<4:=by simp at hi; omega
    have w:w64 (w64 (4 * (a:Int))+(i:Int))=((4 * a+i:Nat):Int):=w6 (c:=4) (by decide) (by omega) (by omega)
    refine ⟨(CN (4 * ts.length) vs).getD (4 * a+i) 0,?_,?_⟩
    · refine Ac.neg (by decide) (Ac.neg (by decide) (Ac.neg (by decide) (Ac.pos (by rw [Hd]; omega) ?_)))
      simp only [Int.toNat_natCast,Ii ha,Jd hi]
      exact Ac.pos (by rw [Jk]; omega) (Ac.const _)
    · refine Ac.neg (by decide) (Ac.neg (by decide) (Ac.neg (by decide) (Ac.bind hV ?_)))
      simp only [w,Int.toNat_natCast]
      exact Ac.pos (by rw [La]; omega) (Ac.const _)
theorem V6 {k:Nat} (hk:1≤k) (hk4:k≤4) {a:Nat} (ha:a<ts.length):∀ (d i:Nat) (out:List Dv) (seen:List Int) (m:List (Gq × Bool)),(most (k:Int)).toNat - i=d→i≤(most (k:Int)).toNat→Seen m k seen→out.length+d≤500→seen.length+d≤500 →
    ∃ out' seen' m',Seen m' k seen'∧(out'.length≤out.length+d∧(Uo ts out→Uo ts out'))∧seen'.length≤seen.length+d ∧
      (∀ R,Aa (fun K r=>Bp.l10 K r ts (rowsOf (CN (4 * ts.length) vs) 4 ts.length) (rowsOf (CN (6 * ts.length) ys) 6 ts.length) (rowsOf (CN (4 * ts.length) fs) 4 ts.length) (k:Int) out' seen' ((a+1:Nat):Int)) R →
        Aa (fun K r=>Bp.l13 K r ts (rowsOf (CN (4 * ts.length) vs) 4 ts.length) (rowsOf (CN (6 * ts.length) ys) 6 ts.length) (rowsOf (CN (4 * ts.length) fs) 4 ts.length) (k:Int) (a:Int) out seen (i:Int)) R) ∧
      (∀ R,Aa (fun K r=>Ak.l10 K r ts (k:Int) (ts.length:Int) out' m' ((a+1:Nat):Int)) R →
        Aa (fun K r=>Ak.l13 K r ts (k:Int) (ts.length:Int) (a:Int) (most (k:Int)) out m (i:Int)) R)
  | 0,i,out,seen,m,hd,hle,hs,b1,b2=>by
    have h8:=hv.le
    have hm:0≤most (k:Int)∧most (k:Int)≤6:=by unfold most; (repeat' split) <;> omega
    refine ⟨out,seen,m,hs,⟨by omega,id⟩,by omega,fun R h=>?_,fun R h=>?_⟩
    · refine Aa.succ ?_
      simp only [Bp.l13]
      refine Aa.bind (Uh (k:Int)).two (Aa.neg (by omega) ?_)
      rw [Bb (by omega)]; exact h
    · refine Aa.step (fun K r=>?_) h
      rw [Ak.l13,if_neg (by omega),Bb (by omega)]
  | d+1,i,out,seen,m,hd,hle,hs,b1,b2=>by
    have h8:=hv.le
    have hm:0≤most (k:Int)∧most (k:Int)≤6:=by unfold most; (repeat' split) <;> omega
    have hi:(i:Int)<most (k:Int):=by omega
    have a1:(most (k:Int)).toNat - (i+1)=d:=by omega
    have a2:i+1≤(most (k:Int)).toNat:=by omega
    obtain ⟨c,c1,c2⟩:=kR hv hT hV hE hF hk hk4 ha hi
    obtain ⟨r,code,pl,q1,q2,_⟩:=jL hv hT (k:Int) (a:Int) (i:Int)
    have q3:Ac (fun K=>Ho.f K ts (k:Int) (a:Int) (i:Int)) code:=Ac.Ed q2 (Ac.const _)
    by_cases hc:code=0∧¬ c ∈ seen
    · obtain ⟨out',seen',m',g1,⟨g2,gp⟩,g3,g4,g5⟩:=V6 hk hk4 ha d (i+1) (out++[⟨(k:Int),(a:Int),(i:Int)⟩]) (seen++[c]) (Np m ⟨(k:Int),c⟩ true) a1 a2 (hs.put c) (by rw [List.length_append,List.length_singleton]; omega) (by rw [List.length_append,List.length_singleton]; omega)
      rw [List.length_append,List.length_singleton] at g2 g3
      refine ⟨out',seen',m',g1,⟨by omega,fun p=>gp (p.app (by rw [← hc.1]; exact q3))⟩,by omega,fun R h=>?_,fun R h=>?_⟩
      · have:=g4 R h
        refine Aa.succ ?_
        simp only [Bp.l13]
        refine Aa.bind (Uh (k:Int)).two (Aa.pos (by omega) ?_)
        refine Aa.bind c1.two ?_
        refine Aa.bind (aV (by omega)).two ?_
        refine Aa.neg (by rw [decide_eq_true_eq]; exact hc.2) ?_
        refine Aa.bind q3.two ?_
        refine Aa.pos hc.1 (Aa.pos (by omega) (Aa.pos (by omega) ?_))
        rw [Bb (by omega)]; exact this
      · have:=g5 R h
        refine Aa.succ ?_
        simp only [Ak.l13]
        refine Aa.pos (by omega) ?_
        refine Aa.Et q1.two ?_
        refine Aa.pos hc.1 ?_
        refine Aa.bind c2.two ?_
        refine Aa.neg (fun q=>hc.2 ((hs.now c).1 q)) (Aa.pos (by omega) ?_)
        rw [Bb (by omega)]; exact this
    · obtain ⟨out',seen',m',g1,⟨g2,gp⟩,g3,g4,g5⟩:=V6 hk hk4 ha d (i+1) out seen m a1 a2 hs (by omega) (by omega)
      refine ⟨out',seen',m',g1,⟨by omega,gp⟩,by omega,fun R h=>?_,fun R h=>?_⟩
      · have:=g4 R h
        refine Aa.succ ?_
        simp only [Bp.l13]
        refine Aa.bind (Uh (k:Int)).two (Aa.pos (by omega) ?_)
        refine Aa.bind c1.two ?_
        refine Aa.bind (aV (by omega)).two ?_
        rw [Bb (by omega)]
        by_cases hin:c ∈ seen
        · exact Aa.pos (decide_eq_true hin) this
        · refine Aa.neg (by rw [decide_eq_true_eq]; exact hin) (Aa.bind q3.two ?_)
          exact Aa.neg (fun e=>hc ⟨e,hin⟩) this
      · have:=g5 R h
        refine Aa.succ ?_
        simp only [Ak.l13]
        refine Aa.pos (by omega) ?_
        refine Aa.Et q1.two ?_
        rw [Bb (by omega)]
        by_cases h0:code=0
        · refine Aa.pos h0 (Aa.bind c2.two ?_)
          have hin:c ∈ seen:=Classical.byContradiction fun q=>hc ⟨h0,q⟩
          exact Aa.pos ((hs.now c).2 hin) this
        · exact Aa.neg h0 this
theorem bL {k:Nat} (hk:1≤k) (hk4:k≤4):∀ (d a:Nat) (out:List Dv) (seen:List Int) (m:List (Gq × Bool)),ts.length - a=d→a≤ts.length→Seen m k seen→out.length+6 * d≤490→seen.length+6 * d≤490 →
    ∃ out' m',Seen m' (k+1) []∧(out'.length≤out.length+6 * d∧(Uo ts out→Uo ts out')) ∧
      (∀ R,Aa (fun K r=>Bp.l1 K r ts (rowsOf (CN (4 * ts.length) vs) 4 ts.length) (rowsOf (CN (6 * ts.length) ys) 6 ts.length) (rowsOf (CN (4 * ts.length) fs) 4 ts.length) out' ((k+1:Nat):Int)) R →
        Aa (fun K r=>Bp.l10 K r ts (rowsOf (CN (4 * ts.length) vs) 4 ts.length) (rowsOf (CN (6 * ts.length) ys) 6 ts.length) (rowsOf (CN (4 * ts.length) fs) 4 ts.length) (k:Int) out seen (a:Int)) R) ∧
      (∀ R,Aa (fun K r=>Ak.l1 K r ts out' m' ((k+1:Nat):Int)) R →
        Aa (fun K r=>Ak.l10 K r ts (k:Int) (ts.length:Int) out m (a:Int)) R)
  | 0,a,out,seen,m,hd,hle,hs,b1,b2=>by
    have h8:=hv.le
    refine ⟨out,m,hs.next,⟨by omega,id⟩,fun R h=>Aa.step (fun K r=>?_) h,fun R h=>Aa.step (fun K r=>?_) h⟩
    · rw [Bp.l10,Co.f,Option.bind_some,if_neg (by omega),Bb (by omega)]
    · rw [Ak.l10,if_neg (by omega),Bb (by omega)]
  | d+1,a,out,seen,m,hd,hle,hs,b1,b2=>by
    have h8:=hv.le
    have hm:0≤most (k:Int)∧most (k:Int)≤6:=by unfold most; (repeat' split) <;> omega
    obtain ⟨o1,s1,m1,g1,⟨g2,gp⟩,g3,g4,g5⟩:=V6 hv hT hV hE hF hk hk4 (show a<ts.length by omega) _ 0 out seen m rfl (by omega) hs (by omega) (by omega)
    obtain ⟨o2,m2,f1,⟨f2,fp⟩,f3,f4⟩:=bL hk hk4 d (a+1) o1 s1 m1 (by omega) (by omega) g1 (by omega) (by omega)
    refine ⟨o2,m2,f1,⟨by omega,fun p=>fp (gp p)⟩,fun R h=>?_,fun R h=>?_⟩
    · refine Aa.step (fun K r=>?_) (g4 R (f3 R h))
      rw [Bp.l10,Co.f,Option.bind_some,if_pos (by omega)]; rfl
    · refine Aa.succ ?_
      simp only [Ak.l10]
      refine Aa.pos (by omega) (Aa.bind (Uu (k:Int)).two ?_)
      exact g5 R (f4 R h)
theorem eY:∀ (d k:Nat) (out:List Dv) (m:List (Gq × Bool)),5 - k=d→1≤k→k≤5→Seen m k []→out.length+48 * d≤200 →
    ∃ L:List Dv,(L.length≤out.length+48 * d∧(Uo ts out→Uo ts L))∧Aa (fun K r=>Bp.l1 K r ts (rowsOf (CN (4 * ts.length) vs) 4 ts.length) (rowsOf (CN (6 * ts.length) ys) 6 ts.length) (rowsOf (CN (4 * ts.length) fs) 4 ts.length) out (k:Int)) L∧Aa (fun K r=>Ak.l1 K r ts out m (k:Int)) L
  | 0,k,out,m,hd,hk,hle,hs,b1=>by
    refine ⟨out,⟨by omega,id⟩,Aa.of fun K r=>?_,Aa.of fun K r=>?_⟩
    · rw [Bp.l1,if_neg (by omega)]
    · rw [Ak.l1,if_neg (by omega)]
  | d+1,k,out,m,hd,hk,hle,hs,b1=>by
    have h8:=hv.le
    obtain ⟨o1,m1,g1,⟨g2,gp⟩,g3,g4⟩:=bL hv hT hV hE hF hk (show k≤4 by omega) ts.length 0 out [] m rfl (by omega) hs (by omega) (by simp; omega)
    obtain ⟨L,⟨f0,fp⟩,f1,f2⟩:=eY d (k+1) o1 m1 (by omega) (by omega) (by omega) g1 (by omega)
    refine ⟨L,⟨by omega,fun p=>fp (gp p)⟩,Aa.step (fun K r=>?_) (g3 L f1),Aa.step (fun K r=>?_) (g4 L f2)⟩
    · rw [Bp.l1,if_pos (by omega)]; rfl
    · rw [Ak.l1,if_pos (by omega),Bu.f,Option.bind_some]; rfl
end
theorem aI {ts:List (List Ab)} (hv:Val ts) (hT:Ac (fun K=>Aj.f K ts) true):∃ L:List Dv,L.length≤200∧Ac (fun K=>Bp.f K ts) L∧Ac (fun K=>Ak.f K ts) L∧Uo ts L:=by
  obtain ⟨vs,ys,fs,h1,h2,h3,hcnt⟩:=aL hv
  obtain ⟨s1,p1,t1⟩:=Pk hv
  obtain ⟨s2,p2,t2⟩:=Rv hv
  obtain ⟨s3,p3,t3⟩:=Ut hv
  have hE:Ac (fun K=>Bi.f K ts) (CN (6 * ts.length) ys):=by rw [R6 (h2.1.same p1)]; exact t1
  have hV:Ac (fun K=>Dp.f K ts) (CN (4 * ts.length) vs):=by rw [R6 (h1.1.same p2)]; exact t2
  have hF:Ac (fun K=>Du.f K ts) (CN (4 * ts.length) fs):=by rw [R6 (h3.1.same p3)]; exact t3
  obtain ⟨L,⟨l,p⟩,a,b⟩:=eY hv hT hV hE hF 4 1 [] [] (by omega) (by omega) (by omega) Wx (by simp)
  exact ⟨L,by simp at l; omega,Ac.Ed hcnt a.He,b.He,p fun m h=>(List.not_mem_nil h).elim⟩
theorem fE {L:List (List Ab)} {m:Nat} (h:Shape L m) (hm:m≤100):∀ (d x:Nat) (out:List (List Ab)),m - x=d→x≤m→out=L.take x→Aa (fun K k=>Gy.l1 K k L out (x:Int)) L
  | 0,x,out,hd,hx,ho=>by
    have hl:=h.len
    refine Aa.of fun K k=>?_
    rw [Gy.l1,if_neg (by omega),ho,List.take_of_length_le (by omega)]
  | d+1,x,out,hd,hx,ho=>by
    have hl:=h.len
    have hr:=h.row x (by omega)
    have hlo:out.length=x:=by rw [ho,List.length_take]; omega
    refine Aa.step (fun K k=>?_) (fE h hm d (x+1) (out++[L.getD x []]) (by omega) (by omega) (by
      rw [ho,List.take_add_one,List.getD_eq_getElem?_getD,List.getElem?_eq_getElem (by omega)]; rfl))
    rw [Gy.l1,if_pos (by omega),if_pos (by omega),Int.toNat_natCast,if_pos (by rw [hr]; decide),if_pos (by omega),Bb (by omega)]
    rfl
theorem uX {L:List (List Ab)} {m:Nat} (h:Shape L m) (hm:m≤100):Ac (fun K=>Gy.f K L) L:=(fE h hm m 0 [] rfl (by omega) rfl).He
theorem Val.shape {ts:List (List Ab)} (hv:Val ts):Shape ts ts.length:=⟨rfl,hv.four⟩
section
variable {picks:List Int} (hp:picks.length≤40)
include hp
theorem dA (hnn:∀ i,i<picks.length→0≤picks.getD i 0):∀ (d i:Nat) (now:List (List Ab)) (done:List Dv),picks.length - i=d→i≤picks.length→Val now→done.length≤i →
    ∃ (L:List (List Ab)) (M:List Dv),Val L∧M.length≤40∧Aa (fun K k=>Gj.l1 K k picks now done (i:Int)) (L,M)∧Aa (fun K k=>Eo.l1 K k picks now done (i:Int)) (L,M,0)
  | 0,i,now,done,hd,hi,hv,hl=>by
    refine ⟨now,done,hv,by omega,Aa.of fun K k=>?_,Aa.of fun K k=>?_⟩
    · rw [Gj.l1,if_neg (by omega)]
    · rw [Eo.l1,if_neg (by omega)]
  | d+1,i,now,done,hd,hi,hv,hl=>by
    obtain ⟨P,hP,t1,t2,_⟩:=aI hv hv.tri.1
    by_cases h0:(P.length:Int)=0
    · refine ⟨now,done,hv,by omega,Aa.succ ?_,Aa.succ ?_⟩
      · simp only [Gj.l1]
        exact Aa.pos (by omega) (Aa.bind t1.two (Aa.pos h0 (Aa.const _)))
      · simp only [Eo.l1]
        exact Aa.pos (by omega) (Aa.pos (by omega) (Aa.bind t2.two (Aa.pos h0 (Aa.const _))))
    · have hr:0≤(picks.getD i 0).tmod (P.length:Int)∧(picks.getD i 0).tmod (P.length:Int)<(P.length:Int):=⟨Int.tmod_nonneg _ (hnn i (by omega)),Int.tmod_lt_of_pos _ (by omega)⟩
      obtain ⟨L',code,v',_,a,b,_⟩:=eD hv (P.getD ((picks.getD i 0).tmod (P.length:Int)).toNat Kc).Kind (P.getD ((picks.getD i 0).tmod (P.length:Int)).toNat Kc).Tet (P.getD ((picks.getD i 0).tmod (P.length:Int)).toNat Kc).Index
      obtain ⟨L,M,v,m,s,t⟩:=dA hnn d (i+1) L' (done++[P.getD ((picks.getD i 0).tmod (P.length:Int)).toNat Kc]) (by omega) (by omega) v' (by rw [List.length_append]; simp; omega)
      refine ⟨L,M,v,m,Aa.succ ?_,Aa.succ ?_⟩
      · simp only [Gj.l1,Int.toNat_natCast,Fz]
        refine Aa.pos (by omega) (Aa.bind t1.two (Aa.neg h0 (Aa.pos (by omega) (Aa.pos hr (Aa.Et a.two (Aa.pos (by omega) ?_))))))
        rw [Bb (by omega)]; exact s
      · simp only [Eo.l1,Int.toNat_natCast,Fz]
        refine Aa.pos (by omega) (Aa.pos (by omega) (Aa.bind t2.two (Aa.neg h0 (Aa.bind (a:=(P.length:Int)) (Aa.const _) (Aa.neg h0 (Aa.pos hr (Aa.Et b.two (Aa.pos (by omega) ?_))))))))
        rw [Bb (by omega)]; exact t
end
theorem dZ (l:List Int):(∀ i,i<l.length→0≤l.getD i 0)∨∃ m,m<l.length∧l.getD m 0<0∧∀ i,i<m→0≤l.getD i 0:=by
  induction l with
  | nil=>exact .inl fun i h=>by simp at h
  | cons x r ih =>
    by_cases hx:x<0
    · exact .inr ⟨0,by simp,hx,fun i h=>by omega⟩
    · rcases ih with ih | ⟨m,h1,h2,h3⟩
      · refine .inl fun i h=>?_
        cases i with
        | zero=>show 0≤x; omega
        | succ i=>exact ih i (by simpa using h)
      · refine .inr ⟨m+1,by simp; omega,h2,fun i h=>?_⟩
        cases i with
        | zero=>show 0≤x; omega
        | succ i=>exact h3 i (by omega)
section
variable {picks:List Int} (hp:picks.length≤40) {n:Nat} (hn:n≤picks.length) (hlt:∀ i,i<n→0≤picks.getD i 0)
include hp hn hlt
theorem Wn {ts:List (List Ab)} {r:List (List Ab) × List Dv × Int} (h:Aa (fun K k=>Ey.l1 K k ts picks (n:Int)) r):∀ (d i:Nat),n - i=d→i≤n→Aa (fun K k=>Ey.l1 K k ts picks (i:Int)) r
  | 0,i,hd,hi=>by
    obtain rfl:i=n:=by omega
    exact h
  | d+1,i,hd,hi=>by
    refine Aa.step (fun K k=>?_) (Wn h d (i+1) (by omega) (by omega))
    have:=hlt i (by omega)
    rw [Ey.l1,if_pos (by omega),if_pos (by omega),Int.toNat_natCast,if_neg (by omega),Bb (by omega)]
theorem Xk {r:Int} (h:Aa (fun K k=>Be.l1 K k picks (n:Int)) r):∀ (d i:Nat),n - i=d→i≤n→Aa (fun K k=>Be.l1 K k picks (i:Int)) r
  | 0,i,hd,hi=>by
    obtain rfl:i=n:=by omega
    exact h
  | d+1,i,hd,hi=>by
    refine Aa.step (fun K k=>?_) (Xk h d (i+1) (by omega) (by omega))
    have:=hlt i (by omega)
    rw [Be.l1,if_pos (by omega),if_pos (by omega),Int.toNat_natCast,Ha.f,Option.bind_some,if_neg (by rw [decide_eq_true_eq]; omega),Bb (by omega)]
end
theorem dG (ts:List (List Ab)) (hn:ts.length≤2000000) (picks:List Int):∃ L M code,Val L∧M.length≤40∧Ac (fun K=>Ey.f K ts picks) (L,M,code)∧Ac (fun K=>Eo.f K ts picks) (L,M,code):=by
  obtain ⟨b,h1,h2,h3⟩:=jM ts hn
  cases b with
  | false=>exact ⟨[],[],1,Val.nil,by simp,Ac.bind h2 (Ac.neg (by decide) (Ac.const _)),Ac.bind h3 (Ac.neg (by decide) (Ac.const _))⟩
  | true =>
    have hv:=h1 rfl
    have h8:=hv.le
    by_cases h4:40<(picks.length:Int)
    · exact ⟨[],[],3,Val.nil,by simp,Ac.bind h2 (Ac.pos rfl (Ac.pos h4 (Ac.const _))),Ac.bind h3 (Ac.pos rfl (Ac.pos h4 (Ac.const _)))⟩
    have hp:picks.length≤40:=by omega
    rcases dZ picks with hnn | ⟨m,k1,k2,k3⟩
    · obtain ⟨L,M,v,m,s,t⟩:=dA hp hnn picks.length 0 ts [] (by omega) (by omega) hv (by simp)
      refine ⟨L,M,0,v,m,Ac.bind h2 (Ac.pos rfl (Ac.neg h4 ?_)),Ac.bind h3 (Ac.pos rfl (Ac.neg h4 ?_))⟩
      · refine (Wn hp (Nat.le_refl _) hnn (Aa.succ ?_) picks.length 0 rfl (by omega)).He
        simp only [Ey.l1]
        refine Aa.neg (by omega) (Aa.Et (Ac.two ?_) (Aa.const _))
        exact Ac.bind (uX hv.shape (by omega)) s.He
      · refine Ac.bind (a:=false) (Ac.bind (a:=(-1:Int)) ?_ (Ac.const _)) (Ac.neg (by decide) (Ac.bind (eP hv.shape (by omega)) t.He))
        refine (Xk hp (Nat.le_refl _) hnn (Aa.of fun K k=>?_) picks.length 0 rfl (by omega)).He
        rw [Be.l1,if_neg (by omega)]
    · refine ⟨[],[],2,Val.nil,by simp,Ac.bind h2 (Ac.pos rfl (Ac.neg h4 ?_)),Ac.bind h3 (Ac.pos rfl (Ac.neg h4 ?_))⟩
      · refine (Wn hp (Nat.le_of_lt k1) k3 (Aa.of fun K k=>?_) m 0 (by omega) (by omega)).He
        rw [Ey.l1,if_pos (by omega),if_pos (by omega),Int.toNat_natCast,if_pos k2]
      · refine Ac.bind (a:=true) (Ac.bind (a:=(m:Int)) ?_ (Ac.congr (fun K=>by rw [decide_eq_true (by omega)]) (Ac.const _))) (Ac.pos rfl (Ac.const _))
        refine (Xk hp (Nat.le_of_lt k1) k3 (Aa.of fun K k=>?_) m 0 (by omega) (by omega)).He
        rw [Be.l1,if_pos (by omega),if_pos (by omega),Int.toNat_natCast,Ha.f,Option.bind_some,if_pos (decide_eq_true k2)]
def Ma (f:Nat→Nat):Nat→Nat→Nat
  | _,0=>0
  | i,m+1=>f i+Ma f (i+1) m
def Uq:Int:=1000000000000000
theorem Su {α:Type} {xs:List α} {i:Nat} {x z:α} (h:i<xs.length):(xs.set i x).getD i z=x:=by
  rw [List.getD_eq_getElem?_getD,List.getElem?_set_self h]; rfl
theorem eT {α:Type} {xs:List α} {i j:Nat} {x z:α} (h:i≠j):(xs.set i x).getD j z=xs.getD j z:=by
  rw [List.getD_eq_getElem?_getD,List.getElem?_set_ne h,← List.getD_eq_getElem?_getD]
theorem U8 {α:Type} {xs:List α} {z:α} {l:Nat→Nat→List α→Int→Nat→Option (Int × List α)} {l':Nat→Nat→List α→Int→Nat→Option Int} {cnt:Nat→Nat}
    (he:∀ K k ys kk,ys.length=xs.length→l K (k+1) ys kk xs.length=some (kk,ys)) (he':∀ K k ys kk,ys.length=xs.length→l' K (k+1) ys kk xs.length=some kk)
    (h1:∀ i,i<xs.length→∀ kk:Int,0≤kk→kk+(cnt i:Int)≤Uq→∃ y,
      (∀ ys r,ys.length=xs.length→ys.getD i z=xs.getD i z→Aa (fun K k=>l K k (ys.set i y) (kk+(cnt i:Int)) (i+1)) r→Aa (fun K k=>l K k ys kk i) r) ∧
      (∀ ys r,ys.length=xs.length→ys.getD i z=y→Aa (fun K k=>l' K k ys (kk+(cnt i:Int)) (i+1)) r→Aa (fun K k=>l' K k ys kk i) r)) :
    ∀ (m i:Nat) (ys:List α) (kk:Int),xs.length - i=m→i≤xs.length→ys.length=xs.length→(∀ j,i≤j→j<xs.length→ys.getD j z=xs.getD j z)→0≤kk→kk+(Ma cnt i m:Int)≤Uq →
      ∃ zs,zs.length=xs.length∧(∀ j,j<i→zs.getD j z=ys.getD j z)∧Aa (fun K k=>l K k ys kk i) (kk+(Ma cnt i m:Int),zs)∧Aa (fun K k=>l' K k zs kk i) (kk+(Ma cnt i m:Int))
  | 0,i,ys,kk,hm,hi,hy,hg,h0,hb=>by
    obtain rfl:i=xs.length:=by omega
    refine ⟨ys,hy,fun _ _=>rfl,Aa.of fun K k=>?_,Aa.of fun K k=>?_⟩
    · rw [he K k ys kk hy]; simp [Ma]
    · rw [he' K k ys kk hy]; simp [Ma]
  | m+1,i,ys,kk,hm,hi,hy,hg,h0,hb=>by
    have hlt:i<xs.length:=by omega
    have hs:(Ma cnt i (m+1):Int)=(cnt i:Int)+(Ma cnt (i+1) m:Int):=by rw [Ma]; omega
    obtain ⟨y,a,b⟩:=h1 i hlt kk h0 (by omega)
    obtain ⟨zs,z1,z2,z3,z4⟩:=U8 he he' h1 m (i+1) (ys.set i y) (kk+(cnt i:Int)) (by omega) (by omega) (by rw [List.length_set]; exact hy) (fun j hj hj'=>by rw [eT (by omega)]; exact hg j (by omega) hj') (by omega) (by omega)
    have hk:kk+(Ma cnt i (m+1):Int)=kk+(cnt i:Int)+(Ma cnt (i+1) m:Int):=by omega
    rw [hk]
    refine ⟨zs,z1,fun j hj=>?_,a ys _ hy (hg i (Nat.le_refl _) hlt) z3,b zs _ z1 ?_ z4⟩
    · rw [z2 j (by omega),eT (by omega)]
    · rw [z2 i (by omega),Su (by omega)]
def Mo {β:Type} (mark:Nat→List β→Int→Option (Int × List β)) (held:Nat→List β→Int→Option Int) (xs:List β) (c:Nat):Prop :=
  ∀ kk:Int,0≤kk→kk+(c:Int)≤Uq→∃ ys,ys.length=xs.length∧Ac (fun K=>mark K xs kk) (kk+(c:Int),ys)∧Ac (fun K=>held K ys kk) (kk+(c:Int))
theorem Mo.of {α:Type} {xs:List α} {z:α} {mark:Nat→List α→Int→Option (Int × List α)} {held:Nat→List α→Int→Option Int} {l:Nat→Nat→List α→Int→Int→Option (Int × List α)} {l':Nat→Nat→List α→Int→Int→Option Int} {cnt:Nat→Nat}
    (hm:∀ K xs kk,mark K xs kk=l K K xs kk 0) (hh:∀ K xs kk,held K xs kk=l' K K xs kk 0)
    (he:∀ K k ys kk,ys.length=xs.length→l K (k+1) ys kk (xs.length:Int)=some (kk,ys)) (he':∀ K k ys kk,ys.length=xs.length→l' K (k+1) ys kk (xs.length:Int)=some kk)
    (h1:∀ i,i<xs.length→∀ kk:Int,0≤kk→kk+(cnt i:Int)≤Uq→∃ y,
      (∀ ys r,ys.length=xs.length→ys.getD i z=xs.getD i z→Aa (fun K k=>l K k (ys.set i y) (kk+(cnt i:Int)) ((i+1:Nat):Int)) r→Aa (fun K k=>l K k ys kk (i:Int)) r) ∧
      (∀ ys r,ys.length=xs.length→ys.getD i z=y→Aa (fun K k=>l' K k ys (kk+(cnt i:Int)) ((i+1:Nat):Int)) r→Aa (fun K k=>l' K k ys kk (i:Int)) r)):Mo mark held xs (Ma cnt 0 xs.length):=fun kk h0 hb=>by
  obtain ⟨zs,z1,_,z3,z4⟩:=U8 (l:=fun K k ys kk i=>l K k ys kk (i:Int)) (l':=fun K k ys kk i=>l' K k ys kk (i:Int)) he he' h1 xs.length 0 xs kk (by omega) (by omega) rfl (fun _ _ _=>rfl) h0 hb
  exact ⟨zs,z1,Ac.congr (fun K=>hm K xs kk) z3.He,Ac.congr (fun K=>hh K zs kk) z4.He⟩
theorem Nz (c:Nat):∀ m i,Ma (fun _=>c) i m=c * m
  | 0,_=>rfl
  | m+1,i=>by rw [Ma,Nz c m,Nat.mul_succ,Nat.add_comm]
section
variable {kk:Int}
theorem w1 (h0:0≤kk) (h1:kk≤Uq+10):w64 (kk+1)=kk+1:=by unfold Uq at h1; exact Hf (by omega) (by omega)
end
theorem Mo.rows {β:Type} {xs:List (List β)} {mark:Nat→List β→Int→Option (Int × List β)} {held:Nat→List β→Int→Option Int} {markS:Nat→List (List β)→Int→Option (Int × List (List β))} {heldS:Nat→List (List β)→Int→Option Int}
    {l:Nat→Nat→List (List β)→Int→Int→Option (Int × List (List β))} {l':Nat→Nat→List (List β)→Int→Int→Option Int} {cnt:Nat→Nat} (hn:xs.length≤2000000)
    (hm:∀ K xs kk,markS K xs kk=l K K xs kk 0) (hh:∀ K xs kk,heldS K xs kk=l' K K xs kk 0)
    (hl:∀ K k ys kk i,l K (k+1) ys kk i=if i<(ys.length:Int) then (if 0≤i∧i<(ys.length:Int) then Et (mark K (ys.getD i.toNat []) kk) (fun a b=>if b.length=(ys.getD i.toNat []).length then l K k (ys.set i.toNat b) a (w64 (i+1)) else none) else none) else some (kk,ys))
    (hl':∀ K k ys kk i,l' K (k+1) ys kk i=if i<(ys.length:Int) then (if 0≤i∧i<(ys.length:Int) then (held K (ys.getD i.toNat []) kk).bind (fun t=>if t<0 then some (-1) else l' K k ys t (w64 (i+1))) else none) else some kk)
    (h1:∀ i,i<xs.length→Mo mark held (xs.getD i []) (cnt i)):Mo markS heldS xs (Ma cnt 0 xs.length) :=
  Mo.of (z:=[]) hm hh (fun K k ys kk hy=>by rw [hl,if_neg (by omega)]) (fun K k ys kk hy=>by rw [hl',if_neg (by omega)]) fun i hi kk h0 hb=>by
    obtain ⟨y,y1,y2,y3⟩:=h1 i hi kk h0 hb
    refine ⟨y,fun ys r hy hg h=>?_,fun ys r hy hg h=>?_⟩
    · refine Aa.step (fun K k=>?_) (Aa.Et (G:=fun K k a b=>if b.length=(xs.getD i []).length then l K k (ys.set i b) a ((i+1:Nat):Int) else none) y2.two (Aa.pos y1 h))
      rw [hl,if_pos (by omega),if_pos (by omega),Int.toNat_natCast,hg,Bb (by omega)]
    · refine Aa.step (fun K k=>?_) (Aa.bind (G:=fun K k t=>if t<0 then some (-1) else l' K k ys t ((i+1:Nat):Int)) y3.two (Aa.neg (by omega) h))
      rw [hl',if_pos (by omega),if_pos (by omega),Int.toNat_natCast,hg,Bb (by omega)]
theorem aZ {f:Nat→Nat} {B:Nat}:∀ (m i:Nat),(∀ j,i≤j→j<i+m→f j≤B)→Ma f i m≤B * m
  | 0,_,_=>Nat.le_refl _
  | m+1,i,h=>by
    have h1:=h i (Nat.le_refl _) (by omega)
    have h2:=aZ m (i+1) (fun j a b=>h j (by omega) (by omega))
    rw [Ma,Nat.mul_succ]; omega
def aX {β:Type} (mark:Nat→List β→Int→Option (Int × List β)) (xs:List β) (c:Nat):Prop:=Mo mark (fun _ _ kk=>some (kk+(c:Int))) xs c
theorem aX.of {α:Type} {xs:List α} {z:α} {mark:Nat→List α→Int→Option (Int × List α)} {l:Nat→Nat→List α→Int→Int→Option (Int × List α)} {cnt:Nat→Nat}
    (hm:∀ K xs kk,mark K xs kk=l K K xs kk 0) (he:∀ K k ys kk,ys.length=xs.length→l K (k+1) ys kk (xs.length:Int)=some (kk,ys))
    (h1:∀ i,i<xs.length→∀ kk:Int,0≤kk→kk+(cnt i:Int)≤Uq→∃ y,
      (∀ ys r,ys.length=xs.length→ys.getD i z=xs.getD i z→Aa (fun K k=>l K k (ys.set i y) (kk+(cnt i:Int)) ((i+1:Nat):Int)) r→Aa (fun K k=>l K k ys kk (i:Int)) r)):aX mark xs (Ma cnt 0 xs.length) :=
  Mo.of (z:=z) (l:=l) (l':=fun _ _ _ kk i=>some (kk+(Ma cnt i.toNat (xs.length - i.toNat):Int))) (cnt:=cnt) hm (fun _ _ _=>rfl) he (fun K k ys kk hy=>by simp [Ma]) fun i hi kk h0 hb=>by
    obtain ⟨y,hy⟩:=h1 i hi kk h0 hb
    refine ⟨y,hy,fun ys r _ _ h=>?_⟩
    have e:Ma cnt i (xs.length - i)=cnt i+Ma cnt (i+1) (xs.length - (i+1)):=by rw [show xs.length - i=(xs.length - (i+1))+1 by omega,Ma]
    simp only [Int.toNat_natCast] at h ⊢
    rw [e,Int.natCast_add,← Int.add_assoc]
    exact h
theorem Uv {xs:List Int} (hn:xs.length≤2000000):∀ (m i:Nat) (out:List Int),xs.length - i=m→i≤xs.length→out.length=xs.length→(∀ j,j<i→out[j]?=xs[j]?) →
    Aa (fun K k=>D8.l1 K k xs out (i:Int)) xs
  | 0,i,out,hm,hi,hl,ho=>by
    have he:out=xs:=by
      apply List.ext_getElem?
      intro j
      by_cases hj:j<i
      · exact ho j hj
      · rw [List.getElem?_eq_none (by omega),List.getElem?_eq_none (by omega)]
    exact Aa.of fun K k=>by rw [D8.l1,if_neg (by omega),he]
  | m+1,i,out,hm,hi,hl,ho=>by
    have hlt:i<xs.length:=by omega
    refine Aa.step (fun K k=>?_) (Uv hn m (i+1) (out.set i xs[i]) (by omega) (by omega) (by rw [List.length_set]; exact hl) (fun j hj=>by
      by_cases hij:i=j
      · subst hij; rw [List.getElem?_set_self (by omega),List.getElem?_eq_getElem hlt]
      · rw [List.getElem?_set_ne hij]; exact ho j (by omega)))
    rw [D8.l1,if_pos (by omega),if_pos (by omega),if_pos (by omega),Int.toNat_natCast,Bb (by omega),List.getD_eq_getElem?_getD,List.getElem?_eq_getElem hlt]
    rfl
theorem rR {xs:List Int} (hn:xs.length≤2000000):Ac (fun K=>D8.f K xs) xs:=by
  refine Ac.congr (fun K=>?_) (Uv hn xs.length 0 (List.replicate xs.length 0) (by omega) (by omega) (by simp) (fun j hj=>by omega)).He
  rw [D8.f,if_pos (by omega),if_pos (by omega),Int.toNat_natCast]
  rfl
theorem U4 {xs:List Int} (hn:xs.length≤2000000):∀ (m i:Nat),xs.length - i=m→Aa (fun K k=>F7.l1 K k xs xs (i:Int)) true
  | 0,i,hm=>Aa.of fun K k=>by rw [F7.l1,if_neg (by omega)]
  | m+1,i,hm=>by
    refine Aa.step (fun K k=>?_) (U4 hn m (i+1) (by omega))
    rw [F7.l1,if_pos (by omega),if_pos (by omega),if_pos (by omega),if_pos rfl,Bb (by omega)]
theorem uG {xs:List Int} (hn:xs.length≤2000000):Ac (fun K=>F7.f K xs xs) true:=Ac.pos rfl (U4 hn xs.length 0 rfl).He
theorem fT {xs:List Int} (hn:xs.length≤2000000):aX Ef.f xs xs.length:=by
  have h:=aX.of (xs:=xs) (z:=0) (mark:=Ef.f) (l:=Ef.l1) (cnt:=fun _=>1) (fun _ _ _=>rfl)
    (fun K k ys kk hy=>by rw [Ef.l1,if_neg (by omega)]) (fun i hi kk h0 hb=>⟨kk,fun ys r hy hg h=>Aa.step (fun K k=>?_) h⟩)
  · rw [Nz,Nat.one_mul] at h; exact h
  · rw [Ef.l1,if_pos (by omega),if_pos (by omega),Int.toNat_natCast,w1 h0 (by omega),Bb (by omega)]
    rfl
theorem dX {xs:List Int} (hn:xs.length≤2000000) {k:Int} (h0:0≤k) (h1:k≤100000000000000):∃ (q:Int) (ys:List Int),0≤q∧ys.length=xs.length∧Ac (fun K=>Ef.f K xs k) (q,ys):=by
  obtain ⟨ys,y1,y2,y3⟩:=fT hn k h0 (by unfold Uq; omega)
  exact ⟨k+(xs.length:Int),ys,by omega,y1,y2⟩
theorem dY {xs:List Dv} (hn:xs.length≤2000000):Mo Fe.f Ei.f xs (3 * xs.length):=by
  have h:=Mo.of (xs:=xs) (z:=Kc) (mark:=Fe.f) (held:=Ei.f) (l:=Fe.l1) (l':=Ei.l1) (cnt:=fun _=>3) (fun _ _ _=>rfl) (fun _ _ _=>rfl)
    (fun K k ys kk hy=>by rw [Fe.l1,if_neg (by omega)]) (fun K k ys kk hy=>by rw [Ei.l1,if_neg (by omega)]) (fun i hi kk h0 hb=>⟨⟨kk,kk+1,kk+2⟩,fun ys r hy hg h=>Aa.step (fun K k=>?_) h,fun ys r hy hg h=>Aa.step (fun K k=>?_) h⟩)
  · rw [Nz] at h; exact h
  all_goals
    have e1:=w1 h0 (by omega)
    have e2:w64 (kk+1+1)=kk+2:=(w1 (by omega) (by omega)).trans (by omega)
    have e3:w64 (kk+2+1)=kk+3:=(w1 (by omega) (by omega)).trans (by omega)
  · rw [Fe.l1,if_pos (by omega),if_pos (by omega),Int.toNat_natCast]
    simp only [Fz,List.length_set,if_pos (show 0≤(i:Int)∧(i:Int)<(ys.length:Int) by omega),Su (show i<ys.length by omega),List.set_set,e1,e2,e3,Bb (show i<4611686018427387904 by omega)]
    rfl
  · rw [Ei.l1,if_pos (by omega),if_pos (by omega),Int.toNat_natCast,hg,Fz,if_pos rfl,e1,if_pos rfl,e2,if_pos rfl,e3,Bb (by omega)]; rfl
theorem Ua {xs:List Dv} (hn:xs.length≤2000000):∀ (m i:Nat),xs.length - i=m→Aa (fun K k=>Er.l1 K k xs xs (i:Int)) true
  | 0,i,hm=>Aa.of fun K k=>by rw [Er.l1,if_neg (by omega)]
  | m+1,i,hm=>by
    refine Aa.step (fun K k=>?_) (Ua hn m (i+1) (by omega))
    rw [Er.l1,if_pos (by omega),if_pos (by omega),Fz,if_pos (by omega),Fz,Bb (by omega)]
    unfold Jv.f
    rw [if_pos rfl,if_pos rfl,if_pos rfl,Option.bind_some,if_pos rfl]
theorem nN {xs:List Dv} (hn:xs.length≤2000000):Ac (fun K=>Er.f K xs xs) true:=Ac.pos rfl (Ua hn xs.length 0 rfl).He
theorem eB {xs:List Ab} (hn:xs.length≤2000000):Mo Ew.f Ev.f xs (2 * xs.length):=by
  have h:=Mo.of (xs:=xs) (z:=Bh) (mark:=Ew.f) (held:=Ev.f) (l:=Ew.l1) (l':=Ev.l1) (cnt:=fun _=>2) (fun _ _ _=>rfl) (fun _ _ _=>rfl)
    (fun K k ys kk hy=>by rw [Ew.l1,if_neg (by omega)]) (fun K k ys kk hy=>by rw [Ev.l1,if_neg (by omega)]) (fun i hi kk h0 hb=>⟨⟨kk,kk+1⟩,fun ys r hy hg h=>Aa.step (fun K k=>?_) h,fun ys r hy hg h=>Aa.step (fun K k=>?_) h⟩)
  · rw [Nz] at h; exact h
  · have e1:=w1 h0 (by omega)
    have e2:w64 (kk+1+1)=kk+2:=(w1 (by omega) (by omega)).trans (by omega)
    rw [Ew.l1,if_pos (by omega),if_pos (by omega),Int.toNat_natCast]
    simp only [Fz,List.length_set,if_pos (show 0≤(i:Int)∧(i:Int)<(ys.length:Int) by omega),Su (show i<ys.length by omega),List.set_set,e1,e2,Bb (show i<4611686018427387904 by omega)]
    rfl
  · have e1:=w1 h0 (by omega)
    have e2:w64 (kk+1+1)=kk+2:=(w1 (by omega) (by omega)).trans (by omega)
    rw [Ev.l1,if_pos (by omega),if_pos (by omega),Int.toNat_natCast,hg,Fz,if_pos rfl,e1,if_pos rfl,e2,Bb (by omega)]; rfl
def cF (xs:List (List Ab)):Nat:=Ma (fun i=>2 * (xs.getD i []).length) 0 xs.length
theorem Zi {xs:List (List Ab)} (hn:xs.length≤2000000) (h:∀ j,j<xs.length→(xs.getD j []).length≤2000000):Mo Fv.f Fh.f xs (cF xs) :=
  Mo.rows (mark:=Ew.f) (held:=Ev.f) (l:=Fv.l1) (l':=Fh.l1) hn (fun _ _ _=>rfl) (fun _ _ _=>rfl) (fun _ _ _ _ _=>rfl) (fun _ _ _ _ _=>rfl) (fun i hi=>eB (h i hi))
theorem aK {xs:List (List Ab)} (hn:xs.length≤2000000) (h:∀ j,j<xs.length→(xs.getD j []).length≤2000000):∃ (q:Int) (ys:List (List Ab)),(0≤q∧q≤100000000000000)∧ys.length=xs.length∧Ac (fun K=>Fx.f K xs 1) (q,ys)∧Ac (fun K=>Fh.f K ys 1) q:=by
  have hc:cF xs≤4000000 * xs.length:=by
    unfold cF
    exact aZ xs.length 0 (fun j _ hj=>by have:=h j (by omega); show 2 * (xs.getD j []).length≤4000000; omega)
  obtain ⟨ys,y1,y2,y3⟩:=Zi hn h 1 (by decide) (by unfold Uq; omega)
  exact ⟨1+(cF xs:Int),ys,⟨by omega,by omega⟩,y1,Ac.Et y2 (Ac.pos y1 (Ac.const _)),y3⟩
end Go.Proofs.YtbjfinndngafoaaGreat
