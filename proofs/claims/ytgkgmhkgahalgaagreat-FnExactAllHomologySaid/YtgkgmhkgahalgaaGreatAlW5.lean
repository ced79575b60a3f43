/-
  The walks through the functions: a call comes to what its list function says.
-/
import Derived.Test.YtgkgmhkgahalgaaGreatAlF
import Derived.Test.YtgkgmhkgahalgaaGreatAlW3
import Derived.Test.YtgkgmhkgahalgaaGreatAlW4
set_option linter.unusedVariables false
set_option linter.unusedSimpArgs false
namespace Go.Proofs.YtgkgmhkgahalgaaGreat
open Go.RowKit
open Tryz
variable {w0 w:World} {L:List Df} {K:Nat} {A_a A_b A_c A_d A_e A_f A_g A_h A_i A_j A_k A_l A_m A_n A_o A_p A_q A_r A_s A_t A_u A_v A_w A_x A_y A_z:Option Addr} {c_a c_b c_c c_d c_e c_f c_g c_h c_i c_j c_k c_l c_m c_n c_o c_p c_q c_r c_s c_t c_u c_v c_w c_x c_y c_z:Nat}
set_option maxRecDepth 20000
set_option maxHeartbeats 40000000
theorem Gy.calls {u1:Bool} {entry:List Int} {a1 x by_:Int} {b_r:Nat} {n1 f1:Value} {g1 e1:Value} {c1 k1:Value} {i1 m1:Value} {h1 s1:Value} {b1 o1:Value} {p1 q1 d1:Value} {r1:Bool} {r2:List Int} (HS:St w0 w (Box b_r 168 [n1,f1,g1,e1,c1,k1,i1,m1,h1,s1,b1,o1,p1,q1,d1,.bool u1]::Own (Ad .i64) 2 A_a c_a uu entry::L)) (H:Gy.f u1 entry a1 x by_=some (r1,r2)) :
    Calls prog 222 #[pT b_r,.pointer (some (ea A_a (a1.toNat * 1))),I x,I by_] w (Gy.post w0 L b_r n1 f1 g1 e1 c1 k1 i1 m1 h1 s1 b1 o1 p1 q1 d1 A_a c_a r1 r2):=by
  unfold Gy.f at H
  refine cG func222 Z ?_
  refine sQ ?_
  obtain ⟨t1,t2,h3,H⟩:=De H
  refine rG (pS 2 Z (fJ iZ Z (Jb.calls HS  h3) (fun _ wd4 ⟨h5,HS⟩=>⟨_,h5,(pS 5 Z (nL (sQ ?_)))⟩)))
  obtain ⟨c6,H⟩:=iN H
  refine rG (mV Z (GO.En Z Z Z (GO.Dt (T:=(Ad .i64)) (n:=a1.toNat) (o:=0) HS (ro 1 Z) Z Z (getD_some (d:=0) (ltN c6)) Z Z na2 Z (pS 2 Z (GO.En Z Z Z (GO.Ia (T:=(Ad .i64)) (j:=1) (n:=a1.toNat) (o:=0) (vs:=[I (w64 ((entry.getD a1.toNat 0)+t1))]) (w64 ((entry.getD a1.toNat 0)+t1)) HS Z Av Z Z Z Z (htN na2 Z) Z (getD_some (d:=0) (ltN c6)) Z Z fun wd7 HS=>nL (sQ ?_)))))))
  rcases iS H with ⟨c14,H⟩ | ⟨c14,H⟩
  ·
   refine rG (pS 3 Z (kN 24 Z (congrArg Bool.not (Cy c14)) (oF Z (oF Z (oF Z (oF Z (oF Z (GO.Gw Z Z Z Z Z (nL (rN 2 Z (rG (mV Z (GO.En Z Z Z (fL b_r 15 Ma Z ?_))))))))))))))
   refine GO.Kq (j:=0) (vs:=[.bool true]) ([n1,f1,g1,e1,c1,k1,i1,m1,h1,s1,b1,o1,p1,q1,d1,.bool true]) HS Z Z Z Z Z (htN na4 Z) Z Z Z fun wd23 HS=>nL ?_
   obtain ⟨c25,H⟩:=iN H
   refine rG (mV Z (GO.En Z Z Z (GO.Ia (T:=(Ad .i64)) (j:=1) (n:=a1.toNat) (o:=0) (vs:=[I 0]) 0 HS Z Av Z Z Z Z (htN na2 Z) Z (getD_some (d:=0) (ltN c25)) Z Z fun wd24 HS=>nL ?_)))
   obtain ⟨rfl,rfl⟩:=I6 H
   exact G.Ki func222 Z ⟨Z,HS⟩
  obtain ⟨c15,H⟩:=iN H
  obtain ⟨t16,h17,H⟩:=bI H
  refine rG (pS 3 Z (kN 24 Z (congrArg Bool.not c14) (oN Z (mV Z (bK (oN Z (GO.En Z Z Z (bK (oN Z (GO.Dt (T:=(Ad .i64)) (n:=a1.toNat) (o:=0) HS (ro 1 Z) Z Z (getD_some (d:=0) (ltN c15)) Z Z na2 Z (bK (oN Z (fJ Xd Z (Jc.calls HS  h17) (fun _ wd18 ⟨h19,HS⟩=>⟨_,h19,(bK ?_)⟩))))))))))))))
  refine oN Z (GO.gtr Z Z Z Z (bK (GO.Hw Z Z Z Z Z (nL ?_))))
  rcases iS H with ⟨c20,H⟩ | ⟨c20,H⟩
  ·
   refine nB Z (tF c20) (G.skip ?_)
   obtain ⟨rfl,rfl⟩:=I6 H
   exact G.Ki func222 Z ⟨Z,HS⟩
  refine yB Z (tT c20) (sQ (rG (mV Z (GO.En Z Z Z (fL b_r 15 Ma Z (GO.Kq (j:=0) (vs:=[.bool true]) ([n1,f1,g1,e1,c1,k1,i1,m1,h1,s1,b1,o1,p1,q1,d1,.bool true]) HS Z Z Z Z Z (htN na4 Z) Z Z Z fun wd21 HS=>nL (rG (mV Z (GO.En Z Z Z (GO.Ia (T:=(Ad .i64)) (j:=1) (n:=a1.toNat) (o:=0) (vs:=[I 0]) 0 HS Z Av Z Z Z Z (htN na2 Z) Z (getD_some (d:=0) (ltN c15)) Z Z fun wd22 HS=>nL ?_))))))))))
  obtain ⟨rfl,rfl⟩:=I6 H
  exact G.Ki func222 Z ⟨Z,HS⟩
theorem Da.calls {y1:Bool} {c1 a1:Int} {x1:List Int} {to m1 by_:Int} {b_r:Nat} {k1 i1:Value} {o1 e1:Value} {n1 q1:Value} {p1 v1:Value} {f1 t1:Value} {u1 g1:Value} {s1 h1 d1:Value} {r1:Bool} {r2:List Int} (HS:St w0 w (Box b_r 168 [k1,i1,o1,e1,n1,q1,p1,v1,f1,t1,u1,g1,s1,h1,d1,.bool y1]::Own (Ad .i64) 2 A_a c_a uu x1::L)) (H:Da.f K y1 c1 a1 x1 to m1 by_=some (r1,r2)) :
    Calls prog 214 #[pT b_r,.agg [I c1,I a1,sV A_a x1 c_a].toArray,I to,I m1,I by_] w (Da.post w0 L b_r k1 i1 o1 e1 n1 q1 p1 v1 f1 t1 u1 g1 s1 h1 d1 A_a c_a r1 r2):=by
  unfold Da.f at H
  refine cG func214 Z ?_
  refine sQ (rG (bA HS Z fun b1 wd2 HS=>nL (sQ (rG (fL b1 1 Ew Z (lB 0 HS Z na2 Z (mV Z (nL (rN 2 Z ?_)))))))))
  refine G.name (fun a2 c2=>?_)
  have d2:∀ z1,z1≤K→∀ (x20:Bool) (x21:List Int) (x22:Int) (w:World),Da.l1 K z1 c1 a1 to m1 by_ x20 x21 x22=some (r1,r2)→St w0 w (Box b_r 168 [k1,i1,o1,e1,n1,q1,p1,v1,f1,t1,u1,g1,s1,h1,d1,.bool x20]::Own (Ad .i64) 2 A_a c_a uu x21::Box b1 57 [I c1,I a1,sV A_a x21 c_a]::L)→G prog 214 30 [(0,pT b_r),(2,I to),(3,I m1),(4,I by_),(6,pT b1),(12,I a1),(13,I x22)] a2 w (Da.post w0 L b_r k1 i1 o1 e1 n1 q1 p1 v1 f1 t1 u1 g1 s1 h1 d1 A_a c_a r1 r2):=by
   refine lp (fun _ _ _ w H _=>by rw [Da.l1] at H; cases H) fun b2 f2 e2 x20 x21 x22 w H HS=>?_
   rw [Da.l1] at H
   subst c2
   refine rN 3 Z ?_
   rcases iS H with ⟨c40,H⟩ | ⟨c40,H⟩
   ·
    refine nB Z (tF c40) (G.exit Z ?_)
    obtain ⟨rfl,rfl⟩:=I6 H
    exact G.Ki func214 Z ⟨Z,(HS.pk 3 [0,1] Z)⟩
   refine yB Z (tT c40) (rN 5 Z ?_)
   obtain ⟨t41,h42,H⟩:=bI H
   obtain ⟨c43,H⟩:=iN H
   obtain ⟨t46,h47,H⟩:=bI H
   obtain ⟨c48,H⟩:=iN H
   obtain ⟨t51,t52,h53,H⟩:=De H
   obtain ⟨c54,H⟩:=iN H
   refine G.Jg mixed (fun w=>St w0 w (Own (Ad .i64) 2 A_a c_a uu x21::Box b1 57 [I c1,I a1,sV A_a x21 c_a]::L)) [1,5,10] [0,2,3,6,7,11,1,5,4,8,9,10,12] [12] (by kernel_rfl) (by kernel_rfl) (HS.drew.pk 3 [1,2] Z) ?_
   replace HS:=HS.drew
   refine GX.ps 6 Z (GX.ls Z Z Z (HS.pk 3 [1,2] Z) (fun _ HS _ g=>lW 1 HS Z Du g) Z (GX.ls Z Z Z (HS.pk 3 [1,2] Z) (fun _ HS _ g=>lW 1 HS Z Du g) Z (GX.l2 Z (fJ Kh Z (Be.calls HS (ro 1 Z) h42) (fun _ wd44 ⟨h45,HS⟩=>⟨_,h45,(GX.fin (HS.pk 3 [1,2] Z) (GX.l2 Z (fJ Kh Z (Be.calls HS (ro 1 Z) h47) (fun _ wd49 ⟨h50,HS⟩=>⟨_,h50,(GX.fin (HS.pk 3 [1,2] Z) (qL Z Z (fun _ _ g=>GO.En Z Z Z g) Z (GX.ls Z Z Z (HS.pk 3 [1,2] Z) (fun _ HS _ g=>GO.Dt (T:=(Ad .i64)) (n:=t46.toNat) (o:=0) HS (ro 0 Z) Z Z (getD_some (d:=0) (ltN c48)) Z Z na2 Z g) Z (GX.l2 Z ?_))))⟩))))⟩)))))
   replace HS:=HS.pk 3 [0,1,2] Z
   refine fJ mQ Z (Gy.calls HS  h53) (fun _ wd55 ⟨h56,HS⟩=>⟨_,h56,(GX.bF Z (GX.nil ?_))⟩)
   replace HS:=HS.F8 (j:=2) (cs':=[I c1,I a1,sV A_a t52 c_a]) Z (by simp only [sV,List.length_set,c54] <;> rfl)
   refine rN 3 Z (gW (e2 b2 (lR _) _ _ _ _ H HS) Z)
  exact gW (d2 K (lR _) _ _ _ _ H (HS.pk 3 [1,2,0] Z)) Z
theorem Co.calls {y1:Bool} {a1 c1:Int} {x1:List Int} {to m1 by_:Int} {b_r:Nat} {k1 i1:Value} {o1 e1:Value} {n1 q1:Value} {p1 v1:Value} {f1 t1:Value} {u1 g1:Value} {s1 h1 d1:Value} {r1:Bool} {r2:List Int} (HS:St w0 w (Box b_r 168 [k1,i1,o1,e1,n1,q1,p1,v1,f1,t1,u1,g1,s1,h1,d1,.bool y1]::Own (Ad .i64) 2 A_a c_a uu x1::L)) (H:Co.f K y1 a1 c1 x1 to m1 by_=some (r1,r2)) :
    Calls prog 215 #[pT b_r,.agg [I a1,I c1,sV A_a x1 c_a].toArray,I to,I m1,I by_] w (Co.post w0 L b_r k1 i1 o1 e1 n1 q1 p1 v1 f1 t1 u1 g1 s1 h1 d1 A_a c_a r1 r2):=by
  unfold Co.f at H
  refine cG func215 Z ?_
  refine sQ (rG (bA HS Z fun b1 wd2 HS=>nL (sQ (rG (fL b1 0 Gg Z (lB 0 HS Z na2 Z (mV Z (nL (rN 2 Z ?_)))))))))
  refine G.name (fun a2 c2=>?_)
  have d2:∀ z1,z1≤K→∀ (x20:Bool) (x21:List Int) (x22:Int) (w:World),Co.l1 K z1 a1 c1 to m1 by_ x20 x21 x22=some (r1,r2)→St w0 w (Box b_r 168 [k1,i1,o1,e1,n1,q1,p1,v1,f1,t1,u1,g1,s1,h1,d1,.bool x20]::Own (Ad .i64) 2 A_a c_a uu x21::Box b1 57 [I a1,I c1,sV A_a x21 c_a]::L)→G prog 215 30 [(0,pT b_r),(2,I to),(3,I m1),(4,I by_),(6,pT b1),(12,I a1),(13,I x22)] a2 w (Co.post w0 L b_r k1 i1 o1 e1 n1 q1 p1 v1 f1 t1 u1 g1 s1 h1 d1 A_a c_a r1 r2):=by
   refine lp (fun _ _ _ w H _=>by rw [Co.l1] at H; cases H) fun b2 f2 e2 x20 x21 x22 w H HS=>?_
   rw [Co.l1] at H
   subst c2
   refine rN 3 Z ?_
   rcases iS H with ⟨c40,H⟩ | ⟨c40,H⟩
   ·
    refine nB Z (tF c40) (G.exit Z ?_)
    obtain ⟨rfl,rfl⟩:=I6 H
    exact G.Ki func215 Z ⟨Z,(HS.pk 3 [0,1] Z)⟩
   refine yB Z (tT c40) (rN 5 Z ?_)
   obtain ⟨t41,h42,H⟩:=bI H
   obtain ⟨c43,H⟩:=iN H
   obtain ⟨t46,h47,H⟩:=bI H
   obtain ⟨c48,H⟩:=iN H
   obtain ⟨t51,t52,h53,H⟩:=De H
   obtain ⟨c54,H⟩:=iN H
   refine G.Jg mixed (fun w=>St w0 w (Own (Ad .i64) 2 A_a c_a uu x21::Box b1 57 [I a1,I c1,sV A_a x21 c_a]::L)) [1,5,10] [0,2,3,6,7,11,1,5,4,8,9,10,12] [12] (by kernel_rfl) (by kernel_rfl) (HS.drew.pk 3 [1,2] Z) ?_
   replace HS:=HS.drew
   refine GX.ps 6 Z (GX.ls Z Z Z (HS.pk 3 [1,2] Z) (fun _ HS _ g=>lW 1 HS Z Du g) Z (GX.ls Z Z Z (HS.pk 3 [1,2] Z) (fun _ HS _ g=>lW 1 HS Z Du g) Z (GX.l2 Z (fJ Kh Z (Be.calls HS (ro 1 Z) h42) (fun _ wd44 ⟨h45,HS⟩=>⟨_,h45,(GX.fin (HS.pk 3 [1,2] Z) (GX.l2 Z (fJ Kh Z (Be.calls HS (ro 1 Z) h47) (fun _ wd49 ⟨h50,HS⟩=>⟨_,h50,(GX.fin (HS.pk 3 [1,2] Z) (qL Z Z (fun _ _ g=>GO.En Z Z Z g) Z (GX.ls Z Z Z (HS.pk 3 [1,2] Z) (fun _ HS _ g=>GO.Dt (T:=(Ad .i64)) (n:=t46.toNat) (o:=0) HS (ro 0 Z) Z Z (getD_some (d:=0) (ltN c48)) Z Z na2 Z g) Z (GX.l2 Z ?_))))⟩))))⟩)))))
   replace HS:=HS.pk 3 [0,1,2] Z
   refine fJ mQ Z (Gy.calls HS  h53) (fun _ wd55 ⟨h56,HS⟩=>⟨_,h56,(GX.bF Z (GX.nil ?_))⟩)
   replace HS:=HS.F8 (j:=2) (cs':=[I a1,I c1,sV A_a t52 c_a]) Z (by simp only [sV,List.length_set,c54] <;> rfl)
   refine rN 3 Z (gW (e2 b2 (lR _) _ _ _ _ H HS) Z)
  exact gW (d2 K (lR _) _ _ _ _ H (HS.pk 3 [1,2,0] Z)) Z
theorem Et.calls {d1 h1:Int} {p1:List Int} {b1 e1:Int} {o1:List Int} {a1 c1:Int} {q1:List Int} {m1 k1:Int} {g1:List Int} {n1 i1:Int} {f1:List Int} {s1:Bool} {to u1 by_:Int} {b_r:Nat} {r1:Bool} {r2 r3 r4:List Int} (HS:St w0 w (Box b_r 168 [I d1,I h1,sV A_a p1 c_a,I b1,I e1,sV A_b o1 c_b,I a1,I c1,sV A_c q1 c_c,I m1,I k1,sV A_d g1 c_d,I n1,I i1,sV A_e f1 c_e,.bool s1]::Own (Ad .i64) 2 A_a c_a uu p1::Own (Ad .i64) 2 A_b c_b uu o1::Own (Ad .i64) 2 A_c c_c uu q1::L)) (r_d:Ce w0 L (Ad .i64) A_d c_d uu g1) (r_e:Ce w0 L (Ad .i64) A_e c_e uu f1) (H:Et.f K d1 h1 p1 b1 e1 o1 a1 c1 q1 m1 k1 g1 n1 i1 f1 s1 to u1 by_=some (r1,r2,r3,r4)) :
    Calls prog 194 #[pT b_r,I to,I u1,I by_] w (Et.post w0 L d1 h1 b1 e1 a1 c1 m1 k1 g1 n1 i1 f1 b_r A_a c_a A_b c_b A_c c_c A_d c_d A_e c_e r1 r2 r3 r4):=by
  unfold Et.f at H
  refine cG func194 Z ?_
  refine sQ ?_
  obtain ⟨t1,t2,h3,H⟩:=De H
  obtain ⟨c4,H⟩:=iN H
  refine rG (pS 2 Z (GO.En Z Z Z (fL b_r 0 Iw Z (fL b_r 6 K5 Z (GO.Gf (j:=0) ([I a1,I c1,sV A_c q1 c_c]) HS Z Z Z Z Du Z (pS 3 Z ?_))))))
  replace HS:=HS.pk 4 [0,3,1,2] Z
  refine fJ bC Z (Da.calls HS  h3) (fun _ wd5 ⟨h6,HS⟩=>⟨_,h6,(nL ?_)⟩)
  replace HS:=HS.F8 (j:=0) (cs':=[I d1,I h1,sV A_a p1 c_a,I b1,I e1,sV A_b o1 c_b,I a1,I c1,sV A_c t2 c_c,I m1,I k1,sV A_d g1 c_d,I n1,I i1,sV A_e f1 c_e,.bool t1]) Z (by simp only [sV,List.length_set,c4] <;> rfl)
  refine sQ ?_
  obtain ⟨t7,t8,h9,H⟩:=De H
  obtain ⟨c10,H⟩:=iN H
  refine rG (pS 2 Z (GO.En Z Z Z (fL b_r 0 Iw Z (fL b_r 0 Ym Z (GO.Gf (j:=0) ([I d1,I h1,sV A_a p1 c_a]) HS Z Z Z Z Du Z (pS 3 Z ?_))))))
  replace HS:=HS.pk 4 [0,2,1,3] Z
  refine fJ bC Z (Da.calls HS  h9) (fun _ wd11 ⟨h12,HS⟩=>⟨_,h12,(nL ?_)⟩)
  replace HS:=HS.F8 (j:=0) (cs':=[I d1,I h1,sV A_a t8 c_a,I b1,I e1,sV A_b o1 c_b,I a1,I c1,sV A_c t2 c_c,I m1,I k1,sV A_d g1 c_d,I n1,I i1,sV A_e f1 c_e,.bool t7]) Z (by simp only [sV,List.length_set,c10] <;> rfl)
  obtain ⟨t13,t14,h15,H⟩:=De H
  obtain ⟨c16,H⟩:=iN H
  refine rG (pS 2 Z (GO.En Z Z Z (fL b_r 0 Iw Z (fL b_r 3 Rk Z (GO.Gf (j:=0) ([I b1,I e1,sV A_b o1 c_b]) HS Z Z Z Z Du Z (pS 3 Z (GO.neg Z Z Z ?_)))))))
  replace HS:=HS.pk 4 [0,3,1,2] Z
  refine fJ dJ Z (Co.calls HS  h15) (fun _ wd17 ⟨h18,HS⟩=>⟨_,h18,(nL ?_)⟩)
  replace HS:=HS.F8 (j:=0) (cs':=[I d1,I h1,sV A_a t8 c_a,I b1,I e1,sV A_b t14 c_b,I a1,I c1,sV A_c t2 c_c,I m1,I k1,sV A_d g1 c_d,I n1,I i1,sV A_e f1 c_e,.bool t13]) Z (by simp only [sV,List.length_set,c16] <;> rfl)
  obtain ⟨rfl,rfl,rfl,rfl⟩:=Mi H
  exact G.Ki func194 Z ⟨Z,(HS.pk 4 [0,2,1,3] Z)⟩
theorem F3.calls {k1 o1:Int} {d1:List Int} {i1 m1:Int} {h1:List Int} {b1 e1:Int} {q1:List Int} {f1 c1:Int} {p1:List Int} {g1 a1:Int} {n1:List Int} {s1:Bool} {to u1 by_:Int} {b_r:Nat} {r1:Bool} {r2 r3 r4:List Int} (HS:St w0 w (Box b_r 168 [I k1,I o1,sV A_a d1 c_a,I i1,I m1,sV A_b h1 c_b,I b1,I e1,sV A_c q1 c_c,I f1,I c1,sV A_d p1 c_d,I g1,I a1,sV A_e n1 c_e,.bool s1]::Own (Ad .i64) 2 A_c c_c uu q1::Own (Ad .i64) 2 A_d c_d uu p1::Own (Ad .i64) 2 A_e c_e uu n1::L)) (r_a:Ce w0 L (Ad .i64) A_a c_a uu d1) (r_b:Ce w0 L (Ad .i64) A_b c_b uu h1) (H:F3.f K k1 o1 d1 i1 m1 h1 b1 e1 q1 f1 c1 p1 g1 a1 n1 s1 to u1 by_=some (r1,r2,r3,r4)) :
    Calls prog 211 #[pT b_r,I to,I u1,I by_] w (F3.post w0 L k1 o1 d1 i1 m1 h1 b1 e1 f1 c1 g1 a1 b_r A_a c_a A_b c_b A_c c_c A_d c_d A_e c_e r1 r2 r3 r4):=by
  unfold F3.f at H
  refine cG func211 Z ?_
  refine sQ ?_
  obtain ⟨t1,t2,h3,H⟩:=De H
  obtain ⟨c4,H⟩:=iN H
  refine rG (pS 2 Z (GO.En Z Z Z (fL b_r 0 Iw Z (fL b_r 6 K5 Z (GO.Gf (j:=0) ([I b1,I e1,sV A_c q1 c_c]) HS Z Z Z Z Du Z (pS 3 Z ?_))))))
  replace HS:=HS.pk 4 [0,1,2,3] Z
  refine fJ dJ Z (Co.calls HS  h3) (fun _ wd5 ⟨h6,HS⟩=>⟨_,h6,(nL ?_)⟩)
  replace HS:=HS.F8 (j:=0) (cs':=[I k1,I o1,sV A_a d1 c_a,I i1,I m1,sV A_b h1 c_b,I b1,I e1,sV A_c t2 c_c,I f1,I c1,sV A_d p1 c_d,I g1,I a1,sV A_e n1 c_e,.bool t1]) Z (by simp only [sV,List.length_set,c4] <;> rfl)
  refine sQ ?_
  obtain ⟨t7,t8,h9,H⟩:=De H
  obtain ⟨c10,H⟩:=iN H
  refine rG (pS 2 Z (GO.En Z Z Z (fL b_r 0 Iw Z (fL b_r 9 eD Z (GO.Gf (j:=0) ([I f1,I c1,sV A_d p1 c_d]) HS Z Z Z Z Du Z (pS 3 Z ?_))))))
  replace HS:=HS.pk 4 [0,2,1,3] Z
  refine fJ dJ Z (Co.calls HS  h9) (fun _ wd11 ⟨h12,HS⟩=>⟨_,h12,(nL ?_)⟩)
  replace HS:=HS.F8 (j:=0) (cs':=[I k1,I o1,sV A_a d1 c_a,I i1,I m1,sV A_b h1 c_b,I b1,I e1,sV A_c t2 c_c,I f1,I c1,sV A_d t8 c_d,I g1,I a1,sV A_e n1 c_e,.bool t7]) Z (by simp only [sV,List.length_set,c10] <;> rfl)
  obtain ⟨t13,t14,h15,H⟩:=De H
  obtain ⟨c16,H⟩:=iN H
  refine rG (pS 2 Z (GO.En Z Z Z (fL b_r 0 Iw Z (fL b_r 12 eP Z (GO.Gf (j:=0) ([I g1,I a1,sV A_e n1 c_e]) HS Z Z Z Z Du Z (pS 3 Z (GO.neg Z Z Z ?_)))))))
  replace HS:=HS.pk 4 [0,3,1,2] Z
  refine fJ bC Z (Da.calls HS  h15) (fun _ wd17 ⟨h18,HS⟩=>⟨_,h18,(nL ?_)⟩)
  replace HS:=HS.F8 (j:=0) (cs':=[I k1,I o1,sV A_a d1 c_a,I i1,I m1,sV A_b h1 c_b,I b1,I e1,sV A_c t2 c_c,I f1,I c1,sV A_d t8 c_d,I g1,I a1,sV A_e t14 c_e,.bool t13]) Z (by simp only [sV,List.length_set,c16] <;> rfl)
  obtain ⟨rfl,rfl,rfl,rfl⟩:=Mi H
  exact G.Ki func211 Z ⟨Z,(HS.pk 4 [0,3,2,1] Z)⟩
theorem Bi.calls {f1 e1:Int} {t1:List Int} {d1 h1:Int} {v1:List Int} {c1 a1:Int} {q1:List Int} {g1 k1:Int} {o1:List Int} {m1 i1:Int} {n1:List Int} {y1:Bool} {k_:Int} {b_r:Nat} {r1:Bool} {r2 r3:List Int} {r4 r5 r6:List Int} (HS:St w0 w (Box b_r 168 [I f1,I e1,sV A_a t1 c_a,I d1,I h1,sV A_b v1 c_b,I c1,I a1,sV A_c q1 c_c,I g1,I k1,sV A_d o1 c_d,I m1,I i1,sV A_e n1 c_e,.bool y1]::Own (Ad .i64) 2 A_a c_a uu t1::Own (Ad .i64) 2 A_b c_b uu v1::Own (Ad .i64) 2 A_c c_c uu q1::Own (Ad .i64) 2 A_d c_d uu o1::Own (Ad .i64) 2 A_e c_e uu n1::L)) (H:Bi.f K f1 e1 t1 d1 h1 v1 c1 a1 q1 g1 k1 o1 m1 i1 n1 y1 k_=some (r1,r2,r3,r4,r5,r6)) :
    Calls prog 191 #[pT b_r,I k_] w (Bi.post w0 L f1 e1 d1 h1 c1 a1 g1 k1 m1 i1 b_r A_a c_a A_b c_b A_c c_c A_d c_d A_e c_e r1 r2 r3 r4 r5 r6):=by
  unfold Bi.f at H
  refine cG func191 Z ?_
  refine sQ (rG (mV Z (GO.En Z Z Z (fL b_r 0 Iw Z (fL b_r 6 K5 Z (GO.Gf (j:=0) ([I c1,I a1,sV A_c q1 c_c]) HS Z Z Z Z Du Z (GO.alloc HS Z Md Z Z fun b1 wd2 HS=>sW 0 HS Z Du Z fun wd3 HS=>nL (rN 5 Z ?_))))))))
  refine G.name (fun e2 n2=>?_)
  have o2:∀ z1,z1≤K→∀ (x125 x126 x127:List Int) (x128:Bool) (u1:Int) (w:World),Bi.l1 K z1 f1 e1 d1 h1 c1 a1 g1 k1 o1 m1 i1 n1 k_ x125 x126 x127 x128 u1=some (r1,r2,r3,r4,r5,r6)→St w0 w (Box b_r 168 [I f1,I e1,sV A_a x125 c_a,I d1,I h1,sV A_b x126 c_b,I c1,I a1,sV A_c x127 c_c,I g1,I k1,sV A_d o1 c_d,I m1,I i1,sV A_e n1 c_e,.bool x128]::Own (Ad .i64) 2 A_a c_a uu x125::Own (Ad .i64) 2 A_b c_b uu x126::Own (Ad .i64) 2 A_c c_c uu x127::Own (Ad .i64) 2 A_d c_d uu o1::Own (Ad .i64) 2 A_e c_e uu n1::Box b1 57 [I c1,I a1,sV A_c x127 c_c]::L)→G prog 191 86 [(0,pT b_r),(1,I k_),(4,pT b1),(5,I u1)] e2 w (Bi.post w0 L f1 e1 d1 h1 c1 a1 g1 k1 m1 i1 b_r A_a c_a A_b c_b A_c c_c A_d c_d A_e c_e r1 r2 r3 r4 r5 r6):=by
   refine lp (fun _ _ _ _ _ w H _=>by rw [Bi.l1] at H; cases H) fun p1 t2 d2 x125 x126 x127 x128 u1 w H HS=>?_
   rw [Bi.l1] at H
   subst n2
   refine rN 2 Z ?_
   rcases iS H with ⟨c252,H⟩ | ⟨c252,H⟩
   ·
    refine rG (mV Z (fL b1 0 Gg Z (lB 6 HS Z na2 Z (pS 2 Z (kN 20 Z (tF c252) (oF Z (oF Z (oF Z (oF Z (oF Z (GO.Hw Z Z Z Z Z (nL (rN 6 Z ?_)))))))))))))
    refine G.name (fun f2 k2=>?_)
    have m2:∀ x1,x1≤p1→∀ (x311 x312 x313:List Int) (x314:Bool) (s1:Int) (w:World),Bi.l7 K x1 f1 e1 d1 h1 c1 a1 g1 k1 m1 i1 k_ x125 x126 x311 x312 x313 x314 s1=some (r1,r2,r3,r4,r5,r6)→St w0 w (Box b_r 168 [I f1,I e1,sV A_a x125 c_a,I d1,I h1,sV A_b x126 c_b,I c1,I a1,sV A_c x311 c_c,I g1,I k1,sV A_d x312 c_d,I m1,I i1,sV A_e x313 c_e,.bool x314]::Own (Ad .i64) 2 A_a c_a uu x125::Own (Ad .i64) 2 A_b c_b uu x126::Own (Ad .i64) 2 A_c c_c uu x311::Own (Ad .i64) 2 A_d c_d uu x312::Own (Ad .i64) 2 A_e c_e uu x313::Box b1 57 [I c1,I a1,sV A_c x311 c_c]::L)→G prog 191 86 [(0,pT b_r),(1,I k_),(4,pT b1),(7,I s1)] f2 w (Bi.post w0 L f1 e1 d1 h1 c1 a1 g1 k1 m1 i1 b_r A_a c_a A_b c_b A_c c_c A_d c_d A_e c_e r1 r2 r3 r4 r5 r6):=by
     refine lp (fun _ _ _ _ _ w H _=>by rw [Bi.l7] at H; cases H) fun b2 p2 a2 x311 x312 x313 x314 s1 w H HS=>?_
     rw [Bi.l7] at H
     subst k2
     refine rN 2 Z ?_
     rcases iS H with ⟨c345,H⟩ | ⟨c345,H⟩
     ·
      refine rG (mV Z (fL b1 1 Ew Z (lB 6 HS Z na2 Z (pS 2 Z (kN 56 Z (tF c345) (oF Z (oF Z (oF Z (oF Z (oF Z (GO.Hw Z Z Z Z Z (nL (rN 2 Z ?_)))))))))))))
      obtain ⟨rfl,rfl,rfl,rfl,rfl,rfl⟩:=Oj H
      exact G.Ki func191 Z ⟨Z,(HS.pk 7 [0,1,2,3,4,5] Z)⟩
     refine rG (mV Z (fL b1 1 Ew Z (lB 6 HS Z na2 Z (pS 2 Z (kN 56 Z (tT c345) (oN Z (mV Z (bK (oN Z (GO.En Z Z Z (bK (oN Z (fL b_r 15 Ma Z (bK ?_))))))))))))))
     refine oN Z (lB 0 HS Z na4 Z (bK (oN Z (GO.not Z Z Z (bK (GO.Gw Z Z Z Z Z (nL ?_)))))))
     rcases iE H with ⟨c346,H⟩ | ⟨c346,H⟩
     ·
      refine nB Z (congrArg Bool.not c346) (G.exit Z ?_)
      obtain ⟨rfl,rfl,rfl,rfl,rfl,rfl⟩:=Oj H
      exact G.Ki func191 Z ⟨Z,(HS.pk 7 [0,1,2,3,4,5] Z)⟩
     refine yB Z (congrArg Bool.not (Cy c346)) (rN 4 Z ?_)
     obtain ⟨t347,h348,H⟩:=bI H
     obtain ⟨c349,H⟩:=iN H
     obtain ⟨t352,h353,H⟩:=bI H
     obtain ⟨c354,H⟩:=iN H
     obtain ⟨t357,h358,H⟩:=bI H
     refine G.Jg mixed (fun w=>St w0 w (Own (Ad .i64) 2 A_c c_c uu x311::Box b1 57 [I c1,I a1,sV A_c x311 c_c]::L)) [0,5,6,11] [1,2,7,8,0,6,3,4,5,9,10,11,12,13] [] (by kernel_rfl) (by kernel_rfl) (HS.drew.pk 7 [3,6] Z) ?_
     replace HS:=HS.drew
     refine GX.ps 4 Z (GX.ls Z Z Z (HS.pk 7 [3,6] Z) (fun _ HS _ g=>lW 1 HS Z Du g) Z (GX.ls Z Z Z (HS.pk 7 [3,6] Z) (fun _ HS _ g=>lW 1 HS Z Du g) Z (GX.l2 Z (fJ Kh Z (Be.calls HS (ro 3 Z) h348) (fun _ wd350 ⟨h351,HS⟩=>⟨_,h351,(GX.fin (HS.pk 7 [3,6] Z) (qL Z Z (fun _ _ g=>GO.En Z Z Z g) Z (GX.ls Z Z Z (HS.pk 7 [3,6] Z) (fun _ HS _ g=>GO.Dt (T:=(Ad .i64)) (n:=t347.toNat) (o:=0) HS (ro 0 Z) Z Z (getD_some (d:=0) (ltN c349)) Z Z na2 Z g) Z (GX.l2 Z (fJ Kh Z (Be.calls HS (ro 3 Z) h353) (fun _ wd355 ⟨h356,HS⟩=>⟨_,h356,(GX.fin (HS.pk 7 [3,6] Z) (qL Z Z (fun _ _ g=>GO.En Z Z Z g) Z (GX.ls Z Z Z (HS.pk 7 [3,6] Z) (fun _ HS _ g=>GO.Dt (T:=(Ad .i64)) (n:=t352.toNat) (o:=0) HS (ro 0 Z) Z Z (getD_some (d:=0) (ltN c354)) Z Z na2 Z g) Z (GX.l2 Z (fJ jX Z (He.calls HS  h358) (fun _ wd359 ⟨h360,HS⟩=>⟨_,h360,?_⟩))))))⟩))))))⟩)))))
     refine GX.fin (HS.pk 7 [3,6] Z) (GX.ps 1 Z (GX.nil (rN 2 Z ?_)))
     rcases iE H with ⟨c361,H⟩ | ⟨c361,H⟩
     ·
      refine nB Z (nT c361) (rN 4 Z (gW (a2 b2 (lR _) _ _ _ _ _ _ H HS) Z))
     refine yB Z (nF c361) ?_
     obtain ⟨t362,t363,t364,t365,h366,H⟩:=Ie H
     obtain ⟨c367,H⟩:=iN H
     obtain ⟨c368,H⟩:=iN H
     obtain ⟨c369,H⟩:=iN H
     refine rG (pS 4 Z (GO.neg Z Z Z ?_))
     replace HS:=HS.pk 7 [0,3,4,5,1,2,6] Z
     refine fJ uU Z (F3.calls HS (ro 0 Z) (ro 1 Z) h366) (fun _ wd370 ⟨h371,HS⟩=>⟨_,h371,(nL ?_)⟩)
     replace HS:=HS.F8 (j:=6) (cs':=[I c1,I a1,sV A_c t363 c_c]) Z (by simp only [sV,List.length_set,c367,c368,c369] <;> rfl)
     refine rN 3 Z (gW (a2 b2 (lR _) _ _ _ _ _ _ H (HS.pk 7 [0,4,5,1,2,3,6] Z)) Z)
    exact gW (m2 p1 (lR _) _ _ _ _ _ _ H HS) Z
   refine rG (mV Z (fL b1 0 Gg Z (lB 6 HS Z na2 Z (pS 2 Z (kN 20 Z (tT c252) (oN Z (mV Z (bK (oN Z (GO.En Z Z Z (bK (oN Z (fL b_r 15 Ma Z (bK ?_))))))))))))))
   refine oN Z (lB 0 HS Z na4 Z (bK (oN Z (GO.not Z Z Z (bK (GO.Gw Z Z Z Z Z (nL ?_)))))))
   rcases iS H with ⟨c253,H⟩ | ⟨c253,H⟩
   ·
    refine yB Z (congrArg Bool.not (Cy c253)) (rN 4 Z ?_)
    obtain ⟨t258,h259,H⟩:=bI H
    obtain ⟨c260,H⟩:=iN H
    obtain ⟨t263,h264,H⟩:=bI H
    obtain ⟨c265,H⟩:=iN H
    obtain ⟨t268,h269,H⟩:=bI H
    refine G.Jg mixed (fun w=>St w0 w (Own (Ad .i64) 2 A_c c_c uu x127::Box b1 57 [I c1,I a1,sV A_c x127 c_c]::L)) [0,5,6,11] [1,2,7,8,0,6,3,4,5,9,10,11,12,13] [] (by kernel_rfl) (by kernel_rfl) (HS.drew.pk 7 [3,6] Z) ?_
    replace HS:=HS.drew
    refine GX.ps 4 Z (GX.ls Z Z Z (HS.pk 7 [3,6] Z) (fun _ HS _ g=>lW 1 HS Z Du g) Z (GX.ls Z Z Z (HS.pk 7 [3,6] Z) (fun _ HS _ g=>lW 1 HS Z Du g) Z (GX.l2 Z (fJ Kh Z (Be.calls HS (ro 3 Z) h259) (fun _ wd261 ⟨h262,HS⟩=>⟨_,h262,(GX.fin (HS.pk 7 [3,6] Z) (qL Z Z (fun _ _ g=>GO.En Z Z Z g) Z (GX.ls Z Z Z (HS.pk 7 [3,6] Z) (fun _ HS _ g=>GO.Dt (T:=(Ad .i64)) (n:=t258.toNat) (o:=0) HS (ro 0 Z) Z Z (getD_some (d:=0) (ltN c260)) Z Z na2 Z g) Z (GX.l2 Z (fJ Kh Z (Be.calls HS (ro 3 Z) h264) (fun _ wd266 ⟨h267,HS⟩=>⟨_,h267,(GX.fin (HS.pk 7 [3,6] Z) (qL Z Z (fun _ _ g=>GO.En Z Z Z g) Z (GX.ls Z Z Z (HS.pk 7 [3,6] Z) (fun _ HS _ g=>GO.Dt (T:=(Ad .i64)) (n:=t263.toNat) (o:=0) HS (ro 0 Z) Z Z (getD_some (d:=0) (ltN c265)) Z Z na2 Z g) Z (GX.l2 Z (fJ jX Z (He.calls HS  h269) (fun _ wd270 ⟨h271,HS⟩=>⟨_,h271,?_⟩))))))⟩))))))⟩)))))
    refine GX.fin (HS.pk 7 [3,6] Z) (GX.ps 1 Z (GX.nil (rN 2 Z ?_)))
    rcases iE H with ⟨c272,H⟩ | ⟨c272,H⟩
    ·
     refine nB Z (nT c272) (rN 4 Z (gW (d2 p1 (lR _) _ _ _ _ _ _ H HS) Z))
    refine yB Z (nF c272) ?_
    obtain ⟨t273,t274,t275,t276,h277,H⟩:=Ie H
    obtain ⟨c278,H⟩:=iN H
    obtain ⟨c279,H⟩:=iN H
    obtain ⟨c280,H⟩:=iN H
    refine rG (pS 4 Z (GO.neg Z Z Z ?_))
    replace HS:=HS.pk 7 [0,1,2,3,4,5,6] Z
    refine fJ kW Z (Et.calls HS (ro 0 Z) (ro 1 Z) h277) (fun _ wd281 ⟨h282,HS⟩=>⟨_,h282,(nL ?_)⟩)
    replace HS:=HS.F8 (j:=6) (cs':=[I c1,I a1,sV A_c t276 c_c]) Z (by simp only [sV,List.length_set,c278,c279,c280] <;> rfl)
    refine rN 3 Z (gW (d2 p1 (lR _) _ _ _ _ _ _ H HS) Z)
   refine nB Z (congrArg Bool.not c253) (rN 5 Z ?_)
   refine G.name (fun h2 i2=>?_)
   have g2:∀ c2,c2≤p1→∀ (w:World),Bi.l6 K c2 a1 o1 n1 k_ x125 x126 x127 x128=some (r1,r2,r3,r4,r5,r6)→St w0 w (Box b_r 168 [I f1,I e1,sV A_a x125 c_a,I d1,I h1,sV A_b x126 c_b,I c1,I a1,sV A_c x127 c_c,I g1,I k1,sV A_d o1 c_d,I m1,I i1,sV A_e n1 c_e,.bool x128]::Own (Ad .i64) 2 A_a c_a uu x125::Own (Ad .i64) 2 A_b c_b uu x126::Own (Ad .i64) 2 A_c c_c uu x127::Own (Ad .i64) 2 A_d c_d uu o1::Own (Ad .i64) 2 A_e c_e uu n1::Box b1 57 [I c1,I a1,sV A_c x127 c_c]::L)→G prog 191 86 [(0,pT b_r),(1,I k_),(4,pT b1),(7,I (w64 (k_+1)))] h2 w (Bi.post w0 L f1 e1 d1 h1 c1 a1 g1 k1 m1 i1 b_r A_a c_a A_b c_b A_c c_c A_d c_d A_e c_e r1 r2 r3 r4 r5 r6):=by
    refine lp (fun w H _=>by rw [Bi.l6] at H; cases H) fun q2 s2 u2 w H HS=>?_
    rw [Bi.l6] at H
    subst i2
    refine rN 2 Z ?_
    rcases iS H with ⟨c257,H⟩ | ⟨c257,H⟩
    ·
     refine rG (mV Z (fL b1 1 Ew Z (lB 6 HS Z na2 Z (pS 2 Z (kN 56 Z (tF c257) (oF Z (oF Z (oF Z (oF Z (oF Z (GO.Hw Z Z Z Z Z (nL (rN 2 Z ?_)))))))))))))
     obtain ⟨rfl,rfl,rfl,rfl,rfl,rfl⟩:=Oj H
     exact G.Ki func191 Z ⟨Z,(HS.pk 7 [0,1,2,3,4,5] Z)⟩
    refine rG (mV Z (fL b1 1 Ew Z (lB 6 HS Z na2 Z (pS 2 Z (kN 56 Z (tT c257) (oN Z (mV Z (bK (oN Z (GO.En Z Z Z (bK (oN Z (fL b_r 15 Ma Z (bK ?_))))))))))))))
    refine oN Z (lB 0 HS Z na4 Z (bK (oN Z (GO.not Z Z Z (bK (GO.Gw Z Z Z Z Z (nL (nB Z (congrArg Bool.not c253) (G.exit Z ?_)))))))))
    obtain ⟨rfl,rfl,rfl,rfl,rfl,rfl⟩:=Oj H
    exact G.Ki func191 Z ⟨Z,(HS.pk 7 [0,1,2,3,4,5] Z)⟩
   exact gW (g2 p1 (lR _)  _ H HS) Z
  exact gW (o2 K (lR _) _ _ _ _ _ _ H (HS.pk 7 [1,2,3,4,5,6,0] Z)) Z
theorem Gq.calls {x:Int} {r1:Bool} (HS:St w0 w (L)) (H:Gq.f x=some r1) :
    Calls prog 212 #[I x] w (Gq.post w0 L r1):=by
  unfold Gq.f at H
  refine cG func212 Z ?_
  refine rN 4 Z ?_
  obtain rfl:=sI H
  exact rT _ func212 Z Z ⟨Z,HS⟩
theorem Ba.calls {s:List Int} {r1:Int} (HS:St w0 w (L)) (r_a:Ce w0 L (Ad .i64) A_a c_a uu s) (H:Ba.f K s=some r1) :
    Calls prog 122 #[sV A_a s c_a,.func (.func 212) #[] #[]] w (Ba.post w0 L r1):=by
  unfold Ba.f at H
  refine cG func122 Z ?_
  refine rN 4 Z (rG (mV Z (lS Z Z U26 Z (mV Z (nL (rN 2 Z ?_))))))
  refine G.name (fun e1 c1=>?_)
  have d1:∀ a1,a1≤K→∀ (x8:Int) (w:World),Ba.l1 K a1 s x8=some r1→St w0 w (L)→G prog 122 19 [(0,sV A_a s c_a),(1,.func (.func 212) #[] #[]),(7,I (s.length:Int)),(8,I x8)] e1 w (Ba.post w0 L r1):=by
   refine lp (fun _ w H _=>by rw [Ba.l1] at H; cases H) fun b1 g1 f1 x8 w H HS=>?_
   rw [Ba.l1] at H
   subst c1
   refine rN 3 Z ?_
   rcases iS H with ⟨c16,H⟩ | ⟨c16,H⟩
   ·
    refine nB Z (tF c16) (rN 3 Z ?_)
    obtain rfl:=sI H
    exact rT _ func122 Z Z ⟨Z,HS⟩
   refine yB Z (tT c16) (rN 6 Z ?_)
   obtain ⟨c17,H⟩:=iN H
   obtain ⟨t18,h19,H⟩:=bI H
   refine rG (pS 3 Z (iX Z U26 sz2 (rk r_a HS) c17 (GO.Dt (T:=(Ad .i64)) (n:=x8.toNat) (o:=0) HS r_a Z Z (getD_some (d:=0) (ltN c17)) Z Z na2 Z (GO.clo Z Z func212 lZ.2.1 lZ.2.2 Z Z (Gq.calls HS  h19) (fun _ wd20 ⟨h21,HS⟩=>⟨_,h21,(nL ?_)⟩)))))
   rcases iE H with ⟨c22,H⟩ | ⟨c22,H⟩
   ·
    refine yB Z c22 (rN 2 Z ?_)
    obtain rfl:=sI H
    exact rT _ func122 Z Z ⟨Z,HS⟩
   refine nB Z (Cy c22) (rN 4 Z (gW (f1 b1 (lR _) _ _ H HS) Z))
  exact gW (d1 K (lR _) _ _ H HS) Z
theorem Cs.calls {s:List Int} {r1:Bool} (HS:St w0 w (L)) (r_a:Ce w0 L (Ad .i64) A_a c_a uu s) (H:Cs.f K s=some r1) :
    Calls prog 81 #[sV A_a s c_a,.func (.func 212) #[] #[]] w (Cs.post w0 L r1):=by
  unfold Cs.f at H
  refine cG func81 Z ?_
  refine rN 3 Z ?_
  obtain ⟨t1,h2,H⟩:=bI H
  refine rG (pS 2 Z (fJ Sc Z (Ba.calls HS r_a h2) (fun _ wd3 ⟨h4,HS⟩=>⟨_,h4,(pS 2 Z (nL ?_))⟩)))
  obtain rfl:=sI H
  exact rT _ func81 Z Z ⟨Z,HS⟩
theorem Dg.calls {m1 k1:Int} {f1:List Int} {i1 o1:Int} {h1:List Int} {c1 d1:Int} {a1:List Int} {n1 s1:Int} {g1:List Int} {t1 q1:Int} {e1:List Int} {p1:Bool} {k_:Int} {b_r:Nat} {r1:Bool} (HS:St w0 w (Box b_r 168 [I m1,I k1,sV A_a f1 c_a,I i1,I o1,sV A_b h1 c_b,I c1,I d1,sV A_c a1 c_c,I n1,I s1,sV A_d g1 c_d,I t1,I q1,sV A_e e1 c_e,.bool p1]::L)) (r_a:Ce w0 L (Ad .i64) A_a c_a uu f1) (r_b:Ce w0 L (Ad .i64) A_b c_b uu h1) (r_c:Ce w0 L (Ad .i64) A_c c_c uu a1) (r_d:Ce w0 L (Ad .i64) A_d c_d uu g1) (r_e:Ce w0 L (Ad .i64) A_e c_e uu e1) (H:Dg.f K m1 k1 f1 i1 o1 h1 c1 d1 a1 n1 s1 g1 t1 q1 e1 p1 k_=some r1) :
    Calls prog 192 #[pT b_r,I k_] w (Dg.post w0 L m1 k1 f1 i1 o1 h1 c1 d1 a1 n1 s1 g1 t1 q1 e1 p1 b_r A_a c_a A_b c_b A_c c_c A_d c_d A_e c_e r1):=by
  unfold Dg.f at H
  refine cG func192 Z ?_
  refine rN 3 Z (rG (mV Z (GO.En Z Z Z (fL b_r 0 Iw Z (fL b_r 6 K5 Z (GO.Gf (j:=0) ([I c1,I d1,sV A_c a1 c_c]) HS Z Z Z Z Du Z (GO.alloc HS Z Md Z Z fun b1 wd2 HS=>sW 0 HS Z Du Z fun wd3 HS=>nL (rN 5 Z ?_))))))))
  refine G.name (fun x1 z1=>?_)
  have a2:∀ v1,v1≤K→∀ (u1:Int) (w:World),Dg.l1 K v1 c1 d1 a1 k_ u1=some r1→St w0 w (Box b_r 168 [I m1,I k1,sV A_a f1 c_a,I i1,I o1,sV A_b h1 c_b,I c1,I d1,sV A_c a1 c_c,I n1,I s1,sV A_d g1 c_d,I t1,I q1,sV A_e e1 c_e,.bool p1]::Box b1 57 [I c1,I d1,sV A_c a1 c_c]::L)→G prog 192 35 [(1,I k_),(5,pT b1),(6,I u1)] x1 w (Dg.post w0 L m1 k1 f1 i1 o1 h1 c1 d1 a1 n1 s1 g1 t1 q1 e1 p1 b_r A_a c_a A_b c_b A_c c_c A_d c_d A_e c_e r1):=by
   refine lp (fun _ w H _=>by rw [Dg.l1] at H; cases H) fun y1 c2 b2 u1 w H HS=>?_
   rw [Dg.l1] at H
   subst z1
   refine rN 2 Z (rG (mV Z (fL b1 0 Gg Z (lB 1 HS Z na2 Z (GO.lss Z Z Z Z (nL ?_))))))
   rcases iS H with ⟨c43,H⟩ | ⟨c43,H⟩
   ·
    refine nB Z (tF c43) (rN 2 Z ?_)
    obtain ⟨t50,t51,h52,H⟩:=De H
    obtain ⟨c53,H⟩:=iN H
    obtain ⟨c54,H⟩:=iN H
    obtain ⟨c57,H⟩:=iN H
    obtain ⟨t58,h59,H⟩:=bI H
    refine rG (lW 1 HS Z Du (mV Z (fJ Y3 Z (Gh.calls HS (rD 2 r_c) h52) (fun _ wd55 ⟨h56,HS⟩=>⟨_,h56,(pS 2 Z (GO.slL (T:=(Ad .i64)) HS (Ce.cut (rD 2 r_c) (Tp c53) (leN c54)) Z Z Z U26 sz2 c57.1 c57.2 Z (fJ eY Z (Cs.calls HS (Ce.nK (Ce.nK (rD 2 r_c) (Tp c53) (leN c54)) (leN c57) (lR _)) h59) (fun _ wd60 ⟨h61,HS⟩=>⟨_,h61,(pS 2 Z (nL ?_))⟩))))⟩))))
    obtain rfl:=sI H
    exact rT _ func192 Z Z ⟨Z,(HS.pk 2 [0] Z)⟩
   refine yB Z (tT c43) (rN 4 Z ?_)
   obtain ⟨t44,h45,H⟩:=bI H
   obtain ⟨c46,H⟩:=iN H
   refine rG (lW 1 HS Z Du (pS 2 Z (fJ Kh Z (Be.calls HS (rD 2 r_c) h45) (fun _ wd47 ⟨h48,HS⟩=>⟨_,h48,(GO.En Z Z Z (GO.Dt (T:=(Ad .i64)) (n:=t44.toNat) (o:=0) HS (rD 2 r_c) Z Z (getD_some (d:=0) (ltN c46)) Z Z na2 Z (GO.neq Z Z Z Z (nL ?_))))⟩))))
   rcases iS H with ⟨c49,H⟩ | ⟨c49,H⟩
   ·
    refine yB Z (nF c49) (rN 2 Z ?_)
    obtain rfl:=sI H
    exact rT _ func192 Z Z ⟨Z,(HS.pk 2 [0] Z)⟩
   refine nB Z (nT c49) (rN 4 Z (gW (b2 y1 (lR _) _ _ H HS) Z))
  exact gW (a2 K (lR _) _ _ H (HS.pk 2 [1,0] Z)) Z
theorem Ez.calls {x c1 e1:Int} {a1:List Int} {b1:Int} {f1:Nat} {A_a:Option Addr} {c_a d1:Nat} {r1:Bool} (HS:St w0 w (Box f1 57 [I c1,I e1,sV A_a a1 c_a]::Box d1 2 [I b1]::L)) (r_a:Ce w0 L (Ad .i64) A_a c_a uu a1) (H:Ez.f x c1 e1 a1 b1=some r1) :
    Calls prog 213 #[I x,pT f1,pT d1] w (Ez.post w0 L c1 e1 a1 b1 f1 A_a c_a d1 r1):=by
  unfold Ez.f at H
  refine cG func213 Z ?_
  refine rN 3 Z ?_
  obtain ⟨t1,h2,H⟩:=bI H
  obtain ⟨c3,H⟩:=iN H
  obtain ⟨c6,H⟩:=Lc H
  refine rG (mV Z (lW 0 HS Z Du (lB 1 HS Z na2 Z (lB 1 HS Z na2 Z (fJ Kh Z (Be.calls HS (rD 2 r_a) h2) (fun _ wd4 ⟨h5,HS⟩=>⟨_,h5,(GO.En Z Z Z (GO.Dt (T:=(Ad .i64)) (n:=t1.toNat) (o:=0) HS (rD 2 r_a) Z Z (getD_some (d:=0) (ltN c3)) Z Z na2 Z (GO.rem Z Z Z c6 Z (pS 2 Z (nL ?_)))))⟩))))))
  obtain rfl:=sI H
  exact rT _ func213 Z Z ⟨Z,HS⟩
theorem Au.calls {s:List Int} {f1 d1:Int} {a1:List Int} {b1:Int} {A_a:Option Addr} {c_a e1:Nat} {A_b:Option Addr} {c_b c1:Nat} {r1:Int} (HS:St w0 w (Box e1 57 [I f1,I d1,sV A_b a1 c_b]::Box c1 2 [I b1]::L)) (r_a:Ce w0 L (Ad .i64) A_a c_a uu s) (r_b:Ce w0 L (Ad .i64) A_b c_b uu a1) (H:Au.f K s f1 d1 a1 b1=some r1) :
    Calls prog 122 #[sV A_a s c_a,.func (.func 213) #[] #[pT e1,pT c1]] w (Au.post w0 L f1 d1 a1 b1 e1 A_b c_b c1 r1):=by
  unfold Au.f at H
  refine cG func122 Z ?_
  refine rN 4 Z (rG (mV Z (lS Z Z U26 Z (mV Z (nL (rN 2 Z ?_))))))
  refine G.name (fun m1 i1=>?_)
  have k1:∀ g1,g1≤K→∀ (x8:Int) (w:World),Au.l1 K g1 s f1 d1 a1 b1 x8=some r1→St w0 w (Box e1 57 [I f1,I d1,sV A_b a1 c_b]::Box c1 2 [I b1]::L)→G prog 122 19 [(0,sV A_a s c_a),(1,.func (.func 213) #[] #[pT e1,pT c1]),(7,I (s.length:Int)),(8,I x8)] m1 w (Au.post w0 L f1 d1 a1 b1 e1 A_b c_b c1 r1):=by
   refine lp (fun _ w H _=>by rw [Au.l1] at H; cases H) fun h1 o1 n1 x8 w H HS=>?_
   rw [Au.l1] at H
   subst i1
   refine rN 3 Z ?_
   rcases iS H with ⟨c16,H⟩ | ⟨c16,H⟩
   ·
    refine nB Z (tF c16) (rN 3 Z ?_)
    obtain rfl:=sI H
    exact rT _ func122 Z Z ⟨Z,HS⟩
   refine yB Z (tT c16) (rN 6 Z ?_)
   obtain ⟨c17,H⟩:=iN H
   obtain ⟨t18,h19,H⟩:=bI H
   refine rG (pS 3 Z (iX Z U26 sz2 (rk (rD 2 r_a) HS) c17 (GO.Dt (T:=(Ad .i64)) (n:=x8.toNat) (o:=0) HS (rD 2 r_a) Z Z (getD_some (d:=0) (ltN c17)) Z Z na2 Z ?_)))
   replace HS:=HS.pk 2 [0,1] Z
   refine GO.clo Z Z func213 jH.2.1 jH.2.2 Z Z (Ez.calls HS r_b h19) (fun _ wd20 ⟨h21,HS⟩=>⟨_,h21,(nL ?_)⟩)
   rcases iE H with ⟨c22,H⟩ | ⟨c22,H⟩
   ·
    refine yB Z c22 (rN 2 Z ?_)
    obtain rfl:=sI H
    exact rT _ func122 Z Z ⟨Z,HS⟩
   refine nB Z (Cy c22) (rN 4 Z (gW (n1 h1 (lR _) _ _ H HS) Z))
  exact gW (k1 K (lR _) _ _ H HS) Z
theorem Ck.calls {s:List Int} {f1 d1:Int} {a1:List Int} {b1:Int} {A_a:Option Addr} {c_a e1:Nat} {A_b:Option Addr} {c_b c1:Nat} {r1:Bool} (HS:St w0 w (Box e1 57 [I f1,I d1,sV A_b a1 c_b]::Box c1 2 [I b1]::L)) (r_a:Ce w0 L (Ad .i64) A_a c_a uu s) (r_b:Ce w0 L (Ad .i64) A_b c_b uu a1) (H:Ck.f K s f1 d1 a1 b1=some r1) :
    Calls prog 81 #[sV A_a s c_a,.func (.func 213) #[] #[pT e1,pT c1]] w (Ck.post w0 L f1 d1 a1 b1 e1 A_b c_b c1 r1):=by
  unfold Ck.f at H
  refine cG func81 Z ?_
  refine rN 3 Z ?_
  obtain ⟨t1,h2,H⟩:=bI H
  refine rG (pS 2 Z ?_)
  replace HS:=HS.pk 2 [0,1] Z
  refine fJ Sc Z (Au.calls HS r_a r_b h2) (fun _ wd3 ⟨h4,HS⟩=>⟨_,h4,(pS 2 Z (nL ?_))⟩)
  obtain rfl:=sI H
  exact rT _ func81 Z Z ⟨Z,HS⟩
theorem Cq.calls {m1 k1:Int} {f1:List Int} {i1 o1:Int} {h1:List Int} {c1 d1:Int} {a1:List Int} {n1 s1:Int} {g1:List Int} {t1 q1:Int} {e1:List Int} {p1:Bool} {k_:Int} {b_r:Nat} {r1:Int} (HS:St w0 w (Box b_r 168 [I m1,I k1,sV A_a f1 c_a,I i1,I o1,sV A_b h1 c_b,I c1,I d1,sV A_c a1 c_c,I n1,I s1,sV A_d g1 c_d,I t1,I q1,sV A_e e1 c_e,.bool p1]::L)) (r_a:Ce w0 L (Ad .i64) A_a c_a uu f1) (r_b:Ce w0 L (Ad .i64) A_b c_b uu h1) (r_c:Ce w0 L (Ad .i64) A_c c_c uu a1) (r_d:Ce w0 L (Ad .i64) A_d c_d uu g1) (r_e:Ce w0 L (Ad .i64) A_e c_e uu e1) (H:Cq.f K m1 k1 f1 i1 o1 h1 c1 d1 a1 n1 s1 g1 t1 q1 e1 p1 k_=some r1) :
    Calls prog 193 #[pT b_r,I k_] w (Cq.post w0 L m1 k1 f1 i1 o1 h1 c1 d1 a1 n1 s1 g1 t1 q1 e1 p1 b_r A_a c_a A_b c_b A_c c_c A_d c_d A_e c_e r1):=by
  unfold Cq.f at H
  refine cG func193 Z ?_
  refine sQ (rG (GO.box (cs:=[I k_]) HS Z Z Z Z fun b1 wd2 HS=>aS Z (nL (sQ (rG (mV Z (GO.En Z Z Z (fL b_r 0 Iw Z (fL b_r 6 K5 Z (GO.Gf (j:=1) ([I c1,I d1,sV A_c a1 c_c]) HS Z Z Z Z Du Z (GO.alloc HS Z Md Z Z fun b3 wd4 HS=>sW 0 HS Z Du Z fun wd5 HS=>nL ?_)))))))))))
  refine rN 2 Z (rG (lB 1 HS Z na2 Z (pS 2 Z (nL (rN 2 Z ?_)))))
  refine G.name (fun x1 z1=>?_)
  have a2:∀ v1,v1≤K→∀ (u1:Int) (w:World),Cq.l1 K v1 c1 d1 a1 k_ u1=some r1→St w0 w (Box b_r 168 [I m1,I k1,sV A_a f1 c_a,I i1,I o1,sV A_b h1 c_b,I c1,I d1,sV A_c a1 c_c,I n1,I s1,sV A_d g1 c_d,I t1,I q1,sV A_e e1 c_e,.bool p1]::Box b1 2 [I k_]::Box b3 57 [I c1,I d1,sV A_c a1 c_c]::L)→G prog 193 29 [(3,pT b1),(5,pT b3),(6,I u1)] x1 w (Cq.post w0 L m1 k1 f1 i1 o1 h1 c1 d1 a1 n1 s1 g1 t1 q1 e1 p1 b_r A_a c_a A_b c_b A_c c_c A_d c_d A_e c_e r1):=by
   refine lp (fun _ w H _=>by rw [Cq.l1] at H; cases H) fun y1 c2 b2 u1 w H HS=>?_
   rw [Cq.l1] at H
   subst z1
   refine rN 2 Z (rG (mV Z (fL b3 0 Gg Z (lB 2 HS Z na2 Z (GO.lss Z Z Z Z (nL ?_))))))
   rcases iS H with ⟨c35,H⟩ | ⟨c35,H⟩
   ·
    refine nB Z (tF c35) (rN 3 Z ?_)
    obtain rfl:=sI H
    exact rT _ func193 Z Z ⟨Z,(HS.pk 3 [0] Z)⟩
   refine yB Z (tT c35) (rN 4 Z ?_)
   obtain ⟨t36,t37,h38,H⟩:=De H
   obtain ⟨c39,H⟩:=iN H
   obtain ⟨c40,H⟩:=iN H
   obtain ⟨c43,H⟩:=iN H
   obtain ⟨t44,h45,H⟩:=bI H
   refine G.Jg mixed (fun w=>St w0 w (Box b1 2 [I k_]::Box b3 57 [I c1,I d1,sV A_c a1 c_c]::L)) [0,3,5] [1,6,0,3,4,2,5,7] [] (by kernel_rfl) (by kernel_rfl) (HS.drew.pk 3 [1,2] Z) ?_
   replace HS:=HS.drew
   refine GX.ps 1 Z (qL Z Z (fun _ _ g=>GO.Qp Z Z Z Z g) Z (GX.ls Z Z Z (HS.pk 3 [1,2] Z) (fun _ HS _ g=>lW 1 HS Z Du g) Z (GX.ls Z Z Z (HS.pk 3 [1,2] Z) (fun _ HS _ g=>lB 0 HS Z na2 Z g) Z (GX.ps 1 Z (GX.l2 Z (fJ Y3 Z (Gh.calls HS (rD 3 r_c) h38) (fun _ wd41 ⟨h42,HS⟩=>⟨_,h42,(GX.fin (HS.pk 3 [1,2] Z) (GX.ls Z Z Z (HS.pk 3 [1,2] Z) (fun _ HS _ g=>GO.slL (T:=(Ad .i64)) HS (Ce.cut (rD 2 r_c) (Tp c39) (leN c40)) Z Z Z U26 sz2 c43.1 c43.2 Z g) Z (GX.l2 Z ?_)))⟩)))))))
   replace HS:=HS.pk 3 [2,1,0] Z
   refine fJ eY Z (Ck.calls HS (Ce.nK (Ce.nK (rD 1 r_c) (Tp c39) (leN c40)) (leN c43) (lR _)) (rD 1 r_c) h45) (fun _ wd46 ⟨h47,HS⟩=>⟨_,h47,(GX.fin (HS.pk 3 [1,0] Z) (GX.nil ?_))⟩)
   rcases iE H with ⟨c48,H⟩ | ⟨c48,H⟩
   ·
    refine yB Z c48 (rN 2 Z ?_)
    obtain rfl:=sI H
    exact rT _ func193 Z Z ⟨Z,(HS.pk 3 [2] Z)⟩
   refine nB Z (Cy c48) (rN 4 Z (gW (b2 y1 (lR _) _ _ H (HS.pk 3 [2,1,0] Z)) Z))
  exact gW (a2 K (lR _) _ _ H (HS.pk 3 [2,1,0] Z)) Z
theorem D6.calls {e1 b1:Int} {p1:List Int} {a1 g1:Int} {u1:List Int} {c1 d1:Int} {t1:List Int} {f1 i1:Int} {s1:List Int} {k1 h1:Int} {o1:List Int} {v1:Bool} {b_r:Nat} {r1:Bool} {r2 r3:List Int} {r4 r5 r6:List Int} (HS:St w0 w (Box b_r 168 [I e1,I b1,sV A_a p1 c_a,I a1,I g1,sV A_b u1 c_b,I c1,I d1,sV A_c t1 c_c,I f1,I i1,sV A_d s1 c_d,I k1,I h1,sV A_e o1 c_e,.bool v1]::Own (Ad .i64) 2 A_a c_a uu p1::Own (Ad .i64) 2 A_b c_b uu u1::Own (Ad .i64) 2 A_c c_c uu t1::Own (Ad .i64) 2 A_d c_d uu s1::Own (Ad .i64) 2 A_e c_e uu o1::L)) (H:D6.f K e1 b1 p1 a1 g1 u1 c1 d1 t1 f1 i1 s1 k1 h1 o1 v1=some (r1,r2,r3,r4,r5,r6)) :
    Calls prog 164 #[pT b_r] w (D6.post w0 L e1 b1 a1 g1 c1 d1 f1 i1 k1 h1 b_r A_a c_a A_b c_b A_c c_c A_d c_d A_e c_e r1 r2 r3 r4 r5 r6):=by
  unfold D6.f at H
  refine cG func164 Z ?_
  refine rN 4 Z ?_
  refine G.name (fun y1 z1=>?_)
  have a2:∀ x1,x1≤K→∀ (x59 x60:List Int) (x61 x62 x63:List Int) (x64:Bool) (q1:Int) (w:World),D6.l1 K x1 e1 b1 a1 g1 c1 d1 f1 i1 k1 h1 x59 x60 x61 x62 x63 x64 q1=some (r1,r2,r3,r4,r5,r6)→St w0 w (Box b_r 168 [I e1,I b1,sV A_a x59 c_a,I a1,I g1,sV A_b x60 c_b,I c1,I d1,sV A_c x61 c_c,I f1,I i1,sV A_d x62 c_d,I k1,I h1,sV A_e x63 c_e,.bool x64]::Own (Ad .i64) 2 A_a c_a uu x59::Own (Ad .i64) 2 A_b c_b uu x60::Own (Ad .i64) 2 A_c c_c uu x61::Own (Ad .i64) 2 A_d c_d uu x62::Own (Ad .i64) 2 A_e c_e uu x63::L)→G prog 164 54 [(0,pT b_r),(2,I q1)] y1 w (D6.post w0 L e1 b1 a1 g1 c1 d1 f1 i1 k1 h1 b_r A_a c_a A_b c_b A_c c_c A_d c_d A_e c_e r1 r2 r3 r4 r5 r6):=by
   refine lp (fun _ _ _ _ _ _ _ w H _=>by rw [D6.l1] at H; cases H) fun m1 b2 n1 x59 x60 x61 x62 x63 x64 q1 w H HS=>?_
   rw [D6.l1] at H
   subst z1
   refine rN 2 Z ?_
   rcases iE H with ⟨c125,H⟩ | ⟨c125,H⟩
   ·
    refine G.lex mixed [0,1,2,3,4,5,6,7,8,9,10,11,13,14,15,16,17,12,18,19,20,21] (by kernel_rfl) ?_
    replace HS:=HS.drew
    refine GX.ps 1 Z (qL Z Z (fun _ _ g=>GO.En Z Z Z g) Z (qL Z Z (fun _ _ g=>fL b_r 15 Ma Z g) Z (GX.l1 Z Z Z (fun _ g=>lB 0 HS Z na4 Z g) Z (GX.ps 1 Z (qL Z Z (fun _ _ g=>mV Z (kN 9 Z (congrArg Bool.not c125) g)) Z (qL Z Z (fun _ _ g=>oF Z g) Z (qL Z Z (fun _ _ g=>oF Z g) Z (qL Z Z (fun _ _ g=>oF Z g) Z (qL Z Z (fun _ _ g=>oF Z g) Z (qL Z Z (fun _ _ g=>oF Z g) Z (qL Z Z (fun _ _ g=>oF Z g) Z (qL Z Z (fun _ _ g=>oF Z g) Z (qL Z Z (fun _ _ g=>oF Z g) Z (qL Z Z (fun _ _ g=>oF Z g) Z ?_))))))))))))))
    refine qL Z Z (fun _ _ g=>oF Z g) Z (qL Z Z (fun _ _ g=>oF Z g) Z (GX.l1 Z Z Z (fun _ g=>oF Z g) Z (GX.l1 Z Z Z (fun _ g=>oF Z g) Z (GX.l1 Z Z Z (fun _ g=>oF Z g) Z (qL Z Z (fun _ _ g=>oF Z g) Z (GX.ps 1 Z (GX.nil (rN 2 Z ?_))))))))
    obtain ⟨rfl,rfl,rfl,rfl,rfl,rfl⟩:=Oj H
    exact G.Ki func164 Z ⟨Z,HS⟩
   refine G.lex mixed [0,1,2,3,4,5,6,7,8,9,10,11,13,14,15,16,17,12,18,19,20,21] (by kernel_rfl) ?_
   replace HS:=HS.drew
   refine GX.ps 1 Z (qL Z Z (fun _ _ g=>GO.En Z Z Z g) Z (qL Z Z (fun _ _ g=>fL b_r 15 Ma Z g) Z (GX.l1 Z Z Z (fun _ g=>lB 0 HS Z na4 Z g) Z (GX.ps 1 Z (qL Z Z (fun _ _ g=>mV Z (kN 9 Z (congrArg Bool.not (Cy c125)) g)) Z (qL Z Z (fun _ _ g=>oN Z (mV Z (bK g))) Z (qL Z Z (fun _ _ g=>oN Z (mV Z (bK g))) Z (qL Z Z (fun _ _ g=>oN Z (GO.En Z Z Z (bK g))) Z (qL Z Z (fun _ _ g=>oN Z (fL b_r 0 Iw Z (bK g))) Z (qL Z Z (fun _ _ g=>oN Z (fL b_r 6 K5 Z (bK g))) Z (qL Z Z (fun _ _ g=>oN Z (fL b_r 6 Gg Z (bK g))) Z (qL Z Z (fun _ _ g=>oN Z (mV Z (bK g))) Z (qL Z Z (fun _ _ g=>oN Z (GO.En Z Z Z (bK g))) Z (qL Z Z (fun _ _ g=>oN Z (fL b_r 0 Iw Z (bK g))) Z ?_))))))))))))))
   refine qL Z Z (fun _ _ g=>oN Z (fL b_r 6 K5 Z (bK g))) Z (qL Z Z (fun _ _ g=>oN Z (fL b_r 7 Ew Z (bK g))) Z (GX.l1 Z Z Z (fun _ g=>oN Z (lB 0 HS Z na2 Z (bK g))) Z (GX.l1 Z Z Z (fun _ g=>oN Z (lB 0 HS Z na2 Z (bK g))) Z (GX.l1 Z Z Z (fun _ g=>oN Z (GO.min2 Z Z Z Z (bK g))) Z (qL Z Z (fun _ _ g=>oN Z (GO.lss Z Z Z Z (bK g))) Z (GX.ps 1 Z (GX.nil ?_)))))))
   rcases iS H with ⟨c126,H⟩ | ⟨c126,H⟩
   ·
    refine nB Z (tF c126) (G.exit Z ?_)
    obtain ⟨rfl,rfl,rfl,rfl,rfl,rfl⟩:=Oj H
    exact G.Ki func164 Z ⟨Z,HS⟩
   refine yB Z (tT c126) (rN 4 Z ?_)
   obtain ⟨t127,t128,t129,t130,t131,t132,h133,H⟩:=Oo H
   obtain ⟨c134,H⟩:=iN H
   obtain ⟨c135,H⟩:=iN H
   obtain ⟨c136,H⟩:=iN H
   obtain ⟨c137,H⟩:=iN H
   obtain ⟨c138,H⟩:=iN H
   refine rG (pS 2 Z ?_)
   replace HS:=HS.pk 6 [0,1,2,3,4,5] Z
   refine fJ vW Z (Bj.calls HS  h133) (fun _ wd139 ⟨h140,HS⟩=>⟨_,h140,(GO.not Z Z Z (nL ?_))⟩)
   rcases iS H with ⟨c141,H⟩ | ⟨c141,H⟩
   ·
    refine yB Z (congrArg Bool.not (Cy c141)) ?_
    obtain ⟨rfl,rfl,rfl,rfl,rfl,rfl⟩:=Oj H
    exact G.yA func164 Z ⟨Z,HS⟩
   refine nB Z (congrArg Bool.not c141) (rN 2 Z ?_)
   obtain ⟨t142,t143,t144,t145,t146,t147,h148,H⟩:=Oo H
   obtain ⟨c149,H⟩:=iN H
   obtain ⟨c150,H⟩:=iN H
   obtain ⟨c151,H⟩:=iN H
   obtain ⟨c152,H⟩:=iN H
   obtain ⟨c153,H⟩:=iN H
   refine rG (pS 2 Z ?_)
   replace HS:=HS.pk 6 [0,1,2,3,4,5] Z
   refine fJ uL Z (Bi.calls HS  h148) (fun _ wd154 ⟨h155,HS⟩=>⟨_,h155,(nL (rN 2 Z ?_))⟩)
   rcases iE H with ⟨c161,H⟩ | ⟨c161,H⟩
   ·
    refine rG (mV Z (GO.En Z Z Z (fL b_r 15 Ma Z (lB 0 HS Z na4 Z (mV Z (kN 37 Z c161 (oF Z (oF Z (oF Z (oF Z (GO.Gw Z Z Z Z Z (nL (rN 3 Z (gW (n1 m1 (lR _) _ _ _ _ _ _ _ _ H HS) Z))))))))))))))
   obtain ⟨t162,h163,H⟩:=bI H
   refine rG (mV Z (GO.En Z Z Z (fL b_r 15 Ma Z (lB 0 HS Z na4 Z (mV Z (kN 37 Z (Cy c161) (oN Z (mV Z (bK (oN Z (mV Z (bK (oN Z ?_)))))))))))))
   replace HS:=HS.pk 6 [0,1,2,3,4,5] Z
   refine fJ uY Z (Dg.calls HS (ro 0 Z) (ro 1 Z) (ro 2 Z) (ro 3 Z) (ro 4 Z) h163) (fun _ wd164 ⟨h165,HS⟩=>⟨_,h165,(bK (oN Z (GO.not Z Z Z (bK (GO.Hw Z Z Z Z Z (nL ?_))))))⟩)
   rcases iS H with ⟨c166,H⟩ | ⟨c166,H⟩
   ·
    refine yB Z (congrArg Bool.not (Cy c166)) (rN 2 Z (gW (n1 m1 (lR _) _ _ _ _ _ _ _ _ H HS) Z))
   refine nB Z (congrArg Bool.not c166) (rN 2 Z ?_)
   obtain ⟨t167,h168,H⟩:=bI H
   refine rG (pS 2 Z ?_)
   replace HS:=HS.pk 6 [0,1,2,3,4,5] Z
   refine fJ rJ Z (Cq.calls HS (ro 0 Z) (ro 1 Z) (ro 2 Z) (ro 3 Z) (ro 4 Z) h168) (fun _ wd169 ⟨h170,HS⟩=>⟨_,h170,(aS Z (nL (rN 2 Z ?_)))⟩)
   rcases iS H with ⟨c171,H⟩ | ⟨c171,H⟩
   ·
    refine nB Z (tF c171) (rN 3 Z (gW (n1 m1 (lR _) _ _ _ _ _ _ _ _ H HS) Z))
   refine yB Z (tT c171) ?_
   obtain ⟨t172,t173,t174,t175,h176,H⟩:=Ie H
   obtain ⟨c177,H⟩:=iN H
   obtain ⟨c178,H⟩:=iN H
   obtain ⟨c179,H⟩:=iN H
   refine rG (pS 3 Z ?_)
   replace HS:=HS.pk 6 [0,1,2,3,4,5] Z
   refine fJ kW Z (Et.calls HS (ro 0 Z) (ro 1 Z) h176) (fun _ wd180 ⟨h181,HS⟩=>⟨_,h181,(nL (rN 2 Z (gW (n1 m1 (lR _) _ _ _ _ _ _ _ _ H HS) Z)))⟩)
  exact gW (a2 K (lR _) _ _ _ _ _ _ _ _ H HS) Z
theorem Km.calls {c1 d1:Int} {a1:List Int} {r1 r2:Int} {r3:List Int} {r4 r5:Int} {r6:List Int} {r7 r8:Int} {r9:List Int} {r10 r11:Int} {r12:List Int} {r13 r14:Int} {r15:List Int} {r16:Int} (HS:St w0 w (L)) (r_a:Ce w0 L (Ad .i64) A_a c_a uu a1) (H:Km.f K c1 d1 a1=some (r1,r2,r3,r4,r5,r6,r7,r8,r9,r10,r11,r12,r13,r14,r15,r16)) :
    Calls prog 123 #[.agg [I c1,I d1,sV A_a a1 c_a].toArray] w (Km.post w0 L r1 r2 r3 r4 r5 r6 r7 r8 r9 r10 r11 r12 r13 r14 r15 r16):=by
  unfold Km.f at H
  refine cG func123 Z ?_
  refine sQ (rG (bA HS Z fun b1 wd2 HS=>GO.alloc HS Z qN Z Z fun b3 wd4 HS=>aS Z (nL (sQ ?_))))
  obtain ⟨t5,t6,t7,t8,t9,t10,t11,t12,t13,t14,t15,t16,t17,t18,t19,t20,h21,H⟩:=Pf H
  refine rG (lW 1 HS Z Du (fJ uS Z (Iy.calls HS (rD 2 r_a) h21) (fun _ wd33 ⟨b22,A23,c24,A25,c26,A27,c28,A29,c30,A31,c32,h34,HS⟩=>⟨_,h34,(aS Z (nL (sQ ?_)))⟩)))
  obtain ⟨t35,t36,t37,t38,t39,t40,h41,H⟩:=Oo H
  obtain ⟨c42,H⟩:=iN H
  obtain ⟨c43,H⟩:=iN H
  obtain ⟨c44,H⟩:=iN H
  obtain ⟨c45,H⟩:=iN H
  obtain ⟨c46,H⟩:=iN H
  refine rG (mV Z ?_)
  replace HS:=HS.pk 8 [0,1,2,3,4,5,6,7] Z
  refine fJ vU Z (D6.calls HS  h41) (fun _ wd47 ⟨h48,HS⟩=>⟨_,h48,(nL (rN 2 Z (rG (mV Z (GO.En Z Z Z (fL b22 15 Ma Z (lB 0 HS Z na4 Z (nL ?_))))))))⟩)
  rcases iE H with ⟨c49,H⟩ | ⟨c49,H⟩
  ·
   refine yB Z c49 (sQ (rG (GO.Il (.agg [I 0,I 0,.slice none 0 0,I 0,I 0,.slice none 0 0,I 0,I 0,.slice none 0 0,I 0,I 0,.slice none 0 0,I 0,I 0,.slice none 0 0].toArray) Z Z (fun _=>by kernel_rfl) Z (sW 6 HS Z W9 Z fun wd50 HS=>aS Z (nL ?_)))))
   replace HS:=HS.H9 (Ad .i64) 2 uu
   replace HS:=HS.H9 (Ad .i64) 2 uu
   replace HS:=HS.H9 (Ad .i64) 2 uu
   replace HS:=HS.H9 (Ad .i64) 2 uu
   replace HS:=HS.H9 (Ad .i64) 2 uu
   obtain ⟨rfl,rfl,rfl,rfl,rfl,rfl,rfl,rfl,rfl,rfl,rfl,rfl,rfl,rfl,rfl,rfl⟩:=Px H
   exact G.I9 _ _ func123 Z (I8.J6 (j:=11) (vs:=[I 0,I 0,.slice none 0 0,I 0,I 0,.slice none 0 0,I 0,I 0,.slice none 0 0,I 0,I 0,.slice none 0 0,I 0,I 0,.slice none 0 0]) HS Z Z Z W9) Z ⟨_,_,_,_,_,_,_,_,_,_,Z,(HS.pk 13 [4,3,2,1,0] Z)⟩
  refine nB Z (Cy c49) (rN 2 Z (rG (mV Z (GO.En Z Z Z (fL b22 0 Iw Z (GO.Gf (j:=0) ([I t5,I t6,sV A23 t36 c24,I t8,I t9,sV A25 t37 c26,I t11,I t12,sV A27 t38 c28,I t14,I t15,sV A29 t39 c30,I t17,I t18,sV A31 t40 c32]) HS Z Z Z Z W9 Z (sW 6 HS Z W9 Z fun wd51 HS=>aS Z (nL ?_))))))))
  obtain ⟨rfl,rfl,rfl,rfl,rfl,rfl,rfl,rfl,rfl,rfl,rfl,rfl,rfl,rfl,rfl,rfl⟩:=Px H
  exact G.I9 _ _ func123 Z (I8.J6 (j:=6) (vs:=[I t5,I t6,sV A23 t36 c24,I t8,I t9,sV A25 t37 c26,I t11,I t12,sV A27 t38 c28,I t14,I t15,sV A29 t39 c30,I t17,I t18,sV A31 t40 c32]) HS Z Z Z W9) Z ⟨_,_,_,_,_,_,_,_,_,_,Z,(HS.pk 8 [1,2,3,4,5] Z)⟩
theorem Es.calls {a1 c1:Int} {e1:List Int} {r1:List Int} {r2:Int} (HS:St w0 w (L)) (r_a:Ce w0 L (Ad .i64) A_a c_a uu e1) (H:Es.f K a1 c1 e1=some (r1,r2)) :
    Calls prog 83 #[.agg [I a1,I c1,sV A_a e1 c_a].toArray] w (Es.post w0 L r1 r2):=by
  unfold Es.f at H
  refine cG func83 Z ?_
  refine sQ (rG (bA HS Z fun b1 wd2 HS=>pS 2 Z (nL (sQ ?_))))
  obtain ⟨t3,t4,t5,t6,t7,t8,t9,t10,t11,t12,t13,t14,t15,t16,t17,t18,h19,H⟩:=Pf H
  refine rG (lW 0 HS Z Du (fJ vZ Z (Km.calls HS (rD 1 r_a) h19) (fun _ wd30 ⟨A20,c21,A22,c23,A24,c25,A26,c27,A28,c29,h31,HS⟩=>⟨_,h31,(pS 3 Z (GO.alloc HS Z qN Z Z fun b32 wd33 HS=>sW 0 HS Z W9 Z fun wd34 HS=>aS Z (nL (rN 3 Z ?_))))⟩)))
  rcases iS H with ⟨c35,H⟩ | ⟨c35,H⟩
  ·
   refine yB Z (nF c35) (rN 2 Z ?_)
   replace HS:=HS.H9 (Ad .i64) 2 uu
   obtain ⟨rfl,rfl⟩:=I6 H
   exact G.I9 _ _ func83 Z Z Z ⟨_,_,Z,(HS.pk 8 [0] Z)⟩
  refine nB Z (nT c35) (rN 5 Z (rG (fL b1 0 Gg Z (lB 6 HS Z na2 Z (fL b1 1 Ew Z (lB 6 HS Z na2 Z (GO.min2 Z Z Z Z (mV Z (nL (rN 2 Z ?_))))))))))
  refine G.name (fun m1 i1=>?_)
  have k1:∀ g1,g1≤K→∀ (A49:Option Addr) (c50:Nat) (d1:List Int) (x52:Int) (w:World),Es.l1 K g1 a1 c1 t9 t10 t11 d1 x52=some (r1,r2)→St w0 w (Box b32 138 [I t3,I t4,sV A20 t5 c21,I t6,I t7,sV A22 t8 c23,I t9,I t10,sV A24 t11 c25,I t12,I t13,sV A26 t14 c27,I t15,I t16,sV A28 t17 c29]::Own (Ad .i64) 2 A20 c21 uu t5::Own (Ad .i64) 2 A22 c23 uu t8::Own (Ad .i64) 2 A24 c25 uu t11::Own (Ad .i64) 2 A26 c27 uu t14::Own (Ad .i64) 2 A28 c29 uu t17::Own (Ad .i64) 2 A49 c50 uu d1::L)→G prog 83 40 [(4,pT b32),(6,sV A49 d1 c50),(21,I (if c1<a1 then c1 else a1)),(22,I x52)] m1 w (Es.post w0 L r1 r2):=by
   refine lp (fun _ _ _ _ w H _=>by rw [Es.l1] at H; cases H) fun f1 n1 h1 A49 c50 d1 x52 w H HS=>?_
   rw [Es.l1] at H
   subst i1
   refine rN 3 Z ?_
   rcases iS H with ⟨c66,H⟩ | ⟨c66,H⟩
   ·
    refine nB Z (tF c66) (rN 3 Z ?_)
    obtain ⟨rfl,rfl⟩:=I6 H
    exact G.I9 _ _ func83 Z Z Z ⟨_,_,Z,(HS.pk 7 [6] Z)⟩
   refine yB Z (tT c66) (rN 6 Z ?_)
   obtain ⟨t67,h68,H⟩:=bI H
   obtain ⟨c69,H⟩:=iN H
   refine rG (fL b32 6 K5 Z (GO.Gf (j:=0) ([I t9,I t10,sV A24 t11 c25]) HS Z Z Z Z Du Z (pS 2 Z (fJ Kh Z (Be.calls HS (ro 3 Z) h68) (fun _ wd70 ⟨h71,HS⟩=>⟨_,h71,(GO.En Z Z Z (GO.Dt (T:=(Ad .i64)) (n:=t67.toNat) (o:=0) HS (ro 3 Z) Z Z (getD_some (d:=0) (ltN c69)) Z Z na2 Z (aS Z (nL (rN 2 Z ?_)))))⟩)))))
   rcases iE H with ⟨c72,H⟩ | ⟨c72,H⟩
   ·
    refine nB Z (nT c72) (rN 4 Z (gW (h1 f1 (lR _) _ _ _ _ _ H HS) Z))
   refine yB Z (nF c72) ?_
   obtain ⟨c78,H⟩:=iN H
   refine rG (pS 2 Z (GO.Fj (el:=2) ([I (t11.getD t67.toNat 0)]) HS Z Z (fun _=>by kernel_rfl) Z fun b73 wd74 HS=>GO.app1 (T:=(Ad .i64)) (j:=7) (jb:=0) (t11.getD t67.toNat 0) HS Z Z Av Z Z Z U26 Le Z Z Z c78 Z fun A76 c77 wd75 HS=>aS Z (nL (rN 3 Z (gW (h1 f1 (lR _) _ _ _ _ _ H (HS.pk 8 [1,2,3,4,5,6,7] Z)) Z)))))
  replace HS:=HS.H9 (Ad .i64) 2 uu
  exact gW (k1 K (lR _) _ _ _ _ _ H (HS.pk 8 [1,2,3,4,5,6,0] Z)) Z
theorem Hl.calls {n_:Int} {r1:Bool} (HS:St w0 w (L)) (H:Hl.f n_=some r1) :
    Calls prog 125 #[I n_] w (Hl.post w0 L r1):=by
  unfold Hl.f at H
  refine cG func125 Z ?_
  refine rN 4 Z ?_
  obtain rfl:=sI H
  exact rT _ func125 Z Z ⟨Z,HS⟩
theorem Bg.calls {s:List Int} {r1:Int} (HS:St w0 w (L)) (r_a:Ce w0 L (Ad .i64) A_a c_a uu s) (H:Bg.f K s=some r1) :
    Calls prog 122 #[sV A_a s c_a,.func (.func 125) #[] #[]] w (Bg.post w0 L r1):=by
  unfold Bg.f at H
  refine cG func122 Z ?_
  refine rN 4 Z (rG (mV Z (lS Z Z U26 Z (mV Z (nL (rN 2 Z ?_))))))
  refine G.name (fun e1 c1=>?_)
  have d1:∀ a1,a1≤K→∀ (x8:Int) (w:World),Bg.l1 K a1 s x8=some r1→St w0 w (L)→G prog 122 19 [(0,sV A_a s c_a),(1,.func (.func 125) #[] #[]),(7,I (s.length:Int)),(8,I x8)] e1 w (Bg.post w0 L r1):=by
   refine lp (fun _ w H _=>by rw [Bg.l1] at H; cases H) fun b1 g1 f1 x8 w H HS=>?_
   rw [Bg.l1] at H
   subst c1
   refine rN 3 Z ?_
   rcases iS H with ⟨c16,H⟩ | ⟨c16,H⟩
   ·
    refine nB Z (tF c16) (rN 3 Z ?_)
    obtain rfl:=sI H
    exact rT _ func122 Z Z ⟨Z,HS⟩
   refine yB Z (tT c16) (rN 6 Z ?_)
   obtain ⟨c17,H⟩:=iN H
   obtain ⟨t18,h19,H⟩:=bI H
   refine rG (pS 3 Z (iX Z U26 sz2 (rk r_a HS) c17 (GO.Dt (T:=(Ad .i64)) (n:=x8.toNat) (o:=0) HS r_a Z Z (getD_some (d:=0) (ltN c17)) Z Z na2 Z (GO.clo Z Z func125 Yz.2.1 Yz.2.2 Z Z (Hl.calls HS  h19) (fun _ wd20 ⟨h21,HS⟩=>⟨_,h21,(nL ?_)⟩)))))
   rcases iE H with ⟨c22,H⟩ | ⟨c22,H⟩
   ·
    refine yB Z c22 (rN 2 Z ?_)
    obtain rfl:=sI H
    exact rT _ func122 Z Z ⟨Z,HS⟩
   refine nB Z (Cy c22) (rN 4 Z (gW (f1 b1 (lR _) _ _ H HS) Z))
  exact gW (d1 K (lR _) _ _ H HS) Z
theorem Bc.calls {s:List Int} {r1:List Int} (HS:St w0 w (Own (Ad .i64) 2 A_a c_a uu s::L)) (H:Bc.f K s=some r1) :
    Calls prog 124 #[sV A_a s c_a,.func (.func 125) #[] #[]] w (Bc.post w0 L r1):=by
  unfold Bc.f at H
  refine cG func124 Z ?_
  refine rN 3 Z ?_
  obtain ⟨t1,h2,H⟩:=bI H
  refine rG (pS 2 Z (fJ Sc Z (Bg.calls HS (ro 0 Z) h2) (fun _ wd3 ⟨h4,HS⟩=>⟨_,h4,(aS Z (nL (rN 3 Z ?_)))⟩)))
  rcases iE H with ⟨c5,H⟩ | ⟨c5,H⟩
  ·
   refine yB Z (tT c5) (rN 2 Z ?_)
   obtain rfl:=sI H
   exact rT _ func124 Z Z ⟨_,_,Z,HS⟩
  refine nB Z (tF c5) (rN 6 Z ?_)
  refine G.name (fun h1 f1=>?_)
  have g1:∀ d1,d1≤K→∀ (x19:List Int) (a1 b1:Int) (w:World),Bc.l1 K d1 x19 a1 b1=some r1→St w0 w (Own (Ad .i64) 2 A_a c_a uu x19::L)→G prog 124 42 [(0,sV A_a x19 c_a),(1,.func (.func 125) #[] #[]),(5,I a1),(6,I b1)] h1 w (Bc.post w0 L r1):=by
   refine lp (fun _ _ _ w H _=>by rw [Bc.l1] at H; cases H) fun c1 i1 e1 x19 a1 b1 w H HS=>?_
   rw [Bc.l1] at H
   subst f1
   refine rN 2 Z (rG (pS 2 Z (lS Z Z U26 Z (GO.lss Z Z Z Z (nL ?_)))))
   rcases iS H with ⟨c35,H⟩ | ⟨c35,H⟩
   ·
    refine nB Z (tF c35) (rN 2 Z ?_)
    obtain ⟨c44,H⟩:=iN H
    have h46:=Ry (xs:=x19) (z:=0) (Y7 (leN c44) (lR _))
    refine rG (pS 2 Z (GO.slL (T:=(Ad .i64)) HS (ro 0 Z) Z Z Z U26 sz2 c44.1 c44.2 Z (GO.aU (T:=(Ad .i64)) (j:=0) (l:=a1.toNat) 0 () HS Z Av Z Z U26 zr2 Z Z (mZ (lR _) ((ro 0 Z) _ HS).1) (Y7 (leN c44) (lR _)) (fun _=>Z) fun wd45 HS=>nL (G.len (t:=0) (m:=(over x19 a1.toNat (List.replicate ((x19.take x19.length).drop a1.toNat).length 0)).length) Z (by simp only [List.length_set,h46] <;> rfl) (sQ ?_)))))
    obtain ⟨c47,H⟩:=iN H
    refine rG (pS 2 Z (GO.slH (T:=(Ad .i64)) HS (ro 0 Z) Z Z Z U26 sz2 c47.1 c47.2 Z (aS Z (nL ?_))))
    replace HS:=HS.bV (A':=(Jl A_a 0 c_a 1)) (c':=(c_a - 0)) (j:=0) (l:=0) (h:=a1.toNat) (m:=c_a) Z (Nat.zero_le _) (leN c47) (Nat.le_trans (leN c47) ((ro 0 Z) _ HS).1) (lR _) Z Z
    obtain rfl:=sI H
    exact rT _ func124 Z Z ⟨_,_,Z,HS⟩
   refine yB Z (tT c35) (rN 4 Z ?_)
   obtain ⟨c36,H⟩:=iN H
   refine rG (pS 2 Z (iX Z U26 sz2 (rk (ro 0 Z) HS) c36 (GO.Dt (T:=(Ad .i64)) (n:=b1.toNat) (o:=0) HS (ro 0 Z) Z Z (getD_some (d:=0) (ltN c36)) Z Z na2 Z (aS Z (nL (sQ ?_))))))
   obtain ⟨t37,h38,H⟩:=bI H
   refine rG (pS 2 Z (GO.clo Z Z func125 Yz.2.1 Yz.2.2 Z Z (Hl.calls HS  h38) (fun _ wd39 ⟨h40,HS⟩=>⟨_,h40,(GO.not Z Z Z (nL ?_))⟩)))
   rcases iE H with ⟨c41,H⟩ | ⟨c41,H⟩
   ·
    refine nB Z (congrArg Bool.not c41) (rN 4 Z (gW (e1 c1 (lR _) _ _ _ _ H HS) Z))
   refine yB Z (congrArg Bool.not (Cy c41)) (sQ ?_)
   obtain ⟨c42,H⟩:=iN H
   refine rG (pS 3 Z (iX Z U26 sz2 (rk (ro 0 Z) HS) c42 (GO.Ia (T:=(Ad .i64)) (j:=0) (n:=a1.toNat) (o:=0) (vs:=[I (x19.getD b1.toNat 0)]) (x19.getD b1.toNat 0) HS Z Av Z Z Z Z (htN na2 Z) Z (getD_some (d:=0) (ltN c42)) Z Z fun wd43 HS=>nL (G.len (t:=0) (m:=(x19.set a1.toNat (x19.getD b1.toNat 0)).length) Z (by simp only [List.length_set] <;> rfl) (rN 4 Z (gW (e1 c1 (lR _) _ _ _ _ H HS) Z))))))
  exact gW (g1 K (lR _) _ _ _ _ H HS) Z
theorem Je.calls {list:List Int} {r1:List Int} (HS:St w0 w (Own (Ad .i64) 2 A_a c_a uu list::L)) (H:Je.f K list=some r1) :
    Calls prog 85 #[sV A_a list c_a] w (Je.post w0 L r1):=by
  unfold Je.f at H
  refine cG func85 Z ?_
  refine rN 3 Z ?_
  obtain ⟨t1,h2,H⟩:=bI H
  refine rG (mV Z ?_)
  replace HS:=HS.pk 1 [0] Z
  refine fJ kT Z (Bc.calls HS  h2) (fun _ wd5 ⟨A3,c4,h6,HS⟩=>⟨_,h6,(aS Z (nL ?_))⟩)
  obtain rfl:=sI H
  exact rT _ func85 Z Z ⟨_,_,Z,HS⟩
theorem Iu.calls {a1 d1:Int} {c1:List Int} {f1 g1:Int} {e1:List Int} {r1:Int} {r2:List Int} {r3:Int} (HS:St w0 w (L)) (r_a:Ce w0 L (Ad .i64) A_a c_a uu c1) (r_b:Ce w0 L (Ad .i64) A_b c_b uu e1) (H:Iu.f K a1 d1 c1 f1 g1 e1=some (r1,r2,r3)) :
    Calls prog 39 #[.agg [I a1,I d1,sV A_a c1 c_a].toArray,.agg [I f1,I g1,sV A_b e1 c_b].toArray] w (Iu.post w0 L r1 r2 r3):=by
  unfold Iu.f at H
  refine cG func39 Z ?_
  refine sQ (rG (bA HS Z fun b1 wd2 HS=>bA HS Z fun b3 wd4 HS=>GO.alloc HS Z gV Z Z fun b5 wd6 HS=>aS Z (nL (sQ ?_))))
  obtain ⟨t7,t8,t9,t10,h11,H⟩:=Ie H
  refine rG (lW 1 HS Z Du (lW 2 HS Z Du (fJ zG Z (Ca.calls HS (rD 3 r_b) (rD 3 r_a) h11) (fun _ wd14 ⟨A12,c13,h15,HS⟩=>⟨_,h15,(pS 3 Z (GO.alloc HS Z Md Z Z fun b16 wd17 HS=>sW 0 HS Z Du Z fun wd18 HS=>aS Z (nL (rN 3 Z ?_))))⟩))))
  rcases iS H with ⟨c19,H⟩ | ⟨c19,H⟩
  ·
   refine yB Z (nF c19) (sQ (rG (GO.Il (.agg [I 0,.slice none 0 0].toArray) Z Z (fun _=>by kernel_rfl) Z (mV Z (sW 2 HS Z Ka Z fun wd60 HS=>aS Z (nL ?_))))))
   replace HS:=HS.H9 (Ad .i64) 2 uu
   obtain ⟨rfl,rfl,rfl⟩:=Jh H
   exact G.I9 _ _ func39 Z (I8.J6 (j:=3) (vs:=[I 0,.slice none 0 0]) HS Z Z Z Ka) Z ⟨_,_,Z,(HS.pk 6 [0] Z)⟩
  refine nB Z (nT c19) (rN 3 Z ?_)
  obtain ⟨t20,h21,H⟩:=bI H
  refine rG (fL b16 2 Jf Z (lB 0 HS Z Ha Z (fJ eY Z (C8.calls HS (ro 1 Z) h21) (fun _ wd22 ⟨h23,HS⟩=>⟨_,h23,(nL ?_)⟩))))
  rcases iE H with ⟨c24,H⟩ | ⟨c24,H⟩
  ·
   refine yB Z c24 (sQ (rG (GO.Il (.agg [I 0,.slice none 0 0].toArray) Z Z (fun _=>by kernel_rfl) Z (sW 2 HS Z Ka Z fun wd25 HS=>aS Z (nL ?_)))))
   replace HS:=HS.H9 (Ad .i64) 2 uu
   obtain ⟨rfl,rfl,rfl⟩:=Jh H
   exact G.I9 _ _ func39 Z (I8.J6 (j:=3) (vs:=[I 0,.slice none 0 0]) HS Z Z Z Ka) Z ⟨_,_,Z,(HS.pk 6 [0] Z)⟩
  refine nB Z (Cy c24) (rN 2 Z ?_)
  obtain ⟨t26,t27,h28,H⟩:=De H
  refine rG (lW 4 HS Z Du (fJ qG Z (Es.calls HS (rD 5 r_a) h28) (fun _ wd31 ⟨A29,c30,h32,HS⟩=>⟨_,h32,(pS 5 Z (nL (sQ ?_)))⟩)))
  obtain ⟨t33,t34,h35,H⟩:=De H
  refine rG (lW 4 HS Z Du (fJ qG Z (Es.calls HS (rD 6 r_b) h35) (fun _ wd38 ⟨A36,c37,h39,HS⟩=>⟨_,h39,(pS 5 Z (nL (rN 2 Z ?_)))⟩)))
  rcases iS H with ⟨c41,H⟩ | ⟨c41,H⟩
  ·
   refine rG (pS 3 Z (kN 38 Z (nF c41) (oF Z (oF Z (GO.Gw Z Z Z Z Z (nL (rN 2 Z (rG (GO.Il (.agg [I 0,.slice none 0 0].toArray) Z Z (fun _=>by kernel_rfl) Z (sW 4 HS Z Ka Z fun wd59 HS=>aS Z (nL ?_)))))))))))
   replace HS:=HS.H9 (Ad .i64) 2 uu
   obtain ⟨rfl,rfl,rfl⟩:=Jh H
   exact G.I9 _ _ func39 Z (I8.J6 (j:=5) (vs:=[I 0,.slice none 0 0]) HS Z Z Z Ka) Z ⟨_,_,Z,(HS.pk 8 [0] Z)⟩
  refine rG (pS 3 Z (kN 38 Z (nT c41) (oN Z (mV Z (bK (oN Z (GO.neq Z Z Z Z (bK (GO.Hw Z Z Z Z Z (nL ?_))))))))))
  rcases iS H with ⟨c42,H⟩ | ⟨c42,H⟩
  ·
   refine yB Z (nF c42) (sQ (rG (GO.Il (.agg [I 0,.slice none 0 0].toArray) Z Z (fun _=>by kernel_rfl) Z (sW 4 HS Z Ka Z fun wd58 HS=>aS Z (nL ?_)))))
   replace HS:=HS.H9 (Ad .i64) 2 uu
   obtain ⟨rfl,rfl,rfl⟩:=Jh H
   exact G.I9 _ _ func39 Z (I8.J6 (j:=5) (vs:=[I 0,.slice none 0 0]) HS Z Z Z Ka) Z ⟨_,_,Z,(HS.pk 8 [0] Z)⟩
  refine nB Z (nT c42) (rN 2 Z ?_)
  obtain ⟨t43,h44,H⟩:=bI H
  obtain ⟨t47,h48,H⟩:=bI H
  obtain ⟨t51,h52,H⟩:=bI H
  refine G.Jg mixed (fun w=>St w0 w (Box b1 57 [I a1,I d1,sV A_a c1 c_a]::L)) [1] [0,2,5,8,1,3,4,6,7,9,10,11,12] [] (by kernel_rfl) (by kernel_rfl) (HS.drew.pk 7 [6] Z) ?_
  replace HS:=HS.drew
  refine qL Z Z (fun _ _ g=>fL b1 0 Gg Z g) Z (GX.ps 3 Z (GX.ls Z Z Z (HS.pk 7 [6] Z) (fun _ HS _ g=>lB 0 HS Z na2 Z g) Z (GX.l2 Z (fJ eH Z (Er.calls HS (ro 1 Z) h44) (fun _ wd45 ⟨h46,HS⟩=>⟨_,h46,(GX.fin (HS.pk 7 [6] Z) (GX.ps 1 Z (GX.l2 Z (fJ eH Z (Er.calls HS (ro 0 Z) h48) (fun _ wd49 ⟨h50,HS⟩=>⟨_,h50,(GX.fin (HS.pk 7 [6] Z) (GX.ps 1 Z (GX.l2 Z ?_)))⟩)))))⟩)))))
  replace HS:=HS.pk 7 [1,0,2,3,4,5,6] Z
  refine fJ zI Z (Je.calls HS  h52) (fun _ wd55 ⟨A53,c54,h56,HS⟩=>⟨_,h56,(GX.fin (HS.pk 7 [6] Z) (qL Z Z (fun _ _ g=>GO.Il (.agg [I (w64 ((w64 (a1 - t43)) - t47)),sV A53 t51 c54].toArray) Z Z (fun _=>by kernel_rfl) Z g) Z (GX.l2 Z (sW 4 HS Z Ka Z fun wd57 HS=>GX.fin (HS.pk 7 [6] Z) (GX.ps 1 Z (GX.nil ?_))))))⟩)
  obtain ⟨rfl,rfl,rfl⟩:=Jh H
  exact G.I9 _ _ func39 Z (I8.J6 (j:=4) (vs:=[I (w64 ((w64 (a1 - t43)) - t47)),sV A53 t51 c54]) HS Z Z Z Ka) Z ⟨_,_,Z,(HS.pk 7 [0] Z)⟩
theorem Iz.calls {a1:List (List Aw)} {k_:Int} {y_a:Nat→(Ty.slice 83 Bb).Lay} {r1:Int} {r2:List Int} {r3:Int} (HS:St w0 w (L)) (r_a:Ce w0 L (Ty.slice 83 Bb) A_a c_a y_a a1) (H:Iz.f K a1 k_=some (r1,r2,r3)) :
    Calls prog 11 #[.agg [sV A_a a1 c_a].toArray,I k_] w (Iz.post w0 L r1 r2 r3):=by
  unfold Iz.f at H
  refine cG func11 Z ?_
  refine sQ (rG (bA HS Z fun b1 wd2 HS=>GO.alloc HS Z gV Z Z fun b3 wd4 HS=>aS Z (nL (rN 2 Z ?_))))
  obtain ⟨t5,h6,H⟩:=bI H
  refine rG (lW 1 HS Z Jn (mV Z (fJ yD Z (J3.calls HS (rD 2 r_a) h6) (fun _ wd7 ⟨h8,HS⟩=>⟨_,h8,(aS Z (nL (rN 2 Z ?_)))⟩))))
  rcases iS H with ⟨c9,H⟩ | ⟨c9,H⟩
  ·
   refine yB Z (nF c9) (sQ (rG (GO.Il (.agg [I 0,.slice none 0 0].toArray) Z Z (fun _=>by kernel_rfl) Z (mV Z (sW 0 HS Z Ka Z fun wd35 HS=>aS Z (nL ?_))))))
   replace HS:=HS.H9 (Ad .i64) 2 uu
   obtain ⟨rfl,rfl,rfl⟩:=Jh H
   exact G.I9 _ _ func11 Z (I8.J6 (j:=1) (vs:=[I 0,.slice none 0 0]) HS Z Z Z Ka) Z ⟨_,_,Z,(HS.pk 3 [0] Z)⟩
  refine nB Z (nT c9) (rN 2 Z ?_)
  obtain ⟨t10,t11,t12,h13,H⟩:=Ej H
  obtain ⟨t18,t19,t20,h21,H⟩:=Ej H
  obtain ⟨t26,t27,t28,h29,H⟩:=Ej H
  refine G.Jg mixed (fun w=>St w0 w (Box b1 33 [sV A_a a1 c_a]::L)) [0,4] [1,2,5,0,4,3,6,7,8,9,10,11] [] (by kernel_rfl) (by kernel_rfl) (HS.drew.pk 2 [1] Z) ?_
  replace HS:=HS.drew
  refine GX.ps 3 Z (GX.ls Z Z Z (HS.pk 2 [1] Z) (fun _ HS _ g=>lW 0 HS Z Jn g) Z (GX.ls Z Z Z (HS.pk 2 [1] Z) (fun _ HS _ g=>lW 0 HS Z Jn g) Z (GX.l2 Z (fJ qF Z (Cr.calls HS (rD 2 r_a) h13) (fun _ wd16 ⟨A14,c15,h17,HS⟩=>⟨_,h17,(GX.fin (HS.pk 3 [2] Z) (GX.l2 Z (fJ qF Z (Cr.calls HS (rD 3 r_a) h21) (fun _ wd24 ⟨A22,c23,h25,HS⟩=>⟨_,h25,(GX.fin (HS.pk 4 [3] Z) (GX.l2 Z (fJ xL Z (Iu.calls HS (ro 1 Z) (ro 0 Z) h29) (fun _ wd32 ⟨A30,c31,h33,HS⟩=>⟨_,h33,(GX.fin (HS.pk 5 [4] Z) (GX.ps 2 Z (GX.l2 Z (sW 3 HS Z Ka Z fun wd34 HS=>?_))))⟩))))⟩))))⟩)))))
  refine GX.fin (HS.pk 5 [4] Z) (GX.ps 1 Z (GX.nil ?_))
  obtain ⟨rfl,rfl,rfl⟩:=Jh H
  exact G.I9 _ _ func11 Z (I8.J6 (j:=3) (vs:=[I t26,sV A30 t27 c31]) HS Z Z Z Ka) Z ⟨_,_,Z,(HS.pk 5 [0] Z)⟩
theorem Kk.calls {c1 e1:Int} {a1 d1:Int} {r1:Bool} (HS:St w0 w (L)) (H:Kk.f c1 e1 a1 d1=some r1) :
    Calls prog 134 #[.agg [I c1,I e1].toArray,.agg [I a1,I d1].toArray] w (Kk.post w0 L r1):=by
  unfold Kk.f at H
  refine cG func134 Z ?_
  refine sQ (rG (bA HS Z fun b1 wd2 HS=>bA HS Z fun b3 wd4 HS=>aS Z (nL (rN 2 Z (rG (fL b1 0 Hf Z (lB 1 HS Z na2 Z (fL b3 0 Hf Z (lB 0 HS Z na2 Z (GO.neq Z Z Z Z (nL ?_)))))))))))
  rcases iS H with ⟨c5,H⟩ | ⟨c5,H⟩
  ·
   refine yB Z (nF c5) (rN 2 Z ?_)
   obtain rfl:=sI H
   exact rT _ func134 Z Z ⟨Z,(HS.pk 2 [] Z)⟩
  refine nB Z (nT c5) (rN 3 Z (rG (fL b1 1 Jy Z (lB 1 HS Z na2 Z (fL b3 1 Jy Z (lB 0 HS Z na2 Z (GO.neq Z Z Z Z (nL ?_))))))))
  rcases iS H with ⟨c6,H⟩ | ⟨c6,H⟩
  ·
   refine yB Z (nF c6) (rN 2 Z ?_)
   obtain rfl:=sI H
   exact rT _ func134 Z Z ⟨Z,(HS.pk 2 [] Z)⟩
  refine nB Z (nT c6) (rN 3 Z ?_)
  obtain rfl:=sI H
  exact rT _ func134 Z Z ⟨Z,(HS.pk 2 [] Z)⟩
theorem Gl.calls {a_ b_:List Aw} {r1:Bool} (HS:St w0 w (L)) (r_a:Ce w0 L Bb A_a c_a uu a_) (r_b:Ce w0 L Bb A_b c_b uu b_) (H:Gl.f K a_ b_=some r1) :
    Calls prog 90 #[sV A_a a_ c_a,sV A_b b_ c_b] w (Gl.post w0 L r1):=by
  unfold Gl.f at H
  refine cG func90 Z ?_
  refine rN 4 Z (rG (mV Z (lS Z Z U81 Z (mV Z (lS Z Z U81 Z (GO.neq Z Z Z Z (nL ?_)))))))
  rcases iS H with ⟨c1,H⟩ | ⟨c1,H⟩
  ·
   refine yB Z (nF c1) (rN 2 Z ?_)
   obtain rfl:=sI H
   exact rT _ func90 Z Z ⟨Z,HS⟩
  refine nB Z (nT c1) (rN 6 Z ?_)
  refine G.name (fun g1 e1=>?_)
  have f1:∀ b1,b1≤K→∀ (a1:Int) (w:World),Gl.l1 K b1 a_ b_ a1=some r1→St w0 w (L)→G prog 90 27 [(0,sV A_a a_ c_a),(1,sV A_b b_ c_b),(5,I a1)] g1 w (Gl.post w0 L r1):=by
   refine lp (fun _ w H _=>by rw [Gl.l1] at H; cases H) fun d1 i1 h1 a1 w H HS=>?_
   rw [Gl.l1] at H
   subst e1
   refine rN 2 Z (rG (pS 2 Z (lS Z Z U81 Z (GO.lss Z Z Z Z (nL ?_)))))
   rcases iS H with ⟨c27,H⟩ | ⟨c27,H⟩
   ·
    refine nB Z (tF c27) (rN 3 Z ?_)
    obtain rfl:=sI H
    exact rT _ func90 Z Z ⟨Z,HS⟩
   refine yB Z (tT c27) (rN 4 Z ?_)
   obtain ⟨c28,H⟩:=iN H
   obtain ⟨e29,h30,H⟩:=Ih H
   obtain ⟨c31,H⟩:=iN H
   obtain ⟨e32,h33,H⟩:=Ih H
   obtain ⟨t34,h35,H⟩:=bI H
   refine G.lex mixed [0,1,2,4,5,6,3,7,8,9] (by kernel_rfl) ?_
   replace HS:=HS.drew
   refine GX.ps 2 Z (qL Z Z (fun _ _ g=>iX Z U81 Nr (rk r_a HS) c28 g) Z (GX.ps 2 Z (qL Z Z (fun _ _ g=>iX Z U81 Nr (rk r_b HS) c31 g) Z (GX.l1 Z Z Z (fun _ g=>GO.Lb (T:=Bb) (n:=a1.toNat) HS r_a Z Z (Hm (ltN c28) h30) J2 Z g) Z (GX.l1 Z Z Z (fun _ g=>GO.Lb (T:=Bb) (n:=a1.toNat) HS r_b Z Z (Hm (ltN c31) h33) J2 Z g) Z (GX.l2 Z (fJ sH Z (Kk.calls HS  h35) (fun _ wd36 ⟨h37,HS⟩=>⟨_,h37,(GX.fin tv (GX.ps 1 Z (GX.nil ?_)))⟩))))))))
   rcases iS H with ⟨c38,H⟩ | ⟨c38,H⟩
   ·
    refine yB Z (congrArg Bool.not (Cy c38)) (rN 2 Z ?_)
    obtain rfl:=sI H
    exact rT _ func90 Z Z ⟨Z,HS⟩
   refine nB Z (congrArg Bool.not c38) (rN 4 Z (gW (h1 d1 (lR _) _ _ H HS) Z))
  exact gW (f1 K (lR _) _ _ H HS) Z
theorem Fz.calls {a_ b_:List (List Aw)} {y_a:Nat→(Ty.slice 83 Bb).Lay} {y_b:Nat→(Ty.slice 83 Bb).Lay} {r1:Bool} (HS:St w0 w (L)) (r_a:Ce w0 L (Ty.slice 83 Bb) A_a c_a y_a a_) (r_b:Ce w0 L (Ty.slice 83 Bb) A_b c_b y_b b_) (H:Fz.f K a_ b_=some r1) :
    Calls prog 41 #[sV A_a a_ c_a,sV A_b b_ c_b] w (Fz.post w0 L r1):=by
  unfold Fz.f at H
  refine cG func41 Z ?_
  refine rN 4 Z (rG (mV Z (lS Z Z U31 Z (mV Z (lS Z Z U31 Z (GO.neq Z Z Z Z (nL ?_)))))))
  rcases iS H with ⟨c1,H⟩ | ⟨c1,H⟩
  ·
   refine yB Z (nF c1) (rN 2 Z ?_)
   obtain rfl:=sI H
   exact rT _ func41 Z Z ⟨Z,HS⟩
  refine nB Z (nT c1) (rN 6 Z ?_)
  refine G.name (fun g1 e1=>?_)
  have f1:∀ b1,b1≤K→∀ (a1:Int) (w:World),Fz.l1 K b1 a_ b_ a1=some r1→St w0 w (L)→G prog 41 27 [(0,sV A_a a_ c_a),(1,sV A_b b_ c_b),(5,I a1)] g1 w (Fz.post w0 L r1):=by
   refine lp (fun _ w H _=>by rw [Fz.l1] at H; cases H) fun d1 i1 h1 a1 w H HS=>?_
   rw [Fz.l1] at H
   subst e1
   refine rN 2 Z (rG (pS 2 Z (lS Z Z U31 Z (GO.lss Z Z Z Z (nL ?_)))))
   rcases iS H with ⟨c19,H⟩ | ⟨c19,H⟩
   ·
    refine nB Z (tF c19) (rN 3 Z ?_)
    obtain rfl:=sI H
    exact rT _ func41 Z Z ⟨Z,HS⟩
   refine yB Z (tT c19) (rN 4 Z ?_)
   obtain ⟨c20,H⟩:=iN H
   obtain ⟨c21,H⟩:=iN H
   obtain ⟨t22,h23,H⟩:=bI H
   refine G.lex mixed [0,1,2,4,5,6,3,7,8,9] (by kernel_rfl) ?_
   replace HS:=HS.drew
   refine GX.ps 2 Z (qL Z Z (fun _ _ g=>iX Z U31 Nh (rk r_a HS) c20 g) Z (GX.ps 2 Z (qL Z Z (fun _ _ g=>iX Z U31 Nh (rk r_b HS) c21 g) Z (GX.l1 Z Z Z (fun _ g=>GO.Dt (T:=(Ty.slice 83 Bb)) (n:=a1.toNat) (o:=0) HS r_a Z Z (getD_some (d:=[]) (ltN c20)) Z Z Ng Z g) Z (GX.l1 Z Z Z (fun _ g=>GO.Dt (T:=(Ty.slice 83 Bb)) (n:=a1.toNat) (o:=0) HS r_b Z Z (getD_some (d:=[]) (ltN c21)) Z Z Ng Z g) Z (GX.l2 Z (fJ wD Z (Gl.calls HS (Ce.elem r_a c20.1 c20.2) (Ce.elem r_b c21.1 c21.2) h23) (fun _ wd24 ⟨h25,HS⟩=>⟨_,h25,(GX.fin tv (GX.ps 1 Z (GX.nil ?_)))⟩))))))))
   rcases iS H with ⟨c26,H⟩ | ⟨c26,H⟩
   ·
    refine yB Z (congrArg Bool.not (Cy c26)) (rN 2 Z ?_)
    obtain rfl:=sI H
    exact rT _ func41 Z Z ⟨Z,HS⟩
   refine nB Z (congrArg Bool.not c26) (rN 4 Z (gW (h1 d1 (lR _) _ _ H HS) Z))
  exact gW (f1 K (lR _) _ _ H HS) Z
theorem Hr.calls {c1 a1:List (List Aw)} {y_a:Nat→(Ty.slice 83 Bb).Lay} {y_b:Nat→(Ty.slice 83 Bb).Lay} {r1:Bool} (HS:St w0 w (L)) (r_a:Ce w0 L (Ty.slice 83 Bb) A_a c_a y_a c1) (r_b:Ce w0 L (Ty.slice 83 Bb) A_b c_b y_b a1) (H:Hr.f K c1 a1=some r1) :
    Calls prog 13 #[.agg [sV A_a c1 c_a].toArray,.agg [sV A_b a1 c_b].toArray] w (Hr.post w0 L r1):=by
  unfold Hr.f at H
  refine cG func13 Z ?_
  refine sQ (rG (bA HS Z fun b1 wd2 HS=>bA HS Z fun b3 wd4 HS=>aS Z (nL (rN 2 Z ?_))))
  obtain ⟨t5,h6,H⟩:=bI H
  refine rG (fL b1 0 H8 Z (lB 1 HS Z Kr Z (fL b3 0 H8 Z (lB 0 HS Z Kr Z (fJ yG Z (Fz.calls HS (rD 2 r_a) (rD 2 r_b) h6) (fun _ wd7 ⟨h8,HS⟩=>⟨_,h8,(GO.not Z Z Z (nL ?_))⟩))))))
  rcases iS H with ⟨c9,H⟩ | ⟨c9,H⟩
  ·
   refine yB Z (congrArg Bool.not (Cy c9)) (rN 2 Z ?_)
   obtain rfl:=sI H
   exact rT _ func13 Z Z ⟨Z,(HS.pk 2 [] Z)⟩
  refine nB Z (congrArg Bool.not c9) (rN 3 Z ?_)
  obtain rfl:=sI H
  exact rT _ func13 Z Z ⟨Z,(HS.pk 2 [] Z)⟩
end Go.Proofs.YtgkgmhkgahalgaaGreat
