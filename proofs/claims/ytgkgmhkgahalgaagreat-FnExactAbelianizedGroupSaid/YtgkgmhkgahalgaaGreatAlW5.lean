import Derived.Test.YtgkgmhkgahalgaaGreatAlF
import Derived.Test.YtgkgmhkgahalgaaGreatAlW1
import Derived.Test.YtgkgmhkgahalgaaGreatAlW3
import Derived.Test.YtgkgmhkgahalgaaGreatAlW4
set_option linter.unusedVariables false
set_option linter.unusedSimpArgs false
namespace Go.Proofs.YtgkgmhkgahalgaaGreat
open Go.RowKit
open Tryz
variable {w0 w:World} {L:List Dc} {K:Nat} {A_a A_b A_c A_d A_e A_f A_g A_h A_i A_j A_k A_l A_m A_n A_o A_p A_q A_r A_s A_t A_u A_v A_w A_x A_y A_z:Option Addr} {c_a c_b c_c c_d c_e c_f c_g c_h c_i c_j c_k c_l c_m c_n c_o c_p c_q c_r c_s c_t c_u c_v c_w c_x c_y c_z:Nat}
set_option maxRecDepth 20000
set_option maxHeartbeats 40000000
theorem Bf.calls {f1 e1:Int} {t1:List Int} {d1 h1:Int} {v1:List Int} {c1 a1:Int} {q1:List Int} {g1 k1:Int} {o1:List Int} {m1 i1:Int} {n1:List Int} {y1:Bool} {k_:Int} {b_r:Nat} {r1:Bool} {r2 r3:List Int} {r4 r5 r6:List Int} (HS:St w0 w (Box b_r 168 [I f1,I e1,sV A_a t1 c_a,I d1,I h1,sV A_b v1 c_b,I c1,I a1,sV A_c q1 c_c,I g1,I k1,sV A_d o1 c_d,I m1,I i1,sV A_e n1 c_e,.bool y1]::Own (Ac .i64) 2 A_a c_a uu t1::Own (Ac .i64) 2 A_b c_b uu v1::Own (Ac .i64) 2 A_c c_c uu q1::Own (Ac .i64) 2 A_d c_d uu o1::Own (Ac .i64) 2 A_e c_e uu n1::L)) (H:Bf.f K f1 e1 t1 d1 h1 v1 c1 a1 q1 g1 k1 o1 m1 i1 n1 y1 k_=some (r1,r2,r3,r4,r5,r6)) :
   Calls prog 191 #[pT b_r,I k_] w (Bf.post w0 L f1 e1 d1 h1 c1 a1 g1 k1 m1 i1 b_r A_a c_a A_b c_b A_c c_c A_d c_d A_e c_e r1 r2 r3 r4 r5 r6):=by
 unfold Bf.f at H
 refine cG func191 Z ?_
 refine sQ (rG (mV Z (GO.Ew Z Z Z (fL b_r 0 I9 Z (fL b_r 6 Ld Z (GO.Gc (j:=0) ([I c1,I a1,sV A_c q1 c_c]) HS Z Z Z Z Fx Z (GO.alloc HS Z R8 Z Z fun b1 wd2 HS=>sW 0 HS Z Fx Z fun wd3 HS=>nL (rN 5 Z ?_))))))))
 refine G.name (fun e2 m2=>?_)
 have n2:∀ z1,z1≤K→∀ (x125 x126 x127:List Int) (x128:Bool) (u1:Int) (w:World),Bf.l1 K z1 f1 e1 d1 h1 c1 a1 g1 k1 o1 m1 i1 n1 k_ x125 x126 x127 x128 u1=some (r1,r2,r3,r4,r5,r6)→St w0 w (Box b_r 168 [I f1,I e1,sV A_a x125 c_a,I d1,I h1,sV A_b x126 c_b,I c1,I a1,sV A_c x127 c_c,I g1,I k1,sV A_d o1 c_d,I m1,I i1,sV A_e n1 c_e,.bool x128]::Own (Ac .i64) 2 A_a c_a uu x125::Own (Ac .i64) 2 A_b c_b uu x126::Own (Ac .i64) 2 A_c c_c uu x127::Own (Ac .i64) 2 A_d c_d uu o1::Own (Ac .i64) 2 A_e c_e uu n1::Box b1 57 [I c1,I a1,sV A_c x127 c_c]::L)→G prog 191 86 [(0,pT b_r),(1,I k_),(4,pT b1),(5,I u1)] e2 w (Bf.post w0 L f1 e1 d1 h1 c1 a1 g1 k1 m1 i1 b_r A_a c_a A_b c_b A_c c_c A_d c_d A_e c_e r1 r2 r3 r4 r5 r6):=by
  refine lp (fun _ _ _ _ _ w H _=>by rw [Bf.l1] at H; cases H) fun p1 s2 d2 x125 x126 x127 x128 u1 w H HS=>?_
  rw [Bf.l1] at H
  subst m2
  refine rN 2 Z ?_
  rcases iS H with ⟨c252,H⟩|⟨c252,H⟩
  ·
   refine rG (mV Z (fL b1 0 Im Z (lB 6 HS Z na2 Z (pS 2 Z (kN 20 Z (tF c252) (oF Z (oF Z (oF Z (oF Z (oF Z (GO.Iw Z Z Z Z Z (nL (rN 6 Z ?_)))))))))))))
   refine G.name (fun f2 j2=>?_)
   have k2:∀ x1,x1≤p1→∀ (x311 x312 x313:List Int) (x314:Bool) (s1:Int) (w:World),Bf.l7 K x1 f1 e1 d1 h1 c1 a1 g1 k1 m1 i1 k_ x125 x126 x311 x312 x313 x314 s1=some (r1,r2,r3,r4,r5,r6)→St w0 w (Box b_r 168 [I f1,I e1,sV A_a x125 c_a,I d1,I h1,sV A_b x126 c_b,I c1,I a1,sV A_c x311 c_c,I g1,I k1,sV A_d x312 c_d,I m1,I i1,sV A_e x313 c_e,.bool x314]::Own (Ac .i64) 2 A_a c_a uu x125::Own (Ac .i64) 2 A_b c_b uu x126::Own (Ac .i64) 2 A_c c_c uu x311::Own (Ac .i64) 2 A_d c_d uu x312::Own (Ac .i64) 2 A_e c_e uu x313::Box b1 57 [I c1,I a1,sV A_c x311 c_c]::L)→G prog 191 86 [(0,pT b_r),(1,I k_),(4,pT b1),(7,I s1)] f2 w (Bf.post w0 L f1 e1 d1 h1 c1 a1 g1 k1 m1 i1 b_r A_a c_a A_b c_b A_c c_c A_d c_d A_e c_e r1 r2 r3 r4 r5 r6):=by
    refine lp (fun _ _ _ _ _ w H _=>by rw [Bf.l7] at H; cases H) fun b2 o2 a2 x311 x312 x313 x314 s1 w H HS=>?_
    rw [Bf.l7] at H
    subst j2
    refine rN 2 Z ?_
    rcases iS H with ⟨c345,H⟩|⟨c345,H⟩
    ·
     refine rG (mV Z (fL b1 1 Gg Z (lB 6 HS Z na2 Z (pS 2 Z (kN 56 Z (tF c345) (oF Z (oF Z (oF Z (oF Z (oF Z (GO.Iw Z Z Z Z Z (nL (rN 2 Z ?_)))))))))))))
     obtain ⟨rfl,rfl,rfl,rfl,rfl,rfl⟩:=Oo H
     exact G.K6 func191 Z ⟨Z,(HS.pk 7 [0,1,2,3,4,5] Z)⟩
    refine rG (mV Z (fL b1 1 Gg Z (lB 6 HS Z na2 Z (pS 2 Z (kN 56 Z (tT c345) (oN Z (mV Z (bK (oN Z (GO.Ew Z Z Z (bK (oN Z (fL b_r 15 Mq Z (bK ?_))))))))))))))
    refine oN Z (lB 0 HS Z na4 Z (bK (oN Z (GO.not Z Z Z (bK (GO.Gq Z Z Z Z Z (nL ?_)))))))
    rcases iE H with ⟨c346,H⟩|⟨c346,H⟩
    ·
     refine nB Z (congrArg Bool.not c346) (G.exit Z ?_)
     obtain ⟨rfl,rfl,rfl,rfl,rfl,rfl⟩:=Oo H
     exact G.K6 func191 Z ⟨Z,(HS.pk 7 [0,1,2,3,4,5] Z)⟩
    refine yB Z (congrArg Bool.not (Cv c346)) (rN 4 Z ?_)
    obtain ⟨t347,h348,H⟩:=bI H
    obtain ⟨c349,H⟩:=iN H
    obtain ⟨t352,h353,H⟩:=bI H
    obtain ⟨c354,H⟩:=iN H
    obtain ⟨t357,h358,H⟩:=bI H
    refine G.Jk mixed (fun w=>St w0 w (Own (Ac .i64) 2 A_c c_c uu x311::Box b1 57 [I c1,I a1,sV A_c x311 c_c]::L)) [0,5,6,11] [1,2,7,8,0,6,3,4,5,9,10,11,12,13] [] (by kernel_rfl) (by kernel_rfl) (HS.drew.pk 7 [3,6] Z) ?_
    replace HS:=HS.drew
    refine GX.ps 4 Z (GX.ls Z Z Z (HS.pk 7 [3,6] Z) (fun _ HS _ g=>lW 1 HS Z Fx g) Z (GX.ls Z Z Z (HS.pk 7 [3,6] Z) (fun _ HS _ g=>lW 1 HS Z Fx g) Z (GX.l2 Z (fJ Lg Z (Bp.calls HS (ro 3 Z) h348) (fun _ wd350 ⟨h351,HS⟩=>⟨_,h351,(GX.fin (HS.pk 7 [3,6] Z) (qL Z Z (fun _ _ g=>GO.Ew Z Z Z g) Z (GX.ls Z Z Z (HS.pk 7 [3,6] Z) (fun _ HS _ g=>GO.C8 (T:=(Ac .i64)) (n:=t347.toNat) (o:=0) HS (ro 0 Z) Z Z (getD_some (d:=0) (ltN c349)) Z Z na2 Z g) Z (GX.l2 Z (fJ Lg Z (Bp.calls HS (ro 3 Z) h353) (fun _ wd355 ⟨h356,HS⟩=>⟨_,h356,(GX.fin (HS.pk 7 [3,6] Z) (qL Z Z (fun _ _ g=>GO.Ew Z Z Z g) Z (GX.ls Z Z Z (HS.pk 7 [3,6] Z) (fun _ HS _ g=>GO.C8 (T:=(Ac .i64)) (n:=t352.toNat) (o:=0) HS (ro 0 Z) Z Z (getD_some (d:=0) (ltN c354)) Z Z na2 Z g) Z (GX.l2 Z (fJ jM Z (Hy.calls HS  h358) (fun _ wd359 ⟨h360,HS⟩=>⟨_,h360,?_⟩))))))⟩))))))⟩)))))
    refine GX.fin (HS.pk 7 [3,6] Z) (GX.ps 1 Z (GX.nil (rN 2 Z ?_)))
    rcases iE H with ⟨c361,H⟩|⟨c361,H⟩
    ·
     refine nB Z (nT c361) (rN 4 Z (gW (a2 b2 (lR _) _ _ _ _ _ _ H HS) Z))
    refine yB Z (nF c361) ?_
    obtain ⟨t362,t363,t364,t365,h366,H⟩:=Ii H
    obtain ⟨c367,H⟩:=iN H
    obtain ⟨c368,H⟩:=iN H
    obtain ⟨c369,H⟩:=iN H
    refine rG (pS 4 Z (GO.neg Z Z Z ?_))
    replace HS:=HS.pk 7 [0,3,4,5,1,2,6] Z
    refine fJ vO Z (Fq.calls HS (ro 0 Z) (ro 1 Z) h366) (fun _ wd370 ⟨h371,HS⟩=>⟨_,h371,(nL ?_)⟩)
    replace HS:=HS.G6 (j:=6) (cs':=[I c1,I a1,sV A_c t363 c_c]) Z (by simp only [sV,List.length_set,c367,c368,c369]<;>rfl)
    refine rN 3 Z (gW (a2 b2 (lR _) _ _ _ _ _ _ H (HS.pk 7 [0,4,5,1,2,3,6] Z)) Z)
   exact gW (k2 p1 (lR _) _ _ _ _ _ _ H HS) Z
  refine rG (mV Z (fL b1 0 Im Z (lB 6 HS Z na2 Z (pS 2 Z (kN 20 Z (tT c252) (oN Z (mV Z (bK (oN Z (GO.Ew Z Z Z (bK (oN Z (fL b_r 15 Mq Z (bK ?_))))))))))))))
  refine oN Z (lB 0 HS Z na4 Z (bK (oN Z (GO.not Z Z Z (bK (GO.Gq Z Z Z Z Z (nL ?_)))))))
  rcases iS H with ⟨c253,H⟩|⟨c253,H⟩
  ·
   refine yB Z (congrArg Bool.not (Cv c253)) (rN 4 Z ?_)
   obtain ⟨t258,h259,H⟩:=bI H
   obtain ⟨c260,H⟩:=iN H
   obtain ⟨t263,h264,H⟩:=bI H
   obtain ⟨c265,H⟩:=iN H
   obtain ⟨t268,h269,H⟩:=bI H
   refine G.Jk mixed (fun w=>St w0 w (Own (Ac .i64) 2 A_c c_c uu x127::Box b1 57 [I c1,I a1,sV A_c x127 c_c]::L)) [0,5,6,11] [1,2,7,8,0,6,3,4,5,9,10,11,12,13] [] (by kernel_rfl) (by kernel_rfl) (HS.drew.pk 7 [3,6] Z) ?_
   replace HS:=HS.drew
   refine GX.ps 4 Z (GX.ls Z Z Z (HS.pk 7 [3,6] Z) (fun _ HS _ g=>lW 1 HS Z Fx g) Z (GX.ls Z Z Z (HS.pk 7 [3,6] Z) (fun _ HS _ g=>lW 1 HS Z Fx g) Z (GX.l2 Z (fJ Lg Z (Bp.calls HS (ro 3 Z) h259) (fun _ wd261 ⟨h262,HS⟩=>⟨_,h262,(GX.fin (HS.pk 7 [3,6] Z) (qL Z Z (fun _ _ g=>GO.Ew Z Z Z g) Z (GX.ls Z Z Z (HS.pk 7 [3,6] Z) (fun _ HS _ g=>GO.C8 (T:=(Ac .i64)) (n:=t258.toNat) (o:=0) HS (ro 0 Z) Z Z (getD_some (d:=0) (ltN c260)) Z Z na2 Z g) Z (GX.l2 Z (fJ Lg Z (Bp.calls HS (ro 3 Z) h264) (fun _ wd266 ⟨h267,HS⟩=>⟨_,h267,(GX.fin (HS.pk 7 [3,6] Z) (qL Z Z (fun _ _ g=>GO.Ew Z Z Z g) Z (GX.ls Z Z Z (HS.pk 7 [3,6] Z) (fun _ HS _ g=>GO.C8 (T:=(Ac .i64)) (n:=t263.toNat) (o:=0) HS (ro 0 Z) Z Z (getD_some (d:=0) (ltN c265)) Z Z na2 Z g) Z (GX.l2 Z (fJ jM Z (Hy.calls HS  h269) (fun _ wd270 ⟨h271,HS⟩=>⟨_,h271,?_⟩))))))⟩))))))⟩)))))
   refine GX.fin (HS.pk 7 [3,6] Z) (GX.ps 1 Z (GX.nil (rN 2 Z ?_)))
   rcases iE H with ⟨c272,H⟩|⟨c272,H⟩
   ·
    refine nB Z (nT c272) (rN 4 Z (gW (d2 p1 (lR _) _ _ _ _ _ _ H HS) Z))
   refine yB Z (nF c272) ?_
   obtain ⟨t273,t274,t275,t276,h277,H⟩:=Ii H
   obtain ⟨c278,H⟩:=iN H
   obtain ⟨c279,H⟩:=iN H
   obtain ⟨c280,H⟩:=iN H
   refine rG (pS 4 Z (GO.neg Z Z Z ?_))
   replace HS:=HS.pk 7 [0,1,2,3,4,5,6] Z
   refine fJ kZ Z (En.calls HS (ro 0 Z) (ro 1 Z) h277) (fun _ wd281 ⟨h282,HS⟩=>⟨_,h282,(nL ?_)⟩)
   replace HS:=HS.G6 (j:=6) (cs':=[I c1,I a1,sV A_c t276 c_c]) Z (by simp only [sV,List.length_set,c278,c279,c280]<;>rfl)
   refine rN 3 Z (gW (d2 p1 (lR _) _ _ _ _ _ _ H HS) Z)
  refine nB Z (congrArg Bool.not c253) (rN 5 Z ?_)
  refine G.name (fun h2 i2=>?_)
  have g2:∀ c2,c2≤p1→∀ (w:World),Bf.l6 K c2 a1 o1 n1 k_ x125 x126 x127 x128=some (r1,r2,r3,r4,r5,r6)→St w0 w (Box b_r 168 [I f1,I e1,sV A_a x125 c_a,I d1,I h1,sV A_b x126 c_b,I c1,I a1,sV A_c x127 c_c,I g1,I k1,sV A_d o1 c_d,I m1,I i1,sV A_e n1 c_e,.bool x128]::Own (Ac .i64) 2 A_a c_a uu x125::Own (Ac .i64) 2 A_b c_b uu x126::Own (Ac .i64) 2 A_c c_c uu x127::Own (Ac .i64) 2 A_d c_d uu o1::Own (Ac .i64) 2 A_e c_e uu n1::Box b1 57 [I c1,I a1,sV A_c x127 c_c]::L)→G prog 191 86 [(0,pT b_r),(1,I k_),(4,pT b1),(7,I (w64 (k_+1)))] h2 w (Bf.post w0 L f1 e1 d1 h1 c1 a1 g1 k1 m1 i1 b_r A_a c_a A_b c_b A_c c_c A_d c_d A_e c_e r1 r2 r3 r4 r5 r6):=by
   refine lp (fun w H _=>by rw [Bf.l6] at H; cases H) fun p2 q2 t2 w H HS=>?_
   rw [Bf.l6] at H
   subst i2
   refine rN 2 Z ?_
   rcases iS H with ⟨c257,H⟩|⟨c257,H⟩
   ·
    refine rG (mV Z (fL b1 1 Gg Z (lB 6 HS Z na2 Z (pS 2 Z (kN 56 Z (tF c257) (oF Z (oF Z (oF Z (oF Z (oF Z (GO.Iw Z Z Z Z Z (nL (rN 2 Z ?_)))))))))))))
    obtain ⟨rfl,rfl,rfl,rfl,rfl,rfl⟩:=Oo H
    exact G.K6 func191 Z ⟨Z,(HS.pk 7 [0,1,2,3,4,5] Z)⟩
   refine rG (mV Z (fL b1 1 Gg Z (lB 6 HS Z na2 Z (pS 2 Z (kN 56 Z (tT c257) (oN Z (mV Z (bK (oN Z (GO.Ew Z Z Z (bK (oN Z (fL b_r 15 Mq Z (bK ?_))))))))))))))
   refine oN Z (lB 0 HS Z na4 Z (bK (oN Z (GO.not Z Z Z (bK (GO.Gq Z Z Z Z Z (nL (nB Z (congrArg Bool.not c253) (G.exit Z ?_)))))))))
   obtain ⟨rfl,rfl,rfl,rfl,rfl,rfl⟩:=Oo H
   exact G.K6 func191 Z ⟨Z,(HS.pk 7 [0,1,2,3,4,5] Z)⟩
  exact gW (g2 p1 (lR _)  _ H HS) Z
 exact gW (n2 K (lR _) _ _ _ _ _ _ H (HS.pk 7 [1,2,3,4,5,6,0] Z)) Z
theorem Gm.calls {x:Int} {r1:Bool} (HS:St w0 w (L)) (H:Gm.f x=some r1) :
  Calls prog 212 #[I x] w (Gm.post w0 L r1):=by
 unfold Gm.f at H
 refine cG func212 Z ?_
 refine rN 4 Z ?_
 obtain rfl:=sI H
 exact rT _ func212 Z Z ⟨Z,HS⟩
theorem Az.calls {s:List Int} {r1:Int} (HS:St w0 w (L)) (r_a:Bv w0 L (Ac .i64) A_a c_a uu s) (H:Az.f K s=some r1) :
   Calls prog 122 #[sV A_a s c_a,.func (.func 212) #[] #[]] w (Az.post w0 L r1):=by
 unfold Az.f at H
 refine cG func122 Z ?_
 refine rN 4 Z (rG (mV Z (lS Z Z U26 Z (mV Z (nL (rN 2 Z ?_))))))
 refine G.name (fun e1 c1=>?_)
 have d1:∀ a1,a1≤K→∀ (x8:Int) (w:World),Az.l1 K a1 s x8=some r1→St w0 w (L)→G prog 122 19 [(0,sV A_a s c_a),(1,.func (.func 212) #[] #[]),(7,I (s.length:Int)),(8,I x8)] e1 w (Az.post w0 L r1):=by
  refine lp (fun _ w H _=>by rw [Az.l1] at H; cases H) fun b1 g1 f1 x8 w H HS=>?_
  rw [Az.l1] at H
  subst c1
  refine rN 3 Z ?_
  rcases iS H with ⟨c16,H⟩|⟨c16,H⟩
  ·
   refine nB Z (tF c16) (rN 3 Z ?_)
   obtain rfl:=sI H
   exact rT _ func122 Z Z ⟨Z,HS⟩
  refine yB Z (tT c16) (rN 6 Z ?_)
  obtain ⟨c17,H⟩:=iN H
  obtain ⟨t18,h19,H⟩:=bI H
  refine rG (pS 3 Z (iX Z U26 sz2 (rk r_a HS) c17 (GO.C8 (T:=(Ac .i64)) (n:=x8.toNat) (o:=0) HS r_a Z Z (getD_some (d:=0) (ltN c17)) Z Z na2 Z (GO.clo Z Z func212 mF.2.1 mF.2.2 Z Z (Gm.calls HS  h19) (fun _ wd20 ⟨h21,HS⟩=>⟨_,h21,(nL ?_)⟩)))))
  rcases iE H with ⟨c22,H⟩|⟨c22,H⟩
  ·
   refine yB Z c22 (rN 2 Z ?_)
   obtain rfl:=sI H
   exact rT _ func122 Z Z ⟨Z,HS⟩
  refine nB Z (Cv c22) (rN 4 Z (gW (f1 b1 (lR _) _ _ H HS) Z))
 exact gW (d1 K (lR _) _ _ H HS) Z
theorem Cs.calls {s:List Int} {r1:Bool} (HS:St w0 w (L)) (r_a:Bv w0 L (Ac .i64) A_a c_a uu s) (H:Cs.f K s=some r1) :
  Calls prog 81 #[sV A_a s c_a,.func (.func 212) #[] #[]] w (Cs.post w0 L r1):=by
 unfold Cs.f at H
 refine cG func81 Z ?_
 refine rN 3 Z ?_
 obtain ⟨t1,h2,H⟩:=bI H
 refine rG (pS 2 Z (fJ Vb Z (Az.calls HS r_a h2) (fun _ wd3 ⟨h4,HS⟩=>⟨_,h4,(pS 2 Z (nL ?_))⟩)))
 obtain rfl:=sI H
 exact rT _ func81 Z Z ⟨Z,HS⟩
theorem Db.calls {m1 k1:Int} {f1:List Int} {i1 o1:Int} {h1:List Int} {c1 d1:Int} {a1:List Int} {n1 s1:Int} {g1:List Int} {t1 q1:Int} {e1:List Int} {p1:Bool} {k_:Int} {b_r:Nat} {r1:Bool} (HS:St w0 w (Box b_r 168 [I m1,I k1,sV A_a f1 c_a,I i1,I o1,sV A_b h1 c_b,I c1,I d1,sV A_c a1 c_c,I n1,I s1,sV A_d g1 c_d,I t1,I q1,sV A_e e1 c_e,.bool p1]::L)) (r_a:Bv w0 L (Ac .i64) A_a c_a uu f1) (r_b:Bv w0 L (Ac .i64) A_b c_b uu h1) (r_c:Bv w0 L (Ac .i64) A_c c_c uu a1) (r_d:Bv w0 L (Ac .i64) A_d c_d uu g1) (r_e:Bv w0 L (Ac .i64) A_e c_e uu e1) (H:Db.f K m1 k1 f1 i1 o1 h1 c1 d1 a1 n1 s1 g1 t1 q1 e1 p1 k_=some r1) :
   Calls prog 192 #[pT b_r,I k_] w (Db.post w0 L m1 k1 f1 i1 o1 h1 c1 d1 a1 n1 s1 g1 t1 q1 e1 p1 b_r A_a c_a A_b c_b A_c c_c A_d c_d A_e c_e r1):=by
 unfold Db.f at H
 refine cG func192 Z ?_
 refine rN 3 Z (rG (mV Z (GO.Ew Z Z Z (fL b_r 0 I9 Z (fL b_r 6 Ld Z (GO.Gc (j:=0) ([I c1,I d1,sV A_c a1 c_c]) HS Z Z Z Z Fx Z (GO.alloc HS Z R8 Z Z fun b1 wd2 HS=>sW 0 HS Z Fx Z fun wd3 HS=>nL (rN 5 Z ?_))))))))
 refine G.name (fun x1 z1=>?_)
 have a2:∀ v1,v1≤K→∀ (u1:Int) (w:World),Db.l1 K v1 c1 d1 a1 k_ u1=some r1→St w0 w (Box b_r 168 [I m1,I k1,sV A_a f1 c_a,I i1,I o1,sV A_b h1 c_b,I c1,I d1,sV A_c a1 c_c,I n1,I s1,sV A_d g1 c_d,I t1,I q1,sV A_e e1 c_e,.bool p1]::Box b1 57 [I c1,I d1,sV A_c a1 c_c]::L)→G prog 192 35 [(1,I k_),(5,pT b1),(6,I u1)] x1 w (Db.post w0 L m1 k1 f1 i1 o1 h1 c1 d1 a1 n1 s1 g1 t1 q1 e1 p1 b_r A_a c_a A_b c_b A_c c_c A_d c_d A_e c_e r1):=by
  refine lp (fun _ w H _=>by rw [Db.l1] at H; cases H) fun y1 c2 b2 u1 w H HS=>?_
  rw [Db.l1] at H
  subst z1
  refine rN 2 Z (rG (mV Z (fL b1 0 Im Z (lB 1 HS Z na2 Z (GO.lss Z Z Z Z (nL ?_))))))
  rcases iS H with ⟨c43,H⟩|⟨c43,H⟩
  ·
   refine nB Z (tF c43) (rN 2 Z ?_)
   obtain ⟨t50,t51,h52,H⟩:=Cx H
   obtain ⟨c53,H⟩:=iN H
   obtain ⟨c54,H⟩:=iN H
   obtain ⟨c57,H⟩:=iN H
   obtain ⟨t58,h59,H⟩:=bI H
   refine rG (lW 1 HS Z Fx (mV Z (fJ Yn Z (Gf.calls HS (rD 2 r_c) h52) (fun _ wd55 ⟨h56,HS⟩=>⟨_,h56,(pS 2 Z (GO.slL (T:=(Ac .i64)) HS (Bv.cut (rD 2 r_c) (Tg c53) (leN c54)) Z Z Z U26 sz2 c57.1 c57.2 Z (fJ kL Z (Cs.calls HS (Bv.nN (Bv.nN (rD 2 r_c) (Tg c53) (leN c54)) (leN c57) (lR _)) h59) (fun _ wd60 ⟨h61,HS⟩=>⟨_,h61,(pS 2 Z (nL ?_))⟩))))⟩))))
   obtain rfl:=sI H
   exact rT _ func192 Z Z ⟨Z,(HS.pk 2 [0] Z)⟩
  refine yB Z (tT c43) (rN 4 Z ?_)
  obtain ⟨t44,h45,H⟩:=bI H
  obtain ⟨c46,H⟩:=iN H
  refine rG (lW 1 HS Z Fx (pS 2 Z (fJ Lg Z (Bp.calls HS (rD 2 r_c) h45) (fun _ wd47 ⟨h48,HS⟩=>⟨_,h48,(GO.Ew Z Z Z (GO.C8 (T:=(Ac .i64)) (n:=t44.toNat) (o:=0) HS (rD 2 r_c) Z Z (getD_some (d:=0) (ltN c46)) Z Z na2 Z (GO.neq Z Z Z Z (nL ?_))))⟩))))
  rcases iS H with ⟨c49,H⟩|⟨c49,H⟩
  ·
   refine yB Z (nF c49) (rN 2 Z ?_)
   obtain rfl:=sI H
   exact rT _ func192 Z Z ⟨Z,(HS.pk 2 [0] Z)⟩
  refine nB Z (nT c49) (rN 4 Z (gW (b2 y1 (lR _) _ _ H HS) Z))
 exact gW (a2 K (lR _) _ _ H (HS.pk 2 [1,0] Z)) Z
theorem Eu.calls {x c1 e1:Int} {a1:List Int} {b1:Int} {f1:Nat} {A_a:Option Addr} {c_a d1:Nat} {r1:Bool} (HS:St w0 w (Box f1 57 [I c1,I e1,sV A_a a1 c_a]::Box d1 2 [I b1]::L)) (r_a:Bv w0 L (Ac .i64) A_a c_a uu a1) (H:Eu.f x c1 e1 a1 b1=some r1) :
  Calls prog 213 #[I x,pT f1,pT d1] w (Eu.post w0 L c1 e1 a1 b1 f1 A_a c_a d1 r1):=by
 unfold Eu.f at H
 refine cG func213 Z ?_
 refine rN 3 Z ?_
 obtain ⟨t1,h2,H⟩:=bI H
 obtain ⟨c3,H⟩:=iN H
 obtain ⟨c6,H⟩:=Ll H
 refine rG (mV Z (lW 0 HS Z Fx (lB 1 HS Z na2 Z (lB 1 HS Z na2 Z (fJ Lg Z (Bp.calls HS (rD 2 r_a) h2) (fun _ wd4 ⟨h5,HS⟩=>⟨_,h5,(GO.Ew Z Z Z (GO.C8 (T:=(Ac .i64)) (n:=t1.toNat) (o:=0) HS (rD 2 r_a) Z Z (getD_some (d:=0) (ltN c3)) Z Z na2 Z (GO.rem Z Z Z c6 Z (pS 2 Z (nL ?_)))))⟩))))))
 obtain rfl:=sI H
 exact rT _ func213 Z Z ⟨Z,HS⟩
theorem Av.calls {s:List Int} {f1 d1:Int} {a1:List Int} {b1:Int} {A_a:Option Addr} {c_a e1:Nat} {A_b:Option Addr} {c_b c1:Nat} {r1:Int} (HS:St w0 w (Box e1 57 [I f1,I d1,sV A_b a1 c_b]::Box c1 2 [I b1]::L)) (r_a:Bv w0 L (Ac .i64) A_a c_a uu s) (r_b:Bv w0 L (Ac .i64) A_b c_b uu a1) (H:Av.f K s f1 d1 a1 b1=some r1) :
   Calls prog 122 #[sV A_a s c_a,.func (.func 213) #[] #[pT e1,pT c1]] w (Av.post w0 L f1 d1 a1 b1 e1 A_b c_b c1 r1):=by
 unfold Av.f at H
 refine cG func122 Z ?_
 refine rN 4 Z (rG (mV Z (lS Z Z U26 Z (mV Z (nL (rN 2 Z ?_))))))
 refine G.name (fun m1 i1=>?_)
 have k1:∀ g1,g1≤K→∀ (x8:Int) (w:World),Av.l1 K g1 s f1 d1 a1 b1 x8=some r1→St w0 w (Box e1 57 [I f1,I d1,sV A_b a1 c_b]::Box c1 2 [I b1]::L)→G prog 122 19 [(0,sV A_a s c_a),(1,.func (.func 213) #[] #[pT e1,pT c1]),(7,I (s.length:Int)),(8,I x8)] m1 w (Av.post w0 L f1 d1 a1 b1 e1 A_b c_b c1 r1):=by
  refine lp (fun _ w H _=>by rw [Av.l1] at H; cases H) fun h1 o1 n1 x8 w H HS=>?_
  rw [Av.l1] at H
  subst i1
  refine rN 3 Z ?_
  rcases iS H with ⟨c16,H⟩|⟨c16,H⟩
  ·
   refine nB Z (tF c16) (rN 3 Z ?_)
   obtain rfl:=sI H
   exact rT _ func122 Z Z ⟨Z,HS⟩
  refine yB Z (tT c16) (rN 6 Z ?_)
  obtain ⟨c17,H⟩:=iN H
  obtain ⟨t18,h19,H⟩:=bI H
  refine rG (pS 3 Z (iX Z U26 sz2 (rk (rD 2 r_a) HS) c17 (GO.C8 (T:=(Ac .i64)) (n:=x8.toNat) (o:=0) HS (rD 2 r_a) Z Z (getD_some (d:=0) (ltN c17)) Z Z na2 Z ?_)))
  replace HS:=HS.pk 2 [0,1] Z
  refine GO.clo Z Z func213 iZ.2.1 iZ.2.2 Z Z (Eu.calls HS r_b h19) (fun _ wd20 ⟨h21,HS⟩=>⟨_,h21,(nL ?_)⟩)
  rcases iE H with ⟨c22,H⟩|⟨c22,H⟩
  ·
   refine yB Z c22 (rN 2 Z ?_)
   obtain rfl:=sI H
   exact rT _ func122 Z Z ⟨Z,HS⟩
  refine nB Z (Cv c22) (rN 4 Z (gW (n1 h1 (lR _) _ _ H HS) Z))
 exact gW (k1 K (lR _) _ _ H HS) Z
theorem Ck.calls {s:List Int} {f1 d1:Int} {a1:List Int} {b1:Int} {A_a:Option Addr} {c_a e1:Nat} {A_b:Option Addr} {c_b c1:Nat} {r1:Bool} (HS:St w0 w (Box e1 57 [I f1,I d1,sV A_b a1 c_b]::Box c1 2 [I b1]::L)) (r_a:Bv w0 L (Ac .i64) A_a c_a uu s) (r_b:Bv w0 L (Ac .i64) A_b c_b uu a1) (H:Ck.f K s f1 d1 a1 b1=some r1) :
  Calls prog 81 #[sV A_a s c_a,.func (.func 213) #[] #[pT e1,pT c1]] w (Ck.post w0 L f1 d1 a1 b1 e1 A_b c_b c1 r1):=by
 unfold Ck.f at H
 refine cG func81 Z ?_
 refine rN 3 Z ?_
 obtain ⟨t1,h2,H⟩:=bI H
 refine rG (pS 2 Z ?_)
 replace HS:=HS.pk 2 [0,1] Z
 refine fJ Vb Z (Av.calls HS r_a r_b h2) (fun _ wd3 ⟨h4,HS⟩=>⟨_,h4,(pS 2 Z (nL ?_))⟩)
 obtain rfl:=sI H
 exact rT _ func81 Z Z ⟨Z,HS⟩
theorem Cr.calls {m1 k1:Int} {f1:List Int} {i1 o1:Int} {h1:List Int} {c1 d1:Int} {a1:List Int} {n1 s1:Int} {g1:List Int} {t1 q1:Int} {e1:List Int} {p1:Bool} {k_:Int} {b_r:Nat} {r1:Int} (HS:St w0 w (Box b_r 168 [I m1,I k1,sV A_a f1 c_a,I i1,I o1,sV A_b h1 c_b,I c1,I d1,sV A_c a1 c_c,I n1,I s1,sV A_d g1 c_d,I t1,I q1,sV A_e e1 c_e,.bool p1]::L)) (r_a:Bv w0 L (Ac .i64) A_a c_a uu f1) (r_b:Bv w0 L (Ac .i64) A_b c_b uu h1) (r_c:Bv w0 L (Ac .i64) A_c c_c uu a1) (r_d:Bv w0 L (Ac .i64) A_d c_d uu g1) (r_e:Bv w0 L (Ac .i64) A_e c_e uu e1) (H:Cr.f K m1 k1 f1 i1 o1 h1 c1 d1 a1 n1 s1 g1 t1 q1 e1 p1 k_=some r1) :
   Calls prog 193 #[pT b_r,I k_] w (Cr.post w0 L m1 k1 f1 i1 o1 h1 c1 d1 a1 n1 s1 g1 t1 q1 e1 p1 b_r A_a c_a A_b c_b A_c c_c A_d c_d A_e c_e r1):=by
 unfold Cr.f at H
 refine cG func193 Z ?_
 refine sQ (rG (GO.box (cs:=[I k_]) HS Z Z Z Z fun b1 wd2 HS=>aS Z (nL (sQ (rG (mV Z (GO.Ew Z Z Z (fL b_r 0 I9 Z (fL b_r 6 Ld Z (GO.Gc (j:=1) ([I c1,I d1,sV A_c a1 c_c]) HS Z Z Z Z Fx Z (GO.alloc HS Z R8 Z Z fun b3 wd4 HS=>sW 0 HS Z Fx Z fun wd5 HS=>nL ?_)))))))))))
 refine rN 2 Z (rG (lB 1 HS Z na2 Z (pS 2 Z (nL (rN 2 Z ?_)))))
 refine G.name (fun x1 z1=>?_)
 have a2:∀ v1,v1≤K→∀ (u1:Int) (w:World),Cr.l1 K v1 c1 d1 a1 k_ u1=some r1→St w0 w (Box b_r 168 [I m1,I k1,sV A_a f1 c_a,I i1,I o1,sV A_b h1 c_b,I c1,I d1,sV A_c a1 c_c,I n1,I s1,sV A_d g1 c_d,I t1,I q1,sV A_e e1 c_e,.bool p1]::Box b1 2 [I k_]::Box b3 57 [I c1,I d1,sV A_c a1 c_c]::L)→G prog 193 29 [(3,pT b1),(5,pT b3),(6,I u1)] x1 w (Cr.post w0 L m1 k1 f1 i1 o1 h1 c1 d1 a1 n1 s1 g1 t1 q1 e1 p1 b_r A_a c_a A_b c_b A_c c_c A_d c_d A_e c_e r1):=by
  refine lp (fun _ w H _=>by rw [Cr.l1] at H; cases H) fun y1 c2 b2 u1 w H HS=>?_
  rw [Cr.l1] at H
  subst z1
  refine rN 2 Z (rG (mV Z (fL b3 0 Im Z (lB 2 HS Z na2 Z (GO.lss Z Z Z Z (nL ?_))))))
  rcases iS H with ⟨c35,H⟩|⟨c35,H⟩
  ·
   refine nB Z (tF c35) (rN 3 Z ?_)
   obtain rfl:=sI H
   exact rT _ func193 Z Z ⟨Z,(HS.pk 3 [0] Z)⟩
  refine yB Z (tT c35) (rN 4 Z ?_)
  obtain ⟨t36,t37,h38,H⟩:=Cx H
  obtain ⟨c39,H⟩:=iN H
  obtain ⟨c40,H⟩:=iN H
  obtain ⟨c43,H⟩:=iN H
  obtain ⟨t44,h45,H⟩:=bI H
  refine G.Jk mixed (fun w=>St w0 w (Box b1 2 [I k_]::Box b3 57 [I c1,I d1,sV A_c a1 c_c]::L)) [0,3,5] [1,6,0,3,4,2,5,7] [] (by kernel_rfl) (by kernel_rfl) (HS.drew.pk 3 [1,2] Z) ?_
  replace HS:=HS.drew
  refine GX.ps 1 Z (qL Z Z (fun _ _ g=>GO.U9 Z Z Z Z g) Z (GX.ls Z Z Z (HS.pk 3 [1,2] Z) (fun _ HS _ g=>lW 1 HS Z Fx g) Z (GX.ls Z Z Z (HS.pk 3 [1,2] Z) (fun _ HS _ g=>lB 0 HS Z na2 Z g) Z (GX.ps 1 Z (GX.l2 Z (fJ Yn Z (Gf.calls HS (rD 3 r_c) h38) (fun _ wd41 ⟨h42,HS⟩=>⟨_,h42,(GX.fin (HS.pk 3 [1,2] Z) (GX.ls Z Z Z (HS.pk 3 [1,2] Z) (fun _ HS _ g=>GO.slL (T:=(Ac .i64)) HS (Bv.cut (rD 2 r_c) (Tg c39) (leN c40)) Z Z Z U26 sz2 c43.1 c43.2 Z g) Z (GX.l2 Z ?_)))⟩)))))))
  replace HS:=HS.pk 3 [2,1,0] Z
  refine fJ kL Z (Ck.calls HS (Bv.nN (Bv.nN (rD 1 r_c) (Tg c39) (leN c40)) (leN c43) (lR _)) (rD 1 r_c) h45) (fun _ wd46 ⟨h47,HS⟩=>⟨_,h47,(GX.fin (HS.pk 3 [1,0] Z) (GX.nil ?_))⟩)
  rcases iE H with ⟨c48,H⟩|⟨c48,H⟩
  ·
   refine yB Z c48 (rN 2 Z ?_)
   obtain rfl:=sI H
   exact rT _ func193 Z Z ⟨Z,(HS.pk 3 [2] Z)⟩
  refine nB Z (Cv c48) (rN 4 Z (gW (b2 y1 (lR _) _ _ H (HS.pk 3 [2,1,0] Z)) Z))
 exact gW (a2 K (lR _) _ _ H (HS.pk 3 [2,1,0] Z)) Z
theorem D6.calls {e1 b1:Int} {p1:List Int} {a1 g1:Int} {u1:List Int} {c1 d1:Int} {t1:List Int} {f1 i1:Int} {s1:List Int} {k1 h1:Int} {o1:List Int} {v1:Bool} {b_r:Nat} {r1:Bool} {r2 r3:List Int} {r4 r5 r6:List Int} (HS:St w0 w (Box b_r 168 [I e1,I b1,sV A_a p1 c_a,I a1,I g1,sV A_b u1 c_b,I c1,I d1,sV A_c t1 c_c,I f1,I i1,sV A_d s1 c_d,I k1,I h1,sV A_e o1 c_e,.bool v1]::Own (Ac .i64) 2 A_a c_a uu p1::Own (Ac .i64) 2 A_b c_b uu u1::Own (Ac .i64) 2 A_c c_c uu t1::Own (Ac .i64) 2 A_d c_d uu s1::Own (Ac .i64) 2 A_e c_e uu o1::L)) (H:D6.f K e1 b1 p1 a1 g1 u1 c1 d1 t1 f1 i1 s1 k1 h1 o1 v1=some (r1,r2,r3,r4,r5,r6)) :
   Calls prog 164 #[pT b_r] w (D6.post w0 L e1 b1 a1 g1 c1 d1 f1 i1 k1 h1 b_r A_a c_a A_b c_b A_c c_c A_d c_d A_e c_e r1 r2 r3 r4 r5 r6):=by
 unfold D6.f at H
 refine cG func164 Z ?_
 refine rN 4 Z ?_
 refine G.name (fun y1 z1=>?_)
 have a2:∀ x1,x1≤K→∀ (x59 x60:List Int) (x61 x62 x63:List Int) (x64:Bool) (q1:Int) (w:World),D6.l1 K x1 e1 b1 a1 g1 c1 d1 f1 i1 k1 h1 x59 x60 x61 x62 x63 x64 q1=some (r1,r2,r3,r4,r5,r6)→St w0 w (Box b_r 168 [I e1,I b1,sV A_a x59 c_a,I a1,I g1,sV A_b x60 c_b,I c1,I d1,sV A_c x61 c_c,I f1,I i1,sV A_d x62 c_d,I k1,I h1,sV A_e x63 c_e,.bool x64]::Own (Ac .i64) 2 A_a c_a uu x59::Own (Ac .i64) 2 A_b c_b uu x60::Own (Ac .i64) 2 A_c c_c uu x61::Own (Ac .i64) 2 A_d c_d uu x62::Own (Ac .i64) 2 A_e c_e uu x63::L)→G prog 164 54 [(0,pT b_r),(2,I q1)] y1 w (D6.post w0 L e1 b1 a1 g1 c1 d1 f1 i1 k1 h1 b_r A_a c_a A_b c_b A_c c_c A_d c_d A_e c_e r1 r2 r3 r4 r5 r6):=by
  refine lp (fun _ _ _ _ _ _ _ w H _=>by rw [D6.l1] at H; cases H) fun m1 b2 n1 x59 x60 x61 x62 x63 x64 q1 w H HS=>?_
  rw [D6.l1] at H
  subst z1
  refine rN 2 Z ?_
  rcases iE H with ⟨c125,H⟩|⟨c125,H⟩
  ·
   refine G.lex mixed [0,1,2,3,4,5,6,7,8,9,10,11,13,14,15,16,17,12,18,19,20,21] (by kernel_rfl) ?_
   replace HS:=HS.drew
   refine GX.ps 1 Z (qL Z Z (fun _ _ g=>GO.Ew Z Z Z g) Z (qL Z Z (fun _ _ g=>fL b_r 15 Mq Z g) Z (GX.l1 Z Z Z (fun _ g=>lB 0 HS Z na4 Z g) Z (GX.ps 1 Z (qL Z Z (fun _ _ g=>mV Z (kN 9 Z (congrArg Bool.not c125) g)) Z (qL Z Z (fun _ _ g=>oF Z g) Z (qL Z Z (fun _ _ g=>oF Z g) Z (qL Z Z (fun _ _ g=>oF Z g) Z (qL Z Z (fun _ _ g=>oF Z g) Z (qL Z Z (fun _ _ g=>oF Z g) Z (qL Z Z (fun _ _ g=>oF Z g) Z (qL Z Z (fun _ _ g=>oF Z g) Z (qL Z Z (fun _ _ g=>oF Z g) Z (qL Z Z (fun _ _ g=>oF Z g) Z ?_))))))))))))))
   refine qL Z Z (fun _ _ g=>oF Z g) Z (qL Z Z (fun _ _ g=>oF Z g) Z (GX.l1 Z Z Z (fun _ g=>oF Z g) Z (GX.l1 Z Z Z (fun _ g=>oF Z g) Z (GX.l1 Z Z Z (fun _ g=>oF Z g) Z (qL Z Z (fun _ _ g=>oF Z g) Z (GX.ps 1 Z (GX.nil (rN 2 Z ?_))))))))
   obtain ⟨rfl,rfl,rfl,rfl,rfl,rfl⟩:=Oo H
   exact G.K6 func164 Z ⟨Z,HS⟩
  refine G.lex mixed [0,1,2,3,4,5,6,7,8,9,10,11,13,14,15,16,17,12,18,19,20,21] (by kernel_rfl) ?_
  replace HS:=HS.drew
  refine GX.ps 1 Z (qL Z Z (fun _ _ g=>GO.Ew Z Z Z g) Z (qL Z Z (fun _ _ g=>fL b_r 15 Mq Z g) Z (GX.l1 Z Z Z (fun _ g=>lB 0 HS Z na4 Z g) Z (GX.ps 1 Z (qL Z Z (fun _ _ g=>mV Z (kN 9 Z (congrArg Bool.not (Cv c125)) g)) Z (qL Z Z (fun _ _ g=>oN Z (mV Z (bK g))) Z (qL Z Z (fun _ _ g=>oN Z (mV Z (bK g))) Z (qL Z Z (fun _ _ g=>oN Z (GO.Ew Z Z Z (bK g))) Z (qL Z Z (fun _ _ g=>oN Z (fL b_r 0 I9 Z (bK g))) Z (qL Z Z (fun _ _ g=>oN Z (fL b_r 6 Ld Z (bK g))) Z (qL Z Z (fun _ _ g=>oN Z (fL b_r 6 Im Z (bK g))) Z (qL Z Z (fun _ _ g=>oN Z (mV Z (bK g))) Z (qL Z Z (fun _ _ g=>oN Z (GO.Ew Z Z Z (bK g))) Z (qL Z Z (fun _ _ g=>oN Z (fL b_r 0 I9 Z (bK g))) Z ?_))))))))))))))
  refine qL Z Z (fun _ _ g=>oN Z (fL b_r 6 Ld Z (bK g))) Z (qL Z Z (fun _ _ g=>oN Z (fL b_r 7 Gg Z (bK g))) Z (GX.l1 Z Z Z (fun _ g=>oN Z (lB 0 HS Z na2 Z (bK g))) Z (GX.l1 Z Z Z (fun _ g=>oN Z (lB 0 HS Z na2 Z (bK g))) Z (GX.l1 Z Z Z (fun _ g=>oN Z (GO.min2 Z Z Z Z (bK g))) Z (qL Z Z (fun _ _ g=>oN Z (GO.lss Z Z Z Z (bK g))) Z (GX.ps 1 Z (GX.nil ?_)))))))
  rcases iS H with ⟨c126,H⟩|⟨c126,H⟩
  ·
   refine nB Z (tF c126) (G.exit Z ?_)
   obtain ⟨rfl,rfl,rfl,rfl,rfl,rfl⟩:=Oo H
   exact G.K6 func164 Z ⟨Z,HS⟩
  refine yB Z (tT c126) (rN 4 Z ?_)
  obtain ⟨t127,t128,t129,t130,t131,t132,h133,H⟩:=Ou H
  obtain ⟨c134,H⟩:=iN H
  obtain ⟨c135,H⟩:=iN H
  obtain ⟨c136,H⟩:=iN H
  obtain ⟨c137,H⟩:=iN H
  obtain ⟨c138,H⟩:=iN H
  refine rG (pS 2 Z ?_)
  replace HS:=HS.pk 6 [0,1,2,3,4,5] Z
  refine fJ wM Z (Bg.calls HS  h133) (fun _ wd139 ⟨h140,HS⟩=>⟨_,h140,(GO.not Z Z Z (nL ?_))⟩)
  rcases iS H with ⟨c141,H⟩|⟨c141,H⟩
  ·
   refine yB Z (congrArg Bool.not (Cv c141)) ?_
   obtain ⟨rfl,rfl,rfl,rfl,rfl,rfl⟩:=Oo H
   exact G.yZ func164 Z ⟨Z,HS⟩
  refine nB Z (congrArg Bool.not c141) (rN 2 Z ?_)
  obtain ⟨t142,t143,t144,t145,t146,t147,h148,H⟩:=Ou H
  obtain ⟨c149,H⟩:=iN H
  obtain ⟨c150,H⟩:=iN H
  obtain ⟨c151,H⟩:=iN H
  obtain ⟨c152,H⟩:=iN H
  obtain ⟨c153,H⟩:=iN H
  refine rG (pS 2 Z ?_)
  replace HS:=HS.pk 6 [0,1,2,3,4,5] Z
  refine fJ vG Z (Bf.calls HS  h148) (fun _ wd154 ⟨h155,HS⟩=>⟨_,h155,(nL (rN 2 Z ?_))⟩)
  rcases iE H with ⟨c161,H⟩|⟨c161,H⟩
  ·
   refine rG (mV Z (GO.Ew Z Z Z (fL b_r 15 Mq Z (lB 0 HS Z na4 Z (mV Z (kN 37 Z c161 (oF Z (oF Z (oF Z (oF Z (GO.Gq Z Z Z Z Z (nL (rN 3 Z (gW (n1 m1 (lR _) _ _ _ _ _ _ _ _ H HS) Z))))))))))))))
  obtain ⟨t162,h163,H⟩:=bI H
  refine rG (mV Z (GO.Ew Z Z Z (fL b_r 15 Mq Z (lB 0 HS Z na4 Z (mV Z (kN 37 Z (Cv c161) (oN Z (mV Z (bK (oN Z (mV Z (bK (oN Z ?_)))))))))))))
  replace HS:=HS.pk 6 [0,1,2,3,4,5] Z
  refine fJ vT Z (Db.calls HS (ro 0 Z) (ro 1 Z) (ro 2 Z) (ro 3 Z) (ro 4 Z) h163) (fun _ wd164 ⟨h165,HS⟩=>⟨_,h165,(bK (oN Z (GO.not Z Z Z (bK (GO.Iw Z Z Z Z Z (nL ?_))))))⟩)
  rcases iS H with ⟨c166,H⟩|⟨c166,H⟩
  ·
   refine yB Z (congrArg Bool.not (Cv c166)) (rN 2 Z (gW (n1 m1 (lR _) _ _ _ _ _ _ _ _ H HS) Z))
  refine nB Z (congrArg Bool.not c166) (rN 2 Z ?_)
  obtain ⟨t167,h168,H⟩:=bI H
  refine rG (pS 2 Z ?_)
  replace HS:=HS.pk 6 [0,1,2,3,4,5] Z
  refine fJ rX Z (Cr.calls HS (ro 0 Z) (ro 1 Z) (ro 2 Z) (ro 3 Z) (ro 4 Z) h168) (fun _ wd169 ⟨h170,HS⟩=>⟨_,h170,(aS Z (nL (rN 2 Z ?_)))⟩)
  rcases iS H with ⟨c171,H⟩|⟨c171,H⟩
  ·
   refine nB Z (tF c171) (rN 3 Z (gW (n1 m1 (lR _) _ _ _ _ _ _ _ _ H HS) Z))
  refine yB Z (tT c171) ?_
  obtain ⟨t172,t173,t174,t175,h176,H⟩:=Ii H
  obtain ⟨c177,H⟩:=iN H
  obtain ⟨c178,H⟩:=iN H
  obtain ⟨c179,H⟩:=iN H
  refine rG (pS 3 Z ?_)
  replace HS:=HS.pk 6 [0,1,2,3,4,5] Z
  refine fJ kZ Z (En.calls HS (ro 0 Z) (ro 1 Z) h176) (fun _ wd180 ⟨h181,HS⟩=>⟨_,h181,(nL (rN 2 Z (gW (n1 m1 (lR _) _ _ _ _ _ _ _ _ H HS) Z)))⟩)
 exact gW (a2 K (lR _) _ _ _ _ _ _ _ _ H HS) Z
theorem Kz.calls {c1 d1:Int} {a1:List Int} {r1 r2:Int} {r3:List Int} {r4 r5:Int} {r6:List Int} {r7 r8:Int} {r9:List Int} {r10 r11:Int} {r12:List Int} {r13 r14:Int} {r15:List Int} {r16:Int} (HS:St w0 w (L)) (r_a:Bv w0 L (Ac .i64) A_a c_a uu a1) (H:Kz.f K c1 d1 a1=some (r1,r2,r3,r4,r5,r6,r7,r8,r9,r10,r11,r12,r13,r14,r15,r16)) :
   Calls prog 123 #[.agg [I c1,I d1,sV A_a a1 c_a].toArray] w (Kz.post w0 L r1 r2 r3 r4 r5 r6 r7 r8 r9 r10 r11 r12 r13 r14 r15 r16):=by
 unfold Kz.f at H
 refine cG func123 Z ?_
 refine sQ (rG (bA HS Z fun b1 wd2 HS=>GO.alloc HS Z qU Z Z fun b3 wd4 HS=>aS Z (nL (sQ ?_))))
 obtain ⟨t5,t6,t7,t8,t9,t10,t11,t12,t13,t14,t15,t16,t17,t18,t19,t20,h21,H⟩:=Pg H
 refine rG (lW 1 HS Z Fx (fJ vL Z (Ja.calls HS (rD 2 r_a) h21) (fun _ wd33 ⟨b22,A23,c24,A25,c26,A27,c28,A29,c30,A31,c32,h34,HS⟩=>⟨_,h34,(aS Z (nL (sQ ?_)))⟩)))
 obtain ⟨t35,t36,t37,t38,t39,t40,h41,H⟩:=Ou H
 obtain ⟨c42,H⟩:=iN H
 obtain ⟨c43,H⟩:=iN H
 obtain ⟨c44,H⟩:=iN H
 obtain ⟨c45,H⟩:=iN H
 obtain ⟨c46,H⟩:=iN H
 refine rG (mV Z ?_)
 replace HS:=HS.pk 8 [0,1,2,3,4,5,6,7] Z
 refine fJ wJ Z (D6.calls HS  h41) (fun _ wd47 ⟨h48,HS⟩=>⟨_,h48,(nL (rN 2 Z (rG (mV Z (GO.Ew Z Z Z (fL b22 15 Mq Z (lB 0 HS Z na4 Z (nL ?_))))))))⟩)
 rcases iE H with ⟨c49,H⟩|⟨c49,H⟩
 ·
  refine yB Z c49 (sQ (rG (GO.Je (.agg [I 0,I 0,.slice none 0 0,I 0,I 0,.slice none 0 0,I 0,I 0,.slice none 0 0,I 0,I 0,.slice none 0 0,I 0,I 0,.slice none 0 0].toArray) Z Z (fun _=>by kernel_rfl) Z (sW 6 HS Z Wm Z fun wd50 HS=>aS Z (nL ?_)))))
  replace HS:=HS.Jz (Ac .i64) 2 uu
  replace HS:=HS.Jz (Ac .i64) 2 uu
  replace HS:=HS.Jz (Ac .i64) 2 uu
  replace HS:=HS.Jz (Ac .i64) 2 uu
  replace HS:=HS.Jz (Ac .i64) 2 uu
  obtain ⟨rfl,rfl,rfl,rfl,rfl,rfl,rfl,rfl,rfl,rfl,rfl,rfl,rfl,rfl,rfl,rfl⟩:=Pz H
  exact G.Jr _ _ func123 Z (Kc.Lh (j:=11) (vs:=[I 0,I 0,.slice none 0 0,I 0,I 0,.slice none 0 0,I 0,I 0,.slice none 0 0,I 0,I 0,.slice none 0 0,I 0,I 0,.slice none 0 0]) HS Z Z Z Wm) Z ⟨_,_,_,_,_,_,_,_,_,_,Z,(HS.pk 13 [4,3,2,1,0] Z)⟩
 refine nB Z (Cv c49) (rN 2 Z (rG (mV Z (GO.Ew Z Z Z (fL b22 0 I9 Z (GO.Gc (j:=0) ([I t5,I t6,sV A23 t36 c24,I t8,I t9,sV A25 t37 c26,I t11,I t12,sV A27 t38 c28,I t14,I t15,sV A29 t39 c30,I t17,I t18,sV A31 t40 c32]) HS Z Z Z Z Wm Z (sW 6 HS Z Wm Z fun wd51 HS=>aS Z (nL ?_))))))))
 obtain ⟨rfl,rfl,rfl,rfl,rfl,rfl,rfl,rfl,rfl,rfl,rfl,rfl,rfl,rfl,rfl,rfl⟩:=Pz H
 exact G.Jr _ _ func123 Z (Kc.Lh (j:=6) (vs:=[I t5,I t6,sV A23 t36 c24,I t8,I t9,sV A25 t37 c26,I t11,I t12,sV A27 t38 c28,I t14,I t15,sV A29 t39 c30,I t17,I t18,sV A31 t40 c32]) HS Z Z Z Wm) Z ⟨_,_,_,_,_,_,_,_,_,_,Z,(HS.pk 8 [1,2,3,4,5] Z)⟩
theorem Fs.calls {a1 c1:Int} {e1:List Int} {r1:List Int} {r2:Int} (HS:St w0 w (L)) (r_a:Bv w0 L (Ac .i64) A_a c_a uu e1) (H:Fs.f K a1 c1 e1=some (r1,r2)) :
   Calls prog 83 #[.agg [I a1,I c1,sV A_a e1 c_a].toArray] w (Fs.post w0 L r1 r2):=by
 unfold Fs.f at H
 refine cG func83 Z ?_
 refine sQ (rG (bA HS Z fun b1 wd2 HS=>pS 2 Z (nL (sQ ?_))))
 obtain ⟨t3,t4,t5,t6,t7,t8,t9,t10,t11,t12,t13,t14,t15,t16,t17,t18,h19,H⟩:=Pg H
 refine rG (lW 0 HS Z Fx (fJ wQ Z (Kz.calls HS (rD 1 r_a) h19) (fun _ wd30 ⟨A20,c21,A22,c23,A24,c25,A26,c27,A28,c29,h31,HS⟩=>⟨_,h31,(pS 3 Z (GO.alloc HS Z qU Z Z fun b32 wd33 HS=>sW 0 HS Z Wm Z fun wd34 HS=>aS Z (nL (rN 3 Z ?_))))⟩)))
 rcases iS H with ⟨c35,H⟩|⟨c35,H⟩
 ·
  refine yB Z (nF c35) (rN 2 Z ?_)
  replace HS:=HS.Jz (Ac .i64) 2 uu
  obtain ⟨rfl,rfl⟩:=H8 H
  exact G.Jr _ _ func83 Z Z Z ⟨_,_,Z,(HS.pk 8 [0] Z)⟩
 refine nB Z (nT c35) (rN 5 Z (rG (fL b1 0 Im Z (lB 6 HS Z na2 Z (fL b1 1 Gg Z (lB 6 HS Z na2 Z (GO.min2 Z Z Z Z (mV Z (nL (rN 2 Z ?_))))))))))
 refine G.name (fun m1 i1=>?_)
 have k1:∀ g1,g1≤K→∀ (A49:Option Addr) (c50:Nat) (d1:List Int) (x52:Int) (w:World),Fs.l1 K g1 a1 c1 t9 t10 t11 d1 x52=some (r1,r2)→St w0 w (Box b32 138 [I t3,I t4,sV A20 t5 c21,I t6,I t7,sV A22 t8 c23,I t9,I t10,sV A24 t11 c25,I t12,I t13,sV A26 t14 c27,I t15,I t16,sV A28 t17 c29]::Own (Ac .i64) 2 A20 c21 uu t5::Own (Ac .i64) 2 A22 c23 uu t8::Own (Ac .i64) 2 A24 c25 uu t11::Own (Ac .i64) 2 A26 c27 uu t14::Own (Ac .i64) 2 A28 c29 uu t17::Own (Ac .i64) 2 A49 c50 uu d1::L)→G prog 83 40 [(4,pT b32),(6,sV A49 d1 c50),(21,I (if c1<a1 then c1 else a1)),(22,I x52)] m1 w (Fs.post w0 L r1 r2):=by
  refine lp (fun _ _ _ _ w H _=>by rw [Fs.l1] at H; cases H) fun f1 n1 h1 A49 c50 d1 x52 w H HS=>?_
  rw [Fs.l1] at H
  subst i1
  refine rN 3 Z ?_
  rcases iS H with ⟨c66,H⟩|⟨c66,H⟩
  ·
   refine nB Z (tF c66) (rN 3 Z ?_)
   obtain ⟨rfl,rfl⟩:=H8 H
   exact G.Jr _ _ func83 Z Z Z ⟨_,_,Z,(HS.pk 7 [6] Z)⟩
  refine yB Z (tT c66) (rN 6 Z ?_)
  obtain ⟨t67,h68,H⟩:=bI H
  obtain ⟨c69,H⟩:=iN H
  refine rG (fL b32 6 Ld Z (GO.Gc (j:=0) ([I t9,I t10,sV A24 t11 c25]) HS Z Z Z Z Fx Z (pS 2 Z (fJ Lg Z (Bp.calls HS (ro 3 Z) h68) (fun _ wd70 ⟨h71,HS⟩=>⟨_,h71,(GO.Ew Z Z Z (GO.C8 (T:=(Ac .i64)) (n:=t67.toNat) (o:=0) HS (ro 3 Z) Z Z (getD_some (d:=0) (ltN c69)) Z Z na2 Z (aS Z (nL (rN 2 Z ?_)))))⟩)))))
  rcases iE H with ⟨c72,H⟩|⟨c72,H⟩
  ·
   refine nB Z (nT c72) (rN 4 Z (gW (h1 f1 (lR _) _ _ _ _ _ H HS) Z))
  refine yB Z (nF c72) ?_
  obtain ⟨c78,H⟩:=iN H
  refine rG (pS 2 Z (GO.D8 (el:=2) ([I (t11.getD t67.toNat 0)]) HS Z Z (fun _=>by kernel_rfl) Z fun b73 wd74 HS=>GO.app1 (T:=(Ac .i64)) (j:=7) (jb:=0) (t11.getD t67.toNat 0) HS Z Z Ao Z Z Z U26 Lf Z Z Z c78 Z fun A76 c77 wd75 HS=>aS Z (nL (rN 3 Z (gW (h1 f1 (lR _) _ _ _ _ _ H (HS.pk 8 [1,2,3,4,5,6,7] Z)) Z)))))
 replace HS:=HS.Jz (Ac .i64) 2 uu
 exact gW (k1 K (lR _) _ _ _ _ _ H (HS.pk 8 [1,2,3,4,5,6,0] Z)) Z
theorem Hw.calls {c1 d1:Int} {a1:List Int} {r1:List Int} {r2:Int} (HS:St w0 w (L)) (r_a:Bv w0 L (Ac .i64) A_a c_a uu a1) (H:Hw.f K c1 d1 a1=some (r1,r2)) :
   Calls prog 100 #[.agg [I c1,I d1,sV A_a a1 c_a].toArray] w (Hw.post w0 L r1 r2):=by
 unfold Hw.f at H
 refine cG func100 Z ?_
 refine sQ (rG (bA HS Z fun b1 wd2 HS=>pS 2 Z (nL (rN 2 Z ?_))))
 obtain ⟨t3,h4,H⟩:=bI H
 refine rG (lW 0 HS Z Fx (fJ uO Z (Ju.calls HS (rD 1 r_a) h4) (fun _ wd5 ⟨h6,HS⟩=>⟨_,h6,(GO.not Z Z Z (nL ?_))⟩)))
 rcases iS H with ⟨c7,H⟩|⟨c7,H⟩
 ·
  refine yB Z (congrArg Bool.not (Cv c7)) (rN 2 Z ?_)
  replace HS:=HS.Jz (Ac .i64) 2 uu
  obtain ⟨rfl,rfl⟩:=H8 H
  exact G.Jr _ _ func100 Z Z Z ⟨_,_,Z,(HS.pk 2 [0] Z)⟩
 refine nB Z (congrArg Bool.not c7) (rN 2 Z ?_)
 obtain ⟨t8,t9,h10,H⟩:=Cx H
 refine rG (lW 0 HS Z Fx (fJ yK Z (Fs.calls HS (rD 1 r_a) h10) (fun _ wd13 ⟨A11,c12,h14,HS⟩=>⟨_,h14,(pS 4 Z (nL ?_))⟩)))
 obtain ⟨rfl,rfl⟩:=H8 H
 exact G.Jr _ _ func100 Z Z Z ⟨_,_,Z,(HS.pk 2 [0] Z)⟩
theorem Hz.calls {n_:Int} {r1:Bool} (HS:St w0 w (L)) (H:Hz.f n_=some r1) :
  Calls prog 125 #[I n_] w (Hz.post w0 L r1):=by
 unfold Hz.f at H
 refine cG func125 Z ?_
 refine rN 4 Z ?_
 obtain rfl:=sI H
 exact rT _ func125 Z Z ⟨Z,HS⟩
theorem Be.calls {s:List Int} {r1:Int} (HS:St w0 w (L)) (r_a:Bv w0 L (Ac .i64) A_a c_a uu s) (H:Be.f K s=some r1) :
   Calls prog 122 #[sV A_a s c_a,.func (.func 125) #[] #[]] w (Be.post w0 L r1):=by
 unfold Be.f at H
 refine cG func122 Z ?_
 refine rN 4 Z (rG (mV Z (lS Z Z U26 Z (mV Z (nL (rN 2 Z ?_))))))
 refine G.name (fun e1 c1=>?_)
 have d1:∀ a1,a1≤K→∀ (x8:Int) (w:World),Be.l1 K a1 s x8=some r1→St w0 w (L)→G prog 122 19 [(0,sV A_a s c_a),(1,.func (.func 125) #[] #[]),(7,I (s.length:Int)),(8,I x8)] e1 w (Be.post w0 L r1):=by
  refine lp (fun _ w H _=>by rw [Be.l1] at H; cases H) fun b1 g1 f1 x8 w H HS=>?_
  rw [Be.l1] at H
  subst c1
  refine rN 3 Z ?_
  rcases iS H with ⟨c16,H⟩|⟨c16,H⟩
  ·
   refine nB Z (tF c16) (rN 3 Z ?_)
   obtain rfl:=sI H
   exact rT _ func122 Z Z ⟨Z,HS⟩
  refine yB Z (tT c16) (rN 6 Z ?_)
  obtain ⟨c17,H⟩:=iN H
  obtain ⟨t18,h19,H⟩:=bI H
  refine rG (pS 3 Z (iX Z U26 sz2 (rk r_a HS) c17 (GO.C8 (T:=(Ac .i64)) (n:=x8.toNat) (o:=0) HS r_a Z Z (getD_some (d:=0) (ltN c17)) Z Z na2 Z (GO.clo Z Z func125 Yj.2.1 Yj.2.2 Z Z (Hz.calls HS  h19) (fun _ wd20 ⟨h21,HS⟩=>⟨_,h21,(nL ?_)⟩)))))
  rcases iE H with ⟨c22,H⟩|⟨c22,H⟩
  ·
   refine yB Z c22 (rN 2 Z ?_)
   obtain rfl:=sI H
   exact rT _ func122 Z Z ⟨Z,HS⟩
  refine nB Z (Cv c22) (rN 4 Z (gW (f1 b1 (lR _) _ _ H HS) Z))
 exact gW (d1 K (lR _) _ _ H HS) Z
theorem Ba.calls {s:List Int} {r1:List Int} (HS:St w0 w (Own (Ac .i64) 2 A_a c_a uu s::L)) (H:Ba.f K s=some r1) :
   Calls prog 124 #[sV A_a s c_a,.func (.func 125) #[] #[]] w (Ba.post w0 L r1):=by
 unfold Ba.f at H
 refine cG func124 Z ?_
 refine rN 3 Z ?_
 obtain ⟨t1,h2,H⟩:=bI H
 refine rG (pS 2 Z (fJ Vb Z (Be.calls HS (ro 0 Z) h2) (fun _ wd3 ⟨h4,HS⟩=>⟨_,h4,(aS Z (nL (rN 3 Z ?_)))⟩)))
 rcases iE H with ⟨c5,H⟩|⟨c5,H⟩
 ·
  refine yB Z (tT c5) (rN 2 Z ?_)
  obtain rfl:=sI H
  exact rT _ func124 Z Z ⟨_,_,Z,HS⟩
 refine nB Z (tF c5) (rN 6 Z ?_)
 refine G.name (fun h1 f1=>?_)
 have g1:∀ d1,d1≤K→∀ (x19:List Int) (a1 b1:Int) (w:World),Ba.l1 K d1 x19 a1 b1=some r1→St w0 w (Own (Ac .i64) 2 A_a c_a uu x19::L)→G prog 124 42 [(0,sV A_a x19 c_a),(1,.func (.func 125) #[] #[]),(5,I a1),(6,I b1)] h1 w (Ba.post w0 L r1):=by
  refine lp (fun _ _ _ w H _=>by rw [Ba.l1] at H; cases H) fun c1 i1 e1 x19 a1 b1 w H HS=>?_
  rw [Ba.l1] at H
  subst f1
  refine rN 2 Z (rG (pS 2 Z (lS Z Z U26 Z (GO.lss Z Z Z Z (nL ?_)))))
  rcases iS H with ⟨c35,H⟩|⟨c35,H⟩
  ·
   refine nB Z (tF c35) (rN 2 Z ?_)
   obtain ⟨c44,H⟩:=iN H
   have h46:=Rw (xs:=x19) (z:=0) (fE (leN c44) (lR _))
   refine rG (pS 2 Z (GO.slL (T:=(Ac .i64)) HS (ro 0 Z) Z Z Z U26 sz2 c44.1 c44.2 Z (GO.aF (T:=(Ac .i64)) (j:=0) (l:=a1.toNat) 0 () HS Z Ao Z Z U26 zr2 Z Z (qC (lR _) ((ro 0 Z) _ HS).1) (fE (leN c44) (lR _)) (fun _=>Z) fun wd45 HS=>nL (G.len (t:=0) (m:=(over x19 a1.toNat (List.replicate ((x19.take x19.length).drop a1.toNat).length 0)).length) Z (by simp only [List.length_set,h46]<;>rfl) (sQ ?_)))))
   obtain ⟨c47,H⟩:=iN H
   refine rG (pS 2 Z (GO.slH (T:=(Ac .i64)) HS (ro 0 Z) Z Z Z U26 sz2 c47.1 c47.2 Z (aS Z (nL ?_))))
   replace HS:=HS.Xy (A':=(Jn A_a 0 c_a 1)) (c':=(c_a - 0)) (j:=0) (l:=0) (h:=a1.toNat) (m:=c_a) Z (Nat.zero_le _) (leN c47) (Nat.le_trans (leN c47) ((ro 0 Z) _ HS).1) (lR _) Z Z
   obtain rfl:=sI H
   exact rT _ func124 Z Z ⟨_,_,Z,HS⟩
  refine yB Z (tT c35) (rN 4 Z ?_)
  obtain ⟨c36,H⟩:=iN H
  refine rG (pS 2 Z (iX Z U26 sz2 (rk (ro 0 Z) HS) c36 (GO.C8 (T:=(Ac .i64)) (n:=b1.toNat) (o:=0) HS (ro 0 Z) Z Z (getD_some (d:=0) (ltN c36)) Z Z na2 Z (aS Z (nL (sQ ?_))))))
  obtain ⟨t37,h38,H⟩:=bI H
  refine rG (pS 2 Z (GO.clo Z Z func125 Yj.2.1 Yj.2.2 Z Z (Hz.calls HS  h38) (fun _ wd39 ⟨h40,HS⟩=>⟨_,h40,(GO.not Z Z Z (nL ?_))⟩)))
  rcases iE H with ⟨c41,H⟩|⟨c41,H⟩
  ·
   refine nB Z (congrArg Bool.not c41) (rN 4 Z (gW (e1 c1 (lR _) _ _ _ _ H HS) Z))
  refine yB Z (congrArg Bool.not (Cv c41)) (sQ ?_)
  obtain ⟨c42,H⟩:=iN H
  refine rG (pS 3 Z (iX Z U26 sz2 (rk (ro 0 Z) HS) c42 (GO.Hl (T:=(Ac .i64)) (j:=0) (n:=a1.toNat) (o:=0) (vs:=[I (x19.getD b1.toNat 0)]) (x19.getD b1.toNat 0) HS Z Ao Z Z Z Z (htN na2 Z) Z (getD_some (d:=0) (ltN c42)) Z Z fun wd43 HS=>nL (G.len (t:=0) (m:=(x19.set a1.toNat (x19.getD b1.toNat 0)).length) Z (by simp only [List.length_set]<;>rfl) (rN 4 Z (gW (e1 c1 (lR _) _ _ _ _ H HS) Z))))))
 exact gW (g1 K (lR _) _ _ _ _ H HS) Z
theorem J9.calls {list:List Int} {r1:List Int} (HS:St w0 w (Own (Ac .i64) 2 A_a c_a uu list::L)) (H:J9.f K list=some r1) :
  Calls prog 85 #[sV A_a list c_a] w (J9.post w0 L r1):=by
 unfold J9.f at H
 refine cG func85 Z ?_
 refine rN 3 Z ?_
 obtain ⟨t1,h2,H⟩:=bI H
 refine rG (mV Z ?_)
 replace HS:=HS.pk 1 [0] Z
 refine fJ kW Z (Ba.calls HS  h2) (fun _ wd5 ⟨A3,c4,h6,HS⟩=>⟨_,h6,(aS Z (nL ?_))⟩)
 obtain rfl:=sI H
 exact rT _ func85 Z Z ⟨_,_,Z,HS⟩
theorem Jb.calls {a1 d1:Int} {c1:List Int} {r1:Int} {r2:List Int} {r3:Int} (HS:St w0 w (L)) (r_a:Bv w0 L (Ac .i64) A_a c_a uu c1) (H:Jb.f K a1 d1 c1=some (r1,r2,r3)) :
   Calls prog 57 #[.agg [I a1,I d1,sV A_a c1 c_a].toArray] w (Jb.post w0 L r1 r2 r3):=by
 unfold Jb.f at H
 refine cG func57 Z ?_
 refine sQ (rG (bA HS Z fun b1 wd2 HS=>GO.alloc HS Z bR Z Z fun b3 wd4 HS=>aS Z (nL (sQ ?_))))
 obtain ⟨t5,t6,h7,H⟩:=Cx H
 refine rG (lW 1 HS Z Fx (fJ vV Z (Hw.calls HS (rD 2 r_a) h7) (fun _ wd10 ⟨A8,c9,h11,HS⟩=>⟨_,h11,(pS 5 Z (nL (rN 3 Z ?_)))⟩)))
 rcases iS H with ⟨c12,H⟩|⟨c12,H⟩
 ·
  refine yB Z (nF c12) (sQ (rG (GO.Je (.agg [I 0,.slice none 0 0].toArray) Z Z (fun _=>by kernel_rfl) Z (mV Z (sW 1 HS Z Le Z fun wd24 HS=>aS Z (nL ?_))))))
  replace HS:=HS.Jz (Ac .i64) 2 uu
  obtain ⟨rfl,rfl,rfl⟩:=Kw H
  exact G.Jr _ _ func57 Z (Kc.Lh (j:=2) (vs:=[I 0,.slice none 0 0]) HS Z Z Z Le) Z ⟨_,_,Z,(HS.pk 4 [0] Z)⟩
 refine nB Z (nT c12) (rN 2 Z ?_)
 obtain ⟨t13,h14,H⟩:=bI H
 obtain ⟨t17,h18,H⟩:=bI H
 refine G.Jk mixed (fun w=>St w0 w (Box b1 57 [I a1,I d1,sV A_a c1 c_a]::L)) [1] [0,2,5,1,3,4,6,7,8,9] [] (by kernel_rfl) (by kernel_rfl) (HS.drew.pk 3 [2] Z) ?_
 replace HS:=HS.drew
 refine qL Z Z (fun _ _ g=>fL b1 0 Im Z g) Z (GX.ps 2 Z (GX.ls Z Z Z (HS.pk 3 [2] Z) (fun _ HS _ g=>lB 0 HS Z na2 Z g) Z (GX.l2 Z (fJ jL Z (Hg.calls HS (ro 0 Z) h14) (fun _ wd15 ⟨h16,HS⟩=>⟨_,h16,(GX.fin (HS.pk 3 [2] Z) (GX.ps 1 Z (GX.l2 Z ?_)))⟩)))))
 replace HS:=HS.pk 3 [0,1,2] Z
 refine fJ Aad Z (J9.calls HS  h18) (fun _ wd21 ⟨A19,c20,h22,HS⟩=>⟨_,h22,(GX.fin (HS.pk 3 [2] Z) (qL Z Z (fun _ _ g=>GO.Je (.agg [I (w64 (a1 - t13)),sV A19 t17 c20].toArray) Z Z (fun _=>by kernel_rfl) Z g) Z (GX.l2 Z (sW 1 HS Z Le Z fun wd23 HS=>GX.fin (HS.pk 3 [2] Z) (GX.ps 1 Z (GX.nil ?_))))))⟩)
 obtain ⟨rfl,rfl,rfl⟩:=Kw H
 exact G.Jr _ _ func57 Z (Kc.Lh (j:=1) (vs:=[I (w64 (a1 - t13)),sV A19 t17 c20]) HS Z Z Z Le) Z ⟨_,_,Z,(HS.pk 3 [0] Z)⟩
theorem Bu.calls {i1:List (List Am)} {y_a:Nat→(Ty.slice 83 Ak).Lay} {r1:Int} {r2:List Int} {r3:Int} (HS:St w0 w (L)) (r_a:Bv w0 L (Ty.slice 83 Ak) A_a c_a y_a i1) (H:Bu.f K i1=some (r1,r2,r3)) :
   Calls prog 30 #[.agg [sV A_a i1 c_a].toArray] w (Bu.post w0 L r1 r2 r3):=by
 unfold Bu.f at H
 refine cG func30 Z ?_
 refine sQ (rG (bA HS Z fun b1 wd2 HS=>GO.alloc HS Z bR Z Z fun b3 wd4 HS=>aS Z (nL (rN 2 Z ?_))))
 obtain ⟨t5,h6,H⟩:=bI H
 refine rG (lW 1 HS Z Iy (fJ xK Z (I8.calls HS (rD 2 r_a) h6) (fun _ wd7 ⟨h8,HS⟩=>⟨_,h8,(aS Z (nL (rN 2 Z ?_)))⟩)))
 rcases iS H with ⟨c9,H⟩|⟨c9,H⟩
 ·
  refine yB Z (nF c9) (sQ (rG (GO.Je (.agg [I 0,.slice none 0 0].toArray) Z Z (fun _=>by kernel_rfl) Z (mV Z (sW 0 HS Z Le Z fun wd221 HS=>aS Z (nL ?_))))))
  replace HS:=HS.Jz (Ac .i64) 2 uu
  obtain ⟨rfl,rfl,rfl⟩:=Kw H
  exact G.Jr _ _ func30 Z (Kc.Lh (j:=1) (vs:=[I 0,.slice none 0 0]) HS Z Z Z Le) Z ⟨_,_,Z,(HS.pk 3 [0] Z)⟩
 refine nB Z (nT c9) (rN 2 Z ?_)
 obtain ⟨t10,t11,h12,H⟩:=Cx H
 refine rG (lW 1 HS Z Iy (fJ zO Z (Cm.calls HS (rD 2 r_a) h12) (fun _ wd16 ⟨A13,c14,y15,h17,HS⟩=>⟨_,h17,(GO.alloc HS Z bG Z Z fun b18 wd19 HS=>sW 0 HS Z Q4 Z fun wd20 HS=>nL (sQ ?_))⟩)))
 obtain ⟨t21,h22,H⟩:=bI H
 obtain ⟨t25,t26,t27,h28,H⟩:=Gb H
 refine G.Pk mixed (by decide) (fun b a w=>∃ (A29:Option Addr) (c30:Nat) (b33:Nat) (h1:Dc) (d1:Dc),RS 57 [(2,pT b3),(5,pT b18)] [rv 19 (pT b18),rv 20 (I t10),rv 21 (.pointer (some ⟨b18,1,none⟩)),rv 22 (sV A13 t11 c14),rv 23 (I t21),rv 24 (.agg [I t25,I t26,sV A29 t27 c30].toArray),rv 6 (pT b33),none] b a∧St w0 w (Box b18 67 [I t10,sV A13 t11 c14]::Own (Ty.slice 2 (Ac .i64)) 26 A13 c14 y15 t11::Box b3 28 [I 0,.slice none 0 0]::Box b1 33 [sV A_a i1 c_a]::h1::d1::L)∧(b 5=true→h1=Own (Ac .i64) 2 A29 c30 uu t27)∧(b 6=true→b 7=false→d1=Box b33 57 [I 0,I 0,.slice none 0 0])∧(b 7=true→d1=Box b33 57 [I t25,I t26,sV A29 t27 c30])) ?_ ?_ ?_
 · exact fun a hs=>⟨none,0,0,Emp,Emp,hs.init Z,(HS.drew.emp.emp.pk 6 [2,3,4,5,1,0] Z),fun h=>Bool.noConfusion h,fun h=>Bool.noConfusion h,fun h=>Bool.noConfusion h⟩
 ·
  intro j b a w hj
  refine exI fun A29=>exI fun c30=>exI fun b33=>exI fun h1=>exI fun d1=>anI fun hs=>fun hM q=>?_
  have HS:=hM.1
  match j,hj with
  | 0,_ =>
   refine hs.at q [] [] (fL b18 0 lD Z (hs.fin q Z fun _ hs=>⟨_,_,_,_,_,hs,hM⟩))
  | 1,_ =>
   refine hs.at q [0] [] (lB 0 HS Z na2 Z (hs.fin q Z fun _ hs=>⟨_,_,_,_,_,hs,hM⟩))
  | 2,_ =>
   refine hs.at q [] [] (fL b18 1 Ny Z (hs.fin q Z fun _ hs=>⟨_,_,_,_,_,hs,hM⟩))
  | 3,_ =>
   refine hs.at q [2] [] (lB 0 HS Z Ob Z (hs.fin q Z fun _ hs=>⟨_,_,_,_,_,hs,hM⟩))
  | 4,_ =>
   refine hs.at q [3] [] (fJ qZ Z (I1.calls HS (ro 1 Z) h22) (fun _ wd23 ⟨h24,HS⟩=>⟨_,h24,(hs.fin q Z fun _ hs=>⟨_,_,_,_,_,hs,HS,hM.2⟩)⟩))
  | 5,_ =>
   refine (anI fun HS=>anI fun c1=>anI fun e1=>fun g1=>?_) hM
   refine hs.at q [1,4] [] (fJ qF Z (Ik.calls HS  h28) (fun _ wd31 ⟨A29,c30,h32,HS⟩=>⟨_,h32,(hs.Za q [5] (fun _ hs=>⟨A29,c30,b33,Own (Ac .i64) 2 A29 c30 uu t27,_,hs,HS.pk 7 [1,2,3,4,0,6] Z,fun _=>Z,e1,fun hh=>(q.no 7 hh).elim⟩) Z Z)⟩))
  | 6,_ =>
   refine (anI fun HS=>anI fun c1=>anI fun e1=>fun g1=>?_) hM
   refine hs.at q [] [] (GO.alloc HS Z R8 Z Z fun b33 wd34 HS=>hs.Za q [6] (fun _ hs=>⟨A29,c30,b33,_,Box b33 57 [I 0,I 0,.slice none 0 0],hs,HS.pk 7 [1,2,3,4,5,0] Z,c1,fun _ _=>Z,fun hh=>(q.no 7 hh).elim⟩) Z Z)
  | 7,_ =>
   refine (anI fun HS=>anI fun c1=>anI fun e1=>fun g1=>?_) hM
   have hb6:=q.on 6
   obtain rfl:=e1 hb6 q.hb
   refine hs.at q [6,5] [] (sW 5 HS Z Fx Z fun wd35 HS=>hs.oI q Z fun _ hs=>⟨A29,c30,b33,_,Box b33 57 [I t25,I t26,sV A29 t27 c30],hs,HS,c1,fun _ h=>Bool.noConfusion h,fun _=>Z⟩)
  | k+8,hj=>exact absurd hj (Nat.not_lt.2 (Nat.le_add_left 8 k))
 ·
  intro b a w hall
  refine exI fun A29=>exI fun c30=>exI fun b33=>exI fun h1=>exI fun d1=>anI fun hs=>anI fun HS=>anI fun c1=>anI fun e1=>fun g1=>?_
  obtain rfl:=c1 (hall 5 (by decide))
  obtain rfl:=g1 (hall 7 (by decide))
  refine G.at (hs.all hall) (rN 2 Z (rG (fL b18 1 Ny Z (lB 0 HS Z Ob Z (lS Z Z U65 Z (mV Z (nL (rN 2 Z ?_))))))))
  refine G.name (fun t1 x1=>?_)
  have y1:∀ m1,m1≤K→∀ (f1:List Int) (x98:Int) (w:World),Bu.l1 K m1 t11 t25 t26 f1 x98=some (r1,r2,r3)→St w0 w (Box b3 28 [I 0,.slice none 0 0]::Box b33 57 [I t25,I t26,sV A29 f1 c30]::Own (Ac .i64) 2 A29 c30 uu f1::Own (Ty.slice 2 (Ac .i64)) 26 A13 c14 y15 t11::L)→G prog 30 57 [(2,pT b3),(6,pT b33),(26,sV A13 t11 c14),(27,I (t11.length:Int)),(28,I x98)] t1 w (Bu.post w0 L r1 r2 r3):=by
   refine lp (fun _ _ w H _=>by rw [Bu.l1] at H; cases H) fun n1 a2 z1 f1 x98 w H HS=>?_
   rw [Bu.l1] at H
   subst x1
   refine rN 3 Z ?_
   rcases iS H with ⟨c160,H⟩|⟨c160,H⟩
   ·
    refine nB Z (tF c160) (rN 2 Z ?_)
    obtain ⟨t212,t213,t214,h215,H⟩:=Gb H
    refine rG (lW 1 HS Z Fx (fJ yY Z (Jb.calls HS (ro 2 Z) h215) (fun _ wd218 ⟨A216,c217,h219,HS⟩=>⟨_,h219,(pS 2 Z (sW 1 HS Z Le Z fun wd220 HS=>aS Z (nL ?_)))⟩)))
    obtain ⟨rfl,rfl,rfl⟩:=Kw H
    exact G.Jr _ _ func30 Z (Kc.Lh (j:=1) (vs:=[I t212,sV A216 t213 c217]) HS Z Z Z Le) Z ⟨_,_,Z,(HS.pk 5 [0] Z)⟩
   refine yB Z (tT c160) (rN 4 Z ?_)
   obtain ⟨c161,H⟩:=iN H
   refine rG (mV Z (iX Z U65 Na (rk (ro 3 Z) HS) c161 (GO.C8 (T:=(Ty.slice 2 (Ac .i64))) (n:=x98.toNat) (o:=0) HS (ro 3 Z) Z Z (getD_some (d:=[]) (ltN c161)) Z Z Ip Z (pS 2 Z (nL (sQ (rG (mV Z (lS Z Z U26 Z (mV Z (nL (rN 2 Z ?_))))))))))))
   refine G.name (fun v1 s1=>?_)
   have p1:∀ o1,o1≤n1→∀ (a1:List Int) (x179:Int) (w:World),Bu.l4 K o1 t11 t25 t26 x98 a1 x179=some (r1,r2,r3)→St w0 w (Box b3 28 [I 0,.slice none 0 0]::Box b33 57 [I t25,I t26,sV A29 a1 c30]::Own (Ac .i64) 2 A29 c30 uu a1::Own (Ty.slice 2 (Ac .i64)) 26 A13 c14 y15 t11::L)→G prog 30 57 [(2,pT b3),(6,pT b33),(7,I x98),(26,sV A13 t11 c14),(27,I (t11.length:Int)),(28,I x98),(33,sV ((y15 x98.toNat).A) (t11.getD x98.toNat []) ((y15 x98.toNat).c)),(34,I ((t11.getD x98.toNat []).length:Int)),(35,I x179)] v1 w (Bu.post w0 L r1 r2 r3):=by
    refine lp (fun _ _ w H _=>by rw [Bu.l4] at H; cases H) fun k1 q1 u1 a1 x179 w H HS=>?_
    rw [Bu.l4] at H
    subst s1
    refine rN 3 Z ?_
    rcases iS H with ⟨c196,H⟩|⟨c196,H⟩
    ·
     refine nB Z (tF c196) (rN 4 Z (gW (z1 k1 (Nat.le_of_succ_le q1) _ _ _ H HS) Z))
    refine yB Z (tT c196) (rN 4 Z ?_)
    obtain ⟨c197,H⟩:=iN H
    refine rG (GO.ix Z Z Z U26 sz2 ((Bv.elem (ro 3 Z) c161.1 c161.2) _ HS).2.2.1 c197.1 c197.2 Z (GO.C8 (T:=(Ac .i64)) (n:=x179.toNat) (o:=0) HS (Bv.elem (ro 3 Z) c161.1 c161.2) Z Z (getD_some (d:=0) (ltN c197)) Z Z na2 Z (aS Z (nL ?_))))
    obtain ⟨t198,h199,H⟩:=bI H
    obtain ⟨t202,h203,H⟩:=bI H
    obtain ⟨c204,H⟩:=iN H
    obtain ⟨t207,h208,H⟩:=bI H
    refine G.Jk mixed (fun w=>St w0 w (Box b33 57 [I t25,I t26,sV A29 a1 c30]::Own (Ac .i64) 2 A29 c30 uu a1::L)) [0,7] [1,4,8,0,2,3,5,6,7,9,10,11,12] [12] (by kernel_rfl) (by kernel_rfl) (HS.drew.pk 4 [1,2] Z) ?_
    replace HS:=HS.drew
    refine GX.ps 3 Z (GX.ls Z Z Z (HS.pk 4 [1,2] Z) (fun _ HS _ g=>lW 0 HS Z Fx g) Z (GX.l2 Z (fJ Wt Z (Jg.calls HS  h199) (fun _ wd200 ⟨h201,HS⟩=>⟨_,h201,(GX.fin (HS.pk 4 [1,2] Z) (GX.ps 1 Z (GX.l2 Z (fJ Lg Z (Bp.calls HS (ro 2 Z) h203) (fun _ wd205 ⟨h206,HS⟩=>⟨_,h206,(GX.fin (HS.pk 4 [1,2] Z) (qL Z Z (fun _ _ g=>GO.Ew Z Z Z g) Z (GX.ls Z Z Z (HS.pk 4 [1,2] Z) (fun _ HS _ g=>GO.C8 (T:=(Ac .i64)) (n:=t202.toNat) (o:=0) HS (ro 1 Z) Z Z (getD_some (d:=0) (ltN c204)) Z Z na2 Z g) Z (GX.l2 Z (fJ qR Z (J6.calls HS  h208) (fun _ wd209 ⟨h210,HS⟩=>⟨_,h210,(GX.fin (HS.pk 4 [1,2] Z) (GX.ps 1 Z ?_))⟩))))))⟩)))))⟩))))
    refine qL Z Z (fun _ _ g=>GO.Ew Z Z Z g) Z (GX.l2 Z (GO.Hl (T:=(Ac .i64)) (j:=2) (n:=t202.toNat) (o:=0) (vs:=[I (w64 ((a1.getD t202.toNat 0)+t207))]) (w64 ((a1.getD t202.toNat 0)+t207)) HS Z Ao Z Z Z Z (htN na2 Z) Z (getD_some (d:=0) (ltN c204)) Z Z fun wd211 HS=>GX.Y2 Z (GX.nil ?_)))
    replace HS:=HS.G6 (j:=1) (cs':=[I t25,I t26,sV A29 (a1.set t202.toNat (w64 ((a1.getD t202.toNat 0)+t207))) c30]) Z (by simp only [sV,List.length_set]<;>rfl)
    refine rN 3 Z (gW (u1 k1 (lR _) _ _ _ H HS) Z)
   exact gW (p1 n1 (lR _) _ _ _ H HS) Z
  exact gW (y1 K (lR _) _ _ _ H (HS.pk 6 [2,5,4,1] Z)) Z
theorem F9.calls {a_ b_:List Int} {r1:Bool} (HS:St w0 w (L)) (r_a:Bv w0 L (Ac .i64) A_a c_a uu a_) (r_b:Bv w0 L (Ac .i64) A_b c_b uu b_) (H:F9.f K a_ b_=some r1) :
   Calls prog 21 #[sV A_a a_ c_a,sV A_b b_ c_b] w (F9.post w0 L r1):=by
 unfold F9.f at H
 refine cG func21 Z ?_
 refine rN 4 Z (rG (mV Z (lS Z Z U26 Z (mV Z (lS Z Z U26 Z (GO.neq Z Z Z Z (nL ?_)))))))
 rcases iS H with ⟨c1,H⟩|⟨c1,H⟩
 ·
  refine yB Z (nF c1) (rN 2 Z ?_)
  obtain rfl:=sI H
  exact rT _ func21 Z Z ⟨Z,HS⟩
 refine nB Z (nT c1) (rN 6 Z ?_)
 refine G.name (fun f1 d1=>?_)
 have e1:∀ a1,a1≤K→∀ (i_6:Int) (w:World),F9.l1 K a1 a_ b_ i_6=some r1→St w0 w (L)→G prog 21 26 [(0,sV A_a a_ c_a),(1,sV A_b b_ c_b),(5,I i_6)] f1 w (F9.post w0 L r1):=by
  refine lp (fun _ w H _=>by rw [F9.l1] at H; cases H) fun b1 h1 g1 i_6 w H HS=>?_
  rw [F9.l1] at H
  subst d1
  refine rN 2 Z (rG (pS 2 Z (lS Z Z U26 Z (GO.lss Z Z Z Z (nL ?_)))))
  rcases iS H with ⟨c11,H⟩|⟨c11,H⟩
  ·
   refine nB Z (tF c11) (rN 3 Z ?_)
   obtain rfl:=sI H
   exact rT _ func21 Z Z ⟨Z,HS⟩
  refine yB Z (tT c11) (rN 4 Z ?_)
  obtain ⟨c12,H⟩:=iN H
  obtain ⟨c13,H⟩:=iN H
  refine G.lex mixed [0,1,2,4,5,6,3,7,8] (by kernel_rfl) ?_
  replace HS:=HS.drew
  refine GX.ps 2 Z (qL Z Z (fun _ _ g=>iX Z U26 sz2 (rk r_a HS) c12 g) Z (GX.ps 2 Z (qL Z Z (fun _ _ g=>iX Z U26 sz2 (rk r_b HS) c13 g) Z (GX.l1 Z Z Z (fun _ g=>GO.C8 (T:=(Ac .i64)) (n:=i_6.toNat) (o:=0) HS r_a Z Z (getD_some (d:=0) (ltN c12)) Z Z na2 Z g) Z (GX.l1 Z Z Z (fun _ g=>GO.C8 (T:=(Ac .i64)) (n:=i_6.toNat) (o:=0) HS r_b Z Z (getD_some (d:=0) (ltN c13)) Z Z na2 Z g) Z (GX.ps 1 Z (GX.nil ?_)))))))
  rcases iS H with ⟨c14,H⟩|⟨c14,H⟩
  ·
   refine yB Z (nF c14) (rN 2 Z ?_)
   obtain rfl:=sI H
   exact rT _ func21 Z Z ⟨Z,HS⟩
  refine nB Z (nT c14) (rN 4 Z (gW (g1 b1 (lR _) _ _ H HS) Z))
 exact gW (e1 K (lR _) _ _ H HS) Z
theorem Em.calls {d1:Int} {c1:List Int} {e1:Int} {a1:List Int} {r1:Bool} (HS:St w0 w (L)) (r_a:Bv w0 L (Ac .i64) A_a c_a uu c1) (r_b:Bv w0 L (Ac .i64) A_b c_b uu a1) (H:Em.f K d1 c1 e1 a1=some r1) :
   Calls prog 12 #[.agg [I d1,sV A_a c1 c_a].toArray,.agg [I e1,sV A_b a1 c_b].toArray] w (Em.post w0 L r1):=by
 unfold Em.f at H
 refine cG func12 Z ?_
 refine sQ (rG (bA HS Z fun b1 wd2 HS=>bA HS Z fun b3 wd4 HS=>aS Z (nL (rN 2 Z (rG (fL b1 0 jK Z (lB 1 HS Z na2 Z (fL b3 0 jK Z (lB 0 HS Z na2 Z (GO.neq Z Z Z Z (nL ?_)))))))))))
 rcases iS H with ⟨c5,H⟩|⟨c5,H⟩
 ·
  refine yB Z (nF c5) (rN 2 Z ?_)
  obtain rfl:=sI H
  exact rT _ func12 Z Z ⟨Z,(HS.pk 2 [] Z)⟩
 refine nB Z (nT c5) (rN 3 Z ?_)
 obtain ⟨t6,h7,H⟩:=bI H
 refine rG (fL b1 1 X6 Z (lB 1 HS Z Ip Z (fL b3 1 X6 Z (lB 0 HS Z Ip Z (fJ zU Z (F9.calls HS (rD 2 r_a) (rD 2 r_b) h7) (fun _ wd8 ⟨h9,HS⟩=>⟨_,h9,(GO.not Z Z Z (nL ?_))⟩))))))
 rcases iS H with ⟨c10,H⟩|⟨c10,H⟩
 ·
  refine yB Z (congrArg Bool.not (Cv c10)) (rN 2 Z ?_)
  obtain rfl:=sI H
  exact rT _ func12 Z Z ⟨Z,(HS.pk 2 [] Z)⟩
 refine nB Z (congrArg Bool.not c10) (rN 3 Z ?_)
 obtain rfl:=sI H
 exact rT _ func12 Z Z ⟨Z,(HS.pk 2 [] Z)⟩
theorem Ku.calls {c1 e1:Int} {a1 d1:Int} {r1:Bool} (HS:St w0 w (L)) (H:Ku.f c1 e1 a1 d1=some r1) :
   Calls prog 134 #[.agg [I c1,I e1].toArray,.agg [I a1,I d1].toArray] w (Ku.post w0 L r1):=by
 unfold Ku.f at H
 refine cG func134 Z ?_
 refine sQ (rG (bA HS Z fun b1 wd2 HS=>bA HS Z fun b3 wd4 HS=>aS Z (nL (rN 2 Z (rG (fL b1 0 F6 Z (lB 1 HS Z na2 Z (fL b3 0 F6 Z (lB 0 HS Z na2 Z (GO.neq Z Z Z Z (nL ?_)))))))))))
 rcases iS H with ⟨c5,H⟩|⟨c5,H⟩
 ·
  refine yB Z (nF c5) (rN 2 Z ?_)
  obtain rfl:=sI H
  exact rT _ func134 Z Z ⟨Z,(HS.pk 2 [] Z)⟩
 refine nB Z (nT c5) (rN 3 Z (rG (fL b1 1 J7 Z (lB 1 HS Z na2 Z (fL b3 1 J7 Z (lB 0 HS Z na2 Z (GO.neq Z Z Z Z (nL ?_))))))))
 rcases iS H with ⟨c6,H⟩|⟨c6,H⟩
 ·
  refine yB Z (nF c6) (rN 2 Z ?_)
  obtain rfl:=sI H
  exact rT _ func134 Z Z ⟨Z,(HS.pk 2 [] Z)⟩
 refine nB Z (nT c6) (rN 3 Z ?_)
 obtain rfl:=sI H
 exact rT _ func134 Z Z ⟨Z,(HS.pk 2 [] Z)⟩
theorem Gi.calls {a_ b_:List Am} {r1:Bool} (HS:St w0 w (L)) (r_a:Bv w0 L Ak A_a c_a uu a_) (r_b:Bv w0 L Ak A_b c_b uu b_) (H:Gi.f K a_ b_=some r1) :
   Calls prog 90 #[sV A_a a_ c_a,sV A_b b_ c_b] w (Gi.post w0 L r1):=by
 unfold Gi.f at H
 refine cG func90 Z ?_
 refine rN 4 Z (rG (mV Z (lS Z Z U81 Z (mV Z (lS Z Z U81 Z (GO.neq Z Z Z Z (nL ?_)))))))
 rcases iS H with ⟨c1,H⟩|⟨c1,H⟩
 ·
  refine yB Z (nF c1) (rN 2 Z ?_)
  obtain rfl:=sI H
  exact rT _ func90 Z Z ⟨Z,HS⟩
 refine nB Z (nT c1) (rN 6 Z ?_)
 refine G.name (fun g1 e1=>?_)
 have f1:∀ b1,b1≤K→∀ (a1:Int) (w:World),Gi.l1 K b1 a_ b_ a1=some r1→St w0 w (L)→G prog 90 27 [(0,sV A_a a_ c_a),(1,sV A_b b_ c_b),(5,I a1)] g1 w (Gi.post w0 L r1):=by
  refine lp (fun _ w H _=>by rw [Gi.l1] at H; cases H) fun d1 i1 h1 a1 w H HS=>?_
  rw [Gi.l1] at H
  subst e1
  refine rN 2 Z (rG (pS 2 Z (lS Z Z U81 Z (GO.lss Z Z Z Z (nL ?_)))))
  rcases iS H with ⟨c27,H⟩|⟨c27,H⟩
  ·
   refine nB Z (tF c27) (rN 3 Z ?_)
   obtain rfl:=sI H
   exact rT _ func90 Z Z ⟨Z,HS⟩
  refine yB Z (tT c27) (rN 4 Z ?_)
  obtain ⟨c28,H⟩:=iN H
  obtain ⟨e29,h30,H⟩:=Gp H
  obtain ⟨c31,H⟩:=iN H
  obtain ⟨e32,h33,H⟩:=Gp H
  obtain ⟨t34,h35,H⟩:=bI H
  refine G.lex mixed [0,1,2,4,5,6,3,7,8,9] (by kernel_rfl) ?_
  replace HS:=HS.drew
  refine GX.ps 2 Z (qL Z Z (fun _ _ g=>iX Z U81 Ls (rk r_a HS) c28 g) Z (GX.ps 2 Z (qL Z Z (fun _ _ g=>iX Z U81 Ls (rk r_b HS) c31 g) Z (GX.l1 Z Z Z (fun _ g=>GO.Kk (T:=Ak) (n:=a1.toNat) HS r_a Z Z (Gt (ltN c28) h30) Jf Z g) Z (GX.l1 Z Z Z (fun _ g=>GO.Kk (T:=Ak) (n:=a1.toNat) HS r_b Z Z (Gt (ltN c31) h33) Jf Z g) Z (GX.l2 Z (fJ tQ Z (Ku.calls HS  h35) (fun _ wd36 ⟨h37,HS⟩=>⟨_,h37,(GX.fin tv (GX.ps 1 Z (GX.nil ?_)))⟩))))))))
  rcases iS H with ⟨c38,H⟩|⟨c38,H⟩
  ·
   refine yB Z (congrArg Bool.not (Cv c38)) (rN 2 Z ?_)
   obtain rfl:=sI H
   exact rT _ func90 Z Z ⟨Z,HS⟩
  refine nB Z (congrArg Bool.not c38) (rN 4 Z (gW (h1 d1 (lR _) _ _ H HS) Z))
 exact gW (f1 K (lR _) _ _ H HS) Z
theorem Fp.calls {a_ b_:List (List Am)} {y_a:Nat→(Ty.slice 83 Ak).Lay} {y_b:Nat→(Ty.slice 83 Ak).Lay} {r1:Bool} (HS:St w0 w (L)) (r_a:Bv w0 L (Ty.slice 83 Ak) A_a c_a y_a a_) (r_b:Bv w0 L (Ty.slice 83 Ak) A_b c_b y_b b_) (H:Fp.f K a_ b_=some r1) :
   Calls prog 41 #[sV A_a a_ c_a,sV A_b b_ c_b] w (Fp.post w0 L r1):=by
 unfold Fp.f at H
 refine cG func41 Z ?_
 refine rN 4 Z (rG (mV Z (lS Z Z U31 Z (mV Z (lS Z Z U31 Z (GO.neq Z Z Z Z (nL ?_)))))))
 rcases iS H with ⟨c1,H⟩|⟨c1,H⟩
 ·
  refine yB Z (nF c1) (rN 2 Z ?_)
  obtain rfl:=sI H
  exact rT _ func41 Z Z ⟨Z,HS⟩
 refine nB Z (nT c1) (rN 6 Z ?_)
 refine G.name (fun g1 e1=>?_)
 have f1:∀ b1,b1≤K→∀ (a1:Int) (w:World),Fp.l1 K b1 a_ b_ a1=some r1→St w0 w (L)→G prog 41 27 [(0,sV A_a a_ c_a),(1,sV A_b b_ c_b),(5,I a1)] g1 w (Fp.post w0 L r1):=by
  refine lp (fun _ w H _=>by rw [Fp.l1] at H; cases H) fun d1 i1 h1 a1 w H HS=>?_
  rw [Fp.l1] at H
  subst e1
  refine rN 2 Z (rG (pS 2 Z (lS Z Z U31 Z (GO.lss Z Z Z Z (nL ?_)))))
  rcases iS H with ⟨c19,H⟩|⟨c19,H⟩
  ·
   refine nB Z (tF c19) (rN 3 Z ?_)
   obtain rfl:=sI H
   exact rT _ func41 Z Z ⟨Z,HS⟩
  refine yB Z (tT c19) (rN 4 Z ?_)
  obtain ⟨c20,H⟩:=iN H
  obtain ⟨c21,H⟩:=iN H
  obtain ⟨t22,h23,H⟩:=bI H
  refine G.lex mixed [0,1,2,4,5,6,3,7,8,9] (by kernel_rfl) ?_
  replace HS:=HS.drew
  refine GX.ps 2 Z (qL Z Z (fun _ _ g=>iX Z U31 Lm (rk r_a HS) c20 g) Z (GX.ps 2 Z (qL Z Z (fun _ _ g=>iX Z U31 Lm (rk r_b HS) c21 g) Z (GX.l1 Z Z Z (fun _ g=>GO.C8 (T:=(Ty.slice 83 Ak)) (n:=a1.toNat) (o:=0) HS r_a Z Z (getD_some (d:=[]) (ltN c20)) Z Z Lj Z g) Z (GX.l1 Z Z Z (fun _ g=>GO.C8 (T:=(Ty.slice 83 Ak)) (n:=a1.toNat) (o:=0) HS r_b Z Z (getD_some (d:=[]) (ltN c21)) Z Z Lj Z g) Z (GX.l2 Z (fJ wS Z (Gi.calls HS (Bv.elem r_a c20.1 c20.2) (Bv.elem r_b c21.1 c21.2) h23) (fun _ wd24 ⟨h25,HS⟩=>⟨_,h25,(GX.fin tv (GX.ps 1 Z (GX.nil ?_)))⟩))))))))
  rcases iS H with ⟨c26,H⟩|⟨c26,H⟩
  ·
   refine yB Z (congrArg Bool.not (Cv c26)) (rN 2 Z ?_)
   obtain rfl:=sI H
   exact rT _ func41 Z Z ⟨Z,HS⟩
  refine nB Z (congrArg Bool.not c26) (rN 4 Z (gW (h1 d1 (lR _) _ _ H HS) Z))
 exact gW (f1 K (lR _) _ _ H HS) Z
theorem Ig.calls {c1 a1:List (List Am)} {y_a:Nat→(Ty.slice 83 Ak).Lay} {y_b:Nat→(Ty.slice 83 Ak).Lay} {r1:Bool} (HS:St w0 w (L)) (r_a:Bv w0 L (Ty.slice 83 Ak) A_a c_a y_a c1) (r_b:Bv w0 L (Ty.slice 83 Ak) A_b c_b y_b a1) (H:Ig.f K c1 a1=some r1) :
   Calls prog 13 #[.agg [sV A_a c1 c_a].toArray,.agg [sV A_b a1 c_b].toArray] w (Ig.post w0 L r1):=by
 unfold Ig.f at H
 refine cG func13 Z ?_
 refine sQ (rG (bA HS Z fun b1 wd2 HS=>bA HS Z fun b3 wd4 HS=>aS Z (nL (rN 2 Z ?_))))
 obtain ⟨t5,h6,H⟩:=bI H
 refine rG (fL b1 0 F3 Z (lB 1 HS Z Jo Z (fL b3 0 F3 Z (lB 0 HS Z Jo Z (fJ zF Z (Fp.calls HS (rD 2 r_a) (rD 2 r_b) h6) (fun _ wd7 ⟨h8,HS⟩=>⟨_,h8,(GO.not Z Z Z (nL ?_))⟩))))))
 rcases iS H with ⟨c9,H⟩|⟨c9,H⟩
 ·
  refine yB Z (congrArg Bool.not (Cv c9)) (rN 2 Z ?_)
  obtain rfl:=sI H
  exact rT _ func13 Z Z ⟨Z,(HS.pk 2 [] Z)⟩
 refine nB Z (congrArg Bool.not c9) (rN 3 Z ?_)
 obtain rfl:=sI H
 exact rT _ func13 Z Z ⟨Z,(HS.pk 2 [] Z)⟩
theorem Fe.calls {a_:List Am} {k_:Int} {r1:Int} {r2:List Am} (HS:St w0 w (Own Ak 83 A_a c_a uu a_::L)) (H:Fe.f K a_ k_=some (r1,r2)) :
   Calls prog 91 #[sV A_a a_ c_a,I k_] w (Fe.post w0 L A_a c_a r1 r2):=by
 unfold Fe.f at H
 refine cG func91 Z ?_
 refine rN 7 Z ?_
 refine G.name (fun g1 e1=>?_)
 have f1:∀ c1,c1≤K→∀ (x10:List Am) (a1 b1:Int) (w:World),Fe.l1 K c1 x10 a1 b1=some (r1,r2)→St w0 w (Own Ak 83 A_a c_a uu x10::L)→G prog 91 27 [(0,sV A_a x10 c_a),(1,I a1),(5,I b1)] g1 w (Fe.post w0 L A_a c_a r1 r2):=by
  refine lp (fun _ _ _ w H _=>by rw [Fe.l1] at H; cases H) fun d1 i1 h1 x10 a1 b1 w H HS=>?_
  rw [Fe.l1] at H
  subst e1
  refine rN 2 Z (rG (pS 2 Z (lS Z Z U81 Z (GO.lss Z Z Z Z (nL ?_)))))
  rcases iS H with ⟨c22,H⟩|⟨c22,H⟩
  ·
   refine nB Z (tF c22) (rN 3 Z ?_)
   obtain ⟨rfl,rfl⟩:=H8 H
   exact rT _ func91 Z Z ⟨Z,HS⟩
  refine yB Z (tT c22) (rN 4 Z ?_)
  obtain ⟨c23,H⟩:=iN H
  obtain ⟨e25,h26,H⟩:=Gp H
  refine rG (pS 3 Z (iX Z U81 Ls (rk (ro 0 Z) HS) c23 (GO.fld (ea A_a (b1.toNat*2)) Z Z F6 Z Z (GO.Hl (T:=Ak) (j:=0) (n:=b1.toNat) (o:=0) (vs:=[I a1]) ({ e25 with Tet:=a1 }) HS Z Ao Z Z Z Z (htN na2 Z) Z (Gt (ltN c23) h26) Z Z fun wd24 HS=>nL (G.len (t:=0) (m:=(x10.set b1.toNat ({ e25 with Tet:=a1 })).length) Z (by simp only [List.length_set]<;>rfl) (rN 3 Z ?_))))))
  obtain ⟨c27,H⟩:=iN H
  obtain ⟨e29,h30,H⟩:=Gp H
  refine rG (pS 3 Z (iX Z U81 Ls (rk (ro 0 Z) HS) c27 (GO.fld (ea A_a (b1.toNat*2+1)) Z Z J7 (aV _ _ _) Z (GO.Hl (T:=Ak) (j:=0) (n:=b1.toNat) (o:=1) (vs:=[I (w64 (a1+1))]) ({ e29 with Perm:=w64 (a1+1) }) HS Z Ao Z Z Z Z (htN na2 Z) Z (Gt (ltN c27) h30) Z Z fun wd28 HS=>nL (G.len (t:=0) (m:=((x10.set b1.toNat ({ e25 with Tet:=a1 })).set b1.toNat ({ e29 with Perm:=w64 (a1+1) })).length) Z (by simp only [List.length_set]<;>rfl) (rN 4 Z (gW (h1 d1 (lR _) _ _ _ _ H HS) Z)))))))
 exact gW (f1 K (lR _) _ _ _ _ H HS) Z
theorem Ey.calls {a_:List (List Am)} {k_:Int} {y_a:Nat→(Ty.slice 83 Ak).Lay} {r1:Int} {r2:List (List Am)} (HS:St w0 w (Own (Ty.slice 83 Ak) 81 A_a c_a y_a a_::L)) (H:Ey.f K a_ k_=some (r1,r2)) :
   Calls prog 42 #[sV A_a a_ c_a,I k_] w (Ey.post w0 L A_a c_a y_a r1 r2):=by
 unfold Ey.f at H
 refine cG func42 Z ?_
 refine rN 7 Z ?_
 refine G.name (fun g1 e1=>?_)
 have f1:∀ c1,c1≤K→∀ (x9:List (List Am)) (b1 a1:Int) (w:World),Ey.l1 K c1 x9 b1 a1=some (r1,r2)→St w0 w (Own (Ty.slice 83 Ak) 81 A_a c_a y_a x9::L)→G prog 42 19 [(0,sV A_a x9 c_a),(1,I b1),(5,I a1)] g1 w (Ey.post w0 L A_a c_a y_a r1 r2):=by
  refine lp (fun _ _ _ w H _=>by rw [Ey.l1] at H; cases H) fun d1 i1 h1 x9 b1 a1 w H HS=>?_
  rw [Ey.l1] at H
  subst e1
  refine rN 2 Z (rG (pS 2 Z (lS Z Z U31 Z (GO.lss Z Z Z Z (nL ?_)))))
  rcases iS H with ⟨c20,H⟩|⟨c20,H⟩
  ·
   refine nB Z (tF c20) (rN 3 Z ?_)
   obtain ⟨rfl,rfl⟩:=H8 H
   exact rT _ func42 Z Z ⟨Z,HS⟩
  refine yB Z (tT c20) (rN 3 Z ?_)
  obtain ⟨c21,H⟩:=iN H
  obtain ⟨t22,t23,h24,H⟩:=Cx H
  obtain ⟨c25,H⟩:=iN H
  refine rG (pS 2 Z (iX Z U31 Lm (rk (ro 0 Z) HS) c21 (GO.C8 (T:=(Ty.slice 83 Ak)) (n:=a1.toNat) (o:=0) HS (ro 0 Z) Z Z (getD_some (d:=[]) (ltN c21)) Z Z Lj Z (mV Z ?_))))
  replace HS:=HS.lJ Fld.id (getD_some (d:=[]) (ltN c21))
  refine fJ zT Z (Fe.calls HS  h24) (fun _ wd26 ⟨h27,HS⟩=>⟨_,h27,?_⟩)
  replace HS:=St.Zj (y:=t23) Fld.id (getD_some (d:=[]) (ltN c21)) (congrArg (fun m=>([.slice ((y_a a1.toNat).A) m ((y_a a1.toNat).c)]:List Value)) c25) HS
  refine aS Z (nL (G.len (t:=0) (m:=(x9.set a1.toNat t23).length) Z (by simp only [List.length_set,List.length_set]<;>rfl) (rN 3 Z (gW (h1 d1 (lR _) _ _ _ _ H HS) Z))))
 exact gW (f1 K (lR _) _ _ _ _ H HS) Z
theorem Hd.calls {a1:List (List Am)} {k_:Int} {y_a:Nat→(Ty.slice 83 Ak).Lay} {r1:Int} {r2:List (List Am)} (HS:St w0 w (Own (Ty.slice 83 Ak) 81 A_a c_a y_a a1::L)) (H:Hd.f K a1 k_=some (r1,r2)) :
  Calls prog 14 #[.agg [sV A_a a1 c_a].toArray,I k_] w (Hd.post w0 L A_a c_a y_a r1 r2):=by
 unfold Hd.f at H
 refine cG func14 Z ?_
 refine sQ (rG (bA HS Z fun b1 wd2 HS=>aS Z (nL (sQ ?_))))
 obtain ⟨t3,t4,h5,H⟩:=Cx H
 obtain ⟨c6,H⟩:=iN H
 refine rG (fL b1 0 F3 Z (lB 0 HS Z Jo Z (mV Z ?_)))
 replace HS:=HS.pk 2 [1,0] Z
 refine fJ zM Z (Ey.calls HS  h5) (fun _ wd7 ⟨h8,HS⟩=>⟨_,h8,(aS Z (nL ?_))⟩)
 replace HS:=HS.G6 (j:=1) (cs':=[sV A_a t4 c_a]) Z (by simp only [sV,List.length_set,c6]<;>rfl)
 refine rN 2 Z ?_
 obtain ⟨rfl,rfl⟩:=H8 H
 exact rT _ func14 Z Z ⟨Z,(HS.pk 2 [0] Z)⟩
theorem Ei.calls {a_:List Int} {k_:Int} {r1:Int} {r2:List Int} (HS:St w0 w (Own (Ac .i64) 2 A_a c_a uu a_::L)) (H:Ei.f K a_ k_=some (r1,r2)) :
   Calls prog 22 #[sV A_a a_ c_a,I k_] w (Ei.post w0 L A_a c_a r1 r2):=by
 unfold Ei.f at H
 refine cG func22 Z ?_
 refine rN 7 Z ?_
 refine G.name (fun e1 c1=>?_)
 have d1:∀ a1,a1≤K→∀ (x4:List Int) (k_5 i_6:Int) (w:World),Ei.l1 K a1 x4 k_5 i_6=some (r1,r2)→St w0 w (Own (Ac .i64) 2 A_a c_a uu x4::L)→G prog 22 19 [(0,sV A_a x4 c_a),(1,I k_5),(5,I i_6)] e1 w (Ei.post w0 L A_a c_a r1 r2):=by
  refine lp (fun _ _ _ w H _=>by rw [Ei.l1] at H; cases H) fun b1 g1 f1 x4 k_5 i_6 w H HS=>?_
  rw [Ei.l1] at H
  subst c1
  refine rN 2 Z (rG (pS 2 Z (lS Z Z U26 Z (GO.lss Z Z Z Z (nL ?_)))))
  rcases iS H with ⟨c10,H⟩|⟨c10,H⟩
  ·
   refine nB Z (tF c10) (rN 3 Z ?_)
   obtain ⟨rfl,rfl⟩:=H8 H
   exact rT _ func22 Z Z ⟨Z,HS⟩
  refine yB Z (tT c10) (rN 4 Z ?_)
  obtain ⟨c11,H⟩:=iN H
  refine rG (pS 3 Z (iX Z U26 sz2 (rk (ro 0 Z) HS) c11 (GO.Hl (T:=(Ac .i64)) (j:=0) (n:=i_6.toNat) (o:=0) (vs:=[I k_5]) k_5 HS Z Ao Z Z Z Z (htN na2 Z) Z (getD_some (d:=0) (ltN c11)) Z Z fun wd12 HS=>nL (G.len (t:=0) (m:=(x4.set i_6.toNat k_5).length) Z (by simp only [List.length_set]<;>rfl) (rN 4 Z (gW (f1 b1 (lR _) _ _ _ _ H HS) Z))))))
 exact gW (d1 K (lR _) _ _ _ _ H HS) Z
theorem Ht.calls {c1:Int} {a1:List Int} {k_:Int} {r1:Int} {r2:List Int} (HS:St w0 w (Own (Ac .i64) 2 A_a c_a uu a1::L)) (H:Ht.f K c1 a1 k_=some (r1,r2)) :
  Calls prog 15 #[.agg [I c1,sV A_a a1 c_a].toArray,I k_] w (Ht.post w0 L A_a c_a r1 r2):=by
 unfold Ht.f at H
 refine cG func15 Z ?_
 refine sQ (rG (bA HS Z fun b1 wd2 HS=>aS Z (nL (sQ ?_))))
 obtain ⟨t3,t4,h5,H⟩:=Cx H
 obtain ⟨c6,H⟩:=iN H
 refine rG (fL b1 1 X6 Z (lB 0 HS Z Ip Z (mV Z ?_)))
 replace HS:=HS.pk 2 [1,0] Z
 refine fJ zW Z (Ei.calls HS  h5) (fun _ wd7 ⟨h8,HS⟩=>⟨_,h8,(aS Z (nL ?_))⟩)
 replace HS:=HS.G6 (j:=1) (cs':=[I c1,sV A_a t4 c_a]) Z (by simp only [sV,List.length_set,c6]<;>rfl)
 refine rN 2 Z ?_
 obtain ⟨rfl,rfl⟩:=H8 H
 exact rT _ func15 Z Z ⟨Z,(HS.pk 2 [0] Z)⟩
theorem El.calls {a_:List Int} {k_:Int} {r1:Int} (HS:St w0 w (L)) (r_a:Bv w0 L (Ac .i64) A_a c_a uu a_) (H:El.f K a_ k_=some r1) :
   Calls prog 23 #[sV A_a a_ c_a,I k_] w (El.post w0 L r1):=by
 unfold El.f at H
 refine cG func23 Z ?_
 refine rN 7 Z ?_
 refine G.name (fun e1 c1=>?_)
 have d1:∀ a1,a1≤K→∀ (k_4 i_5:Int) (w:World),El.l1 K a1 a_ k_4 i_5=some r1→St w0 w (L)→G prog 23 21 [(0,sV A_a a_ c_a),(1,I k_4),(5,I i_5)] e1 w (El.post w0 L r1):=by
  refine lp (fun _ _ w H _=>by rw [El.l1] at H; cases H) fun b1 g1 f1 k_4 i_5 w H HS=>?_
  rw [El.l1] at H
  subst c1
  refine rN 2 Z (rG (pS 2 Z (lS Z Z U26 Z (GO.lss Z Z Z Z (nL ?_)))))
  rcases iS H with ⟨c9,H⟩|⟨c9,H⟩
  ·
   refine nB Z (tF c9) (rN 3 Z ?_)
   obtain rfl:=sI H
   exact rT _ func23 Z Z ⟨Z,HS⟩
  refine yB Z (tT c9) (rN 5 Z ?_)
  obtain ⟨c10,H⟩:=iN H
  refine rG (pS 2 Z (iX Z U26 sz2 (rk r_a HS) c10 (GO.C8 (T:=(Ac .i64)) (n:=i_5.toNat) (o:=0) HS r_a Z Z (getD_some (d:=0) (ltN c10)) Z Z na2 Z (pS 2 Z (nL ?_)))))
  rcases iS H with ⟨c11,H⟩|⟨c11,H⟩
  ·
   refine yB Z (nF c11) (rN 2 Z ?_)
   obtain rfl:=sI H
   exact rT _ func23 Z Z ⟨Z,HS⟩
  refine nB Z (nT c11) (rN 5 Z (gW (f1 b1 (lR _) _ _ _ H HS) Z))
 exact gW (d1 K (lR _) _ _ _ H HS) Z
theorem Ga.calls {c1:Int} {a1:List Int} {k_:Int} {r1:Int} (HS:St w0 w (L)) (r_a:Bv w0 L (Ac .i64) A_a c_a uu a1) (H:Ga.f K c1 a1 k_=some r1) :
   Calls prog 16 #[.agg [I c1,sV A_a a1 c_a].toArray,I k_] w (Ga.post w0 L r1):=by
 unfold Ga.f at H
 refine cG func16 Z ?_
 refine sQ (rG (bA HS Z fun b1 wd2 HS=>aS Z (nL (sQ ?_))))
 obtain ⟨t3,h4,H⟩:=bI H
 refine rG (fL b1 1 X6 Z (lB 0 HS Z Ip Z (mV Z (fJ xC Z (El.calls HS (rD 1 r_a) h4) (fun _ wd5 ⟨h6,HS⟩=>⟨_,h6,(aS Z (nL (rN 3 Z ?_)))⟩)))))
 rcases iE H with ⟨c7,H⟩|⟨c7,H⟩
 ·
  refine yB Z (tT c7) (rN 2 Z ?_)
  obtain rfl:=sI H
  exact rT _ func16 Z Z ⟨Z,(HS.pk 1 [] Z)⟩
 refine nB Z (tF c7) (rN 3 Z ?_)
 obtain rfl:=sI H
 exact rT _ func16 Z Z ⟨Z,(HS.pk 1 [] Z)⟩
theorem Ff.calls {a1:List (List Am)} {y_a:Nat→(Ty.slice 129 Ak).Lay} {r1:Bool} (HS:St w0 w (L)) (r_a:Bv w0 L (Ty.slice 129 Ak) A_a c_a y_a a1) (H:Ff.f K a1=some r1) :
   Calls prog 7 #[.agg [sV A_a a1 c_a].toArray] w (Ff.post w0 L r1):=by
 unfold Ff.f at H
 refine cG func7 Z ?_
 refine sQ (rG (bA HS Z fun b1 wd2 HS=>aS Z (nL (rN 3 Z ?_))))
 obtain ⟨t3,h4,H⟩:=bI H
 refine rG (lW 0 HS Z iQ (mV Z (fJ Aa3 Z (G9.calls HS (rD 1 r_a) h4) (fun _ wd5 ⟨h6,HS⟩=>⟨_,h6,(aS Z (nL (rN 3 Z ?_)))⟩))))
 rcases iE H with ⟨c7,H⟩|⟨c7,H⟩
 ·
  refine yB Z (tT c7) (rN 2 Z ?_)
  obtain rfl:=sI H
  exact rT _ func7 Z Z ⟨Z,(HS.pk 1 [] Z)⟩
 refine nB Z (tF c7) (rN 2 Z ?_)
 obtain ⟨t8,h9,H⟩:=bI H
 obtain ⟨t15,t16,t17,h18,H⟩:=Gb H
 refine rG (lW 0 HS Z iQ (fJ eP Z (Ep.calls HS (rD 1 r_a) h9) (fun _ wd13 ⟨A10,c11,y12,h14,HS⟩=>⟨_,h14,(fJ xS Z (Bz.calls HS (ro 0 Z) h18) (fun _ wd21 ⟨A19,c20,h22,HS⟩=>⟨_,h22,(pS 3 Z (GO.alloc HS Z bR Z Z fun b23 wd24 HS=>sW 0 HS Z Le Z fun wd25 HS=>aS Z (nL (sQ ?_))))⟩))⟩)))
 obtain ⟨t26,h27,H⟩:=bI H
 refine rG (lW 3 HS Z iQ (fJ eP Z (Ep.calls HS (rD 4 r_a) h27) (fun _ wd31 ⟨A28,c29,y30,h32,HS⟩=>⟨_,h32,(GO.alloc HS Z vE Z Z fun b33 wd34 HS=>sW 0 HS Z Iy Z fun wd35 HS=>nL (sQ ?_))⟩)))
 obtain ⟨t36,t37,t38,h39,H⟩:=Gb H
 refine rG (lW 0 HS Z Iy (fJ rH Z (Bu.calls HS (ro 1 Z) h39) (fun _ wd42 ⟨A40,c41,h43,HS⟩=>⟨_,h43,(pS 3 Z (GO.alloc HS Z bR Z Z fun b44 wd45 HS=>sW 0 HS Z Le Z fun wd46 HS=>aS Z (nL (rN 2 Z ?_))))⟩)))
 obtain ⟨t52,h53,H⟩:=bI H
 rcases iS H with ⟨c56,H⟩|⟨c56,H⟩
 ·
  refine rG (lW 0 HS Z Le (lW 4 HS Z Le (fJ Vx Z (Em.calls HS (ro 1 Z) (ro 5 Z) h53) (fun _ wd54 ⟨h55,HS⟩=>⟨_,h55,(pS 2 Z (kN 36 Z (congrArg Bool.not (Cv c56)) (oF Z (oF Z (oF Z (GO.Gq Z Z Z Z Z (nL (rN 3 Z ?_))))))))⟩))))
  obtain rfl:=sI H
  exact rT _ func7 Z Z ⟨Z,(HS.pk 8 [] Z)⟩
 refine rG (lW 0 HS Z Le (lW 4 HS Z Le (fJ Vx Z (Em.calls HS (ro 1 Z) (ro 5 Z) h53) (fun _ wd54 ⟨h55,HS⟩=>⟨_,h55,(pS 2 Z (kN 36 Z (congrArg Bool.not c56) (oN Z (mV Z (bK (oN Z (mV Z (bK (oN Z (GO.neq Z Z Z Z (bK ?_)))))))))))⟩))))
 refine GO.Iw Z Z Z Z Z (nL ?_)
 rcases iS H with ⟨c57,H⟩|⟨c57,H⟩
 ·
  refine yB Z (nF c57) (rN 2 Z ?_)
  obtain rfl:=sI H
  exact rT _ func7 Z Z ⟨Z,(HS.pk 8 [] Z)⟩
 refine nB Z (nT c57) (rN 3 Z ?_)
 obtain ⟨t58,h59,H⟩:=bI H
 obtain ⟨t65,h66,H⟩:=bI H
 refine G.Jk mixed (fun w=>St w0 w (Box b33 33 [sV A28 t26 c29]::Box b1 24 [sV A_a a1 c_a]::L)) [0,1] [0,1,2,3,4] [] (by kernel_rfl) (by kernel_rfl) (HS.drew.pk 8 [2,7] Z) ?_
 replace HS:=HS.drew
 refine GX.ls Z Z Z (HS.pk 8 [2,7] Z) (fun _ HS _ g=>lW 0 HS Z Iy g) Z (GX.ls Z Z Z (HS.pk 8 [2,7] Z) (fun _ HS _ g=>lW 1 HS Z iQ g) Z (GX.l2 Z (fJ eP Z (Ep.calls HS (rD 8 r_a) h59) (fun _ wd63 ⟨A60,c61,y62,h64,HS⟩=>⟨_,h64,(GX.fin (HS.pk 9 [3,8] Z) (GX.l2 Z (fJ zR Z (Ig.calls HS (ro 4 Z) (ro 0 Z) h66) (fun _ wd67 ⟨h68,HS⟩=>⟨_,h68,(GX.fin (HS.pk 9 [3,8] Z) (GX.ps 1 Z (GX.nil ?_)))⟩))))⟩))))
 rcases iS H with ⟨c69,H⟩|⟨c69,H⟩
 ·
  refine yB Z (congrArg Bool.not (Cv c69)) (rN 2 Z ?_)
  obtain rfl:=sI H
  exact rT _ func7 Z Z ⟨Z,(HS.pk 9 [] Z)⟩
 refine nB Z (congrArg Bool.not c69) (rN 4 Z ?_)
 obtain ⟨t70,t71,h72,H⟩:=Cx H
 obtain ⟨c73,H⟩:=iN H
 refine rG (lW 3 HS Z Iy (mV Z ?_))
 replace HS:=HS.pk 9 [4,0,1,2,3,5,6,7,8] Z
 refine fJ yE Z (Hd.calls HS  h72) (fun _ wd74 ⟨h75,HS⟩=>⟨_,h75,(aS Z (nL ?_))⟩)
 replace HS:=HS.G6 (j:=4) (cs':=[sV A28 t71 c29]) Z (by simp only [sV,List.length_set,c73]<;>rfl)
 refine rN 2 Z ?_
 rcases iE H with ⟨c82,H⟩|⟨c82,H⟩
 ·
  refine rG (pS 3 Z (kN 51 Z (tT c82) (oF Z (oF Z (oF Z (oF Z (pS 2 Z (oF Z (oF Z (oF Z (GO.Gq Z Z Z Z Z (nL (rN 3 Z ?_)))))))))))))
  obtain rfl:=sI H
  exact rT _ func7 Z Z ⟨Z,(HS.pk 9 [] Z)⟩
 obtain ⟨t83,h84,H⟩:=bI H
 rcases iS H with ⟨c87,H⟩|⟨c87,H⟩
 ·
  refine rG (pS 3 Z (kN 51 Z (tF c82) (oN Z (lW 2 HS Z Le (bK (oN Z (lW 5 HS Z Le (bK (oN Z (fJ Vx Z (Em.calls HS (ro 3 Z) (ro 6 Z) h84) (fun _ wd85 ⟨h86,HS⟩=>⟨_,h86,(bK (oN Z (GO.not Z Z Z (bK ?_))))⟩)))))))))))
  refine pS 2 Z (kN 57 Z (congrArg Bool.not (Cv c87)) (oF Z (oF Z (oF Z (GO.Gq Z Z Z Z Z (nL (rN 3 Z ?_)))))))
  obtain rfl:=sI H
  exact rT _ func7 Z Z ⟨Z,(HS.pk 9 [] Z)⟩
 refine rG (pS 3 Z (kN 51 Z (tF c82) (oN Z (lW 2 HS Z Le (bK (oN Z (lW 5 HS Z Le (bK (oN Z (fJ Vx Z (Em.calls HS (ro 3 Z) (ro 6 Z) h84) (fun _ wd85 ⟨h86,HS⟩=>⟨_,h86,(bK (oN Z (GO.not Z Z Z (bK ?_))))⟩)))))))))))
 refine pS 2 Z (kN 57 Z (congrArg Bool.not c87) (oN Z (mV Z (bK (oN Z (mV Z (bK (oN Z (GO.neq Z Z Z Z (bK (GO.Iw Z Z Z Z Z (nL (nB Z (nT c57) (rN 4 Z ?_))))))))))))))
 obtain ⟨t88,t89,h90,H⟩:=Cx H
 obtain ⟨c91,H⟩:=iN H
 refine rG (lW 2 HS Z Le (mV Z ?_))
 replace HS:=HS.pk 9 [3,0,1,2,4,5,6,7,8] Z
 refine fJ xV Z (Ht.calls HS  h90) (fun _ wd92 ⟨h93,HS⟩=>⟨_,h93,(aS Z (nL ?_))⟩)
 replace HS:=HS.G6 (j:=3) (cs':=[I t36,sV A40 t89 c41]) Z (by simp only [sV,List.length_set,c91]<;>rfl)
 refine rN 3 Z ?_
 obtain ⟨t94,h95,H⟩:=bI H
 refine rG (lW 3 HS Z Le (mV Z (fJ qN Z (Ga.calls HS (ro 0 Z) h95) (fun _ wd96 ⟨h97,HS⟩=>⟨_,h97,(aS Z (nL (rN 3 Z ?_)))⟩))))
 rcases iE H with ⟨c98,H⟩|⟨c98,H⟩
 ·
  refine yB Z (tT c98) (rN 2 Z ?_)
  obtain rfl:=sI H
  exact rT _ func7 Z Z ⟨Z,(HS.pk 9 [] Z)⟩
 refine nB Z (tF c98) (rN 4 Z ?_)
 rcases iS H with ⟨c99,H⟩|⟨c99,H⟩
 ·
  refine yB Z (nF c99) (rN 2 Z ?_)
  obtain rfl:=sI H
  exact rT _ func7 Z Z ⟨Z,(HS.pk 9 [] Z)⟩
 refine nB Z (nT c99) (rN 2 Z ?_)
 obtain ⟨t100,h101,H⟩:=bI H
 obtain ⟨t107,t108,t109,h110,H⟩:=Gb H
 refine rG (lW 8 HS Z iQ (fJ eP Z (Ep.calls HS (rD 9 r_a) h101) (fun _ wd105 ⟨A102,c103,y104,h106,HS⟩=>⟨_,h106,(fJ rH Z (Bu.calls HS (ro 0 Z) h110) (fun _ wd113 ⟨A111,c112,h114,HS⟩=>⟨_,h114,(pS 3 Z (GO.alloc HS Z bR Z Z fun b115 wd116 HS=>sW 0 HS Z Le Z fun wd117 HS=>aS Z (nL (rN 2 Z ?_))))⟩))⟩)))
 obtain ⟨t123,h124,H⟩:=bI H
 rcases iS H with ⟨c127,H⟩|⟨c127,H⟩
 ·
  refine rG (lW 0 HS Z Le (lW 8 HS Z Le (fJ Vx Z (Em.calls HS (ro 1 Z) (ro 9 Z) h124) (fun _ wd125 ⟨h126,HS⟩=>⟨_,h126,(pS 2 Z (kN 83 Z (congrArg Bool.not (Cv c127)) (oF Z (oF Z (oF Z (GO.Gq Z Z Z Z Z (nL (rN 3 Z ?_))))))))⟩))))
  obtain rfl:=sI H
  exact rT _ func7 Z Z ⟨Z,(HS.pk 12 [] Z)⟩
 refine rG (lW 0 HS Z Le (lW 8 HS Z Le (fJ Vx Z (Em.calls HS (ro 1 Z) (ro 9 Z) h124) (fun _ wd125 ⟨h126,HS⟩=>⟨_,h126,(pS 2 Z (kN 83 Z (congrArg Bool.not c127) (oN Z (mV Z (bK (oN Z (mV Z (bK (oN Z (GO.neq Z Z Z Z (bK ?_)))))))))))⟩))))
 refine GO.Iw Z Z Z Z Z (nL ?_)
 rcases iS H with ⟨c128,H⟩|⟨c128,H⟩
 ·
  refine yB Z (nF c128) (rN 2 Z ?_)
  obtain rfl:=sI H
  exact rT _ func7 Z Z ⟨Z,(HS.pk 12 [] Z)⟩
 refine nB Z (nT c128) (rN 4 Z ?_)
 obtain ⟨t129,h130,H⟩:=bI H
 refine rG (lW 6 HS Z Le (mV Z (fJ qN Z (Ga.calls HS (ro 3 Z) h130) (fun _ wd131 ⟨h132,HS⟩=>⟨_,h132,(aS Z (nL (rN 3 Z ?_)))⟩))))
 rcases iE H with ⟨c133,H⟩|⟨c133,H⟩
 ·
  refine yB Z (tT c133) (rN 2 Z ?_)
  obtain rfl:=sI H
  exact rT _ func7 Z Z ⟨Z,(HS.pk 12 [] Z)⟩
 refine nB Z (tF c133) (rN 4 Z ?_)
 rcases iS H with ⟨c134,H⟩|⟨c134,H⟩
 ·
  refine yB Z (nF c134) (rN 2 Z ?_)
  obtain rfl:=sI H
  exact rT _ func7 Z Z ⟨Z,(HS.pk 12 [] Z)⟩
 refine nB Z (nT c134) (rN 3 Z ?_)
 obtain rfl:=sI H
 exact rT _ func7 Z Z ⟨Z,(HS.pk 12 [] Z)⟩
end Go.Proofs.YtgkgmhkgahalgaaGreat
