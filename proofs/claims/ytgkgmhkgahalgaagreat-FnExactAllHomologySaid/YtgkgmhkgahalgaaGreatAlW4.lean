/-
  The walks through the functions: a call comes to what its list function says.
-/
import Derived.Test.YtgkgmhkgahalgaaGreatAlF
import Derived.Test.YtgkgmhkgahalgaaGreatAlW3
set_option linter.unusedVariables false
set_option linter.unusedSimpArgs false
namespace Go.Proofs.YtgkgmhkgahalgaaGreat
open Go.RowKit
open Tryz
variable {w0 w:World} {L:List Df} {K:Nat} {A_a A_b A_c A_d A_e A_f A_g A_h A_i A_j A_k A_l A_m A_n A_o A_p A_q A_r A_s A_t A_u A_v A_w A_x A_y A_z:Option Addr} {c_a c_b c_c c_d c_e c_f c_g c_h c_i c_j c_k c_l c_m c_n c_o c_p c_q c_r c_s c_t c_u c_v c_w c_x c_y c_z:Nat}
set_option maxRecDepth 20000
set_option maxHeartbeats 40000000
theorem Dm.calls {a1:List (List Aw)} {y_a:Nat→(Ty.slice 83 Bb).Lay} {r1:List Int} (HS:St w0 w (L)) (r_a:Ce w0 L (Ty.slice 83 Bb) A_a c_a y_a a1) (H:Dm.f K a1=some r1) :
    Calls prog 126 #[.agg [sV A_a a1 c_a].toArray] w (Dm.post w0 L r1):=by
  unfold Dm.f at H
  refine cG func126 Z ?_
  refine sQ (rG (bA HS Z fun b1 wd2 HS=>aS Z (nL (sQ ?_))))
  obtain ⟨t3,h4,H⟩:=bI H
  obtain ⟨t7,h8,H⟩:=bI H
  refine rG (fL b1 0 H8 Z (lB 0 HS Z Kr Z (fJ Pt Z (Dh.calls HS (rD 1 r_a) h4) (fun _ wd5 ⟨h6,HS⟩=>⟨_,h6,(GO.mul Z Z Z Z (fJ Xr Z (Ey.calls HS  h8) (fun _ wd11 ⟨A9,c10,h12,HS⟩=>⟨_,h12,(GO.alloc HS Z bT Z Z fun b13 wd14 HS=>GO.Kq (j:=0) (vs:=[sV A9 t7 c10]) ([sV A9 t7 c10]) HS Z Z Z Z Z (htN Ha Z) Z Z Z fun wd15 HS=>nL (sQ ?_))⟩)))⟩))))
  obtain ⟨t16,h17,H⟩:=bI H
  obtain ⟨c18,H⟩:=iN H
  refine rG (lW 2 HS Z Jn (GO.Qp Z Z Z Z ?_))
  replace HS:=HS.pk 3 [0,1,2] Z
  refine fJ Yi Z (Ae.calls HS (rD 1 r_a) h17) (fun _ wd19 ⟨h20,HS⟩=>⟨_,h20,(nL (sQ ?_))⟩)
  obtain ⟨t21,h22,H⟩:=bI H
  refine rG (lB 0 HS Z Ha Z (fJ aT Z (Dn.calls HS (ro 1 Z) h22) (fun _ wd25 ⟨A23,c24,h26,HS⟩=>⟨_,h26,(aS Z (nL ?_))⟩)))
  obtain rfl:=sI H
  exact rT _ func126 Z Z ⟨_,_,Z,(HS.pk 4 [0] Z)⟩
theorem Di.calls {tet f:Int} {i1 h1:Int} {d1 c1:Int} {e1 g1:Int} {a1:List Int} {f1:Nat} {r1:List Int} (HS:St w0 w (Box f1 26 [sV A_a a1 c_a]::Own (Ad .i64) 2 A_a c_a uu a1::L)) (H:Di.f K tet f i1 h1 d1 c1 e1 g1 a1=some r1) :
    Calls prog 166 #[I tet,I f,.agg [I i1,I h1].toArray,.agg [I d1,I c1,I e1,I g1].toArray,pT f1] w (Di.post w0 L f1 A_a c_a r1):=by
  unfold Di.f at H
  refine cG func166 Z ?_
  refine sQ (rG (bA HS Z fun b1 wd2 HS=>bA HS Z fun b3 wd4 HS=>nL ?_))
  obtain ⟨c5,H⟩:=iN H
  obtain ⟨t6,h7,H⟩:=bI H
  obtain ⟨c8,H⟩:=iN H
  refine G.lex mixed [1,2,3,4,5,8,9,0,6,7,10,11,12] (by kernel_rfl) ?_
  replace HS:=HS.drew
  refine GX.ps 4 Z (qL Z Z (fun _ _ g=>fL b1 0 Hf Z g) Z (GX.ps 1 Z (qL Z Z (fun _ _ g=>GO.ixW Z Z Z Oe sz2 c5 Z g) Z (GX.l1 Z Z Z (fun _ g=>lB 2 HS Z Ha Z g) Z (GX.l1 Z Z Z (fun _ g=>lB 1 HS Z na2 Z g) Z (GX.ps 1 Z (GX.l1 Z Z Z (fun _ g=>GO.ldW (j:=0) ([d1,c1,e1,g1]:List Int) HS Z Z Z c5 Z Z na2 Z g) Z (GX.ps 1 Z (GX.l2 Z ?_)))))))))
  replace HS:=HS.pk 4 [3,0,1,2] Z
  refine fJ dA Z (Gn.calls HS  h7) (fun _ wd9 ⟨h10,HS⟩=>⟨_,h10,(GX.fin tv (GX.nil ?_))⟩)
  replace HS:=HS.F8 (j:=3) (cs':=[sV A_a t6 c_a]) Z (by simp only [sV,List.length_set,c8] <;> rfl)
  obtain rfl:=sI H
  exact G.Ki func166 Z ⟨Z,(HS.pk 4 [3,0] Z)⟩
theorem Af.calls {a1:List (List Aw)} {d1:List Int} {y_a:Nat→(Ty.slice 83 Bb).Lay} {c1:Nat} {r1:List Int} (HS:St w0 w (Box c1 26 [sV A_b d1 c_b]::Own (Ad .i64) 2 A_b c_b uu d1::L)) (r_a:Ce w0 L (Ty.slice 83 Bb) A_a c_a y_a a1) (H:Af.f K a1 d1=some r1) :
    Calls prog 154 #[.agg [sV A_a a1 c_a].toArray,.func (.func 166) #[] #[pT c1]] w (Af.post w0 L c1 A_b c_b r1):=by
  unfold Af.f at H
  refine cG func154 Z ?_
  refine sQ (rG (bA HS Z fun b1 wd2 HS=>nL (sQ (rG (fL b1 0 H8 Z (lB 0 HS Z Kr Z (lS Z Z U31 Z (mV Z (nL (rN 2 Z ?_))))))))))
  refine G.name (fun s1 n1=>?_)
  have q1:∀ h1,h1≤K→∀ (x79:List Int) (x80:Int) (w:World),Af.l1 K h1 a1 x79 x80=some r1→St w0 w (Box c1 26 [sV A_b x79 c_b]::Own (Ad .i64) 2 A_b c_b uu x79::L)→G prog 154 36 [(1,.func (.func 166) #[] #[pT c1]),(9,sV A_a a1 c_a),(10,I (a1.length:Int)),(11,I x80)] s1 w (Af.post w0 L c1 A_b c_b r1):=by
   refine lp (fun _ _ w H _=>by rw [Af.l1] at H; cases H) fun g1 u1 t1 x79 x80 w H HS=>?_
   rw [Af.l1] at H
   subst n1
   refine rN 3 Z ?_
   rcases iS H with ⟨c157,H⟩ | ⟨c157,H⟩
   ·
    refine nB Z (tF c157) (G.exit Z ?_)
    obtain rfl:=sI H
    exact G.Ki func154 Z ⟨Z,HS⟩
   refine yB Z (tT c157) (rN 4 Z ?_)
   obtain ⟨c158,H⟩:=iN H
   refine rG (mV Z (iX Z U31 Nh (rk (rD 2 r_a) HS) c158 (GO.Dt (T:=(Ty.slice 83 Bb)) (n:=x80.toNat) (o:=0) HS (rD 2 r_a) Z Z (getD_some (d:=[]) (ltN c158)) Z Z Ng Z (pS 2 Z (nL (sQ (rG (mV Z (lS Z Z U81 Z (mV Z (nL (rN 2 Z ?_))))))))))))
   refine G.name (fun o1 p1=>?_)
   have k1:∀ i1,i1≤g1→∀ (x183:List Int) (x184:Int) (w:World),Af.l4 K i1 a1 x80 x183 x184=some r1→St w0 w (Box c1 26 [sV A_b x183 c_b]::Own (Ad .i64) 2 A_b c_b uu x183::L)→G prog 154 36 [(1,.func (.func 166) #[] #[pT c1]),(4,I x80),(9,sV A_a a1 c_a),(10,I (a1.length:Int)),(11,I x80),(16,sV ((y_a x80.toNat).A) (a1.getD x80.toNat []) ((y_a x80.toNat).c)),(17,I ((a1.getD x80.toNat []).length:Int)),(18,I x184)] o1 w (Af.post w0 L c1 A_b c_b r1):=by
    refine lp (fun _ _ w H _=>by rw [Af.l4] at H; cases H) fun e1 m1 f1 x183 x184 w H HS=>?_
    rw [Af.l4] at H
    subst p1
    refine rN 3 Z ?_
    rcases iS H with ⟨c209,H⟩ | ⟨c209,H⟩
    ·
     refine nB Z (tF c209) (rN 4 Z (gW (t1 e1 (Nat.le_of_succ_le m1) _ _ _ H HS) Z))
    refine yB Z (tT c209) (rN 4 Z ?_)
    obtain ⟨c210,H⟩:=iN H
    obtain ⟨e211,h212,H⟩:=Ih H
    refine rG (mV Z (GO.ix Z Z Z U81 Nr ((Ce.elem (rD 2 r_a) c158.1 c158.2) _ HS).2.2.1 c210.1 c210.2 Z (GO.Lb (T:=Bb) (n:=x184.toNat) HS (Ce.elem (rD 2 r_a) c158.1 c158.2) Z Z (Hm (ltN c210) h212) J2 Z (GO.alloc HS Z Rp Z Z fun b213 wd214 HS=>aS Z (sW 0 HS Z J2 Z fun wd215 HS=>nL (sQ ?_))))))
    obtain ⟨t216,h217,H⟩:=bI H
    refine rG (lW 0 HS Z J2 (fJ Vj Z (Ct.calls HS  h217) (fun _ wd218 ⟨h219,HS⟩=>⟨_,h219,(GO.not Z Z Z (nL ?_))⟩)))
    rcases iE H with ⟨c220,H⟩ | ⟨c220,H⟩
    ·
     refine nB Z (congrArg Bool.not c220) (rN 4 Z (gW (f1 e1 (lR _) _ _ _ H (HS.pk 3 [1,2] Z)) Z))
    refine yB Z (congrArg Bool.not (Cy c220)) ?_
    obtain ⟨t221,t222,t223,t224,h225,H⟩:=Ie H
    obtain ⟨t228,h229,H⟩:=bI H
    obtain ⟨c230,H⟩:=iN H
    refine G.Jg mixed (fun w=>St w0 w (Box b213 83 [I e211.Tet,I e211.Perm]::L)) [3,5] [0,1,2,4,3,5,6,7] [] (by kernel_rfl) (by kernel_rfl) (HS.drew.pk 3 [0] Z) ?_
    replace HS:=HS.drew
    refine GX.ps 3 Z (qL Z Z (fun _ _ g=>fL b213 1 Jy Z g) Z (GX.ls Z Z Z (HS.pk 3 [0] Z) (fun _ HS _ g=>lW 0 HS Z J2 g) Z (GX.ls Z Z Z (HS.pk 3 [0] Z) (fun _ HS _ g=>lB 0 HS Z na2 Z g) Z (GX.l2 Z (fJ Pp Z (Em.calls HS  h225) (fun _ wd226 ⟨h227,HS⟩=>⟨_,h227,(GX.fin (HS.pk 3 [0] Z) (GX.l2 Z ?_))⟩))))))
    replace HS:=HS.pk 3 [1,2,0] Z
    refine GO.clo Z Z func166 kL.2.1 kL.2.2 Z Z (Di.calls HS  h229) (fun _ wd231 ⟨h232,HS⟩=>⟨_,h232,(GX.fin (HS.pk 3 [2] Z) (GX.nil (rN 3 Z (gW (f1 e1 (lR _) _ _ _ H (HS.pk 3 [0,1] Z)) Z))))⟩)
   exact gW (k1 g1 (lR _) _ _ _ H HS) Z
  exact gW (q1 K (lR _) _ _ _ H (HS.pk 3 [1,2] Z)) Z
theorem Cz.calls {a1:List (List Aw)} {y_a:Nat→(Ty.slice 83 Bb).Lay} {r1:List Int} (HS:St w0 w (L)) (r_a:Ce w0 L (Ty.slice 83 Bb) A_a c_a y_a a1) (H:Cz.f K a1=some r1) :
    Calls prog 127 #[.agg [sV A_a a1 c_a].toArray] w (Cz.post w0 L r1):=by
  unfold Cz.f at H
  refine cG func127 Z ?_
  refine sQ (rG (bA HS Z fun b1 wd2 HS=>aS Z (nL (sQ ?_))))
  obtain ⟨t3,h4,H⟩:=bI H
  obtain ⟨t7,h8,H⟩:=bI H
  refine rG (fL b1 0 H8 Z (lB 0 HS Z Kr Z (fJ Pt Z (Dh.calls HS (rD 1 r_a) h4) (fun _ wd5 ⟨h6,HS⟩=>⟨_,h6,(GO.mul Z Z Z Z (fJ Xr Z (Ey.calls HS  h8) (fun _ wd11 ⟨A9,c10,h12,HS⟩=>⟨_,h12,(GO.alloc HS Z bT Z Z fun b13 wd14 HS=>GO.Kq (j:=0) (vs:=[sV A9 t7 c10]) ([sV A9 t7 c10]) HS Z Z Z Z Z (htN Ha Z) Z Z Z fun wd15 HS=>nL (sQ ?_))⟩)))⟩))))
  obtain ⟨t16,h17,H⟩:=bI H
  obtain ⟨c18,H⟩:=iN H
  refine rG (lW 2 HS Z Jn (GO.Qp Z Z Z Z ?_))
  replace HS:=HS.pk 3 [0,1,2] Z
  refine fJ Yi Z (Af.calls HS (rD 1 r_a) h17) (fun _ wd19 ⟨h20,HS⟩=>⟨_,h20,(nL (sQ ?_))⟩)
  obtain ⟨t21,h22,H⟩:=bI H
  refine rG (lB 0 HS Z Ha Z (fJ aT Z (Dn.calls HS (ro 1 Z) h22) (fun _ wd25 ⟨A23,c24,h26,HS⟩=>⟨_,h26,(aS Z (nL ?_))⟩)))
  obtain rfl:=sI H
  exact rT _ func127 Z Z ⟨_,_,Z,(HS.pk 4 [0] Z)⟩
theorem Ep.calls {a1:List (List Aw)} {y_a:Nat→(Ty.slice 83 Bb).Lay} {r1:List Int} (HS:St w0 w (L)) (r_a:Ce w0 L (Ty.slice 83 Bb) A_a c_a y_a a1) (H:Ep.f K a1=some r1) :
    Calls prog 86 #[.agg [sV A_a a1 c_a].toArray] w (Ep.post w0 L r1):=by
  unfold Ep.f at H
  refine cG func86 Z ?_
  refine sQ (rG (bA HS Z fun b1 wd2 HS=>aS Z (nL (sQ ?_))))
  obtain ⟨t3,h4,H⟩:=bI H
  obtain ⟨t9,h10,H⟩:=bI H
  obtain ⟨t13,h14,H⟩:=bI H
  obtain ⟨t19,h20,H⟩:=bI H
  obtain ⟨t23,h24,H⟩:=bI H
  obtain ⟨t29,h30,H⟩:=bI H
  obtain ⟨t33,h34,H⟩:=bI H
  refine G.Jg mixed (fun w=>St w0 w (Box b1 33 [sV A_a a1 c_a]::L)) [0,3,6,10] [9,0,3,6,10,1,2,4,5,7,8,11,12,13] [] (by kernel_rfl) (by kernel_rfl) HS.drew ?_
  replace HS:=HS.drew
  refine qL Z Z (fun _ _ g=>fL b1 0 H8 Z g) Z (GX.ls Z Z Z HS (fun _ HS _ g=>lW 0 HS Z Jn g) Z (GX.ls Z Z Z HS (fun _ HS _ g=>lW 0 HS Z Jn g) Z (GX.ls Z Z Z HS (fun _ HS _ g=>lW 0 HS Z Jn g) Z (GX.ls Z Z Z HS (fun _ HS _ g=>lB 0 HS Z Kr Z g) Z (GX.l2 Z (fJ jC Z (Dm.calls HS (rD 1 r_a) h4) (fun _ wd7 ⟨A5,c6,h8,HS⟩=>⟨_,h8,(GX.fin (HS.pk 2 [1] Z) (GX.l2 Z (fJ O0 Z (D5.calls HS (ro 0 Z) h10) (fun _ wd11 ⟨h12,HS⟩=>⟨_,h12,(GX.fin (HS.pk 2 [1] Z) (GX.l2 Z (fJ Uo Z (Bv.calls HS (rD 2 r_a) h14) (fun _ wd17 ⟨A15,c16,h18,HS⟩=>⟨_,h18,(GX.fin (HS.pk 3 [2] Z) (GX.l2 Z ?_))⟩))))⟩))))⟩)))))))
  refine fJ O0 Z (D5.calls HS (ro 0 Z) h20) (fun _ wd21 ⟨h22,HS⟩=>⟨_,h22,(GX.fin (HS.pk 3 [2] Z) (GX.l2 Z (fJ cZ Z (Cz.calls HS (rD 3 r_a) h24) (fun _ wd27 ⟨A25,c26,h28,HS⟩=>⟨_,h28,(GX.fin (HS.pk 4 [3] Z) (GX.l2 Z (fJ O0 Z (D5.calls HS (ro 0 Z) h30) (fun _ wd31 ⟨h32,HS⟩=>⟨_,h32,(GX.fin (HS.pk 4 [3] Z) (GX.l2 Z (fJ Pt Z (Dh.calls HS (rD 4 r_a) h34) (fun _ wd35 ⟨h36,HS⟩=>⟨_,h36,(GX.fin (HS.pk 4 [3] Z) (GX.l2 Z (GO.Fj (el:=2) ([I t9,I t19,I t29,I t33]) HS Z Z (fun _=>by kernel_rfl) Z fun b37 wd38 HS=>GX.fin (HS.pk 5 [4] Z) ?_)))⟩))))⟩))))⟩))))⟩)
  replace HS:=HS.Ij (T:=(Ad .i64)) (j:=0) Z Av uu ([t9,t19,t29,t33]:List Int) Z (K9 Z)
  refine qL Z Z (fun _ _ g=>GO.Kj (t:=15) (m:=([t9,t19,t29,t33]:List Int).length) (c':=([t9,t19,t29,t33]:List Int).length) Z Z Z (aS Z g)) Z (GX.nil ?_)
  obtain rfl:=sI H
  exact rT _ func86 Z Z ⟨_,_,Z,(HS.pk 5 [0] Z)⟩
theorem Ee.calls {rows columns:Int} {r1 r2:Int} {r3:List Int} (HS:St w0 w (L)) (H:Ee.f rows columns=some (r1,r2,r3)) :
    Calls prog 52 #[I rows,I columns] w (Ee.post w0 L r1 r2 r3):=by
  unfold Ee.f at H
  refine cG func52 Z ?_
  refine sQ (rG (GO.alloc HS Z Md Z Z fun b1 wd2 HS=>nL (sQ ?_)))
  obtain ⟨c3,H⟩:=iN H
  obtain ⟨c4,H⟩:=iN H
  refine rG (pS 5 Z (GO.make (T:=(Ad .i64)) 0 () HS Av Z Z Z U26 Le Z Z Z c3 c4 Z fun b5 wd6 HS=>GO.Il (.agg [I rows,I columns,sV (sb b5) (List.replicate (w64 (rows * columns)).toNat (0:Int)) ((w64 (rows * columns)).toNat)].toArray) Z Z (fun _=>by kernel_rfl) Z (sW 1 HS Z Du Z fun wd7 HS=>nL ?_)))
  obtain ⟨rfl,rfl,rfl⟩:=Jh H
  exact rT _ func52 Z (I8.J6 (j:=1) (vs:=[I rows,I columns,sV (sb b5) (List.replicate (w64 (rows * columns)).toNat (0:Int)) ((w64 (rows * columns)).toNat)]) HS Z Z Z Du) ⟨_,_,Z,(HS.pk 2 [0] Z)⟩
theorem Be.calls {c1 d1:Int} {a1:List Int} {row column:Int} {r1:Int} (HS:St w0 w (L)) (r_a:Ce w0 L (Ad .i64) A_a c_a uu a1) (H:Be.f c1 d1 a1 row column=some r1) :
    Calls prog 54 #[.agg [I c1,I d1,sV A_a a1 c_a].toArray,I row,I column] w (Be.post w0 L A_a r1):=by
  unfold Be.f at H
  refine cG func54 Z ?_
  refine sQ (rG (bA HS Z fun b1 wd2 HS=>aS Z (nL (sQ ?_))))
  obtain ⟨c3,H⟩:=iN H
  refine rG (fL b1 2 Jf Z (lB 0 HS Z Ha Z (mV Z (fL b1 1 Ew Z (lB 0 HS Z na2 Z (pS 3 Z (iX Z U26 sz2 (rk (rD 1 r_a) HS) c3 (aS Z (nL ?_)))))))))
  obtain rfl:=sI H
  exact rT _ func54 Z Z ⟨Z,(HS.pk 1 [] Z)⟩
theorem Br.calls {c1:List (List Aw)} {y_a:Nat→(Ty.slice 83 Bb).Lay} {r1 r2:Int} {r3:List Int} (HS:St w0 w (L)) (r_a:Ce w0 L (Ty.slice 83 Bb) A_a c_a y_a c1) (H:Br.f K c1=some (r1,r2,r3)) :
    Calls prog 87 #[.agg [sV A_a c1 c_a].toArray] w (Br.post w0 L r1 r2 r3):=by
  unfold Br.f at H
  refine cG func87 Z ?_
  refine sQ (rG (bA HS Z fun b1 wd2 HS=>GO.alloc HS Z Md Z Z fun b3 wd4 HS=>nL (sQ ?_)))
  obtain ⟨t5,h6,H⟩:=bI H
  obtain ⟨t11,h12,H⟩:=bI H
  refine G.Jg mixed (fun w=>St w0 w (Box b1 33 [sV A_a c1 c_a]::L)) [0,2] [0,2,1,3,4,5] [] (by kernel_rfl) (by kernel_rfl) (HS.drew.pk 2 [1] Z) ?_
  replace HS:=HS.drew
  refine GX.ls Z Z Z (HS.pk 2 [1] Z) (fun _ HS _ g=>lW 0 HS Z Jn g) Z (GX.ls Z Z Z (HS.pk 2 [1] Z) (fun _ HS _ g=>lW 0 HS Z Jn g) Z (GX.l2 Z (fJ jC Z (Dm.calls HS (rD 2 r_a) h6) (fun _ wd9 ⟨A7,c8,h10,HS⟩=>⟨_,h10,(GX.fin (HS.pk 3 [2] Z) (GX.l2 Z (fJ Uo Z (Bv.calls HS (rD 3 r_a) h12) (fun _ wd15 ⟨A13,c14,h16,HS⟩=>⟨_,h16,(GX.fin (HS.pk 4 [3] Z) (GX.ps 2 Z (GX.nil (sQ ?_))))⟩))))⟩))))
  obtain ⟨t17,h18,H⟩:=bI H
  obtain ⟨t21,h22,H⟩:=bI H
  obtain ⟨t25,t26,t27,h28,H⟩:=Ej H
  refine rG (mV Z (fJ O0 Z (D5.calls HS (ro 1 Z) h18) (fun _ wd19 ⟨h20,HS⟩=>⟨_,h20,(mV Z (fJ O0 Z (D5.calls HS (ro 0 Z) h22) (fun _ wd23 ⟨h24,HS⟩=>⟨_,h24,(fJ Ur Z (Ee.calls HS  h28) (fun _ wd31 ⟨A29,c30,h32,HS⟩=>⟨_,h32,(GO.alloc HS Z Md Z Z fun b33 wd34 HS=>sW 0 HS Z Du Z fun wd35 HS=>nL (rN 2 Z (rG (fL b33 1 Ew Z (lB 0 HS Z na2 Z (mV Z (nL ?_)))))))⟩))⟩)))⟩)))
  refine rN 2 Z ?_
  refine G.name (fun i1 f1=>?_)
  have g1:∀ d1,d1≤K→∀ (a1:List Int) (x64:Int) (w:World),Br.l1 K d1 t5 t11 t25 t26 a1 x64=some (r1,r2,r3)→St w0 w (Box b3 57 [I 0,I 0,.slice none 0 0]::Own (Ad .i64) 2 A7 c8 uu t5::Own (Ad .i64) 2 A13 c14 uu t11::Box b33 57 [I t25,I t26,sV A29 a1 c30]::Own (Ad .i64) 2 A29 c30 uu a1::L)→G prog 87 65 [(2,pT b3),(3,sV A7 t5 c8),(4,sV A13 t11 c14),(5,pT b33),(20,I t26),(21,I x64)] i1 w (Br.post w0 L r1 r2 r3):=by
   refine lp (fun _ _ w H _=>by rw [Br.l1] at H; cases H) fun e1 k1 h1 a1 x64 w H HS=>?_
   rw [Br.l1] at H
   subst f1
   refine rN 3 Z ?_
   rcases iS H with ⟨c92,H⟩ | ⟨c92,H⟩
   ·
    refine nB Z (tF c92) (rN 2 Z (rG (lW 3 HS Z Du (sW 0 HS Z Du Z fun wd118 HS=>nL ?_))))
    obtain ⟨rfl,rfl,rfl⟩:=Jh H
    exact rT _ func87 Z (I8.J6 (j:=0) (vs:=[I t25,I t26,sV A29 a1 c30]) HS Z Z Z Du) ⟨_,_,Z,(HS.pk 5 [4] Z)⟩
   refine yB Z (tT c92) (rN 6 Z ?_)
   obtain ⟨t93,h94,H⟩:=bI H
   refine rG (pS 2 Z (fJ aW Z (Cm.calls HS (ro 2 Z) h94) (fun _ wd95 ⟨h96,HS⟩=>⟨_,h96,(aS Z (nL (sQ ?_)))⟩)))
   obtain ⟨t97,t98,h99,H⟩:=De H
   refine rG (mV Z (GO.rem Z Z Z (by decide) Z (fJ aQ Z (Ib.calls HS  h99) (fun _ wd100 ⟨h101,HS⟩=>⟨_,h101,(pS 5 Z (nL (sQ ?_)))⟩))))
   obtain ⟨c102,H⟩:=iN H
   have h103:=(rk (ro 1 Z) HS)
   obtain ⟨t104,h105,H⟩:=bI H
   obtain ⟨c106,H⟩:=iN H
   refine G.lex mixed [1,2,3,4,5,6,7,9,0,8,10,11,12,13,14,15] (by kernel_rfl) ?_
   replace HS:=HS.drew
   refine GX.ps 2 Z (qL Z Z (fun _ _ g=>GO.quo Z Z Z (by decide) Z g) Z (GX.ps 3 Z (qL Z Z (fun _ _ g=>iX Z U26 sz2 h103 c102 g) Z (GX.ps 1 Z (GX.l1 Z Z Z (fun _ g=>lW 3 HS Z Du g) Z (GX.l1 Z Z Z (fun _ g=>GO.Dt (T:=(Ad .i64)) (n:=(w64 ((w64 (4 * (w64 (t93.tdiv 6))))+t98)).toNat) (o:=0) HS (ro 1 Z) Z Z (getD_some (d:=0) (ltN c102)) Z Z na2 Z g) Z (GX.l2 Z (fJ Kh Z (Be.calls HS (ro 4 Z) h105) (fun _ wd107 ⟨h108,HS⟩=>⟨_,h108,(GX.fin tv (qL Z Z (fun _ _ g=>GO.En Z Z Z g) Z (GX.l1 Z Z Z (fun _ g=>GO.Dt (T:=(Ad .i64)) (n:=t104.toNat) (o:=0) HS (ro 4 Z) Z Z (getD_some (d:=0) (ltN c106)) Z Z na2 Z g) Z (GX.ps 1 Z (qL Z Z (fun _ _ g=>GO.En Z Z Z g) Z (GX.l2 Z ?_))))))⟩)))))))))
   refine GO.Ia (T:=(Ad .i64)) (j:=4) (n:=t104.toNat) (o:=0) (vs:=[I (w64 ((a1.getD t104.toNat 0)+1))]) (w64 ((a1.getD t104.toNat 0)+1)) HS Z Av Z Z Z Z (htN na2 Z) Z (getD_some (d:=0) (ltN c106)) Z Z fun wd109 HS=>GX.fin tv (GX.nil ?_)
   replace HS:=HS.F8 (j:=3) (cs':=[I t25,I t26,sV A29 (a1.set t104.toNat (w64 ((a1.getD t104.toNat 0)+1))) c30]) Z (by simp only [sV,List.length_set] <;> rfl)
   obtain ⟨c110,H⟩:=iN H
   have h111:=(rk (ro 1 Z) HS)
   obtain ⟨t112,h113,H⟩:=bI H
   obtain ⟨c114,H⟩:=iN H
   refine G.lex mixed [1,2,3,4,5,6,7,9,0,8,10,11,12,13,14,15] (by kernel_rfl) ?_
   replace HS:=HS.drew
   refine GX.ps 2 Z (qL Z Z (fun _ _ g=>GO.quo Z Z Z (by decide) Z g) Z (GX.ps 3 Z (qL Z Z (fun _ _ g=>iX Z U26 sz2 h111 c110 g) Z (GX.ps 1 Z (GX.l1 Z Z Z (fun _ g=>lW 3 HS Z Du g) Z (GX.l1 Z Z Z (fun _ g=>GO.Dt (T:=(Ad .i64)) (n:=(w64 ((w64 (4 * (w64 (t93.tdiv 6))))+t97)).toNat) (o:=0) HS (ro 1 Z) Z Z (getD_some (d:=0) (ltN c110)) Z Z na2 Z g) Z (GX.l2 Z (fJ Kh Z (Be.calls HS (ro 4 Z) h113) (fun _ wd115 ⟨h116,HS⟩=>⟨_,h116,(GX.fin tv (qL Z Z (fun _ _ g=>GO.En Z Z Z g) Z (GX.l1 Z Z Z (fun _ g=>GO.Dt (T:=(Ad .i64)) (n:=t112.toNat) (o:=0) HS (ro 4 Z) Z Z (getD_some (d:=0) (ltN c114)) Z Z na2 Z g) Z (GX.ps 1 Z (qL Z Z (fun _ _ g=>GO.En Z Z Z g) Z (GX.l2 Z ?_))))))⟩)))))))))
   refine GO.Ia (T:=(Ad .i64)) (j:=4) (n:=t112.toNat) (o:=0) (vs:=[I (w64 (((a1.set t104.toNat (w64 ((a1.getD t104.toNat 0)+1))).getD t112.toNat 0) - 1))]) (w64 (((a1.set t104.toNat (w64 ((a1.getD t104.toNat 0)+1))).getD t112.toNat 0) - 1)) HS Z Av Z Z Z Z (htN na2 Z) Z (getD_some (d:=0) (ltN c114)) Z Z fun wd117 HS=>GX.fin tv (GX.nil ?_)
   replace HS:=HS.F8 (j:=3) (cs':=[I t25,I t26,sV A29 ((a1.set t104.toNat (w64 ((a1.getD t104.toNat 0)+1))).set t112.toNat (w64 (((a1.set t104.toNat (w64 ((a1.getD t104.toNat 0)+1))).getD t112.toNat 0) - 1))) c30]) Z (by simp only [sV,List.length_set] <;> rfl)
   refine rN 3 Z (gW (h1 e1 (lR _) _ _ _ H HS) Z)
  exact gW (g1 K (lR _) _ _ _ H (HS.pk 6 [4,3,2,0,1] Z)) Z
theorem Kg.calls {i r1:Int} (HS:St w0 w (L)) (H:Kg.f i=some r1) :
    Calls prog 132 #[I i] w (Kg.post w0 L r1):=by
  unfold Kg.f at H
  refine cG func132 Z ?_
  refine rN 3 Z (rG (mV Z (GO.rem Z Z Z (by decide) Z (pS 3 Z (nL ?_)))))
  obtain rfl:=sI H
  exact rT _ func132 Z Z ⟨Z,HS⟩
theorem Aq.calls {d1:List (List Aw)} {y_a:Nat→(Ty.slice 83 Bb).Lay} {r1 r2:Int} {r3:List Int} (HS:St w0 w (L)) (r_a:Ce w0 L (Ty.slice 83 Bb) A_a c_a y_a d1) (H:Aq.f K d1=some (r1,r2,r3)) :
    Calls prog 88 #[.agg [sV A_a d1 c_a].toArray] w (Aq.post w0 L r1 r2 r3):=by
  unfold Aq.f at H
  refine cG func88 Z ?_
  refine sQ (rG (bA HS Z fun b1 wd2 HS=>GO.alloc HS Z Md Z Z fun b3 wd4 HS=>nL (sQ ?_)))
  obtain ⟨t5,h6,H⟩:=bI H
  obtain ⟨t11,h12,H⟩:=bI H
  obtain ⟨t17,h18,H⟩:=bI H
  refine G.Jg mixed (fun w=>St w0 w (Box b1 33 [sV A_a d1 c_a]::L)) [0,2,4] [0,2,4,1,3,5,6,7,8] [] (by kernel_rfl) (by kernel_rfl) (HS.drew.pk 2 [1] Z) ?_
  replace HS:=HS.drew
  refine GX.ls Z Z Z (HS.pk 2 [1] Z) (fun _ HS _ g=>lW 0 HS Z Jn g) Z (GX.ls Z Z Z (HS.pk 2 [1] Z) (fun _ HS _ g=>lW 0 HS Z Jn g) Z (GX.ls Z Z Z (HS.pk 2 [1] Z) (fun _ HS _ g=>lW 0 HS Z Jn g) Z (GX.l2 Z (fJ Uo Z (Bv.calls HS (rD 2 r_a) h6) (fun _ wd9 ⟨A7,c8,h10,HS⟩=>⟨_,h10,(GX.fin (HS.pk 3 [2] Z) (GX.l2 Z (fJ cZ Z (Cz.calls HS (rD 3 r_a) h12) (fun _ wd15 ⟨A13,c14,h16,HS⟩=>⟨_,h16,(GX.fin (HS.pk 4 [3] Z) (GX.l2 Z (fJ kC Z (Ai.calls HS (rD 4 r_a) h18) (fun _ wd21 ⟨A19,c20,h22,HS⟩=>⟨_,h22,(GX.fin (HS.pk 5 [4] Z) (GX.ps 3 Z (GX.nil (sQ ?_))))⟩))))⟩))))⟩)))))
  obtain ⟨t23,h24,H⟩:=bI H
  obtain ⟨t27,h28,H⟩:=bI H
  obtain ⟨t31,t32,t33,h34,H⟩:=Ej H
  refine rG (mV Z (fJ O0 Z (D5.calls HS (ro 2 Z) h24) (fun _ wd25 ⟨h26,HS⟩=>⟨_,h26,(mV Z (fJ O0 Z (D5.calls HS (ro 1 Z) h28) (fun _ wd29 ⟨h30,HS⟩=>⟨_,h30,(fJ Ur Z (Ee.calls HS  h34) (fun _ wd37 ⟨A35,c36,h38,HS⟩=>⟨_,h38,(GO.alloc HS Z Md Z Z fun b39 wd40 HS=>sW 0 HS Z Du Z fun wd41 HS=>nL (rN 2 Z (rG (fL b39 1 Ew Z (lB 0 HS Z na2 Z (mV Z (nL ?_)))))))⟩))⟩)))⟩)))
  refine rN 2 Z ?_
  refine G.name (fun s1 n1=>?_)
  have q1:∀ g1,g1≤K→∀ (c1:List Int) (x155:Int) (w:World),Aq.l1 K g1 t5 t11 t17 t31 t32 c1 x155=some (r1,r2,r3)→St w0 w (Box b3 57 [I 0,I 0,.slice none 0 0]::Own (Ad .i64) 2 A7 c8 uu t5::Own (Ad .i64) 2 A13 c14 uu t11::Own (Ad .i64) 2 A19 c20 uu t17::Box b39 57 [I t31,I t32,sV A35 c1 c36]::Own (Ad .i64) 2 A35 c36 uu c1::L)→G prog 88 82 [(2,pT b3),(3,sV A7 t5 c8),(4,sV A13 t11 c14),(5,sV A19 t17 c20),(6,pT b39),(27,I t32),(28,I x155)] s1 w (Aq.post w0 L r1 r2 r3):=by
   refine lp (fun _ _ w H _=>by rw [Aq.l1] at H; cases H) fun e1 u1 t1 c1 x155 w H HS=>?_
   rw [Aq.l1] at H
   subst n1
   refine rN 3 Z ?_
   rcases iS H with ⟨c268,H⟩ | ⟨c268,H⟩
   ·
    refine nB Z (tF c268) (rN 2 Z (rG (lW 4 HS Z Du (sW 0 HS Z Du Z fun wd379 HS=>nL ?_))))
    obtain ⟨rfl,rfl,rfl⟩:=Jh H
    exact rT _ func88 Z (I8.J6 (j:=0) (vs:=[I t31,I t32,sV A35 c1 c36]) HS Z Z Z Du) ⟨_,_,Z,(HS.pk 6 [5] Z)⟩
   refine yB Z (tT c268) (rN 6 Z ?_)
   obtain ⟨t269,h270,H⟩:=bI H
   refine rG (pS 2 Z (fJ aW Z (Cm.calls HS (ro 2 Z) h270) (fun _ wd271 ⟨h272,HS⟩=>⟨_,h272,(aS Z (nL (sQ (rG (mV Z (GO.quo Z Z Z (by decide) Z (mV Z (GO.rem Z Z Z (by decide) Z (pS 2 Z (nL (sQ ?_)))))))))))⟩)))
   obtain ⟨t275,h276,H⟩:=bI H
   refine rG (mV Z (GO.Fj (el:=2) ([I (t269.tmod 4)]) HS Z Z (fun _=>by kernel_rfl) Z fun b273 wd274 HS=>?_))
   replace HS:=HS.Ij (T:=(Ad .i64)) (j:=0) Z Av uu ([t269.tmod 4]:List Int) Z (K9 Z)
   refine GO.Kj (t:=39) (m:=([t269.tmod 4]:List Int).length) (c':=([t269.tmod 4]:List Int).length) Z Z Z (fJ Vm Z (Gp.calls HS (ro 0 Z) h276) (fun _ wd279 ⟨A277,c278,h280,HS⟩=>⟨_,h280,(lS Z Z U26 Z (mV Z (nL (rN 2 Z ?_))))⟩))
   refine G.name (fun o1 p1=>?_)
   have i1:∀ h1,h1≤e1→∀ (a1:List Int) (x314:Int) (w:World),Aq.l4 K h1 t5 t11 t17 t31 t32 x155 t269 t275 a1 x314=some (r1,r2,r3)→St w0 w (Box b3 57 [I 0,I 0,.slice none 0 0]::Own (Ad .i64) 2 A7 c8 uu t5::Own (Ad .i64) 2 A13 c14 uu t11::Own (Ad .i64) 2 A19 c20 uu t17::Box b39 57 [I t31,I t32,sV A35 a1 c36]::Own (Ad .i64) 2 A35 c36 uu a1::Own (Ad .i64) 2 A277 c278 uu t275::L)→G prog 88 82 [(2,pT b3),(3,sV A7 t5 c8),(4,sV A13 t11 c14),(5,sV A19 t17 c20),(6,pT b39),(7,I x155),(9,I (w64 (t269.tdiv 4))),(10,I (t269.tmod 4)),(27,I t32),(28,I x155),(40,sV A277 t275 c278),(41,I (t275.length:Int)),(42,I x314)] o1 w (Aq.post w0 L r1 r2 r3):=by
    refine lp (fun _ _ w H _=>by rw [Aq.l4] at H; cases H) fun f1 k1 m1 a1 x314 w H HS=>?_
    rw [Aq.l4] at H
    subst p1
    refine rN 3 Z ?_
    rcases iS H with ⟨c347,H⟩ | ⟨c347,H⟩
    ·
     refine nB Z (tF c347) (rN 4 Z (gW (t1 f1 (Nat.le_of_succ_le k1) _ _ _ H (HS.pk 7 [0,1,2,3,4,5] Z)) Z))
    refine yB Z (tT c347) (rN 4 Z ?_)
    obtain ⟨c348,H⟩:=iN H
    refine rG (mV Z (iX Z U26 sz2 (rk (ro 6 Z) HS) c348 (GO.Dt (T:=(Ad .i64)) (n:=x314.toNat) (o:=0) HS (ro 6 Z) Z Z (getD_some (d:=0) (ltN c348)) Z Z na2 Z (pS 2 Z (nL (sQ ?_))))))
    obtain ⟨t351,h352,H⟩:=bI H
    refine rG (pS 2 Z (GO.Fj (el:=2) ([I (t269.tmod 4),I (t275.getD x314.toNat 0)]) HS Z Z (fun _=>by kernel_rfl) Z fun b349 wd350 HS=>?_))
    replace HS:=HS.Ij (T:=(Ad .i64)) (j:=0) Z Av uu ([t269.tmod 4,t275.getD x314.toNat 0]:List Int) Z (K9 Z)
    refine GO.Kj (t:=49) (m:=([t269.tmod 4,t275.getD x314.toNat 0]:List Int).length) (c':=([t269.tmod 4,t275.getD x314.toNat 0]:List Int).length) Z Z Z (fJ Vm Z (Gp.calls HS (ro 0 Z) h352) (fun _ wd355 ⟨A353,c354,h356,HS⟩=>⟨_,h356,(aS Z (nL (sQ ?_)))⟩))
    obtain ⟨c357,H⟩:=iN H
    have h358:=(rk (ro 0 Z) HS)
    obtain ⟨c359,H⟩:=iN H
    have h360:=(rk (ro 0 Z) HS)
    obtain ⟨t361,h362,H⟩:=bI H
    refine G.lex mixed [0,1,2,3,5,6,4,7,8,9,10] (by kernel_rfl) ?_
    replace HS:=HS.drew
    refine GX.ps 3 Z (qL Z Z (fun _ _ g=>iX Z U26 sz2 h358 c357 g) Z (GX.ps 1 Z (qL Z Z (fun _ _ g=>iX Z U26 sz2 h360 c359 g) Z (GX.l1 Z Z Z (fun _ g=>GO.Dt (T:=(Ad .i64)) (n:=0) (o:=0) HS (ro 0 Z) Z Z (getD_some (d:=0) (ltN c357)) Z Z na2 Z g) Z (GX.l1 Z Z Z (fun _ g=>GO.Dt (T:=(Ad .i64)) (n:=1) (o:=0) HS (ro 0 Z) Z Z (getD_some (d:=0) (ltN c359)) Z Z na2 Z g) Z (GX.l2 Z (fJ cB Z (Ht.calls HS  h362) (fun _ wd363 ⟨h364,HS⟩=>⟨_,h364,(GX.fin tv (GX.ps 2 Z (GX.nil ?_)))⟩))))))))
    obtain ⟨c365,H⟩:=iN H
    have h366:=(rk (ro 3 Z) HS)
    obtain ⟨t367,h368,H⟩:=bI H
    obtain ⟨c369,H⟩:=iN H
    obtain ⟨t372,h373,H⟩:=bI H
    obtain ⟨c376,H⟩:=iN H
    have h377:=(rk (ro 5 Z) HS)
    refine G.Jg mixed (fun w=>St w0 w (Own (Ad .i64) 2 A7 c8 uu t5::Own (Ad .i64) 2 A19 c20 uu t17::Box b39 57 [I t31,I t32,sV A35 a1 c36]::Own (Ad .i64) 2 A35 c36 uu a1::L)) [0,4,8,14] [1,2,3,5,9,11,12,13,0,4,14,6,7,8,10,15,16,17,18] [18] (by kernel_rfl) (by kernel_rfl) (HS.drew.pk 9 [3,5,6,7] Z) ?_
    replace HS:=HS.drew
    refine GX.ps 2 Z (qL Z Z (fun _ _ g=>iX Z U26 sz2 h366 c365 g) Z (GX.ps 4 Z (qL Z Z (fun _ _ g=>iX Z U26 sz2 h377 c376 g) Z (GX.ls Z Z Z (HS.pk 9 [3,5,6,7] Z) (fun _ HS _ g=>lW 2 HS Z Du g) Z (GX.ls Z Z Z (HS.pk 9 [3,5,6,7] Z) (fun _ HS _ g=>GO.Dt (T:=(Ad .i64)) (n:=(w64 ((w64 (6 * (w64 (t269.tdiv 4))))+t361)).toNat) (o:=0) HS (ro 0 Z) Z Z (getD_some (d:=0) (ltN c365)) Z Z na2 Z g) Z (GX.ls Z Z Z (HS.pk 9 [3,5,6,7] Z) (fun _ HS _ g=>GO.Dt (T:=(Ad .i64)) (n:=(w64 ((w64 (6 * (w64 (t269.tdiv 4))))+t361)).toNat) (o:=0) HS (ro 1 Z) Z Z (getD_some (d:=0) (ltN c376)) Z Z na2 Z g) Z (GX.l2 Z (fJ Kh Z (Be.calls HS (ro 7 Z) h368) (fun _ wd370 ⟨h371,HS⟩=>⟨_,h371,(GX.fin (HS.pk 9 [3,5,6,7] Z) (qL Z Z (fun _ _ g=>GO.En Z Z Z g) Z (GX.ls Z Z Z (HS.pk 9 [3,5,6,7] Z) (fun _ HS _ g=>GO.Dt (T:=(Ad .i64)) (n:=t367.toNat) (o:=0) HS (ro 3 Z) Z Z (getD_some (d:=0) (ltN c369)) Z Z na2 Z g) Z (GX.l2 Z (fJ jQ Z (Kg.calls HS  h373) (fun _ wd374 ⟨h375,HS⟩=>⟨_,h375,(GX.fin (HS.pk 9 [3,5,6,7] Z) ?_)⟩))))))⟩)))))))))
    refine GX.ps 2 Z (qL Z Z (fun _ _ g=>GO.En Z Z Z g) Z (GX.l2 Z (GO.Ia (T:=(Ad .i64)) (j:=7) (n:=t367.toNat) (o:=0) (vs:=[I (w64 ((a1.getD t367.toNat 0)+(w64 (t372 * (t17.getD ((w64 ((w64 (6 * (w64 (t269.tdiv 4))))+t361)).toNat) 0)))))]) (w64 ((a1.getD t367.toNat 0)+(w64 (t372 * (t17.getD ((w64 ((w64 (6 * (w64 (t269.tdiv 4))))+t361)).toNat) 0))))) HS Z Av Z Z Z Z (htN na2 Z) Z (getD_some (d:=0) (ltN c369)) Z Z fun wd378 HS=>GX.bF Z (GX.nil ?_))))
    replace HS:=HS.F8 (j:=6) (cs':=[I t31,I t32,sV A35 (a1.set t367.toNat (w64 ((a1.getD t367.toNat 0)+(w64 (t372 * (t17.getD ((w64 ((w64 (6 * (w64 (t269.tdiv 4))))+t361)).toNat) 0)))))) c36]) Z (by simp only [sV,List.length_set] <;> rfl)
    refine rN 3 Z (gW (m1 f1 (lR _) _ _ _ H (HS.pk 9 [2,3,4,5,6,7,8] Z)) Z)
   exact gW (i1 e1 (lR _) _ _ _ H (HS.pk 8 [2,3,4,5,6,7,0] Z)) Z
  exact gW (q1 K (lR _) _ _ _ H (HS.pk 7 [5,4,3,2,0,1] Z)) Z
theorem Jw.calls {x y:Int} {r1 r2:Int} (HS:St w0 w (L)) (H:Jw.f x y=some (r1,r2)) :
    Calls prog 217 #[.int .u64 x,.int .u64 y] w (Jw.post w0 L r1 r2):=by
  unfold Jw.f at H
  refine cG func217 Z ?_
  refine rN 3 Z (rG (mV Z (GO.bits (by simp) Z Z Z Z (aS Z (nL (sQ (rG (mV Z (GO.shr Z Z Z (by decide) (by decide) Z (aS Z (nL (sQ (rG (mV Z ?_))))))))))))))
  refine GO.bits (by simp) Z Z Z Z (aS Z (nL (sQ (rG (mV Z (GO.shr Z Z Z (by decide) (by decide) Z (aS Z (nL (rN 3 Z (rG (pS 4 Z (GO.shr Z Z Z (by decide) (by decide) Z (pS 2 Z (nL ?_))))))))))))))
  refine sQ (rG (mV Z (GO.bits (by simp) Z Z Z Z (aS Z (nL (sQ (rG (mV Z (GO.shr Z Z Z (by decide) (by decide) Z (aS Z (nL (rN 3 Z (rG (pS 6 Z ?_))))))))))))))
  refine GO.shr Z Z Z (by decide) (by decide) Z (pS 2 Z (nL (rN 2 Z ?_)))
  obtain ⟨rfl,rfl⟩:=I6 H
  exact G.I9 _ _ func217 Z Z Z ⟨Z,HS⟩
theorem Ke.calls {x y:Int} {r1 r2:Int} (HS:St w0 w (L)) (H:Ke.f x y=some (r1,r2)) :
    Calls prog 195 #[.int .u64 x,.int .u64 y] w (Ke.post w0 L r1 r2):=by
  unfold Ke.f at H
  refine cG func195 Z ?_
  refine rN 6 Z ?_
  obtain ⟨t1,t2,h3,H⟩:=De H
  refine rG (pS 2 Z (fJ sN Z (Jw.calls HS  h3) (fun _ wd4 ⟨h5,HS⟩=>⟨_,h5,(pS 5 Z (nL (rN 2 Z ?_)))⟩)))
  obtain ⟨rfl,rfl⟩:=I6 H
  exact G.I9 _ _ func195 Z Z Z ⟨Z,HS⟩
theorem Cc.calls {x:List Int} {count:Int} {r1:List Int} (HS:St w0 w (L)) (r_a:Ce w0 L (Ad .i64) A_a c_a uu x) (H:Cc.f K x count=some r1) :
    Calls prog 169 #[sV A_a x c_a,I count] w (Cc.post w0 L r1):=by
  unfold Cc.f at H
  refine cG func169 Z ?_
  refine rN 5 Z ?_
  rcases iE H with ⟨c2,H⟩ | ⟨c2,H⟩
  ·
   refine yB Z (tT c2) ?_
   cases H
  refine nB Z (tF c2) (rN 2 Z ?_)
  obtain ⟨t3,t4,h5,H⟩:=De H
  refine rG (mV Z (lS Z Z U26 Z (GO.conv Z Z U3 vL Z (mV Z (GO.conv Z Z U3 vL Z (fJ sS Z (Ke.calls HS  h5) (fun _ wd6 ⟨h7,HS⟩=>⟨_,h7,(pS 5 Z (nL (rN 2 Z ?_)))⟩)))))))
  refine G.Oa (fun h1 o1=>?_)
  have e1:∀ d1,d1≤K→∀ (x10:Bool) (w:World),Cc.j2 K d1 x t4 x10=some r1→St w0 w (L)→G prog 169 48 [(0,sV A_a x c_a),(6,.int .u64 t4),(26,.bool x10)] h1 w (Cc.post w0 L r1):=by
   refine jp (fun _ w H _=>by rw [Cc.j2] at H; cases H) fun c1 q1 x10 w H HS=>?_
   rw [Cc.j2] at H
   subst o1
   rcases iE H with ⟨c12,H⟩ | ⟨c12,H⟩
   ·
    refine yB Z c12 ?_
    cases H
   refine nB Z (Cy c12) (rN 2 Z ?_)
   obtain ⟨c13,H⟩:=iN H
   obtain ⟨c14,H⟩:=iN H
   refine rG (mV Z (GO.conv Z Z vL U3 Z (GO.make (T:=(Ad .i64)) 0 () HS Av Z Z Z U26 Le Z Z Z c13 c14 Z fun b15 wd16 HS=>aS Z (nL (sQ ?_)))))
   have h18:=Zu (xs:=(List.replicate (w64 (t4)).toNat (0:Int))) (ys:=x) (Nat.le_of_eq (Nat.zero_add _))
   refine rG (pS 2 Z (GO.pV (T:=(Ad .i64)) (j:=0) (l:=0) HS Z (rD 1 r_a) Av Z Z Z U26 sz2 Z sG (Nat.le_of_eq (Nat.zero_add _)) (fun _ _=>Z) (fun _=>Z) fun wd17 HS=>aS Z (nL (G.len (t:=7) (m:=(over (List.replicate (w64 (t4)).toNat (0:Int)) 0 (x.take ((List.replicate (w64 (t4)).toNat (0:Int)).length))).length) Z (by simp only [List.length_set,h18] <;> rfl) (rN 3 Z ?_)))))
   refine G.name (fun n1 k1=>?_)
   have g1:∀ f1,f1≤c1→∀ (a1:List Int) (b1:Int) (w:World),Cc.l4 K f1 a1 b1=some r1→St w0 w (Own (Ad .i64) 2 (sb b15) ((w64 (t4)).toNat) uu a1::L)→G prog 169 48 [(7,sV (sb b15) a1 ((w64 (t4)).toNat)),(8,I b1)] n1 w (Cc.post w0 L r1):=by
    refine lp (fun _ _ w H _=>by rw [Cc.l4] at H; cases H) fun i1 p1 m1 a1 b1 w H HS=>?_
    rw [Cc.l4] at H
    subst k1
    refine rN 2 Z (rG (pS 2 Z (lS Z Z U26 Z (GO.lss Z Z Z Z (nL ?_)))))
    rcases iS H with ⟨c29,H⟩ | ⟨c29,H⟩
    ·
     refine nB Z (tF c29) (rN 3 Z ?_)
     obtain rfl:=sI H
     exact rT _ func169 Z Z ⟨_,_,Z,HS⟩
    refine yB Z (tT c29) (rN 2 Z ?_)
    obtain ⟨c30,H⟩:=iN H
    have h32:=Zu (xs:=a1) (ys:=((a1.take b1.toNat).drop 0)) (Y7 (leN c30) (lR _))
    refine G.lex mixed [0,1,2,4,5,3,6,7,8,9] (by kernel_rfl) ?_
    replace HS:=HS.drew
    refine GX.ps 5 Z (GX.l1 Z Z Z (fun _ g=>GO.slL (T:=(Ad .i64)) HS (ro 0 Z) Z Z Z U26 sz2 c30.1 c30.2 Z g) Z (GX.l1 Z Z Z (fun _ g=>GO.slH (T:=(Ad .i64)) HS (ro 0 Z) Z Z Z U26 sz2 c30.1 c30.2 Z g) Z (GX.l2 Z (GO.pV (T:=(Ad .i64)) (j:=0) (l:=b1.toNat) HS Z (Ce.cut (ro 0 Z) (Nat.zero_le _) (leN c30)) Av Z Z Z U26 sz2 Z (mZ (lR _) ((ro 0 Z) _ HS).1) (Y7 (leN c30) (lR _)) (fun _ _=>Z) (fun _=>Z) fun wd31 HS=>GX.fin tv (GX.ps 2 Z (GX.nil (G.len (t:=7) (m:=(over a1 b1.toNat (((a1.take b1.toNat).drop 0).take (((a1.take a1.length).drop b1.toNat).length))).length) Z (by simp only [List.length_set,h32] <;> rfl) (rN 2 Z (gW (m1 i1 (lR _) _ _ _ H HS) Z)))))))))
   exact gW (g1 c1 (lR _) _ _ _ H HS) Z
  rcases iE H with ⟨c33,H⟩ | ⟨c33,H⟩
  ·
   refine rG (pS 3 Z (kN 23 Z (tT c33) (oF Z (oF Z (GO.Gw Z Z Z Z Z (nL (gW (e1 K (lR _) _ _ H HS) Z)))))))
  refine rG (pS 3 Z (kN 23 Z (tF c33) (oN Z (mV Z (bK (oN Z (GO.gtr Z Z Z Z (bK (GO.Hw Z Z Z Z Z (nL (gW (e1 K (lR _) _ _ H HS) Z)))))))))))
theorem Fu.calls {list:List Int} {r1:List Int} (HS:St w0 w (L)) (r_a:Ce w0 L (Ad .i64) A_a c_a uu list) (H:Fu.f K list=some r1) :
    Calls prog 173 #[sV A_a list c_a] w (Fu.post w0 L r1):=by
  unfold Fu.f at H
  refine cG func173 Z ?_
  refine rN 6 Z (rG (mV Z (lS Z Z U26 Z (mV Z (nL (rN 2 Z ?_))))))
  refine G.name (fun p1 k1=>?_)
  have o1:∀ f1,f1≤K→∀ (A24:Option Addr) (c25:Nat) (a1:List Int) (x27:Int) (w:World),Fu.l1 K f1 list a1 x27=some r1→St w0 w (Own (Ad .i64) 2 A24 c25 uu a1::L)→G prog 173 33 [(0,sV A_a list c_a),(3,sV A24 a1 c25),(9,sV A_a list c_a),(10,I (list.length:Int)),(11,I x27)] p1 w (Fu.post w0 L r1):=by
   refine lp (fun _ _ _ _ w H _=>by rw [Fu.l1] at H; cases H) fun e1 s1 q1 A24 c25 a1 x27 w H HS=>?_
   rw [Fu.l1] at H
   subst k1
   refine rN 3 Z ?_
   rcases iS H with ⟨c59,H⟩ | ⟨c59,H⟩
   ·
    refine nB Z (tF c59) (rN 3 Z ?_)
    obtain rfl:=sI H
    exact rT _ func173 Z Z ⟨_,_,Z,HS⟩
   refine yB Z (tT c59) (rN 4 Z ?_)
   obtain ⟨c60,H⟩:=iN H
   refine rG (iX Z U26 sz2 (rk (rD 1 r_a) HS) c60 (GO.Dt (T:=(Ad .i64)) (n:=x27.toNat) (o:=0) HS (rD 1 r_a) Z Z (getD_some (d:=0) (ltN c60)) Z Z na2 Z (aS Z (nL (rN 4 Z (rG (mV Z (lS Z Z U26 Z (mV Z (nL (rN 2 Z ?_)))))))))))
   refine G.name (fun n1 m1=>?_)
   have h1:∀ g1,g1≤e1→∀ (b1 x71:Int) (w:World),Fu.l4 K g1 list a1 x27 b1 x71=some r1→St w0 w (Own (Ad .i64) 2 A24 c25 uu a1::L)→G prog 173 33 [(0,sV A_a list c_a),(3,sV A24 a1 c25),(5,I (list.getD x27.toNat 0)),(6,I b1),(9,sV A_a list c_a),(10,I (list.length:Int)),(11,I x27),(15,sV A_a list c_a),(16,I (list.length:Int)),(17,I x71)] n1 w (Fu.post w0 L r1):=by
    refine lp (fun _ _ w H _=>by rw [Fu.l4] at H; cases H) fun c1 i1 d1 b1 x71 w H HS=>?_
    rw [Fu.l4] at H
    subst m1
    refine rN 3 Z ?_
    rcases iS H with ⟨c81,H⟩ | ⟨c81,H⟩
    ·
     refine nB Z (tF c81) (G.exit Z ?_)
     obtain ⟨c89,H⟩:=iN H
     refine rG (pS 2 Z (GO.Fj (el:=2) ([I b1]) HS Z Z (fun _=>by kernel_rfl) Z fun b84 wd85 HS=>GO.app1 (T:=(Ad .i64)) (j:=1) (jb:=0) b1 HS Z Z Av Z Z Z U26 Le Z Z Z c89 Z fun A87 c88 wd86 HS=>aS Z (nL (rN 3 Z (gW (q1 c1 (Nat.le_of_succ_le i1) _ _ _ _ _ H (HS.pk 2 [1] Z)) Z)))))
    refine yB Z (tT c81) (rN 4 Z ?_)
    obtain ⟨c82,H⟩:=iN H
    refine rG (iX Z U26 sz2 (rk (rD 1 r_a) HS) c82 (GO.Dt (T:=(Ad .i64)) (n:=x71.toNat) (o:=0) HS (rD 1 r_a) Z Z (getD_some (d:=0) (ltN c82)) Z Z na2 Z (aS Z (nL (rN 2 Z ?_)))))
    rcases iS H with ⟨c83,H⟩ | ⟨c83,H⟩
    ·
     refine nB Z (tF c83) (rN 4 Z (gW (d1 c1 (lR _) _ _ _ H HS) Z))
    refine yB Z (tT c83) (rN 4 Z (gW (d1 c1 (lR _) _ _ _ H HS) Z))
   exact gW (h1 e1 (lR _) _ _ _ H HS) Z
  replace HS:=HS.H9 (Ad .i64) 2 uu
  exact gW (o1 K (lR _) _ _ _ _ _ H HS) Z
theorem Gb.calls {p r1:Int} (HS:St w0 w (L)) (H:Gb.f K p=some r1) :
    Calls prog 171 #[I p] w (Gb.post w0 L r1):=by
  unfold Gb.f at H
  refine cG func171 Z ?_
  refine rN 3 Z ?_
  obtain ⟨t1,t2,t3,t4,h5,H⟩:=Ie H
  refine rG (mV Z (fJ Pp Z (Em.calls HS  h5) (fun _ wd6 ⟨h7,HS⟩=>⟨_,h7,(GO.alloc HS Z Ze Z Z fun b8 wd9 HS=>sW 0 HS Z S9 Z fun wd10 HS=>aS Z (nL (rN 2 Z (rG (lW 0 HS Z S9 (mV Z (nL (rN 2 Z ?_))))))))⟩)))
  refine G.name (fun p1 k1=>?_)
  have o1:∀ f1,f1≤K→∀ (c1 x24:Int) (w:World),Gb.l1 K f1 t1 t2 t3 t4 c1 x24=some r1→St w0 w (Box b8 160 [I t1,I t2,I t3,I t4]::L)→G prog 171 31 [(3,pT b8),(4,I c1),(11,.agg [I t1,I t2,I t3,I t4].toArray),(12,I x24)] p1 w (Gb.post w0 L r1):=by
   refine lp (fun _ _ w H _=>by rw [Gb.l1] at H; cases H) fun e1 s1 q1 c1 x24 w H HS=>?_
   rw [Gb.l1] at H
   subst k1
   refine rN 3 Z ?_
   rcases iS H with ⟨c39,H⟩ | ⟨c39,H⟩
   ·
    refine nB Z (tF c39) (rN 3 Z ?_)
    obtain rfl:=sI H
    exact rT _ func171 Z Z ⟨Z,(HS.pk 1 [] Z)⟩
   refine yB Z (tT c39) (rN 4 Z ?_)
   obtain ⟨c40,H⟩:=iN H
   refine rG (mV Z (GO.mK ([t1,t2,t3,t4]:List Int) Z Z Z Oe U2 sz2 Z c40.1 c40.2 Z (pS 2 Z (nL (sQ ?_)))))
   obtain ⟨c41,H⟩:=iN H
   refine rG (mV Z (GO.iH (m:=(([t1,t2,t3,t4]:List Int).take x24.toNat).length) Z Z Z Oe sz2 c41 (fG (leN c41)) Z (lS Z Z U26 Z (mV Z (nL (rN 2 Z ?_))))))
   refine G.name (fun n1 m1=>?_)
   have h1:∀ g1,g1≤e1→∀ (a1 x46:Int) (w:World),Gb.l4 K g1 t1 t2 t3 t4 x24 a1 x46=some r1→St w0 w (Box b8 160 [I t1,I t2,I t3,I t4]::L)→G prog 171 31 [(3,pT b8),(4,I a1),(6,I (([t1,t2,t3,t4]:List Int).getD x24.toNat 0)),(11,.agg [I t1,I t2,I t3,I t4].toArray),(12,I x24),(17,sV (sb b8) (([t1,t2,t3,t4]:List Int).take x24.toNat) 4),(18,I ((([t1,t2,t3,t4]:List Int).take x24.toNat).length:Int)),(19,I x46)] n1 w (Gb.post w0 L r1):=by
    refine lp (fun _ _ w H _=>by rw [Gb.l4] at H; cases H) fun b1 i1 d1 a1 x46 w H HS=>?_
    rw [Gb.l4] at H
    subst m1
    refine rN 3 Z ?_
    rcases iS H with ⟨c50,H⟩ | ⟨c50,H⟩
    ·
     refine nB Z (tF c50) (rN 4 Z (gW (q1 b1 (Nat.le_of_succ_le i1) _ _ _ H HS) Z))
    refine yB Z (tT c50) (rN 4 Z ?_)
    obtain ⟨c51,H⟩:=iN H
    refine rG (iX Z U26 sz2 (fun _=>⟨_,_,Z⟩) c51 (GO.Dt (T:=(Ad .i64)) (n:=x46.toNat) (o:=0) HS (Ce.take (Ce.box (j:=0) uu ([t1,t2,t3,t4]:List Int) Z Z Z Z (fun _ _ _ _ _=>tv)) (leN c41)) Z Z (getD_some (d:=0) (ltN c51)) Z Z na2 Z (aS Z (nL (rN 2 Z ?_)))))
    rcases iS H with ⟨c52,H⟩ | ⟨c52,H⟩
    ·
     refine nB Z (tF c52) (rN 4 Z (gW (d1 b1 (lR _) _ _ _ H HS) Z))
    refine yB Z (tT c52) (rG (mV Z (GO.neg Z Z Z (aS Z (nL (rN 3 Z (gW (d1 b1 (lR _) _ _ _ H HS) Z)))))))
   exact gW (h1 e1 (lR _) _ _ _ H HS) Z
  exact gW (o1 K (lR _) _ _ _ H HS) Z
theorem Az.calls {tet f:Int} {m1 v1:Int} {a1 c1:Int} {d1 e1:Int} {g1:List Int} {o1:Nat} {r1:List Int} (HS:St w0 w (Box o1 26 [sV A_a g1 c_a]::Own (Ad .i64) 2 A_a c_a uu g1::L)) (H:Az.f K tet f m1 v1 a1 c1 d1 e1 g1=some r1) :
    Calls prog 170 #[I tet,I f,.agg [I m1,I v1].toArray,.agg [I a1,I c1,I d1,I e1].toArray,pT o1] w (Az.post w0 L o1 A_a c_a r1):=by
  unfold Az.f at H
  refine cG func170 Z ?_
  refine sQ (rG (bA HS Z fun b1 wd2 HS=>bA HS Z fun b3 wd4 HS=>nL (sQ ?_)))
  obtain ⟨c5,H⟩:=iN H
  refine G.lex mixed [0,3,4,1,2,5,6,7] (by kernel_rfl) ?_
  replace HS:=HS.drew
  refine qL Z Z (fun _ _ g=>fL b1 0 Hf Z g) Z (GX.ps 1 Z (qL Z Z (fun _ _ g=>GO.ixW Z Z Z Oe sz2 c5 Z g) Z (GX.l1 Z Z Z (fun _ g=>lB 1 HS Z na2 Z g) Z (GX.ps 1 Z (GX.l1 Z Z Z (fun _ g=>GO.ldW (j:=0) ([a1,c1,d1,e1]:List Int) HS Z Z Z c5 Z Z na2 Z g) Z (GX.ps 2 Z (GX.nil (rN 2 Z ?_))))))))
  rcases iS H with ⟨c6,H⟩ | ⟨c6,H⟩
  ·
   refine nB Z (tF c6) (G.skip ?_)
   obtain rfl:=sI H
   exact G.Ki func170 Z ⟨Z,(HS.pk 4 [2,3] Z)⟩
  refine yB Z (tT c6) (rN 4 Z ?_)
  obtain ⟨t9,h10,H⟩:=bI H
  refine rG (mV Z (GO.Fj (el:=2) ([I f]) HS Z Z (fun _=>by kernel_rfl) Z fun b7 wd8 HS=>?_))
  replace HS:=HS.Ij (T:=(Ad .i64)) (j:=0) Z Av uu ([f]:List Int) Z (K9 Z)
  refine GO.Kj (t:=27) (m:=([f]:List Int).length) (c':=([f]:List Int).length) Z Z Z (fJ Vm Z (Gp.calls HS (ro 0 Z) h10) (fun _ wd13 ⟨A11,c12,h14,HS⟩=>⟨_,h14,(lS Z Z U26 Z (mV Z (nL (rN 2 Z ?_))))⟩))
  refine G.name (fun x1 z1=>?_)
  have a2:∀ u1,u1≤K→∀ (A48:Option Addr) (c49:Nat) (p1:List Int) (x51:Int) (w:World),Az.l1 K u1 f m1 a1 c1 d1 e1 g1 t9 p1 x51=some r1→St w0 w (Box o1 26 [sV A_a g1 c_a]::Own (Ad .i64) 2 A_a c_a uu g1::Box b3 160 [I a1,I c1,I d1,I e1]::Own (Ad .i64) 2 A48 c49 uu p1::Own (Ad .i64) 2 A11 c12 uu t9::L)→G prog 170 52 [(4,pT o1),(8,pT b3),(9,I (w64 ((w64 (4 * m1))+(([a1,c1,d1,e1]:List Int).getD f.toNat 0)))),(10,sV A48 p1 c49),(28,sV A11 t9 c12),(29,I (t9.length:Int)),(30,I x51)] x1 w (Az.post w0 L o1 A_a c_a r1):=by
   refine lp (fun _ _ _ _ w H _=>by rw [Az.l1] at H; cases H) fun y1 c2 b2 A48 c49 p1 x51 w H HS=>?_
   rw [Az.l1] at H
   subst z1
   refine rN 3 Z ?_
   rcases iE H with ⟨c85,H⟩ | ⟨c85,H⟩
   ·
    refine yB Z (tT c85) (rN 4 Z ?_)
    obtain ⟨c86,H⟩:=iN H
    refine rG (iX Z U26 sz2 (rk (ro 4 Z) HS) c86 (GO.Dt (T:=(Ad .i64)) (n:=x51.toNat) (o:=0) HS (ro 4 Z) Z Z (getD_some (d:=0) (ltN c86)) Z Z na2 Z (aS Z (nL ?_))))
    obtain ⟨c87,H⟩:=iN H
    obtain ⟨c93,H⟩:=iN H
    refine rG (pS 2 Z (GO.ixW Z Z Z Oe sz2 c87 Z (GO.ldW (j:=2) ([a1,c1,d1,e1]:List Int) HS Z Z Z c87 Z Z na2 Z (GO.Fj (el:=2) ([I (([a1,c1,d1,e1]:List Int).getD (t9.getD x51.toNat 0).toNat 0)]) HS Z Z (fun _=>by kernel_rfl) Z fun b88 wd89 HS=>GO.app1 (T:=(Ad .i64)) (j:=4) (jb:=0) (([a1,c1,d1,e1]:List Int).getD (t9.getD x51.toNat 0).toNat 0) HS Z Z Av Z Z Z U26 Le Z Z Z c93 Z fun A91 c92 wd90 HS=>aS Z (nL (rN 3 Z (gW (b2 y1 (lR _) _ _ _ _ _ H (HS.pk 6 [1,2,3,4,5] Z)) Z)))))))
   refine nB Z (tF c85) (G.exit Z ?_)
   obtain ⟨t94,h95,H⟩:=bI H
   obtain ⟨c105,H⟩:=iN H
   obtain ⟨c106,H⟩:=iN H
   obtain ⟨t107,h108,H⟩:=bI H
   obtain ⟨t111,h112,H⟩:=bI H
   obtain ⟨c115,H⟩:=iN H
   have h116:=(rk (ro 1 Z) HS)
   refine G.Q6 mixed (by decide) (fun b a w=>∃ (A96:Option Addr) (c97:Nat) (b100:Nat) (A103:Option Addr) (c104:Nat) (q1:Df) (s1:Df) (t1:Df),RS 52 [(4,pT o1),(9,I (w64 ((w64 (4 * m1))+(([a1,c1,d1,e1]:List Int).getD f.toNat 0)))),(10,sV A48 p1 c49)] [rv 41 (sV A_a g1 c_a),rv 42 (I (w64 ((w64 (4 * m1))+(([a1,c1,d1,e1]:List Int).getD f.toNat 0)))),rv 43 (sV A48 p1 c49),rv 44 (sV A96 t94 c97),rv 45 (.slice (sb b100) 1 1),rv 46 (sV A103 (t94++[3]) c104),rv 47 (.pointer (some (ea A103 0))),rv 48 (.agg [I ((t94++[3]).getD 0 0),I ((t94++[3]).getD 1 0),I ((t94++[3]).getD 2 0),I ((t94++[3]).getD 3 0)].toArray),rv 49 (I t107),rv 50 (I t111),rv 51 (.pointer (some (ea A_a (((w64 ((w64 (4 * m1))+(([a1,c1,d1,e1]:List Int).getD f.toNat 0))).toNat) * 1)))),none] b a∧St w0 w (Box o1 26 [sV A_a g1 c_a]::q1::Box b3 160 [I a1,I c1,I d1,I e1]::Own (Ad .i64) 2 A48 c49 uu p1::Own (Ad .i64) 2 A11 c12 uu t9::s1::t1::L)∧(b 11=false→q1=Own (Ad .i64) 2 A_a c_a uu g1)∧(b 11=true→q1=Own (Ad .i64) 2 A_a c_a uu (g1.set ((w64 ((w64 (4 * m1))+(([a1,c1,d1,e1]:List Int).getD f.toNat 0))).toNat) t111))∧(b 3=true→b 5=false→s1=Own (Ad .i64) 2 A96 c97 uu t94)∧(b 5=true→s1=Own (Ad .i64) 2 A103 c104 uu (t94++[3]))∧(b 4=true→t1=Box b100 2 [I 3])) ?_ ?_ ?_
   · exact fun a hs=>⟨none,0,0,none,0,Own (Ad .i64) 2 A_a c_a uu g1,Emp,Emp,hs.init Z,(HS.drew.emp.emp.pk 7 [2,3,4,5,6,1,0] Z),fun _=>Z,fun h=>Bool.noConfusion h,fun h=>Bool.noConfusion h,fun h=>Bool.noConfusion h,fun h=>Bool.noConfusion h⟩
   ·
    intro j b a w hj
    refine exI fun A96=>exI fun c97=>exI fun b100=>exI fun A103=>exI fun c104=>exI fun q1=>exI fun s1=>exI fun t1=>anI fun hs=>fun hM q=>?_
    have HS:=hM.1
    match j,hj with
    | 0,_ =>
     refine hs.at q [] [] (lB 0 HS Z Ha Z (hs.fin q Z fun _ hs=>⟨_,_,_,_,_,_,_,_,hs,hM⟩))
    | 1,_ =>
     refine hs.at q [] [] (mV Z (hs.fin q Z fun _ hs=>⟨_,_,_,_,_,_,_,_,hs,hM⟩))
    | 2,_ =>
     refine hs.at q [] [] (mV Z (hs.fin q Z fun _ hs=>⟨_,_,_,_,_,_,_,_,hs,hM⟩))
    | 3,_ =>
     refine (anI fun HS=>anI fun k1=>anI fun i1=>anI fun n1=>anI fun h1=>fun f1=>?_) hM
     refine hs.at q [2] [] (fJ vF Z (Fu.calls HS (ro 3 Z) h95) (fun _ wd98 ⟨A96,c97,h99,HS⟩=>⟨_,h99,(hs.V3 q [3] (fun _ hs=>⟨A96,c97,b100,A103,c104,_,Own (Ad .i64) 2 A96 c97 uu t94,_,hs,HS.pk 8 [1,2,3,4,5,0,7] Z,k1,i1,fun _ _=>Z,fun hh=>(q.no 5 hh).elim,f1⟩) Z Z)⟩))
    | 4,_ =>
     refine (anI fun HS=>anI fun k1=>anI fun i1=>anI fun n1=>anI fun h1=>fun f1=>?_) hM
     refine hs.at q [] [] (GO.Fj (el:=2) ([I 3]) HS Z Z (fun _=>by kernel_rfl) Z fun b100 wd101 HS=>hs.V3 q [4] (fun _ hs=>⟨A96,c97,b100,A103,c104,_,_,Box b100 2 [I 3],hs,HS.pk 8 [1,2,3,4,5,6,0] Z,k1,i1,n1,h1,fun _=>Z⟩) Z Z)
    | 5,_ =>
     refine (anI fun HS=>anI fun k1=>anI fun i1=>anI fun n1=>anI fun h1=>fun f1=>?_) hM
     have hb4:=q.on 4
     obtain rfl:=f1 hb4
     have hb3:=q.on 3
     obtain rfl:=n1 hb3 q.hb
     refine hs.at q [3,4] [] (GO.app1 (T:=(Ad .i64)) (j:=5) (jb:=6) 3 HS Z Z Av Z Z Z U26 Le Z Z Z c105 Z fun A103 c104 wd102 HS=>hs.V3 q [5,6] (fun _ hs=>⟨A96,c97,b100,A103,c104,_,Own (Ad .i64) 2 A103 c104 uu (t94++[3]),_,hs,HS,k1,i1,fun _ h=>Bool.noConfusion h,fun _=>Z,f1⟩) Z Z)
    | 6,_ =>
     refine (anI fun HS=>anI fun k1=>anI fun i1=>anI fun n1=>anI fun h1=>fun f1=>?_) hM
     have hb5:=q.on 5
     obtain rfl:=h1 hb5
     refine hs.at q [5] [] (GO.wC (T:=(Ad .i64)) HS (ro 5 Z) Z Z Oe c106 (by decide) Z (hs.fin q Z fun _ hs=>⟨A96,c97,b100,A103,c104,_,_,_,hs,HS,k1,i1,n1,h1,f1⟩))
    | 7,_ =>
     refine (anI fun HS=>anI fun k1=>anI fun i1=>anI fun n1=>anI fun h1=>fun f1=>?_) hM
     have hb5:=q.on 5
     obtain rfl:=h1 hb5
     refine hs.at q [6] [] (GO.tH HS (ro 5 Z) Z Z c106 S9 Z (hs.fin q Z fun _ hs=>⟨A96,c97,b100,A103,c104,_,_,_,hs,HS,k1,i1,n1,h1,f1⟩))
    | 8,_ =>
     refine hs.at q [7] [] (fJ lI Z (Fa.calls HS  h108) (fun _ wd109 ⟨h110,HS⟩=>⟨_,h110,(hs.fin q Z fun _ hs=>⟨_,_,_,_,_,_,_,_,hs,HS,hM.2⟩)⟩))
    | 9,_ =>
     refine hs.at q [8] [] (fJ sP Z (Gb.calls HS  h112) (fun _ wd113 ⟨h114,HS⟩=>⟨_,h114,(hs.fin q Z fun _ hs=>⟨_,_,_,_,_,_,_,_,hs,HS,hM.2⟩)⟩))
    | 10,_ =>
     refine hs.at q [0,1] [] (iX Z U26 sz2 h116 c115 (hs.fin q Z fun _ hs=>⟨_,_,_,_,_,_,_,_,hs,hM⟩))
    | 11,_ =>
     refine (anI fun HS=>anI fun k1=>anI fun i1=>anI fun n1=>anI fun h1=>fun f1=>?_) hM
     obtain rfl:=k1 q.hb
     refine hs.at q [9,10] [] (GO.Ia (T:=(Ad .i64)) (j:=1) (n:=(w64 ((w64 (4 * m1))+(([a1,c1,d1,e1]:List Int).getD f.toNat 0))).toNat) (o:=0) (vs:=[I t111]) t111 HS Z Av Z Z Z Z (htN na2 Z) Z (getD_some (d:=0) (ltN c115)) Z Z fun wd117 HS=>hs.tO q Z fun _ hs=>⟨A96,c97,b100,A103,c104,Own (Ad .i64) 2 A_a c_a uu (g1.set ((w64 ((w64 (4 * m1))+(([a1,c1,d1,e1]:List Int).getD f.toNat 0))).toNat) t111),_,_,hs,HS,fun h=>Bool.noConfusion h,fun _=>Z,n1,h1,f1⟩)
    | k+12,hj=>exact absurd hj (Nat.not_lt.2 (Nat.le_add_left 12 k))
   ·
    intro b a w hall
    refine exI fun A96=>exI fun c97=>exI fun b100=>exI fun A103=>exI fun c104=>exI fun q1=>exI fun s1=>exI fun t1=>anI fun hs=>anI fun HS=>anI fun k1=>anI fun i1=>anI fun n1=>anI fun h1=>fun f1=>?_
    obtain rfl:=i1 (hall 11 (by decide))
    obtain rfl:=h1 (hall 5 (by decide))
    obtain rfl:=f1 (hall 4 (by decide))
    refine G.at (hs.all hall) ?_
    replace HS:=HS.F8 (j:=0) (cs':=[sV A_a (g1.set ((w64 ((w64 (4 * m1))+(([a1,c1,d1,e1]:List Int).getD f.toNat 0))).toNat) t111) c_a]) Z (by simp only [sV,List.length_set] <;> rfl)
    obtain rfl:=sI H
    exact G.Ki func170 Z ⟨Z,(HS.pk 7 [0,1] Z)⟩
  replace HS:=HS.H9 (Ad .i64) 2 uu
  exact gW (a2 K (lR _) _ _ _ _ _ H (HS.pk 7 [5,6,3,0,1] Z)) Z
theorem Ah.calls {a1:List (List Aw)} {d1:List Int} {y_a:Nat→(Ty.slice 83 Bb).Lay} {c1:Nat} {r1:List Int} (HS:St w0 w (Box c1 26 [sV A_b d1 c_b]::Own (Ad .i64) 2 A_b c_b uu d1::L)) (r_a:Ce w0 L (Ty.slice 83 Bb) A_a c_a y_a a1) (H:Ah.f K a1 d1=some r1) :
    Calls prog 154 #[.agg [sV A_a a1 c_a].toArray,.func (.func 170) #[] #[pT c1]] w (Ah.post w0 L c1 A_b c_b r1):=by
  unfold Ah.f at H
  refine cG func154 Z ?_
  refine sQ (rG (bA HS Z fun b1 wd2 HS=>nL (sQ (rG (fL b1 0 H8 Z (lB 0 HS Z Kr Z (lS Z Z U31 Z (mV Z (nL (rN 2 Z ?_))))))))))
  refine G.name (fun s1 n1=>?_)
  have q1:∀ h1,h1≤K→∀ (x79:List Int) (x80:Int) (w:World),Ah.l1 K h1 a1 x79 x80=some r1→St w0 w (Box c1 26 [sV A_b x79 c_b]::Own (Ad .i64) 2 A_b c_b uu x79::L)→G prog 154 36 [(1,.func (.func 170) #[] #[pT c1]),(9,sV A_a a1 c_a),(10,I (a1.length:Int)),(11,I x80)] s1 w (Ah.post w0 L c1 A_b c_b r1):=by
   refine lp (fun _ _ w H _=>by rw [Ah.l1] at H; cases H) fun g1 u1 t1 x79 x80 w H HS=>?_
   rw [Ah.l1] at H
   subst n1
   refine rN 3 Z ?_
   rcases iS H with ⟨c157,H⟩ | ⟨c157,H⟩
   ·
    refine nB Z (tF c157) (G.exit Z ?_)
    obtain rfl:=sI H
    exact G.Ki func154 Z ⟨Z,HS⟩
   refine yB Z (tT c157) (rN 4 Z ?_)
   obtain ⟨c158,H⟩:=iN H
   refine rG (mV Z (iX Z U31 Nh (rk (rD 2 r_a) HS) c158 (GO.Dt (T:=(Ty.slice 83 Bb)) (n:=x80.toNat) (o:=0) HS (rD 2 r_a) Z Z (getD_some (d:=[]) (ltN c158)) Z Z Ng Z (pS 2 Z (nL (sQ (rG (mV Z (lS Z Z U81 Z (mV Z (nL (rN 2 Z ?_))))))))))))
   refine G.name (fun o1 p1=>?_)
   have k1:∀ i1,i1≤g1→∀ (x183:List Int) (x184:Int) (w:World),Ah.l4 K i1 a1 x80 x183 x184=some r1→St w0 w (Box c1 26 [sV A_b x183 c_b]::Own (Ad .i64) 2 A_b c_b uu x183::L)→G prog 154 36 [(1,.func (.func 170) #[] #[pT c1]),(4,I x80),(9,sV A_a a1 c_a),(10,I (a1.length:Int)),(11,I x80),(16,sV ((y_a x80.toNat).A) (a1.getD x80.toNat []) ((y_a x80.toNat).c)),(17,I ((a1.getD x80.toNat []).length:Int)),(18,I x184)] o1 w (Ah.post w0 L c1 A_b c_b r1):=by
    refine lp (fun _ _ w H _=>by rw [Ah.l4] at H; cases H) fun e1 m1 f1 x183 x184 w H HS=>?_
    rw [Ah.l4] at H
    subst p1
    refine rN 3 Z ?_
    rcases iS H with ⟨c209,H⟩ | ⟨c209,H⟩
    ·
     refine nB Z (tF c209) (rN 4 Z (gW (t1 e1 (Nat.le_of_succ_le m1) _ _ _ H HS) Z))
    refine yB Z (tT c209) (rN 4 Z ?_)
    obtain ⟨c210,H⟩:=iN H
    obtain ⟨e211,h212,H⟩:=Ih H
    refine rG (mV Z (GO.ix Z Z Z U81 Nr ((Ce.elem (rD 2 r_a) c158.1 c158.2) _ HS).2.2.1 c210.1 c210.2 Z (GO.Lb (T:=Bb) (n:=x184.toNat) HS (Ce.elem (rD 2 r_a) c158.1 c158.2) Z Z (Hm (ltN c210) h212) J2 Z (GO.alloc HS Z Rp Z Z fun b213 wd214 HS=>aS Z (sW 0 HS Z J2 Z fun wd215 HS=>nL (sQ ?_))))))
    obtain ⟨t216,h217,H⟩:=bI H
    refine rG (lW 0 HS Z J2 (fJ Vj Z (Ct.calls HS  h217) (fun _ wd218 ⟨h219,HS⟩=>⟨_,h219,(GO.not Z Z Z (nL ?_))⟩)))
    rcases iE H with ⟨c220,H⟩ | ⟨c220,H⟩
    ·
     refine nB Z (congrArg Bool.not c220) (rN 4 Z (gW (f1 e1 (lR _) _ _ _ H (HS.pk 3 [1,2] Z)) Z))
    refine yB Z (congrArg Bool.not (Cy c220)) ?_
    obtain ⟨t221,t222,t223,t224,h225,H⟩:=Ie H
    obtain ⟨t228,h229,H⟩:=bI H
    obtain ⟨c230,H⟩:=iN H
    refine G.Jg mixed (fun w=>St w0 w (Box b213 83 [I e211.Tet,I e211.Perm]::L)) [3,5] [0,1,2,4,3,5,6,7] [] (by kernel_rfl) (by kernel_rfl) (HS.drew.pk 3 [0] Z) ?_
    replace HS:=HS.drew
    refine GX.ps 3 Z (qL Z Z (fun _ _ g=>fL b213 1 Jy Z g) Z (GX.ls Z Z Z (HS.pk 3 [0] Z) (fun _ HS _ g=>lW 0 HS Z J2 g) Z (GX.ls Z Z Z (HS.pk 3 [0] Z) (fun _ HS _ g=>lB 0 HS Z na2 Z g) Z (GX.l2 Z (fJ Pp Z (Em.calls HS  h225) (fun _ wd226 ⟨h227,HS⟩=>⟨_,h227,(GX.fin (HS.pk 3 [0] Z) (GX.l2 Z ?_))⟩))))))
    replace HS:=HS.pk 3 [1,2,0] Z
    refine GO.clo Z Z func170 kS.2.1 kS.2.2 Z Z (Az.calls HS  h229) (fun _ wd231 ⟨h232,HS⟩=>⟨_,h232,(GX.fin (HS.pk 3 [2] Z) (GX.nil (rN 3 Z (gW (f1 e1 (lR _) _ _ _ H (HS.pk 3 [0,1] Z)) Z))))⟩)
   exact gW (k1 g1 (lR _) _ _ _ H HS) Z
  exact gW (q1 K (lR _) _ _ _ H (HS.pk 3 [1,2] Z)) Z
theorem D9.calls {a1:List (List Aw)} {y_a:Nat→(Ty.slice 83 Bb).Lay} {r1:List Int} (HS:St w0 w (L)) (r_a:Ce w0 L (Ty.slice 83 Bb) A_a c_a y_a a1) (H:D9.f K a1=some r1) :
    Calls prog 133 #[.agg [sV A_a a1 c_a].toArray] w (D9.post w0 L r1):=by
  unfold D9.f at H
  refine cG func133 Z ?_
  refine sQ (rG (bA HS Z fun b1 wd2 HS=>aS Z (nL (sQ ?_))))
  obtain ⟨t5,h6,H⟩:=bI H
  refine rG (GO.Fj (el:=2) ([I 1]) HS Z Z (fun _=>by kernel_rfl) Z fun b3 wd4 HS=>fL b1 0 H8 Z (lB 1 HS Z Kr Z (lS Z Z U31 Z (GO.mul Z Z Z Z ?_))))
  replace HS:=HS.Ij (T:=(Ad .i64)) (j:=0) Z Av uu ([1]:List Int) Z (K9 Z)
  refine GO.Kj (t:=4) (m:=([1]:List Int).length) (c':=([1]:List Int).length) Z Z Z (fJ vC Z (Cc.calls HS (ro 0 Z) h6) (fun _ wd9 ⟨A7,c8,h10,HS⟩=>⟨_,h10,(GO.alloc HS Z bT Z Z fun b11 wd12 HS=>GO.Kq (j:=0) (vs:=[sV A7 t5 c8]) ([sV A7 t5 c8]) HS Z Z Z Z Z (htN Ha Z) Z Z Z fun wd13 HS=>nL (sQ ?_))⟩))
  obtain ⟨t14,h15,H⟩:=bI H
  obtain ⟨c16,H⟩:=iN H
  refine rG (lW 3 HS Z Jn (GO.Qp Z Z Z Z ?_))
  replace HS:=HS.pk 4 [0,1,2,3] Z
  refine fJ Yi Z (Ah.calls HS (rD 2 r_a) h15) (fun _ wd17 ⟨h18,HS⟩=>⟨_,h18,(nL (sQ (rG (lB 0 HS Z Ha Z (aS Z (nL ?_))))))⟩)
  obtain rfl:=sI H
  exact rT _ func133 Z Z ⟨_,_,Z,(HS.pk 4 [1] Z)⟩
theorem Bu.calls {d1:List (List Aw)} {y_a:Nat→(Ty.slice 83 Bb).Lay} {r1 r2:Int} {r3:List Int} (HS:St w0 w (L)) (r_a:Ce w0 L (Ty.slice 83 Bb) A_a c_a y_a d1) (H:Bu.f K d1=some (r1,r2,r3)) :
    Calls prog 89 #[.agg [sV A_a d1 c_a].toArray] w (Bu.post w0 L r1 r2 r3):=by
  unfold Bu.f at H
  refine cG func89 Z ?_
  refine sQ (rG (bA HS Z fun b1 wd2 HS=>GO.alloc HS Z Md Z Z fun b3 wd4 HS=>nL (sQ ?_)))
  obtain ⟨t5,h6,H⟩:=bI H
  obtain ⟨t11,h12,H⟩:=bI H
  refine G.Jg mixed (fun w=>St w0 w (Box b1 33 [sV A_a d1 c_a]::L)) [0,2] [0,2,1,3,4,5] [] (by kernel_rfl) (by kernel_rfl) (HS.drew.pk 2 [1] Z) ?_
  replace HS:=HS.drew
  refine GX.ls Z Z Z (HS.pk 2 [1] Z) (fun _ HS _ g=>lW 0 HS Z Jn g) Z (GX.ls Z Z Z (HS.pk 2 [1] Z) (fun _ HS _ g=>lW 0 HS Z Jn g) Z (GX.l2 Z (fJ cZ Z (Cz.calls HS (rD 2 r_a) h6) (fun _ wd9 ⟨A7,c8,h10,HS⟩=>⟨_,h10,(GX.fin (HS.pk 3 [2] Z) (GX.l2 Z (fJ vX Z (D9.calls HS (rD 3 r_a) h12) (fun _ wd15 ⟨A13,c14,h16,HS⟩=>⟨_,h16,(GX.fin (HS.pk 4 [3] Z) (GX.ps 2 Z (GX.nil (sQ ?_))))⟩))))⟩))))
  obtain ⟨t17,h18,H⟩:=bI H
  obtain ⟨t21,h22,H⟩:=bI H
  obtain ⟨t25,t26,t27,h28,H⟩:=Ej H
  refine G.Q6 mixed (by decide) (fun b a w=>∃ (A29:Option Addr) (c30:Nat) (b33:Nat) (g1:Df) (f1:Df),RS 44 [(1,pT b1),(2,pT b3),(3,sV A7 t5 c8),(4,sV A13 t11 c14)] [rv 12 (sV A7 t5 c8),rv 13 (I t17),rv 14 (pT b1),rv 15 (sV A_a d1 c_a),rv 16 (I t21),rv 17 (.agg [I t25,I t26,sV A29 t27 c30].toArray),rv 5 (pT b33),none] b a∧St w0 w (Own (Ad .i64) 2 A13 c14 uu t11::Own (Ad .i64) 2 A7 c8 uu t5::Box b3 57 [I 0,I 0,.slice none 0 0]::Box b1 33 [sV A_a d1 c_a]::g1::f1::L)∧(b 5=true→g1=Own (Ad .i64) 2 A29 c30 uu t27)∧(b 6=true→b 7=false→f1=Box b33 57 [I 0,I 0,.slice none 0 0])∧(b 7=true→f1=Box b33 57 [I t25,I t26,sV A29 t27 c30])) ?_ ?_ ?_
  · exact fun a hs=>⟨none,0,0,Emp,Emp,hs.init Z,(HS.drew.emp.emp.pk 6 [2,3,4,5,1,0] Z),fun h=>Bool.noConfusion h,fun h=>Bool.noConfusion h,fun h=>Bool.noConfusion h⟩
  ·
   intro j b a w hj
   refine exI fun A29=>exI fun c30=>exI fun b33=>exI fun g1=>exI fun f1=>anI fun hs=>fun hM q=>?_
   have HS:=hM.1
   match j,hj with
   | 0,_ =>
    refine hs.at q [] [] (mV Z (hs.fin q Z fun _ hs=>⟨_,_,_,_,_,hs,hM⟩))
   | 1,_ =>
    refine hs.at q [0] [] (fJ O0 Z (D5.calls HS (ro 1 Z) h18) (fun _ wd19 ⟨h20,HS⟩=>⟨_,h20,(hs.fin q Z fun _ hs=>⟨_,_,_,_,_,hs,HS,hM.2⟩)⟩))
   | 2,_ =>
    refine hs.at q [] [] (fL b1 0 H8 Z (hs.fin q Z fun _ hs=>⟨_,_,_,_,_,hs,hM⟩))
   | 3,_ =>
    refine hs.at q [2] [] (lB 3 HS Z Kr Z (hs.fin q Z fun _ hs=>⟨_,_,_,_,_,hs,hM⟩))
   | 4,_ =>
    refine hs.at q [3] [] (fJ Pt Z (Dh.calls HS (rD 6 r_a) h22) (fun _ wd23 ⟨h24,HS⟩=>⟨_,h24,(hs.fin q Z fun _ hs=>⟨_,_,_,_,_,hs,HS,hM.2⟩)⟩))
   | 5,_ =>
    refine (anI fun HS=>anI fun c1=>anI fun e1=>fun h1=>?_) hM
    refine hs.at q [1,4] [] (fJ Ur Z (Ee.calls HS  h28) (fun _ wd31 ⟨A29,c30,h32,HS⟩=>⟨_,h32,(hs.V3 q [5] (fun _ hs=>⟨A29,c30,b33,Own (Ad .i64) 2 A29 c30 uu t27,_,hs,HS.pk 7 [1,2,3,4,0,6] Z,fun _=>Z,e1,fun hh=>(q.no 7 hh).elim⟩) Z Z)⟩))
   | 6,_ =>
    refine (anI fun HS=>anI fun c1=>anI fun e1=>fun h1=>?_) hM
    refine hs.at q [] [] (GO.alloc HS Z Md Z Z fun b33 wd34 HS=>hs.V3 q [6] (fun _ hs=>⟨A29,c30,b33,_,Box b33 57 [I 0,I 0,.slice none 0 0],hs,HS.pk 7 [1,2,3,4,5,0] Z,c1,fun _ _=>Z,fun hh=>(q.no 7 hh).elim⟩) Z Z)
   | 7,_ =>
    refine (anI fun HS=>anI fun c1=>anI fun e1=>fun h1=>?_) hM
    have hb6:=q.on 6
    obtain rfl:=e1 hb6 q.hb
    refine hs.at q [6,5] [] (sW 5 HS Z Du Z fun wd35 HS=>hs.tO q Z fun _ hs=>⟨A29,c30,b33,_,Box b33 57 [I t25,I t26,sV A29 t27 c30],hs,HS,c1,fun _ h=>Bool.noConfusion h,fun _=>Z⟩)
   | k+8,hj=>exact absurd hj (Nat.not_lt.2 (Nat.le_add_left 8 k))
  ·
   intro b a w hall
   refine exI fun A29=>exI fun c30=>exI fun b33=>exI fun g1=>exI fun f1=>anI fun hs=>anI fun HS=>anI fun c1=>anI fun e1=>fun h1=>?_
   obtain rfl:=c1 (hall 5 (by decide))
   obtain rfl:=h1 (hall 7 (by decide))
   refine G.at (hs.all hall) (rN 2 Z (rG (mV Z (lS Z Z U26 Z (mV Z (nL (rN 2 Z ?_)))))))
   refine G.name (fun o1 m1=>?_)
   have n1:∀ i1,i1≤K→∀ (a1:List Int) (x52:Int) (w:World),Bu.l1 K i1 t5 t11 t25 t26 a1 x52=some (r1,r2,r3)→St w0 w (Box b3 57 [I 0,I 0,.slice none 0 0]::Own (Ad .i64) 2 A13 c14 uu t11::Box b33 57 [I t25,I t26,sV A29 a1 c30]::Own (Ad .i64) 2 A29 c30 uu a1::Own (Ad .i64) 2 A7 c8 uu t5::L)→G prog 89 44 [(2,pT b3),(4,sV A13 t11 c14),(5,pT b33),(18,sV A7 t5 c8),(19,I (t5.length:Int)),(20,I x52)] o1 w (Bu.post w0 L r1 r2 r3):=by
    refine lp (fun _ _ w H _=>by rw [Bu.l1] at H; cases H) fun k1 q1 p1 a1 x52 w H HS=>?_
    rw [Bu.l1] at H
    subst m1
    refine rN 3 Z ?_
    rcases iS H with ⟨c68,H⟩ | ⟨c68,H⟩
    ·
     refine nB Z (tF c68) (rN 2 Z (rG (lW 2 HS Z Du (sW 0 HS Z Du Z fun wd82 HS=>nL ?_))))
     obtain ⟨rfl,rfl,rfl⟩:=Jh H
     exact rT _ func89 Z (I8.J6 (j:=0) (vs:=[I t25,I t26,sV A29 a1 c30]) HS Z Z Z Du) ⟨_,_,Z,(HS.pk 5 [3] Z)⟩
    refine yB Z (tT c68) (rN 4 Z ?_)
    obtain ⟨c69,H⟩:=iN H
    refine rG (mV Z (iX Z U26 sz2 (rk (ro 4 Z) HS) c69 (GO.Dt (T:=(Ad .i64)) (n:=x52.toNat) (o:=0) HS (ro 4 Z) Z Z (getD_some (d:=0) (ltN c69)) Z Z na2 Z (pS 2 Z (nL ?_)))))
    obtain ⟨t70,h71,H⟩:=bI H
    obtain ⟨c72,H⟩:=iN H
    obtain ⟨t75,h76,H⟩:=bI H
    obtain ⟨c79,H⟩:=iN H
    have h80:=(rk (ro 1 Z) HS)
    refine G.Jg mixed (fun w=>St w0 w (Own (Ad .i64) 2 A13 c14 uu t11::Box b33 57 [I t25,I t26,sV A29 a1 c30]::Own (Ad .i64) 2 A29 c30 uu a1::L)) [0,6,13] [1,2,3,7,8,10,11,12,0,13,4,5,6,9,14,15,16,17] [17] (by kernel_rfl) (by kernel_rfl) (HS.drew.pk 5 [1,2,3] Z) ?_
    replace HS:=HS.drew
    refine GX.ps 2 Z (qL Z Z (fun _ _ g=>GO.quo Z Z Z (by decide) Z g) Z (GX.ps 1 Z (qL Z Z (fun _ _ g=>GO.rem Z Z Z (by decide) Z g) Z (GX.ps 2 Z (qL Z Z (fun _ _ g=>iX Z U26 sz2 h80 c79 g) Z (GX.ls Z Z Z (HS.pk 5 [1,2,3] Z) (fun _ HS _ g=>lW 1 HS Z Du g) Z (GX.ls Z Z Z (HS.pk 5 [1,2,3] Z) (fun _ HS _ g=>GO.Dt (T:=(Ad .i64)) (n:=x52.toNat) (o:=0) HS (ro 0 Z) Z Z (getD_some (d:=0) (ltN c79)) Z Z na2 Z g) Z (GX.l2 Z (fJ Kh Z (Be.calls HS (ro 3 Z) h71) (fun _ wd73 ⟨h74,HS⟩=>⟨_,h74,(GX.fin (HS.pk 5 [1,2,3] Z) (qL Z Z (fun _ _ g=>GO.En Z Z Z g) Z (GX.ls Z Z Z (HS.pk 5 [1,2,3] Z) (fun _ HS _ g=>GO.Dt (T:=(Ad .i64)) (n:=t70.toNat) (o:=0) HS (ro 2 Z) Z Z (getD_some (d:=0) (ltN c72)) Z Z na2 Z g) Z (GX.l2 Z (fJ jQ Z (Kg.calls HS  h76) (fun _ wd77 ⟨h78,HS⟩=>⟨_,h78,?_⟩))))))⟩))))))))))
    refine GX.fin (HS.pk 5 [1,2,3] Z) (GX.ps 2 Z (qL Z Z (fun _ _ g=>GO.En Z Z Z g) Z (GX.l2 Z (GO.Ia (T:=(Ad .i64)) (j:=3) (n:=t70.toNat) (o:=0) (vs:=[I (w64 ((a1.getD t70.toNat 0)+(w64 (t75 * (t11.getD x52.toNat 0)))))]) (w64 ((a1.getD t70.toNat 0)+(w64 (t75 * (t11.getD x52.toNat 0))))) HS Z Av Z Z Z Z (htN na2 Z) Z (getD_some (d:=0) (ltN c72)) Z Z fun wd81 HS=>GX.bF Z (GX.nil ?_)))))
    replace HS:=HS.F8 (j:=2) (cs':=[I t25,I t26,sV A29 (a1.set t70.toNat (w64 ((a1.getD t70.toNat 0)+(w64 (t75 * (t11.getD x52.toNat 0)))))) c30]) Z (by simp only [sV,List.length_set] <;> rfl)
    refine rN 3 Z (gW (p1 k1 (lR _) _ _ _ H HS) Z)
   exact gW (n1 K (lR _) _ _ _ H (HS.pk 6 [2,0,5,4,1] Z)) Z
theorem Cr.calls {a1:List (List Aw)} {k_:Int} {y_a:Nat→(Ty.slice 83 Bb).Lay} {r1 r2:Int} {r3:List Int} (HS:St w0 w (L)) (r_a:Ce w0 L (Ty.slice 83 Bb) A_a c_a y_a a1) (H:Cr.f K a1 k_=some (r1,r2,r3)) :
    Calls prog 40 #[.agg [sV A_a a1 c_a].toArray,I k_] w (Cr.post w0 L r1 r2 r3):=by
  unfold Cr.f at H
  refine cG func40 Z ?_
  refine sQ (rG (bA HS Z fun b1 wd2 HS=>GO.alloc HS Z Md Z Z fun b3 wd4 HS=>nL (rN 6 Z ?_)))
  rcases iE H with ⟨c5,H⟩ | ⟨c5,H⟩
  ·
   refine yB Z (tT c5) (sQ ?_)
   obtain ⟨t6,h7,H⟩:=bI H
   obtain ⟨c12,H⟩:=iN H
   obtain ⟨t13,t14,t15,h16,H⟩:=Ej H
   refine rG (lW 1 HS Z Jn (fJ rF Z (Ep.calls HS (rD 2 r_a) h7) (fun _ wd10 ⟨A8,c9,h11,HS⟩=>⟨_,h11,(iX Z U26 sz2 (rk (ro 0 Z) HS) c12 (GO.Dt (T:=(Ad .i64)) (n:=0) (o:=0) HS (ro 0 Z) Z Z (getD_some (d:=0) (ltN c12)) Z Z na2 Z (fJ Ur Z (Ee.calls HS  h16) (fun _ wd19 ⟨A17,c18,h20,HS⟩=>⟨_,h20,(sW 2 HS Z Du Z fun wd21 HS=>nL ?_)⟩))))⟩)))
   obtain ⟨rfl,rfl,rfl⟩:=Jh H
   exact rT _ func40 Z (I8.J6 (j:=2) (vs:=[I t13,I t14,sV A17 t15 c18]) HS Z Z Z Du) ⟨_,_,Z,(HS.pk 4 [0] Z)⟩
  refine nB Z (tF c5) (rN 2 Z ?_)
  rcases iE H with ⟨c22,H⟩ | ⟨c22,H⟩
  ·
   refine yB Z (tT c22) (sQ ?_)
   obtain ⟨t23,t24,t25,h26,H⟩:=Ej H
   refine rG (lW 1 HS Z Jn (fJ yI Z (Br.calls HS (rD 2 r_a) h26) (fun _ wd29 ⟨A27,c28,h30,HS⟩=>⟨_,h30,(sW 1 HS Z Du Z fun wd31 HS=>nL ?_)⟩)))
   obtain ⟨rfl,rfl,rfl⟩:=Jh H
   exact rT _ func40 Z (I8.J6 (j:=1) (vs:=[I t23,I t24,sV A27 t25 c28]) HS Z Z Z Du) ⟨_,_,Z,(HS.pk 3 [0] Z)⟩
  refine nB Z (tF c22) (rN 2 Z ?_)
  rcases iE H with ⟨c32,H⟩ | ⟨c32,H⟩
  ·
   refine yB Z (tT c32) (sQ ?_)
   obtain ⟨t33,t34,t35,h36,H⟩:=Ej H
   refine rG (lW 1 HS Z Jn (fJ wH Z (Aq.calls HS (rD 2 r_a) h36) (fun _ wd39 ⟨A37,c38,h40,HS⟩=>⟨_,h40,(sW 1 HS Z Du Z fun wd41 HS=>nL ?_)⟩)))
   obtain ⟨rfl,rfl,rfl⟩:=Jh H
   exact rT _ func40 Z (I8.J6 (j:=1) (vs:=[I t33,I t34,sV A37 t35 c38]) HS Z Z Z Du) ⟨_,_,Z,(HS.pk 3 [0] Z)⟩
  refine nB Z (tF c32) (rN 2 Z ?_)
  rcases iE H with ⟨c42,H⟩ | ⟨c42,H⟩
  ·
   refine yB Z (tT c42) (sQ ?_)
   obtain ⟨t43,t44,t45,h46,H⟩:=Ej H
   refine rG (lW 1 HS Z Jn (fJ zS Z (Bu.calls HS (rD 2 r_a) h46) (fun _ wd49 ⟨A47,c48,h50,HS⟩=>⟨_,h50,(sW 1 HS Z Du Z fun wd51 HS=>nL ?_)⟩)))
   obtain ⟨rfl,rfl,rfl⟩:=Jh H
   exact rT _ func40 Z (I8.J6 (j:=1) (vs:=[I t43,I t44,sV A47 t45 c48]) HS Z Z Z Du) ⟨_,_,Z,(HS.pk 3 [0] Z)⟩
  refine nB Z (tF c42) (rN 3 Z ?_)
  obtain ⟨t52,h53,H⟩:=bI H
  obtain ⟨c58,H⟩:=iN H
  obtain ⟨t59,t60,t61,h62,H⟩:=Ej H
  refine rG (lW 1 HS Z Jn (fJ rF Z (Ep.calls HS (rD 2 r_a) h53) (fun _ wd56 ⟨A54,c55,h57,HS⟩=>⟨_,h57,(iX Z U26 sz2 (rk (ro 0 Z) HS) c58 (GO.Dt (T:=(Ad .i64)) (n:=3) (o:=0) HS (ro 0 Z) Z Z (getD_some (d:=0) (ltN c58)) Z Z na2 Z (fJ Ur Z (Ee.calls HS  h62) (fun _ wd65 ⟨A63,c64,h66,HS⟩=>⟨_,h66,(sW 2 HS Z Du Z fun wd67 HS=>nL ?_)⟩))))⟩)))
  obtain ⟨rfl,rfl,rfl⟩:=Jh H
  exact rT _ func40 Z (I8.J6 (j:=2) (vs:=[I t59,I t60,sV A63 t61 c64]) HS Z Z Z Du) ⟨_,_,Z,(HS.pk 4 [0] Z)⟩
theorem Er.calls {list:List Int} {r1:Int} (HS:St w0 w (L)) (r_a:Ce w0 L (Ad .i64) A_a c_a uu list) (H:Er.f list=some r1) :
    Calls prog 84 #[sV A_a list c_a] w (Er.post w0 L r1):=by
  unfold Er.f at H
  refine cG func84 Z ?_
  refine rN 3 Z (rG (mV Z (lS Z Z U26 Z (aS Z (nL ?_)))))
  obtain rfl:=sI H
  exact rT _ func84 Z Z ⟨Z,HS⟩
theorem Io.calls {x:Int} {r1:Bool} (HS:St w0 w (L)) (H:Io.f x=some r1) :
    Calls prog 161 #[I x] w (Io.post w0 L r1):=by
  unfold Io.f at H
  refine cG func161 Z ?_
  refine rN 3 Z ?_
  obtain ⟨t1,h2,H⟩:=bI H
  refine rG (mV Z (fJ Pq Z (Fs.calls HS  h2) (fun _ wd3 ⟨h4,HS⟩=>⟨_,h4,(pS 2 Z (nL ?_))⟩)))
  obtain rfl:=sI H
  exact rT _ func161 Z Z ⟨Z,HS⟩
theorem Bn.calls {s:List Int} {r1:Int} (HS:St w0 w (L)) (r_a:Ce w0 L (Ad .i64) A_a c_a uu s) (H:Bn.f K s=some r1) :
    Calls prog 122 #[sV A_a s c_a,.func (.func 161) #[] #[]] w (Bn.post w0 L r1):=by
  unfold Bn.f at H
  refine cG func122 Z ?_
  refine rN 4 Z (rG (mV Z (lS Z Z U26 Z (mV Z (nL (rN 2 Z ?_))))))
  refine G.name (fun e1 c1=>?_)
  have d1:∀ a1,a1≤K→∀ (x8:Int) (w:World),Bn.l1 K a1 s x8=some r1→St w0 w (L)→G prog 122 19 [(0,sV A_a s c_a),(1,.func (.func 161) #[] #[]),(7,I (s.length:Int)),(8,I x8)] e1 w (Bn.post w0 L r1):=by
   refine lp (fun _ w H _=>by rw [Bn.l1] at H; cases H) fun b1 g1 f1 x8 w H HS=>?_
   rw [Bn.l1] at H
   subst c1
   refine rN 3 Z ?_
   rcases iS H with ⟨c16,H⟩ | ⟨c16,H⟩
   ·
    refine nB Z (tF c16) (rN 3 Z ?_)
    obtain rfl:=sI H
    exact rT _ func122 Z Z ⟨Z,HS⟩
   refine yB Z (tT c16) (rN 6 Z ?_)
   obtain ⟨c17,H⟩:=iN H
   obtain ⟨t18,h19,H⟩:=bI H
   refine rG (pS 3 Z (iX Z U26 sz2 (rk r_a HS) c17 (GO.Dt (T:=(Ad .i64)) (n:=x8.toNat) (o:=0) HS r_a Z Z (getD_some (d:=0) (ltN c17)) Z Z na2 Z (GO.clo Z Z func161 mY.2.1 mY.2.2 Z Z (Io.calls HS  h19) (fun _ wd20 ⟨h21,HS⟩=>⟨_,h21,(nL ?_)⟩)))))
   rcases iE H with ⟨c22,H⟩ | ⟨c22,H⟩
   ·
    refine yB Z c22 (rN 2 Z ?_)
    obtain rfl:=sI H
    exact rT _ func122 Z Z ⟨Z,HS⟩
   refine nB Z (Cy c22) (rN 4 Z (gW (f1 b1 (lR _) _ _ H HS) Z))
  exact gW (d1 K (lR _) _ _ H HS) Z
theorem Dq.calls {s:List Int} {r1:Bool} (HS:St w0 w (L)) (r_a:Ce w0 L (Ad .i64) A_a c_a uu s) (H:Dq.f K s=some r1) :
    Calls prog 81 #[sV A_a s c_a,.func (.func 161) #[] #[]] w (Dq.post w0 L r1):=by
  unfold Dq.f at H
  refine cG func81 Z ?_
  refine rN 3 Z ?_
  obtain ⟨t1,h2,H⟩:=bI H
  refine rG (pS 2 Z (fJ Sc Z (Bn.calls HS r_a h2) (fun _ wd3 ⟨h4,HS⟩=>⟨_,h4,(pS 2 Z (nL ?_))⟩)))
  obtain rfl:=sI H
  exact rT _ func81 Z Z ⟨Z,HS⟩
theorem Hq.calls {c1 d1:Int} {a1:List Int} {r1:Bool} (HS:St w0 w (L)) (r_a:Ce w0 L (Ad .i64) A_a c_a uu a1) (H:Hq.f K c1 d1 a1=some r1) :
    Calls prog 120 #[.agg [I c1,I d1,sV A_a a1 c_a].toArray] w (Hq.post w0 L r1):=by
  unfold Hq.f at H
  refine cG func120 Z ?_
  refine sQ (rG (bA HS Z fun b1 wd2 HS=>aS Z (nL (sQ ?_))))
  obtain ⟨t3,h4,H⟩:=bI H
  rcases iS H with ⟨c7,H⟩ | ⟨c7,H⟩
  ·
   refine G.Jg mixed (fun w=>St w0 w (Box b1 57 [I c1,I d1,sV A_a a1 c_a]::L)) [1,5,10,13,15,21] [0,1,2,3,4,5,6,7,8,9,12,14,10,13,15,16,11,17,18,19,20,21,22,23,24,25] [] (by kernel_rfl) (by kernel_rfl) HS.drew ?_
   replace HS:=HS.drew
   refine qL Z Z (fun _ _ g=>fL b1 0 Gg Z g) Z (GX.ls Z Z Z HS (fun _ HS _ g=>lB 0 HS Z na2 Z g) Z (GX.l2 Z (fJ Pq Z (Fs.calls HS  h4) (fun _ wd5 ⟨h6,HS⟩=>⟨_,h6,(GX.fin HS (qL Z Z (fun _ _ g=>mV Z (kN 6 Z (Cy c7) g)) Z (qL Z Z (fun _ _ g=>oF Z g) Z (GX.ls Z Z Z HS (fun _ HS _ g=>oF Z g) Z (GX.l2 Z (oF Z (GX.fin HS (GX.ps 2 Z (qL Z Z (fun _ _ g=>oF Z g) Z (qL Z Z (fun _ _ g=>oF Z g) Z (qL Z Z (fun _ _ g=>oF Z g) Z ?_)))))))))))⟩))))
   refine GX.ls Z Z Z HS (fun _ HS _ g=>oF Z g) Z (GX.ls Z Z Z HS (fun _ HS _ g=>oF Z g) Z (GX.ls Z Z Z HS (fun _ HS _ g=>oF Z g) Z (qL Z Z (fun _ _ g=>oF Z g) Z (GX.l2 Z (oF Z (GX.fin HS (qL Z Z (fun _ _ g=>oF Z g) Z (GX.ps 2 Z (qL Z Z (fun _ _ g=>oF Z g) Z (GX.ls Z Z Z HS (fun _ HS _ g=>oF Z g) Z (GX.l2 Z (oF Z (GX.fin HS (qL Z Z (fun _ _ g=>oF Z g) Z ?_))))))))))))))
   refine GX.ps 2 Z (GX.nil ?_)
   obtain rfl:=sI H
   exact rT _ func120 Z Z ⟨Z,(HS.pk 1 [] Z)⟩
  obtain ⟨t8,h9,H⟩:=bI H
  rcases iS H with ⟨c12,H⟩ | ⟨c12,H⟩
  ·
   refine G.Jg mixed (fun w=>St w0 w (Box b1 57 [I c1,I d1,sV A_a a1 c_a]::L)) [1,5,10,13,15,21] [0,1,2,3,4,5,6,7,8,9,12,14,10,13,15,16,11,17,18,19,20,21,22,23,24,25] [] (by kernel_rfl) (by kernel_rfl) HS.drew ?_
   replace HS:=HS.drew
   refine qL Z Z (fun _ _ g=>fL b1 0 Gg Z g) Z (GX.ls Z Z Z HS (fun _ HS _ g=>lB 0 HS Z na2 Z g) Z (GX.l2 Z (fJ Pq Z (Fs.calls HS  h4) (fun _ wd5 ⟨h6,HS⟩=>⟨_,h6,(GX.fin HS (qL Z Z (fun _ _ g=>mV Z (kN 6 Z c7 g)) Z (qL Z Z (fun _ _ g=>oN Z (fL b1 1 Ew Z (bK g))) Z (GX.ls Z Z Z HS (fun _ HS _ g=>oN Z (lB 0 HS Z na2 Z (bK g))) Z (GX.l2 Z (oN Z (fJ Pq Z (Fs.calls HS  h9) (fun _ wd10 ⟨h11,HS⟩=>⟨_,h11,(bK (GX.fin HS (GX.ps 1 Z (qL Z Z (fun _ _ g=>mV Z (kN 11 Z (Cy c12) g)) Z ?_))))⟩))))))))⟩))))
   refine qL Z Z (fun _ _ g=>oF Z g) Z (qL Z Z (fun _ _ g=>oF Z g) Z (qL Z Z (fun _ _ g=>oF Z g) Z (GX.ls Z Z Z HS (fun _ HS _ g=>oF Z g) Z (GX.ls Z Z Z HS (fun _ HS _ g=>oF Z g) Z (GX.ls Z Z Z HS (fun _ HS _ g=>oF Z g) Z (qL Z Z (fun _ _ g=>oF Z g) Z (GX.l2 Z (oF Z (GX.fin HS (qL Z Z (fun _ _ g=>oF Z g) Z (GX.ps 2 Z (qL Z Z (fun _ _ g=>oF Z g) Z (GX.ls Z Z Z HS (fun _ HS _ g=>oF Z g) Z (GX.l2 Z ?_))))))))))))))
   refine oF Z (GX.fin HS (qL Z Z (fun _ _ g=>oF Z g) Z (GX.ps 2 Z (GX.nil ?_))))
   obtain rfl:=sI H
   exact rT _ func120 Z Z ⟨Z,(HS.pk 1 [] Z)⟩
  obtain ⟨t13,h14,H⟩:=bI H
  rcases iS H with ⟨c17,H⟩ | ⟨c17,H⟩
  ·
   refine G.Jg mixed (fun w=>St w0 w (Box b1 57 [I c1,I d1,sV A_a a1 c_a]::L)) [1,5,10,13,15,21] [0,1,2,3,4,5,6,7,8,9,12,14,10,13,15,16,11,17,18,19,20,21,22,23,24,25] [] (by kernel_rfl) (by kernel_rfl) HS.drew ?_
   replace HS:=HS.drew
   refine qL Z Z (fun _ _ g=>fL b1 0 Gg Z g) Z (GX.ls Z Z Z HS (fun _ HS _ g=>lB 0 HS Z na2 Z g) Z (GX.l2 Z (fJ Pq Z (Fs.calls HS  h4) (fun _ wd5 ⟨h6,HS⟩=>⟨_,h6,(GX.fin HS (qL Z Z (fun _ _ g=>mV Z (kN 6 Z c7 g)) Z (qL Z Z (fun _ _ g=>oN Z (fL b1 1 Ew Z (bK g))) Z (GX.ls Z Z Z HS (fun _ HS _ g=>oN Z (lB 0 HS Z na2 Z (bK g))) Z (GX.l2 Z (oN Z (fJ Pq Z (Fs.calls HS  h9) (fun _ wd10 ⟨h11,HS⟩=>⟨_,h11,(bK (GX.fin HS (GX.ps 1 Z (qL Z Z (fun _ _ g=>mV Z (kN 11 Z c12 g)) Z ?_))))⟩))))))))⟩))))
   refine qL Z Z (fun _ _ g=>oN Z (fL b1 2 Jf Z (bK g))) Z (qL Z Z (fun _ _ g=>oN Z (fL b1 0 Gg Z (bK g))) Z (qL Z Z (fun _ _ g=>oN Z (fL b1 1 Ew Z (bK g))) Z (GX.ls Z Z Z HS (fun _ HS _ g=>oN Z (lB 0 HS Z Ha Z (bK g))) Z (GX.ls Z Z Z HS (fun _ HS _ g=>oN Z (lB 0 HS Z na2 Z (bK g))) Z (GX.ls Z Z Z HS (fun _ HS _ g=>oN Z (lB 0 HS Z na2 Z (bK g))) Z (qL Z Z (fun _ _ g=>oN Z (GO.mul Z Z Z Z (bK g))) Z (GX.l2 Z (oN Z (fJ eH Z (Er.calls HS (rD 1 r_a) h14) (fun _ wd15 ⟨h16,HS⟩=>⟨_,h16,(bK (GX.fin HS (qL Z Z (fun _ _ g=>oN Z (GO.eql Z Z Z Z (bK g))) Z (GX.ps 1 Z (qL Z Z (fun _ _ g=>mV Z (kN 22 Z (tF c17) g)) Z ?_)))))⟩))))))))))
   refine qL Z Z (fun _ _ g=>oF Z g) Z (GX.ls Z Z Z HS (fun _ HS _ g=>oF Z g) Z (GX.l2 Z (oF Z (GX.fin HS (qL Z Z (fun _ _ g=>oF Z g) Z (GX.ps 2 Z (GX.nil ?_)))))))
   obtain rfl:=sI H
   exact rT _ func120 Z Z ⟨Z,(HS.pk 1 [] Z)⟩
  obtain ⟨t18,h19,H⟩:=bI H
  refine G.Jg mixed (fun w=>St w0 w (Box b1 57 [I c1,I d1,sV A_a a1 c_a]::L)) [1,5,10,13,15,21] [0,1,2,3,4,5,6,7,8,9,12,14,10,13,15,16,11,17,18,19,20,21,22,23,24,25] [] (by kernel_rfl) (by kernel_rfl) HS.drew ?_
  replace HS:=HS.drew
  refine qL Z Z (fun _ _ g=>fL b1 0 Gg Z g) Z (GX.ls Z Z Z HS (fun _ HS _ g=>lB 0 HS Z na2 Z g) Z (GX.l2 Z (fJ Pq Z (Fs.calls HS  h4) (fun _ wd5 ⟨h6,HS⟩=>⟨_,h6,(GX.fin HS (qL Z Z (fun _ _ g=>mV Z (kN 6 Z c7 g)) Z (qL Z Z (fun _ _ g=>oN Z (fL b1 1 Ew Z (bK g))) Z (GX.ls Z Z Z HS (fun _ HS _ g=>oN Z (lB 0 HS Z na2 Z (bK g))) Z (GX.l2 Z (oN Z (fJ Pq Z (Fs.calls HS  h9) (fun _ wd10 ⟨h11,HS⟩=>⟨_,h11,(bK (GX.fin HS (GX.ps 1 Z (qL Z Z (fun _ _ g=>mV Z (kN 11 Z c12 g)) Z ?_))))⟩))))))))⟩))))
  refine qL Z Z (fun _ _ g=>oN Z (fL b1 2 Jf Z (bK g))) Z (qL Z Z (fun _ _ g=>oN Z (fL b1 0 Gg Z (bK g))) Z (qL Z Z (fun _ _ g=>oN Z (fL b1 1 Ew Z (bK g))) Z (GX.ls Z Z Z HS (fun _ HS _ g=>oN Z (lB 0 HS Z Ha Z (bK g))) Z (GX.ls Z Z Z HS (fun _ HS _ g=>oN Z (lB 0 HS Z na2 Z (bK g))) Z (GX.ls Z Z Z HS (fun _ HS _ g=>oN Z (lB 0 HS Z na2 Z (bK g))) Z (qL Z Z (fun _ _ g=>oN Z (GO.mul Z Z Z Z (bK g))) Z (GX.l2 Z (oN Z (fJ eH Z (Er.calls HS (rD 1 r_a) h14) (fun _ wd15 ⟨h16,HS⟩=>⟨_,h16,(bK (GX.fin HS (qL Z Z (fun _ _ g=>oN Z (GO.eql Z Z Z Z (bK g))) Z (GX.ps 1 Z (qL Z Z (fun _ _ g=>mV Z (kN 22 Z (tT c17) g)) Z ?_)))))⟩))))))))))
  refine qL Z Z (fun _ _ g=>oN Z (fL b1 2 Jf Z (bK g))) Z (GX.ls Z Z Z HS (fun _ HS _ g=>oN Z (lB 0 HS Z Ha Z (bK g))) Z (GX.l2 Z (oN Z (fJ eY Z (Dq.calls HS (rD 1 r_a) h19) (fun _ wd20 ⟨h21,HS⟩=>⟨_,h21,(bK (GX.fin HS (qL Z Z (fun _ _ g=>oN Z (GO.not Z Z Z (bK g))) Z (GX.ps 2 Z (GX.nil ?_)))))⟩)))))
  obtain rfl:=sI H
  exact rT _ func120 Z Z ⟨Z,(HS.pk 1 [] Z)⟩
theorem Jc.calls {x r1:Int} (HS:St w0 w (L)) (H:Jc.f x=some r1) :
    Calls prog 55 #[I x] w (Jc.post w0 L r1):=by
  unfold Jc.f at H
  refine cG func55 Z ?_
  refine rN 5 Z ?_
  rcases iS H with ⟨c1,H⟩ | ⟨c1,H⟩
  ·
   refine nB Z (tF c1) (rN 3 Z ?_)
   obtain rfl:=sI H
   exact rT _ func55 Z Z ⟨Z,HS⟩
  refine yB Z (tT c1) (sQ (rG (mV Z (GO.neg Z Z Z (aS Z (nL ?_))))))
  obtain rfl:=sI H
  exact rT _ func55 Z Z ⟨Z,HS⟩
theorem Jb.calls {a_ b_:Int} {most r1:Int} {r2:Bool} (HS:St w0 w (L)) (H:Jb.f a_ b_ most=some (r1,r2)) :
    Calls prog 162 #[I a_,I b_,I most] w (Jb.post w0 L r1 r2):=by
  unfold Jb.f at H
  refine cG func162 Z ?_
  refine rN 4 Z ?_
  rcases iE H with ⟨c11,H⟩ | ⟨c11,H⟩
  ·
   refine rG (pS 3 Z (kN 10 Z (nT c11) (oF Z (oF Z (oF Z (oF Z (oF Z (oF Z (oF Z (GO.Hw Z Z Z Z Z (nL (rN 4 Z ?_))))))))))))
   obtain ⟨rfl,rfl⟩:=I6 H
   exact G.I9 _ _ func162 Z Z Z ⟨Z,HS⟩
  obtain ⟨t12,h13,H⟩:=bI H
  obtain ⟨t16,h17,H⟩:=bI H
  obtain ⟨c20,H⟩:=Lc H
  refine rG (pS 3 Z (kN 10 Z (nF c11) (oN Z (mV Z (bK (oN Z (fJ Xd Z (Jc.calls HS  h13) (fun _ wd14 ⟨h15,HS⟩=>⟨_,h15,(bK (oN Z (mV Z (bK (oN Z (mV Z (bK ?_)))))))⟩))))))))
  refine oN Z (fJ Xd Z (Jc.calls HS  h17) (fun _ wd18 ⟨h19,HS⟩=>⟨_,h19,(bK (oN Z (GO.quo Z Z Z c20 Z (bK (oN Z (GO.gtr Z Z Z Z (bK (GO.Gw Z Z Z Z Z (nL ?_)))))))))⟩))
  rcases iE H with ⟨c21,H⟩ | ⟨c21,H⟩
  ·
   refine yB Z (tT c21) (rN 2 Z ?_)
   obtain ⟨rfl,rfl⟩:=I6 H
   exact G.I9 _ _ func162 Z Z Z ⟨Z,HS⟩
  refine nB Z (tF c21) (rN 3 Z ?_)
  obtain ⟨rfl,rfl⟩:=I6 H
  exact G.I9 _ _ func162 Z Z Z ⟨Z,HS⟩
theorem Gt.calls {g1 c1:Int} {d1:List Int} {f1 e1:Int} {a1:List Int} {i j_:Int} {r1:Int} {r2:Bool} (HS:St w0 w (L)) (r_a:Ce w0 L (Ad .i64) A_a c_a uu d1) (r_b:Ce w0 L (Ad .i64) A_b c_b uu a1) (H:Gt.f K g1 c1 d1 f1 e1 a1 i j_=some (r1,r2)) :
    Calls prog 121 #[.agg [I g1,I c1,sV A_a d1 c_a].toArray,.agg [I f1,I e1,sV A_b a1 c_b].toArray,I i,I j_] w (Gt.post w0 L r1 r2):=by
  unfold Gt.f at H
  refine cG func121 Z ?_
  refine sQ (rG (bA HS Z fun b1 wd2 HS=>bA HS Z fun b3 wd4 HS=>pS 2 Z (nL (rN 4 Z (rG (fL b1 1 Ew Z (lB 1 HS Z na2 Z (mV Z (nL (rN 2 Z ?_))))))))))
  refine G.name (fun n1 o1=>?_)
  have p1:∀ k1,k1≤K→∀ (h1 i1 x29:Int) (w:World),Gt.l1 K k1 g1 c1 d1 f1 e1 a1 i j_ h1 i1 x29=some (r1,r2)→St w0 w (Box b1 57 [I g1,I c1,sV A_a d1 c_a]::Box b3 57 [I f1,I e1,sV A_b a1 c_b]::L)→G prog 121 51 [(2,I i),(3,I j_),(4,pT b1),(5,pT b3),(10,I h1),(11,I i1),(16,I c1),(17,I x29)] n1 w (Gt.post w0 L r1 r2):=by
   refine lp (fun _ _ _ w H _=>by rw [Gt.l1] at H; cases H) fun m1 s1 q1 h1 i1 x29 w H HS=>?_
   rw [Gt.l1] at H
   subst o1
   refine rN 3 Z ?_
   rcases iS H with ⟨c52,H⟩ | ⟨c52,H⟩
   ·
    refine nB Z (tF c52) (rN 3 Z ?_)
    obtain ⟨rfl,rfl⟩:=I6 H
    exact G.I9 _ _ func121 Z Z Z ⟨Z,(HS.pk 2 [] Z)⟩
   refine yB Z (tT c52) (rN 6 Z ?_)
   obtain ⟨t53,h54,H⟩:=bI H
   obtain ⟨c55,H⟩:=iN H
   obtain ⟨t58,h59,H⟩:=bI H
   obtain ⟨c60,H⟩:=iN H
   obtain ⟨t63,t64,h65,H⟩:=De H
   refine G.Jg mixed (fun w=>St w0 w (Box b1 57 [I g1,I c1,sV A_a d1 c_a]::Box b3 57 [I f1,I e1,sV A_b a1 c_b]::L)) [0,5,6,11] [1,2,7,8,0,6,3,4,5,9,10,11,12,13,14,15,16,17] [] (by kernel_rfl) (by kernel_rfl) HS.drew ?_
   replace HS:=HS.drew
   refine GX.ps 4 Z (GX.ls Z Z Z HS (fun _ HS _ g=>lW 0 HS Z Du g) Z (GX.ls Z Z Z HS (fun _ HS _ g=>lW 1 HS Z Du g) Z (GX.l2 Z (fJ Kh Z (Be.calls HS (rD 2 r_a) h54) (fun _ wd56 ⟨h57,HS⟩=>⟨_,h57,(GX.fin HS (qL Z Z (fun _ _ g=>GO.En Z Z Z g) Z (GX.ls Z Z Z HS (fun _ HS _ g=>GO.Dt (T:=(Ad .i64)) (n:=t53.toNat) (o:=0) HS (rD 2 r_a) Z Z (getD_some (d:=0) (ltN c55)) Z Z na2 Z g) Z (GX.l2 Z (fJ Kh Z (Be.calls HS (rD 2 r_b) h59) (fun _ wd61 ⟨h62,HS⟩=>⟨_,h62,(GX.fin HS (qL Z Z (fun _ _ g=>GO.En Z Z Z g) Z (GX.ls Z Z Z HS (fun _ HS _ g=>GO.Dt (T:=(Ad .i64)) (n:=t58.toNat) (o:=0) HS (rD 2 r_b) Z Z (getD_some (d:=0) (ltN c60)) Z Z na2 Z g) Z (GX.l2 Z (fJ iZ Z (Jb.calls HS  h65) (fun _ wd66 ⟨h67,HS⟩=>⟨_,h67,?_⟩))))))⟩))))))⟩)))))
   refine GX.fin HS (GX.ps 5 Z (GX.nil (rN 3 Z ?_)))
   obtain ⟨t68,h69,H⟩:=bI H
   refine rG (pS 2 Z (fJ Xd Z (Jc.calls HS  h69) (fun _ wd70 ⟨h71,HS⟩=>⟨_,h71,(pS 2 Z (nL (sQ ?_)))⟩)))
   rcases iS H with ⟨c72,H⟩ | ⟨c72,H⟩
   ·
    refine rG (pS 3 Z (kN 45 Z (congrArg Bool.not (Cy c72)) (oF Z (oF Z (GO.Gw Z Z Z Z Z (nL (rN 3 Z ?_)))))))
    obtain ⟨rfl,rfl⟩:=I6 H
    exact G.I9 _ _ func121 Z Z Z ⟨Z,(HS.pk 2 [] Z)⟩
   refine rG (pS 3 Z (kN 45 Z (congrArg Bool.not c72) (oN Z (mV Z (bK (oN Z (GO.gtr Z Z Z Z (bK (GO.Hw Z Z Z Z Z (nL ?_))))))))))
   rcases iE H with ⟨c73,H⟩ | ⟨c73,H⟩
   ·
    refine yB Z (tT c73) (rN 2 Z ?_)
    obtain ⟨rfl,rfl⟩:=I6 H
    exact G.I9 _ _ func121 Z Z Z ⟨Z,(HS.pk 2 [] Z)⟩
   refine nB Z (tF c73) (rN 4 Z (gW (q1 m1 (lR _) _ _ _ _ H HS) Z))
  exact gW (p1 K (lR _) _ _ _ _ H (HS.pk 2 [1,0] Z)) Z
theorem Ca.calls {a1 f1:Int} {d1:List Int} {g1 c1:Int} {e1:List Int} {r1 r2:Int} {r3:List Int} {r4:Int} (HS:St w0 w (L)) (r_a:Ce w0 L (Ad .i64) A_a c_a uu d1) (r_b:Ce w0 L (Ad .i64) A_b c_b uu e1) (H:Ca.f K a1 f1 d1 g1 c1 e1=some (r1,r2,r3,r4)) :
    Calls prog 80 #[.agg [I a1,I f1,sV A_a d1 c_a].toArray,.agg [I g1,I c1,sV A_b e1 c_b].toArray] w (Ca.post w0 L r1 r2 r3 r4):=by
  unfold Ca.f at H
  refine cG func80 Z ?_
  refine sQ (rG (bA HS Z fun b1 wd2 HS=>bA HS Z fun b3 wd4 HS=>GO.alloc HS Z Md Z Z fun b5 wd6 HS=>aS Z (nL (rN 3 Z ?_))))
  obtain ⟨t16,h17,H⟩:=bI H
  rcases iS H with ⟨c20,H⟩ | ⟨c20,H⟩
  ·
   refine rG (lW 2 HS Z Du (fJ bR Z (Hq.calls HS (rD 3 r_a) h17) (fun _ wd18 ⟨h19,HS⟩=>⟨_,h19,(pS 2 Z (kN 15 Z (congrArg Bool.not (Cy c20)) (oF Z (oF Z (oF Z (pS 2 Z (nL (rN 2 Z (rG (GO.Il (.agg [I 0,I 0,.slice none 0 0].toArray) Z Z (fun _=>by kernel_rfl) Z (sW 0 HS Z Du Z fun wd180 HS=>aS Z ?_)))))))))))⟩)))
   refine nL ?_
   replace HS:=HS.H9 (Ad .i64) 2 uu
   obtain ⟨rfl,rfl,rfl,rfl⟩:=Mi H
   exact G.I9 _ _ func80 Z (I8.J6 (j:=1) (vs:=[I 0,I 0,.slice none 0 0]) HS Z Z Z Du) Z ⟨_,_,Z,(HS.pk 4 [0] Z)⟩
  obtain ⟨t21,h22,H⟩:=bI H
  refine rG (lW 2 HS Z Du (fJ bR Z (Hq.calls HS (rD 3 r_a) h17) (fun _ wd18 ⟨h19,HS⟩=>⟨_,h19,(pS 2 Z (kN 15 Z (congrArg Bool.not c20) (oN Z (lW 1 HS Z Du (bK (oN Z (fJ bR Z (Hq.calls HS (rD 3 r_b) h22) (fun _ wd23 ⟨h24,HS⟩=>⟨_,h24,(bK (oN Z (GO.not Z Z Z (bK (pS 2 Z ?_)))))⟩))))))))⟩)))
  refine nL ?_
  rcases iS H with ⟨c25,H⟩ | ⟨c25,H⟩
  ·
   refine yB Z (congrArg Bool.not (Cy c25)) (sQ (rG (GO.Il (.agg [I 0,I 0,.slice none 0 0].toArray) Z Z (fun _=>by kernel_rfl) Z (sW 0 HS Z Du Z fun wd179 HS=>aS Z (nL ?_)))))
   replace HS:=HS.H9 (Ad .i64) 2 uu
   obtain ⟨rfl,rfl,rfl,rfl⟩:=Mi H
   exact G.I9 _ _ func80 Z (I8.J6 (j:=1) (vs:=[I 0,I 0,.slice none 0 0]) HS Z Z Z Du) Z ⟨_,_,Z,(HS.pk 4 [0] Z)⟩
  refine nB Z (congrArg Bool.not c25) (sQ (rG (fL b1 1 Ew Z (lB 2 HS Z na2 Z (fL b3 0 Gg Z (lB 1 HS Z na2 Z (pS 2 Z (nL ?_))))))))
  rcases iS H with ⟨c26,H⟩ | ⟨c26,H⟩
  ·
   refine yB Z (nF c26) (sQ (rG (GO.Il (.agg [I 0,I 0,.slice none 0 0].toArray) Z Z (fun _=>by kernel_rfl) Z (sW 0 HS Z Du Z fun wd178 HS=>aS Z (nL ?_)))))
   replace HS:=HS.H9 (Ad .i64) 2 uu
   obtain ⟨rfl,rfl,rfl,rfl⟩:=Mi H
   exact G.I9 _ _ func80 Z (I8.J6 (j:=1) (vs:=[I 0,I 0,.slice none 0 0]) HS Z Z Z Du) Z ⟨_,_,Z,(HS.pk 4 [0] Z)⟩
  refine nB Z (nT c26) (rN 3 Z ?_)
  obtain ⟨t27,t28,t29,h30,H⟩:=Ej H
  refine rG (fL b1 0 Gg Z (lB 2 HS Z na2 Z (fL b3 1 Ew Z (lB 1 HS Z na2 Z (fJ Ur Z (Ee.calls HS  h30) (fun _ wd33 ⟨A31,c32,h34,HS⟩=>⟨_,h34,(GO.alloc HS Z Md Z Z fun b35 wd36 HS=>sW 0 HS Z Du Z fun wd37 HS=>nL (rN 2 Z (rG (fL b1 0 Gg Z (lB 4 HS Z na2 Z (mV Z (nL ?_)))))))⟩))))))
  refine rN 2 Z ?_
  refine G.name (fun t1 x1=>?_)
  have y1:∀ m1,m1≤K→∀ (h1:List Int) (x85:Int) (w:World),Ca.l1 K m1 a1 f1 d1 g1 c1 e1 t27 t28 h1 x85=some (r1,r2,r3,r4)→St w0 w (Box b1 57 [I a1,I f1,sV A_a d1 c_a]::Box b3 57 [I g1,I c1,sV A_b e1 c_b]::Box b5 57 [I 0,I 0,.slice none 0 0]::Box b35 57 [I t27,I t28,sV A31 h1 c32]::Own (Ad .i64) 2 A31 c32 uu h1::L)→G prog 80 63 [(2,pT b1),(3,pT b3),(4,pT b5),(6,pT b35),(34,I a1),(35,I x85)] t1 w (Ca.post w0 L r1 r2 r3 r4):=by
   refine lp (fun _ _ w H _=>by rw [Ca.l1] at H; cases H) fun n1 a2 z1 h1 x85 w H HS=>?_
   rw [Ca.l1] at H
   subst x1
   refine rN 3 Z ?_
   rcases iS H with ⟨c132,H⟩ | ⟨c132,H⟩
   ·
    refine nB Z (tF c132) (rN 2 Z (rG (lW 3 HS Z Du (sW 2 HS Z Du Z fun wd177 HS=>aS Z (nL ?_)))))
    obtain ⟨rfl,rfl,rfl,rfl⟩:=Mi H
    exact G.I9 _ _ func80 Z (I8.J6 (j:=2) (vs:=[I t27,I t28,sV A31 h1 c32]) HS Z Z Z Du) Z ⟨_,_,Z,(HS.pk 5 [4] Z)⟩
   refine yB Z (tT c132) (rN 6 Z (rG (fL b3 1 Ew Z (lB 1 HS Z na2 Z (mV Z (nL (rN 2 Z ?_)))))))
   refine G.name (fun v1 s1=>?_)
   have p1:∀ o1,o1≤n1→∀ (i1:List Int) (x148:Int) (w:World),Ca.l4 K o1 a1 f1 d1 g1 c1 e1 t27 t28 x85 i1 x148=some (r1,r2,r3,r4)→St w0 w (Box b1 57 [I a1,I f1,sV A_a d1 c_a]::Box b3 57 [I g1,I c1,sV A_b e1 c_b]::Box b5 57 [I 0,I 0,.slice none 0 0]::Box b35 57 [I t27,I t28,sV A31 i1 c32]::Own (Ad .i64) 2 A31 c32 uu i1::L)→G prog 80 63 [(2,pT b1),(3,pT b3),(4,pT b5),(6,pT b35),(7,I x85),(34,I a1),(35,I x85),(39,I c1),(40,I x148)] v1 w (Ca.post w0 L r1 r2 r3 r4):=by
    refine lp (fun _ _ w H _=>by rw [Ca.l4] at H; cases H) fun k1 q1 u1 i1 x148 w H HS=>?_
    rw [Ca.l4] at H
    subst s1
    refine rN 3 Z ?_
    rcases iS H with ⟨c163,H⟩ | ⟨c163,H⟩
    ·
     refine nB Z (tF c163) (rN 4 Z (gW (z1 k1 (Nat.le_of_succ_le q1) _ _ _ H HS) Z))
    refine yB Z (tT c163) (rN 6 Z ?_)
    obtain ⟨t164,t165,h166,H⟩:=De H
    refine rG (lW 0 HS Z Du (lW 1 HS Z Du (pS 2 Z (fJ uZ Z (Gt.calls HS (rD 5 r_a) (rD 5 r_b) h166) (fun _ wd167 ⟨h168,HS⟩=>⟨_,h168,(pS 5 Z (nL (rN 3 Z ?_)))⟩)))))
    rcases iS H with ⟨c169,H⟩ | ⟨c169,H⟩
    ·
     refine yB Z (congrArg Bool.not (Cy c169)) (sQ (rG (GO.Il (.agg [I 0,I 0,.slice none 0 0].toArray) Z Z (fun _=>by kernel_rfl) Z (sW 2 HS Z Du Z fun wd176 HS=>aS Z (nL ?_)))))
     replace HS:=HS.H9 (Ad .i64) 2 uu
     obtain ⟨rfl,rfl,rfl,rfl⟩:=Mi H
     exact G.I9 _ _ func80 Z (I8.J6 (j:=3) (vs:=[I 0,I 0,.slice none 0 0]) HS Z Z Z Du) Z ⟨_,_,Z,(HS.pk 6 [0] Z)⟩
    refine nB Z (congrArg Bool.not c169) (G.skip ?_)
    obtain ⟨t170,h171,H⟩:=bI H
    obtain ⟨c172,H⟩:=iN H
    refine rG (lW 3 HS Z Du (pS 2 Z (fJ Kh Z (Be.calls HS (ro 4 Z) h171) (fun _ wd173 ⟨h174,HS⟩=>⟨_,h174,(mV Z (GO.En Z Z Z (GO.Ia (T:=(Ad .i64)) (j:=4) (n:=t170.toNat) (o:=0) (vs:=[I t164]) t164 HS Z Av Z Z Z Z (htN na2 Z) Z (getD_some (d:=0) (ltN c172)) Z Z fun wd175 HS=>nL ?_)))⟩))))
    replace HS:=HS.F8 (j:=3) (cs':=[I t27,I t28,sV A31 (i1.set t170.toNat t164) c32]) Z (by simp only [sV,List.length_set] <;> rfl)
    refine rN 3 Z (gW (u1 k1 (lR _) _ _ _ H HS) Z)
   exact gW (p1 n1 (lR _) _ _ _ H HS) Z
  exact gW (y1 K (lR _) _ _ _ H (HS.pk 5 [4,3,2,0,1] Z)) Z
theorem H6.calls {x:Int} {r1:Bool} (HS:St w0 w (L)) (H:H6.f x=some r1) :
    Calls prog 82 #[I x] w (H6.post w0 L r1):=by
  unfold H6.f at H
  refine cG func82 Z ?_
  refine rN 4 Z ?_
  obtain rfl:=sI H
  exact rT _ func82 Z Z ⟨Z,HS⟩
theorem Bh.calls {s:List Int} {r1:Int} (HS:St w0 w (L)) (r_a:Ce w0 L (Ad .i64) A_a c_a uu s) (H:Bh.f K s=some r1) :
    Calls prog 122 #[sV A_a s c_a,.func (.func 82) #[] #[]] w (Bh.post w0 L r1):=by
  unfold Bh.f at H
  refine cG func122 Z ?_
  refine rN 4 Z (rG (mV Z (lS Z Z U26 Z (mV Z (nL (rN 2 Z ?_))))))
  refine G.name (fun e1 c1=>?_)
  have d1:∀ a1,a1≤K→∀ (x8:Int) (w:World),Bh.l1 K a1 s x8=some r1→St w0 w (L)→G prog 122 19 [(0,sV A_a s c_a),(1,.func (.func 82) #[] #[]),(7,I (s.length:Int)),(8,I x8)] e1 w (Bh.post w0 L r1):=by
   refine lp (fun _ w H _=>by rw [Bh.l1] at H; cases H) fun b1 g1 f1 x8 w H HS=>?_
   rw [Bh.l1] at H
   subst c1
   refine rN 3 Z ?_
   rcases iS H with ⟨c16,H⟩ | ⟨c16,H⟩
   ·
    refine nB Z (tF c16) (rN 3 Z ?_)
    obtain rfl:=sI H
    exact rT _ func122 Z Z ⟨Z,HS⟩
   refine yB Z (tT c16) (rN 6 Z ?_)
   obtain ⟨c17,H⟩:=iN H
   obtain ⟨t18,h19,H⟩:=bI H
   refine rG (pS 3 Z (iX Z U26 sz2 (rk r_a HS) c17 (GO.Dt (T:=(Ad .i64)) (n:=x8.toNat) (o:=0) HS r_a Z Z (getD_some (d:=0) (ltN c17)) Z Z na2 Z (GO.clo Z Z func82 qI.2.1 qI.2.2 Z Z (H6.calls HS  h19) (fun _ wd20 ⟨h21,HS⟩=>⟨_,h21,(nL ?_)⟩)))))
   rcases iE H with ⟨c22,H⟩ | ⟨c22,H⟩
   ·
    refine yB Z c22 (rN 2 Z ?_)
    obtain rfl:=sI H
    exact rT _ func122 Z Z ⟨Z,HS⟩
   refine nB Z (Cy c22) (rN 4 Z (gW (f1 b1 (lR _) _ _ H HS) Z))
  exact gW (d1 K (lR _) _ _ H HS) Z
theorem C8.calls {s:List Int} {r1:Bool} (HS:St w0 w (L)) (r_a:Ce w0 L (Ad .i64) A_a c_a uu s) (H:C8.f K s=some r1) :
    Calls prog 81 #[sV A_a s c_a,.func (.func 82) #[] #[]] w (C8.post w0 L r1):=by
  unfold C8.f at H
  refine cG func81 Z ?_
  refine rN 3 Z ?_
  obtain ⟨t1,h2,H⟩:=bI H
  refine rG (pS 2 Z (fJ Sc Z (Bh.calls HS r_a h2) (fun _ wd3 ⟨h4,HS⟩=>⟨_,h4,(pS 2 Z (nL ?_))⟩)))
  obtain rfl:=sI H
  exact rT _ func81 Z Z ⟨Z,HS⟩
theorem Ec.calls {n_ r1 r2:Int} {r3:List Int} (HS:St w0 w (L)) (H:Ec.f K n_=some (r1,r2,r3)) :
    Calls prog 188 #[I n_] w (Ec.post w0 L r1 r2 r3):=by
  unfold Ec.f at H
  refine cG func188 Z ?_
  refine sQ (rG (GO.alloc HS Z Md Z Z fun b1 wd2 HS=>nL (sQ ?_)))
  obtain ⟨t3,t4,t5,h6,H⟩:=Ej H
  refine rG (pS 2 Z (fJ Ur Z (Ee.calls HS  h6) (fun _ wd9 ⟨A7,c8,h10,HS⟩=>⟨_,h10,(GO.alloc HS Z Md Z Z fun b11 wd12 HS=>sW 0 HS Z Du Z fun wd13 HS=>nL (rN 5 Z ?_))⟩)))
  refine G.name (fun g1 e1=>?_)
  have f1:∀ c1,c1≤K→∀ (a1:List Int) (x23:Int) (w:World),Ec.l1 K c1 n_ t3 t4 a1 x23=some (r1,r2,r3)→St w0 w (Box b1 57 [I 0,I 0,.slice none 0 0]::Box b11 57 [I t3,I t4,sV A7 a1 c8]::Own (Ad .i64) 2 A7 c8 uu a1::L)→G prog 188 19 [(2,pT b1),(3,pT b11),(8,I n_),(9,I x23)] g1 w (Ec.post w0 L r1 r2 r3):=by
   refine lp (fun _ _ w H _=>by rw [Ec.l1] at H; cases H) fun d1 i1 h1 a1 x23 w H HS=>?_
   rw [Ec.l1] at H
   subst e1
   refine rN 3 Z ?_
   rcases iS H with ⟨c32,H⟩ | ⟨c32,H⟩
   ·
    refine nB Z (tF c32) (rN 2 Z (rG (lW 1 HS Z Du (sW 0 HS Z Du Z fun wd39 HS=>nL ?_))))
    obtain ⟨rfl,rfl,rfl⟩:=Jh H
    exact rT _ func188 Z (I8.J6 (j:=0) (vs:=[I t3,I t4,sV A7 a1 c8]) HS Z Z Z Du) ⟨_,_,Z,(HS.pk 3 [2] Z)⟩
   refine yB Z (tT c32) (rN 5 Z ?_)
   obtain ⟨t33,h34,H⟩:=bI H
   obtain ⟨c35,H⟩:=iN H
   refine rG (lW 1 HS Z Du (pS 2 Z (fJ Kh Z (Be.calls HS (ro 2 Z) h34) (fun _ wd36 ⟨h37,HS⟩=>⟨_,h37,(GO.En Z Z Z (GO.Ia (T:=(Ad .i64)) (j:=2) (n:=t33.toNat) (o:=0) (vs:=[I 1]) 1 HS Z Av Z Z Z Z (htN na2 Z) Z (getD_some (d:=0) (ltN c35)) Z Z fun wd38 HS=>nL ?_))⟩))))
   replace HS:=HS.F8 (j:=1) (cs':=[I t3,I t4,sV A7 (a1.set t33.toNat 1) c8]) Z (by simp only [sV,List.length_set] <;> rfl)
   refine rN 3 Z (gW (h1 d1 (lR _) _ _ _ H HS) Z)
  exact gW (f1 K (lR _) _ _ _ H (HS.pk 3 [2,0,1] Z)) Z
theorem Gr.calls {s:List Int} {r1:List Int} (HS:St w0 w (L)) (r_a:Ce w0 L (Ad .i64) A_a c_a uu s) (H:Gr.f s=some r1) :
    Calls prog 205 #[sV A_a s c_a] w (Gr.post w0 L r1):=by
  unfold Gr.f at H
  refine cG func205 Z ?_
  refine rN 4 Z (rG (mV Z (GO.yT Z Z Z U26 Z (nL ?_))))
  rcases Decidable.em (A_a.isNone=true) with c1 | c1
  ·
   obtain rfl:=Z4 r_a HS c1
   refine yB Z c1 (rN 2 Z ?_)
   replace HS:=HS.H9 (Ad .i64) 2 uu
   replace H:some ([]:List Int)=some r1:=H
   obtain rfl:=sI H
   exact rT _ func205 Z Z ⟨_,_,Z,HS⟩
  refine nB Z (Cy c1) (rN 2 Z ?_)
  obtain ⟨c7,H⟩:=iN H
  refine rG (GO.Fj (el:=2) ([]) HS Z Z (fun _=>by kernel_rfl) Z fun b2 wd3 HS=>mV Z ?_)
  replace HS:=HS.Ij (T:=(Ad .i64)) (j:=0) Z Av uu ([]:List Int) Z (K9 Z)
  refine GO.Kj (t:=5) (m:=([]:List Int).length) (c':=([]:List Int).length) Z Z Z (GO.oM (T:=(Ad .i64)) (j:=0) HS Z (rD 1 r_a) Av Z Z Z U26 Le Z Z Z c7 Z (fun _=>Z) fun A5 c6 wd4 HS=>aS Z (nL ?_))
  obtain rfl:=sI H
  exact rT _ func205 Z Z ⟨_,_,Z,HS⟩
theorem I1.calls {a1 c1:Int} {d1:List Int} {r1 r2:Int} {r3:List Int} (HS:St w0 w (L)) (r_a:Ce w0 L (Ad .i64) A_a c_a uu d1) (H:I1.f a1 c1 d1=some (r1,r2,r3)) :
    Calls prog 189 #[.agg [I a1,I c1,sV A_a d1 c_a].toArray] w (I1.post w0 L r1 r2 r3):=by
  unfold I1.f at H
  refine cG func189 Z ?_
  refine sQ (rG (bA HS Z fun b1 wd2 HS=>GO.alloc HS Z Md Z Z fun b3 wd4 HS=>nL (sQ ?_)))
  obtain ⟨t5,h6,H⟩:=bI H
  refine rG (fL b1 2 Jf Z (lB 1 HS Z Ha Z (fJ vI Z (Gr.calls HS (rD 2 r_a) h6) (fun _ wd9 ⟨A7,c8,h10,HS⟩=>⟨_,h10,(fL b1 2 Jf Z (GO.Kq (j:=2) (vs:=[sV A7 t5 c8]) ([I a1,I c1,sV A7 t5 c8]) HS Z Z Z Z Z (htN Ha Z) Z Z Z fun wd11 HS=>nL (sQ (rG (lW 2 HS Z Du (sW 1 HS Z Du Z fun wd12 HS=>nL ?_))))))⟩))))
  obtain ⟨rfl,rfl,rfl⟩:=Jh H
  exact rT _ func189 Z (I8.J6 (j:=1) (vs:=[I a1,I c1,sV A7 t5 c8]) HS Z Z Z Du) ⟨_,_,Z,(HS.pk 3 [0] Z)⟩
theorem Iy.calls {c1 d1:Int} {a1:List Int} {r1 r2:Int} {r3:List Int} {r4 r5:Int} {r6:List Int} {r7 r8:Int} {r9:List Int} {r10 r11:Int} {r12:List Int} {r13 r14:Int} {r15:List Int} {r16:Bool} (HS:St w0 w (L)) (r_a:Ce w0 L (Ad .i64) A_a c_a uu a1) (H:Iy.f K c1 d1 a1=some (r1,r2,r3,r4,r5,r6,r7,r8,r9,r10,r11,r12,r13,r14,r15,r16)) :
    Calls prog 163 #[.agg [I c1,I d1,sV A_a a1 c_a].toArray] w (Iy.post w0 L r1 r2 r3 r4 r5 r6 r7 r8 r9 r10 r11 r12 r13 r14 r15 r16):=by
  unfold Iy.f at H
  refine cG func163 Z ?_
  refine sQ (rG (bA HS Z fun b1 wd2 HS=>aS Z (nL (sQ ?_))))
  obtain ⟨t3,t4,t5,h6,H⟩:=Ej H
  obtain ⟨t11,t12,t13,h14,H⟩:=Ej H
  obtain ⟨t19,t20,t21,h22,H⟩:=Ej H
  obtain ⟨t27,t28,t29,h30,H⟩:=Ej H
  obtain ⟨t35,t36,t37,h38,H⟩:=Ej H
  refine G.Jg mixed (fun w=>St w0 w (Box b1 57 [I c1,I d1,sV A_a a1 c_a]::L)) [1,4,6,9,12] [0,3,8,11,1,4,6,9,12,2,5,7,10,13,14,15,16,17] [] (by kernel_rfl) (by kernel_rfl) HS.drew ?_
  replace HS:=HS.drew
  refine qL Z Z (fun _ _ g=>fL b1 0 Gg Z g) Z (qL Z Z (fun _ _ g=>fL b1 0 Gg Z g) Z (qL Z Z (fun _ _ g=>fL b1 1 Ew Z g) Z (qL Z Z (fun _ _ g=>fL b1 1 Ew Z g) Z (GX.ls Z Z Z HS (fun _ HS _ g=>lB 0 HS Z na2 Z g) Z (GX.ls Z Z Z HS (fun _ HS _ g=>lB 0 HS Z na2 Z g) Z (GX.ls Z Z Z HS (fun _ HS _ g=>lW 0 HS Z Du g) Z (GX.ls Z Z Z HS (fun _ HS _ g=>lB 0 HS Z na2 Z g) Z (GX.ls Z Z Z HS (fun _ HS _ g=>lB 0 HS Z na2 Z g) Z (GX.l2 Z (fJ Yd Z (Ec.calls HS  h6) (fun _ wd9 ⟨A7,c8,h10,HS⟩=>⟨_,h10,(GX.fin (HS.pk 2 [1] Z) (GX.l2 Z (fJ Yd Z (Ec.calls HS  h14) (fun _ wd17 ⟨A15,c16,h18,HS⟩=>⟨_,h18,(GX.fin (HS.pk 3 [2] Z) ?_)⟩))))⟩)))))))))))
  refine GX.l2 Z (fJ rY Z (I1.calls HS (rD 3 r_a) h22) (fun _ wd25 ⟨A23,c24,h26,HS⟩=>⟨_,h26,(GX.fin (HS.pk 4 [3] Z) (GX.l2 Z (fJ Yd Z (Ec.calls HS  h30) (fun _ wd33 ⟨A31,c32,h34,HS⟩=>⟨_,h34,(GX.fin (HS.pk 5 [4] Z) (GX.l2 Z (fJ Yd Z (Ec.calls HS  h38) (fun _ wd41 ⟨A39,c40,h42,HS⟩=>⟨_,h42,(GX.fin (HS.pk 6 [5] Z) (qL Z Z (fun _ _ g=>GO.Il (.agg [I t3,I t4,sV A7 t5 c8,I t11,I t12,sV A15 t13 c16,I t19,I t20,sV A23 t21 c24,I t27,I t28,sV A31 t29 c32,I t35,I t36,sV A39 t37 c40].toArray) Z Z (fun _=>by kernel_rfl) Z g) Z (qL Z Z (fun _ _ g=>GO.Il (.agg [I t3,I t4,sV A7 t5 c8,I t11,I t12,sV A15 t13 c16,I t19,I t20,sV A23 t21 c24,I t27,I t28,sV A31 t29 c32,I t35,I t36,sV A39 t37 c40,.bool false].toArray) Z Z (fun _=>by kernel_rfl) Z g) Z (GX.l2 Z (bA HS Z fun b43 wd44 HS=>GX.fin (HS.pk 7 [6] Z) (GX.ps 1 Z ?_))))))⟩))))⟩))))⟩))
  refine GX.nil ?_
  obtain ⟨rfl,rfl,rfl,rfl,rfl,rfl,rfl,rfl,rfl,rfl,rfl,rfl,rfl,rfl,rfl,rfl⟩:=Px H
  exact rT _ func163 Z Z ⟨_,_,_,_,_,_,_,_,_,_,_,Z,(HS.pk 7 [0,5,4,3,2,1] Z)⟩
theorem Bo.calls {m1 k1:Int} {f1:List Int} {i1 o1:Int} {h1:List Int} {c1 d1:Int} {a1:List Int} {n1 s1:Int} {g1:List Int} {t1 q1:Int} {e1:List Int} {p1:Bool} {k_:Int} {b_r:Nat} {r1 r2:Int} {r3:Bool} (HS:St w0 w (Box b_r 168 [I m1,I k1,sV A_a f1 c_a,I i1,I o1,sV A_b h1 c_b,I c1,I d1,sV A_c a1 c_c,I n1,I s1,sV A_d g1 c_d,I t1,I q1,sV A_e e1 c_e,.bool p1]::L)) (r_a:Ce w0 L (Ad .i64) A_a c_a uu f1) (r_b:Ce w0 L (Ad .i64) A_b c_b uu h1) (r_c:Ce w0 L (Ad .i64) A_c c_c uu a1) (r_d:Ce w0 L (Ad .i64) A_d c_d uu g1) (r_e:Ce w0 L (Ad .i64) A_e c_e uu e1) (H:Bo.f K m1 k1 f1 i1 o1 h1 c1 d1 a1 n1 s1 g1 t1 q1 e1 p1 k_=some (r1,r2,r3)) :
    Calls prog 206 #[pT b_r,I k_] w (Bo.post w0 L m1 k1 f1 i1 o1 h1 c1 d1 a1 n1 s1 g1 t1 q1 e1 p1 b_r A_a c_a A_b c_b A_c c_c A_d c_d A_e c_e r1 r2 r3):=by
  unfold Bo.f at H
  refine cG func206 Z ?_
  refine rN 3 Z (rG (mV Z (GO.En Z Z Z (fL b_r 0 Iw Z (fL b_r 6 K5 Z (GO.Gf (j:=0) ([I c1,I d1,sV A_c a1 c_c]) HS Z Z Z Z Du Z (GO.alloc HS Z Md Z Z fun b1 wd2 HS=>sW 0 HS Z Du Z fun wd3 HS=>nL (rN 5 Z ?_))))))))
  refine G.name (fun n2 p2=>?_)
  have q2:∀ f2,f2≤K→∀ (c2 e2:Int) (y1:Bool) (v1:Int) (w:World),Bo.l1 K f2 c1 d1 a1 k_ c2 e2 y1 v1=some (r1,r2,r3)→St w0 w (Box b_r 168 [I m1,I k1,sV A_a f1 c_a,I i1,I o1,sV A_b h1 c_b,I c1,I d1,sV A_c a1 c_c,I n1,I s1,sV A_d g1 c_d,I t1,I q1,sV A_e e1 c_e,.bool p1]::Box b1 57 [I c1,I d1,sV A_c a1 c_c]::L)→G prog 206 59 [(1,I k_),(4,I c2),(5,I e2),(6,.bool y1),(7,pT b1),(8,I v1)] n2 w (Bo.post w0 L m1 k1 f1 i1 o1 h1 c1 d1 a1 n1 s1 g1 t1 q1 e1 p1 b_r A_a c_a A_b c_b A_c c_c A_d c_d A_e c_e r1 r2 r3):=by
   refine lp (fun _ _ _ _ w H _=>by rw [Bo.l1] at H; cases H) fun g2 t2 s2 c2 e2 y1 v1 w H HS=>?_
   rw [Bo.l1] at H
   subst p2
   refine rN 2 Z (rG (mV Z (fL b1 0 Gg Z (lB 1 HS Z na2 Z (GO.lss Z Z Z Z (nL ?_))))))
   rcases iS H with ⟨c195,H⟩ | ⟨c195,H⟩
   ·
    refine nB Z (tF c195) (rN 3 Z ?_)
    obtain ⟨rfl,rfl,rfl⟩:=Jh H
    exact G.zY _ _ _ func206 Z Z Z Z ⟨Z,(HS.pk 2 [0] Z)⟩
   refine yB Z (tT c195) (rN 7 Z ?_)
   refine G.name (fun o2 m2=>?_)
   have i2:∀ h2,h2≤g2→∀ (d2 b2:Int) (z1:Bool) (a2:Int) (w:World),Bo.l4 K h2 c1 d1 a1 k_ v1 d2 b2 z1 a2=some (r1,r2,r3)→St w0 w (Box b_r 168 [I m1,I k1,sV A_a f1 c_a,I i1,I o1,sV A_b h1 c_b,I c1,I d1,sV A_c a1 c_c,I n1,I s1,sV A_d g1 c_d,I t1,I q1,sV A_e e1 c_e,.bool p1]::Box b1 57 [I c1,I d1,sV A_c a1 c_c]::L)→G prog 206 59 [(1,I k_),(4,I d2),(5,I b2),(6,.bool z1),(7,pT b1),(8,I v1),(9,I a2)] o2 w (Bo.post w0 L m1 k1 f1 i1 o1 h1 c1 d1 a1 n1 s1 g1 t1 q1 e1 p1 b_r A_a c_a A_b c_b A_c c_c A_d c_d A_e c_e r1 r2 r3):=by
    refine lp (fun _ _ _ _ w H _=>by rw [Bo.l4] at H; cases H) fun u1 k2 x1 d2 b2 z1 a2 w H HS=>?_
    rw [Bo.l4] at H
    subst m2
    refine rN 2 Z (rG (mV Z (fL b1 1 Ew Z (lB 1 HS Z na2 Z (GO.lss Z Z Z Z (nL ?_))))))
    rcases iS H with ⟨c266,H⟩ | ⟨c266,H⟩
    ·
     refine nB Z (tF c266) (rN 4 Z (gW (s2 u1 (Nat.le_of_succ_le k2) _ _ _ _ _ H HS) Z))
    refine yB Z (tT c266) (rN 4 Z ?_)
    obtain ⟨t267,h268,H⟩:=bI H
    obtain ⟨c269,H⟩:=iN H
    obtain ⟨t272,h273,H⟩:=bI H
    refine rG (lW 1 HS Z Du (pS 2 Z (fJ Kh Z (Be.calls HS (rD 2 r_c) h268) (fun _ wd270 ⟨h271,HS⟩=>⟨_,h271,(GO.En Z Z Z (GO.Dt (T:=(Ad .i64)) (n:=t267.toNat) (o:=0) HS (rD 2 r_c) Z Z (getD_some (d:=0) (ltN c269)) Z Z na2 Z (fJ Xd Z (Jc.calls HS  h273) (fun _ wd274 ⟨h275,HS⟩=>⟨_,h275,(aS Z (nL (sQ ?_)))⟩))))⟩))))
    rcases iE H with ⟨c287,H⟩ | ⟨c287,H⟩
    ·
     refine rG (pS 3 Z (kN 39 Z (nT c287) (oF Z (oF Z (oF Z (GO.Lr Z Z Z Z Z Z (GO.Lr Z Z Z Z Z Z (GO.Lr Z Z Z Z Z Z (GO.Lr Z Z Z Z Z Z (GO.Lr Z Z Z Z Z Z (GO.Lr Z Z Z Z Z Z (GO.Lr Z Z Z Z Z Z (GO.Lr Z Z Z Z Z Z (GO.Lr Z Z Z Z Z Z ?_))))))))))))))
     refine oF Z (GO.Hw Z Z Z Z Z (nL (rN 5 Z (gW (x1 u1 (lR _) _ _ _ _ _ H HS) Z))))
    rcases iS H with ⟨c288,H⟩ | ⟨c288,H⟩
    ·
     refine rG (pS 3 Z (kN 39 Z (nF c287) (oN Z (mV Z (bK (oN Z (GO.not Z Z Z (bK (oN Z (mV Z (bK (kN 42 Z (congrArg Bool.not (Cy c288)) (oF Z (oF Z ?_))))))))))))))
     refine oF Z (oF Z (oF Z (oF Z (oF Z (oF Z (oF Z (oN Z (GO.Gw Z Z Z Z Z (bK (GO.Gw Z Z Z Z Z (nL (rN 5 Z (gW (x1 u1 (lR _) _ _ _ _ _ H HS) Z)))))))))))))
    obtain ⟨t289,h290,H⟩:=bI H
    obtain ⟨c291,H⟩:=iN H
    obtain ⟨t294,h295,H⟩:=bI H
    refine rG (pS 3 Z (kN 39 Z (nF c287) (oN Z (mV Z (bK (oN Z (GO.not Z Z Z (bK (oN Z (mV Z (bK (kN 42 Z (congrArg Bool.not c288) (oN Z (mV Z ?_))))))))))))))
    refine bK (oN Z (lW 1 HS Z Du (bK (oN Z (mV Z (bK (oN Z (mV Z (bK (oN Z (fJ Kh Z (Be.calls HS (rD 2 r_c) h290) (fun _ wd292 ⟨h293,HS⟩=>⟨_,h293,(bK (oN Z (GO.En Z Z Z ?_)))⟩))))))))))))
    refine bK (oN Z (GO.Dt (T:=(Ad .i64)) (n:=t289.toNat) (o:=0) HS (rD 2 r_c) Z Z (getD_some (d:=0) (ltN c291)) Z Z na2 Z (bK (oN Z (fJ Xd Z (Jc.calls HS  h295) (fun _ wd296 ⟨h297,HS⟩=>⟨_,h297,(bK (oN Z (GO.lss Z Z Z Z (bK (oN Z (GO.Hw Z Z Z Z Z (bK (GO.Gw Z Z Z Z Z (nL ?_)))))))))⟩))))))
    rcases iS H with ⟨c298,H⟩ | ⟨c298,H⟩
    ·
     refine nB Z (tF c298) (rN 4 Z (gW (x1 u1 (lR _) _ _ _ _ _ H HS) Z))
    refine yB Z (tT c298) (rN 4 Z (gW (x1 u1 (lR _) _ _ _ _ _ H HS) Z))
   exact gW (i2 g2 (lR _) _ _ _ _ _ H HS) Z
  exact gW (q2 K (lR _) _ _ _ _ _ H (HS.pk 2 [1,0] Z)) Z
theorem Eh.calls {c1 a1:Int} {d1:List Int} {i k_:Int} {r1:List Int} (HS:St w0 w (Own (Ad .i64) 2 A_a c_a uu d1::L)) (H:Eh.f K c1 a1 d1 i k_=some r1) :
    Calls prog 207 #[.agg [I c1,I a1,sV A_a d1 c_a].toArray,I i,I k_] w (Eh.post w0 L A_a c_a r1):=by
  unfold Eh.f at H
  refine cG func207 Z ?_
  refine sQ (rG (bA HS Z fun b1 wd2 HS=>nL (sQ (rG (fL b1 1 Ew Z (lB 0 HS Z na2 Z (mV Z (nL (rN 2 Z ?_)))))))))
  refine G.name (fun i1 g1=>?_)
  have h1:∀ e1,e1≤K→∀ (x17:List Int) (x18:Int) (w:World),Eh.l1 K e1 c1 a1 i k_ x17 x18=some r1→St w0 w (Own (Ad .i64) 2 A_a c_a uu x17::Box b1 57 [I c1,I a1,sV A_a x17 c_a]::L)→G prog 207 33 [(1,I i),(2,I k_),(3,pT b1),(10,I a1),(11,I x18)] i1 w (Eh.post w0 L A_a c_a r1):=by
   refine lp (fun _ _ w H _=>by rw [Eh.l1] at H; cases H) fun f1 m1 k1 x17 x18 w H HS=>?_
   rw [Eh.l1] at H
   subst g1
   refine rN 3 Z ?_
   rcases iS H with ⟨c33,H⟩ | ⟨c33,H⟩
   ·
    refine nB Z (tF c33) (G.exit Z ?_)
    obtain rfl:=sI H
    exact G.Ki func207 Z ⟨Z,(HS.pk 2 [0] Z)⟩
   refine yB Z (tT c33) (rN 6 Z ?_)
   obtain ⟨t34,h35,H⟩:=bI H
   obtain ⟨c36,H⟩:=iN H
   obtain ⟨t39,h40,H⟩:=bI H
   obtain ⟨c41,H⟩:=iN H
   refine G.Jg mixed (fun w=>St w0 w (Box b1 57 [I c1,I a1,sV A_a x17 c_a]::L)) [0,4] [1,2,5,6,0,4,3,7,8,9] [] (by kernel_rfl) (by kernel_rfl) (HS.drew.pk 2 [1] Z) ?_
   replace HS:=HS.drew
   refine GX.ps 4 Z (GX.ls Z Z Z (HS.pk 2 [1] Z) (fun _ HS _ g=>lW 0 HS Z Du g) Z (GX.ls Z Z Z (HS.pk 2 [1] Z) (fun _ HS _ g=>lW 0 HS Z Du g) Z (GX.l2 Z (fJ Kh Z (Be.calls HS (ro 0 Z) h35) (fun _ wd37 ⟨h38,HS⟩=>⟨_,h38,(GX.fin (HS.pk 2 [1] Z) (GX.l2 Z (fJ Kh Z (Be.calls HS (ro 0 Z) h40) (fun _ wd42 ⟨h43,HS⟩=>⟨_,h43,(GX.fin (HS.pk 2 [1] Z) (GX.ps 2 Z (GX.nil ?_)))⟩))))⟩)))))
   obtain ⟨c46,H⟩:=iN H
   refine G.lex mixed [0,1,2,3,5,6,4,7,8,9,10,11] (by kernel_rfl) ?_
   replace HS:=HS.drew
   refine GX.ps 3 Z (qL Z Z (fun _ _ g=>GO.En Z Z Z g) Z (GX.ps 1 Z (qL Z Z (fun _ _ g=>GO.En Z Z Z g) Z (GX.l1 Z Z Z (fun _ g=>GO.Dt (T:=(Ad .i64)) (n:=t39.toNat) (o:=0) HS (ro 0 Z) Z Z (getD_some (d:=0) (ltN c41)) Z Z na2 Z g) Z (GX.l1 Z Z Z (fun _ g=>GO.Dt (T:=(Ad .i64)) (n:=t34.toNat) (o:=0) HS (ro 0 Z) Z Z (getD_some (d:=0) (ltN c36)) Z Z na2 Z g) Z (qL Z Z (fun _ _ g=>GO.En Z Z Z g) Z (GX.l2 Z (GO.Ia (T:=(Ad .i64)) (j:=0) (n:=t34.toNat) (o:=0) (vs:=[I (x17.getD t39.toNat 0)]) (x17.getD t39.toNat 0) HS Z Av Z Z Z Z (htN na2 Z) Z (getD_some (d:=0) (ltN c36)) Z Z fun wd44 HS=>GX.fin tv (qL Z Z (fun _ _ g=>GO.En Z Z Z g) Z (GX.l2 Z (GO.Ia (T:=(Ad .i64)) (j:=0) (n:=t39.toNat) (o:=0) (vs:=[I (x17.getD t34.toNat 0)]) (x17.getD t34.toNat 0) HS Z Av Z Z Z Z (htN na2 Z) Z (getD_some (d:=0) (ltN c46)) Z Z fun wd45 HS=>GX.fin tv (GX.nil ?_))))))))))))
   replace HS:=HS.F8 (j:=1) (cs':=[I c1,I a1,sV A_a ((x17.set t34.toNat (x17.getD t39.toNat 0)).set t39.toNat (x17.getD t34.toNat 0)) c_a]) Z (by simp only [sV,List.length_set] <;> rfl)
   refine rN 3 Z (gW (k1 f1 (lR _) _ _ _ H HS) Z)
  exact gW (h1 K (lR _) _ _ _ H (HS.pk 2 [1,0] Z)) Z
theorem Dv.calls {a1 c1:Int} {d1:List Int} {j_ k_:Int} {r1:List Int} (HS:St w0 w (Own (Ad .i64) 2 A_a c_a uu d1::L)) (H:Dv.f K a1 c1 d1 j_ k_=some r1) :
    Calls prog 208 #[.agg [I a1,I c1,sV A_a d1 c_a].toArray,I j_,I k_] w (Dv.post w0 L A_a c_a r1):=by
  unfold Dv.f at H
  refine cG func208 Z ?_
  refine sQ (rG (bA HS Z fun b1 wd2 HS=>nL (sQ (rG (fL b1 0 Gg Z (lB 0 HS Z na2 Z (mV Z (nL (rN 2 Z ?_)))))))))
  refine G.name (fun i1 g1=>?_)
  have h1:∀ e1,e1≤K→∀ (x17:List Int) (x18:Int) (w:World),Dv.l1 K e1 a1 c1 j_ k_ x17 x18=some r1→St w0 w (Own (Ad .i64) 2 A_a c_a uu x17::Box b1 57 [I a1,I c1,sV A_a x17 c_a]::L)→G prog 208 33 [(1,I j_),(2,I k_),(3,pT b1),(10,I a1),(11,I x18)] i1 w (Dv.post w0 L A_a c_a r1):=by
   refine lp (fun _ _ w H _=>by rw [Dv.l1] at H; cases H) fun f1 m1 k1 x17 x18 w H HS=>?_
   rw [Dv.l1] at H
   subst g1
   refine rN 3 Z ?_
   rcases iS H with ⟨c33,H⟩ | ⟨c33,H⟩
   ·
    refine nB Z (tF c33) (G.exit Z ?_)
    obtain rfl:=sI H
    exact G.Ki func208 Z ⟨Z,(HS.pk 2 [0] Z)⟩
   refine yB Z (tT c33) (rN 6 Z ?_)
   obtain ⟨t34,h35,H⟩:=bI H
   obtain ⟨c36,H⟩:=iN H
   obtain ⟨t39,h40,H⟩:=bI H
   obtain ⟨c41,H⟩:=iN H
   refine G.Jg mixed (fun w=>St w0 w (Box b1 57 [I a1,I c1,sV A_a x17 c_a]::L)) [0,4] [1,2,5,6,0,4,3,7,8,9] [] (by kernel_rfl) (by kernel_rfl) (HS.drew.pk 2 [1] Z) ?_
   replace HS:=HS.drew
   refine GX.ps 4 Z (GX.ls Z Z Z (HS.pk 2 [1] Z) (fun _ HS _ g=>lW 0 HS Z Du g) Z (GX.ls Z Z Z (HS.pk 2 [1] Z) (fun _ HS _ g=>lW 0 HS Z Du g) Z (GX.l2 Z (fJ Kh Z (Be.calls HS (ro 0 Z) h35) (fun _ wd37 ⟨h38,HS⟩=>⟨_,h38,(GX.fin (HS.pk 2 [1] Z) (GX.l2 Z (fJ Kh Z (Be.calls HS (ro 0 Z) h40) (fun _ wd42 ⟨h43,HS⟩=>⟨_,h43,(GX.fin (HS.pk 2 [1] Z) (GX.ps 2 Z (GX.nil ?_)))⟩))))⟩)))))
   obtain ⟨c46,H⟩:=iN H
   refine G.lex mixed [0,1,2,3,5,6,4,7,8,9,10,11] (by kernel_rfl) ?_
   replace HS:=HS.drew
   refine GX.ps 3 Z (qL Z Z (fun _ _ g=>GO.En Z Z Z g) Z (GX.ps 1 Z (qL Z Z (fun _ _ g=>GO.En Z Z Z g) Z (GX.l1 Z Z Z (fun _ g=>GO.Dt (T:=(Ad .i64)) (n:=t39.toNat) (o:=0) HS (ro 0 Z) Z Z (getD_some (d:=0) (ltN c41)) Z Z na2 Z g) Z (GX.l1 Z Z Z (fun _ g=>GO.Dt (T:=(Ad .i64)) (n:=t34.toNat) (o:=0) HS (ro 0 Z) Z Z (getD_some (d:=0) (ltN c36)) Z Z na2 Z g) Z (qL Z Z (fun _ _ g=>GO.En Z Z Z g) Z (GX.l2 Z (GO.Ia (T:=(Ad .i64)) (j:=0) (n:=t34.toNat) (o:=0) (vs:=[I (x17.getD t39.toNat 0)]) (x17.getD t39.toNat 0) HS Z Av Z Z Z Z (htN na2 Z) Z (getD_some (d:=0) (ltN c36)) Z Z fun wd44 HS=>GX.fin tv (qL Z Z (fun _ _ g=>GO.En Z Z Z g) Z (GX.l2 Z (GO.Ia (T:=(Ad .i64)) (j:=0) (n:=t39.toNat) (o:=0) (vs:=[I (x17.getD t34.toNat 0)]) (x17.getD t34.toNat 0) HS Z Av Z Z Z Z (htN na2 Z) Z (getD_some (d:=0) (ltN c46)) Z Z fun wd45 HS=>GX.fin tv (GX.nil ?_))))))))))))
   replace HS:=HS.F8 (j:=1) (cs':=[I a1,I c1,sV A_a ((x17.set t34.toNat (x17.getD t39.toNat 0)).set t39.toNat (x17.getD t34.toNat 0)) c_a]) Z (by simp only [sV,List.length_set] <;> rfl)
   refine rN 3 Z (gW (k1 f1 (lR _) _ _ _ H HS) Z)
  exact gW (h1 K (lR _) _ _ _ H (HS.pk 2 [1,0] Z)) Z
theorem Gh.calls {c1 d1:Int} {a1:List Int} {i:Int} {r1 r2:Int} (HS:St w0 w (L)) (r_a:Ce w0 L (Ad .i64) A_a c_a uu a1) (H:Gh.f c1 d1 a1 i=some (r1,r2)) :
    Calls prog 209 #[.agg [I c1,I d1,sV A_a a1 c_a].toArray,I i] w (Gh.post w0 L a1 A_a c_a r1 r2):=by
  unfold Gh.f at H
  refine cG func209 Z ?_
  refine sQ (rG (bA HS Z fun b1 wd2 HS=>aS Z (nL (sQ ?_))))
  obtain ⟨c3,H⟩:=iN H
  obtain ⟨c4,H⟩:=iN H
  refine rG (fL b1 2 Jf Z (lB 0 HS Z Ha Z (mV Z (fL b1 1 Ew Z (lB 0 HS Z na2 Z (pS 3 Z (fL b1 1 Ew Z (lB 0 HS Z na2 Z (GO.mul Z Z Z Z (GO.zZ (T:=(Ad .i64)) HS (rD 1 r_a) Z Z Z Z U26 sz2 c3.1 c3.2 c4.2 Z (aS Z (nL ?_))))))))))))
  obtain ⟨rfl,rfl⟩:=I6 H
  exact rT _ func209 Z Z ⟨Z,(HS.pk 1 [] Z)⟩
theorem Bj.calls {f1 e1:Int} {q1:List Int} {a1 b1:Int} {p1:List Int} {c1 d1:Int} {s1:List Int} {h1 i1:Int} {o1:List Int} {k1 g1:Int} {n1:List Int} {m1:Bool} {o:Int} {b_t:Nat} {r1:Bool} {r2 r3:List Int} {r4 r5 r6:List Int} (HS:St w0 w (Box b_t 168 [I f1,I e1,sV A_a q1 c_a,I a1,I b1,sV A_b p1 c_b,I c1,I d1,sV A_c s1 c_c,I h1,I i1,sV A_d o1 c_d,I k1,I g1,sV A_e n1 c_e,.bool m1]::Own (Ad .i64) 2 A_a c_a uu q1::Own (Ad .i64) 2 A_b c_b uu p1::Own (Ad .i64) 2 A_c c_c uu s1::Own (Ad .i64) 2 A_d c_d uu o1::Own (Ad .i64) 2 A_e c_e uu n1::L)) (H:Bj.f K f1 e1 q1 a1 b1 p1 c1 d1 s1 h1 i1 o1 k1 g1 n1 m1 o=some (r1,r2,r3,r4,r5,r6)) :
    Calls prog 190 #[pT b_t,I o] w (Bj.post w0 L f1 e1 a1 b1 c1 d1 h1 i1 k1 g1 m1 b_t A_a c_a A_b c_b A_c c_c A_d c_d A_e c_e r1 r2 r3 r4 r5 r6):=by
  unfold Bj.f at H
  refine cG func190 Z ?_
  refine rN 3 Z ?_
  obtain ⟨t1,t2,t3,h4,H⟩:=Ej H
  refine rG (pS 2 Z ?_)
  replace HS:=HS.pk 6 [0,1,2,3,4,5] Z
  refine fJ vP Z (Bo.calls HS (ro 0 Z) (ro 1 Z) (ro 2 Z) (ro 3 Z) (ro 4 Z) h4) (fun _ wd5 ⟨h6,HS⟩=>⟨_,h6,(pS 7 Z (nL (rN 3 Z ?_)))⟩)
  rcases iS H with ⟨c7,H⟩ | ⟨c7,H⟩
  ·
   refine yB Z (congrArg Bool.not (Cy c7)) (rN 2 Z ?_)
   obtain ⟨rfl,rfl,rfl,rfl,rfl,rfl⟩:=Oj H
   exact rT _ func190 Z Z ⟨Z,HS⟩
  refine nB Z (congrArg Bool.not c7) (rN 2 Z ?_)
  obtain ⟨t8,h9,H⟩:=bI H
  obtain ⟨c10,H⟩:=iN H
  refine rG (mV Z (GO.En Z Z Z (fL b_t 0 Iw Z (fL b_t 6 K5 Z (GO.Gf (j:=0) ([I c1,I d1,sV A_c s1 c_c]) HS Z Z Z Z Du Z (pS 2 Z ?_))))))
  replace HS:=HS.pk 6 [3,0,1,2,4,5] Z
  refine fJ dI Z (Eh.calls HS  h9) (fun _ wd11 ⟨h12,HS⟩=>⟨_,h12,(nL ?_)⟩)
  replace HS:=HS.F8 (j:=1) (cs':=[I f1,I e1,sV A_a q1 c_a,I a1,I b1,sV A_b p1 c_b,I c1,I d1,sV A_c t8 c_c,I h1,I i1,sV A_d o1 c_d,I k1,I g1,sV A_e n1 c_e,.bool m1]) Z (by simp only [sV,List.length_set,c10] <;> rfl)
  refine sQ ?_
  obtain ⟨t13,h14,H⟩:=bI H
  obtain ⟨c15,H⟩:=iN H
  refine rG (mV Z (GO.En Z Z Z (fL b_t 0 Iw Z (fL b_t 0 Ym Z (GO.Gf (j:=1) ([I f1,I e1,sV A_a q1 c_a]) HS Z Z Z Z Du Z (pS 2 Z ?_))))))
  replace HS:=HS.pk 6 [2,0,1,3,4,5] Z
  refine fJ dI Z (Eh.calls HS  h14) (fun _ wd16 ⟨h17,HS⟩=>⟨_,h17,(nL ?_)⟩)
  replace HS:=HS.F8 (j:=2) (cs':=[I f1,I e1,sV A_a t13 c_a,I a1,I b1,sV A_b p1 c_b,I c1,I d1,sV A_c t8 c_c,I h1,I i1,sV A_d o1 c_d,I k1,I g1,sV A_e n1 c_e,.bool m1]) Z (by simp only [sV,List.length_set,c15] <;> rfl)
  refine sQ ?_
  obtain ⟨t18,h19,H⟩:=bI H
  obtain ⟨c20,H⟩:=iN H
  refine rG (mV Z (GO.En Z Z Z (fL b_t 0 Iw Z (fL b_t 3 Rk Z (GO.Gf (j:=2) ([I a1,I b1,sV A_b p1 c_b]) HS Z Z Z Z Du Z (pS 2 Z ?_))))))
  replace HS:=HS.pk 6 [3,0,1,2,4,5] Z
  refine fJ bH Z (Dv.calls HS  h19) (fun _ wd21 ⟨h22,HS⟩=>⟨_,h22,(nL ?_)⟩)
  replace HS:=HS.F8 (j:=3) (cs':=[I f1,I e1,sV A_a t13 c_a,I a1,I b1,sV A_b t18 c_b,I c1,I d1,sV A_c t8 c_c,I h1,I i1,sV A_d o1 c_d,I k1,I g1,sV A_e n1 c_e,.bool m1]) Z (by simp only [sV,List.length_set,c20] <;> rfl)
  refine sQ ?_
  obtain ⟨t23,h24,H⟩:=bI H
  obtain ⟨c25,H⟩:=iN H
  refine rG (mV Z (GO.En Z Z Z (fL b_t 0 Iw Z (fL b_t 6 K5 Z (GO.Gf (j:=3) ([I c1,I d1,sV A_c t8 c_c]) HS Z Z Z Z Du Z (pS 2 Z ?_))))))
  replace HS:=HS.pk 6 [2,0,1,3,4,5] Z
  refine fJ bH Z (Dv.calls HS  h24) (fun _ wd26 ⟨h27,HS⟩=>⟨_,h27,(nL ?_)⟩)
  replace HS:=HS.F8 (j:=3) (cs':=[I f1,I e1,sV A_a t13 c_a,I a1,I b1,sV A_b t18 c_b,I c1,I d1,sV A_c t23 c_c,I h1,I i1,sV A_d o1 c_d,I k1,I g1,sV A_e n1 c_e,.bool m1]) Z (by simp only [sV,List.length_set,c25] <;> rfl)
  refine sQ ?_
  obtain ⟨t28,h29,H⟩:=bI H
  obtain ⟨c30,H⟩:=iN H
  refine rG (mV Z (GO.En Z Z Z (fL b_t 0 Iw Z (fL b_t 9 eD Z (GO.Gf (j:=3) ([I h1,I i1,sV A_d o1 c_d]) HS Z Z Z Z Du Z (pS 2 Z ?_))))))
  replace HS:=HS.pk 6 [4,0,1,2,3,5] Z
  refine fJ bH Z (Dv.calls HS  h29) (fun _ wd31 ⟨h32,HS⟩=>⟨_,h32,(nL ?_)⟩)
  replace HS:=HS.F8 (j:=4) (cs':=[I f1,I e1,sV A_a t13 c_a,I a1,I b1,sV A_b t18 c_b,I c1,I d1,sV A_c t23 c_c,I h1,I i1,sV A_d t28 c_d,I k1,I g1,sV A_e n1 c_e,.bool m1]) Z (by simp only [sV,List.length_set,c30] <;> rfl)
  refine sQ ?_
  obtain ⟨t33,h34,H⟩:=bI H
  obtain ⟨c35,H⟩:=iN H
  refine rG (mV Z (GO.En Z Z Z (fL b_t 0 Iw Z (fL b_t 12 eP Z (GO.Gf (j:=4) ([I k1,I g1,sV A_e n1 c_e]) HS Z Z Z Z Du Z (pS 2 Z ?_))))))
  replace HS:=HS.pk 6 [5,0,1,2,3,4] Z
  refine fJ dI Z (Eh.calls HS  h34) (fun _ wd36 ⟨h37,HS⟩=>⟨_,h37,(nL ?_)⟩)
  replace HS:=HS.F8 (j:=5) (cs':=[I f1,I e1,sV A_a t13 c_a,I a1,I b1,sV A_b t18 c_b,I c1,I d1,sV A_c t23 c_c,I h1,I i1,sV A_d t28 c_d,I k1,I g1,sV A_e t33 c_e,.bool m1]) Z (by simp only [sV,List.length_set,c35] <;> rfl)
  refine rN 2 Z ?_
  obtain ⟨t38,h39,H⟩:=bI H
  obtain ⟨c40,H⟩:=iN H
  refine rG (mV Z (GO.En Z Z Z (fL b_t 0 Iw Z (fL b_t 6 K5 Z (GO.Gf (j:=5) ([I c1,I d1,sV A_c t23 c_c]) HS Z Z Z Z Du Z (pS 2 Z (fJ Kh Z (Be.calls HS (ro 2 Z) h39) (fun _ wd41 ⟨h42,HS⟩=>⟨_,h42,(GO.En Z Z Z (GO.Dt (T:=(Ad .i64)) (n:=t38.toNat) (o:=0) HS (ro 2 Z) Z Z (getD_some (d:=0) (ltN c40)) Z Z na2 Z (GO.lss Z Z Z Z (nL ?_))))⟩))))))))
  rcases iS H with ⟨c43,H⟩ | ⟨c43,H⟩
  ·
   refine nB Z (tF c43) (rN 3 Z ?_)
   obtain ⟨rfl,rfl,rfl,rfl,rfl,rfl⟩:=Oj H
   exact rT _ func190 Z Z ⟨Z,(HS.pk 6 [5,4,3,2,1,0] Z)⟩
  refine yB Z (tT c43) (rN 2 Z ?_)
  obtain ⟨t44,t45,h46,H⟩:=De H
  obtain ⟨c47,H⟩:=iN H
  obtain ⟨c48,H⟩:=iN H
  obtain ⟨t51,t52,h53,H⟩:=De H
  obtain ⟨c54,H⟩:=iN H
  obtain ⟨c55,H⟩:=iN H
  refine G.Jg mixed (fun w=>St w0 w (Box b_t 168 [I f1,I e1,sV A_a t13 c_a,I a1,I b1,sV A_b t18 c_b,I c1,I d1,sV A_c t23 c_c,I h1,I i1,sV A_d t28 c_d,I k1,I g1,sV A_e t33 c_e,.bool m1]::L)) [4,11,15] [0,1,2,3,5,7,8,9,10,12,16,4,11,6,13,14,15] [] (by kernel_rfl) (by kernel_rfl) (HS.drew.pk 6 [5] Z) ?_
  replace HS:=HS.drew
  refine GX.ps 1 Z (qL Z Z (fun _ _ g=>GO.En Z Z Z g) Z (qL Z Z (fun _ _ g=>fL b_t 0 Iw Z g) Z (qL Z Z (fun _ _ g=>fL b_t 6 K5 Z g) Z (GX.ps 2 Z (qL Z Z (fun _ _ g=>GO.En Z Z Z g) Z (qL Z Z (fun _ _ g=>fL b_t 0 Iw Z g) Z (qL Z Z (fun _ _ g=>fL b_t 0 Ym Z g) Z (GX.ps 2 Z (GX.ls Z Z Z (HS.pk 6 [5] Z) (fun _ HS _ g=>GO.Gf (j:=0) ([I c1,I d1,sV A_c t23 c_c]) HS Z Z Z Z Du Z g) Z (GX.ls Z Z Z (HS.pk 6 [5] Z) (fun _ HS _ g=>GO.Gf (j:=0) ([I f1,I e1,sV A_a t13 c_a]) HS Z Z Z Z Du Z g) Z (GX.l2 Z (fJ Y3 Z (Gh.calls HS (ro 2 Z) h46) (fun _ wd49 ⟨h50,HS⟩=>⟨_,h50,(GX.fin (HS.pk 6 [5] Z) (GX.l2 Z ?_))⟩)))))))))))))
  refine fJ Y3 Z (Gh.calls HS (ro 4 Z) h53) (fun _ wd56 ⟨h57,HS⟩=>⟨_,h57,(GX.fin (HS.pk 6 [5] Z) (GX.l2 Z (GO.Fj (el:=26) ([sV (Jl A_c t44.toNat c_c 1) ((t23.take t45.toNat).drop t44.toNat) (c_c - t44.toNat),sV (Jl A_a t51.toNat c_a 1) ((t13.take t52.toNat).drop t51.toNat) (c_a - t51.toNat)]) HS Z Z (fun _=>by kernel_rfl) Z fun b58 wd59 HS=>GX.fin (HS.pk 7 [6] Z) (GX.ls Z Z Z (HS.pk 7 [6] Z) (fun _ HS _ g=>lS Z Z U65 Z g) Z (GX.nil (rN 5 Z (yB Z (by decide) (rN 4 Z (rG (GO.ix Z Z Z U65 Od (fun _=>⟨_,_,Z⟩) (⟨by decide,by decide⟩:(0:Int)≤0∧(0:Int)<2).1 (⟨by decide,by decide⟩:(0:Int)≤0∧(0:Int)<2).2 Z (lB 0 HS Z Ha Z (aS Z (nL ?_)))))))))))))⟩)
  refine sQ (rG (mV Z (lS Z Z U26 Z (mV Z (nL (rN 2 Z ?_))))))
  refine G.name (fun b2 k2=>?_)
  have m2:∀ x1,x1≤K→∀ (x196:List Int) (x197:Int) (w:World),Bj.l1 K x1 a1 b1 o t13 t18 t23 t28 t33 t44 t45 t51 t52 x196 x197=some (r1,r2,r3,r4,r5,r6)→St w0 w (Box b_t 168 [I f1,I e1,sV A_a t13 c_a,I a1,I b1,sV A_b t18 c_b,I c1,I d1,sV A_c x196 c_c,I h1,I i1,sV A_d t28 c_d,I k1,I g1,sV A_e t33 c_e,.bool m1]::Own (Ad .i64) 2 A_a c_a uu t13::Own (Ad .i64) 2 A_b c_b uu t18::Own (Ad .i64) 2 A_c c_c uu x196::Own (Ad .i64) 2 A_d c_d uu t28::Own (Ad .i64) 2 A_e c_e uu t33::Box b58 26 [sV (Jl A_c t44.toNat c_c 1) ((x196.take t45.toNat).drop t44.toNat) (c_c - t44.toNat),sV (Jl A_a t51.toNat c_a 1) ((t13.take t52.toNat).drop t51.toNat) (c_a - t51.toNat)]::L)→G prog 190 145 [(0,pT b_t),(1,I o),(9,sV (Jl A_c t44.toNat c_c 1) ((x196.take t45.toNat).drop t44.toNat) (c_c - t44.toNat)),(94,.slice (sb b58) 2 2),(95,I 2),(96,I 0),(101,I (((t23.take t45.toNat).drop t44.toNat).length:Int)),(102,I x197)] b2 w (Bj.post w0 L f1 e1 a1 b1 c1 d1 h1 i1 k1 g1 m1 b_t A_a c_a A_b c_b A_c c_c A_d c_d A_e c_e r1 r2 r3 r4 r5 r6):=by
   refine lp (fun _ _ w H _=>by rw [Bj.l1] at H; cases H) fun v1 s2 n2 x196 x197 w H HS=>?_
   rw [Bj.l1] at H
   subst k2
   obtain ⟨c334,H⟩:=iN H
   refine rN 3 Z ?_
   rcases iE H with ⟨c335,H⟩ | ⟨c335,H⟩
   ·
    refine yB Z (tT c335) (rN 5 Z ?_)
    obtain ⟨c336,H⟩:=iN H
    refine rG (pS 4 Z (GO.ix Z Z Z U26 sz2 ((Ce.cut (ro 3 Z) (Tp c47) c334) _ HS).2.2.1 c336.1 c336.2 Z (GO.Dt (T:=(Ad .i64)) (n:=x197.toNat) (o:=0) HS (Ce.cut (ro 3 Z) (Tp c47) c334) Z Z (getD_some (d:=0) (ltN c336)) Z Z na2 Z (GO.neg Z Z Z (GO.ix Z Z Z U26 sz2 ((Ce.cut (ro 3 Z) (Tp c47) c334) _ HS).2.2.1 c336.1 c336.2 Z (GO.qB (T:=(Ad .i64)) (j:=3) (n:=x197.toNat) (l:=t44.toNat) (h:=t45.toNat) (vs:=[I (w64 (0 - (((x196.take t45.toNat).drop t44.toNat).getD x197.toNat 0)))]) (w64 (0 - (((x196.take t45.toNat).drop t44.toNat).getD x197.toNat 0))) HS Z Av Z Z c334 (ltN c336) Z Z (htN na2 Z) Z (getD_some (d:=0) (qZ (ltN c336))) Z Z fun wd337 HS=>nL ?_))))))
    obtain ⟨c338,H⟩:=iN H
    refine G.len (t:=9) (m:=(((x196.set (t44.toNat+x197.toNat) (w64 (0 - (((x196.take t45.toNat).drop t44.toNat).getD x197.toNat 0)))).take t45.toNat).drop t44.toNat).length) Z (by simp only [List.length_drop,List.length_take,Nat.min_self,List.length_set]) ?_
    replace HS:=HS.F8 (j:=0) (cs':=[I f1,I e1,sV A_a t13 c_a,I a1,I b1,sV A_b t18 c_b,I c1,I d1,sV A_c (x196.set (t44.toNat+x197.toNat) (w64 (0 - (((x196.take t45.toNat).drop t44.toNat).getD x197.toNat 0)))) c_c,I h1,I i1,sV A_d t28 c_d,I k1,I g1,sV A_e t33 c_e,.bool m1]) Z (by simp only [sV,List.length_set] <;> rfl)
    replace HS:=HS.F8 (j:=6) (cs':=[sV (Jl A_c t44.toNat c_c 1) (((x196.set (t44.toNat+x197.toNat) (w64 (0 - (((x196.take t45.toNat).drop t44.toNat).getD x197.toNat 0)))).take t45.toNat).drop t44.toNat) (c_c - t44.toNat),sV (Jl A_a t51.toNat c_a 1) ((t13.take t52.toNat).drop t51.toNat) (c_a - t51.toNat)]) Z (by simp only [sV,List.length_drop,List.length_take,List.length_set] <;> rfl)
    refine rN 3 Z (gW (n2 v1 (lR _) _ _ _ H HS) Z)
   refine nB Z (tF c335) (rN 2 Z (rG (GO.zR 1 Z Z Z Z Z (mV Z (nL (rN 4 Z (yB Z (by decide) (rN 4 Z ?_))))))))
   obtain ⟨c339,H⟩:=iN H
   refine rG (GO.ix Z Z Z U65 Od (fun _=>⟨_,_,Z⟩) (⟨by decide,by decide⟩:(0:Int)≤1∧(1:Int)<2).1 (⟨by decide,by decide⟩:(0:Int)≤1∧(1:Int)<2).2 Z (lB 6 HS Z Ha Z (aS Z (nL (sQ (rG (mV Z (lS Z Z U26 Z (mV Z (nL (rN 2 Z ?_)))))))))))
   refine G.name (fun h2 f2=>?_)
   have c2:∀ z1,z1≤v1→∀ (x382:List Int) (x383:Int) (w:World),Bj.l10 K z1 a1 b1 o t13 t18 t28 t33 t51 t52 x196 x382 x383=some (r1,r2,r3,r4,r5,r6)→St w0 w (Box b_t 168 [I f1,I e1,sV A_a x382 c_a,I a1,I b1,sV A_b t18 c_b,I c1,I d1,sV A_c x196 c_c,I h1,I i1,sV A_d t28 c_d,I k1,I g1,sV A_e t33 c_e,.bool m1]::Own (Ad .i64) 2 A_a c_a uu x382::Own (Ad .i64) 2 A_b c_b uu t18::Own (Ad .i64) 2 A_c c_c uu x196::Own (Ad .i64) 2 A_d c_d uu t28::Own (Ad .i64) 2 A_e c_e uu t33::Box b58 26 [sV (Jl A_c t44.toNat c_c 1) ((x196.take t45.toNat).drop t44.toNat) (c_c - t44.toNat),sV (Jl A_a t51.toNat c_a 1) ((x382.take t52.toNat).drop t51.toNat) (c_a - t51.toNat)]::L)→G prog 190 145 [(0,pT b_t),(1,I o),(9,sV (Jl A_a t51.toNat c_a 1) ((x382.take t52.toNat).drop t51.toNat) (c_a - t51.toNat)),(94,.slice (sb b58) 2 2),(95,I 2),(96,I 1),(101,I (((t13.take t52.toNat).drop t51.toNat).length:Int)),(102,I x383)] h2 w (Bj.post w0 L f1 e1 a1 b1 c1 d1 h1 i1 k1 g1 m1 b_t A_a c_a A_b c_b A_c c_c A_d c_d A_e c_e r1 r2 r3 r4 r5 r6):=by
    refine lp (fun _ _ w H _=>by rw [Bj.l10] at H; cases H) fun u1 q2 i2 x382 x383 w H HS=>?_
    rw [Bj.l10] at H
    subst f2
    obtain ⟨c427,H⟩:=iN H
    refine rN 3 Z ?_
    rcases iE H with ⟨c428,H⟩ | ⟨c428,H⟩
    ·
     refine yB Z (tT c428) (rN 5 Z ?_)
     obtain ⟨c429,H⟩:=iN H
     refine rG (pS 4 Z (GO.ix Z Z Z U26 sz2 ((Ce.cut (ro 1 Z) (Tp c54) c427) _ HS).2.2.1 c429.1 c429.2 Z (GO.Dt (T:=(Ad .i64)) (n:=x383.toNat) (o:=0) HS (Ce.cut (ro 1 Z) (Tp c54) c427) Z Z (getD_some (d:=0) (ltN c429)) Z Z na2 Z (GO.neg Z Z Z (GO.ix Z Z Z U26 sz2 ((Ce.cut (ro 1 Z) (Tp c54) c427) _ HS).2.2.1 c429.1 c429.2 Z (GO.qB (T:=(Ad .i64)) (j:=1) (n:=x383.toNat) (l:=t51.toNat) (h:=t52.toNat) (vs:=[I (w64 (0 - (((x382.take t52.toNat).drop t51.toNat).getD x383.toNat 0)))]) (w64 (0 - (((x382.take t52.toNat).drop t51.toNat).getD x383.toNat 0))) HS Z Av Z Z c427 (ltN c429) Z Z (htN na2 Z) Z (getD_some (d:=0) (qZ (ltN c429))) Z Z fun wd430 HS=>nL ?_))))))
     obtain ⟨c431,H⟩:=iN H
     refine G.len (t:=9) (m:=(((x382.set (t51.toNat+x383.toNat) (w64 (0 - (((x382.take t52.toNat).drop t51.toNat).getD x383.toNat 0)))).take t52.toNat).drop t51.toNat).length) Z (by simp only [List.length_drop,List.length_take,Nat.min_self,List.length_set]) ?_
     replace HS:=HS.F8 (j:=0) (cs':=[I f1,I e1,sV A_a (x382.set (t51.toNat+x383.toNat) (w64 (0 - (((x382.take t52.toNat).drop t51.toNat).getD x383.toNat 0)))) c_a,I a1,I b1,sV A_b t18 c_b,I c1,I d1,sV A_c x196 c_c,I h1,I i1,sV A_d t28 c_d,I k1,I g1,sV A_e t33 c_e,.bool m1]) Z (by simp only [sV,List.length_set] <;> rfl)
     replace HS:=HS.F8 (j:=6) (cs':=[sV (Jl A_c t44.toNat c_c 1) ((x196.take t45.toNat).drop t44.toNat) (c_c - t44.toNat),sV (Jl A_a t51.toNat c_a 1) (((x382.set (t51.toNat+x383.toNat) (w64 (0 - (((x382.take t52.toNat).drop t51.toNat).getD x383.toNat 0)))).take t52.toNat).drop t51.toNat) (c_a - t51.toNat)]) Z (by simp only [sV,List.length_drop,List.length_take,List.length_set] <;> rfl)
     refine rN 3 Z (gW (i2 u1 (lR _) _ _ _ H HS) Z)
    refine nB Z (tF c428) (rN 2 Z (rG (GO.zR 2 Z Z Z Z Z (mV Z (nL (rN 4 Z (nB Z (by decide) (rN 2 Z (rG (mV Z (GO.En Z Z Z (fL b_t 0 Iw Z (fL b_t 3 Rk Z (fL b_t 3 Gg Z ?_))))))))))))))
    refine lB 0 HS Z na2 Z (mV Z (nL (rN 2 Z ?_)))
    refine G.name (fun e2 g2=>?_)
    have o2:∀ y1,y1≤u1→∀ (x444:List Int) (x445:Int) (w:World),Bj.l13 K y1 a1 b1 o t28 t33 x196 x382 x444 x445=some (r1,r2,r3,r4,r5,r6)→St w0 w (Box b_t 168 [I f1,I e1,sV A_a x382 c_a,I a1,I b1,sV A_b x444 c_b,I c1,I d1,sV A_c x196 c_c,I h1,I i1,sV A_d t28 c_d,I k1,I g1,sV A_e t33 c_e,.bool m1]::Own (Ad .i64) 2 A_a c_a uu x382::Own (Ad .i64) 2 A_b c_b uu x444::Own (Ad .i64) 2 A_c c_c uu x196::Own (Ad .i64) 2 A_d c_d uu t28::Own (Ad .i64) 2 A_e c_e uu t33::L)→G prog 190 145 [(0,pT b_t),(1,I o),(120,I a1),(121,I x445)] e2 w (Bj.post w0 L f1 e1 a1 b1 c1 d1 h1 i1 k1 g1 m1 b_t A_a c_a A_b c_b A_c c_c A_d c_d A_e c_e r1 r2 r3 r4 r5 r6):=by
     refine lp (fun _ _ w H _=>by rw [Bj.l13] at H; cases H) fun a2 p2 d2 x444 x445 w H HS=>?_
     rw [Bj.l13] at H
     subst g2
     refine rN 3 Z ?_
     rcases iS H with ⟨c458,H⟩ | ⟨c458,H⟩
     ·
      refine nB Z (tF c458) (rN 3 Z ?_)
      obtain ⟨rfl,rfl,rfl,rfl,rfl,rfl⟩:=Oj H
      exact rT _ func190 Z Z ⟨Z,HS⟩
     refine yB Z (tT c458) (rN 5 Z ?_)
     obtain ⟨t459,h460,H⟩:=bI H
     obtain ⟨c461,H⟩:=iN H
     obtain ⟨t464,h465,H⟩:=bI H
     obtain ⟨c466,H⟩:=iN H
     refine G.Jg mixed (fun w=>St w0 w (Box b_t 168 [I f1,I e1,sV A_a x382 c_a,I a1,I b1,sV A_b x444 c_b,I c1,I d1,sV A_c x196 c_c,I h1,I i1,sV A_d t28 c_d,I k1,I g1,sV A_e t33 c_e,.bool m1]::Own (Ad .i64) 2 A_b c_b uu x444::L)) [4,12,17] [0,1,2,3,5,6,8,9,10,11,13,14,4,12,7,15,16,17,18,19,20] [20] (by kernel_rfl) (by kernel_rfl) (HS.drew.pk 6 [0,2] Z) ?_
     replace HS:=HS.drew
     refine GX.ps 1 Z (qL Z Z (fun _ _ g=>GO.En Z Z Z g) Z (qL Z Z (fun _ _ g=>fL b_t 0 Iw Z g) Z (qL Z Z (fun _ _ g=>fL b_t 3 Rk Z g) Z (GX.ps 3 Z (qL Z Z (fun _ _ g=>GO.En Z Z Z g) Z (qL Z Z (fun _ _ g=>fL b_t 0 Iw Z g) Z (qL Z Z (fun _ _ g=>fL b_t 3 Rk Z g) Z (GX.ps 2 Z (GX.ls Z Z Z (HS.pk 6 [0,2] Z) (fun _ HS _ g=>GO.Gf (j:=0) ([I a1,I b1,sV A_b x444 c_b]) HS Z Z Z Z Du Z g) Z (GX.ls Z Z Z (HS.pk 6 [0,2] Z) (fun _ HS _ g=>GO.Gf (j:=0) ([I a1,I b1,sV A_b x444 c_b]) HS Z Z Z Z Du Z g) Z (GX.l2 Z (fJ Kh Z (Be.calls HS (ro 2 Z) h460) (fun _ wd462 ⟨h463,HS⟩=>⟨_,h463,(GX.fin (HS.pk 6 [0,2] Z) (GX.l2 Z ?_))⟩)))))))))))))
     refine fJ Kh Z (Be.calls HS (ro 2 Z) h465) (fun _ wd467 ⟨h468,HS⟩=>⟨_,h468,(GX.fin (HS.pk 6 [0,2] Z) (qL Z Z (fun _ _ g=>GO.En Z Z Z g) Z (GX.ls Z Z Z (HS.pk 6 [0,2] Z) (fun _ HS _ g=>GO.Dt (T:=(Ad .i64)) (n:=t464.toNat) (o:=0) HS (ro 1 Z) Z Z (getD_some (d:=0) (ltN c466)) Z Z na2 Z g) Z (qL Z Z (fun _ _ g=>GO.neg Z Z Z g) Z (qL Z Z (fun _ _ g=>GO.En Z Z Z g) Z (GX.l2 Z (GO.Ia (T:=(Ad .i64)) (j:=2) (n:=t459.toNat) (o:=0) (vs:=[I (w64 (0 - (x444.getD t464.toNat 0)))]) (w64 (0 - (x444.getD t464.toNat 0))) HS Z Av Z Z Z Z (htN na2 Z) Z (getD_some (d:=0) (ltN c461)) Z Z fun wd469 HS=>GX.bF Z (GX.nil ?_))))))))⟩)
     replace HS:=HS.F8 (j:=0) (cs':=[I f1,I e1,sV A_a x382 c_a,I a1,I b1,sV A_b (x444.set t459.toNat (w64 (0 - (x444.getD t464.toNat 0)))) c_b,I c1,I d1,sV A_c x196 c_c,I h1,I i1,sV A_d t28 c_d,I k1,I g1,sV A_e t33 c_e,.bool m1]) Z (by simp only [sV,List.length_set] <;> rfl)
     refine rN 3 Z (gW (d2 a2 (lR _) _ _ _ H HS) Z)
    exact gW (o2 u1 (lR _) _ _ _ H (HS.pk 7 [0,1,2,3,4,5] Z)) Z
   exact gW (c2 v1 (lR _) _ _ _ H HS) Z
  exact gW (m2 K (lR _) _ _ _ H (HS.pk 7 [6,5,4,3,2,1,0] Z)) Z
theorem He.calls {a_ b_ r1:Int} (HS:St w0 w (L)) (H:He.f a_ b_=some r1) :
    Calls prog 210 #[I a_,I b_] w (He.post w0 L r1):=by
  unfold He.f at H
  refine cG func210 Z ?_
  refine rN 3 Z ?_
  obtain ⟨c1,H⟩:=Lc H
  refine rG (pS 2 Z (GO.quo Z Z Z c1 Z (aS Z (nL (rN 2 Z (rG (pS 2 Z (GO.rem Z Z Z c1 Z (GO.lss Z Z Z Z (nL ?_))))))))))
  rcases iS H with ⟨c2,H⟩ | ⟨c2,H⟩
  ·
   refine nB Z (tF c2) (rN 3 Z ?_)
   obtain rfl:=sI H
   exact rT _ func210 Z Z ⟨Z,HS⟩
  refine yB Z (tT c2) (rN 3 Z ?_)
  obtain rfl:=sI H
  exact rT _ func210 Z Z ⟨Z,HS⟩
end Go.Proofs.YtgkgmhkgahalgaaGreat
