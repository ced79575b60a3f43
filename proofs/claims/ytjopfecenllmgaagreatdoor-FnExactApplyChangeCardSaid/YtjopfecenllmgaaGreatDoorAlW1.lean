/-
  The walks through the functions: a call comes to what its list function says.
-/
import Derived.Test.YtjopfecenllmgaaGreatDoorAlF
set_option linter.unusedSimpArgs false
set_option linter.unusedVariables false
namespace Go.Proofs.YtjopfecenllmgaaGreatDoor
open Go.RowKit
open Tryz
variable {w0 w:World} {L:List Cn} {K:Nat} {A_a A_b A_c A_d A_e A_f A_g A_h A_i A_j A_k A_l A_m A_n A_o A_p A_q A_r A_s A_t A_u A_v A_w A_x A_y A_z:Option Addr} {c_a c_b c_c c_d c_e c_f c_g c_h c_i c_j c_k c_l c_m c_n c_o c_p c_q c_r c_s c_t c_u c_v c_w c_x c_y c_z:Nat}
set_option maxRecDepth 20000
set_option maxHeartbeats 40000000
theorem M4.calls {a_:List Br} {left:Int} {r1:Int} (HS:St w0 w (L)) (r_a:Av w0 L Az A_a c_a uu a_) (H:M4.f a_ left=some r1) :
    Calls prog 135 #[sV A_a a_ c_a,I left] w (M4.post w0 L r1):=by
  unfold M4.f at H
  refine cG func135 Z ?_
  refine rN 3 Z (rG (pS 2 Z (lS Z Z sP Z (pS 2 Z (nL (rN 3 Z ?_))))))
  rcases iE H with ⟨c1,H⟩ | ⟨c1,H⟩
  ·
   refine yB Z (tT c1) (rN 2 Z ?_)
   obtain rfl:=sI H
   exact rT _ func135 Z Z ⟨Z,HS⟩
  refine nB Z (tF c1) (rN 3 Z ?_)
  obtain rfl:=sI H
  exact rT _ func135 Z Z ⟨Z,HS⟩
theorem Gh.calls {a_:List (List Br)} {left:Int} {y_a:Nat→(Ty.slice 211 Az).Lay} {r1:Int} (HS:St w0 w (L)) (r_a:Av w0 L (Ty.slice 211 Az) A_a c_a y_a a_) (H:Gh.f K a_ left=some r1) :
    Calls prog 90 #[sV A_a a_ c_a,I left] w (Gh.post w0 L r1):=by
  unfold Gh.f at H
  refine cG func90 Z ?_
  refine rN 3 Z (rG (pS 2 Z (lS Z Z U26 Z (pS 2 Z (nL (rN 3 Z ?_))))))
  rcases iE H with ⟨c1,H⟩ | ⟨c1,H⟩
  ·
   refine yB Z (tT c1) (rN 2 Z ?_)
   obtain rfl:=sI H
   exact rT _ func90 Z Z ⟨Z,HS⟩
  refine nB Z (tF c1) (rN 6 Z ?_)
  refine G.name (fun h1 f1=>?_)
  have g1:∀ d1,d1≤K→∀ (b1 a1:Int) (w:World),Gh.l1 K d1 a_ b1 a1=some r1→St w0 w (L)→G prog 90 27 [(0,sV A_a a_ c_a),(1,I b1),(5,I a1)] h1 w (Gh.post w0 L r1):=by
   refine lp (fun _ _ w H _=>by rw [Gh.l1] at H; cases H) fun e1 k1 i1 b1 a1 w H HS=>?_
   rw [Gh.l1] at H
   subst f1
   refine rN 2 Z (rG (pS 2 Z (lS Z Z U26 Z (GO.lss Z Z Z Z (nL ?_)))))
   rcases iS H with ⟨c18,H⟩ | ⟨c18,H⟩
   ·
    refine nB Z (tF c18) (rN 3 Z ?_)
    obtain rfl:=sI H
    exact rT _ func90 Z Z ⟨Z,HS⟩
   refine yB Z (tT c18) (rN 4 Z ?_)
   obtain ⟨c19,H⟩:=iN H
   obtain ⟨t20,h21,H⟩:=bI H
   refine rG (pS 2 Z (iX Z U26 uO (rk r_a HS) c19 (GO.Gb (T:=(Ty.slice 211 Az)) (n:=a1.toNat) (o:=0) HS r_a Z Z (getD_some (d:=[]) (ltN c19)) Z Z tH Z (mV Z (fJ vQ Z (M4.calls HS (Av.elem r_a c19.1 c19.2) h21) (fun _ wd22 ⟨h23,HS⟩=>⟨_,h23,(aS Z (nL (rN 2 Z ?_)))⟩))))))
   rcases iE H with ⟨c24,H⟩ | ⟨c24,H⟩
   ·
    refine yB Z (tT c24) (rN 2 Z ?_)
    obtain rfl:=sI H
    exact rT _ func90 Z Z ⟨Z,HS⟩
   refine nB Z (tF c24) (rN 4 Z (gW (i1 e1 (lR _) _ _ _ H HS) Z))
  exact gW (g1 K (lR _) _ _ _ H HS) Z
theorem G6.calls {a1:List (List Br)} {left:Int} {y_a:Nat→(Ty.slice 211 Az).Lay} {r1:Int} (HS:St w0 w (L)) (r_a:Av w0 L (Ty.slice 211 Az) A_a c_a y_a a1) (H:G6.f K a1 left=some r1) :
    Calls prog 41 #[.agg [sV A_a a1 c_a].toArray,I left] w (G6.post w0 L r1):=by
  unfold G6.f at H
  refine cG func41 Z ?_
  refine sQ (rG (bA HS Z fun b1 wd2 HS=>aS Z (nL (sQ ?_))))
  obtain ⟨t3,h4,H⟩:=bI H
  refine rG (fL b1 0 lM Z (lB 0 HS Z zY Z (mV Z (fJ zL Z (Gh.calls HS (rD 1 r_a) h4) (fun _ wd5 ⟨h6,HS⟩=>⟨_,h6,(aS Z (nL (rN 3 Z ?_)))⟩)))))
  rcases iE H with ⟨c7,H⟩ | ⟨c7,H⟩
  ·
   refine yB Z (tT c7) (rN 2 Z ?_)
   obtain rfl:=sI H
   exact rT _ func41 Z Z ⟨Z,(HS.pk 1 [] Z)⟩
  refine nB Z (tF c7) (rN 3 Z ?_)
  obtain rfl:=sI H
  exact rT _ func41 Z Z ⟨Z,(HS.pk 1 [] Z)⟩
theorem Kh.calls {a_:List Ah} {left:Int} {r1:Int} (HS:St w0 w (L)) (r_a:Av w0 L Au A_a c_a uu a_) (H:Kh.f a_ left=some r1) :
    Calls prog 91 #[sV A_a a_ c_a,I left] w (Kh.post w0 L r1):=by
  unfold Kh.f at H
  refine cG func91 Z ?_
  refine rN 3 Z (rG (pS 2 Z (lS Z Z U29 Z (pS 2 Z (nL (rN 3 Z ?_))))))
  rcases iE H with ⟨c1,H⟩ | ⟨c1,H⟩
  ·
   refine yB Z (tT c1) (rN 2 Z ?_)
   obtain rfl:=sI H
   exact rT _ func91 Z Z ⟨Z,HS⟩
  refine nB Z (tF c1) (rN 3 Z ?_)
  obtain rfl:=sI H
  exact rT _ func91 Z Z ⟨Z,HS⟩
theorem Lm.calls {a1:List Ah} {c1 left:Int} {r1:Int} (HS:St w0 w (L)) (r_a:Av w0 L Au A_a c_a uu a1) (H:Lm.f a1 c1 left=some r1) :
    Calls prog 42 #[.agg [sV A_a a1 c_a,I c1].toArray,I left] w (Lm.post w0 L r1):=by
  unfold Lm.f at H
  refine cG func42 Z ?_
  refine sQ (rG (bA HS Z fun b1 wd2 HS=>aS Z (nL (sQ ?_))))
  obtain ⟨t3,h4,H⟩:=bI H
  refine rG (fL b1 0 lU Z (lB 0 HS Z AaW Z (mV Z (fJ AaF Z (Kh.calls HS (rD 1 r_a) h4) (fun _ wd5 ⟨h6,HS⟩=>⟨_,h6,(aS Z (nL (rN 3 Z ?_)))⟩)))))
  rcases iE H with ⟨c7,H⟩ | ⟨c7,H⟩
  ·
   refine yB Z (tT c7) (rN 2 Z ?_)
   obtain rfl:=sI H
   exact rT _ func42 Z Z ⟨Z,(HS.pk 1 [] Z)⟩
  refine nB Z (tF c7) (rN 3 Z ?_)
  obtain rfl:=sI H
  exact rT _ func42 Z Z ⟨Z,(HS.pk 1 [] Z)⟩
theorem I8.calls {a_:List Int} {left:Int} {r1:Int} (HS:St w0 w (L)) (r_a:Av w0 L (Bi .i64) A_a c_a uu a_) (H:I8.f a_ left=some r1) :
    Calls prog 92 #[sV A_a a_ c_a,I left] w (I8.post w0 L r1):=by
  unfold I8.f at H
  refine cG func92 Z ?_
  refine rN 3 Z (rG (pS 2 Z (lS Z Z U32 Z (pS 2 Z (nL (rN 3 Z ?_))))))
  rcases iE H with ⟨c1,H⟩ | ⟨c1,H⟩
  ·
   refine yB Z (tT c1) (rN 2 Z ?_)
   obtain rfl:=sI H
   exact rT _ func92 Z Z ⟨Z,HS⟩
  refine nB Z (tF c1) (rN 3 Z ?_)
  obtain rfl:=sI H
  exact rT _ func92 Z Z ⟨Z,HS⟩
theorem Ms.calls {c1:Int} {a1:List Int} {left:Int} {r1:Int} (HS:St w0 w (L)) (r_a:Av w0 L (Bi .i64) A_a c_a uu a1) (H:Ms.f c1 a1 left=some r1) :
    Calls prog 43 #[.agg [I c1,sV A_a a1 c_a].toArray,I left] w (Ms.post w0 L r1):=by
  unfold Ms.f at H
  refine cG func43 Z ?_
  refine sQ (rG (bA HS Z fun b1 wd2 HS=>aS Z (nL (sQ ?_))))
  obtain ⟨t3,h4,H⟩:=bI H
  refine rG (fL b1 1 oO Z (lB 0 HS Z Jb Z (mV Z (fJ nS Z (I8.calls HS (rD 1 r_a) h4) (fun _ wd5 ⟨h6,HS⟩=>⟨_,h6,(aS Z (nL (rN 3 Z ?_)))⟩)))))
  rcases iE H with ⟨c7,H⟩ | ⟨c7,H⟩
  ·
   refine yB Z (tT c7) (rN 2 Z ?_)
   obtain rfl:=sI H
   exact rT _ func43 Z Z ⟨Z,(HS.pk 1 [] Z)⟩
  refine nB Z (tF c7) (rN 3 Z ?_)
  obtain rfl:=sI H
  exact rT _ func43 Z Z ⟨Z,(HS.pk 1 [] Z)⟩
theorem Mv.calls {a_:List Cc} {left:Int} {r1:Int} (HS:St w0 w (L)) (r_a:Av w0 L Ci A_a c_a uu a_) (H:Mv.f a_ left=some r1) :
    Calls prog 93 #[sV A_a a_ c_a,I left] w (Mv.post w0 L r1):=by
  unfold Mv.f at H
  refine cG func93 Z ?_
  refine rN 3 Z (rG (pS 2 Z (lS Z Z U35 Z (pS 2 Z (nL (rN 3 Z ?_))))))
  rcases iE H with ⟨c1,H⟩ | ⟨c1,H⟩
  ·
   refine yB Z (tT c1) (rN 2 Z ?_)
   obtain rfl:=sI H
   exact rT _ func93 Z Z ⟨Z,HS⟩
  refine nB Z (tF c1) (rN 3 Z ?_)
  obtain rfl:=sI H
  exact rT _ func93 Z Z ⟨Z,HS⟩
theorem Je.calls {f1 e1:Int} {c1:List Cc} {d1 a1:List Int} {left:Int} {r1:Int} (HS:St w0 w (L)) (r_a:Av w0 L Ci A_a c_a uu c1) (r_b:Av w0 L (Bi .i64) A_b c_b uu d1) (r_c:Av w0 L (Bi .i64) A_c c_c uu a1) (H:Je.f f1 e1 c1 d1 a1 left=some r1) :
    Calls prog 44 #[.agg [I f1,I e1,sV A_a c1 c_a,sV A_b d1 c_b,sV A_c a1 c_c].toArray,I left] w (Je.post w0 L r1):=by
  unfold Je.f at H
  refine cG func44 Z ?_
  refine sQ (rG (bA HS Z fun b1 wd2 HS=>aS Z (nL (sQ ?_))))
  obtain ⟨t3,h4,H⟩:=bI H
  refine rG (fL b1 2 nH Z (lB 0 HS Z AaV Z (mV Z (fJ zT Z (Mv.calls HS (rD 1 r_a) h4) (fun _ wd5 ⟨h6,HS⟩=>⟨_,h6,(aS Z (nL (rN 3 Z ?_)))⟩)))))
  rcases iE H with ⟨c7,H⟩ | ⟨c7,H⟩
  ·
   refine yB Z (tT c7) (rN 2 Z ?_)
   obtain rfl:=sI H
   exact rT _ func44 Z Z ⟨Z,(HS.pk 1 [] Z)⟩
  refine nB Z (tF c7) (rN 2 Z ?_)
  obtain ⟨t8,h9,H⟩:=bI H
  refine rG (fL b1 3 kH Z (lB 0 HS Z Jb Z (mV Z (fJ nS Z (I8.calls HS (rD 1 r_b) h9) (fun _ wd10 ⟨h11,HS⟩=>⟨_,h11,(aS Z (nL (rN 3 Z ?_)))⟩)))))
  rcases iE H with ⟨c12,H⟩ | ⟨c12,H⟩
  ·
   refine yB Z (tT c12) (rN 2 Z ?_)
   obtain rfl:=sI H
   exact rT _ func44 Z Z ⟨Z,(HS.pk 1 [] Z)⟩
  refine nB Z (tF c12) (rN 2 Z ?_)
  obtain ⟨t13,h14,H⟩:=bI H
  refine rG (fL b1 4 mZ Z (lB 0 HS Z Jb Z (mV Z (fJ nS Z (I8.calls HS (rD 1 r_c) h14) (fun _ wd15 ⟨h16,HS⟩=>⟨_,h16,(aS Z (nL (rN 3 Z ?_)))⟩)))))
  rcases iE H with ⟨c17,H⟩ | ⟨c17,H⟩
  ·
   refine yB Z (tT c17) (rN 2 Z ?_)
   obtain rfl:=sI H
   exact rT _ func44 Z Z ⟨Z,(HS.pk 1 [] Z)⟩
  refine nB Z (tF c17) (rN 3 Z ?_)
  obtain rfl:=sI H
  exact rT _ func44 Z Z ⟨Z,(HS.pk 1 [] Z)⟩
theorem Lp.calls {o1:ByteArray} {n1:Int} {e1:List (List Br)} {g1:List Ah} {m1 h1:Int} {a1:List Int} {k1 i1:Int} {d1:List Cc} {f1 c1:List Int} {left:Int} {y_a:Nat→(Ty.slice 211 Az).Lay} {r1:Int} (HS:St w0 w (L)) (r_a:Av w0 L (Ty.slice 211 Az) A_a c_a y_a e1) (r_b:Av w0 L Au A_b c_b uu g1) (r_c:Av w0 L (Bi .i64) A_c c_c uu a1) (r_d:Av w0 L Ci A_d c_d uu d1) (r_e:Av w0 L (Bi .i64) A_e c_e uu f1) (r_f:Av w0 L (Bi .i64) A_f c_f uu c1) (H:Lp.f K o1 n1 e1 g1 m1 h1 a1 k1 i1 d1 f1 c1 left=some r1) :
    Calls prog 17 #[.agg [.string o1,I n1,sV A_a e1 c_a,sV A_b g1 c_b,I m1,I h1,sV A_c a1 c_c,I k1,I i1,sV A_d d1 c_d,sV A_e f1 c_e,sV A_f c1 c_f].toArray,I left] w (Lp.post w0 L r1):=by
  unfold Lp.f at H
  refine cG func17 Z ?_
  refine sQ (rG (bA HS Z fun b1 wd2 HS=>aS Z (nL (sQ (rG (mV Z (fL b1 0 nZ Z (lB 0 HS Z na9 Z (GO.Qz Z Z U9 Z (pS 2 Z (nL (rN 3 Z ?_))))))))))))
  rcases iE H with ⟨c3,H⟩ | ⟨c3,H⟩
  ·
   refine yB Z (tT c3) (rN 2 Z ?_)
   obtain rfl:=sI H
   exact rT _ func17 Z Z ⟨Z,(HS.pk 1 [] Z)⟩
  refine nB Z (tF c3) (rN 2 Z ?_)
  obtain ⟨t4,h5,H⟩:=bI H
  refine rG (fL b1 2 nR Z (GO.Du (j:=0) ([sV A_a e1 c_a]) HS Z Z Z Z Aar Z (mV Z (fJ Aaz Z (G6.calls HS (rD 1 r_a) h5) (fun _ wd6 ⟨h7,HS⟩=>⟨_,h7,(aS Z (nL (rN 3 Z ?_)))⟩)))))
  rcases iE H with ⟨c8,H⟩ | ⟨c8,H⟩
  ·
   refine yB Z (tT c8) (rN 2 Z ?_)
   obtain rfl:=sI H
   exact rT _ func17 Z Z ⟨Z,(HS.pk 1 [] Z)⟩
  refine nB Z (tF c8) (rN 2 Z ?_)
  obtain ⟨t9,h10,H⟩:=bI H
  refine rG (fL b1 3 pE Z (GO.Du (j:=0) ([sV A_b g1 c_b,I m1]) HS Z Z Z Z AaS Z (mV Z (fJ Aa9 Z (Lm.calls HS (rD 1 r_b) h10) (fun _ wd11 ⟨h12,HS⟩=>⟨_,h12,(aS Z (nL (rN 3 Z ?_)))⟩)))))
  rcases iE H with ⟨c13,H⟩ | ⟨c13,H⟩
  ·
   refine yB Z (tT c13) (rN 2 Z ?_)
   obtain rfl:=sI H
   exact rT _ func17 Z Z ⟨Z,(HS.pk 1 [] Z)⟩
  refine nB Z (tF c13) (rN 2 Z ?_)
  obtain ⟨t14,h15,H⟩:=bI H
  refine rG (fL b1 5 kI Z (GO.Du (j:=0) ([I h1,sV A_c a1 c_c]) HS Z Z Z Z Aau Z (mV Z (fJ Aac Z (Ms.calls HS (rD 1 r_c) h15) (fun _ wd16 ⟨h17,HS⟩=>⟨_,h17,(aS Z (nL (rN 3 Z ?_)))⟩)))))
  rcases iE H with ⟨c18,H⟩ | ⟨c18,H⟩
  ·
   refine yB Z (tT c18) (rN 2 Z ?_)
   obtain rfl:=sI H
   exact rT _ func17 Z Z ⟨Z,(HS.pk 1 [] Z)⟩
  refine nB Z (tF c18) (rN 2 Z ?_)
  obtain ⟨t19,h20,H⟩:=bI H
  refine rG (fL b1 7 mH Z (GO.Du (j:=0) ([I k1,I i1,sV A_d d1 c_d,sV A_e f1 c_e,sV A_f c1 c_f]) HS Z Z Z Z zM Z (mV Z (fJ Aaa Z (Je.calls HS (rD 1 r_d) (rD 1 r_e) (rD 1 r_f) h20) (fun _ wd21 ⟨h22,HS⟩=>⟨_,h22,(aS Z (nL (rN 3 Z ?_)))⟩)))))
  rcases iE H with ⟨c23,H⟩ | ⟨c23,H⟩
  ·
   refine yB Z (tT c23) (rN 2 Z ?_)
   obtain rfl:=sI H
   exact rT _ func17 Z Z ⟨Z,(HS.pk 1 [] Z)⟩
  refine nB Z (tF c23) (rN 3 Z ?_)
  obtain rfl:=sI H
  exact rT _ func17 Z Z ⟨Z,(HS.pk 1 [] Z)⟩
theorem Fv.calls {a_:List Af} {left:Int} {y_a:Nat→Fu.Lay} {r1:Int} (HS:St w0 w (L)) (r_a:Av w0 L Fu A_a c_a y_a a_) (H:Fv.f K a_ left=some r1) :
    Calls prog 15 #[sV A_a a_ c_a,I left] w (Fv.post w0 L r1):=by
  unfold Fv.f at H
  refine cG func15 Z ?_
  refine rN 3 Z (rG (pS 2 Z (lS Z Z U22 Z (pS 2 Z (nL (rN 3 Z ?_))))))
  rcases iE H with ⟨c1,H⟩ | ⟨c1,H⟩
  ·
   refine yB Z (tT c1) (rN 2 Z ?_)
   obtain rfl:=sI H
   exact rT _ func15 Z Z ⟨Z,HS⟩
  refine nB Z (tF c1) (rN 6 Z ?_)
  refine G.name (fun h1 f1=>?_)
  have g1:∀ d1,d1≤K→∀ (b1 a1:Int) (w:World),Fv.l1 K d1 a_ b1 a1=some r1→St w0 w (L)→G prog 15 27 [(0,sV A_a a_ c_a),(1,I b1),(5,I a1)] h1 w (Fv.post w0 L r1):=by
   refine lp (fun _ _ w H _=>by rw [Fv.l1] at H; cases H) fun e1 k1 i1 b1 a1 w H HS=>?_
   rw [Fv.l1] at H
   subst f1
   refine rN 2 Z (rG (pS 2 Z (lS Z Z U22 Z (GO.lss Z Z Z Z (nL ?_)))))
   rcases iS H with ⟨c22,H⟩ | ⟨c22,H⟩
   ·
    refine nB Z (tF c22) (rN 3 Z ?_)
    obtain rfl:=sI H
    exact rT _ func15 Z Z ⟨Z,HS⟩
   refine yB Z (tT c22) (rN 4 Z ?_)
   obtain ⟨c23,H⟩:=iN H
   obtain ⟨e24,h25,H⟩:=Cr H
   obtain ⟨t26,h27,H⟩:=bI H
   refine rG (pS 2 Z (iX Z U22 zP (rk r_a HS) c23 (GO.J4 (T:=Fu) (n:=a1.toNat) HS r_a Z Z (Ba (ltN c23) h25) qU Z (mV Z (fJ uX Z (Lp.calls HS (Av.fld r_a (Ba (ltN c23) h25) (fun _ h=>h.2.2.1)) (Av.fld r_a (Ba (ltN c23) h25) (fun _ h=>h.2.2.2.1)) (Av.fld r_a (Ba (ltN c23) h25) (fun _ h=>h.2.2.2.2.2.2.1)) (Av.fld r_a (Ba (ltN c23) h25) (fun _ h=>h.2.2.2.2.2.2.2.2.2.1)) (Av.fld r_a (Ba (ltN c23) h25) (fun _ h=>h.2.2.2.2.2.2.2.2.2.2.1)) (Av.fld r_a (Ba (ltN c23) h25) (fun _ h=>h.2.2.2.2.2.2.2.2.2.2.2)) h27) (fun _ wd28 ⟨h29,HS⟩=>⟨_,h29,(aS Z (nL (rN 2 Z ?_)))⟩))))))
   rcases iE H with ⟨c30,H⟩ | ⟨c30,H⟩
   ·
    refine yB Z (tT c30) (rN 2 Z ?_)
    obtain rfl:=sI H
    exact rT _ func15 Z Z ⟨Z,HS⟩
   refine nB Z (tF c30) (rN 4 Z (gW (i1 e1 (lR _) _ _ _ H HS) Z))
  exact gW (g1 K (lR _) _ _ _ H HS) Z
theorem Ew.calls {a_:List (List Af)} {left:Int} {y_a:Nat→(Ty.slice 39 Fu).Lay} {r1:Int} (HS:St w0 w (L)) (r_a:Av w0 L (Ty.slice 39 Fu) A_a c_a y_a a_) (H:Ew.f K a_ left=some r1) :
    Calls prog 16 #[sV A_a a_ c_a,I left] w (Ew.post w0 L r1):=by
  unfold Ew.f at H
  refine cG func16 Z ?_
  refine rN 3 Z (rG (pS 2 Z (lS Z Z U23 Z (pS 2 Z (nL (rN 3 Z ?_))))))
  rcases iE H with ⟨c1,H⟩ | ⟨c1,H⟩
  ·
   refine yB Z (tT c1) (rN 2 Z ?_)
   obtain rfl:=sI H
   exact rT _ func16 Z Z ⟨Z,HS⟩
  refine nB Z (tF c1) (rN 6 Z ?_)
  refine G.name (fun h1 f1=>?_)
  have g1:∀ d1,d1≤K→∀ (b1 a1:Int) (w:World),Ew.l1 K d1 a_ b1 a1=some r1→St w0 w (L)→G prog 16 27 [(0,sV A_a a_ c_a),(1,I b1),(5,I a1)] h1 w (Ew.post w0 L r1):=by
   refine lp (fun _ _ w H _=>by rw [Ew.l1] at H; cases H) fun e1 k1 i1 b1 a1 w H HS=>?_
   rw [Ew.l1] at H
   subst f1
   refine rN 2 Z (rG (pS 2 Z (lS Z Z U23 Z (GO.lss Z Z Z Z (nL ?_)))))
   rcases iS H with ⟨c18,H⟩ | ⟨c18,H⟩
   ·
    refine nB Z (tF c18) (rN 3 Z ?_)
    obtain rfl:=sI H
    exact rT _ func16 Z Z ⟨Z,HS⟩
   refine yB Z (tT c18) (rN 4 Z ?_)
   obtain ⟨c19,H⟩:=iN H
   obtain ⟨t20,h21,H⟩:=bI H
   refine rG (pS 2 Z (iX Z U23 zW (rk r_a HS) c19 (GO.Gb (T:=(Ty.slice 39 Fu)) (n:=a1.toNat) (o:=0) HS r_a Z Z (getD_some (d:=[]) (ltN c19)) Z Z pR Z (mV Z (fJ tY Z (Fv.calls HS (Av.elem r_a c19.1 c19.2) h21) (fun _ wd22 ⟨h23,HS⟩=>⟨_,h23,(aS Z (nL (rN 2 Z ?_)))⟩))))))
   rcases iE H with ⟨c24,H⟩ | ⟨c24,H⟩
   ·
    refine yB Z (tT c24) (rN 2 Z ?_)
    obtain rfl:=sI H
    exact rT _ func16 Z Z ⟨Z,HS⟩
   refine nB Z (tF c24) (rN 4 Z (gW (i1 e1 (lR _) _ _ _ H HS) Z))
  exact gW (g1 K (lR _) _ _ _ H HS) Z
theorem Me.calls {a1:List Af} {d1 c1:List (List Af)} {left:Int} {y_a:Nat→Fu.Lay} {y_b:Nat→(Ty.slice 39 Fu).Lay} {y_c:Nat→(Ty.slice 39 Fu).Lay} {r1:Int} (HS:St w0 w (L)) (r_a:Av w0 L Fu A_a c_a y_a a1) (r_b:Av w0 L (Ty.slice 39 Fu) A_b c_b y_b d1) (r_c:Av w0 L (Ty.slice 39 Fu) A_c c_c y_c c1) (H:Me.f K a1 d1 c1 left=some r1) :
    Calls prog 4 #[.agg [sV A_a a1 c_a,sV A_b d1 c_b,sV A_c c1 c_c].toArray,I left] w (Me.post w0 L r1):=by
  unfold Me.f at H
  refine cG func4 Z ?_
  refine sQ (rG (bA HS Z fun b1 wd2 HS=>aS Z (nL (sQ ?_))))
  obtain ⟨t3,h4,H⟩:=bI H
  refine rG (fL b1 0 kG Z (lB 0 HS Z pR Z (mV Z (fJ tY Z (Fv.calls HS (rD 1 r_a) h4) (fun _ wd5 ⟨h6,HS⟩=>⟨_,h6,(aS Z (nL (rN 3 Z ?_)))⟩)))))
  rcases iE H with ⟨c7,H⟩ | ⟨c7,H⟩
  ·
   refine yB Z (tT c7) (rN 2 Z ?_)
   obtain rfl:=sI H
   exact rT _ func4 Z Z ⟨Z,(HS.pk 1 [] Z)⟩
  refine nB Z (tF c7) (rN 2 Z ?_)
  obtain ⟨t8,h9,H⟩:=bI H
  refine rG (fL b1 1 mX Z (lB 0 HS Z pW Z (mV Z (fJ uG Z (Ew.calls HS (rD 1 r_b) h9) (fun _ wd10 ⟨h11,HS⟩=>⟨_,h11,(aS Z (nL (rN 3 Z ?_)))⟩)))))
  rcases iE H with ⟨c12,H⟩ | ⟨c12,H⟩
  ·
   refine yB Z (tT c12) (rN 2 Z ?_)
   obtain rfl:=sI H
   exact rT _ func4 Z Z ⟨Z,(HS.pk 1 [] Z)⟩
  refine nB Z (tF c12) (rN 2 Z ?_)
  obtain ⟨t13,h14,H⟩:=bI H
  refine rG (fL b1 2 lN Z (lB 0 HS Z pW Z (mV Z (fJ uG Z (Ew.calls HS (rD 1 r_c) h14) (fun _ wd15 ⟨h16,HS⟩=>⟨_,h16,(aS Z (nL (rN 3 Z ?_)))⟩)))))
  rcases iE H with ⟨c17,H⟩ | ⟨c17,H⟩
  ·
   refine yB Z (tT c17) (rN 2 Z ?_)
   obtain rfl:=sI H
   exact rT _ func4 Z Z ⟨Z,(HS.pk 1 [] Z)⟩
  refine nB Z (tF c17) (rN 3 Z ?_)
  obtain rfl:=sI H
  exact rT _ func4 Z Z ⟨Z,(HS.pk 1 [] Z)⟩
theorem Kn.calls {p1:Int} {q1 m1:ByteArray} {i1:Int} {c1:List (List Br)} {g1:List Ah} {o1 n1:Int} {f1:List Int} {k1 h1:Int} {a1:List Cc} {d1 e1:List Int} {left:Int} {y_a:Nat→(Ty.slice 211 Az).Lay} {r1:Int} (HS:St w0 w (L)) (r_a:Av w0 L (Ty.slice 211 Az) A_a c_a y_a c1) (r_b:Av w0 L Au A_b c_b uu g1) (r_c:Av w0 L (Bi .i64) A_c c_c uu f1) (r_d:Av w0 L Ci A_d c_d uu a1) (r_e:Av w0 L (Bi .i64) A_e c_e uu d1) (r_f:Av w0 L (Bi .i64) A_f c_f uu e1) (H:Kn.f K p1 q1 m1 i1 c1 g1 o1 n1 f1 k1 h1 a1 d1 e1 left=some r1) :
    Calls prog 5 #[.agg [I p1,.string q1,.string m1,I i1,sV A_a c1 c_a,sV A_b g1 c_b,I o1,I n1,sV A_c f1 c_c,I k1,I h1,sV A_d a1 c_d,sV A_e d1 c_e,sV A_f e1 c_f].toArray,I left] w (Kn.post w0 L r1):=by
  unfold Kn.f at H
  refine cG func5 Z ?_
  refine sQ (rG (bA HS Z fun b1 wd2 HS=>aS Z (nL (sQ (rG (mV Z (fL b1 1 kJ Z (lB 0 HS Z na9 Z (GO.Qz Z Z U9 Z (pS 2 Z (nL (rN 3 Z ?_))))))))))))
  rcases iE H with ⟨c3,H⟩ | ⟨c3,H⟩
  ·
   refine yB Z (tT c3) (rN 2 Z ?_)
   obtain rfl:=sI H
   exact rT _ func5 Z Z ⟨Z,(HS.pk 1 [] Z)⟩
  refine nB Z (tF c3) (rN 2 Z ?_)
  obtain ⟨t4,h5,H⟩:=bI H
  refine rG (fL b1 2 mD Z (GO.Du (j:=0) ([.string m1,I i1,sV A_a c1 c_a,sV A_b g1 c_b,I o1,I n1,sV A_c f1 c_c,I k1,I h1,sV A_d a1 c_d,sV A_e d1 c_e,sV A_f e1 c_f]) HS Z Z Z Z qU Z (mV Z (fJ uX Z (Lp.calls HS (rD 1 r_a) (rD 1 r_b) (rD 1 r_c) (rD 1 r_d) (rD 1 r_e) (rD 1 r_f) h5) (fun _ wd6 ⟨h7,HS⟩=>⟨_,h7,(aS Z (nL (rN 3 Z ?_)))⟩)))))
  rcases iE H with ⟨c8,H⟩ | ⟨c8,H⟩
  ·
   refine yB Z (tT c8) (rN 2 Z ?_)
   obtain rfl:=sI H
   exact rT _ func5 Z Z ⟨Z,(HS.pk 1 [] Z)⟩
  refine nB Z (tF c8) (rN 3 Z ?_)
  obtain rfl:=sI H
  exact rT _ func5 Z Z ⟨Z,(HS.pk 1 [] Z)⟩
theorem Nn.calls {a1 c1:Int} {r1 r2:Int} (HS:St w0 w (L)) (H:Nn.f a1 c1=some (r1,r2)) :
    Calls prog 182 #[.agg [I a1,I c1].toArray] w (Nn.post w0 L r1 r2):=by
  unfold Nn.f at H
  refine cG func182 Z ?_
  refine sQ (rG (bA HS Z fun b1 wd2 HS=>GO.alloc HS Z Zx Z Z fun b3 wd4 HS=>nL (sQ (rG (GO.alloc HS Z Zx Z Z fun b5 wd6 HS=>nL (sQ (rG (fL b1 0 rZ Z (lB 2 HS Z na2 Z (fL b5 0 K5 Z (GO.H9 (j:=0) (vs:=[I a1]) ([I a1,I 0]) HS Z Z Z Z Z (htN na2 Z) Z Z Z fun wd7 HS=>?_)))))))))))
  refine nL (sQ (rG (fL b1 1 qQ Z (lB 2 HS Z na2 Z (fL b5 1 Oq Z (GO.H9 (j:=0) (vs:=[I c1]) ([I a1,I c1]) HS Z Z Z Z Z (htN na2 Z) Z Z Z fun wd8 HS=>nL (sQ (rG (lW 0 HS Z Nk (sW 1 HS Z Nk Z fun wd9 HS=>nL ?_))))))))))
  obtain ⟨rfl,rfl⟩:=Nq H
  exact rT _ func182 Z (Iq.Ji (j:=1) (vs:=[I a1,I c1]) HS Z Z Z Nk) ⟨Z,(HS.pk 3 [] Z)⟩
theorem G5.calls {a_:List Br} {r1:List Br} (HS:St w0 w (L)) (r_a:Av w0 L Az A_a c_a uu a_) (H:G5.f K a_=some r1) :
    Calls prog 147 #[sV A_a a_ c_a] w (G5.post w0 L r1):=by
  unfold G5.f at H
  refine cG func147 Z ?_
  refine rN 3 Z ?_
  obtain ⟨c1,H⟩:=iN H
  obtain ⟨c2,H⟩:=iN H
  refine rG (mV Z (lS Z Z sP Z (GO.make (T:=Az) Md () HS Bw Z Z Z P8 eO Z Z Z c1 c2 Z fun b3 wd4 HS=>aS Z (nL (rN 5 Z ?_)))))
  refine G.name (fun h1 f1=>?_)
  have g1:∀ d1,d1≤K→∀ (b1:List Br) (a1:Int) (w:World),G5.l1 K d1 a_ b1 a1=some r1→St w0 w (Own Az 168 (sb b3) ((a_.length:Int).toNat) uu b1::L)→G prog 147 23 [(0,sV A_a a_ c_a),(3,sV (sb b3) b1 ((a_.length:Int).toNat)),(4,I a1)] h1 w (G5.post w0 L r1):=by
   refine lp (fun _ _ w H _=>by rw [G5.l1] at H; cases H) fun e1 k1 i1 b1 a1 w H HS=>?_
   rw [G5.l1] at H
   subst f1
   refine rN 2 Z (rG (pS 2 Z (lS Z Z sP Z (GO.lss Z Z Z Z (nL ?_)))))
   rcases iS H with ⟨c29,H⟩ | ⟨c29,H⟩
   ·
    refine nB Z (tF c29) (rN 3 Z ?_)
    obtain rfl:=sI H
    exact rT _ func147 Z Z ⟨_,_,Z,HS⟩
   refine yB Z (tT c29) (rN 3 Z ?_)
   obtain ⟨c30,H⟩:=iN H
   obtain ⟨e31,h32,H⟩:=Cr H
   obtain ⟨t33,t34,h35,H⟩:=Dt H
   obtain ⟨c38,H⟩:=iN H
   refine rG (pS 4 Z (iX Z sP AaZ (rk (rD 1 r_a) HS) c30 (GO.J4 (T:=Az) (n:=a1.toNat) HS (rD 1 r_a) Z Z (Ba (ltN c30) h32) zJ Z (fJ xE Z (Nn.calls HS  h35) (fun _ wd36 ⟨h37,HS⟩=>⟨_,h37,(iX Z P8 Qt (fun _=>⟨_,_,Z⟩) c38 (GO.N9 (T:=Az) (j:=0) (n:=a1.toNat) (o:=0) (vs:=[I t33,I t34]) (⟨t33,t34⟩:Br) HS Z Bw Z Z Z Z (htA Nk) Z (getD_some (d:=Md) (ltN c38)) Z Z fun wd39 HS=>nL (G.len (t:=3) (m:=(b1.set a1.toNat (⟨t33,t34⟩:Br)).length) Z (by simp only [List.length_set] <;> rfl) (rN 3 Z (gW (i1 e1 (lR _) _ _ _ H HS) Z)))))⟩)))))
  exact gW (g1 K (lR _) _ _ _ H HS) Z
theorem Fx.calls {a_:List (List Br)} {y_a:Nat→(Ty.slice 211 Az).Lay} {r1:List (List Br)} (HS:St w0 w (L)) (r_a:Av w0 L (Ty.slice 211 Az) A_a c_a y_a a_) (H:Fx.f K a_=some r1) :
    Calls prog 106 #[sV A_a a_ c_a] w (Fx.post w0 L r1):=by
  unfold Fx.f at H
  refine cG func106 Z ?_
  refine rN 3 Z ?_
  obtain ⟨c1,H⟩:=iN H
  obtain ⟨c2,H⟩:=iN H
  refine rG (mV Z (lS Z Z U26 Z (GO.uY (S:=Az) (u:=168) uu HS Z Z Z U51 gK Z c1 c2 Z fun b3 wd4 HS=>aS Z (nL (rN 5 Z ?_)))))
  refine G.name (fun h1 f1=>?_)
  have g1:∀ d1,d1≤K→∀ (b1:List (List Br)) (y17:Nat→(Ty.slice 168 Az).Lay) (a1:Int) (w:World),Fx.l1 K d1 a_ b1 a1=some r1→St w0 w (Own (Ty.slice 168 Az) 161 (sb b3) ((a_.length:Int).toNat) y17 b1::L)→G prog 106 23 [(0,sV A_a a_ c_a),(3,sV (sb b3) b1 ((a_.length:Int).toNat)),(4,I a1)] h1 w (Fx.post w0 L r1):=by
   refine lp (fun _ _ _ w H _=>by rw [Fx.l1] at H; cases H) fun e1 k1 i1 b1 y17 a1 w H HS=>?_
   rw [Fx.l1] at H
   subst f1
   refine rN 2 Z (rG (pS 2 Z (lS Z Z U26 Z (GO.lss Z Z Z Z (nL ?_)))))
   rcases iS H with ⟨c30,H⟩ | ⟨c30,H⟩
   ·
    refine nB Z (tF c30) (rN 3 Z ?_)
    obtain rfl:=sI H
    exact rT _ func106 Z Z ⟨_,_,_,Z,HS⟩
   refine yB Z (tT c30) (rN 3 Z ?_)
   obtain ⟨c31,H⟩:=iN H
   obtain ⟨t32,h33,H⟩:=bI H
   obtain ⟨c38,H⟩:=iN H
   refine rG (pS 4 Z (iX Z U26 uO (rk (rD 1 r_a) HS) c31 (GO.Gb (T:=(Ty.slice 211 Az)) (n:=a1.toNat) (o:=0) HS (rD 1 r_a) Z Z (getD_some (d:=[]) (ltN c31)) Z Z tH Z (fJ yP Z (G5.calls HS (Av.elem (rD 1 r_a) c31.1 c31.2) h33) (fun _ wd36 ⟨A34,c35,h37,HS⟩=>⟨_,h37,(iX Z U51 P7 (fun _=>⟨_,_,Z⟩) c38 ?_)⟩)))))
   replace HS:=HS.pk 2 [1,0] Z
   refine GO.mO (S:=Az) (u:=168) HS Z Z Z Qc (ltN c38) fun y40 wd39 HS=>nL (G.len (t:=3) (m:=(b1.set a1.toNat t32).length) Z (by simp only [List.length_set] <;> rfl) (rN 3 Z (gW (i1 e1 (lR _) _ _ _ _ H HS) Z)))
  exact gW (g1 K (lR _) _ _ _ _ H HS) Z
theorem Iw.calls {a1:List (List Br)} {y_a:Nat→(Ty.slice 211 Az).Lay} {r1:List (List Br)} (HS:St w0 w (L)) (r_a:Av w0 L (Ty.slice 211 Az) A_a c_a y_a a1) (H:Iw.f K a1=some r1) :
    Calls prog 55 #[.agg [sV A_a a1 c_a].toArray] w (Iw.post w0 L r1):=by
  unfold Iw.f at H
  refine cG func55 Z ?_
  refine sQ (rG (bA HS Z fun b1 wd2 HS=>GO.alloc HS Z jC Z Z fun b3 wd4 HS=>nL (sQ (rG (GO.alloc HS Z jC Z Z fun b5 wd6 HS=>nL (sQ ?_))))))
  obtain ⟨t7,h8,H⟩:=bI H
  refine rG (fL b1 0 lM Z (lB 2 HS Z zY Z (fJ wH Z (Fx.calls HS (rD 3 r_a) h8) (fun _ wd12 ⟨A9,c10,y11,h13,HS⟩=>⟨_,h13,(fL b5 0 J2 Z (GO.H9 (j:=1) (vs:=[sV A9 t7 c10]) ([sV A9 t7 c10]) HS Z Z Z Z Z (htN O1 Z) Z Z Z fun wd14 HS=>nL (sQ (rG (lW 1 HS Z O0 (sW 2 HS Z O0 Z fun wd15 HS=>nL ?_))))))⟩))))
  obtain rfl:=sI H
  exact rT _ func55 Z (Iq.Ji (j:=2) (vs:=[sV A9 t7 c10]) HS Z Z Z O0) ⟨_,_,_,Z,(HS.pk 4 [0] Z)⟩
theorem Kz.calls {a_A a_B:Int} {a_C a_D:Int} {a1 r1:Int} {r2 r3:Int} {r4 r5:Int} (HS:St w0 w (L)) (H:Kz.f a_A a_B a_C a_D a1=some (r1,r2,r3,r4,r5)) :
    Calls prog 148 #[.agg [I a_A,I a_B,I a_C,I a_D,I a1].toArray] w (Kz.post w0 L r1 r2 r3 r4 r5):=by
  unfold Kz.f at H
  refine cG func148 Z ?_
  refine sQ (rG (bA HS Z fun b1 wd2 HS=>GO.alloc HS Z Zl Z Z fun b3 wd4 HS=>nL (sQ (rG (GO.alloc HS Z Zl Z Z fun b5 wd6 HS=>nL (sQ (rG (fL b1 0 qF Z (lB 2 HS Z na2 Z (fL b5 0 Rx Z (GO.H9 (j:=0) (vs:=[I a_A]) ([I a_A,I 0,I 0,I 0,I 0]) HS Z Z Z Z Z (htN na2 Z) Z Z Z fun wd7 HS=>?_)))))))))))
  refine nL (sQ (rG (fL b1 1 sK Z (lB 2 HS Z na2 Z (fL b5 1 Rv Z (GO.H9 (j:=0) (vs:=[I a_B]) ([I a_A,I a_B,I 0,I 0,I 0]) HS Z Z Z Z Z (htN na2 Z) Z Z Z fun wd8 HS=>nL (sQ (rG (fL b1 2 sM Z (lB 2 HS Z na2 Z (fL b5 2 R4 Z (GO.H9 (j:=0) (vs:=[I a_C]) ([I a_A,I a_B,I a_C,I 0,I 0]) HS Z Z Z Z Z (htN na2 Z) Z Z Z fun wd9 HS=>nL ?_))))))))))))
  refine sQ (rG (fL b1 3 pQ Z (lB 2 HS Z na2 Z (fL b5 3 Rz Z (GO.H9 (j:=0) (vs:=[I a_D]) ([I a_A,I a_B,I a_C,I a_D,I 0]) HS Z Z Z Z Z (htN na2 Z) Z Z Z fun wd10 HS=>nL (sQ (rG (fL b1 4 pX Z (lB 2 HS Z na2 Z (fL b5 4 M0 Z (GO.H9 (j:=0) (vs:=[I a1]) ([I a_A,I a_B,I a_C,I a_D,I a1]) HS Z Z Z Z Z (htN na2 Z) Z Z Z fun wd11 HS=>nL (sQ ?_))))))))))))
  refine rG (lW 0 HS Z Ni (sW 1 HS Z Ni Z fun wd12 HS=>nL ?_))
  obtain ⟨rfl,rfl,rfl,rfl,rfl⟩:=tQ H
  exact rT _ func148 Z (Iq.Ji (j:=1) (vs:=[I a_A,I a_B,I a_C,I a_D,I a1]) HS Z Z Z Ni) ⟨Z,(HS.pk 3 [] Z)⟩
theorem Ea.calls {a_:List Ah} {r1:List Ah} (HS:St w0 w (L)) (r_a:Av w0 L Au A_a c_a uu a_) (H:Ea.f K a_=some r1) :
    Calls prog 107 #[sV A_a a_ c_a] w (Ea.post w0 L r1):=by
  unfold Ea.f at H
  refine cG func107 Z ?_
  refine rN 3 Z ?_
  obtain ⟨c1,H⟩:=iN H
  obtain ⟨c2,H⟩:=iN H
  refine rG (mV Z (lS Z Z U29 Z (GO.make (T:=Au) Ar () HS Bw Z Z Z U54 eU Z Z Z c1 c2 Z fun b3 wd4 HS=>aS Z (nL (rN 5 Z ?_)))))
  refine G.name (fun h1 f1=>?_)
  have g1:∀ d1,d1≤K→∀ (b1:List Ah) (a1:Int) (w:World),Ea.l1 K d1 a_ b1 a1=some r1→St w0 w (Own Au 163 (sb b3) ((a_.length:Int).toNat) uu b1::L)→G prog 107 23 [(0,sV A_a a_ c_a),(3,sV (sb b3) b1 ((a_.length:Int).toNat)),(4,I a1)] h1 w (Ea.post w0 L r1):=by
   refine lp (fun _ _ w H _=>by rw [Ea.l1] at H; cases H) fun e1 k1 i1 b1 a1 w H HS=>?_
   rw [Ea.l1] at H
   subst f1
   refine rN 2 Z (rG (pS 2 Z (lS Z Z U29 Z (GO.lss Z Z Z Z (nL ?_)))))
   rcases iS H with ⟨c35,H⟩ | ⟨c35,H⟩
   ·
    refine nB Z (tF c35) (rN 3 Z ?_)
    obtain rfl:=sI H
    exact rT _ func107 Z Z ⟨_,_,Z,HS⟩
   refine yB Z (tT c35) (rN 3 Z ?_)
   obtain ⟨c36,H⟩:=iN H
   obtain ⟨e37,h38,H⟩:=Cr H
   obtain ⟨t39,t40,t41,t42,t43,h44,H⟩:=Ye H
   obtain ⟨c47,H⟩:=iN H
   refine rG (pS 4 Z (iX Z U29 AaQ (rk (rD 1 r_a) HS) c36 (GO.J4 (T:=Au) (n:=a1.toNat) HS (rD 1 r_a) Z Z (Ba (ltN c36) h38) Aan Z (fJ wO Z (Kz.calls HS  h44) (fun _ wd45 ⟨h46,HS⟩=>⟨_,h46,(iX Z U54 Oz (fun _=>⟨_,_,Z⟩) c47 (GO.N9 (T:=Au) (j:=0) (n:=a1.toNat) (o:=0) (vs:=[I t39,I t40,I t41,I t42,I t43]) (⟨t39,t40,t41,t42,t43⟩:Ah) HS Z Bw Z Z Z Z (htA Ni) Z (getD_some (d:=Ar) (ltN c47)) Z Z fun wd48 HS=>nL (G.len (t:=3) (m:=(b1.set a1.toNat (⟨t39,t40,t41,t42,t43⟩:Ah)).length) Z (by simp only [List.length_set] <;> rfl) (rN 3 Z (gW (i1 e1 (lR _) _ _ _ H HS) Z)))))⟩)))))
  exact gW (g1 K (lR _) _ _ _ H HS) Z
theorem Lg.calls {c1:List Ah} {a1:Int} {r1:List Ah} {r2:Int} (HS:St w0 w (L)) (r_a:Av w0 L Au A_a c_a uu c1) (H:Lg.f K c1 a1=some (r1,r2)) :
    Calls prog 56 #[.agg [sV A_a c1 c_a,I a1].toArray] w (Lg.post w0 L r1 r2):=by
  unfold Lg.f at H
  refine cG func56 Z ?_
  refine sQ (rG (bA HS Z fun b1 wd2 HS=>GO.alloc HS Z qB Z Z fun b3 wd4 HS=>nL (sQ (rG (GO.alloc HS Z qB Z Z fun b5 wd6 HS=>nL (sQ ?_))))))
  obtain ⟨t7,h8,H⟩:=bI H
  refine rG (fL b1 0 lU Z (lB 2 HS Z AaW Z (fJ yD Z (Ea.calls HS (rD 3 r_a) h8) (fun _ wd11 ⟨A9,c10,h12,HS⟩=>⟨_,h12,(fL b5 0 Jr Z (GO.H9 (j:=1) (vs:=[sV A9 t7 c10]) ([sV A9 t7 c10,I 0]) HS Z Z Z Z Z (htN Ol Z) Z Z Z fun wd13 HS=>nL (sQ (rG (fL b1 1 wV Z (lB 3 HS Z na2 Z (fL b5 1 Qi Z (GO.H9 (j:=1) (vs:=[I a1]) ([sV A9 t7 c10,I a1]) HS Z Z Z Z Z (htN na2 Z) Z Z Z fun wd14 HS=>nL (sQ ?_)))))))))⟩))))
  refine rG (lW 1 HS Z Oe (sW 2 HS Z Oe Z fun wd15 HS=>nL ?_))
  obtain ⟨rfl,rfl⟩:=Nq H
  exact rT _ func56 Z (Iq.Ji (j:=2) (vs:=[sV A9 t7 c10,I a1]) HS Z Z Z Oe) ⟨_,_,Z,(HS.pk 4 [0] Z)⟩
theorem En.calls {a_:List Int} {r1:List Int} (HS:St w0 w (L)) (r_a:Av w0 L (Bi .i64) A_a c_a uu a_) (H:En.f K a_=some r1) :
    Calls prog 108 #[sV A_a a_ c_a] w (En.post w0 L r1):=by
  unfold En.f at H
  refine cG func108 Z ?_
  refine rN 3 Z ?_
  obtain ⟨c1,H⟩:=iN H
  obtain ⟨c2,H⟩:=iN H
  refine rG (mV Z (lS Z Z U32 Z (GO.make (T:=(Bi .i64)) 0 () HS Bw Z Z Z U32 Va Z Z Z c1 c2 Z fun b3 wd4 HS=>aS Z (nL (rN 5 Z ?_)))))
  refine G.name (fun h1 f1=>?_)
  have g1:∀ d1,d1≤K→∀ (b1:List Int) (a1:Int) (w:World),En.l1 K d1 a_ b1 a1=some r1→St w0 w (Own (Bi .i64) 2 (sb b3) ((a_.length:Int).toNat) uu b1::L)→G prog 108 22 [(0,sV A_a a_ c_a),(3,sV (sb b3) b1 ((a_.length:Int).toNat)),(4,I a1)] h1 w (En.post w0 L r1):=by
   refine lp (fun _ _ w H _=>by rw [En.l1] at H; cases H) fun e1 k1 i1 b1 a1 w H HS=>?_
   rw [En.l1] at H
   subst f1
   refine rN 2 Z (rG (pS 2 Z (lS Z Z U32 Z (GO.lss Z Z Z Z (nL ?_)))))
   rcases iS H with ⟨c15,H⟩ | ⟨c15,H⟩
   ·
    refine nB Z (tF c15) (rN 3 Z ?_)
    obtain rfl:=sI H
    exact rT _ func108 Z Z ⟨_,_,Z,HS⟩
   refine yB Z (tT c15) (rN 3 Z ?_)
   obtain ⟨c16,H⟩:=iN H
   obtain ⟨c17,H⟩:=iN H
   refine rG (pS 4 Z (iX Z U32 sz2 (rk (rD 1 r_a) HS) c16 (GO.Gb (T:=(Bi .i64)) (n:=a1.toNat) (o:=0) HS (rD 1 r_a) Z Z (getD_some (d:=0) (ltN c16)) Z Z na2 Z (iX Z U32 sz2 (fun _=>⟨_,_,Z⟩) c17 (GO.N9 (T:=(Bi .i64)) (j:=0) (n:=a1.toNat) (o:=0) (vs:=[I (a_.getD a1.toNat 0)]) (a_.getD a1.toNat 0) HS Z Bw Z Z Z Z (htN na2 Z) Z (getD_some (d:=0) (ltN c17)) Z Z fun wd18 HS=>nL (G.len (t:=3) (m:=(b1.set a1.toNat (a_.getD a1.toNat 0)).length) Z (by simp only [List.length_set] <;> rfl) (rN 3 Z (gW (i1 e1 (lR _) _ _ _ H HS) Z))))))))
  exact gW (g1 K (lR _) _ _ _ H HS) Z
theorem Mw.calls {a1:Int} {c1:List Int} {r1:Int} {r2:List Int} (HS:St w0 w (L)) (r_a:Av w0 L (Bi .i64) A_a c_a uu c1) (H:Mw.f K a1 c1=some (r1,r2)) :
    Calls prog 57 #[.agg [I a1,sV A_a c1 c_a].toArray] w (Mw.post w0 L r1 r2):=by
  unfold Mw.f at H
  refine cG func57 Z ?_
  refine sQ (rG (bA HS Z fun b1 wd2 HS=>GO.alloc HS Z xR Z Z fun b3 wd4 HS=>nL (sQ (rG (GO.alloc HS Z xR Z Z fun b5 wd6 HS=>nL (sQ (rG (fL b1 0 yA Z (lB 2 HS Z na2 Z (fL b5 0 Ou Z (GO.H9 (j:=0) (vs:=[I a1]) ([I a1,.slice none 0 0]) HS Z Z Z Z Z (htN na2 Z) Z Z Z fun wd7 HS=>?_)))))))))))
  refine nL (sQ ?_)
  obtain ⟨t8,h9,H⟩:=bI H
  refine rG (fL b1 1 oO Z (lB 2 HS Z Jb Z (fJ eF Z (En.calls HS (rD 3 r_a) h9) (fun _ wd12 ⟨A10,c11,h13,HS⟩=>⟨_,h13,(fL b5 1 Oi Z (GO.H9 (j:=1) (vs:=[sV A10 t8 c11]) ([I a1,sV A10 t8 c11]) HS Z Z Z Z Z (htN Jb Z) Z Z Z fun wd14 HS=>nL (sQ (rG (lW 1 HS Z R9 (sW 2 HS Z R9 Z fun wd15 HS=>nL ?_))))))⟩))))
  obtain ⟨rfl,rfl⟩:=Nq H
  exact rT _ func57 Z (Iq.Ji (j:=2) (vs:=[I a1,sV A10 t8 c11]) HS Z Z Z R9) ⟨_,_,Z,(HS.pk 4 [0] Z)⟩
theorem Nl.calls {a1 c1:Int} {d1 r1:Int} {r2 r3:Int} (HS:St w0 w (L)) (H:Nl.f a1 c1 d1=some (r1,r2,r3)) :
    Calls prog 149 #[.agg [I a1,I c1,I d1].toArray] w (Nl.post w0 L r1 r2 r3):=by
  unfold Nl.f at H
  refine cG func149 Z ?_
  refine sQ (rG (bA HS Z fun b1 wd2 HS=>GO.alloc HS Z uA Z Z fun b3 wd4 HS=>nL (sQ (rG (GO.alloc HS Z uA Z Z fun b5 wd6 HS=>nL (sQ (rG (fL b1 0 rH Z (lB 2 HS Z na2 Z (fL b5 0 Ot Z (GO.H9 (j:=0) (vs:=[I a1]) ([I a1,I 0,I 0]) HS Z Z Z Z Z (htN na2 Z) Z Z Z fun wd7 HS=>?_)))))))))))
  refine nL (sQ (rG (fL b1 1 qI Z (lB 2 HS Z na2 Z (fL b5 1 Pi Z (GO.H9 (j:=0) (vs:=[I c1]) ([I a1,I c1,I 0]) HS Z Z Z Z Z (htN na2 Z) Z Z Z fun wd8 HS=>nL (sQ (rG (fL b1 2 rE Z (lB 2 HS Z na2 Z (fL b5 2 Qp Z (GO.H9 (j:=0) (vs:=[I d1]) ([I a1,I c1,I d1]) HS Z Z Z Z Z (htN na2 Z) Z Z Z fun wd9 HS=>nL ?_))))))))))))
  refine sQ (rG (lW 0 HS Z U6 (sW 1 HS Z U6 Z fun wd10 HS=>nL ?_)))
  obtain ⟨rfl,rfl,rfl⟩:=Rb H
  exact rT _ func149 Z (Iq.Ji (j:=1) (vs:=[I a1,I c1,I d1]) HS Z Z Z U6) ⟨Z,(HS.pk 3 [] Z)⟩
theorem Gx.calls {a_:List Cc} {r1:List Cc} (HS:St w0 w (L)) (r_a:Av w0 L Ci A_a c_a uu a_) (H:Gx.f K a_=some r1) :
    Calls prog 109 #[sV A_a a_ c_a] w (Gx.post w0 L r1):=by
  unfold Gx.f at H
  refine cG func109 Z ?_
  refine rN 3 Z ?_
  obtain ⟨c1,H⟩:=iN H
  obtain ⟨c2,H⟩:=iN H
  refine rG (mV Z (lS Z Z U35 Z (GO.make (T:=Ci) Io () HS Bw Z Z Z U58 gH Z Z Z c1 c2 Z fun b3 wd4 HS=>aS Z (nL (rN 5 Z ?_)))))
  refine G.name (fun h1 f1=>?_)
  have g1:∀ d1,d1≤K→∀ (b1:List Cc) (a1:Int) (w:World),Gx.l1 K d1 a_ b1 a1=some r1→St w0 w (Own Ci 153 (sb b3) ((a_.length:Int).toNat) uu b1::L)→G prog 109 23 [(0,sV A_a a_ c_a),(3,sV (sb b3) b1 ((a_.length:Int).toNat)),(4,I a1)] h1 w (Gx.post w0 L r1):=by
   refine lp (fun _ _ w H _=>by rw [Gx.l1] at H; cases H) fun e1 k1 i1 b1 a1 w H HS=>?_
   rw [Gx.l1] at H
   subst f1
   refine rN 2 Z (rG (pS 2 Z (lS Z Z U35 Z (GO.lss Z Z Z Z (nL ?_)))))
   rcases iS H with ⟨c31,H⟩ | ⟨c31,H⟩
   ·
    refine nB Z (tF c31) (rN 3 Z ?_)
    obtain rfl:=sI H
    exact rT _ func109 Z Z ⟨_,_,Z,HS⟩
   refine yB Z (tT c31) (rN 3 Z ?_)
   obtain ⟨c32,H⟩:=iN H
   obtain ⟨e33,h34,H⟩:=Cr H
   obtain ⟨t35,t36,t37,h38,H⟩:=M5 H
   obtain ⟨c41,H⟩:=iN H
   refine rG (pS 4 Z (iX Z U35 AaK (rk (rD 1 r_a) HS) c32 (GO.J4 (T:=Ci) (n:=a1.toNat) HS (rD 1 r_a) Z Z (Ba (ltN c32) h34) Aaw Z (fJ yH Z (Nl.calls HS  h38) (fun _ wd39 ⟨h40,HS⟩=>⟨_,h40,(iX Z U58 Sr (fun _=>⟨_,_,Z⟩) c41 (GO.N9 (T:=Ci) (j:=0) (n:=a1.toNat) (o:=0) (vs:=[I t35,I t36,I t37]) (⟨t35,t36,t37⟩:Cc) HS Z Bw Z Z Z Z (htA U6) Z (getD_some (d:=Io) (ltN c41)) Z Z fun wd42 HS=>nL (G.len (t:=3) (m:=(b1.set a1.toNat (⟨t35,t36,t37⟩:Cc)).length) Z (by simp only [List.length_set] <;> rfl) (rN 3 Z (gW (i1 e1 (lR _) _ _ _ H HS) Z)))))⟩)))))
  exact gW (g1 K (lR _) _ _ _ H HS) Z
theorem Iy.calls {a1 c1:Int} {e1:List Cc} {f1 d1:List Int} {r1 r2:Int} {r3:List Cc} {r4 r5:List Int} (HS:St w0 w (L)) (r_a:Av w0 L Ci A_a c_a uu e1) (r_b:Av w0 L (Bi .i64) A_b c_b uu f1) (r_c:Av w0 L (Bi .i64) A_c c_c uu d1) (H:Iy.f K a1 c1 e1 f1 d1=some (r1,r2,r3,r4,r5)) :
    Calls prog 58 #[.agg [I a1,I c1,sV A_a e1 c_a,sV A_b f1 c_b,sV A_c d1 c_c].toArray] w (Iy.post w0 L r1 r2 r3 r4 r5):=by
  unfold Iy.f at H
  refine cG func58 Z ?_
  refine sQ (rG (bA HS Z fun b1 wd2 HS=>GO.alloc HS Z rY Z Z fun b3 wd4 HS=>nL (sQ (rG (GO.alloc HS Z rY Z Z fun b5 wd6 HS=>nL (sQ (rG (fL b1 0 wF Z (lB 2 HS Z na2 Z (fL b5 0 Nz Z (GO.H9 (j:=0) (vs:=[I a1]) ([I a1,I 0,.slice none 0 0,.slice none 0 0,.slice none 0 0]) HS Z Z Z Z Z (htN na2 Z) Z Z Z fun wd7 HS=>?_)))))))))))
  refine nL (sQ (rG (fL b1 1 wI Z (lB 2 HS Z na2 Z (fL b5 1 N7 Z (GO.H9 (j:=0) (vs:=[I c1]) ([I a1,I c1,.slice none 0 0,.slice none 0 0,.slice none 0 0]) HS Z Z Z Z Z (htN na2 Z) Z Z Z fun wd8 HS=>nL (sQ ?_)))))))
  obtain ⟨t9,h10,H⟩:=bI H
  refine rG (fL b1 2 nH Z (lB 2 HS Z AaV Z (fJ vV Z (Gx.calls HS (rD 3 r_a) h10) (fun _ wd13 ⟨A11,c12,h14,HS⟩=>⟨_,h14,(fL b5 2 Jp Z (GO.H9 (j:=1) (vs:=[sV A11 t9 c12]) ([I a1,I c1,sV A11 t9 c12,.slice none 0 0,.slice none 0 0]) HS Z Z Z Z Z (htN Om Z) Z Z Z fun wd15 HS=>nL (sQ ?_)))⟩))))
  obtain ⟨t16,h17,H⟩:=bI H
  refine rG (fL b1 3 kH Z (lB 3 HS Z Jb Z (fJ eF Z (En.calls HS (rD 4 r_b) h17) (fun _ wd20 ⟨A18,c19,h21,HS⟩=>⟨_,h21,(fL b5 3 Kb Z (GO.H9 (j:=2) (vs:=[sV A18 t16 c19]) ([I a1,I c1,sV A11 t9 c12,sV A18 t16 c19,.slice none 0 0]) HS Z Z Z Z Z (htN Jb Z) Z Z Z fun wd22 HS=>nL (sQ ?_)))⟩))))
  obtain ⟨t23,h24,H⟩:=bI H
  refine rG (fL b1 4 mZ Z (lB 4 HS Z Jb Z (fJ eF Z (En.calls HS (rD 5 r_c) h24) (fun _ wd27 ⟨A25,c26,h28,HS⟩=>⟨_,h28,(fL b5 4 M6 Z (GO.H9 (j:=3) (vs:=[sV A25 t23 c26]) ([I a1,I c1,sV A11 t9 c12,sV A18 t16 c19,sV A25 t23 c26]) HS Z Z Z Z Z (htN Jb Z) Z Z Z fun wd29 HS=>nL (sQ (rG (lW 3 HS Z Rw (sW 4 HS Z Rw Z fun wd30 HS=>nL ?_))))))⟩))))
  obtain ⟨rfl,rfl,rfl,rfl,rfl⟩:=tQ H
  exact rT _ func58 Z (Iq.Ji (j:=4) (vs:=[I a1,I c1,sV A11 t9 c12,sV A18 t16 c19,sV A25 t23 c26]) HS Z Z Z Rw) ⟨_,_,_,_,_,_,Z,(HS.pk 6 [2,1,0] Z)⟩
theorem Ky.calls {a1:ByteArray} {c1:Int} {g1:List (List Br)} {i1:List Ah} {o1 k1:Int} {d1:List Int} {n1 m1:Int} {f1:List Cc} {h1 e1:List Int} {y_a:Nat→(Ty.slice 211 Az).Lay} {r1:ByteArray} {r2:Int} {r3:List (List Br)} {r4:List Ah} {r5 r6:Int} {r7:List Int} {r8 r9:Int} {r10:List Cc} {r11 r12:List Int} (HS:St w0 w (L)) (r_a:Av w0 L (Ty.slice 211 Az) A_a c_a y_a g1) (r_b:Av w0 L Au A_b c_b uu i1) (r_c:Av w0 L (Bi .i64) A_c c_c uu d1) (r_d:Av w0 L Ci A_d c_d uu f1) (r_e:Av w0 L (Bi .i64) A_e c_e uu h1) (r_f:Av w0 L (Bi .i64) A_f c_f uu e1) (H:Ky.f K a1 c1 g1 i1 o1 k1 d1 n1 m1 f1 h1 e1=some (r1,r2,r3,r4,r5,r6,r7,r8,r9,r10,r11,r12)) :
    Calls prog 26 #[.agg [.string a1,I c1,sV A_a g1 c_a,sV A_b i1 c_b,I o1,I k1,sV A_c d1 c_c,I n1,I m1,sV A_d f1 c_d,sV A_e h1 c_e,sV A_f e1 c_f].toArray] w (Ky.post w0 L r1 r2 r3 r4 r5 r6 r7 r8 r9 r10 r11 r12):=by
  unfold Ky.f at H
  refine cG func26 Z ?_
  refine sQ (rG (bA HS Z fun b1 wd2 HS=>GO.alloc HS Z fI Z Z fun b3 wd4 HS=>nL (sQ (rG (GO.alloc HS Z fI Z Z fun b5 wd6 HS=>nL (sQ (rG (fL b1 0 nZ Z (lB 2 HS Z na9 Z (fL b5 0 Jz Z (GO.H9 (j:=0) (vs:=[.string a1]) ([.string a1,I 0,.slice none 0 0,.slice none 0 0,I 0,I 0,.slice none 0 0,I 0,I 0,.slice none 0 0,.slice none 0 0,.slice none 0 0]) HS Z Z Z Z Z (htN na9 Z) Z Z Z fun wd7 HS=>?_)))))))))))
  refine nL (sQ (rG (fL b1 1 xA Z (lB 2 HS Z na2 Z (fL b5 1 Lf Z (GO.H9 (j:=0) (vs:=[I c1]) ([.string a1,I c1,.slice none 0 0,.slice none 0 0,I 0,I 0,.slice none 0 0,I 0,I 0,.slice none 0 0,.slice none 0 0,.slice none 0 0]) HS Z Z Z Z Z (htN na2 Z) Z Z Z fun wd8 HS=>nL (sQ ?_)))))))
  obtain ⟨t9,h10,H⟩:=bI H
  refine rG (fL b1 2 nR Z (GO.Du (j:=2) ([sV A_a g1 c_a]) HS Z Z Z Z Aar Z (fJ Aa5 Z (Iw.calls HS (rD 3 r_a) h10) (fun _ wd14 ⟨A11,c12,y13,h15,HS⟩=>⟨_,h15,(fL b5 2 M9 Z (GO.H9 (j:=1) (vs:=[sV A11 t9 c12]) ([.string a1,I c1,sV A11 t9 c12,.slice none 0 0,I 0,I 0,.slice none 0 0,I 0,I 0,.slice none 0 0,.slice none 0 0,.slice none 0 0]) HS Z Z Z Z Z (htA O0) Z Z Z fun wd16 HS=>nL (sQ ?_)))⟩))))
  obtain ⟨t17,t18,h19,H⟩:=Dt H
  refine rG (fL b1 3 pE Z (GO.Du (j:=3) ([sV A_b i1 c_b,I o1]) HS Z Z Z Z AaS Z (fJ Aam Z (Lg.calls HS (rD 4 r_b) h19) (fun _ wd22 ⟨A20,c21,h23,HS⟩=>⟨_,h23,(fL b5 3 Mm Z (GO.H9 (j:=2) (vs:=[sV A20 t17 c21,I t18]) ([.string a1,I c1,sV A11 t9 c12,sV A20 t17 c21,I t18,I 0,.slice none 0 0,I 0,I 0,.slice none 0 0,.slice none 0 0,.slice none 0 0]) HS Z Z Z Z Z (htA Oe) Z Z Z fun wd24 HS=>nL (sQ ?_)))⟩))))
  obtain ⟨t25,t26,h27,H⟩:=Dt H
  refine rG (fL b1 5 kI Z (GO.Du (j:=4) ([I k1,sV A_c d1 c_c]) HS Z Z Z Z Aau Z (fJ Aaq Z (Mw.calls HS (rD 5 r_c) h27) (fun _ wd30 ⟨A28,c29,h31,HS⟩=>⟨_,h31,(fL b5 5 M7 Z (GO.H9 (j:=3) (vs:=[I t25,sV A28 t26 c29]) ([.string a1,I c1,sV A11 t9 c12,sV A20 t17 c21,I t18,I t25,sV A28 t26 c29,I 0,I 0,.slice none 0 0,.slice none 0 0,.slice none 0 0]) HS Z Z Z Z Z (htA R9) Z Z Z fun wd32 HS=>nL (sQ ?_)))⟩))))
  obtain ⟨t33,t34,t35,t36,t37,h38,H⟩:=Ye H
  refine rG (fL b1 7 mH Z (GO.Du (j:=5) ([I n1,I m1,sV A_d f1 c_d,sV A_e h1 c_e,sV A_f e1 c_f]) HS Z Z Z Z zM Z (fJ AaJ Z (Iy.calls HS (rD 6 r_d) (rD 6 r_e) (rD 6 r_f) h38) (fun _ wd45 ⟨A39,c40,A41,c42,A43,c44,h46,HS⟩=>⟨_,h46,(fL b5 7 Mc Z (GO.H9 (j:=6) (vs:=[I t33,I t34,sV A39 t35 c40,sV A41 t36 c42,sV A43 t37 c44]) ([.string a1,I c1,sV A11 t9 c12,sV A20 t17 c21,I t18,I t25,sV A28 t26 c29,I t33,I t34,sV A39 t35 c40,sV A41 t36 c42,sV A43 t37 c44]) HS Z Z Z Z Z (htA Rw) Z Z Z fun wd47 HS=>nL (sQ (rG (lW 6 HS Z Mf (sW 7 HS Z Mf Z fun wd48 HS=>nL ?_))))))⟩))))
  obtain ⟨rfl,rfl,rfl,rfl,rfl,rfl,rfl,rfl,rfl,rfl,rfl,rfl⟩:=fQ H
  exact rT _ func26 Z (Iq.Ji (j:=7) (vs:=[.string a1,I c1,sV A11 t9 c12,sV A20 t17 c21,I t18,I t25,sV A28 t26 c29,I t33,I t34,sV A39 t35 c40,sV A41 t36 c42,sV A43 t37 c44]) HS Z Z Z Mf) ⟨_,_,_,_,_,_,_,_,_,_,_,_,_,Z,(HS.pk 9 [5,4,3,0,1,2] Z)⟩
theorem F4.calls {a_:List Af} {y_a:Nat→Fu.Lay} {r1:List Af} (HS:St w0 w (L)) (r_a:Av w0 L Fu A_a c_a y_a a_) (H:F4.f K a_=some r1) :
    Calls prog 24 #[sV A_a a_ c_a] w (F4.post w0 L r1):=by
  unfold F4.f at H
  refine cG func24 Z ?_
  refine rN 3 Z ?_
  obtain ⟨c1,H⟩:=iN H
  obtain ⟨c2,H⟩:=iN H
  refine rG (mV Z (lS Z Z U22 Z (GO.AaA (T:=Aa) Bj Bh HS bY Z Z Z U44 T9 Z Z Z c1 c2 Z fun b3 wd4 HS=>aS Z (nL (rN 5 Z ?_)))))
  refine G.name (fun h1 f1=>?_)
  have g1:∀ d1,d1≤K→∀ (b1:List Af) (y41:Nat→Aa.Lay) (a1:Int) (w:World),F4.l1 K d1 a_ b1 a1=some r1→St w0 w (Own Aa 62 (sb b3) ((a_.length:Int).toNat) y41 b1::L)→G prog 24 23 [(0,sV A_a a_ c_a),(3,sV (sb b3) b1 ((a_.length:Int).toNat)),(4,I a1)] h1 w (F4.post w0 L r1):=by
   refine lp (fun _ _ _ w H _=>by rw [F4.l1] at H; cases H) fun e1 k1 i1 b1 y41 a1 w H HS=>?_
   rw [F4.l1] at H
   subst f1
   refine rN 2 Z (rG (pS 2 Z (lS Z Z U22 Z (GO.lss Z Z Z Z (nL ?_)))))
   rcases iS H with ⟨c78,H⟩ | ⟨c78,H⟩
   ·
    refine nB Z (tF c78) (rN 3 Z ?_)
    obtain rfl:=sI H
    exact rT _ func24 Z Z ⟨_,_,_,Z,HS⟩
   refine yB Z (tT c78) (rN 3 Z ?_)
   obtain ⟨c79,H⟩:=iN H
   obtain ⟨e80,h81,H⟩:=Cr H
   obtain ⟨t82,t83,t84,t85,t86,t87,t88,t89,t90,t91,t92,t93,h94,H⟩:=M3 H
   obtain ⟨c110,H⟩:=iN H
   refine rG (pS 4 Z (iX Z U22 zP (rk (rD 1 r_a) HS) c79 (GO.J4 (T:=Fu) (n:=a1.toNat) HS (rD 1 r_a) Z Z (Ba (ltN c79) h81) qU Z (fJ tO Z (Ky.calls HS (Av.fld (rD 1 r_a) (Ba (ltN c79) h81) (fun _ h=>h.2.2.1)) (Av.fld (rD 1 r_a) (Ba (ltN c79) h81) (fun _ h=>h.2.2.2.1)) (Av.fld (rD 1 r_a) (Ba (ltN c79) h81) (fun _ h=>h.2.2.2.2.2.2.1)) (Av.fld (rD 1 r_a) (Ba (ltN c79) h81) (fun _ h=>h.2.2.2.2.2.2.2.2.2.1)) (Av.fld (rD 1 r_a) (Ba (ltN c79) h81) (fun _ h=>h.2.2.2.2.2.2.2.2.2.2.1)) (Av.fld (rD 1 r_a) (Ba (ltN c79) h81) (fun _ h=>h.2.2.2.2.2.2.2.2.2.2.2)) h94) (fun _ wd108 ⟨A95,c96,y97,A98,c99,A100,c101,A102,c103,A104,c105,A106,c107,h109,HS⟩=>⟨_,h109,(iX Z U44 J7 (fun _=>⟨_,_,Z⟩) c110 ?_)⟩)))))
   replace HS:=HS.pk 7 [5,4,3,2,1,0,6] Z
   replace HS:=Np (Name:=t82) (Kind:=t83) (Al:=t86) (Ao:=t87) (Am:=t89) (Aj:=t90) HS
   replace HS:=HS.pk 2 [1,0] Z
   refine GO.stE (T:=Aa) (n:=a1.toNat) ((),(),⟨A95,c96,y97⟩,⟨A98,c99,uu⟩,(),(),⟨A100,c101,uu⟩,(),(),⟨A102,c103,uu⟩,⟨A104,c105,uu⟩,⟨A106,c107,uu⟩) (⟨t82,t83,t84,t85,t86,t87,t88,t89,t90,t91,t92,t93⟩:Af) HS Z Z Z Z (htA Mf) Z (ltN c110) fun y112 wd111 HS=>nL (G.len (t:=3) (m:=(b1.set a1.toNat (⟨t82,t83,t84,t85,t86,t87,t88,t89,t90,t91,t92,t93⟩:Af)).length) Z (by simp only [List.length_set] <;> rfl) (rN 3 Z (gW (i1 e1 (lR _) _ _ _ _ H HS) Z)))
  exact gW (g1 K (lR _) _ _ _ _ H HS) Z
theorem Fq.calls {a_:List (List Af)} {y_a:Nat→(Ty.slice 39 Fu).Lay} {r1:List (List Af)} (HS:St w0 w (L)) (r_a:Av w0 L (Ty.slice 39 Fu) A_a c_a y_a a_) (H:Fq.f K a_=some r1) :
    Calls prog 25 #[sV A_a a_ c_a] w (Fq.post w0 L r1):=by
  unfold Fq.f at H
  refine cG func25 Z ?_
  refine rN 3 Z ?_
  obtain ⟨c1,H⟩:=iN H
  obtain ⟨c2,H⟩:=iN H
  refine rG (mV Z (lS Z Z U23 Z (GO.uY (S:=Aa) (u:=62) (fun _=>Bh) HS Z Z Z U45 dS Z c1 c2 Z fun b3 wd4 HS=>aS Z (nL (rN 5 Z ?_)))))
  refine G.name (fun h1 f1=>?_)
  have g1:∀ d1,d1≤K→∀ (b1:List (List Af)) (y18:Nat→(Ty.slice 62 Aa).Lay) (a1:Int) (w:World),Fq.l1 K d1 a_ b1 a1=some r1→St w0 w (Own (Ty.slice 62 Aa) 44 (sb b3) ((a_.length:Int).toNat) y18 b1::L)→G prog 25 23 [(0,sV A_a a_ c_a),(3,sV (sb b3) b1 ((a_.length:Int).toNat)),(4,I a1)] h1 w (Fq.post w0 L r1):=by
   refine lp (fun _ _ _ w H _=>by rw [Fq.l1] at H; cases H) fun e1 k1 i1 b1 y18 a1 w H HS=>?_
   rw [Fq.l1] at H
   subst f1
   refine rN 2 Z (rG (pS 2 Z (lS Z Z U23 Z (GO.lss Z Z Z Z (nL ?_)))))
   rcases iS H with ⟨c32,H⟩ | ⟨c32,H⟩
   ·
    refine nB Z (tF c32) (rN 3 Z ?_)
    obtain rfl:=sI H
    exact rT _ func25 Z Z ⟨_,_,_,Z,HS⟩
   refine yB Z (tT c32) (rN 3 Z ?_)
   obtain ⟨c33,H⟩:=iN H
   obtain ⟨t34,h35,H⟩:=bI H
   obtain ⟨c41,H⟩:=iN H
   refine rG (pS 4 Z (iX Z U23 zW (rk (rD 1 r_a) HS) c33 (GO.Gb (T:=(Ty.slice 39 Fu)) (n:=a1.toNat) (o:=0) HS (rD 1 r_a) Z Z (getD_some (d:=[]) (ltN c33)) Z Z pR Z (fJ tJ Z (F4.calls HS (Av.elem (rD 1 r_a) c33.1 c33.2) h35) (fun _ wd39 ⟨A36,c37,y38,h40,HS⟩=>⟨_,h40,(iX Z U45 Sm (fun _=>⟨_,_,Z⟩) c41 ?_)⟩)))))
   replace HS:=HS.pk 2 [1,0] Z
   refine GO.mO (S:=Aa) (u:=62) HS Z Z Z Mr (ltN c41) fun y43 wd42 HS=>nL (G.len (t:=3) (m:=(b1.set a1.toNat t34).length) Z (by simp only [List.length_set] <;> rfl) (rN 3 Z (gW (i1 e1 (lR _) _ _ _ _ H HS) Z)))
  exact gW (g1 K (lR _) _ _ _ _ H HS) Z
theorem Jc.calls {a1:List Af} {d1 c1:List (List Af)} {y_a:Nat→Fu.Lay} {y_b:Nat→(Ty.slice 39 Fu).Lay} {y_c:Nat→(Ty.slice 39 Fu).Lay} {r1:List Af} {r2 r3:List (List Af)} (HS:St w0 w (L)) (r_a:Av w0 L Fu A_a c_a y_a a1) (r_b:Av w0 L (Ty.slice 39 Fu) A_b c_b y_b d1) (r_c:Av w0 L (Ty.slice 39 Fu) A_c c_c y_c c1) (H:Jc.f K a1 d1 c1=some (r1,r2,r3)) :
    Calls prog 7 #[.agg [sV A_a a1 c_a,sV A_b d1 c_b,sV A_c c1 c_c].toArray] w (Jc.post w0 L r1 r2 r3):=by
  unfold Jc.f at H
  refine cG func7 Z ?_
  refine sQ (rG (bA HS Z fun b1 wd2 HS=>GO.alloc HS Z Rs Z Z fun b3 wd4 HS=>nL (sQ (rG (GO.alloc HS Z Rs Z Z fun b5 wd6 HS=>nL (sQ ?_))))))
  obtain ⟨t7,h8,H⟩:=bI H
  refine rG (fL b1 0 kG Z (lB 2 HS Z pR Z (fJ tJ Z (F4.calls HS (rD 3 r_a) h8) (fun _ wd12 ⟨A9,c10,y11,h13,HS⟩=>⟨_,h13,(fL b5 0 Ju Z (GO.H9 (j:=1) (vs:=[sV A9 t7 c10]) ([sV A9 t7 c10,.slice none 0 0,.slice none 0 0]) HS Z Z Z Z Z (htN Mr Z) Z Z Z fun wd14 HS=>nL (sQ ?_)))⟩))))
  obtain ⟨t15,h16,H⟩:=bI H
  refine rG (fL b1 1 mX Z (lB 3 HS Z pW Z (fJ uR Z (Fq.calls HS (rD 4 r_b) h16) (fun _ wd20 ⟨A17,c18,y19,h21,HS⟩=>⟨_,h21,(fL b5 1 Mq Z (GO.H9 (j:=2) (vs:=[sV A17 t15 c18]) ([sV A9 t7 c10,sV A17 t15 c18,.slice none 0 0]) HS Z Z Z Z Z (htN Nr Z) Z Z Z fun wd22 HS=>nL (sQ ?_)))⟩))))
  obtain ⟨t23,h24,H⟩:=bI H
  refine rG (fL b1 2 lN Z (lB 4 HS Z pW Z (fJ uR Z (Fq.calls HS (rD 5 r_c) h24) (fun _ wd28 ⟨A25,c26,y27,h29,HS⟩=>⟨_,h29,(fL b5 2 O6 Z (GO.H9 (j:=3) (vs:=[sV A25 t23 c26]) ([sV A9 t7 c10,sV A17 t15 c18,sV A25 t23 c26]) HS Z Z Z Z Z (htN Nr Z) Z Z Z fun wd30 HS=>nL (sQ (rG (lW 3 HS Z Eu (sW 4 HS Z Eu Z fun wd31 HS=>nL ?_))))))⟩))))
  obtain ⟨rfl,rfl,rfl⟩:=Rb H
  exact rT _ func7 Z (Iq.Ji (j:=4) (vs:=[sV A9 t7 c10,sV A17 t15 c18,sV A25 t23 c26]) HS Z Z Z Eu) ⟨_,_,_,_,_,_,_,_,_,Z,(HS.pk 6 [2,1,0] Z)⟩
theorem H7.calls {a1:Int} {c1 o1:ByteArray} {m1:Int} {e1:List (List Br)} {i1:List Ah} {q1 p1:Int} {h1:List Int} {n1 k1:Int} {d1:List Cc} {f1 g1:List Int} {y_a:Nat→(Ty.slice 211 Az).Lay} {r1:Int} {r2 r3:ByteArray} {r4:Int} {r5:List (List Br)} {r6:List Ah} {r7 r8:Int} {r9:List Int} {r10 r11:Int} {r12:List Cc} {r13 r14:List Int} (HS:St w0 w (L)) (r_a:Av w0 L (Ty.slice 211 Az) A_a c_a y_a e1) (r_b:Av w0 L Au A_b c_b uu i1) (r_c:Av w0 L (Bi .i64) A_c c_c uu h1) (r_d:Av w0 L Ci A_d c_d uu d1) (r_e:Av w0 L (Bi .i64) A_e c_e uu f1) (r_f:Av w0 L (Bi .i64) A_f c_f uu g1) (H:H7.f K a1 c1 o1 m1 e1 i1 q1 p1 h1 n1 k1 d1 f1 g1=some (r1,r2,r3,r4,r5,r6,r7,r8,r9,r10,r11,r12,r13,r14)) :
    Calls prog 8 #[.agg [I a1,.string c1,.string o1,I m1,sV A_a e1 c_a,sV A_b i1 c_b,I q1,I p1,sV A_c h1 c_c,I n1,I k1,sV A_d d1 c_d,sV A_e f1 c_e,sV A_f g1 c_f].toArray] w (H7.post w0 L r1 r2 r3 r4 r5 r6 r7 r8 r9 r10 r11 r12 r13 r14):=by
  unfold H7.f at H
  refine cG func8 Z ?_
  refine sQ (rG (bA HS Z fun b1 wd2 HS=>GO.alloc HS Z vD Z Z fun b3 wd4 HS=>nL (sQ (rG (GO.alloc HS Z vD Z Z fun b5 wd6 HS=>nL (sQ (rG (fL b1 0 wR Z (lB 2 HS Z na2 Z (fL b5 0 Uj Z (GO.H9 (j:=0) (vs:=[I a1]) ([I a1,.string ByteArray.empty,.string ByteArray.empty,I 0,.slice none 0 0,.slice none 0 0,I 0,I 0,.slice none 0 0,I 0,I 0,.slice none 0 0,.slice none 0 0,.slice none 0 0]) HS Z Z Z Z Z (htN na2 Z) Z Z Z fun wd7 HS=>?_)))))))))))
  refine nL (sQ (rG (fL b1 1 kJ Z (lB 2 HS Z na9 Z (fL b5 1 Ow Z (GO.H9 (j:=0) (vs:=[.string c1]) ([I a1,.string c1,.string ByteArray.empty,I 0,.slice none 0 0,.slice none 0 0,I 0,I 0,.slice none 0 0,I 0,I 0,.slice none 0 0,.slice none 0 0,.slice none 0 0]) HS Z Z Z Z Z (htN na9 Z) Z Z Z fun wd8 HS=>nL (sQ ?_)))))))
  obtain ⟨t9,t10,t11,t12,t13,t14,t15,t16,t17,t18,t19,t20,h21,H⟩:=M3 H
  refine rG (fL b1 2 mD Z (GO.Du (j:=2) ([.string o1,I m1,sV A_a e1 c_a,sV A_b i1 c_b,I q1,I p1,sV A_c h1 c_c,I n1,I k1,sV A_d d1 c_d,sV A_e f1 c_e,sV A_f g1 c_f]) HS Z Z Z Z qU Z (fJ tO Z (Ky.calls HS (rD 3 r_a) (rD 3 r_b) (rD 3 r_c) (rD 3 r_d) (rD 3 r_e) (rD 3 r_f) h21) (fun _ wd35 ⟨A22,c23,y24,A25,c26,A27,c28,A29,c30,A31,c32,A33,c34,h36,HS⟩=>⟨_,h36,(fL b5 2 Pv Z (GO.H9 (j:=6) (vs:=[.string t9,I t10,sV A22 t11 c23,sV A25 t12 c26,I t13,I t14,sV A27 t15 c28,I t16,I t17,sV A29 t18 c30,sV A31 t19 c32,sV A33 t20 c34]) ([I a1,.string c1,.string t9,I t10,sV A22 t11 c23,sV A25 t12 c26,I t13,I t14,sV A27 t15 c28,I t16,I t17,sV A29 t18 c30,sV A31 t19 c32,sV A33 t20 c34]) HS Z Z Z Z Z (htA Mf) Z Z Z fun wd37 HS=>nL (sQ (rG (lW 6 HS Z bN (sW 7 HS Z bN Z fun wd38 HS=>nL ?_))))))⟩))))
  obtain ⟨rfl,rfl,rfl,rfl,rfl,rfl,rfl,rfl,rfl,rfl,rfl,rfl,rfl,rfl⟩:=xI H
  exact rT _ func8 Z (Iq.Ji (j:=7) (vs:=[I a1,.string c1,.string t9,I t10,sV A22 t11 c23,sV A25 t12 c26,I t13,I t14,sV A27 t15 c28,I t16,I t17,sV A29 t18 c30,sV A31 t19 c32,sV A33 t20 c34]) HS Z Z Z bN) ⟨_,_,_,_,_,_,_,_,_,_,_,_,_,Z,(HS.pk 9 [0,1,2,3,4,5] Z)⟩
theorem Fw.calls {s:ByteArray} {r1:Bool} (HS:St w0 w (L)) (H:Fw.f K s=some r1) :
    Calls prog 48 #[.string s] w (Fw.post w0 L r1):=by
  unfold Fw.f at H
  refine cG func48 Z ?_
  refine rN 7 Z ?_
  refine G.name (fun e1 c1=>?_)
  have d1:∀ a1,a1≤K→∀ (i_6:Int) (w:World),Fw.l1 K a1 s i_6=some r1→St w0 w (L)→G prog 48 28 [(0,.string s),(3,I i_6)] e1 w (Fw.post w0 L r1):=by
   refine lp (fun _ w H _=>by rw [Fw.l1] at H; cases H) fun b1 g1 f1 i_6 w H HS=>?_
   rw [Fw.l1] at H
   subst c1
   refine rN 2 Z (rG (pS 2 Z (GO.Qz Z Z U9 Z (GO.lss Z Z Z Z (nL ?_)))))
   rcases iS H with ⟨c12,H⟩ | ⟨c12,H⟩
   ·
    refine nB Z (tF c12) (rN 2 Z ?_)
    rcases iS H with ⟨c16,H⟩ | ⟨c16,H⟩
    ·
     refine rG (mV Z (GO.Qz Z Z U9 Z (pS 2 Z (kN 23 Z (tF c16) (oF Z (oF Z (oF Z (pS 2 Z (nL ?_)))))))))
     obtain rfl:=sI H
     exact rT _ func48 Z Z ⟨Z,HS⟩
    refine rG (mV Z (GO.Qz Z Z U9 Z (pS 2 Z (kN 23 Z (tT c16) (oN Z (mV Z (bK (oN Z (GO.Qz Z Z U9 Z (bK (oN Z (GO.leq Z Z Z Z (bK (pS 2 Z ?_))))))))))))))
    refine nL ?_
    obtain rfl:=sI H
    exact rT _ func48 Z Z ⟨Z,HS⟩
   refine yB Z (tT c12) (rN 4 Z ?_)
   obtain ⟨c13,H⟩:=iN H
   rcases iE H with ⟨c14,H⟩ | ⟨c14,H⟩
   ·
    refine rG (pS 2 Z (GO.ixS Z Z Z U9 c13.1 c13.2 Z (pS 2 Z (kN 14 Z (tT c14) (oF Z (oF Z (oF Z (oF Z (GO.Ii Z Z Z Z Z (nL (rN 3 Z ?_)))))))))))
    obtain rfl:=sI H
    exact rT _ func48 Z Z ⟨Z,HS⟩
   refine rG (pS 2 Z (GO.ixS Z Z Z U9 c13.1 c13.2 Z (pS 2 Z (kN 14 Z (tF c14) (oN Z (mV Z (bK (oN Z (mV Z (bK (oN Z (GO.ixS Z Z Z U9 c13.1 c13.2 Z (bK (oN Z ?_))))))))))))))
   refine GO.gtr Z Z Z Z (bK (GO.Ki Z Z Z Z Z (nL ?_)))
   rcases iE H with ⟨c15,H⟩ | ⟨c15,H⟩
   ·
    refine yB Z (tT c15) (rN 2 Z ?_)
    obtain rfl:=sI H
    exact rT _ func48 Z Z ⟨Z,HS⟩
   refine nB Z (tF c15) (rN 4 Z (gW (f1 b1 (lR _) _ _ H HS) Z))
  exact gW (d1 K (lR _) _ _ H HS) Z
theorem Ef.calls {n_ low high:Int} {r1:Bool} (HS:St w0 w (L)) (H:Ef.f n_ low high=some r1) :
    Calls prog 94 #[I n_,I low,I high] w (Ef.post w0 L r1):=by
  unfold Ef.f at H
  refine cG func94 Z ?_
  refine rN 3 Z ?_
  rcases iS H with ⟨c1,H⟩ | ⟨c1,H⟩
  ·
   refine rG (pS 4 Z (kN 10 Z (tF c1) (oF Z (oF Z (oF Z (pS 2 Z (nL ?_)))))))
   obtain rfl:=sI H
   exact rT _ func94 Z Z ⟨Z,HS⟩
  refine rG (pS 4 Z (kN 10 Z (tT c1) (oN Z (mV Z (bK (oN Z (mV Z (bK (oN Z (GO.leq Z Z Z Z (bK (pS 2 Z (nL ?_)))))))))))))
  obtain rfl:=sI H
  exact rT _ func94 Z Z ⟨Z,HS⟩
theorem H5.calls {a1:List (List Br)} {y_a:Nat→(Ty.slice 168 Az).Lay} {r1:Bool} (HS:St w0 w (L)) (r_a:Av w0 L (Ty.slice 168 Az) A_a c_a y_a a1) (H:H5.f a1=some r1) :
    Calls prog 100 #[.agg [sV A_a a1 c_a].toArray] w (H5.post w0 L r1):=by
  unfold H5.f at H
  refine cG func100 Z ?_
  refine sQ (rG (bA HS Z fun b1 wd2 HS=>aS Z (nL (sQ (rG (fL b1 0 J2 Z (lB 0 HS Z O1 Z (lS Z Z U51 Z (pS 2 Z (nL ?_))))))))))
  obtain rfl:=sI H
  exact rT _ func100 Z Z ⟨Z,(HS.pk 1 [] Z)⟩
theorem F7.calls {a1:List Ah} {c1:Int} {r1:Bool} (HS:St w0 w (L)) (r_a:Av w0 L Au A_a c_a uu a1) (H:F7.f a1 c1=some r1) :
    Calls prog 101 #[.agg [sV A_a a1 c_a,I c1].toArray] w (F7.post w0 L r1):=by
  unfold F7.f at H
  refine cG func101 Z ?_
  refine sQ (rG (bA HS Z fun b1 wd2 HS=>aS Z (nL (sQ ?_))))
  rcases iS H with ⟨c3,H⟩ | ⟨c3,H⟩
  ·
   refine rG (fL b1 0 Jr Z (lB 0 HS Z Ol Z (lS Z Z U54 Z (pS 2 Z (kN 7 Z (tF c3) (oF Z (oF Z (oF Z (pS 2 Z (nL ?_))))))))))
   obtain rfl:=sI H
   exact rT _ func101 Z Z ⟨Z,(HS.pk 1 [] Z)⟩
  refine rG (fL b1 0 Jr Z (lB 0 HS Z Ol Z (lS Z Z U54 Z (pS 2 Z (kN 7 Z (tT c3) (oN Z (fL b1 1 Qi Z (bK (oN Z (lB 0 HS Z na2 Z (bK (oN Z (GO.eql Z Z Z Z (bK ?_))))))))))))))
  refine pS 2 Z (nL ?_)
  obtain rfl:=sI H
  exact rT _ func101 Z Z ⟨Z,(HS.pk 1 [] Z)⟩
theorem Ho.calls {c1:Int} {a1:List Int} {r1:Bool} (HS:St w0 w (L)) (r_a:Av w0 L (Bi .i64) A_a c_a uu a1) (H:Ho.f c1 a1=some r1) :
    Calls prog 102 #[.agg [I c1,sV A_a a1 c_a].toArray] w (Ho.post w0 L r1):=by
  unfold Ho.f at H
  refine cG func102 Z ?_
  refine sQ (rG (bA HS Z fun b1 wd2 HS=>aS Z (nL (sQ ?_))))
  rcases iS H with ⟨c3,H⟩ | ⟨c3,H⟩
  ·
   refine rG (fL b1 0 Ou Z (lB 0 HS Z na2 Z (pS 2 Z (kN 6 Z (tF c3) (oF Z (oF Z (oF Z (oF Z (pS 2 Z (nL ?_))))))))))
   obtain rfl:=sI H
   exact rT _ func102 Z Z ⟨Z,(HS.pk 1 [] Z)⟩
  refine rG (fL b1 0 Ou Z (lB 0 HS Z na2 Z (pS 2 Z (kN 6 Z (tT c3) (oN Z (fL b1 1 Oi Z (bK (oN Z (lB 0 HS Z Jb Z (bK (oN Z (lS Z Z U32 Z (bK (oN Z ?_))))))))))))))
  refine GO.eql Z Z Z Z (bK (pS 2 Z (nL ?_)))
  obtain rfl:=sI H
  exact rT _ func102 Z Z ⟨Z,(HS.pk 1 [] Z)⟩
theorem Fg.calls {e1 f1:Int} {c1:List Cc} {d1 a1:List Int} {r1:Bool} (HS:St w0 w (L)) (r_a:Av w0 L Ci A_a c_a uu c1) (r_b:Av w0 L (Bi .i64) A_b c_b uu d1) (r_c:Av w0 L (Bi .i64) A_c c_c uu a1) (H:Fg.f e1 f1 c1 d1 a1=some r1) :
    Calls prog 103 #[.agg [I e1,I f1,sV A_a c1 c_a,sV A_b d1 c_b,sV A_c a1 c_c].toArray] w (Fg.post w0 L r1):=by
  unfold Fg.f at H
  refine cG func103 Z ?_
  refine sQ (rG (bA HS Z fun b1 wd2 HS=>aS Z (nL (sQ ?_))))
  rcases iS H with ⟨c3,H⟩ | ⟨c3,H⟩
  ·
   refine rG (fL b1 0 Nz Z (lB 0 HS Z na2 Z (pS 2 Z (kN 6 Z (tF c3) (oF Z (oF Z (oF Z (pS 2 Z (oF Z (oF Z (oF Z (oF Z (pS 2 Z (oF Z ?_))))))))))))))
   refine oF Z (oF Z (oF Z (pS 2 Z (oF Z (oF Z (oF Z (oF Z (pS 2 Z (nL ?_)))))))))
   obtain rfl:=sI H
   exact rT _ func103 Z Z ⟨Z,(HS.pk 1 [] Z)⟩
  rcases iS H with ⟨c4,H⟩ | ⟨c4,H⟩
  ·
   refine rG (fL b1 0 Nz Z (lB 0 HS Z na2 Z (pS 2 Z (kN 6 Z (tT c3) (oN Z (fL b1 1 N7 Z (bK (oN Z (lB 0 HS Z na2 Z (bK (oN Z (GO.eql Z Z Z Z (bK (pS 2 Z ?_))))))))))))))
   refine kN 11 Z (tF c4) (oF Z (oF Z (oF Z (oF Z (pS 2 Z (oF Z (oF Z (oF Z (oF Z (pS 2 Z (oF Z (oF Z (oF Z (oF Z ?_))))))))))))))
   refine pS 2 Z (nL ?_)
   obtain rfl:=sI H
   exact rT _ func103 Z Z ⟨Z,(HS.pk 1 [] Z)⟩
  rcases iS H with ⟨c5,H⟩ | ⟨c5,H⟩
  ·
   refine rG (fL b1 0 Nz Z (lB 0 HS Z na2 Z (pS 2 Z (kN 6 Z (tT c3) (oN Z (fL b1 1 N7 Z (bK (oN Z (lB 0 HS Z na2 Z (bK (oN Z (GO.eql Z Z Z Z (bK (pS 2 Z ?_))))))))))))))
   refine kN 11 Z (tT c4) (oN Z (fL b1 2 Jp Z (bK (oN Z (lB 0 HS Z Om Z (bK (oN Z (lS Z Z U58 Z (bK (oN Z (GO.eql Z Z Z Z (bK (pS 2 Z (kN 17 Z (tF c5) ?_))))))))))))))
   refine oF Z (oF Z (oF Z (oF Z (pS 2 Z (oF Z (oF Z (oF Z (oF Z (pS 2 Z (nL ?_))))))))))
   obtain rfl:=sI H
   exact rT _ func103 Z Z ⟨Z,(HS.pk 1 [] Z)⟩
  rcases iS H with ⟨c6,H⟩ | ⟨c6,H⟩
  ·
   refine rG (fL b1 0 Nz Z (lB 0 HS Z na2 Z (pS 2 Z (kN 6 Z (tT c3) (oN Z (fL b1 1 N7 Z (bK (oN Z (lB 0 HS Z na2 Z (bK (oN Z (GO.eql Z Z Z Z (bK (pS 2 Z ?_))))))))))))))
   refine kN 11 Z (tT c4) (oN Z (fL b1 2 Jp Z (bK (oN Z (lB 0 HS Z Om Z (bK (oN Z (lS Z Z U58 Z (bK (oN Z (GO.eql Z Z Z Z (bK (pS 2 Z (kN 17 Z (tT c5) ?_))))))))))))))
   refine oN Z (fL b1 3 Kb Z (bK (oN Z (lB 0 HS Z Jb Z (bK (oN Z (lS Z Z U32 Z (bK (oN Z (GO.eql Z Z Z Z (bK (pS 2 Z (kN 23 Z (tF c6) (oF Z ?_))))))))))))))
   refine oF Z (oF Z (oF Z (pS 2 Z (nL ?_))))
   obtain rfl:=sI H
   exact rT _ func103 Z Z ⟨Z,(HS.pk 1 [] Z)⟩
  refine rG (fL b1 0 Nz Z (lB 0 HS Z na2 Z (pS 2 Z (kN 6 Z (tT c3) (oN Z (fL b1 1 N7 Z (bK (oN Z (lB 0 HS Z na2 Z (bK (oN Z (GO.eql Z Z Z Z (bK (pS 2 Z ?_))))))))))))))
  refine kN 11 Z (tT c4) (oN Z (fL b1 2 Jp Z (bK (oN Z (lB 0 HS Z Om Z (bK (oN Z (lS Z Z U58 Z (bK (oN Z (GO.eql Z Z Z Z (bK (pS 2 Z (kN 17 Z (tT c5) ?_))))))))))))))
  refine oN Z (fL b1 3 Kb Z (bK (oN Z (lB 0 HS Z Jb Z (bK (oN Z (lS Z Z U32 Z (bK (oN Z (GO.eql Z Z Z Z (bK (pS 2 Z (kN 23 Z (tT c6) (oN Z ?_))))))))))))))
  refine fL b1 4 M6 Z (bK (oN Z (lB 0 HS Z Jb Z (bK (oN Z (lS Z Z U32 Z (bK (oN Z (GO.eql Z Z Z Z (bK (pS 2 Z (nL ?_))))))))))))
  obtain rfl:=sI H
  exact rT _ func103 Z Z ⟨Z,(HS.pk 1 [] Z)⟩
theorem Mg.calls {n1:ByteArray} {o1:Int} {g1:List (List Br)} {a1:List Ah} {h1 i1:Int} {e1:List Int} {k1 m1:Int} {c1:List Cc} {f1 d1:List Int} {kind:Int} {y_a:Nat→(Ty.slice 168 Az).Lay} {r1:Bool} (HS:St w0 w (L)) (r_a:Av w0 L (Ty.slice 168 Az) A_a c_a y_a g1) (r_b:Av w0 L Au A_b c_b uu a1) (r_c:Av w0 L (Bi .i64) A_c c_c uu e1) (r_d:Av w0 L Ci A_d c_d uu c1) (r_e:Av w0 L (Bi .i64) A_e c_e uu f1) (r_f:Av w0 L (Bi .i64) A_f c_f uu d1) (H:Mg.f n1 o1 g1 a1 h1 i1 e1 k1 m1 c1 f1 d1 kind=some r1) :
    Calls prog 95 #[.agg [.string n1,I o1,sV A_a g1 c_a,sV A_b a1 c_b,I h1,I i1,sV A_c e1 c_c,I k1,I m1,sV A_d c1 c_d,sV A_e f1 c_e,sV A_f d1 c_f].toArray,I kind] w (Mg.post w0 L r1):=by
  unfold Mg.f at H
  refine cG func95 Z ?_
  refine sQ (rG (bA HS Z fun b1 wd2 HS=>aS Z (nL (rN 6 Z ?_))))
  rcases iE H with ⟨c3,H⟩ | ⟨c3,H⟩
  ·
   refine yB Z (tT c3) (sQ ?_)
   obtain ⟨t4,h5,H⟩:=bI H
   refine rG (fL b1 2 M9 Z (GO.Du (j:=0) ([sV A_a g1 c_a]) HS Z Z Z Z O0 Z (fJ X5 Z (H5.calls HS (rD 1 r_a) h5) (fun _ wd6 ⟨h7,HS⟩=>⟨_,h7,(aS Z (nL ?_))⟩))))
   obtain rfl:=sI H
   exact rT _ func95 Z Z ⟨Z,(HS.pk 1 [] Z)⟩
  refine nB Z (tF c3) (rN 2 Z ?_)
  rcases iE H with ⟨c8,H⟩ | ⟨c8,H⟩
  ·
   refine yB Z (tT c8) (sQ ?_)
   obtain ⟨t9,h10,H⟩:=bI H
   refine rG (fL b1 3 Mm Z (GO.Du (j:=0) ([sV A_b a1 c_b,I h1]) HS Z Z Z Z Oe Z (fJ bL Z (F7.calls HS (rD 1 r_b) h10) (fun _ wd11 ⟨h12,HS⟩=>⟨_,h12,(aS Z (nL ?_))⟩))))
   obtain rfl:=sI H
   exact rT _ func95 Z Z ⟨Z,(HS.pk 1 [] Z)⟩
  refine nB Z (tF c8) (rN 2 Z ?_)
  rcases iE H with ⟨c13,H⟩ | ⟨c13,H⟩
  ·
   refine yB Z (tT c13) (sQ ?_)
   obtain ⟨t14,h15,H⟩:=bI H
   refine rG (fL b1 5 M7 Z (GO.Du (j:=0) ([I i1,sV A_c e1 c_c]) HS Z Z Z Z R9 Z (fJ fK Z (Ho.calls HS (rD 1 r_c) h15) (fun _ wd16 ⟨h17,HS⟩=>⟨_,h17,(aS Z (nL ?_))⟩))))
   obtain rfl:=sI H
   exact rT _ func95 Z Z ⟨Z,(HS.pk 1 [] Z)⟩
  refine nB Z (tF c13) (rN 3 Z ?_)
  obtain ⟨t18,h19,H⟩:=bI H
  refine rG (fL b1 7 Mc Z (GO.Du (j:=0) ([I k1,I m1,sV A_d c1 c_d,sV A_e f1 c_e,sV A_f d1 c_f]) HS Z Z Z Z Rw Z (fJ mY Z (Fg.calls HS (rD 1 r_d) (rD 1 r_e) (rD 1 r_f) h19) (fun _ wd20 ⟨h21,HS⟩=>⟨_,h21,(aS Z (nL ?_))⟩))))
  obtain rfl:=sI H
  exact rT _ func95 Z Z ⟨Z,(HS.pk 1 [] Z)⟩
theorem Hu.calls {a1:List (List Br)} {y_a:Nat→(Ty.slice 168 Az).Lay} {r1:Int} (HS:St w0 w (L)) (r_a:Av w0 L (Ty.slice 168 Az) A_a c_a y_a a1) (H:Hu.f a1=some r1) :
    Calls prog 136 #[.agg [sV A_a a1 c_a].toArray] w (Hu.post w0 L r1):=by
  unfold Hu.f at H
  refine cG func136 Z ?_
  refine sQ (rG (bA HS Z fun b1 wd2 HS=>aS Z (nL (sQ (rG (fL b1 0 J2 Z (lB 0 HS Z O1 Z (lS Z Z U51 Z (aS Z (nL ?_))))))))))
  obtain rfl:=sI H
  exact rT _ func136 Z Z ⟨Z,(HS.pk 1 [] Z)⟩
theorem J9.calls {n_ low high:Int} {r1:Bool} (HS:St w0 w (L)) (H:J9.f n_ low high=some r1) :
    Calls prog 137 #[I n_,I low,I high] w (J9.post w0 L r1):=by
  unfold J9.f at H
  refine cG func137 Z ?_
  refine rN 3 Z ?_
  rcases iS H with ⟨c1,H⟩ | ⟨c1,H⟩
  ·
   refine rG (pS 4 Z (kN 10 Z (tF c1) (oF Z (oF Z (oF Z (pS 2 Z (nL ?_)))))))
   obtain rfl:=sI H
   exact rT _ func137 Z Z ⟨Z,HS⟩
  refine rG (pS 4 Z (kN 10 Z (tT c1) (oN Z (mV Z (bK (oN Z (mV Z (bK (oN Z (GO.leq Z Z Z Z (bK (pS 2 Z (nL ?_)))))))))))))
  obtain rfl:=sI H
  exact rT _ func137 Z Z ⟨Z,HS⟩
theorem I9.calls {p:Int} {r1:Bool} (HS:St w0 w (L)) (H:I9.f p=some r1) :
    Calls prog 138 #[I p] w (I9.post w0 L r1):=by
  unfold I9.f at H
  refine cG func138 Z ?_
  refine rN 3 Z ?_
  rcases iS H with ⟨c1,H⟩ | ⟨c1,H⟩
  ·
   refine rG (pS 3 Z (kN 5 Z (tF c1) (oF Z (oF Z (pS 2 Z (nL ?_))))))
   obtain rfl:=sI H
   exact rT _ func138 Z Z ⟨Z,HS⟩
  refine rG (pS 3 Z (kN 5 Z (tT c1) (oN Z (mV Z (bK (oN Z (GO.lss Z Z Z Z (bK (pS 2 Z (nL ?_))))))))))
  obtain rfl:=sI H
  exact rT _ func138 Z Z ⟨Z,HS⟩
theorem Gl.calls {p:Int} {r1:List Int} (HS:St w0 w (L)) (H:Gl.f K p=some r1) :
    Calls prog 173 #[I p] w (Gl.post w0 L r1):=by
  unfold Gl.f at H
  refine cG func173 Z ?_
  refine rN 3 Z (rG (GO.Gr (el:=2) ([I 0,I 1,I 2,I 3]) HS Z Z (fun _=>by kernel_rfl) Z fun b1 wd2 HS=>?_))
  replace HS:=HS.Le (T:=(Bi .i64)) (j:=0) Z Bw uu ([0,1,2,3]:List Int) Z (Qd Z)
  refine GO.Oj (t:=8) (m:=([0,1,2,3]:List Int).length) (c':=([0,1,2,3]:List Int).length) Z Z Z (aS Z (nL (sQ (rG (GO.Gr (el:=2) ([]) HS Z Z (fun _=>by kernel_rfl) Z fun b3 wd4 HS=>?_)))))
  replace HS:=HS.Le (T:=(Bi .i64)) (j:=0) Z Bw uu ([]:List Int) Z (Qd Z)
  refine GO.Oj (t:=9) (m:=([]:List Int).length) (c':=([]:List Int).length) Z Z Z (aS Z (nL (rN 7 Z ?_)))
  refine G.name (fun n1 k1=>?_)
  have m1:∀ h1,h1≤K→∀ (c1:Int) (A25:Option Addr) (c26:Nat) (a1:List Int) (A28:Option Addr) (c29:Nat) (e1:List Int) (d1 f1:Int) (w:World),Gl.l1 K h1 c1 a1 e1 d1 f1=some r1→St w0 w (Own (Bi .i64) 2 A25 c26 uu a1::Own (Bi .i64) 2 A28 c29 uu e1::L)→G prog 173 43 [(0,I c1),(3,sV A25 a1 c26),(4,sV A28 e1 c29),(5,I d1),(6,I f1)] n1 w (Gl.post w0 L r1):=by
   refine lp (fun _ _ _ _ _ _ _ _ _ w H _=>by rw [Gl.l1] at H; cases H) fun g1 o1 i1 c1 A25 c26 a1 A28 c29 e1 d1 f1 w H HS=>?_
   rw [Gl.l1] at H
   subst k1
   refine rN 3 Z ?_
   rcases iS H with ⟨c56,H⟩ | ⟨c56,H⟩
   ·
    refine nB Z (tF c56) (rN 3 Z ?_)
    obtain rfl:=sI H
    exact rT _ func173 Z Z ⟨_,_,Z,(HS.pk 2 [1] Z)⟩
   refine yB Z (tT c56) (rN 4 Z ?_)
   obtain ⟨c57,H⟩:=Vb H
   refine rG (pS 2 Z (GO.quo Z Z Z c57 Z (aS Z (nL (sQ (rG (pS 2 Z (GO.rem Z Z Z c57 Z (aS Z (nL (sQ ?_)))))))))))
   obtain ⟨c58,H⟩:=iN H
   obtain ⟨c64,H⟩:=iN H
   refine rG (pS 3 Z (iX Z U32 sz2 (rk (ro 0 Z) HS) c58 (GO.Gb (T:=(Bi .i64)) (n:=(w64 (c1.tdiv d1)).toNat) (o:=0) HS (ro 0 Z) Z Z (getD_some (d:=0) (ltN c58)) Z Z na2 Z (GO.Gr (el:=2) ([I (a1.getD ((w64 (c1.tdiv d1)).toNat) 0)]) HS Z Z (fun _=>by kernel_rfl) Z fun b59 wd60 HS=>GO.app1 (T:=(Bi .i64)) (j:=2) (jb:=0) (a1.getD ((w64 (c1.tdiv d1)).toNat) 0) HS Z Z Bw Z Z Z U32 Va Z Z Z c64 Z fun A62 c63 wd61 HS=>aS Z (nL (sQ ?_))))))
   obtain ⟨c67,H⟩:=iN H
   obtain ⟨c71,H⟩:=iN H
   obtain ⟨c72,H⟩:=iN H
   obtain ⟨c76,H⟩:=iN H
   refine G.O7 mixed (fun w=>St w0 w (Own (Bi .i64) 2 A25 c26 uu a1::L)) [3,8] [1,2,5,6,7,3,8,0,4,9,10] [] (by kernel_rfl) (by kernel_rfl) (HS.drew.pk 3 [1] Z) ?_
   replace HS:=HS.drew
   refine GX.ps 5 Z (GX.ls Z Z Z (HS.pk 3 [1] Z) (fun _ HS _ g=>GO.slH (T:=(Bi .i64)) HS (ro 0 Z) Z Z Z U32 sz2 c67.1 c67.2 Z g) Z (GX.ls Z Z Z (HS.pk 3 [1] Z) (fun _ HS _ g=>GO.slL (T:=(Bi .i64)) HS (ro 0 Z) Z Z Z U32 sz2 c72.1 c72.2 Z g) Z (GX.l2 Z (GO.Gr (el:=2) ([]) HS Z Z (fun _=>by kernel_rfl) Z fun b65 wd66 HS=>GX.fin (HS.pk 4 [2] Z) (GX.l2 Z ?_)))))
   replace HS:=HS.Le (T:=(Bi .i64)) (j:=0) Z Bw uu ([]:List Int) Z (Qd Z)
   refine GO.Oj (t:=27) (m:=([]:List Int).length) (c':=([]:List Int).length) Z Z Z (GO.Wh (T:=(Bi .i64)) (j:=0) HS Z (Av.cut (ro 2 Z) (Nat.zero_le _) (leN c67)) Bw Z Z Z U32 Va Z Z Z c71 Z (fun _=>Z) fun A69 c70 wd68 HS=>GX.fin (HS.pk 4 [2] Z) (GX.l2 Z (GO.Wh (T:=(Bi .i64)) (j:=0) HS Z (Av.cut (ro 2 Z) (leN c72) (lR _)) Bw Z Z Z U32 Va Z Z Z c76 Z (fun _=>Z) fun A74 c75 wd73 HS=>GX.fin (HS.pk 4 [2] Z) (GX.ps 1 Z (GX.nil (rN 2 Z ?_))))))
   rcases iS H with ⟨c77,H⟩ | ⟨c77,H⟩
   ·
    refine nB Z (tF c77) (rN 4 Z (gW (i1 g1 (lR _) _ _ _ _ _ _ _ _ _ _ H (HS.pk 4 [0,3] Z)) Z))
   refine yB Z (tT c77) ?_
   obtain ⟨c78,H⟩:=Vb H
   refine rG (pS 2 Z (GO.quo Z Z Z c78 Z (aS Z (nL (rN 3 Z (gW (i1 g1 (lR _) _ _ _ _ _ _ _ _ _ _ H (HS.pk 4 [0,3] Z)) Z))))))
  exact gW (m1 K (lR _) _ _ _ _ _ _ _ _ _ _ H (HS.pk 2 [1,0] Z)) Z
theorem Mk.calls {p k_ r1:Int} (HS:St w0 w (L)) (H:Mk.f K p k_=some r1) :
    Calls prog 139 #[I p,I k_] w (Mk.post w0 L r1):=by
  unfold Mk.f at H
  refine cG func139 Z ?_
  refine rN 3 Z ?_
  obtain ⟨t1,h2,H⟩:=bI H
  obtain ⟨c7,H⟩:=iN H
  refine rG (mV Z (fJ nX Z (Gl.calls HS  h2) (fun _ wd5 ⟨A3,c4,h6,HS⟩=>⟨_,h6,(mV Z (iX Z U32 sz2 (rk (ro 0 Z) HS) c7 (GO.Gb (T:=(Bi .i64)) (n:=k_.toNat) (o:=0) HS (ro 0 Z) Z Z (getD_some (d:=0) (ltN c7)) Z Z na2 Z (aS Z (nL ?_)))))⟩)))
  obtain rfl:=sI H
  exact rT _ func139 Z Z ⟨Z,(HS.pk 1 [] Z)⟩
theorem Ey.calls {a_:List Int} {r1:Int} (HS:St w0 w (L)) (r_a:Av w0 L (Bi .i64) A_a c_a uu a_) (H:Ey.f K a_=some r1) :
    Calls prog 174 #[sV A_a a_ c_a] w (Ey.post w0 L r1):=by
  unfold Ey.f at H
  refine cG func174 Z ?_
  refine rN 11 Z ?_
  refine G.name (fun q1 m1=>?_)
  have p1:∀ g1,g1≤K→∀ (p_4 a1 i_6:Int) (w:World),Ey.l1 K g1 a_ p_4 a1 i_6=some r1→St w0 w (L)→G prog 174 42 [(0,sV A_a a_ c_a),(3,I p_4),(4,I a1),(5,I i_6)] q1 w (Ey.post w0 L r1):=by
   refine lp (fun _ _ _ w H _=>by rw [Ey.l1] at H; cases H) fun f1 t1 s1 p_4 a1 i_6 w H HS=>?_
   rw [Ey.l1] at H
   subst m1
   refine rN 3 Z ?_
   rcases iS H with ⟨c23,H⟩ | ⟨c23,H⟩
   ·
    refine nB Z (tF c23) (rN 3 Z ?_)
    obtain rfl:=sI H
    exact rT _ func174 Z Z ⟨Z,HS⟩
   refine yB Z (tT c23) (rN 4 Z ?_)
   obtain ⟨c24,H⟩:=iN H
   refine rG (pS 2 Z (iX Z U32 sz2 (rk r_a HS) c24 (GO.Gb (T:=(Bi .i64)) (n:=i_6.toNat) (o:=0) HS r_a Z Z (getD_some (d:=0) (ltN c24)) Z Z na2 Z (aS Z (nL (rN 5 Z ?_))))))
   refine G.name (fun o1 n1=>?_)
   have i1:∀ h1,h1≤f1→∀ (d1 b1:Int) (w:World),Ey.l4 K h1 a_ p_4 a1 i_6 d1 b1=some r1→St w0 w (L)→G prog 174 42 [(0,sV A_a a_ c_a),(3,I p_4),(4,I a1),(5,I i_6),(6,I d1),(7,I b1)] o1 w (Ey.post w0 L r1):=by
    refine lp (fun _ _ w H _=>by rw [Ey.l4] at H; cases H) fun c1 k1 e1 d1 b1 w H HS=>?_
    rw [Ey.l4] at H
    subst n1
    refine rN 3 Z ?_
    rcases iS H with ⟨c35,H⟩ | ⟨c35,H⟩
    ·
     refine nB Z (tF c35) (rN 3 Z ?_)
     obtain ⟨c38,H⟩:=Vb H
     refine rG (pS 3 Z (GO.quo Z Z Z c38 Z (aS Z (nL (rN 3 Z (gW (s1 c1 (Nat.le_of_succ_le k1) _ _ _ _ H HS) Z))))))
    refine yB Z (tT c35) (rN 4 Z ?_)
    obtain ⟨c36,H⟩:=iN H
    refine G.lex mixed [0,1,2,4,5,6,3,7,8] (by kernel_rfl) ?_
    replace HS:=HS.drew
    refine GX.ps 2 Z (qL Z Z (fun _ _ g=>iX Z U32 sz2 (rk r_a HS) c36 g) Z (GX.ps 2 Z (qL Z Z (fun _ _ g=>iX Z U32 sz2 (rk r_a HS) c24 g) Z (GX.l1 Z Z Z (fun _ g=>GO.Gb (T:=(Bi .i64)) (n:=b1.toNat) (o:=0) HS r_a Z Z (getD_some (d:=0) (ltN c36)) Z Z na2 Z g) Z (GX.l1 Z Z Z (fun _ g=>GO.Gb (T:=(Bi .i64)) (n:=i_6.toNat) (o:=0) HS r_a Z Z (getD_some (d:=0) (ltN c24)) Z Z na2 Z g) Z (GX.ps 1 Z (GX.nil ?_)))))))
    rcases iS H with ⟨c37,H⟩ | ⟨c37,H⟩
    ·
     refine nB Z (tF c37) (rN 4 Z (gW (e1 c1 (lR _) _ _ _ H HS) Z))
    refine yB Z (tT c37) (rN 4 Z (gW (e1 c1 (lR _) _ _ _ H HS) Z))
   exact gW (i1 f1 (lR _) _ _ _ H HS) Z
  exact gW (p1 K (lR _) _ _ _ _ H HS) Z
theorem He.calls {p r1:Int} (HS:St w0 w (L)) (H:He.f K p=some r1) :
    Calls prog 140 #[I p] w (He.post w0 L r1):=by
  unfold He.f at H
  refine cG func140 Z ?_
  refine rN 3 Z ?_
  obtain ⟨t1,h2,H⟩:=bI H
  refine rG (mV Z (fJ nX Z (Gl.calls HS  h2) (fun _ wd5 ⟨A3,c4,h6,HS⟩=>⟨_,h6,(aS Z (nL (sQ (rG (GO.Gr (el:=2) ([I 0,I 0,I 0,I 0]) HS Z Z (fun _=>by kernel_rfl) Z fun b7 wd8 HS=>?_)))))⟩)))
  replace HS:=HS.Le (T:=(Bi .i64)) (j:=0) Z Bw uu ([0,0,0,0]:List Int) Z (Qd Z)
  refine GO.Oj (t:=8) (m:=([0,0,0,0]:List Int).length) (c':=([0,0,0,0]:List Int).length) Z Z Z (aS Z (nL (rN 5 Z ?_)))
  refine G.name (fun g1 e1=>?_)
  have f1:∀ c1,c1≤K→∀ (b1:List Int) (a1:Int) (w:World),He.l1 K c1 t1 b1 a1=some r1→St w0 w (Own (Bi .i64) 2 A3 c4 uu t1::Own (Bi .i64) 2 (sb b7) (([0,0,0,0]:List Int).length) uu b1::L)→G prog 140 22 [(3,sV A3 t1 c4),(4,sV (sb b7) b1 (([0,0,0,0]:List Int).length)),(5,I a1)] g1 w (He.post w0 L r1):=by
   refine lp (fun _ _ w H _=>by rw [He.l1] at H; cases H) fun d1 i1 h1 b1 a1 w H HS=>?_
   rw [He.l1] at H
   subst e1
   refine rN 3 Z ?_
   rcases iS H with ⟨c22,H⟩ | ⟨c22,H⟩
   ·
    refine nB Z (tF c22) (rN 2 Z ?_)
    obtain ⟨t26,h27,H⟩:=bI H
    refine rG (mV Z (fJ xQ Z (Ey.calls HS (ro 1 Z) h27) (fun _ wd28 ⟨h29,HS⟩=>⟨_,h29,(aS Z (nL ?_))⟩)))
    obtain rfl:=sI H
    exact rT _ func140 Z Z ⟨Z,(HS.pk 2 [] Z)⟩
   refine yB Z (tT c22) (rN 3 Z ?_)
   obtain ⟨c23,H⟩:=iN H
   obtain ⟨c24,H⟩:=iN H
   refine rG (pS 3 Z (iX Z U32 sz2 (rk (ro 0 Z) HS) c23 (GO.Gb (T:=(Bi .i64)) (n:=a1.toNat) (o:=0) HS (ro 0 Z) Z Z (getD_some (d:=0) (ltN c23)) Z Z na2 Z (mV Z (iX Z U32 sz2 (fun _=>⟨_,_,Z⟩) c24 (GO.N9 (T:=(Bi .i64)) (j:=1) (n:=(t1.getD a1.toNat 0).toNat) (o:=0) (vs:=[I a1]) a1 HS Z Bw Z Z Z Z (htN na2 Z) Z (getD_some (d:=0) (ltN c24)) Z Z fun wd25 HS=>nL (G.len (t:=4) (m:=(b1.set ((t1.getD a1.toNat 0).toNat) a1).length) Z (by simp only [List.length_set] <;> rfl) (rN 3 Z (gW (h1 d1 (lR _) _ _ _ H HS) Z)))))))))
  exact gW (f1 K (lR _) _ _ _ H (HS.pk 2 [1,0] Z)) Z
theorem Aq.calls {a1:List (List Br)} {y_a:Nat→(Ty.slice 168 Az).Lay} {r1:Bool} (HS:St w0 w (L)) (r_a:Av w0 L (Ty.slice 168 Az) A_a c_a y_a a1) (H:Aq.f K a1=some r1) :
    Calls prog 96 #[.agg [sV A_a a1 c_a].toArray] w (Aq.post w0 L r1):=by
  unfold Aq.f at H
  refine cG func96 Z ?_
  refine sQ (rG (bA HS Z fun b1 wd2 HS=>aS Z (nL (rN 2 Z ?_))))
  obtain ⟨t3,h4,H⟩:=bI H
  refine rG (lW 0 HS Z O0 (fJ Z9 Z (Hu.calls HS (rD 1 r_a) h4) (fun _ wd5 ⟨h6,HS⟩=>⟨_,h6,(GO.gtr Z Z Z Z (nL ?_))⟩)))
  rcases iE H with ⟨c7,H⟩ | ⟨c7,H⟩
  ·
   refine yB Z (tT c7) (rN 2 Z ?_)
   obtain rfl:=sI H
   exact rT _ func96 Z Z ⟨Z,(HS.pk 1 [] Z)⟩
  refine nB Z (tF c7) (rN 6 Z ?_)
  refine G.name (fun t1 e2=>?_)
  have g2:∀ o1,o1≤K→∀ (e1:Int) (w:World),Aq.l1 K o1 a1 e1=some r1→St w0 w (Box b1 53 [sV A_a a1 c_a]::L)→G prog 96 96 [(1,pT b1),(3,I e1)] t1 w (Aq.post w0 L r1):=by
   refine lp (fun _ w H _=>by rw [Aq.l1] at H; cases H) fun k1 k2 h2 e1 w H HS=>?_
   rw [Aq.l1] at H
   subst e2
   refine rN 2 Z (rG (mV Z (fL b1 0 J2 Z (lB 0 HS Z O1 Z (lS Z Z U51 Z (GO.lss Z Z Z Z (nL ?_)))))))
   rcases iE H with ⟨c1091,H⟩ | ⟨c1091,H⟩
   ·
    refine yB Z (tT c1091) (rN 4 Z ?_)
    obtain ⟨c1092,H⟩:=iN H
    refine rG (fL b1 0 J2 Z (lB 0 HS Z O1 Z (mV Z (iX Z U51 P7 (rk (rD 1 r_a) HS) c1092 (GO.Gb (T:=(Ty.slice 168 Az)) (n:=e1.toNat) (o:=0) HS (rD 1 r_a) Z Z (getD_some (d:=[]) (ltN c1092)) Z Z Qc Z (lS Z Z P8 Z (GO.neq Z Z Z Z (nL ?_))))))))
    rcases iS H with ⟨c1093,H⟩ | ⟨c1093,H⟩
    ·
     refine yB Z (nF c1093) (rN 2 Z ?_)
     obtain rfl:=sI H
     exact rT _ func96 Z Z ⟨Z,(HS.pk 1 [] Z)⟩
    refine nB Z (nT c1093) (rN 4 Z (gW (h2 k1 (lR _) _ _ H HS) Z))
   refine nB Z (tF c1091) (rN 6 Z ?_)
   refine G.name (fun z1 v1=>?_)
   have u1:∀ p1,p1≤k1→∀ (c1:Int) (w:World),Aq.l28 K p1 a1 c1=some r1→St w0 w (Box b1 53 [sV A_a a1 c_a]::L)→G prog 96 96 [(1,pT b1),(4,I c1)] z1 w (Aq.post w0 L r1):=by
    refine lp (fun _ w H _=>by rw [Aq.l28] at H; cases H) fun q1 i2 d2 c1 w H HS=>?_
    rw [Aq.l28] at H
    subst v1
    refine rN 2 Z ?_
    obtain ⟨t1453,h1454,H⟩:=bI H
    refine rG (mV Z (lW 0 HS Z O0 (fJ Z9 Z (Hu.calls HS (rD 1 r_a) h1454) (fun _ wd1455 ⟨h1456,HS⟩=>⟨_,h1456,(GO.lss Z Z Z Z (nL ?_))⟩))))
    rcases iS H with ⟨c1457,H⟩ | ⟨c1457,H⟩
    ·
     refine nB Z (tF c1457) (rN 3 Z ?_)
     obtain rfl:=sI H
     exact rT _ func96 Z Z ⟨Z,(HS.pk 1 [] Z)⟩
    refine yB Z (tT c1457) (rN 7 Z ?_)
    refine G.name (fun a2 f2=>?_)
    have y1:∀ m1,m1≤q1→∀ (d1:Int) (w:World),Aq.l37 K m1 a1 c1 d1=some r1→St w0 w (Box b1 53 [sV A_a a1 c_a]::L)→G prog 96 96 [(1,pT b1),(4,I c1),(5,I d1)] a2 w (Aq.post w0 L r1):=by
     refine lp (fun _ w H _=>by rw [Aq.l37] at H; cases H) fun f1 c2 g1 d1 w H HS=>?_
     rw [Aq.l37] at H
     subst f2
     refine rN 3 Z ?_
     rcases iS H with ⟨c1574,H⟩ | ⟨c1574,H⟩
     ·
      refine nB Z (tF c1574) (rN 4 Z (gW (d2 f1 (Nat.le_of_succ_le c2) _ _ H HS) Z))
     refine yB Z (tT c1574) (rN 4 Z ?_)
     obtain ⟨c1575,H⟩:=iN H
     obtain ⟨c1576,H⟩:=iN H
     obtain ⟨e1577,h1578,H⟩:=Cr H
     refine rG (fL b1 0 J2 Z (lB 0 HS Z O1 Z (mV Z (iX Z U51 P7 (rk (rD 1 r_a) HS) c1575 (GO.Gb (T:=(Ty.slice 168 Az)) (n:=c1.toNat) (o:=0) HS (rD 1 r_a) Z Z (getD_some (d:=[]) (ltN c1575)) Z Z Qc Z (mV Z (GO.ix Z Z Z P8 Qt ((Av.elem (rD 1 r_a) c1575.1 c1575.2) _ HS).2.2.1 c1576.1 c1576.2 Z (GO.J4 (T:=Az) (n:=d1.toNat) HS (Av.elem (rD 1 r_a) c1575.1 c1575.2) Z Z (Ba (ltN c1576) h1578) Nk Z (GO.alloc HS Z Zx Z Z fun b1579 wd1580 HS=>sW 0 HS Z Nk Z fun wd1581 HS=>nL (rN 2 Z ?_))))))))))
     refine G.Qj (fun x1 b2=>?_)
     have s1:∀ n1,n1≤f1→∀ (x1584:Bool) (w:World),Aq.j40 K n1 a1 c1 d1 e1577 x1584=some r1→St w0 w (Box b1 53 [sV A_a a1 c_a]::Box b1579 168 [I e1577.Tet,I e1577.Perm]::L)→G prog 96 96 [(1,pT b1),(4,I c1),(5,I d1),(6,pT b1579),(51,.bool x1584)] x1 w (Aq.post w0 L r1):=by
      refine jp (fun _ w H _=>by rw [Aq.j40] at H; cases H) fun i1 h1 x1584 w H HS=>?_
      rw [Aq.j40] at H
      subst b2
      rcases iE H with ⟨c1585,H⟩ | ⟨c1585,H⟩
      ·
       refine yB Z c1585 (rN 3 Z (gW (g1 i1 (Nat.le_of_succ_le h1) _ _ H (HS.pk 2 [0] Z)) Z))
      refine nB Z (Bt c1585) (rN 3 Z ?_)
      obtain ⟨t1599,h1600,H⟩:=bI H
      obtain ⟨t1603,h1604,H⟩:=bI H
      rcases iS H with ⟨c1607,H⟩ | ⟨c1607,H⟩
      ·
       refine G.O7 mixed (fun w=>St w0 w (Box b1 53 [sV A_a a1 c_a]::Box b1579 168 [I e1577.Tet,I e1577.Perm]::L)) [1,2,9] [0,1,2,3,4,5,6,7,8,9,10,11,12] [] (by kernel_rfl) (by kernel_rfl) HS.drew ?_
       replace HS:=HS.drew
       refine qL Z Z (fun _ _ g=>fL b1579 0 K5 Z g) Z (GX.ls Z Z Z HS (fun _ HS _ g=>lB 1 HS Z na2 Z g) Z (GX.ls Z Z Z HS (fun _ HS _ g=>lW 0 HS Z O0 g) Z (GX.l2 Z (fJ Z9 Z (Hu.calls HS (rD 2 r_a) h1600) (fun _ wd1601 ⟨h1602,HS⟩=>⟨_,h1602,(GX.fin HS (GX.ps 1 Z (GX.l2 Z (fJ Wy Z (J9.calls HS  h1604) (fun _ wd1605 ⟨h1606,HS⟩=>⟨_,h1606,(GX.fin HS (GX.ps 1 Z (qL Z Z (fun _ _ g=>mV Z (kN 59 Z (congrArg Bool.not (Bt c1607)) g)) Z (qL Z Z (fun _ _ g=>oF Z g) Z (GX.ls Z Z Z HS (fun _ HS _ g=>oF Z g) Z (GX.l2 Z ?_))))))⟩)))))⟩)))))
       refine oF Z (GX.fin HS (qL Z Z (fun _ _ g=>oF Z g) Z (GX.ps 1 Z (GX.nil (rN 3 Z ?_)))))
       obtain rfl:=sI H
       exact rT _ func96 Z Z ⟨Z,(HS.pk 2 [] Z)⟩
      obtain ⟨t1608,h1609,H⟩:=bI H
      refine G.O7 mixed (fun w=>St w0 w (Box b1 53 [sV A_a a1 c_a]::Box b1579 168 [I e1577.Tet,I e1577.Perm]::L)) [1,2,9] [0,1,2,3,4,5,6,7,8,9,10,11,12] [] (by kernel_rfl) (by kernel_rfl) HS.drew ?_
      replace HS:=HS.drew
      refine qL Z Z (fun _ _ g=>fL b1579 0 K5 Z g) Z (GX.ls Z Z Z HS (fun _ HS _ g=>lB 1 HS Z na2 Z g) Z (GX.ls Z Z Z HS (fun _ HS _ g=>lW 0 HS Z O0 g) Z (GX.l2 Z (fJ Z9 Z (Hu.calls HS (rD 2 r_a) h1600) (fun _ wd1601 ⟨h1602,HS⟩=>⟨_,h1602,(GX.fin HS (GX.ps 1 Z (GX.l2 Z (fJ Wy Z (J9.calls HS  h1604) (fun _ wd1605 ⟨h1606,HS⟩=>⟨_,h1606,(GX.fin HS (GX.ps 1 Z (qL Z Z (fun _ _ g=>mV Z (kN 59 Z (congrArg Bool.not c1607) g)) Z (qL Z Z (fun _ _ g=>oN Z (fL b1579 1 Oq Z (bK g))) Z (GX.ls Z Z Z HS (fun _ HS _ g=>oN Z (lB 1 HS Z na2 Z (bK g))) Z (GX.l2 Z ?_))))))⟩)))))⟩)))))
      refine oN Z (fJ lK Z (I9.calls HS  h1609) (fun _ wd1610 ⟨h1611,HS⟩=>⟨_,h1611,(bK (GX.fin HS (qL Z Z (fun _ _ g=>oN Z (GO.not Z Z Z (bK g))) Z (GX.ps 1 Z (GX.nil ?_)))))⟩))
      rcases iS H with ⟨c1612,H⟩ | ⟨c1612,H⟩
      ·
       refine yB Z (congrArg Bool.not (Bt c1612)) (rN 2 Z ?_)
       obtain rfl:=sI H
       exact rT _ func96 Z Z ⟨Z,(HS.pk 2 [] Z)⟩
      refine nB Z (congrArg Bool.not c1612) (rN 2 Z ?_)
      obtain ⟨t1613,h1614,H⟩:=bI H
      refine rG (fL b1579 1 Oq Z (lB 1 HS Z na2 Z (mV Z (fJ wP Z (Mk.calls HS  h1614) (fun _ wd1615 ⟨h1616,HS⟩=>⟨_,h1616,(aS Z (nL (sQ ?_)))⟩)))))
      obtain ⟨t1617,h1618,H⟩:=bI H
      refine rG (mV Z (fL b1579 1 Oq Z (lB 1 HS Z na2 Z (fJ wU Z (He.calls HS  h1618) (fun _ wd1619 ⟨h1620,HS⟩=>⟨_,h1620,(GO.Gj (.agg [I c1,I t1617].toArray) Z Z (fun _=>by kernel_rfl) Z (GO.alloc HS Z Zx Z Z fun b1621 wd1622 HS=>sW 0 HS Z Nk Z fun wd1623 HS=>nL (sQ ?_)))⟩)))))
      obtain ⟨c1624,H⟩:=iN H
      obtain ⟨c1625,H⟩:=iN H
      obtain ⟨e1626,h1627,H⟩:=Cr H
      rcases iS H with ⟨c1628,H⟩ | ⟨c1628,H⟩
      ·
       refine G.lex mixed [0,2,6,1,3,4,5,7,8,9,10,11,12,14,13,15,16,17,18,19,20,21] (by kernel_rfl) ?_
       replace HS:=HS.drew
       refine qL Z Z (fun _ _ g=>fL b1 0 J2 Z g) Z (qL Z Z (fun _ _ g=>fL b1579 0 K5 Z g) Z (GX.ps 1 Z (GX.l1 Z Z Z (fun _ g=>lB 1 HS Z O1 Z g) Z (GX.l1 Z Z Z (fun _ g=>lB 2 HS Z na2 Z g) Z (qL Z Z (fun _ _ g=>iX Z U51 P7 (rk (rD 3 r_a) HS) c1624 g) Z (GX.l1 Z Z Z (fun _ g=>GO.Gb (T:=(Ty.slice 168 Az)) (n:=e1577.Tet.toNat) (o:=0) HS (rD 3 r_a) Z Z (getD_some (d:=[]) (ltN c1624)) Z Z Qc Z g) Z (qL Z Z (fun _ _ g=>GO.ix Z Z Z P8 Qt ((Av.elem (rD 3 r_a) c1624.1 c1624.2) _ HS).2.2.1 c1625.1 c1625.2 Z g) Z (GX.l1 Z Z Z (fun _ g=>GO.J4 (T:=Az) (n:=t1613.toNat) HS (Av.elem (rD 3 r_a) c1624.1 c1624.2) Z Z (Ba (ltN c1625) h1627) Nk Z g) Z (GX.l1 Z Z Z (fun _ g=>lW 0 HS Z Nk g) Z (qL Z Z (fun _ _ g=>GO.fT Z Z Z Zu (fun _=>Zc) Z g) Z (qL Z Z (fun _ _ g=>mV Z (kN 85 Z (nF c1628) g)) Z (qL Z Z (fun _ _ g=>oF Z g) Z (qL Z Z (fun _ _ g=>oF Z g) Z (GX.l1 Z Z Z (fun _ g=>oF Z g) Z ?_))))))))))))))
       refine qL Z Z (fun _ _ g=>oF Z g) Z (qL Z Z (fun _ _ g=>oF Z g) Z (qL Z Z (fun _ _ g=>GO.Od Z Z Z Z Z Z g) Z (qL Z Z (fun _ _ g=>GO.Od Z Z Z Z Z Z g) Z (qL Z Z (fun _ _ g=>GO.Od Z Z Z Z Z Z g) Z (qL Z Z (fun _ _ g=>oF Z g) Z (GX.ps 1 Z (GX.nil (rN 3 Z ?_))))))))
       obtain rfl:=sI H
       exact rT _ func96 Z Z ⟨Z,(HS.pk 3 [] Z)⟩
      rcases iS H with ⟨c1629,H⟩ | ⟨c1629,H⟩
      ·
       refine G.lex mixed [0,2,6,1,3,4,5,7,8,9,10,11,12,14,13,15,16,17,18,19,20,21] (by kernel_rfl) ?_
       replace HS:=HS.drew
       refine qL Z Z (fun _ _ g=>fL b1 0 J2 Z g) Z (qL Z Z (fun _ _ g=>fL b1579 0 K5 Z g) Z (GX.ps 1 Z (GX.l1 Z Z Z (fun _ g=>lB 1 HS Z O1 Z g) Z (GX.l1 Z Z Z (fun _ g=>lB 2 HS Z na2 Z g) Z (qL Z Z (fun _ _ g=>iX Z U51 P7 (rk (rD 3 r_a) HS) c1624 g) Z (GX.l1 Z Z Z (fun _ g=>GO.Gb (T:=(Ty.slice 168 Az)) (n:=e1577.Tet.toNat) (o:=0) HS (rD 3 r_a) Z Z (getD_some (d:=[]) (ltN c1624)) Z Z Qc Z g) Z (qL Z Z (fun _ _ g=>GO.ix Z Z Z P8 Qt ((Av.elem (rD 3 r_a) c1624.1 c1624.2) _ HS).2.2.1 c1625.1 c1625.2 Z g) Z (GX.l1 Z Z Z (fun _ g=>GO.J4 (T:=Az) (n:=t1613.toNat) HS (Av.elem (rD 3 r_a) c1624.1 c1624.2) Z Z (Ba (ltN c1625) h1627) Nk Z g) Z (GX.l1 Z Z Z (fun _ g=>lW 0 HS Z Nk g) Z (qL Z Z (fun _ _ g=>GO.fT Z Z Z Zu (fun _=>Zc) Z g) Z (qL Z Z (fun _ _ g=>mV Z (kN 85 Z (nT c1628) g)) Z (qL Z Z (fun _ _ g=>oN Z (fL b1579 0 K5 Z (bK g))) Z (qL Z Z (fun _ _ g=>oN Z (mV Z (bK g))) Z (GX.l1 Z Z Z (fun _ g=>oN Z (lB 2 HS Z na2 Z (bK g))) Z ?_))))))))))))))
       refine qL Z Z (fun _ _ g=>oN Z (GO.eql Z Z Z Z (bK g))) Z (qL Z Z (fun _ _ g=>oN Z (mV Z (bK (kN 90 Z (tF c1629) g)))) Z (qL Z Z (fun _ _ g=>oF Z g) Z (qL Z Z (fun _ _ g=>oF Z g) Z (qL Z Z (fun _ _ g=>oF Z g) Z (qL Z Z (fun _ _ g=>oN Z (GO.Ki Z Z Z Z Z (bK g))) Z (GX.ps 1 Z (GX.nil (rN 5 Z (gW (g1 i1 (Nat.le_of_succ_le h1) _ _ H (HS.pk 3 [1] Z)) Z)))))))))
      refine G.lex mixed [0,2,6,1,3,4,5,7,8,9,10,11,12,14,13,15,16,17,18,19,20,21] (by kernel_rfl) ?_
      replace HS:=HS.drew
      refine qL Z Z (fun _ _ g=>fL b1 0 J2 Z g) Z (qL Z Z (fun _ _ g=>fL b1579 0 K5 Z g) Z (GX.ps 1 Z (GX.l1 Z Z Z (fun _ g=>lB 1 HS Z O1 Z g) Z (GX.l1 Z Z Z (fun _ g=>lB 2 HS Z na2 Z g) Z (qL Z Z (fun _ _ g=>iX Z U51 P7 (rk (rD 3 r_a) HS) c1624 g) Z (GX.l1 Z Z Z (fun _ g=>GO.Gb (T:=(Ty.slice 168 Az)) (n:=e1577.Tet.toNat) (o:=0) HS (rD 3 r_a) Z Z (getD_some (d:=[]) (ltN c1624)) Z Z Qc Z g) Z (qL Z Z (fun _ _ g=>GO.ix Z Z Z P8 Qt ((Av.elem (rD 3 r_a) c1624.1 c1624.2) _ HS).2.2.1 c1625.1 c1625.2 Z g) Z (GX.l1 Z Z Z (fun _ g=>GO.J4 (T:=Az) (n:=t1613.toNat) HS (Av.elem (rD 3 r_a) c1624.1 c1624.2) Z Z (Ba (ltN c1625) h1627) Nk Z g) Z (GX.l1 Z Z Z (fun _ g=>lW 0 HS Z Nk g) Z (qL Z Z (fun _ _ g=>GO.fT Z Z Z Zu (fun _=>Zc) Z g) Z (qL Z Z (fun _ _ g=>mV Z (kN 85 Z (nT c1628) g)) Z (qL Z Z (fun _ _ g=>oN Z (fL b1579 0 K5 Z (bK g))) Z (qL Z Z (fun _ _ g=>oN Z (mV Z (bK g))) Z (GX.l1 Z Z Z (fun _ g=>oN Z (lB 2 HS Z na2 Z (bK g))) Z ?_))))))))))))))
      refine qL Z Z (fun _ _ g=>oN Z (GO.eql Z Z Z Z (bK g))) Z (qL Z Z (fun _ _ g=>oN Z (mV Z (bK (kN 90 Z (tT c1629) g)))) Z (qL Z Z (fun _ _ g=>oN Z (mV Z (bK g))) Z (qL Z Z (fun _ _ g=>oN Z (mV Z (bK g))) Z (qL Z Z (fun _ _ g=>oN Z (GO.eql Z Z Z Z (bK g))) Z (qL Z Z (fun _ _ g=>oN Z (GO.Ii Z Z Z Z Z (bK g))) Z (GX.ps 1 Z (GX.nil ?_)))))))
      rcases iE H with ⟨c1630,H⟩ | ⟨c1630,H⟩
      ·
       refine yB Z (tT c1630) (rN 2 Z ?_)
       obtain rfl:=sI H
       exact rT _ func96 Z Z ⟨Z,(HS.pk 3 [] Z)⟩
      refine nB Z (tF c1630) (rN 4 Z (gW (g1 i1 (Nat.le_of_succ_le h1) _ _ H (HS.pk 3 [1] Z)) Z))
     rcases iS H with ⟨c1631,H⟩ | ⟨c1631,H⟩
     ·
      refine rG (fL b1579 0 K5 Z (lB 0 HS Z na2 Z (pS 2 Z (kN 47 Z (tF c1631) (oF Z (oF Z (oF Z (GO.Ki Z Z Z Z Z (nL (gW (s1 f1 (lR _) _ _ H (HS.pk 2 [1,0] Z)) Z))))))))))
     refine rG (fL b1579 0 K5 Z (lB 0 HS Z na2 Z (pS 2 Z (kN 47 Z (tT c1631) (oN Z (fL b1579 1 Oq Z (bK (oN Z (lB 0 HS Z na2 Z (bK (oN Z (GO.eql Z Z Z Z (bK (GO.Ii Z Z Z Z Z ?_))))))))))))))
     refine nL (gW (s1 f1 (lR _) _ _ H (HS.pk 2 [1,0] Z)) Z)
    exact gW (y1 q1 (lR _) _ _ H HS) Z
   exact gW (u1 k1 (lR _) _ _ H HS) Z
  exact gW (g2 K (lR _) _ _ H HS) Z
theorem Jw.calls {x_A x_B:Int} {x_C x_D:Int} {a1 p r1:Int} (HS:St w0 w (L)) (H:Jw.f x_A x_B x_C x_D a1 p=some r1) :
    Calls prog 175 #[.agg [I x_A,I x_B,I x_C,I x_D,I a1].toArray,I p] w (Jw.post w0 L r1):=by
  unfold Jw.f at H
  refine cG func175 Z ?_
  refine sQ (rG (bA HS Z fun b1 wd2 HS=>aS Z (nL (sQ ?_))))
  obtain ⟨c5,H⟩:=iN H
  refine rG (fL b1 0 Rx Z (lB 0 HS Z na2 Z (fL b1 1 Rv Z (lB 0 HS Z na2 Z (fL b1 2 R4 Z (lB 0 HS Z na2 Z (fL b1 3 Rz Z (lB 0 HS Z na2 Z (GO.Gr (el:=2) ([I x_A,I x_B,I x_C,I x_D]) HS Z Z (fun _=>by kernel_rfl) Z fun b3 wd4 HS=>mV Z ?_)))))))))
  replace HS:=HS.Le (T:=(Bi .i64)) (j:=0) Z Bw uu ([x_A,x_B,x_C,x_D]:List Int) Z (Qd Z)
  refine GO.Oj (t:=13) (m:=([x_A,x_B,x_C,x_D]:List Int).length) (c':=([x_A,x_B,x_C,x_D]:List Int).length) Z Z Z (iX Z U32 sz2 (fun _=>⟨_,_,Z⟩) c5 (GO.Gb (T:=(Bi .i64)) (n:=p.toNat) (o:=0) HS (ro 0 Z) Z Z (getD_some (d:=0) (ltN c5)) Z Z na2 Z (aS Z (nL ?_))))
  obtain rfl:=sI H
  exact rT _ func175 Z Z ⟨Z,(HS.pk 2 [] Z)⟩
theorem Ij.calls {x_A x_B:Int} {x_C x_D:Int} {a1 p:Int} {r1:Bool} (HS:St w0 w (L)) (H:Ij.f x_A x_B x_C x_D a1 p=some r1) :
    Calls prog 176 #[.agg [I x_A,I x_B,I x_C,I x_D,I a1].toArray,I p] w (Ij.post w0 L r1):=by
  unfold Ij.f at H
  refine cG func176 Z ?_
  refine sQ (rG (bA HS Z fun b1 wd2 HS=>aS Z (nL (sQ ?_))))
  rcases iE H with ⟨c3,H⟩ | ⟨c3,H⟩
  ·
   refine rG (pS 3 Z (kN 7 Z (tT c3) (oF Z (oF Z (oF Z (GO.Od Z Z Z Z Z Z (GO.Od Z Z Z Z Z Z (GO.Od Z Z Z Z Z Z (oF Z (pS 2 Z (oF Z (oF Z (oF Z (GO.Od Z Z Z Z Z Z ?_))))))))))))))
   refine GO.Od Z Z Z Z Z Z (GO.Od Z Z Z Z Z Z (oF Z (pS 2 Z (nL ?_))))
   obtain rfl:=sI H
   exact rT _ func176 Z Z ⟨Z,(HS.pk 1 [] Z)⟩
  rcases iS H with ⟨c4,H⟩ | ⟨c4,H⟩
  ·
   rcases iS H with ⟨c7,H⟩ | ⟨c7,H⟩
   ·
    refine rG (pS 3 Z (kN 7 Z (tF c3) (oN Z (mV Z (bK (oN Z (GO.eql Z Z Z Z (bK (oN Z (mV Z (bK (kN 10 Z (tF c4) (oF Z (oF Z ?_))))))))))))))
    refine oF Z (oN Z (GO.Ki Z Z Z Z Z (bK (pS 2 Z (oN Z (mV Z (bK (oN Z (GO.eql Z Z Z Z (bK (oN Z (mV Z (bK (kN 19 Z (tF c7) ?_))))))))))))))
    refine oF Z (oF Z (oF Z (oN Z (GO.Ki Z Z Z Z Z (bK (pS 2 Z (nL ?_)))))))
    obtain rfl:=sI H
    exact rT _ func176 Z Z ⟨Z,(HS.pk 1 [] Z)⟩
   refine rG (pS 3 Z (kN 7 Z (tF c3) (oN Z (mV Z (bK (oN Z (GO.eql Z Z Z Z (bK (oN Z (mV Z (bK (kN 10 Z (tF c4) (oF Z (oF Z ?_))))))))))))))
   refine oF Z (oN Z (GO.Ki Z Z Z Z Z (bK (pS 2 Z (oN Z (mV Z (bK (oN Z (GO.eql Z Z Z Z (bK (oN Z (mV Z (bK (kN 19 Z (tT c7) ?_))))))))))))))
   refine oN Z (fL b1 4 M0 Z (bK (oN Z (lB 0 HS Z na2 Z (bK (oN Z (GO.eql Z Z Z Z (bK (oN Z (GO.Ii Z Z Z Z Z (bK (pS 2 Z (nL ?_)))))))))))))
   obtain rfl:=sI H
   exact rT _ func176 Z Z ⟨Z,(HS.pk 1 [] Z)⟩
  rcases iE H with ⟨c5,H⟩ | ⟨c5,H⟩
  ·
   refine rG (pS 3 Z (kN 7 Z (tF c3) (oN Z (mV Z (bK (oN Z (GO.eql Z Z Z Z (bK (oN Z (mV Z (bK (kN 10 Z (tT c4) (oN Z (fL b1 4 M0 Z ?_))))))))))))))
   refine bK (oN Z (lB 0 HS Z na2 Z (bK (oN Z (GO.eql Z Z Z Z (bK (oN Z (GO.Ii Z Z Z Z Z (bK (pS 2 Z (kN 16 Z (tT c5) (oF Z (oF Z (oF Z ?_))))))))))))))
   refine GO.Od Z Z Z Z Z Z (GO.Od Z Z Z Z Z Z (GO.Od Z Z Z Z Z Z (oF Z (pS 2 Z (nL ?_)))))
   obtain rfl:=sI H
   exact rT _ func176 Z Z ⟨Z,(HS.pk 1 [] Z)⟩
  rcases iS H with ⟨c6,H⟩ | ⟨c6,H⟩
  ·
   refine rG (pS 3 Z (kN 7 Z (tF c3) (oN Z (mV Z (bK (oN Z (GO.eql Z Z Z Z (bK (oN Z (mV Z (bK (kN 10 Z (tT c4) (oN Z (fL b1 4 M0 Z ?_))))))))))))))
   refine bK (oN Z (lB 0 HS Z na2 Z (bK (oN Z (GO.eql Z Z Z Z (bK (oN Z (GO.Ii Z Z Z Z Z (bK (pS 2 Z (kN 16 Z (tF c5) (oN Z (mV Z (bK ?_))))))))))))))
   refine oN Z (GO.eql Z Z Z Z (bK (oN Z (mV Z (bK (kN 19 Z (tF c6) (oF Z (oF Z (oF Z (oN Z (GO.Ki Z Z Z Z Z (bK (pS 2 Z (nL ?_))))))))))))))
   obtain rfl:=sI H
   exact rT _ func176 Z Z ⟨Z,(HS.pk 1 [] Z)⟩
  refine rG (pS 3 Z (kN 7 Z (tF c3) (oN Z (mV Z (bK (oN Z (GO.eql Z Z Z Z (bK (oN Z (mV Z (bK (kN 10 Z (tT c4) (oN Z (fL b1 4 M0 Z ?_))))))))))))))
  refine bK (oN Z (lB 0 HS Z na2 Z (bK (oN Z (GO.eql Z Z Z Z (bK (oN Z (GO.Ii Z Z Z Z Z (bK (pS 2 Z (kN 16 Z (tF c5) (oN Z (mV Z (bK ?_))))))))))))))
  refine oN Z (GO.eql Z Z Z Z (bK (oN Z (mV Z (bK (kN 19 Z (tT c6) (oN Z (fL b1 4 M0 Z (bK (oN Z (lB 0 HS Z na2 Z (bK (oN Z (GO.eql Z Z Z Z ?_))))))))))))))
  refine bK (oN Z (GO.Ii Z Z Z Z Z (bK (pS 2 Z (nL ?_)))))
  obtain rfl:=sI H
  exact rT _ func176 Z Z ⟨Z,(HS.pk 1 [] Z)⟩
theorem Bg.calls {a1:List Ah} {f1:Int} {r1:Bool} (HS:St w0 w (L)) (r_a:Av w0 L Au A_a c_a uu a1) (H:Bg.f K a1 f1=some r1) :
    Calls prog 141 #[.agg [sV A_a a1 c_a,I f1].toArray] w (Bg.post w0 L r1):=by
  unfold Bg.f at H
  refine cG func141 Z ?_
  refine sQ (rG (bA HS Z fun b1 wd2 HS=>aS Z (nL (sQ (rG (fL b1 0 Jr Z (lB 0 HS Z Ol Z (lS Z Z U54 Z (pS 2 Z (nL (sQ ?_)))))))))))
  obtain ⟨c3,H⟩:=iN H
  obtain ⟨c4,H⟩:=iN H
  refine G.Rp mixed (by decide) (fun b a w=>∃ (b5:Nat) (b7:Nat) (i1:Cn) (m1:Cn),RS 63 [(1,pT b1),(3,I (w64 (2 * (a1.length:Int))))] [rv 15 (I (w64 (2 * (a1.length:Int)))),rv 16 (sV (sb b5) (List.replicate (w64 (2 * (a1.length:Int))).toNat false) ((w64 (2 * (a1.length:Int))).toNat)),rv 17 (I (w64 (2 * (a1.length:Int)))),rv 18 (sV (sb b7) (List.replicate (w64 (2 * (a1.length:Int))).toNat false) ((w64 (2 * (a1.length:Int))).toNat)),rv 4 (sV (sb b5) (List.replicate (w64 (2 * (a1.length:Int))).toNat false) ((w64 (2 * (a1.length:Int))).toNat)),rv 5 (sV (sb b7) (List.replicate (w64 (2 * (a1.length:Int))).toNat false) ((w64 (2 * (a1.length:Int))).toNat))] b a∧St w0 w (Box b1 56 [sV A_a a1 c_a,I f1]::i1::m1::L)∧(b 1=true→i1=Own Na 4 (sb b5) ((w64 (2 * (a1.length:Int))).toNat) uu (List.replicate (w64 (2 * (a1.length:Int))).toNat false))∧(b 3=true→m1=Own Na 4 (sb b7) ((w64 (2 * (a1.length:Int))).toNat) uu (List.replicate (w64 (2 * (a1.length:Int))).toNat false))) ?_ ?_ ?_
  · exact fun a hs=>⟨0,0,Emp,Emp,hs.init Z,(HS.drew.emp.emp.pk 3 [2,1,0] Z),fun h=>Bool.noConfusion h,fun h=>Bool.noConfusion h⟩
  ·
   intro j b a w hj
   refine exI fun b5=>exI fun b7=>exI fun i1=>exI fun m1=>anI fun hs=>fun hM q=>?_
   have HS:=hM.1
   match j,hj with
   | 0,_ =>
    refine hs.at q [] [] (mV Z (hs.fin q Z fun _ hs=>⟨_,_,_,_,hs,hM⟩))
   | 1,_ =>
    refine (anI fun HS=>anI fun n1=>fun k1=>?_) hM
    refine hs.at q [0] [] (GO.make (T:=Na) false () HS Bw Z Z Z Uf qR Z Z Z c3 c4 Z fun b5 wd6 HS=>hs.Tz q [1,4] (fun _ hs=>⟨b5,b7,Own Na 4 (sb b5) ((w64 (2 * (a1.length:Int))).toNat) uu (List.replicate (w64 (2 * (a1.length:Int))).toNat false),_,hs,HS.pk 4 [1,0,3] Z,fun _=>Z,k1⟩) Z Z)
   | 2,_ =>
    refine hs.at q [] [] (mV Z (hs.fin q Z fun _ hs=>⟨_,_,_,_,hs,hM⟩))
   | 3,_ =>
    refine (anI fun HS=>anI fun n1=>fun k1=>?_) hM
    refine hs.at q [2] [] (GO.make (T:=Na) false () HS Bw Z Z Z Uf qR Z Z Z c3 c4 Z fun b7 wd8 HS=>hs.Tz q [3,5] (fun _ hs=>⟨b5,b7,_,Own Na 4 (sb b7) ((w64 (2 * (a1.length:Int))).toNat) uu (List.replicate (w64 (2 * (a1.length:Int))).toNat false),hs,HS.pk 4 [1,2,0] Z,n1,fun _=>Z⟩) Z Z)
   | 4,_ =>
    refine hs.at q [1] [] (aS Z (hs.fin q Z fun _ hs=>⟨_,_,_,_,hs,hM⟩))
   | 5,_ =>
    refine hs.at q [3] [] (aS Z (hs.fin q Z fun _ hs=>⟨_,_,_,_,hs,hM⟩))
   | k+6,hj=>exact absurd hj (Nat.not_lt.2 (Nat.le_add_left 6 k))
  ·
   intro b a w hall
   refine exI fun b5=>exI fun b7=>exI fun i1=>exI fun m1=>anI fun hs=>anI fun HS=>anI fun n1=>fun k1=>?_
   obtain rfl:=n1 (hall 1 (by decide))
   obtain rfl:=k1 (hall 3 (by decide))
   refine G.at (hs.all hall) (rN 5 Z ?_)
   refine G.name (fun a2 e2=>?_)
   have g2:∀ x1,x1≤K→∀ (e1 d1:List Bool) (c1:Int) (w:World),Bg.l1 K x1 a1 e1 d1 c1=some r1→St w0 w (Box b1 56 [sV A_a a1 c_a,I f1]::Own Na 4 (sb b5) ((w64 (2 * (a1.length:Int))).toNat) uu e1::Own Na 4 (sb b7) ((w64 (2 * (a1.length:Int))).toNat) uu d1::L)→G prog 141 63 [(1,pT b1),(3,I (w64 (2 * (a1.length:Int)))),(4,sV (sb b5) e1 ((w64 (2 * (a1.length:Int))).toNat)),(5,sV (sb b7) d1 ((w64 (2 * (a1.length:Int))).toNat)),(6,I c1)] a2 w (Bg.post w0 L r1):=by
    refine lp (fun _ _ _ w H _=>by rw [Bg.l1] at H; cases H) fun q1 m2 i2 e1 d1 c1 w H HS=>?_
    rw [Bg.l1] at H
    subst e2
    refine rN 2 Z (rG (mV Z (fL b1 0 Jr Z (lB 0 HS Z Ol Z (lS Z Z U54 Z (GO.lss Z Z Z Z (nL ?_)))))))
    rcases iS H with ⟨c183,H⟩ | ⟨c183,H⟩
    ·
     refine nB Z (tF c183) (rN 3 Z ?_)
     obtain rfl:=sI H
     exact rT _ func141 Z Z ⟨Z,(HS.pk 3 [] Z)⟩
    refine yB Z (tT c183) (rN 4 Z ?_)
    obtain ⟨c184,H⟩:=iN H
    obtain ⟨e185,h186,H⟩:=Cr H
    refine rG (fL b1 0 Jr Z (lB 0 HS Z Ol Z (mV Z (iX Z U54 Oz (rk (rD 3 r_a) HS) c184 (GO.J4 (T:=Au) (n:=c1.toNat) HS (rD 3 r_a) Z Z (Ba (ltN c184) h186) Ni Z (GO.alloc HS Z Zl Z Z fun b187 wd188 HS=>sW 0 HS Z Ni Z fun wd189 HS=>nL (rN 2 Z ?_)))))))
    refine G.Qj (fun b2 f2=>?_)
    have v1:∀ s1,s1≤q1→∀ (x192:Bool) (w:World),Bg.j12 K s1 a1 e1 d1 c1 e185 x192=some r1→St w0 w (Box b1 56 [sV A_a a1 c_a,I f1]::Own Na 4 (sb b5) ((w64 (2 * (a1.length:Int))).toNat) uu e1::Own Na 4 (sb b7) ((w64 (2 * (a1.length:Int))).toNat) uu d1::Box b187 163 [I e185.A,I e185.B,I e185.C,I e185.D,I e185.Sign]::L)→G prog 141 63 [(1,pT b1),(3,I (w64 (2 * (a1.length:Int)))),(4,sV (sb b5) e1 ((w64 (2 * (a1.length:Int))).toNat)),(5,sV (sb b7) d1 ((w64 (2 * (a1.length:Int))).toNat)),(6,I c1),(7,pT b187),(38,.bool x192)] b2 w (Bg.post w0 L r1):=by
     refine jp (fun _ w H _=>by rw [Bg.j12] at H; cases H) fun t1 h2 x192 w H HS=>?_
     rw [Bg.j12] at H
     subst f2
     rcases iE H with ⟨c193,H⟩ | ⟨c193,H⟩
     ·
      refine yB Z c193 (rN 2 Z ?_)
      obtain rfl:=sI H
      exact rT _ func141 Z Z ⟨Z,(HS.pk 4 [] Z)⟩
     refine nB Z (Bt c193) (rN 5 Z ?_)
     refine G.name (fun c2 d2=>?_)
     have k2:∀ y1,y1≤t1→∀ (h1 g1:List Bool) (p1:Int) (w:World),Bg.l13 K y1 a1 c1 e185 h1 g1 p1=some r1→St w0 w (Box b1 56 [sV A_a a1 c_a,I f1]::Own Na 4 (sb b5) ((w64 (2 * (a1.length:Int))).toNat) uu h1::Own Na 4 (sb b7) ((w64 (2 * (a1.length:Int))).toNat) uu g1::Box b187 163 [I e185.A,I e185.B,I e185.C,I e185.D,I e185.Sign]::L)→G prog 141 63 [(1,pT b1),(3,I (w64 (2 * (a1.length:Int)))),(4,sV (sb b5) h1 ((w64 (2 * (a1.length:Int))).toNat)),(5,sV (sb b7) g1 ((w64 (2 * (a1.length:Int))).toNat)),(6,I c1),(7,pT b187),(8,I p1)] c2 w (Bg.post w0 L r1):=by
      refine lp (fun _ _ _ w H _=>by rw [Bg.l13] at H; cases H) fun o1 z1 u1 h1 g1 p1 w H HS=>?_
      rw [Bg.l13] at H
      subst d2
      refine rN 3 Z ?_
      rcases iS H with ⟨c244,H⟩ | ⟨c244,H⟩
      ·
       refine nB Z (tF c244) (rN 4 Z (gW (i2 o1 (Nat.le_trans (Nat.le_of_succ_le z1) (Nat.le_of_succ_le h2)) _ _ _ _ H (HS.pk 4 [0,1,2] Z)) Z))
      refine yB Z (tT c244) (rN 4 Z ?_)
      obtain ⟨t245,h246,H⟩:=bI H
      refine rG (lW 3 HS Z Ni (mV Z (fJ aC Z (Jw.calls HS  h246) (fun _ wd247 ⟨h248,HS⟩=>⟨_,h248,(aS Z (nL (rN 2 Z ?_)))⟩))))
      obtain ⟨t249,h250,H⟩:=bI H
      refine rG (pS 3 Z (fJ Q6 Z (Ef.calls HS  h250) (fun _ wd251 ⟨h252,HS⟩=>⟨_,h252,(GO.not Z Z Z (nL ?_))⟩)))
      rcases iS H with ⟨c253,H⟩ | ⟨c253,H⟩
      ·
       refine yB Z (congrArg Bool.not (Bt c253)) (rN 2 Z ?_)
       obtain rfl:=sI H
       exact rT _ func141 Z Z ⟨Z,(HS.pk 4 [] Z)⟩
      refine nB Z (congrArg Bool.not c253) (rN 5 Z ?_)
      obtain ⟨t254,h255,H⟩:=bI H
      refine rG (lW 3 HS Z Ni (mV Z (fJ gL Z (Ij.calls HS  h255) (fun _ wd256 ⟨h257,HS⟩=>⟨_,h257,(nL ?_)⟩))))
      rcases iS H with ⟨c261,H⟩ | ⟨c261,H⟩
      ·
       refine nB Z (Bt c261) (rN 3 Z ?_)
       obtain ⟨c265,H⟩:=iN H
       refine rG (pS 2 Z (iX Z Uf sz4 (fun _=>⟨_,_,Z⟩) c265 (GO.Gb (T:=Na) (n:=t245.toNat) (o:=0) HS (ro 2 Z) Z Z (getD_some (d:=false) (ltN c265)) Z Z na4 Z (nL ?_))))
       rcases iE H with ⟨c266,H⟩ | ⟨c266,H⟩
       ·
        refine yB Z c266 (rN 2 Z ?_)
        obtain rfl:=sI H
        exact rT _ func141 Z Z ⟨Z,(HS.pk 4 [] Z)⟩
       refine nB Z (Bt c266) (G.skip (rG (pS 2 Z (iX Z Uf sz4 (fun _=>⟨_,_,Z⟩) c265 (GO.N9 (T:=Na) (j:=2) (n:=t245.toNat) (o:=0) (vs:=[.bool true]) true HS Z Bw Z Z Z Z (htN na4 Z) Z (getD_some (d:=false) (ltN c265)) Z Z fun wd267 HS=>nL (G.len (t:=5) (m:=(g1.set t245.toNat true).length) Z (by simp only [List.length_set] <;> rfl) (rN 3 Z (gW (u1 o1 (lR _) _ _ _ _ H HS) Z))))))))
      refine yB Z c261 (rN 3 Z ?_)
      obtain ⟨c262,H⟩:=iN H
      refine rG (pS 2 Z (iX Z Uf sz4 (fun _=>⟨_,_,Z⟩) c262 (GO.Gb (T:=Na) (n:=t245.toNat) (o:=0) HS (ro 1 Z) Z Z (getD_some (d:=false) (ltN c262)) Z Z na4 Z (nL ?_))))
      rcases iE H with ⟨c263,H⟩ | ⟨c263,H⟩
      ·
       refine yB Z c263 (rN 2 Z ?_)
       obtain rfl:=sI H
       exact rT _ func141 Z Z ⟨Z,(HS.pk 4 [] Z)⟩
      refine nB Z (Bt c263) (G.skip (rG (pS 2 Z (iX Z Uf sz4 (fun _=>⟨_,_,Z⟩) c262 (GO.N9 (T:=Na) (j:=1) (n:=t245.toNat) (o:=0) (vs:=[.bool true]) true HS Z Bw Z Z Z Z (htN na4 Z) Z (getD_some (d:=false) (ltN c262)) Z Z fun wd264 HS=>nL (G.len (t:=4) (m:=(h1.set t245.toNat true).length) Z (by simp only [List.length_set] <;> rfl) (rN 3 Z (gW (u1 o1 (lR _) _ _ _ _ H HS) Z))))))))
     exact gW (k2 t1 (lR _) _ _ _ _ H HS) Z
    rcases iE H with ⟨c268,H⟩ | ⟨c268,H⟩
    ·
     refine rG (fL b187 4 M0 Z (lB 0 HS Z na2 Z (pS 2 Z (kN 34 Z (nT c268) (oF Z (oF Z (oF Z (GO.Ki Z Z Z Z Z (nL (gW (v1 q1 (lR _) _ _ H (HS.pk 4 [1,2,3,0] Z)) Z))))))))))
    refine rG (fL b187 4 M0 Z (lB 0 HS Z na2 Z (pS 2 Z (kN 34 Z (nF c268) (oN Z (fL b187 4 M0 Z (bK (oN Z (lB 0 HS Z na2 Z (bK (oN Z (GO.neq Z Z Z Z (bK (GO.Ii Z Z Z Z Z ?_))))))))))))))
    refine nL (gW (v1 q1 (lR _) _ _ H (HS.pk 4 [1,2,3,0] Z)) Z)
   exact gW (g2 K (lR _) _ _ _ _ H HS) Z
theorem Cm.calls {c1:List Ah} {d1 a_:Int} {enters:Bool} {r1 r2:Int} (HS:St w0 w (L)) (r_a:Av w0 L Au A_a c_a uu c1) (H:Cm.f K c1 d1 a_ enters=some (r1,r2)) :
    Calls prog 203 #[.agg [sV A_a c1 c_a,I d1].toArray,I a_,.bool enters] w (Cm.post w0 L r1 r2):=by
  unfold Cm.f at H
  refine cG func203 Z ?_
  refine sQ (rG (bA HS Z fun b1 wd2 HS=>pS 2 Z (nL (rN 5 Z ?_))))
  refine G.name (fun t1 o1=>?_)
  have s1:∀ i1,i1≤K→∀ (a1:Int) (w:World),Cm.l1 K i1 c1 a_ enters a1=some (r1,r2)→St w0 w (Box b1 56 [sV A_a c1 c_a,I d1]::L)→G prog 203 43 [(1,I a_),(2,.bool enters),(3,pT b1),(8,I a1)] t1 w (Cm.post w0 L r1 r2):=by
   refine lp (fun _ w H _=>by rw [Cm.l1] at H; cases H) fun h1 v1 u1 a1 w H HS=>?_
   rw [Cm.l1] at H
   subst o1
   refine rN 2 Z (rG (mV Z (fL b1 0 Jr Z (lB 0 HS Z Ol Z (lS Z Z U54 Z (GO.lss Z Z Z Z (nL ?_)))))))
   rcases iS H with ⟨c162,H⟩ | ⟨c162,H⟩
   ·
    refine nB Z (tF c162) (rN 3 Z ?_)
    obtain ⟨rfl,rfl⟩:=Nq H
    exact G.Lb _ _ func203 Z Z Z ⟨Z,(HS.pk 1 [] Z)⟩
   refine yB Z (tT c162) (rN 7 Z ?_)
   refine G.name (fun q1 p1=>?_)
   have m1:∀ k1,k1≤h1→∀ (e1:Int) (w:World),Cm.l4 K k1 c1 a_ enters a1 e1=some (r1,r2)→St w0 w (Box b1 56 [sV A_a c1 c_a,I d1]::L)→G prog 203 43 [(1,I a_),(2,.bool enters),(3,pT b1),(8,I a1),(9,I e1)] q1 w (Cm.post w0 L r1 r2):=by
    refine lp (fun _ w H _=>by rw [Cm.l4] at H; cases H) fun f1 n1 g1 e1 w H HS=>?_
    rw [Cm.l4] at H
    subst p1
    refine rN 3 Z ?_
    rcases iS H with ⟨c215,H⟩ | ⟨c215,H⟩
    ·
     refine nB Z (tF c215) (rN 4 Z (gW (u1 f1 (Nat.le_of_succ_le n1) _ _ H HS) Z))
    refine yB Z (tT c215) (rN 4 Z ?_)
    obtain ⟨c228,H⟩:=iN H
    obtain ⟨e229,h230,H⟩:=Cr H
    obtain ⟨t231,h232,H⟩:=bI H
    rcases iS H with ⟨c235,H⟩ | ⟨c235,H⟩
    ·
     refine rG (fL b1 0 Jr Z (lB 0 HS Z Ol Z (mV Z (iX Z U54 Oz (rk (rD 1 r_a) HS) c228 (GO.J4 (T:=Au) (n:=a1.toNat) HS (rD 1 r_a) Z Z (Ba (ltN c228) h230) Ni Z (mV Z (fJ aC Z (Jw.calls HS  h232) (fun _ wd233 ⟨h234,HS⟩=>⟨_,h234,(pS 3 Z (kN 30 Z (tF c235) (oF Z (oF Z (oF Z (oF Z (oF Z ?_)))))))⟩))))))))
     refine oF Z (oF Z (oF Z (oF Z (GO.Ki Z Z Z Z Z (nL (rN 5 Z (gW (g1 f1 (lR _) _ _ H HS) Z)))))))
    obtain ⟨t236,h237,H⟩:=bI H
    refine rG (fL b1 0 Jr Z (lB 0 HS Z Ol Z (mV Z (iX Z U54 Oz (rk (rD 1 r_a) HS) c228 (GO.J4 (T:=Au) (n:=a1.toNat) HS (rD 1 r_a) Z Z (Ba (ltN c228) h230) Ni Z (mV Z (fJ aC Z (Jw.calls HS  h232) (fun _ wd233 ⟨h234,HS⟩=>⟨_,h234,(pS 3 Z (kN 30 Z (tT c235) (oN Z (fL b1 0 Jr Z (bK (oN Z (lB 0 HS Z Ol Z ?_)))))))⟩))))))))
    refine bK (oN Z (mV Z (bK (oN Z (iX Z U54 Oz (rk (rD 1 r_a) HS) c228 (bK (oN Z (GO.J4 (T:=Au) (n:=a1.toNat) HS (rD 1 r_a) Z Z (Ba (ltN c228) h230) Ni Z (bK (oN Z (mV Z (bK (oN Z (fJ gL Z (Ij.calls HS  h237) (fun _ wd238 ⟨h239,HS⟩=>⟨_,h239,?_⟩)))))))))))))))
    refine bK (oN Z (mV Z (bK (oN Z (GO.Aa3 Z Z Z U4 Z (bK (GO.Ii Z Z Z Z Z (nL ?_))))))))
    rcases iS H with ⟨c240,H⟩ | ⟨c240,H⟩
    ·
     refine nB Z (Bt c240) (rN 4 Z (gW (g1 f1 (lR _) _ _ H HS) Z))
    refine yB Z c240 (rN 2 Z ?_)
    obtain ⟨rfl,rfl⟩:=Nq H
    exact G.Lb _ _ func203 Z Z Z ⟨Z,(HS.pk 1 [] Z)⟩
   exact gW (m1 h1 (lR _) _ _ H HS) Z
  exact gW (s1 K (lR _) _ _ H HS) Z
theorem Jd.calls {a1:List Ah} {c1 corner:Int} {r1:Int} (HS:St w0 w (L)) (r_a:Av w0 L Au A_a c_a uu a1) (H:Jd.f K a1 c1 corner=some r1) :
    Calls prog 177 #[.agg [sV A_a a1 c_a,I c1].toArray,I corner] w (Jd.post w0 L r1):=by
  unfold Jd.f at H
  refine cG func177 Z ?_
  refine sQ (rG (bA HS Z fun b1 wd2 HS=>aS Z (nL (sQ (rG (mV Z (GO.quo Z Z Z (by decide) Z (mV Z (GO.rem Z Z Z (by decide) Z (GO.add Z Z Z Z (GO.rem Z Z Z (by decide) Z (pS 2 Z (nL ?_)))))))))))))
  refine sQ ?_
  obtain ⟨c3,H⟩:=iN H
  obtain ⟨e4,h5,H⟩:=Cr H
  refine rG (fL b1 0 Jr Z (lB 0 HS Z Ol Z (mV Z (iX Z U54 Oz (rk (rD 1 r_a) HS) c3 (GO.J4 (T:=Au) (n:=(w64 (corner.tdiv 4)).toNat) HS (rD 1 r_a) Z Z (Ba (ltN c3) h5) Ni Z (GO.alloc HS Z Zl Z Z fun b6 wd7 HS=>sW 0 HS Z Ni Z fun wd8 HS=>nL (sQ ?_)))))))
  obtain ⟨t9,h10,H⟩:=bI H
  obtain ⟨t13,h14,H⟩:=bI H
  obtain ⟨t17,t18,h19,H⟩:=Dt H
  refine G.O7 mixed (fun w=>St w0 w (Box b6 163 [I e4.A,I e4.B,I e4.C,I e4.D,I e4.Sign]::Box b1 56 [sV A_a a1 c_a,I c1]::L)) [0,1,4] [2,5,0,1,4,3,6,7,8,9,10,11,12,13] [] (by kernel_rfl) (by kernel_rfl) HS.drew ?_
  replace HS:=HS.drew
  refine GX.ps 2 Z (GX.ls Z Z Z HS (fun _ HS _ g=>lW 1 HS Z Oe g) Z (GX.ls Z Z Z HS (fun _ HS _ g=>lW 0 HS Z Ni g) Z (GX.ls Z Z Z HS (fun _ HS _ g=>lW 0 HS Z Ni g) Z (GX.l2 Z (fJ aC Z (Jw.calls HS  h10) (fun _ wd11 ⟨h12,HS⟩=>⟨_,h12,(GX.fin HS (GX.l2 Z (fJ gL Z (Ij.calls HS  h14) (fun _ wd15 ⟨h16,HS⟩=>⟨_,h16,(GX.fin HS (GX.ps 1 Z (GX.l2 Z (fJ gD Z (Cm.calls HS (rD 2 r_a) h19) (fun _ wd20 ⟨h21,HS⟩=>⟨_,h21,(GX.fin HS (GX.ps 5 Z ?_))⟩)))))⟩))))⟩))))))
  refine GX.nil (rN 2 Z ?_)
  obtain rfl:=sI H
  exact rT _ func177 Z Z ⟨Z,(HS.pk 2 [] Z)⟩
theorem Ck.calls {a1:List Ah} {e1:Int} {r1:List (List Int)} (HS:St w0 w (L)) (r_a:Av w0 L Au A_a c_a uu a1) (H:Ck.f K a1 e1=some r1) :
    Calls prog 142 #[.agg [sV A_a a1 c_a,I e1].toArray] w (Ck.post w0 L r1):=by
  unfold Ck.f at H
  refine cG func142 Z ?_
  refine sQ (rG (bA HS Z fun b1 wd2 HS=>aS Z (nL (sQ (rG (GO.Gr (el:=32) ([]) HS Z Z (fun _=>by kernel_rfl) Z fun b3 wd4 HS=>?_))))))
  replace HS:=HS.aH (T:=(Ty.slice 2 (Bi .i64))) (j:=0) Z (fun _=>⟨none,0,uu⟩)
  refine GO.Oj (t:=8) (m:=([]:List (List Int)).length) (c':=0) Z Z Z (aS Z (nL (sQ ?_)))
  obtain ⟨c5,H⟩:=iN H
  obtain ⟨c6,H⟩:=iN H
  refine rG (fL b1 0 Jr Z (lB 1 HS Z Ol Z (lS Z Z U54 Z (GO.mul Z Z Z Z (GO.make (T:=Na) false () HS Bw Z Z Z Uf qR Z Z Z c5 c6 Z fun b7 wd8 HS=>aS Z (nL (rN 5 Z ?_)))))))
  refine G.name (fun u1 y1=>?_)
  have z1:∀ n1,n1≤K→∀ (A70:Option Addr) (c71:Nat) (d1:List (List Int)) (y73:Nat→(Ty.slice 2 (Bi .i64)).Lay) (i1:List Bool) (f1:Int) (w:World),Ck.l1 K n1 a1 e1 d1 i1 f1=some r1→St w0 w (Box b1 56 [sV A_a a1 c_a,I e1]::Own (Ty.slice 2 (Bi .i64)) 32 A70 c71 y73 d1::Own Na 4 (sb b7) ((w64 (4 * (a1.length:Int))).toNat) uu i1::L)→G prog 142 46 [(1,pT b1),(3,sV A70 d1 c71),(4,sV (sb b7) i1 ((w64 (4 * (a1.length:Int))).toNat)),(5,I f1)] u1 w (Ck.post w0 L r1):=by
   refine lp (fun _ _ _ _ _ _ w H _=>by rw [Ck.l1] at H; cases H) fun k1 a2 p1 A70 c71 d1 y73 i1 f1 w H HS=>?_
   rw [Ck.l1] at H
   subst y1
   refine rN 2 Z (rG (pS 2 Z (lS Z Z Uf Z (GO.lss Z Z Z Z (nL ?_)))))
   rcases iS H with ⟨c137,H⟩ | ⟨c137,H⟩
   ·
    refine nB Z (tF c137) (rN 3 Z ?_)
    obtain rfl:=sI H
    exact rT _ func142 Z Z ⟨_,_,_,Z,(HS.pk 3 [1] Z)⟩
   refine yB Z (tT c137) (rN 5 Z ?_)
   obtain ⟨c138,H⟩:=iN H
   refine rG (pS 2 Z (iX Z Uf sz4 (fun _=>⟨_,_,Z⟩) c138 (GO.Gb (T:=Na) (n:=f1.toNat) (o:=0) HS (ro 2 Z) Z Z (getD_some (d:=false) (ltN c138)) Z Z na4 Z (nL ?_))))
   rcases iE H with ⟨c139,H⟩ | ⟨c139,H⟩
   ·
    refine yB Z c139 (rN 3 Z (gW (p1 k1 (lR _) _ _ _ _ _ _ _ H HS) Z))
   refine nB Z (Bt c139) (rN 2 Z (rG (GO.Gr (el:=2) ([]) HS Z Z (fun _=>by kernel_rfl) Z fun b140 wd141 HS=>?_)))
   replace HS:=HS.Le (T:=(Bi .i64)) (j:=0) Z Bw uu ([]:List Int) Z (Qd Z)
   refine GO.Oj (t:=24) (m:=([]:List Int).length) (c':=([]:List Int).length) Z Z Z (aS Z (nL (rN 5 Z ?_)))
   refine G.name (fun x1 t1=>?_)
   have q1:∀ o1,o1≤k1→∀ (h1:List Bool) (A154:Option Addr) (c155:Nat) (g1:List Int) (c1:Int) (w:World),Ck.l4 K o1 a1 e1 d1 f1 h1 g1 c1=some r1→St w0 w (Box b1 56 [sV A_a a1 c_a,I e1]::Own (Ty.slice 2 (Bi .i64)) 32 A70 c71 y73 d1::Own Na 4 (sb b7) ((w64 (4 * (a1.length:Int))).toNat) uu h1::Own (Bi .i64) 2 A154 c155 uu g1::L)→G prog 142 46 [(1,pT b1),(3,sV A70 d1 c71),(4,sV (sb b7) h1 ((w64 (4 * (a1.length:Int))).toNat)),(5,I f1),(6,sV A154 g1 c155),(7,I c1)] x1 w (Ck.post w0 L r1):=by
    refine lp (fun _ _ _ _ _ w H _=>by rw [Ck.l4] at H; cases H) fun m1 s1 v1 h1 A154 c155 g1 c1 w H HS=>?_
    rw [Ck.l4] at H
    subst t1
    refine rN 2 Z ?_
    obtain ⟨c178,H⟩:=iN H
    refine rG (pS 2 Z (iX Z Uf sz4 (fun _=>⟨_,_,Z⟩) c178 (GO.Gb (T:=Na) (n:=c1.toNat) (o:=0) HS (ro 2 Z) Z Z (getD_some (d:=false) (ltN c178)) Z Z na4 Z (GO.not Z Z Z (nL ?_)))))
    rcases iE H with ⟨c179,H⟩ | ⟨c179,H⟩
    ·
     refine nB Z (congrArg Bool.not c179) (G.exit Z ?_)
     obtain ⟨c185,H⟩:=iN H
     refine rG (pS 2 Z (GO.Gr (el:=32) ([sV A154 g1 c155]) HS Z Z (fun _=>by kernel_rfl) Z fun b180 wd181 HS=>?_))
     replace HS:=HS.pk 5 [2,0,4,1,3] Z
     refine GO.dW (S:=(Bi .i64)) (u:=2) HS Z Z Z pK uH Z Z c185 Z fun A183 c184 y186 wd182 HS=>aS Z (nL (rN 3 Z (gW (p1 m1 (Nat.le_of_succ_le s1) _ _ _ _ _ _ _ H (HS.pk 4 [2,0,3] Z)) Z)))
    refine yB Z (congrArg Bool.not (Bt c179)) (rN 4 Z (rG (pS 2 Z (iX Z Uf sz4 (fun _=>⟨_,_,Z⟩) c178 (GO.N9 (T:=Na) (j:=2) (n:=c1.toNat) (o:=0) (vs:=[.bool true]) true HS Z Bw Z Z Z Z (htN na4 Z) Z (getD_some (d:=false) (ltN c178)) Z Z fun wd187 HS=>nL (G.len (t:=4) (m:=(h1.set c1.toNat true).length) Z (by simp only [List.length_set] <;> rfl) ?_))))))
    obtain ⟨c193,H⟩:=iN H
    refine rG (pS 2 Z (GO.Gr (el:=2) ([I c1]) HS Z Z (fun _=>by kernel_rfl) Z fun b188 wd189 HS=>GO.app1 (T:=(Bi .i64)) (j:=4) (jb:=0) c1 HS Z Z Bw Z Z Z U32 Va Z Z Z c193 Z fun A191 c192 wd190 HS=>aS Z (nL (G.bW ?_))))
    obtain ⟨t194,h195,H⟩:=bI H
    refine rG (lW 1 HS Z Oe (mV Z (fJ vZ Z (Jd.calls HS (rD 5 r_a) h195) (fun _ wd196 ⟨h197,HS⟩=>⟨_,h197,(aS Z (nL (G.again (gW (v1 m1 (lR _) _ _ _ _ _ _ H (HS.pk 5 [1,2,3,4] Z)) Z))))⟩))))
   exact gW (q1 k1 (lR _) _ _ _ _ _ _ H (HS.pk 4 [1,2,3,0] Z)) Z
  exact gW (z1 K (lR _) _ _ _ _ _ _ _ H (HS.pk 3 [2,1,0] Z)) Z
theorem Cj.calls {c1:List Ah} {d1:Int} {r1:List Int} (HS:St w0 w (L)) (r_a:Av w0 L Au A_a c_a uu c1) (H:Cj.f K c1 d1=some r1) :
    Calls prog 178 #[.agg [sV A_a c1 c_a,I d1].toArray] w (Cj.post w0 L r1):=by
  unfold Cj.f at H
  refine cG func178 Z ?_
  refine sQ (rG (bA HS Z fun b1 wd2 HS=>aS Z (nL (sQ (rG (GO.Gr (el:=2) ([]) HS Z Z (fun _=>by kernel_rfl) Z fun b3 wd4 HS=>?_))))))
  replace HS:=HS.Le (T:=(Bi .i64)) (j:=0) Z Bw uu ([]:List Int) Z (Qd Z)
  refine GO.Oj (t:=13) (m:=([]:List Int).length) (c':=([]:List Int).length) Z Z Z (aS Z (nL (rN 5 Z ?_)))
  refine G.name (fun u1 c2=>?_)
  have d2:∀ o1,o1≤K→∀ (A101:Option Addr) (c102:Nat) (i1:List Int) (f1:Int) (w:World),Cj.l1 K o1 c1 d1 i1 f1=some r1→St w0 w (Box b1 56 [sV A_a c1 c_a,I d1]::Own (Bi .i64) 2 A101 c102 uu i1::L)→G prog 178 74 [(1,pT b1),(3,sV A101 i1 c102),(4,I f1)] u1 w (Cj.post w0 L r1):=by
   refine lp (fun _ _ _ _ w H _=>by rw [Cj.l1] at H; cases H) fun m1 h2 e2 A101 c102 i1 f1 w H HS=>?_
   rw [Cj.l1] at H
   subst c2
   refine rN 2 Z (rG (mV Z (fL b1 0 Jr Z (lB 0 HS Z Ol Z (lS Z Z U54 Z (GO.lss Z Z Z Z (nL ?_)))))))
   rcases iE H with ⟨c201,H⟩ | ⟨c201,H⟩
   ·
    refine yB Z (tT c201) (rN 3 Z ?_)
    obtain ⟨c207,H⟩:=iN H
    refine rG (pS 2 Z (GO.Gr (el:=2) ([I f1]) HS Z Z (fun _=>by kernel_rfl) Z fun b202 wd203 HS=>GO.app1 (T:=(Bi .i64)) (j:=2) (jb:=0) f1 HS Z Z Bw Z Z Z U32 Va Z Z Z c207 Z fun A205 c206 wd204 HS=>aS Z (nL (rN 3 Z (gW (e2 m1 (lR _) _ _ _ _ _ H (HS.pk 3 [1,2] Z)) Z)))))
   refine nB Z (tF c201) (rN 6 Z ?_)
   refine G.name (fun a2 y1=>?_)
   have v1:∀ s1,s1≤m1→∀ (a1:List Int) (g1:Int) (w:World),Cj.l10 K s1 c1 d1 a1 g1=some r1→St w0 w (Box b1 56 [sV A_a c1 c_a,I d1]::Own (Bi .i64) 2 A101 c102 uu a1::L)→G prog 178 74 [(1,pT b1),(3,sV A101 a1 c102),(5,I g1)] a2 w (Cj.post w0 L r1):=by
    refine lp (fun _ _ w H _=>by rw [Cj.l10] at H; cases H) fun q1 g2 b2 a1 g1 w H HS=>?_
    rw [Cj.l10] at H
    subst y1
    refine rN 2 Z (rG (mV Z (fL b1 0 Jr Z (lB 0 HS Z Ol Z (lS Z Z U54 Z (pS 2 Z (nL ?_)))))))
    rcases iS H with ⟨c268,H⟩ | ⟨c268,H⟩
    ·
     refine nB Z (tF c268) (rN 3 Z ?_)
     obtain rfl:=sI H
     exact rT _ func178 Z Z ⟨_,_,Z,(HS.pk 2 [1] Z)⟩
    refine yB Z (tT c268) (rN 4 Z ?_)
    obtain ⟨t269,t270,h271,H⟩:=Dt H
    refine rG (lW 0 HS Z Oe (mV Z (fJ gD Z (Cm.calls HS (rD 2 r_a) h271) (fun _ wd272 ⟨h273,HS⟩=>⟨_,h273,(pS 5 Z (nL (sQ ?_)))⟩))))
    obtain ⟨t274,t275,h276,H⟩:=Dt H
    refine rG (lW 0 HS Z Oe (mV Z (fJ gD Z (Cm.calls HS (rD 2 r_a) h276) (fun _ wd277 ⟨h278,HS⟩=>⟨_,h278,(pS 5 Z (nL (sQ ?_)))⟩))))
    obtain ⟨c279,H⟩:=iN H
    have h280:=(rk (ro 1 Z) HS)
    obtain ⟨c281,H⟩:=iN H
    have h282:=(rk (ro 1 Z) HS)
    refine G.lex mixed [0,1,2,4,5,6,3,8,7,9] (by kernel_rfl) ?_
    replace HS:=HS.drew
    refine GX.ps 2 Z (qL Z Z (fun _ _ g=>iX Z U32 sz2 h280 c279 g) Z (GX.ps 2 Z (qL Z Z (fun _ _ g=>iX Z U32 sz2 h282 c281 g) Z (GX.l1 Z Z Z (fun _ g=>GO.Gb (T:=(Bi .i64)) (n:=t269.toNat) (o:=0) HS (ro 1 Z) Z Z (getD_some (d:=0) (ltN c279)) Z Z na2 Z g) Z (GX.ps 1 Z (GX.l1 Z Z Z (fun _ g=>GO.Gb (T:=(Bi .i64)) (n:=t274.toNat) (o:=0) HS (ro 1 Z) Z Z (getD_some (d:=0) (ltN c281)) Z Z na2 Z g) Z (GX.ps 1 Z (GX.nil (rN 4 Z ?_)))))))))
    refine G.name (fun x1 z1=>?_)
    have f2:∀ p1,p1≤q1→∀ (h1:List Int) (e1:Int) (w:World),Cj.l13 K p1 c1 d1 a1 g1 t269 t274 h1 e1=some r1→St w0 w (Box b1 56 [sV A_a c1 c_a,I d1]::Own (Bi .i64) 2 A101 c102 uu h1::L)→G prog 178 74 [(1,pT b1),(3,sV A101 h1 c102),(5,I g1),(10,I (a1.getD t269.toNat 0)),(11,I (a1.getD t274.toNat 0)),(12,I e1)] x1 w (Cj.post w0 L r1):=by
     refine lp (fun _ _ w H _=>by rw [Cj.l13] at H; cases H) fun k1 t1 n1 h1 e1 w H HS=>?_
     rw [Cj.l13] at H
     subst z1
     refine rN 2 Z (rG (pS 2 Z (lS Z Z U32 Z (GO.lss Z Z Z Z (nL ?_)))))
     rcases iS H with ⟨c293,H⟩ | ⟨c293,H⟩
     ·
      refine nB Z (tF c293) (rN 4 Z (gW (b2 k1 (Nat.le_of_succ_le t1) _ _ _ H HS) Z))
     refine yB Z (tT c293) (rN 4 Z ?_)
     obtain ⟨c294,H⟩:=iN H
     refine rG (pS 2 Z (iX Z U32 sz2 (rk (ro 1 Z) HS) c294 (GO.Gb (T:=(Bi .i64)) (n:=e1.toNat) (o:=0) HS (ro 1 Z) Z Z (getD_some (d:=0) (ltN c294)) Z Z na2 Z (pS 2 Z (GO.max2 Z Z Z Z (GO.eql Z Z Z Z (nL ?_)))))))
     rcases iS H with ⟨c295,H⟩ | ⟨c295,H⟩
     ·
      refine nB Z (tF c295) (rN 4 Z (gW (n1 k1 (lR _) _ _ _ H HS) Z))
     refine yB Z (tT c295) (rG (pS 4 Z (GO.min2 Z Z Z Z (iX Z U32 sz2 (rk (ro 1 Z) HS) c294 (GO.N9 (T:=(Bi .i64)) (j:=1) (n:=e1.toNat) (o:=0) (vs:=[I (if a1.getD t274.toNat 0<a1.getD t269.toNat 0 then a1.getD t274.toNat 0 else a1.getD t269.toNat 0)]) (if a1.getD t274.toNat 0<a1.getD t269.toNat 0 then a1.getD t274.toNat 0 else a1.getD t269.toNat 0) HS Z Bw Z Z Z Z (htN na2 Z) Z (getD_some (d:=0) (ltN c294)) Z Z fun wd296 HS=>nL (G.len (t:=3) (m:=(h1.set e1.toNat (if a1.getD t274.toNat 0<a1.getD t269.toNat 0 then a1.getD t274.toNat 0 else a1.getD t269.toNat 0)).length) Z (by simp only [List.length_set] <;> rfl) (rN 3 Z (gW (n1 k1 (lR _) _ _ _ H HS) Z))))))))
    exact gW (f2 q1 (lR _) _ _ _ H HS) Z
   exact gW (v1 m1 (lR _) _ _ _ H HS) Z
  exact gW (d2 K (lR _) _ _ _ _ _ H (HS.pk 2 [1,0] Z)) Z
theorem De.calls {c1:List Ah} {e1:Int} {r1:Int} (HS:St w0 w (L)) (r_a:Av w0 L Au A_a c_a uu c1) (H:De.f K c1 e1=some r1) :
    Calls prog 143 #[.agg [sV A_a c1 c_a,I e1].toArray] w (De.post w0 L r1):=by
  unfold De.f at H
  refine cG func143 Z ?_
  refine sQ (rG (bA HS Z fun b1 wd2 HS=>aS Z (nL (rN 3 Z ?_))))
  obtain ⟨t3,h4,H⟩:=bI H
  refine rG (lW 0 HS Z Oe (fJ xY Z (Cj.calls HS (rD 1 r_a) h4) (fun _ wd7 ⟨A5,c6,h8,HS⟩=>⟨_,h8,(aS Z (nL (rN 5 Z ?_)))⟩)))
  refine G.name (fun m1 i1=>?_)
  have k1:∀ g1,g1≤K→∀ (d1 a1:Int) (w:World),De.l1 K g1 t3 d1 a1=some r1→St w0 w (Own (Bi .i64) 2 A5 c6 uu t3::L)→G prog 143 23 [(3,I d1),(4,sV A5 t3 c6),(5,I a1)] m1 w (De.post w0 L r1):=by
   refine lp (fun _ _ w H _=>by rw [De.l1] at H; cases H) fun f1 n1 h1 d1 a1 w H HS=>?_
   rw [De.l1] at H
   subst i1
   refine rN 2 Z (rG (pS 2 Z (lS Z Z U32 Z (GO.lss Z Z Z Z (nL ?_)))))
   rcases iS H with ⟨c17,H⟩ | ⟨c17,H⟩
   ·
    refine nB Z (tF c17) (rN 3 Z ?_)
    obtain rfl:=sI H
    exact rT _ func143 Z Z ⟨Z,(HS.pk 1 [] Z)⟩
   refine yB Z (tT c17) (rN 4 Z ?_)
   obtain ⟨c18,H⟩:=iN H
   refine rG (pS 2 Z (iX Z U32 sz2 (rk (ro 0 Z) HS) c18 (GO.Gb (T:=(Bi .i64)) (n:=a1.toNat) (o:=0) HS (ro 0 Z) Z Z (getD_some (d:=0) (ltN c18)) Z Z na2 Z (pS 2 Z (nL ?_)))))
   rcases iS H with ⟨c19,H⟩ | ⟨c19,H⟩
   ·
    refine nB Z (tF c19) (rN 4 Z (gW (h1 f1 (lR _) _ _ _ H HS) Z))
   refine yB Z (tT c19) (rN 4 Z (gW (h1 f1 (lR _) _ _ _ H HS) Z))
  exact gW (k1 K (lR _) _ _ _ H (HS.pk 2 [0] Z)) Z
theorem Jf.calls {a1:List Ah} {c1:Int} {r1:Bool} (HS:St w0 w (L)) (r_a:Av w0 L Au A_a c_a uu a1) (H:Jf.f K a1 c1=some r1) :
    Calls prog 97 #[.agg [sV A_a a1 c_a,I c1].toArray] w (Jf.post w0 L r1):=by
  unfold Jf.f at H
  refine cG func97 Z ?_
  refine sQ (rG (bA HS Z fun b1 wd2 HS=>aS Z (nL (rN 2 Z ?_))))
  rcases iE H with ⟨c13,H⟩ | ⟨c13,H⟩
  ·
   refine rG (fL b1 0 Jr Z (lB 0 HS Z Ol Z (lS Z Z U54 Z (pS 2 Z (kN 7 Z (tT c13) (oF Z (oF Z (oF Z (oF Z (pS 2 Z (oF Z (oF Z (oF Z (GO.Ii Z Z Z Z Z ?_))))))))))))))
   refine nL (rN 3 Z ?_)
   obtain rfl:=sI H
   exact rT _ func97 Z Z ⟨Z,(HS.pk 1 [] Z)⟩
  obtain ⟨t14,h15,H⟩:=bI H
  rcases iS H with ⟨c18,H⟩ | ⟨c18,H⟩
  ·
   refine rG (fL b1 0 Jr Z (lB 0 HS Z Ol Z (lS Z Z U54 Z (pS 2 Z (kN 7 Z (tF c13) (oN Z (fL b1 1 Qi Z (bK (oN Z (lB 0 HS Z na2 Z (bK (oN Z (fJ Q6 Z (Ef.calls HS  h15) (fun _ wd16 ⟨h17,HS⟩=>⟨_,h17,(bK ?_)⟩))))))))))))))
   refine oN Z (GO.not Z Z Z (bK (pS 2 Z (kN 13 Z (congrArg Bool.not (Bt c18)) (oF Z (oF Z (oF Z (GO.Ii Z Z Z Z Z (nL (rN 3 Z ?_))))))))))
   obtain rfl:=sI H
   exact rT _ func97 Z Z ⟨Z,(HS.pk 1 [] Z)⟩
  obtain ⟨t19,h20,H⟩:=bI H
  refine rG (fL b1 0 Jr Z (lB 0 HS Z Ol Z (lS Z Z U54 Z (pS 2 Z (kN 7 Z (tF c13) (oN Z (fL b1 1 Qi Z (bK (oN Z (lB 0 HS Z na2 Z (bK (oN Z (fJ Q6 Z (Ef.calls HS  h15) (fun _ wd16 ⟨h17,HS⟩=>⟨_,h17,(bK ?_)⟩))))))))))))))
  refine oN Z (GO.not Z Z Z (bK (pS 2 Z (kN 13 Z (congrArg Bool.not c18) (oN Z (lW 0 HS Z Oe (bK (oN Z (fJ zA Z (Bg.calls HS (rD 1 r_a) h20) (fun _ wd21 ⟨h22,HS⟩=>⟨_,h22,(bK (oN Z (GO.not Z Z Z (bK (GO.Ki Z Z Z Z Z ?_)))))⟩))))))))))
  refine nL ?_
  rcases iS H with ⟨c23,H⟩ | ⟨c23,H⟩
  ·
   refine yB Z (congrArg Bool.not (Bt c23)) (rN 2 Z ?_)
   obtain rfl:=sI H
   exact rT _ func97 Z Z ⟨Z,(HS.pk 1 [] Z)⟩
  refine nB Z (congrArg Bool.not c23) (rN 2 Z ?_)
  obtain ⟨t24,h25,H⟩:=bI H
  obtain ⟨t31,h32,H⟩:=bI H
  refine G.O7 mixed (fun w=>St w0 w (Box b1 56 [sV A_a a1 c_a,I c1]::L)) [0,2,4,5,6] [3,0,4,5,6,1,2,7,8,9,10,11] [] (by kernel_rfl) (by kernel_rfl) HS.drew ?_
  replace HS:=HS.drew
  refine qL Z Z (fun _ _ g=>fL b1 0 Jr Z g) Z (GX.ls Z Z Z HS (fun _ HS _ g=>lW 0 HS Z Oe g) Z (GX.ls Z Z Z HS (fun _ HS _ g=>lB 0 HS Z Ol Z g) Z (GX.ls Z Z Z HS (fun _ HS _ g=>lS Z Z U54 Z g) Z (GX.ls Z Z Z HS (fun _ HS _ g=>lW 0 HS Z Oe g) Z (GX.l2 Z (fJ xJ Z (Ck.calls HS (rD 1 r_a) h25) (fun _ wd29 ⟨A26,c27,y28,h30,HS⟩=>⟨_,h30,(GX.fin (HS.pk 2 [1] Z) (GX.ls Z Z Z (HS.pk 2 [1] Z) (fun _ HS _ g=>lS Z Z pK Z g) Z (GX.l2 Z (fJ yN Z (De.calls HS (rD 2 r_a) h32) (fun _ wd33 ⟨h34,HS⟩=>⟨_,h34,(GX.fin (HS.pk 2 [1] Z) (GX.ps 4 Z (GX.nil ?_)))⟩)))))⟩)))))))
  obtain rfl:=sI H
  exact rT _ func97 Z Z ⟨Z,(HS.pk 2 [] Z)⟩
theorem Ku.calls {n_ strands:Int} {r1:Bool} (HS:St w0 w (L)) (H:Ku.f n_ strands=some r1) :
    Calls prog 144 #[I n_,I strands] w (Ku.post w0 L r1):=by
  unfold Ku.f at H
  refine cG func144 Z ?_
  refine rN 3 Z ?_
  rcases iE H with ⟨c1,H⟩ | ⟨c1,H⟩
  ·
   refine rG (pS 3 Z (kN 7 Z (nT c1) (oF Z (oF Z (oF Z (oF Z (oF Z (oF Z (pS 2 Z (nL ?_))))))))))
   obtain rfl:=sI H
   exact rT _ func144 Z Z ⟨Z,HS⟩
  obtain ⟨t2,h3,H⟩:=bI H
  refine rG (pS 3 Z (kN 7 Z (nF c1) (oN Z (mV Z (bK (oN Z (mV Z (bK (oN Z (GO.sub Z Z Z Z (bK (oN Z (mV Z (bK ?_))))))))))))))
  refine oN Z (GO.sub Z Z Z Z (bK (oN Z (fJ Q6 Z (Ef.calls HS  h3) (fun _ wd4 ⟨h5,HS⟩=>⟨_,h5,(bK (pS 2 Z (nL ?_)))⟩)))))
  obtain rfl:=sI H
  exact rT _ func144 Z Z ⟨Z,HS⟩
end Go.Proofs.YtjopfecenllmgaaGreatDoor
