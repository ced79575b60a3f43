/-
  The walks through the functions: a call comes to what its list function says.
-/
import Derived.Test.YtgkgmhkgahalgaaGreatAlF
set_option linter.unusedVariables false
set_option linter.unusedSimpArgs false
namespace Go.Proofs.YtgkgmhkgahalgaaGreat
open Go.RowKit
open Tryz
variable {w0 w:World} {L:List Df} {K:Nat} {A_a A_b A_c A_d A_e A_f A_g A_h A_i A_j A_k A_l A_m A_n A_o A_p A_q A_r A_s A_t A_u A_v A_w A_x A_y A_z:Option Addr} {c_a c_b c_c c_d c_e c_f c_g c_h c_i c_j c_k c_l c_m c_n c_o c_p c_q c_r c_s c_t c_u c_v c_w c_x c_y c_z:Nat}
set_option maxRecDepth 20000
set_option maxHeartbeats 40000000
theorem Gd.calls {a_ b_:List Int} {r1:Bool} (HS:St w0 w (L)) (r_a:Ce w0 L (Ad .i64) A_a c_a uu a_) (r_b:Ce w0 L (Ad .i64) A_b c_b uu b_) (H:Gd.f K a_ b_=some r1) :
    Calls prog 21 #[sV A_a a_ c_a,sV A_b b_ c_b] w (Gd.post w0 L r1):=by
  unfold Gd.f at H
  refine cG func21 Z ?_
  refine rN 4 Z (rG (mV Z (lS Z Z U26 Z (mV Z (lS Z Z U26 Z (GO.neq Z Z Z Z (nL ?_)))))))
  rcases iS H with ⟨c1,H⟩ | ⟨c1,H⟩
  ·
   refine yB Z (nF c1) (rN 2 Z ?_)
   obtain rfl:=sI H
   exact rT _ func21 Z Z ⟨Z,HS⟩
  refine nB Z (nT c1) (rN 6 Z ?_)
  refine G.name (fun f1 d1=>?_)
  have e1:∀ a1,a1≤K→∀ (i_6:Int) (w:World),Gd.l1 K a1 a_ b_ i_6=some r1→St w0 w (L)→G prog 21 26 [(0,sV A_a a_ c_a),(1,sV A_b b_ c_b),(5,I i_6)] f1 w (Gd.post w0 L r1):=by
   refine lp (fun _ w H _=>by rw [Gd.l1] at H; cases H) fun b1 h1 g1 i_6 w H HS=>?_
   rw [Gd.l1] at H
   subst d1
   refine rN 2 Z (rG (pS 2 Z (lS Z Z U26 Z (GO.lss Z Z Z Z (nL ?_)))))
   rcases iS H with ⟨c11,H⟩ | ⟨c11,H⟩
   ·
    refine nB Z (tF c11) (rN 3 Z ?_)
    obtain rfl:=sI H
    exact rT _ func21 Z Z ⟨Z,HS⟩
   refine yB Z (tT c11) (rN 4 Z ?_)
   obtain ⟨c12,H⟩:=iN H
   obtain ⟨c13,H⟩:=iN H
   refine G.lex mixed [0,1,2,4,5,6,3,7,8] (by kernel_rfl) ?_
   replace HS:=HS.drew
   refine GX.ps 2 Z (qL Z Z (fun _ _ g=>iX Z U26 sz2 (rk r_a HS) c12 g) Z (GX.ps 2 Z (qL Z Z (fun _ _ g=>iX Z U26 sz2 (rk r_b HS) c13 g) Z (GX.l1 Z Z Z (fun _ g=>GO.Dt (T:=(Ad .i64)) (n:=i_6.toNat) (o:=0) HS r_a Z Z (getD_some (d:=0) (ltN c12)) Z Z na2 Z g) Z (GX.l1 Z Z Z (fun _ g=>GO.Dt (T:=(Ad .i64)) (n:=i_6.toNat) (o:=0) HS r_b Z Z (getD_some (d:=0) (ltN c13)) Z Z na2 Z g) Z (GX.ps 1 Z (GX.nil ?_)))))))
   rcases iS H with ⟨c14,H⟩ | ⟨c14,H⟩
   ·
    refine yB Z (nF c14) (rN 2 Z ?_)
    obtain rfl:=sI H
    exact rT _ func21 Z Z ⟨Z,HS⟩
   refine nB Z (nT c14) (rN 4 Z (gW (g1 b1 (lR _) _ _ H HS) Z))
  exact gW (e1 K (lR _) _ _ H HS) Z
theorem Fw.calls {a_:List Aw} {k_:Int} {r1:Int} {r2:List Aw} (HS:St w0 w (Own Bb 83 A_a c_a uu a_::L)) (H:Fw.f K a_ k_=some (r1,r2)) :
    Calls prog 91 #[sV A_a a_ c_a,I k_] w (Fw.post w0 L A_a c_a r1 r2):=by
  unfold Fw.f at H
  refine cG func91 Z ?_
  refine rN 7 Z ?_
  refine G.name (fun g1 e1=>?_)
  have f1:∀ c1,c1≤K→∀ (x10:List Aw) (a1 b1:Int) (w:World),Fw.l1 K c1 x10 a1 b1=some (r1,r2)→St w0 w (Own Bb 83 A_a c_a uu x10::L)→G prog 91 27 [(0,sV A_a x10 c_a),(1,I a1),(5,I b1)] g1 w (Fw.post w0 L A_a c_a r1 r2):=by
   refine lp (fun _ _ _ w H _=>by rw [Fw.l1] at H; cases H) fun d1 i1 h1 x10 a1 b1 w H HS=>?_
   rw [Fw.l1] at H
   subst e1
   refine rN 2 Z (rG (pS 2 Z (lS Z Z U81 Z (GO.lss Z Z Z Z (nL ?_)))))
   rcases iS H with ⟨c22,H⟩ | ⟨c22,H⟩
   ·
    refine nB Z (tF c22) (rN 3 Z ?_)
    obtain ⟨rfl,rfl⟩:=I6 H
    exact rT _ func91 Z Z ⟨Z,HS⟩
   refine yB Z (tT c22) (rN 4 Z ?_)
   obtain ⟨c23,H⟩:=iN H
   obtain ⟨e25,h26,H⟩:=Ih H
   refine rG (pS 3 Z (iX Z U81 Nr (rk (ro 0 Z) HS) c23 (GO.fld (ea A_a (b1.toNat * 2)) Z Z Hf Z Z (GO.Ia (T:=Bb) (j:=0) (n:=b1.toNat) (o:=0) (vs:=[I a1]) ({ e25 with Tet:=a1 }) HS Z Av Z Z Z Z (htN na2 Z) Z (Hm (ltN c23) h26) Z Z fun wd24 HS=>nL (G.len (t:=0) (m:=(x10.set b1.toNat ({ e25 with Tet:=a1 })).length) Z (by simp only [List.length_set] <;> rfl) (rN 3 Z ?_))))))
   obtain ⟨c27,H⟩:=iN H
   obtain ⟨e29,h30,H⟩:=Ih H
   refine rG (pS 3 Z (iX Z U81 Nr (rk (ro 0 Z) HS) c27 (GO.fld (ea A_a (b1.toNat * 2+1)) Z Z Jy (U7 _ _ _) Z (GO.Ia (T:=Bb) (j:=0) (n:=b1.toNat) (o:=1) (vs:=[I (w64 (a1+1))]) ({ e29 with Perm:=w64 (a1+1) }) HS Z Av Z Z Z Z (htN na2 Z) Z (Hm (ltN c27) h30) Z Z fun wd28 HS=>nL (G.len (t:=0) (m:=((x10.set b1.toNat ({ e25 with Tet:=a1 })).set b1.toNat ({ e29 with Perm:=w64 (a1+1) })).length) Z (by simp only [List.length_set] <;> rfl) (rN 4 Z (gW (h1 d1 (lR _) _ _ _ _ H HS) Z)))))))
  exact gW (f1 K (lR _) _ _ _ _ H HS) Z
theorem E9.calls {a_:List (List Aw)} {k_:Int} {y_a:Nat→(Ty.slice 83 Bb).Lay} {r1:Int} {r2:List (List Aw)} (HS:St w0 w (Own (Ty.slice 83 Bb) 81 A_a c_a y_a a_::L)) (H:E9.f K a_ k_=some (r1,r2)) :
    Calls prog 42 #[sV A_a a_ c_a,I k_] w (E9.post w0 L A_a c_a y_a r1 r2):=by
  unfold E9.f at H
  refine cG func42 Z ?_
  refine rN 7 Z ?_
  refine G.name (fun g1 e1=>?_)
  have f1:∀ c1,c1≤K→∀ (x9:List (List Aw)) (b1 a1:Int) (w:World),E9.l1 K c1 x9 b1 a1=some (r1,r2)→St w0 w (Own (Ty.slice 83 Bb) 81 A_a c_a y_a x9::L)→G prog 42 19 [(0,sV A_a x9 c_a),(1,I b1),(5,I a1)] g1 w (E9.post w0 L A_a c_a y_a r1 r2):=by
   refine lp (fun _ _ _ w H _=>by rw [E9.l1] at H; cases H) fun d1 i1 h1 x9 b1 a1 w H HS=>?_
   rw [E9.l1] at H
   subst e1
   refine rN 2 Z (rG (pS 2 Z (lS Z Z U31 Z (GO.lss Z Z Z Z (nL ?_)))))
   rcases iS H with ⟨c20,H⟩ | ⟨c20,H⟩
   ·
    refine nB Z (tF c20) (rN 3 Z ?_)
    obtain ⟨rfl,rfl⟩:=I6 H
    exact rT _ func42 Z Z ⟨Z,HS⟩
   refine yB Z (tT c20) (rN 3 Z ?_)
   obtain ⟨c21,H⟩:=iN H
   obtain ⟨t22,t23,h24,H⟩:=De H
   obtain ⟨c25,H⟩:=iN H
   refine rG (pS 2 Z (iX Z U31 Nh (rk (ro 0 Z) HS) c21 (GO.Dt (T:=(Ty.slice 83 Bb)) (n:=a1.toNat) (o:=0) HS (ro 0 Z) Z Z (getD_some (d:=[]) (ltN c21)) Z Z Ng Z (mV Z ?_))))
   replace HS:=HS.lD Fld.id (getD_some (d:=[]) (ltN c21))
   refine fJ yU Z (Fw.calls HS  h24) (fun _ wd26 ⟨h27,HS⟩=>⟨_,h27,?_⟩)
   replace HS:=St.Zv (y:=t23) Fld.id (getD_some (d:=[]) (ltN c21)) (congrArg (fun m=>([.slice ((y_a a1.toNat).A) m ((y_a a1.toNat).c)]:List Value)) c25) HS
   refine aS Z (nL (G.len (t:=0) (m:=(x9.set a1.toNat t23).length) Z (by simp only [List.length_set,List.length_set] <;> rfl) (rN 3 Z (gW (h1 d1 (lR _) _ _ _ _ H HS) Z))))
  exact gW (f1 K (lR _) _ _ _ _ H HS) Z
theorem G5.calls {a1:List (List Aw)} {k_:Int} {y_a:Nat→(Ty.slice 83 Bb).Lay} {r1:Int} {r2:List (List Aw)} (HS:St w0 w (Own (Ty.slice 83 Bb) 81 A_a c_a y_a a1::L)) (H:G5.f K a1 k_=some (r1,r2)) :
    Calls prog 14 #[.agg [sV A_a a1 c_a].toArray,I k_] w (G5.post w0 L A_a c_a y_a r1 r2):=by
  unfold G5.f at H
  refine cG func14 Z ?_
  refine sQ (rG (bA HS Z fun b1 wd2 HS=>aS Z (nL (sQ ?_))))
  obtain ⟨t3,t4,h5,H⟩:=De H
  obtain ⟨c6,H⟩:=iN H
  refine rG (fL b1 0 H8 Z (lB 0 HS Z Kr Z (mV Z ?_)))
  replace HS:=HS.pk 2 [1,0] Z
  refine fJ yO Z (E9.calls HS  h5) (fun _ wd7 ⟨h8,HS⟩=>⟨_,h8,(aS Z (nL ?_))⟩)
  replace HS:=HS.F8 (j:=1) (cs':=[sV A_a t4 c_a]) Z (by simp only [sV,List.length_set,c6] <;> rfl)
  refine rN 2 Z ?_
  obtain ⟨rfl,rfl⟩:=I6 H
  exact rT _ func14 Z Z ⟨Z,(HS.pk 2 [0] Z)⟩
theorem E5.calls {a_:List Int} {k_:Int} {r1:Int} {r2:List Int} (HS:St w0 w (Own (Ad .i64) 2 A_a c_a uu a_::L)) (H:E5.f K a_ k_=some (r1,r2)) :
    Calls prog 22 #[sV A_a a_ c_a,I k_] w (E5.post w0 L A_a c_a r1 r2):=by
  unfold E5.f at H
  refine cG func22 Z ?_
  refine rN 7 Z ?_
  refine G.name (fun e1 c1=>?_)
  have d1:∀ a1,a1≤K→∀ (x4:List Int) (k_5 i_6:Int) (w:World),E5.l1 K a1 x4 k_5 i_6=some (r1,r2)→St w0 w (Own (Ad .i64) 2 A_a c_a uu x4::L)→G prog 22 19 [(0,sV A_a x4 c_a),(1,I k_5),(5,I i_6)] e1 w (E5.post w0 L A_a c_a r1 r2):=by
   refine lp (fun _ _ _ w H _=>by rw [E5.l1] at H; cases H) fun b1 g1 f1 x4 k_5 i_6 w H HS=>?_
   rw [E5.l1] at H
   subst c1
   refine rN 2 Z (rG (pS 2 Z (lS Z Z U26 Z (GO.lss Z Z Z Z (nL ?_)))))
   rcases iS H with ⟨c10,H⟩ | ⟨c10,H⟩
   ·
    refine nB Z (tF c10) (rN 3 Z ?_)
    obtain ⟨rfl,rfl⟩:=I6 H
    exact rT _ func22 Z Z ⟨Z,HS⟩
   refine yB Z (tT c10) (rN 4 Z ?_)
   obtain ⟨c11,H⟩:=iN H
   refine rG (pS 3 Z (iX Z U26 sz2 (rk (ro 0 Z) HS) c11 (GO.Ia (T:=(Ad .i64)) (j:=0) (n:=i_6.toNat) (o:=0) (vs:=[I k_5]) k_5 HS Z Av Z Z Z Z (htN na2 Z) Z (getD_some (d:=0) (ltN c11)) Z Z fun wd12 HS=>nL (G.len (t:=0) (m:=(x4.set i_6.toNat k_5).length) Z (by simp only [List.length_set] <;> rfl) (rN 4 Z (gW (f1 b1 (lR _) _ _ _ _ H HS) Z))))))
  exact gW (d1 K (lR _) _ _ _ _ H HS) Z
theorem Fb.calls {a_:List Int} {k_:Int} {r1:Int} (HS:St w0 w (L)) (r_a:Ce w0 L (Ad .i64) A_a c_a uu a_) (H:Fb.f K a_ k_=some r1) :
    Calls prog 23 #[sV A_a a_ c_a,I k_] w (Fb.post w0 L r1):=by
  unfold Fb.f at H
  refine cG func23 Z ?_
  refine rN 7 Z ?_
  refine G.name (fun e1 c1=>?_)
  have d1:∀ a1,a1≤K→∀ (k_4 i_5:Int) (w:World),Fb.l1 K a1 a_ k_4 i_5=some r1→St w0 w (L)→G prog 23 21 [(0,sV A_a a_ c_a),(1,I k_4),(5,I i_5)] e1 w (Fb.post w0 L r1):=by
   refine lp (fun _ _ w H _=>by rw [Fb.l1] at H; cases H) fun b1 g1 f1 k_4 i_5 w H HS=>?_
   rw [Fb.l1] at H
   subst c1
   refine rN 2 Z (rG (pS 2 Z (lS Z Z U26 Z (GO.lss Z Z Z Z (nL ?_)))))
   rcases iS H with ⟨c9,H⟩ | ⟨c9,H⟩
   ·
    refine nB Z (tF c9) (rN 3 Z ?_)
    obtain rfl:=sI H
    exact rT _ func23 Z Z ⟨Z,HS⟩
   refine yB Z (tT c9) (rN 5 Z ?_)
   obtain ⟨c10,H⟩:=iN H
   refine rG (pS 2 Z (iX Z U26 sz2 (rk r_a HS) c10 (GO.Dt (T:=(Ad .i64)) (n:=i_5.toNat) (o:=0) HS r_a Z Z (getD_some (d:=0) (ltN c10)) Z Z na2 Z (pS 2 Z (nL ?_)))))
   rcases iS H with ⟨c11,H⟩ | ⟨c11,H⟩
   ·
    refine yB Z (nF c11) (rN 2 Z ?_)
    obtain rfl:=sI H
    exact rT _ func23 Z Z ⟨Z,HS⟩
   refine nB Z (nT c11) (rN 5 Z (gW (f1 b1 (lR _) _ _ _ H HS) Z))
  exact gW (d1 K (lR _) _ _ _ H HS) Z
end Go.Proofs.YtgkgmhkgahalgaaGreat
