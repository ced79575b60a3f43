/-
  The walks through the functions: a call comes to what its list function says.
-/
import Derived.Test.YtbjfinndngafoaaGreatAlF
import Derived.Test.YtbjfinndngafoaaGreatAlW1
import Derived.Test.YtbjfinndngafoaaGreatAlW2
import Derived.Test.YtbjfinndngafoaaGreatAlW3
import Derived.Test.YtbjfinndngafoaaGreatAlW4
set_option linter.unusedVariables false
set_option linter.unusedSimpArgs false
namespace Go.Proofs.YtbjfinndngafoaaGreat
open Go.RowKit
open Tryz
variable {w0 w:World} {L:List Cy} {K:Nat} {A_a A_b A_c A_d A_e A_f A_g A_h A_i A_j A_k A_l A_m A_n A_o A_p A_q A_r A_s A_t A_u A_v A_w A_x A_y A_z:Option Addr} {c_a c_b c_c c_d c_e c_f c_g c_h c_i c_j c_k c_l c_m c_n c_o c_p c_q c_r c_s c_t c_u c_v c_w c_x c_y c_z:Nat}
set_option maxRecDepth 20000
set_option maxHeartbeats 40000000
theorem Jd.calls {d1 e1 f1:List (List Int)} {g1 c1 a1:Int} {y_a:Nat→(Ty.slice 2 (Ar .i64)).Lay} {y_b:Nat→(Ty.slice 2 (Ar .i64)).Lay} {y_c:Nat→(Ty.slice 2 (Ar .i64)).Lay} {r1:Int} (HS:St w0 w (L)) (r_a:Ce w0 L (Ty.slice 2 (Ar .i64)) A_a c_a y_a d1) (r_b:Ce w0 L (Ty.slice 2 (Ar .i64)) A_b c_b y_b e1) (r_c:Ce w0 L (Ty.slice 2 (Ar .i64)) A_c c_c y_c f1) (H:Jd.f d1 e1 f1 g1 c1 a1=some r1) :
    Calls prog 79 #[.agg [sV A_a d1 c_a,sV A_b e1 c_b,sV A_c f1 c_c].toArray,.agg [I g1,I c1,I a1].toArray] w (Jd.post w0 L r1):=by
  unfold Jd.f at H
  refine cG func79 Z ?_
  refine sQ (rG (bA HS Z fun b1 wd2 HS=>bA HS Z fun b3 wd4 HS=>aS Z (nL (rN 2 Z (rG (fL b3 0 Kn Z (lB 0 HS Z na2 Z (nL (rN 3 Z ?_)))))))))
  rcases iE H with ⟨c5,H⟩ | ⟨c5,H⟩
  ·
   refine yB Z (tT c5) (sQ ?_)
   obtain ⟨c6,H⟩:=iN H
   obtain ⟨c7,H⟩:=iN H
   refine G.lex mixed [0,2,6,1,3,4,5,7,8,9,10] (by kernel_rfl) ?_
   replace HS:=HS.drew
   refine qL Z Z (fun _ _ g=>fL b1 2 Wp Z g) Z (qL Z Z (fun _ _ g=>fL b3 1 Ja Z g) Z (qL Z Z (fun _ _ g=>fL b3 2 Kc Z g) Z (GX.l1 Z Z Z (fun _ g=>lB 1 HS Z Lx Z g) Z (GX.l1 Z Z Z (fun _ g=>lB 0 HS Z na2 Z g) Z (qL Z Z (fun _ _ g=>iX Z M8 Pp (rk (rD 2 r_c) HS) c6 g) Z (GX.l1 Z Z Z (fun _ g=>GO.Cj (T:=(Ty.slice 2 (Ar .i64))) (n:=c1.toNat) (o:=0) HS (rD 2 r_c) Z Z (getD_some (d:=[]) (ltN c6)) Z Z Ih Z g) Z (GX.l1 Z Z Z (fun _ g=>lB 0 HS Z na2 Z g) Z (qL Z Z (fun _ _ g=>GO.ix Z Z Z U56 sz2 ((Ce.elem (rD 2 r_c) c6.1 c6.2) _ HS).2.2.1 c7.1 c7.2 Z g) Z (GX.l1 Z Z Z (fun _ g=>GO.Cj (T:=(Ar .i64)) (n:=a1.toNat) (o:=0) HS (Ce.elem (rD 2 r_c) c6.1 c6.2) Z Z (getD_some (d:=0) (ltN c7)) Z Z na2 Z g) Z (GX.ps 1 Z (GX.nil ?_)))))))))))
   obtain rfl:=sI H
   exact rT _ func79 Z Z ⟨Z,(HS.pk 2 [] Z)⟩
  refine nB Z (tF c5) (rN 2 Z ?_)
  rcases iE H with ⟨c8,H⟩ | ⟨c8,H⟩
  ·
   refine yB Z (tT c8) (sQ ?_)
   obtain ⟨c9,H⟩:=iN H
   obtain ⟨c10,H⟩:=iN H
   refine G.lex mixed [0,2,6,1,3,4,5,7,8,9,10] (by kernel_rfl) ?_
   replace HS:=HS.drew
   refine qL Z Z (fun _ _ g=>fL b1 1 Lj Z g) Z (qL Z Z (fun _ _ g=>fL b3 1 Ja Z g) Z (qL Z Z (fun _ _ g=>fL b3 2 Kc Z g) Z (GX.l1 Z Z Z (fun _ g=>lB 1 HS Z Lx Z g) Z (GX.l1 Z Z Z (fun _ g=>lB 0 HS Z na2 Z g) Z (qL Z Z (fun _ _ g=>iX Z M8 Pp (rk (rD 2 r_b) HS) c9 g) Z (GX.l1 Z Z Z (fun _ g=>GO.Cj (T:=(Ty.slice 2 (Ar .i64))) (n:=c1.toNat) (o:=0) HS (rD 2 r_b) Z Z (getD_some (d:=[]) (ltN c9)) Z Z Ih Z g) Z (GX.l1 Z Z Z (fun _ g=>lB 0 HS Z na2 Z g) Z (qL Z Z (fun _ _ g=>GO.ix Z Z Z U56 sz2 ((Ce.elem (rD 2 r_b) c9.1 c9.2) _ HS).2.2.1 c10.1 c10.2 Z g) Z (GX.l1 Z Z Z (fun _ g=>GO.Cj (T:=(Ar .i64)) (n:=a1.toNat) (o:=0) HS (Ce.elem (rD 2 r_b) c9.1 c9.2) Z Z (getD_some (d:=0) (ltN c10)) Z Z na2 Z g) Z (GX.ps 1 Z (GX.nil ?_)))))))))))
   obtain rfl:=sI H
   exact rT _ func79 Z Z ⟨Z,(HS.pk 2 [] Z)⟩
  refine nB Z (tF c8) (rN 2 Z ?_)
  rcases iE H with ⟨c11,H⟩ | ⟨c11,H⟩
  ·
   refine yB Z (tT c11) (sQ (rG (fL b3 1 Ja Z (lB 0 HS Z na2 Z (aS Z (nL ?_))))))
   obtain rfl:=sI H
   exact rT _ func79 Z Z ⟨Z,(HS.pk 2 [] Z)⟩
  refine nB Z (tF c11) (rN 3 Z ?_)
  obtain ⟨c12,H⟩:=iN H
  obtain ⟨c13,H⟩:=iN H
  refine G.lex mixed [0,2,6,1,3,4,5,7,8,9,10] (by kernel_rfl) ?_
  replace HS:=HS.drew
  refine qL Z Z (fun _ _ g=>fL b1 0 Vq Z g) Z (qL Z Z (fun _ _ g=>fL b3 1 Ja Z g) Z (qL Z Z (fun _ _ g=>fL b3 2 Kc Z g) Z (GX.l1 Z Z Z (fun _ g=>lB 1 HS Z Lx Z g) Z (GX.l1 Z Z Z (fun _ g=>lB 0 HS Z na2 Z g) Z (qL Z Z (fun _ _ g=>iX Z M8 Pp (rk (rD 2 r_a) HS) c12 g) Z (GX.l1 Z Z Z (fun _ g=>GO.Cj (T:=(Ty.slice 2 (Ar .i64))) (n:=c1.toNat) (o:=0) HS (rD 2 r_a) Z Z (getD_some (d:=[]) (ltN c12)) Z Z Ih Z g) Z (GX.l1 Z Z Z (fun _ g=>lB 0 HS Z na2 Z g) Z (qL Z Z (fun _ _ g=>GO.ix Z Z Z U56 sz2 ((Ce.elem (rD 2 r_a) c12.1 c12.2) _ HS).2.2.1 c13.1 c13.2 Z g) Z (GX.l1 Z Z Z (fun _ g=>GO.Cj (T:=(Ar .i64)) (n:=a1.toNat) (o:=0) HS (Ce.elem (rD 2 r_a) c12.1 c12.2) Z Z (getD_some (d:=0) (ltN c13)) Z Z na2 Z g) Z (GX.ps 1 Z (GX.nil ?_)))))))))))
  obtain rfl:=sI H
  exact rT _ func79 Z Z ⟨Z,(HS.pk 2 [] Z)⟩
theorem Hq.calls {a1:List (List Ab)} {d1 c1 e1:Int} {y_a:Nat→(Ty.slice 107 Ad).Lay} {r1:Int} (HS:St w0 w (L)) (r_a:Ce w0 L (Ty.slice 107 Ad) A_a c_a y_a a1) (H:Hq.f K a1 d1 c1 e1=some r1) :
    Calls prog 11 #[.agg [sV A_a a1 c_a].toArray,.agg [I d1,I c1,I e1].toArray] w (Hq.post w0 L r1):=by
  unfold Hq.f at H
  refine cG func11 Z ?_
  refine sQ (rG (bA HS Z fun b1 wd2 HS=>bA HS Z fun b3 wd4 HS=>aS Z (nL (sQ ?_))))
  obtain ⟨t5,t6,t7,t8,h9,H⟩:=D8 H
  refine rG (lW 1 HS Z Dq (lW 0 HS Z Lb (fJ oH Z (H6.calls HS (rD 2 r_a) h9) (fun _ wd17 ⟨A10,c11,A12,c13,y14,A15,c16,h18,HS⟩=>⟨_,h18,(pS 3 Z (GO.alloc HS Z Qr Z Z fun b19 wd20 HS=>sW 0 HS Z Ht Z fun wd21 HS=>aS Z (nL (rN 2 Z ?_))))⟩))))
  obtain rfl:=sI H
  exact rT _ func11 Z Z ⟨Z,(HS.pk 6 [] Z)⟩
theorem Br.calls {c1:List (List Ab)} {y_a:Nat→(Ty.slice 107 Ad).Lay} {r1:List Dg} (HS:St w0 w (L)) (r_a:Ce w0 L (Ty.slice 107 Ad) A_a c_a y_a c1) (H:Br.f K c1=some r1) :
    Calls prog 46 #[.agg [sV A_a c1 c_a].toArray] w (Br.post w0 L r1):=by
  unfold Br.f at H
  refine cG func46 Z ?_
  refine sQ (rG (bA HS Z fun b1 wd2 HS=>aS Z (nL (sQ (rG (GO.Cw (el:=33) ([]) HS Z Z (fun _=>by kernel_rfl) Z fun b3 wd4 HS=>?_))))))
  replace HS:=HS.Fq (T:=Ej) (j:=0) Z Ba uu ([]:List Dg) Z (Il Z)
  refine GO.H7 (t:=12) (m:=([]:List Dg).length) (c':=([]:List Dg).length) Z Z Z (aS Z (nL (sQ ?_)))
  obtain ⟨t5,t6,t7,t8,h9,H⟩:=D8 H
  refine rG (lW 1 HS Z Dq (fJ Ym Z (Bf.calls HS (rD 2 r_a) h9) (fun _ wd21 ⟨A10,c11,y12,A13,c14,y15,A16,c17,y18,A19,c20,h22,HS⟩=>⟨_,h22,(pS 3 Z (GO.alloc HS Z Ue Z Z fun b23 wd24 HS=>sW 0 HS Z Pm Z fun wd25 HS=>aS Z (nL (rN 5 Z ?_))))⟩)))
  refine G.name (fun v1 e2=>?_)
  have f2:∀ p1,p1≤K→∀ (A458:Option Addr) (c459:Nat) (k1:List Dg) (a1:Int) (w:World),Br.l1 K p1 c1 t5 t6 t7 k1 a1=some r1→St w0 w (Box b1 31 [sV A_a c1 c_a]::Own Ej 33 A458 c459 uu k1::Box b23 111 [sV A10 t5 c11,sV A13 t6 c14,sV A16 t7 c17]::Own (Ty.slice 2 (Ar .i64)) 56 A10 c11 y12 t5::Own (Ty.slice 2 (Ar .i64)) 56 A13 c14 y15 t6::Own (Ty.slice 2 (Ar .i64)) 56 A16 c17 y18 t7::L)→G prog 46 61 [(1,pT b1),(3,sV A458 k1 c459),(4,pT b23),(6,I a1)] v1 w (Br.post w0 L r1):=by
   refine lp (fun _ _ _ _ w H _=>by rw [Br.l1] at H; cases H) fun s1 i2 g2 A458 c459 k1 a1 w H HS=>?_
   rw [Br.l1] at H
   subst e2
   refine rN 3 Z ?_
   rcases iS H with ⟨c895,H⟩ | ⟨c895,H⟩
   ·
    refine nB Z (tF c895) (rN 3 Z ?_)
    obtain rfl:=sI H
    exact rT _ func46 Z Z ⟨_,_,Z,(HS.pk 6 [1] Z)⟩
   refine yB Z (tT c895) (rN 4 Z (rG (GO.Cw (el:=2) ([]) HS Z Z (fun _=>by kernel_rfl) Z fun b896 wd897 HS=>?_)))
   replace HS:=HS.Fq (T:=(Ar .i64)) (j:=0) Z Ba uu ([]:List Int) Z (Il Z)
   refine GO.H7 (t:=22) (m:=([]:List Int).length) (c':=([]:List Int).length) Z Z Z (aS Z (nL (rN 4 Z ?_)))
   refine G.name (fun c2 a2=>?_)
   have x1:∀ t1,t1≤s1→∀ (A1039:Option Addr) (c1040:Nat) (i1:List Dg) (A1042:Option Addr) (c1043:Nat) (m1:List Int) (d1:Int) (w:World),Br.l10 K t1 c1 t5 t6 t7 a1 i1 m1 d1=some r1→St w0 w (Box b1 31 [sV A_a c1 c_a]::Own Ej 33 A1039 c1040 uu i1::Box b23 111 [sV A10 t5 c11,sV A13 t6 c14,sV A16 t7 c17]::Own (Ty.slice 2 (Ar .i64)) 56 A10 c11 y12 t5::Own (Ty.slice 2 (Ar .i64)) 56 A13 c14 y15 t6::Own (Ty.slice 2 (Ar .i64)) 56 A16 c17 y18 t7::Own (Ar .i64) 2 A1042 c1043 uu m1::L)→G prog 46 61 [(1,pT b1),(3,sV A1039 i1 c1040),(4,pT b23),(6,I a1),(7,sV A1042 m1 c1043),(8,I d1)] c2 w (Br.post w0 L r1):=by
    refine lp (fun _ _ _ _ _ _ _ w H _=>by rw [Br.l10] at H; cases H) fun o1 y1 d2 A1039 c1040 i1 A1042 c1043 m1 d1 w H HS=>?_
    rw [Br.l10] at H
    subst a2
    refine rN 2 Z ?_
    obtain ⟨t1187,h1188,H⟩:=bI H
    refine rG (mV Z (lW 0 HS Z Dq (fJ Og Z (Cs.calls HS (rD 7 r_a) h1188) (fun _ wd1189 ⟨h1190,HS⟩=>⟨_,h1190,(GO.lss Z Z Z Z (nL ?_))⟩))))
    rcases iS H with ⟨c1191,H⟩ | ⟨c1191,H⟩
    ·
     refine nB Z (tF c1191) (rN 4 Z (gW (g2 o1 (Nat.le_of_succ_le y1) _ _ _ _ _ H (HS.pk 7 [0,1,2,3,4,5] Z)) Z))
    refine yB Z (tT c1191) (rN 7 Z ?_)
    refine G.name (fun z1 b2=>?_)
    have h2:∀ q1,q1≤o1→∀ (A1235:Option Addr) (c1236:Nat) (h1:List Dg) (A1238:Option Addr) (c1239:Nat) (f1:List Int) (e1:Int) (w:World),Br.l13 K q1 c1 t5 t6 t7 a1 d1 h1 f1 e1=some r1→St w0 w (Box b1 31 [sV A_a c1 c_a]::Own Ej 33 A1235 c1236 uu h1::Box b23 111 [sV A10 t5 c11,sV A13 t6 c14,sV A16 t7 c17]::Own (Ty.slice 2 (Ar .i64)) 56 A10 c11 y12 t5::Own (Ty.slice 2 (Ar .i64)) 56 A13 c14 y15 t6::Own (Ty.slice 2 (Ar .i64)) 56 A16 c17 y18 t7::Own (Ar .i64) 2 A1238 c1239 uu f1::L)→G prog 46 61 [(1,pT b1),(3,sV A1235 h1 c1236),(4,pT b23),(6,I a1),(7,sV A1238 f1 c1239),(8,I d1),(9,I e1)] z1 w (Br.post w0 L r1):=by
     refine lp (fun _ _ _ _ _ _ _ w H _=>by rw [Br.l13] at H; cases H) fun g1 u1 n1 A1235 c1236 h1 A1238 c1239 f1 e1 w H HS=>?_
     rw [Br.l13] at H
     subst b2
     refine rN 2 Z ?_
     obtain ⟨t1285,h1286,H⟩:=bI H
     refine rG (pS 2 Z (fJ Y0 Z (E9.calls HS  h1286) (fun _ wd1287 ⟨h1288,HS⟩=>⟨_,h1288,(GO.leq Z Z Z Z (nL ?_))⟩)))
     rcases iS H with ⟨c1289,H⟩ | ⟨c1289,H⟩
     ·
      refine nB Z (tF c1289) (rN 4 Z (gW (d2 g1 (Nat.le_of_succ_le u1) _ _ _ _ _ _ _ _ H HS) Z))
     refine yB Z (tT c1289) (rN 4 Z (rG (pS 3 Z (GO.Dr (.agg [I a1,I d1,I e1].toArray) Z Z (fun _=>by kernel_rfl) Z (GO.alloc HS Z lX Z Z fun b1290 wd1291 HS=>sW 0 HS Z Lb Z fun wd1292 HS=>nL (sQ ?_))))))
     obtain ⟨t1293,h1294,H⟩:=bI H
     refine rG (lW 3 HS Z Pm (lW 0 HS Z Lb (fJ vJ Z (Jd.calls HS (ro 4 Z) (ro 5 Z) (ro 6 Z) h1294) (fun _ wd1295 ⟨h1296,HS⟩=>⟨_,h1296,(aS Z (nL (sQ ?_)))⟩))))
     obtain ⟨t1306,h1307,H⟩:=bI H
     rcases iE H with ⟨c1310,H⟩ | ⟨c1310,H⟩
     ·
      refine rG (pS 2 Z (fJ Uc Z (Eb.calls HS (ro 7 Z) h1307) (fun _ wd1308 ⟨h1309,HS⟩=>⟨_,h1309,(pS 2 Z (kN 46 Z (congrArg Bool.not c1310) (oF Z (oF Z (oF Z (oF Z (GO.Jm Z Z Z Z Z (nL (rN 5 Z (gW (n1 g1 (lR _) _ _ _ _ _ _ _ _ H (HS.pk 8 [1,2,3,4,5,6,7] Z)) Z))))))))))⟩)))
     obtain ⟨t1311,h1312,H⟩:=bI H
     refine rG (pS 2 Z (fJ Uc Z (Eb.calls HS (ro 7 Z) h1307) (fun _ wd1308 ⟨h1309,HS⟩=>⟨_,h1309,(pS 2 Z (kN 46 Z (congrArg Bool.not (Db c1310)) (oN Z (lW 1 HS Z Dq (bK (oN Z (lW 0 HS Z Lb (bK (oN Z (fJ wT Z (Hq.calls HS (rD 8 r_a) h1312) (fun _ wd1313 ⟨h1314,HS⟩=>⟨_,h1314,(bK (oN Z ?_))⟩)))))))))))⟩)))
     refine GO.eql Z Z Z Z (bK (GO.Iz Z Z Z Z Z (nL ?_)))
     rcases iS H with ⟨c1315,H⟩ | ⟨c1315,H⟩
     ·
      refine nB Z (tF c1315) (rN 4 Z (gW (n1 g1 (lR _) _ _ _ _ _ _ _ _ H (HS.pk 8 [1,2,3,4,5,6,7] Z)) Z))
     refine yB Z (tT c1315) (sQ ?_)
     obtain ⟨c1321,H⟩:=iN H
     refine rG (mV Z (lW 0 HS Z Lb (GO.Cw (el:=33) ([I a1,I d1,I e1]) HS Z Z (fun _=>by kernel_rfl) Z fun b1316 wd1317 HS=>GO.app1 (T:=Ej) (j:=3) (jb:=0) (⟨a1,d1,e1⟩:Dg) HS Z Z Ba Z Z Z U37 cB Z Z Z c1321 Z fun A1319 c1320 wd1318 HS=>aS Z (nL ?_))))
     obtain ⟨c1327,H⟩:=iN H
     refine rG (pS 2 Z (GO.Cw (el:=2) ([I t1293]) HS Z Z (fun _=>by kernel_rfl) Z fun b1322 wd1323 HS=>GO.app1 (T:=(Ar .i64)) (j:=9) (jb:=0) t1293 HS Z Z Ba Z Z Z U56 Ml Z Z Z c1327 Z fun A1325 c1326 wd1324 HS=>aS Z (nL (rN 3 Z (gW (n1 g1 (lR _) _ _ _ _ _ _ _ _ H (HS.pk 10 [3,4,5,6,7,8,9] Z)) Z)))))
    exact gW (h2 o1 (lR _) _ _ _ _ _ _ _ _ H HS) Z
   exact gW (x1 s1 (lR _) _ _ _ _ _ _ _ _ H (HS.pk 7 [1,2,3,4,5,6,0] Z)) Z
  exact gW (f2 K (lR _) _ _ _ _ _ H (HS.pk 7 [6,5,0,1,2,3] Z)) Z
theorem Cx.calls {tet f:Int} {i1 h1:Int} {d1 c1:Int} {e1 g1:Int} {a1:List Int} {f1:Nat} {r1:List Int} (HS:St w0 w (Box f1 56 [sV A_a a1 c_a]::Own (Ar .i64) 2 A_a c_a uu a1::L)) (H:Cx.f K tet f i1 h1 d1 c1 e1 g1 a1=some r1) :
    Calls prog 146 #[I tet,I f,.agg [I i1,I h1].toArray,.agg [I d1,I c1,I e1,I g1].toArray,pT f1] w (Cx.post w0 L f1 A_a c_a r1):=by
  unfold Cx.f at H
  refine cG func146 Z ?_
  refine sQ (rG (bA HS Z fun b1 wd2 HS=>bA HS Z fun b3 wd4 HS=>nL ?_))
  obtain ⟨c5,H⟩:=iN H
  obtain ⟨t6,h7,H⟩:=bI H
  obtain ⟨c8,H⟩:=iN H
  refine G.lex mixed [1,2,3,4,5,8,9,0,6,7,10,11,12] (by kernel_rfl) ?_
  replace HS:=HS.drew
  refine GX.ps 4 Z (qL Z Z (fun _ _ g=>fL b1 0 Dp Z g) Z (GX.ps 1 Z (qL Z Z (fun _ _ g=>GO.ixW Z Z Z Hf sz2 c5 Z g) Z (GX.l1 Z Z Z (fun _ g=>lB 2 HS Z Ih Z g) Z (GX.l1 Z Z Z (fun _ g=>lB 1 HS Z na2 Z g) Z (GX.ps 1 Z (GX.l1 Z Z Z (fun _ g=>GO.ldW (j:=0) ([d1,c1,e1,g1]:List Int) HS Z Z Z c5 Z Z na2 Z g) Z (GX.ps 1 Z (GX.l2 Z ?_)))))))))
  replace HS:=HS.pk 4 [3,0,1,2] Z
  refine fJ Z9 Z (Gf.calls HS  h7) (fun _ wd9 ⟨h10,HS⟩=>⟨_,h10,(GX.fin tv (GX.nil ?_))⟩)
  replace HS:=HS.K3 (j:=3) (cs':=[sV A_a t6 c_a]) Z (by simp only [sV,List.length_set,c8] <;> rfl)
  obtain rfl:=sI H
  exact G.Pz func146 Z ⟨Z,(HS.pk 4 [3,0] Z)⟩
theorem Ag.calls {a1:List (List Ab)} {d1:List Int} {y_a:Nat→(Ty.slice 107 Ad).Lay} {c1:Nat} {r1:List Int} (HS:St w0 w (Box c1 56 [sV A_b d1 c_b]::Own (Ar .i64) 2 A_b c_b uu d1::L)) (r_a:Ce w0 L (Ty.slice 107 Ad) A_a c_a y_a a1) (H:Ag.f K a1 d1=some r1) :
    Calls prog 145 #[.agg [sV A_a a1 c_a].toArray,.func (.func 146) #[] #[pT c1]] w (Ag.post w0 L c1 A_b c_b r1):=by
  unfold Ag.f at H
  refine cG func145 Z ?_
  refine sQ (rG (bA HS Z fun b1 wd2 HS=>nL (sQ (rG (fL b1 0 Du Z (lB 0 HS Z Gu Z (lS Z Z U29 Z (mV Z (nL (rN 2 Z ?_))))))))))
  refine G.name (fun s1 n1=>?_)
  have q1:∀ h1,h1≤K→∀ (x79:List Int) (x80:Int) (w:World),Ag.l1 K h1 a1 x79 x80=some r1→St w0 w (Box c1 56 [sV A_b x79 c_b]::Own (Ar .i64) 2 A_b c_b uu x79::L)→G prog 145 36 [(1,.func (.func 146) #[] #[pT c1]),(9,sV A_a a1 c_a),(10,I (a1.length:Int)),(11,I x80)] s1 w (Ag.post w0 L c1 A_b c_b r1):=by
   refine lp (fun _ _ w H _=>by rw [Ag.l1] at H; cases H) fun g1 u1 t1 x79 x80 w H HS=>?_
   rw [Ag.l1] at H
   subst n1
   refine rN 3 Z ?_
   rcases iS H with ⟨c157,H⟩ | ⟨c157,H⟩
   ·
    refine nB Z (tF c157) (G.exit Z ?_)
    obtain rfl:=sI H
    exact G.Pz func145 Z ⟨Z,HS⟩
   refine yB Z (tT c157) (rN 4 Z ?_)
   obtain ⟨c158,H⟩:=iN H
   refine rG (mV Z (iX Z U29 Jg (rk (rD 2 r_a) HS) c158 (GO.Cj (T:=(Ty.slice 107 Ad)) (n:=x80.toNat) (o:=0) HS (rD 2 r_a) Z Z (getD_some (d:=[]) (ltN c158)) Z Z Jh Z (pS 2 Z (nL (sQ (rG (mV Z (lS Z Z U77 Z (mV Z (nL (rN 2 Z ?_))))))))))))
   refine G.name (fun o1 p1=>?_)
   have k1:∀ i1,i1≤g1→∀ (x183:List Int) (x184:Int) (w:World),Ag.l4 K i1 a1 x80 x183 x184=some r1→St w0 w (Box c1 56 [sV A_b x183 c_b]::Own (Ar .i64) 2 A_b c_b uu x183::L)→G prog 145 36 [(1,.func (.func 146) #[] #[pT c1]),(4,I x80),(9,sV A_a a1 c_a),(10,I (a1.length:Int)),(11,I x80),(16,sV ((y_a x80.toNat).A) (a1.getD x80.toNat []) ((y_a x80.toNat).c)),(17,I ((a1.getD x80.toNat []).length:Int)),(18,I x184)] o1 w (Ag.post w0 L c1 A_b c_b r1):=by
    refine lp (fun _ _ w H _=>by rw [Ag.l4] at H; cases H) fun e1 m1 f1 x183 x184 w H HS=>?_
    rw [Ag.l4] at H
    subst p1
    refine rN 3 Z ?_
    rcases iS H with ⟨c209,H⟩ | ⟨c209,H⟩
    ·
     refine nB Z (tF c209) (rN 4 Z (gW (t1 e1 (Nat.le_of_succ_le m1) _ _ _ H HS) Z))
    refine yB Z (tT c209) (rN 4 Z ?_)
    obtain ⟨c210,H⟩:=iN H
    obtain ⟨e211,h212,H⟩:=Di H
    refine rG (mV Z (GO.ix Z Z Z U77 G9 ((Ce.elem (rD 2 r_a) c158.1 c158.2) _ HS).2.2.1 c210.1 c210.2 Z (GO.Hw (T:=Ad) (n:=x184.toNat) HS (Ce.elem (rD 2 r_a) c158.1 c158.2) Z Z (Cn (ltN c210) h212) D9 Z (GO.alloc HS Z Jz Z Z fun b213 wd214 HS=>aS Z (sW 0 HS Z D9 Z fun wd215 HS=>nL (sQ ?_))))))
    obtain ⟨t216,h217,H⟩:=bI H
    refine rG (lW 0 HS Z D9 (fJ Nr Z (Bi.calls HS  h217) (fun _ wd218 ⟨h219,HS⟩=>⟨_,h219,(GO.not Z Z Z (nL ?_))⟩)))
    rcases iE H with ⟨c220,H⟩ | ⟨c220,H⟩
    ·
     refine nB Z (congrArg Bool.not c220) (rN 4 Z (gW (f1 e1 (lR _) _ _ _ H (HS.pk 3 [1,2] Z)) Z))
    refine yB Z (congrArg Bool.not (Db c220)) ?_
    obtain ⟨t221,t222,t223,t224,h225,H⟩:=D8 H
    obtain ⟨t228,h229,H⟩:=bI H
    obtain ⟨c230,H⟩:=iN H
    refine G.H8 mixed (fun w=>St w0 w (Box b213 107 [I e211.Tet,I e211.Perm]::L)) [3,5] [0,1,2,4,3,5,6,7] [] (by kernel_rfl) (by kernel_rfl) (HS.drew.pk 3 [0] Z) ?_
    replace HS:=HS.drew
    refine GX.ps 3 Z (qL Z Z (fun _ _ g=>fL b213 1 Gn Z g) Z (GX.ls Z Z Z (HS.pk 3 [0] Z) (fun _ HS _ g=>lW 0 HS Z D9 g) Z (GX.ls Z Z Z (HS.pk 3 [0] Z) (fun _ HS _ g=>lB 0 HS Z na2 Z g) Z (GX.l2 Z (fJ Lc Z (Ct.calls HS  h225) (fun _ wd226 ⟨h227,HS⟩=>⟨_,h227,(GX.fin (HS.pk 3 [0] Z) (GX.l2 Z ?_))⟩))))))
    replace HS:=HS.pk 3 [1,2,0] Z
    refine GO.clo Z Z func146 iQ.2.1 iQ.2.2 Z Z (Cx.calls HS  h229) (fun _ wd231 ⟨h232,HS⟩=>⟨_,h232,(GX.fin (HS.pk 3 [2] Z) (GX.nil (rN 3 Z (gW (f1 e1 (lR _) _ _ _ H (HS.pk 3 [0,1] Z)) Z))))⟩)
   exact gW (k1 g1 (lR _) _ _ _ H HS) Z
  exact gW (q1 K (lR _) _ _ _ H (HS.pk 3 [1,2] Z)) Z
theorem Dy.calls {a1:List (List Ab)} {y_a:Nat→(Ty.slice 107 Ad).Lay} {r1:List Int} (HS:St w0 w (L)) (r_a:Ce w0 L (Ty.slice 107 Ad) A_a c_a y_a a1) (H:Dy.f K a1=some r1) :
    Calls prog 123 #[.agg [sV A_a a1 c_a].toArray] w (Dy.post w0 L r1):=by
  unfold Dy.f at H
  refine cG func123 Z ?_
  refine sQ (rG (bA HS Z fun b1 wd2 HS=>aS Z (nL (sQ ?_))))
  obtain ⟨t3,h4,H⟩:=bI H
  obtain ⟨t7,h8,H⟩:=bI H
  refine rG (fL b1 0 Du Z (lB 0 HS Z Gu Z (fJ O0 Z (Bw.calls HS (rD 1 r_a) h4) (fun _ wd5 ⟨h6,HS⟩=>⟨_,h6,(GO.mul Z Z Z Z (fJ Xb Z (Eo.calls HS  h8) (fun _ wd11 ⟨A9,c10,h12,HS⟩=>⟨_,h12,(GO.alloc HS Z Zf Z Z fun b13 wd14 HS=>GO.Ie (j:=0) (vs:=[sV A9 t7 c10]) ([sV A9 t7 c10]) HS Z Z Z Z Z (htN Ih Z) Z Z Z fun wd15 HS=>nL (sQ ?_))⟩)))⟩))))
  obtain ⟨t16,h17,H⟩:=bI H
  obtain ⟨c18,H⟩:=iN H
  refine rG (lW 2 HS Z Dq (GO.Q6 Z Z Z Z ?_))
  replace HS:=HS.pk 3 [0,1,2] Z
  refine fJ Zw Z (Ag.calls HS (rD 1 r_a) h17) (fun _ wd19 ⟨h20,HS⟩=>⟨_,h20,(nL (sQ ?_))⟩)
  obtain ⟨t21,h22,H⟩:=bI H
  refine rG (lB 0 HS Z Ih Z (fJ Zl Z (Dc.calls HS (ro 1 Z) h22) (fun _ wd25 ⟨A23,c24,h26,HS⟩=>⟨_,h26,(aS Z (nL ?_))⟩)))
  obtain rfl:=sI H
  exact rT _ func123 Z Z ⟨_,_,Z,(HS.pk 4 [0] Z)⟩
theorem Bc.calls {tet f:Int} {g1 h1:Int} {d1 c1:Int} {e1 f1:Int} {i1:List Int} {a1:Nat} {r1:List Int} (HS:St w0 w (Box a1 56 [sV A_a i1 c_a]::Own (Ar .i64) 2 A_a c_a uu i1::L)) (H:Bc.f K tet f g1 h1 d1 c1 e1 f1 i1=some r1) :
    Calls prog 152 #[I tet,I f,.agg [I g1,I h1].toArray,.agg [I d1,I c1,I e1,I f1].toArray,pT a1] w (Bc.post w0 L a1 A_a c_a r1):=by
  unfold Bc.f at H
  refine cG func152 Z ?_
  refine sQ (rG (bA HS Z fun b1 wd2 HS=>bA HS Z fun b3 wd4 HS=>nL (sQ ?_)))
  obtain ⟨t7,h8,H⟩:=bI H
  refine rG (mV Z (GO.Cw (el:=2) ([I f]) HS Z Z (fun _=>by kernel_rfl) Z fun b5 wd6 HS=>?_))
  replace HS:=HS.Fq (T:=(Ar .i64)) (j:=0) Z Ba uu ([f]:List Int) Z (Il Z)
  refine GO.H7 (t:=12) (m:=([f]:List Int).length) (c':=([f]:List Int).length) Z Z Z (fJ Qs Z (Fb.calls HS (ro 0 Z) h8) (fun _ wd11 ⟨A9,c10,h12,HS⟩=>⟨_,h12,(lS Z Z U56 Z (mV Z (nL (rN 2 Z ?_))))⟩))
  refine G.name (fun q1 n1=>?_)
  have p1:∀ k1,k1≤K→∀ (x21:List Int) (x22:Int) (w:World),Bc.l1 K k1 tet g1 d1 c1 e1 f1 t7 x21 x22=some r1→St w0 w (Box a1 56 [sV A_a x21 c_a]::Own (Ar .i64) 2 A_a c_a uu x21::Box b1 107 [I g1,I h1]::Box b3 131 [I d1,I c1,I e1,I f1]::Own (Ar .i64) 2 A9 c10 uu t7::L)→G prog 152 33 [(0,I tet),(4,pT a1),(7,pT b1),(8,pT b3),(13,sV A9 t7 c10),(14,I (t7.length:Int)),(15,I x22)] q1 w (Bc.post w0 L a1 A_a c_a r1):=by
   refine lp (fun _ _ w H _=>by rw [Bc.l1] at H; cases H) fun m1 s1 o1 x21 x22 w H HS=>?_
   rw [Bc.l1] at H
   subst n1
   refine rN 3 Z ?_
   rcases iS H with ⟨c31,H⟩ | ⟨c31,H⟩
   ·
    refine nB Z (tF c31) (G.exit Z ?_)
    obtain rfl:=sI H
    exact G.Pz func152 Z ⟨Z,(HS.pk 5 [0,1] Z)⟩
   refine yB Z (tT c31) (rN 4 Z ?_)
   obtain ⟨c32,H⟩:=iN H
   refine rG (iX Z U56 sz2 (rk (ro 4 Z) HS) c32 (GO.Cj (T:=(Ar .i64)) (n:=x22.toNat) (o:=0) HS (ro 4 Z) Z Z (getD_some (d:=0) (ltN c32)) Z Z na2 Z (aS Z (nL ?_))))
   obtain ⟨c33,H⟩:=iN H
   obtain ⟨t34,h35,H⟩:=bI H
   obtain ⟨c36,H⟩:=iN H
   refine G.lex mixed [1,2,3,4,5,8,9,0,6,7,10,11,12] (by kernel_rfl) ?_
   replace HS:=HS.drew
   refine GX.ps 4 Z (qL Z Z (fun _ _ g=>fL b1 0 Dp Z g) Z (GX.ps 1 Z (qL Z Z (fun _ _ g=>GO.ixW Z Z Z Hf sz2 c33 Z g) Z (GX.l1 Z Z Z (fun _ g=>lB 0 HS Z Ih Z g) Z (GX.l1 Z Z Z (fun _ g=>lB 2 HS Z na2 Z g) Z (GX.ps 1 Z (GX.l1 Z Z Z (fun _ g=>GO.ldW (j:=3) ([d1,c1,e1,f1]:List Int) HS Z Z Z c33 Z Z na2 Z g) Z (GX.ps 1 Z (GX.l2 Z ?_)))))))))
   replace HS:=HS.pk 5 [1,0,2,3,4] Z
   refine fJ Z9 Z (Gf.calls HS  h35) (fun _ wd37 ⟨h38,HS⟩=>⟨_,h38,(GX.fin tv (GX.nil ?_))⟩)
   replace HS:=HS.K3 (j:=1) (cs':=[sV A_a t34 c_a]) Z (by simp only [sV,List.length_set,c36] <;> rfl)
   refine rN 3 Z (gW (o1 m1 (lR _) _ _ _ H (HS.pk 5 [1,0,2,3,4] Z)) Z)
  exact gW (p1 K (lR _) _ _ _ H (HS.pk 6 [4,5,3,2,0] Z)) Z
theorem Af.calls {a1:List (List Ab)} {d1:List Int} {y_a:Nat→(Ty.slice 107 Ad).Lay} {c1:Nat} {r1:List Int} (HS:St w0 w (Box c1 56 [sV A_b d1 c_b]::Own (Ar .i64) 2 A_b c_b uu d1::L)) (r_a:Ce w0 L (Ty.slice 107 Ad) A_a c_a y_a a1) (H:Af.f K a1 d1=some r1) :
    Calls prog 145 #[.agg [sV A_a a1 c_a].toArray,.func (.func 152) #[] #[pT c1]] w (Af.post w0 L c1 A_b c_b r1):=by
  unfold Af.f at H
  refine cG func145 Z ?_
  refine sQ (rG (bA HS Z fun b1 wd2 HS=>nL (sQ (rG (fL b1 0 Du Z (lB 0 HS Z Gu Z (lS Z Z U29 Z (mV Z (nL (rN 2 Z ?_))))))))))
  refine G.name (fun s1 n1=>?_)
  have q1:∀ h1,h1≤K→∀ (x79:List Int) (x80:Int) (w:World),Af.l1 K h1 a1 x79 x80=some r1→St w0 w (Box c1 56 [sV A_b x79 c_b]::Own (Ar .i64) 2 A_b c_b uu x79::L)→G prog 145 36 [(1,.func (.func 152) #[] #[pT c1]),(9,sV A_a a1 c_a),(10,I (a1.length:Int)),(11,I x80)] s1 w (Af.post w0 L c1 A_b c_b r1):=by
   refine lp (fun _ _ w H _=>by rw [Af.l1] at H; cases H) fun g1 u1 t1 x79 x80 w H HS=>?_
   rw [Af.l1] at H
   subst n1
   refine rN 3 Z ?_
   rcases iS H with ⟨c157,H⟩ | ⟨c157,H⟩
   ·
    refine nB Z (tF c157) (G.exit Z ?_)
    obtain rfl:=sI H
    exact G.Pz func145 Z ⟨Z,HS⟩
   refine yB Z (tT c157) (rN 4 Z ?_)
   obtain ⟨c158,H⟩:=iN H
   refine rG (mV Z (iX Z U29 Jg (rk (rD 2 r_a) HS) c158 (GO.Cj (T:=(Ty.slice 107 Ad)) (n:=x80.toNat) (o:=0) HS (rD 2 r_a) Z Z (getD_some (d:=[]) (ltN c158)) Z Z Jh Z (pS 2 Z (nL (sQ (rG (mV Z (lS Z Z U77 Z (mV Z (nL (rN 2 Z ?_))))))))))))
   refine G.name (fun o1 p1=>?_)
   have k1:∀ i1,i1≤g1→∀ (x183:List Int) (x184:Int) (w:World),Af.l4 K i1 a1 x80 x183 x184=some r1→St w0 w (Box c1 56 [sV A_b x183 c_b]::Own (Ar .i64) 2 A_b c_b uu x183::L)→G prog 145 36 [(1,.func (.func 152) #[] #[pT c1]),(4,I x80),(9,sV A_a a1 c_a),(10,I (a1.length:Int)),(11,I x80),(16,sV ((y_a x80.toNat).A) (a1.getD x80.toNat []) ((y_a x80.toNat).c)),(17,I ((a1.getD x80.toNat []).length:Int)),(18,I x184)] o1 w (Af.post w0 L c1 A_b c_b r1):=by
    refine lp (fun _ _ w H _=>by rw [Af.l4] at H; cases H) fun e1 m1 f1 x183 x184 w H HS=>?_
    rw [Af.l4] at H
    subst p1
    refine rN 3 Z ?_
    rcases iS H with ⟨c209,H⟩ | ⟨c209,H⟩
    ·
     refine nB Z (tF c209) (rN 4 Z (gW (t1 e1 (Nat.le_of_succ_le m1) _ _ _ H HS) Z))
    refine yB Z (tT c209) (rN 4 Z ?_)
    obtain ⟨c210,H⟩:=iN H
    obtain ⟨e211,h212,H⟩:=Di H
    refine rG (mV Z (GO.ix Z Z Z U77 G9 ((Ce.elem (rD 2 r_a) c158.1 c158.2) _ HS).2.2.1 c210.1 c210.2 Z (GO.Hw (T:=Ad) (n:=x184.toNat) HS (Ce.elem (rD 2 r_a) c158.1 c158.2) Z Z (Cn (ltN c210) h212) D9 Z (GO.alloc HS Z Jz Z Z fun b213 wd214 HS=>aS Z (sW 0 HS Z D9 Z fun wd215 HS=>nL (sQ ?_))))))
    obtain ⟨t216,h217,H⟩:=bI H
    refine rG (lW 0 HS Z D9 (fJ Nr Z (Bi.calls HS  h217) (fun _ wd218 ⟨h219,HS⟩=>⟨_,h219,(GO.not Z Z Z (nL ?_))⟩)))
    rcases iE H with ⟨c220,H⟩ | ⟨c220,H⟩
    ·
     refine nB Z (congrArg Bool.not c220) (rN 4 Z (gW (f1 e1 (lR _) _ _ _ H (HS.pk 3 [1,2] Z)) Z))
    refine yB Z (congrArg Bool.not (Db c220)) ?_
    obtain ⟨t221,t222,t223,t224,h225,H⟩:=D8 H
    obtain ⟨t228,h229,H⟩:=bI H
    obtain ⟨c230,H⟩:=iN H
    refine G.H8 mixed (fun w=>St w0 w (Box b213 107 [I e211.Tet,I e211.Perm]::L)) [3,5] [0,1,2,4,3,5,6,7] [] (by kernel_rfl) (by kernel_rfl) (HS.drew.pk 3 [0] Z) ?_
    replace HS:=HS.drew
    refine GX.ps 3 Z (qL Z Z (fun _ _ g=>fL b213 1 Gn Z g) Z (GX.ls Z Z Z (HS.pk 3 [0] Z) (fun _ HS _ g=>lW 0 HS Z D9 g) Z (GX.ls Z Z Z (HS.pk 3 [0] Z) (fun _ HS _ g=>lB 0 HS Z na2 Z g) Z (GX.l2 Z (fJ Lc Z (Ct.calls HS  h225) (fun _ wd226 ⟨h227,HS⟩=>⟨_,h227,(GX.fin (HS.pk 3 [0] Z) (GX.l2 Z ?_))⟩))))))
    replace HS:=HS.pk 3 [1,2,0] Z
    refine GO.clo Z Z func152 fI.2.1 fI.2.2 Z Z (Bc.calls HS  h229) (fun _ wd231 ⟨h232,HS⟩=>⟨_,h232,(GX.fin (HS.pk 3 [2] Z) (GX.nil (rN 3 Z (gW (f1 e1 (lR _) _ _ _ H (HS.pk 3 [0,1] Z)) Z))))⟩)
   exact gW (k1 g1 (lR _) _ _ _ H HS) Z
  exact gW (q1 K (lR _) _ _ _ H (HS.pk 3 [1,2] Z)) Z
theorem Dt.calls {a1:List (List Ab)} {y_a:Nat→(Ty.slice 107 Ad).Lay} {r1:List Int} (HS:St w0 w (L)) (r_a:Ce w0 L (Ty.slice 107 Ad) A_a c_a y_a a1) (H:Dt.f K a1=some r1) :
    Calls prog 125 #[.agg [sV A_a a1 c_a].toArray] w (Dt.post w0 L r1):=by
  unfold Dt.f at H
  refine cG func125 Z ?_
  refine sQ (rG (bA HS Z fun b1 wd2 HS=>aS Z (nL (sQ ?_))))
  obtain ⟨t3,h4,H⟩:=bI H
  obtain ⟨t7,h8,H⟩:=bI H
  refine rG (fL b1 0 Du Z (lB 0 HS Z Gu Z (fJ O0 Z (Bw.calls HS (rD 1 r_a) h4) (fun _ wd5 ⟨h6,HS⟩=>⟨_,h6,(GO.mul Z Z Z Z (fJ Xb Z (Eo.calls HS  h8) (fun _ wd11 ⟨A9,c10,h12,HS⟩=>⟨_,h12,(GO.alloc HS Z Zf Z Z fun b13 wd14 HS=>GO.Ie (j:=0) (vs:=[sV A9 t7 c10]) ([sV A9 t7 c10]) HS Z Z Z Z Z (htN Ih Z) Z Z Z fun wd15 HS=>nL (sQ ?_))⟩)))⟩))))
  obtain ⟨t16,h17,H⟩:=bI H
  obtain ⟨c18,H⟩:=iN H
  refine rG (lW 2 HS Z Dq (GO.Q6 Z Z Z Z ?_))
  replace HS:=HS.pk 3 [0,1,2] Z
  refine fJ Zw Z (Af.calls HS (rD 1 r_a) h17) (fun _ wd19 ⟨h20,HS⟩=>⟨_,h20,(nL (sQ ?_))⟩)
  obtain ⟨t21,h22,H⟩:=bI H
  refine rG (lB 0 HS Z Ih Z (fJ Zl Z (Dc.calls HS (ro 1 Z) h22) (fun _ wd25 ⟨A23,c24,h26,HS⟩=>⟨_,h26,(aS Z (nL ?_))⟩)))
  obtain rfl:=sI H
  exact rT _ func125 Z Z ⟨_,_,Z,(HS.pk 4 [0] Z)⟩
theorem Fh.calls {d1:List (List Ab)} {e1 a1 c1:Int} {y_a:Nat→(Ty.slice 107 Ad).Lay} {r1:Int} (HS:St w0 w (L)) (r_a:Ce w0 L (Ty.slice 107 Ad) A_a c_a y_a d1) (H:Fh.f K d1 e1 a1 c1=some r1) :
    Calls prog 81 #[.agg [sV A_a d1 c_a].toArray,.agg [I e1,I a1,I c1].toArray] w (Fh.post w0 L r1):=by
  unfold Fh.f at H
  refine cG func81 Z ?_
  refine sQ (rG (bA HS Z fun b1 wd2 HS=>bA HS Z fun b3 wd4 HS=>aS Z (nL (rN 2 Z (rG (fL b3 0 Kn Z (lB 0 HS Z na2 Z (nL (rN 3 Z ?_)))))))))
  rcases iE H with ⟨c5,H⟩ | ⟨c5,H⟩
  ·
   refine yB Z (tT c5) (sQ ?_)
   obtain ⟨t6,h7,H⟩:=bI H
   obtain ⟨c12,H⟩:=iN H
   refine G.H8 mixed (fun w=>St w0 w (Box b3 33 [I e1,I a1,I c1]::Box b1 31 [sV A_a d1 c_a]::L)) [0,3,6] [2,5,0,3,4,6,7,1,8,9,10] [] (by kernel_rfl) (by kernel_rfl) HS.drew ?_
   replace HS:=HS.drew
   refine qL Z Z (fun _ _ g=>fL b3 1 Ja Z g) Z (qL Z Z (fun _ _ g=>fL b3 2 Kc Z g) Z (GX.ls Z Z Z HS (fun _ HS _ g=>lW 1 HS Z Dq g) Z (GX.ls Z Z Z HS (fun _ HS _ g=>lB 0 HS Z na2 Z g) Z (GX.ps 1 Z (GX.ls Z Z Z HS (fun _ HS _ g=>lB 0 HS Z na2 Z g) Z (GX.ps 1 Z (GX.l2 Z (fJ uI Z (Dy.calls HS (rD 2 r_a) h7) (fun _ wd10 ⟨A8,c9,h11,HS⟩=>⟨_,h11,(GX.fin (HS.pk 3 [1,2] Z) (qL Z Z (fun _ _ g=>iX Z U56 sz2 (rk (ro 0 Z) HS) c12 g) Z (GX.l1 Z Z Z (fun _ g=>GO.Cj (T:=(Ar .i64)) (n:=(w64 ((w64 (4 * a1))+c1)).toNat) (o:=0) HS (ro 0 Z) Z Z (getD_some (d:=0) (ltN c12)) Z Z na2 Z g) Z (GX.ps 1 Z (GX.nil ?_)))))⟩)))))))))
   obtain rfl:=sI H
   exact rT _ func81 Z Z ⟨Z,(HS.pk 3 [] Z)⟩
  refine nB Z (tF c5) (rN 2 Z ?_)
  rcases iE H with ⟨c13,H⟩ | ⟨c13,H⟩
  ·
   refine yB Z (tT c13) (sQ ?_)
   obtain ⟨t14,h15,H⟩:=bI H
   obtain ⟨c20,H⟩:=iN H
   refine G.H8 mixed (fun w=>St w0 w (Box b3 33 [I e1,I a1,I c1]::Box b1 31 [sV A_a d1 c_a]::L)) [0,3,6] [2,5,0,3,4,6,7,1,8,9,10] [] (by kernel_rfl) (by kernel_rfl) HS.drew ?_
   replace HS:=HS.drew
   refine qL Z Z (fun _ _ g=>fL b3 1 Ja Z g) Z (qL Z Z (fun _ _ g=>fL b3 2 Kc Z g) Z (GX.ls Z Z Z HS (fun _ HS _ g=>lW 1 HS Z Dq g) Z (GX.ls Z Z Z HS (fun _ HS _ g=>lB 0 HS Z na2 Z g) Z (GX.ps 1 Z (GX.ls Z Z Z HS (fun _ HS _ g=>lB 0 HS Z na2 Z g) Z (GX.ps 1 Z (GX.l2 Z (fJ Q5 Z (Bl.calls HS (rD 2 r_a) h15) (fun _ wd18 ⟨A16,c17,h19,HS⟩=>⟨_,h19,(GX.fin (HS.pk 3 [1,2] Z) (qL Z Z (fun _ _ g=>iX Z U56 sz2 (rk (ro 0 Z) HS) c20 g) Z (GX.l1 Z Z Z (fun _ g=>GO.Cj (T:=(Ar .i64)) (n:=(w64 ((w64 (6 * a1))+c1)).toNat) (o:=0) HS (ro 0 Z) Z Z (getD_some (d:=0) (ltN c20)) Z Z na2 Z g) Z (GX.ps 1 Z (GX.nil ?_)))))⟩)))))))))
   obtain rfl:=sI H
   exact rT _ func81 Z Z ⟨Z,(HS.pk 3 [] Z)⟩
  refine nB Z (tF c13) (rN 2 Z ?_)
  rcases iE H with ⟨c21,H⟩ | ⟨c21,H⟩
  ·
   refine yB Z (tT c21) (sQ (rG (fL b3 1 Ja Z (lB 0 HS Z na2 Z (aS Z (nL ?_))))))
   obtain rfl:=sI H
   exact rT _ func81 Z Z ⟨Z,(HS.pk 2 [] Z)⟩
  refine nB Z (tF c21) (rN 3 Z ?_)
  obtain ⟨t22,h23,H⟩:=bI H
  obtain ⟨c28,H⟩:=iN H
  refine G.H8 mixed (fun w=>St w0 w (Box b3 33 [I e1,I a1,I c1]::Box b1 31 [sV A_a d1 c_a]::L)) [0,3,6] [2,5,0,3,4,6,7,1,8,9,10] [] (by kernel_rfl) (by kernel_rfl) HS.drew ?_
  replace HS:=HS.drew
  refine qL Z Z (fun _ _ g=>fL b3 1 Ja Z g) Z (qL Z Z (fun _ _ g=>fL b3 2 Kc Z g) Z (GX.ls Z Z Z HS (fun _ HS _ g=>lW 1 HS Z Dq g) Z (GX.ls Z Z Z HS (fun _ HS _ g=>lB 0 HS Z na2 Z g) Z (GX.ps 1 Z (GX.ls Z Z Z HS (fun _ HS _ g=>lB 0 HS Z na2 Z g) Z (GX.ps 1 Z (GX.l2 Z (fJ uA Z (Dt.calls HS (rD 2 r_a) h23) (fun _ wd26 ⟨A24,c25,h27,HS⟩=>⟨_,h27,(GX.fin (HS.pk 3 [1,2] Z) (qL Z Z (fun _ _ g=>iX Z U56 sz2 (rk (ro 0 Z) HS) c28 g) Z (GX.l1 Z Z Z (fun _ g=>GO.Cj (T:=(Ar .i64)) (n:=(w64 ((w64 (4 * a1))+c1)).toNat) (o:=0) HS (ro 0 Z) Z Z (getD_some (d:=0) (ltN c28)) Z Z na2 Z g) Z (GX.ps 1 Z (GX.nil ?_)))))⟩)))))))))
  obtain rfl:=sI H
  exact rT _ func81 Z Z ⟨Z,(HS.pk 3 [] Z)⟩
theorem Ak.calls {c1:List (List Ab)} {y_a:Nat→(Ty.slice 107 Ad).Lay} {r1:List Dg} (HS:St w0 w (L)) (r_a:Ce w0 L (Ty.slice 107 Ad) A_a c_a y_a c1) (H:Ak.f K c1=some r1) :
    Calls prog 47 #[.agg [sV A_a c1 c_a].toArray] w (Ak.post w0 L r1):=by
  unfold Ak.f at H
  refine cG func47 Z ?_
  refine sQ (rG (bA HS Z fun b1 wd2 HS=>aS Z (nL (rN 3 Z (rG (GO.Qn Gh Value.bool HS Z Z fun b3 wd4 HS=>aS Z (nL (rN 5 Z ?_))))))))
  refine G.name (fun u1 d2=>?_)
  have e2:∀ o1,o1≤K→∀ (A323:Option Addr) (c324:Nat) (d1:List Dg) (k1:List (Gq × Bool)) (a1:Int) (w:World),Ak.l1 K o1 c1 d1 k1 a1=some r1→St w0 w (Box b1 31 [sV A_a c1 c_a]::Own Ej 33 A323 c324 uu d1::Ir b3 Gh Value.bool k1::L)→G prog 47 58 [(1,pT b1),(3,sV A323 d1 c324),(4,.map (some b3)),(5,I a1)] u1 w (Ak.post w0 L r1):=by
   refine lp (fun _ _ _ _ _ w H _=>by rw [Ak.l1] at H; cases H) fun q1 h2 f2 A323 c324 d1 k1 a1 w H HS=>?_
   rw [Ak.l1] at H
   subst d2
   refine rN 3 Z ?_
   rcases iS H with ⟨c647,H⟩ | ⟨c647,H⟩
   ·
    refine nB Z (tF c647) (rN 3 Z ?_)
    obtain rfl:=sI H
    exact rT _ func47 Z Z ⟨_,_,Z,(HS.pk 3 [1] Z)⟩
   refine yB Z (tT c647) (rN 4 Z ?_)
   obtain ⟨t648,h649,H⟩:=bI H
   refine rG (fL b1 0 Du Z (lB 0 HS Z Gu Z (fJ O0 Z (Bw.calls HS (rD 3 r_a) h649) (fun _ wd650 ⟨h651,HS⟩=>⟨_,h651,(mV Z (nL (rN 2 Z ?_)))⟩))))
   refine G.name (fun b2 z1=>?_)
   have v1:∀ s1,s1≤q1→∀ (A755:Option Addr) (c756:Nat) (f1:List Dg) (n1:List (Gq × Bool)) (x759:Int) (w:World),Ak.l10 K s1 c1 a1 t648 f1 n1 x759=some r1→St w0 w (Box b1 31 [sV A_a c1 c_a]::Own Ej 33 A755 c756 uu f1::Ir b3 Gh Value.bool n1::L)→G prog 47 58 [(1,pT b1),(3,sV A755 f1 c756),(4,.map (some b3)),(5,I a1),(19,I t648),(20,I x759)] b2 w (Ak.post w0 L r1):=by
    refine lp (fun _ _ _ _ _ w H _=>by rw [Ak.l10] at H; cases H) fun m1 x1 c2 A755 c756 f1 n1 x759 w H HS=>?_
    rw [Ak.l10] at H
    subst z1
    refine rN 3 Z ?_
    rcases iS H with ⟨c863,H⟩ | ⟨c863,H⟩
    ·
     refine nB Z (tF c863) (rN 4 Z (gW (f2 m1 (Nat.le_of_succ_le x1) _ _ _ _ _ _ H HS) Z))
    refine yB Z (tT c863) (rN 6 Z ?_)
    obtain ⟨t864,h865,H⟩:=bI H
    refine rG (mV Z (fJ nY Z (F6.calls HS  h865) (fun _ wd866 ⟨h867,HS⟩=>⟨_,h867,(mV Z (nL (rN 2 Z ?_)))⟩)))
    refine G.name (fun y1 a2=>?_)
    have g2:∀ p1,p1≤m1→∀ (A899:Option Addr) (c900:Nat) (g1:List Dg) (h1:List (Gq × Bool)) (x903:Int) (w:World),Ak.l13 K p1 c1 a1 t648 x759 t864 g1 h1 x903=some r1→St w0 w (Box b1 31 [sV A_a c1 c_a]::Own Ej 33 A899 c900 uu g1::Ir b3 Gh Value.bool h1::L)→G prog 47 58 [(1,pT b1),(3,sV A899 g1 c900),(4,.map (some b3)),(5,I a1),(6,I x759),(19,I t648),(20,I x759),(24,I t864),(25,I x903)] y1 w (Ak.post w0 L r1):=by
     refine lp (fun _ _ _ _ _ w H _=>by rw [Ak.l13] at H; cases H) fun e1 t1 i1 A899 c900 g1 h1 x903 w H HS=>?_
     rw [Ak.l13] at H
     subst a2
     refine rN 3 Z ?_
     rcases iS H with ⟨c935,H⟩ | ⟨c935,H⟩
     ·
      refine nB Z (tF c935) (rN 4 Z (gW (c2 e1 (Nat.le_of_succ_le t1) _ _ _ _ _ _ H HS) Z))
     refine yB Z (tT c935) (rN 6 Z (rG (pS 3 Z (GO.Dr (.agg [I a1,I x759,I x903].toArray) Z Z (fun _=>by kernel_rfl) Z (GO.alloc HS Z lX Z Z fun b936 wd937 HS=>sW 0 HS Z Lb Z fun wd938 HS=>nL (rN 2 Z ?_))))))
     obtain ⟨t939,t940,h941,H⟩:=Ea H
     refine rG (lW 1 HS Z Dq (lW 0 HS Z Lb (fJ nZ Z (D5.calls HS (rD 4 r_a) h941) (fun _ wd948 ⟨b942,A943,c944,b945,A946,c947,h949,HS⟩=>⟨_,h949,(pS 5 Z (nL (rN 2 Z ?_)))⟩))))
     rcases iS H with ⟨c950,H⟩ | ⟨c950,H⟩
     ·
      refine yB Z (nF c950) (rN 3 Z (gW (i1 e1 (lR _) _ _ _ _ _ _ H (HS.pk 5 [2,3,4] Z)) Z))
     refine nB Z (nT c950) (rN 2 Z ?_)
     obtain ⟨t951,h952,H⟩:=bI H
     refine rG (mV Z (lW 2 HS Z Dq (lW 1 HS Z Lb (fJ wE Z (Fh.calls HS (rD 5 r_a) h952) (fun _ wd953 ⟨h954,HS⟩=>⟨_,h954,(GO.Dr (.agg [I a1,I t951].toArray) Z Z (fun _=>by kernel_rfl) Z (GO.alloc HS Z wO Z Z fun b955 wd956 HS=>sW 0 HS Z fC Z fun wd957 HS=>nL (sQ (rG (mV Z (lW 0 HS Z fC (GO.pG false (⟨a1,t951⟩:Gq) Tm HS (j:=5) Z Z Z Z wI zr4 Z Z (GO.not Z Z Z ?_))))))))⟩)))))
     refine nL ?_
     rcases iE H with ⟨c958,H⟩ | ⟨c958,H⟩
     ·
      refine nB Z (congrArg Bool.not c958) (rN 4 Z (gW (i1 e1 (lR _) _ _ _ _ _ _ H (HS.pk 6 [3,4,5] Z)) Z))
     refine yB Z (congrArg Bool.not (Db c958)) (sQ (rG (mV Z (lW 0 HS Z fC (GO.iM (⟨a1,t951⟩:Gq) true Tm HS (j:=5) Z Z Z Z Z wI fun wd959 HS=>nL ?_)))))
     obtain ⟨c965,H⟩:=iN H
     refine rG (mV Z (lW 2 HS Z Lb (GO.Cw (el:=33) ([I a1,I x759,I x903]) HS Z Z (fun _=>by kernel_rfl) Z fun b960 wd961 HS=>GO.app1 (T:=Ej) (j:=5) (jb:=0) (⟨a1,x759,x903⟩:Dg) HS Z Z Ba Z Z Z U37 cB Z Z Z c965 Z fun A963 c964 wd962 HS=>aS Z (nL (rN 3 Z (gW (i1 e1 (lR _) _ _ _ _ _ _ H (HS.pk 7 [4,5,6] Z)) Z))))))
    exact gW (g2 m1 (lR _) _ _ _ _ _ _ H HS) Z
   exact gW (v1 q1 (lR _) _ _ _ _ _ _ H HS) Z
  replace HS:=HS.Dm Ej 33 uu
  exact gW (e2 K (lR _) _ _ _ _ _ _ H (HS.pk 3 [2,0,1] Z)) Z
theorem El.calls {a_:List Dg} {k_:Int} {r1:Int} (HS:St w0 w (L)) (r_a:Ce w0 L Ej A_a c_a uu a_) (H:El.f K a_ k_=some r1) :
    Calls prog 21 #[sV A_a a_ c_a,I k_] w (El.post w0 L r1):=by
  unfold El.f at H
  refine cG func21 Z ?_
  refine rN 7 Z ?_
  refine G.name (fun e1 c1=>?_)
  have d1:∀ a1,a1≤K→∀ (k_8 i_9:Int) (w:World),El.l1 K a1 a_ k_8 i_9=some r1→St w0 w (L)→G prog 21 40 [(0,sV A_a a_ c_a),(1,I k_8),(5,I i_9)] e1 w (El.post w0 L r1):=by
   refine lp (fun _ _ w H _=>by rw [El.l1] at H; cases H) fun b1 g1 f1 k_8 i_9 w H HS=>?_
   rw [El.l1] at H
   subst c1
   refine rN 2 Z (rG (pS 2 Z (lS Z Z U37 Z (GO.lss Z Z Z Z (nL ?_)))))
   rcases iS H with ⟨c17,H⟩ | ⟨c17,H⟩
   ·
    refine nB Z (tF c17) (rN 3 Z ?_)
    obtain rfl:=sI H
    exact rT _ func21 Z Z ⟨Z,HS⟩
   refine yB Z (tT c17) (rN 5 Z ?_)
   obtain ⟨c18,H⟩:=iN H
   obtain ⟨e19,h20,H⟩:=Di H
   refine rG (pS 2 Z (iX Z U37 Ql (rk r_a HS) c18 (GO.fld (ea A_a (i_9.toNat * 3)) Z Z Kn Z Z (GO.Cj (T:=Ej) (n:=i_9.toNat) (o:=0) HS r_a Z Z (Cn (ltN c18) h20) Z Z na2 Z (pS 2 Z (nL ?_))))))
   rcases iS H with ⟨c21,H⟩ | ⟨c21,H⟩
   ·
    refine yB Z (nF c21) (rN 2 Z ?_)
    obtain rfl:=sI H
    exact rT _ func21 Z Z ⟨Z,HS⟩
   refine nB Z (nT c21) (rN 5 Z (rG (pS 2 Z (iX Z U37 Ql (rk r_a HS) c18 (GO.fld (ea A_a (i_9.toNat * 3+1)) Z Z Ja (Ot _ _ _) Z (GO.Cj (T:=Ej) (n:=i_9.toNat) (o:=1) HS r_a Z Z (Cn (ltN c18) h20) Z Z na2 Z (pS 2 Z (nL ?_))))))))
   rcases iS H with ⟨c22,H⟩ | ⟨c22,H⟩
   ·
    refine yB Z (nF c22) (rN 2 Z ?_)
    obtain rfl:=sI H
    exact rT _ func21 Z Z ⟨Z,HS⟩
   refine nB Z (nT c22) (rN 5 Z (rG (pS 2 Z (iX Z U37 Ql (rk r_a HS) c18 (GO.fld (ea A_a (i_9.toNat * 3+2)) Z Z Kc (Ot _ _ _) Z (GO.Cj (T:=Ej) (n:=i_9.toNat) (o:=2) HS r_a Z Z (Cn (ltN c18) h20) Z Z na2 Z (pS 2 Z (nL ?_))))))))
   rcases iS H with ⟨c23,H⟩ | ⟨c23,H⟩
   ·
    refine yB Z (nF c23) (rN 2 Z ?_)
    obtain rfl:=sI H
    exact rT _ func21 Z Z ⟨Z,HS⟩
   refine nB Z (nT c23) (rN 5 Z (gW (f1 b1 (lR _) _ _ _ H HS) Z))
  exact gW (d1 K (lR _) _ _ _ H HS) Z
end Go.Proofs.YtbjfinndngafoaaGreat
