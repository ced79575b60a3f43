/-
  The walks through the functions: a call comes to what its list function says.
-/
import Derived.Test.YtbjfinndngafoaaGreatAlF
import Derived.Test.YtbjfinndngafoaaGreatAlW1
import Derived.Test.YtbjfinndngafoaaGreatAlW2
import Derived.Test.YtbjfinndngafoaaGreatAlW3
import Derived.Test.YtbjfinndngafoaaGreatAlW4
set_option linter.unusedVariables false
set_option linter.unusedSimpArgs false
namespace Go.Proofs.YtbjfinndngafoaaGreat
open Go.RowKit
open Tryz
variable {w0 w:World} {L:List Cy} {K:Nat} {A_a A_b A_c A_d A_e A_f A_g A_h A_i A_j A_k A_l A_m A_n A_o A_p A_q A_r A_s A_t A_u A_v A_w A_x A_y A_z:Option Addr} {c_a c_b c_c c_d c_e c_f c_g c_h c_i c_j c_k c_l c_m c_n c_o c_p c_q c_r c_s c_t c_u c_v c_w c_x c_y c_z:Nat}
set_option maxRecDepth 20000
set_option maxHeartbeats 40000000
theorem Gy.calls {a1:List (List Ab)} {y_a:Nat→(Ty.slice 107 Ad).Lay} {r1:List (List Ab)} (HS:St w0 w (L)) (r_a:Ce w0 L (Ty.slice 107 Ad) A_a c_a y_a a1) (H:Gy.f K a1=some r1) :
    Calls prog 53 #[.agg [sV A_a a1 c_a].toArray] w (Gy.post w0 L r1):=by
  unfold Gy.f at H
  refine cG func53 Z ?_
  refine sQ (rG (bA HS Z fun b1 wd2 HS=>GO.alloc HS Z Lm Z Z fun b3 wd4 HS=>nL (sQ (rG (GO.Dr (.agg [.slice none 0 0].toArray) Z Z (fun _=>by kernel_rfl) Z (GO.alloc HS Z Lm Z Z fun b5 wd6 HS=>sW 0 HS Z Dq Z fun wd7 HS=>nL (rN 5 Z ?_)))))))
  refine G.name (fun i1 g1=>?_)
  have h1:∀ e1,e1≤K→∀ (A25:Option Addr) (c26:Nat) (c1:List (List Ab)) (y28:Nat→(Ty.slice 107 Ad).Lay) (d1:Int) (w:World),Gy.l1 K e1 a1 c1 d1=some r1→St w0 w (Box b1 31 [sV A_a a1 c_a]::Box b3 31 [.slice none 0 0]::Box b5 31 [sV A25 c1 c26]::Own (Ty.slice 107 Ad) 77 A25 c26 y28 c1::L)→G prog 53 26 [(1,pT b1),(2,pT b3),(3,pT b5),(4,I d1)] i1 w (Gy.post w0 L r1):=by
   refine lp (fun _ _ _ _ _ w H _=>by rw [Gy.l1] at H; cases H) fun f1 m1 k1 A25 c26 c1 y28 d1 w H HS=>?_
   rw [Gy.l1] at H
   subst g1
   refine rN 2 Z (rG (mV Z (fL b1 0 Du Z (lB 0 HS Z Gu Z (lS Z Z U29 Z (GO.lss Z Z Z Z (nL ?_)))))))
   rcases iS H with ⟨c47,H⟩ | ⟨c47,H⟩
   ·
    refine nB Z (tF c47) (rN 2 Z (rG (lW 2 HS Z Dq (sW 1 HS Z Dq Z fun wd63 HS=>nL ?_))))
    obtain rfl:=sI H
    exact rT _ func53 Z (Gz.Hu (j:=1) (vs:=[sV A25 c1 c26]) HS Z Z Z Dq) ⟨_,_,_,Z,(HS.pk 4 [3] Z)⟩
   refine yB Z (tT c47) (rN 3 Z ?_)
   obtain ⟨c50,H⟩:=iN H
   obtain ⟨c54,H⟩:=iN H
   obtain ⟨c60,H⟩:=iN H
   refine G.H8 mixed (fun w=>St w0 w (Box b1 31 [sV A_a a1 c_a]::Box b5 31 [sV A25 c1 c26]::L)) [1,4,7] [0,3,5,1,4,6,7,2,8,9,10,11,12] [12] (by kernel_rfl) (by kernel_rfl) (HS.drew.pk 4 [0,2] Z) ?_
   replace HS:=HS.drew
   refine qL Z Z (fun _ _ g=>fL b5 0 Du Z g) Z (qL Z Z (fun _ _ g=>fL b1 0 Du Z g) Z (GX.ps 1 Z (GX.ls Z Z Z (HS.pk 4 [0,2] Z) (fun _ HS _ g=>lB 1 HS Z Gu Z g) Z (GX.ls Z Z Z (HS.pk 4 [0,2] Z) (fun _ HS _ g=>lB 0 HS Z Gu Z g) Z (qL Z Z (fun _ _ g=>iX Z U29 Jg (rk (rD 4 r_a) HS) c50 g) Z (GX.ls Z Z Z (HS.pk 4 [0,2] Z) (fun _ HS _ g=>GO.Cj (T:=(Ty.slice 107 Ad)) (n:=d1.toNat) (o:=0) HS (rD 2 r_a) Z Z (getD_some (d:=[]) (ltN c50)) Z Z Jh Z g) Z (GX.l2 Z (GO.Cw (el:=107) ([]) HS Z Z (fun _=>by kernel_rfl) Z fun b48 wd49 HS=>GX.fin (HS.pk 5 [1,3] Z) (GX.l2 Z ?_)))))))))
   replace HS:=HS.Fq (T:=Ad) (j:=0) Z Ba uu ([]:List Ab) Z (Il Z)
   refine GO.H7 (t:=15) (m:=([]:List Ab).length) (c':=([]:List Ab).length) Z Z Z (GO.lU (T:=Ad) (j:=0) HS Z (Ce.elem (rD 5 r_a) c50.1 c50.2) Ba Z Z Z U77 Xp Z Z Z c54 Z (fun _=>Z) fun A52 c53 wd51 HS=>GX.fin (HS.pk 5 [1,3] Z) (GX.l2 Z (GO.Cw (el:=77) ([sV A52 (([]:List Ab)++(a1.getD d1.toNat [])) c53]) HS Z Z (fun _=>by kernel_rfl) Z fun b55 wd56 HS=>GX.fin (HS.pk 6 [2,4] Z) (GX.l2 Z ?_))))
   replace HS:=HS.pk 6 [5,0,1,2,3,4] Z
   refine GO.Ul (S:=Ad) (u:=107) HS Z Z Z U29 Qb Z Z c60 Z fun A58 c59 y61 wd57 HS=>GX.fin (HS.pk 5 [2,4] Z) (qL Z Z (fun _ _ g=>fL b5 0 Du Z g) Z (GX.l2 Z (GO.Ie (j:=4) (vs:=[sV A58 (c1++[(([]:List Ab)++(a1.getD d1.toNat []))]) c59]) ([sV A58 (c1++[(([]:List Ab)++(a1.getD d1.toNat []))]) c59]) HS Z Z Z Z Z (htN Gu Z) Z Z Z fun wd62 HS=>GX.Qt Z (GX.nil (rN 3 Z (gW (k1 f1 (lR _) _ _ _ _ _ _ H (HS.pk 5 [2,3,4,0] Z)) Z))))))
  replace HS:=HS.Dm (Ty.slice 107 Ad) 77 (fun _=>⟨none,0,uu⟩)
  exact gW (h1 K (lR _) _ _ _ _ _ _ H (HS.pk 4 [3,2,1,0] Z)) Z
theorem Ga.calls {list:List Av} {tet Cg:Int} {r1:Int} (HS:St w0 w (L)) (r_a:Ce w0 L Ci A_a c_a uu list) (H:Ga.f K list tet Cg=some r1) :
    Calls prog 86 #[sV A_a list c_a,I tet,I Cg] w (Ga.post w0 L r1):=by
  unfold Ga.f at H
  refine cG func86 Z ?_
  refine rN 7 Z ?_
  refine G.name (fun g1 e1=>?_)
  have f1:∀ c1,c1≤K→∀ (a1:Int) (w:World),Ga.l1 K c1 list tet Cg a1=some r1→St w0 w (L)→G prog 86 31 [(0,sV A_a list c_a),(1,I tet),(2,I Cg),(7,I a1)] g1 w (Ga.post w0 L r1):=by
   refine lp (fun _ w H _=>by rw [Ga.l1] at H; cases H) fun b1 h1 d1 a1 w H HS=>?_
   rw [Ga.l1] at H
   subst e1
   refine rN 2 Z (rG (pS 2 Z (lS Z Z U63 Z (GO.lss Z Z Z Z (nL ?_)))))
   rcases iS H with ⟨c22,H⟩ | ⟨c22,H⟩
   ·
    refine nB Z (tF c22) (rN 3 Z ?_)
    obtain rfl:=sI H
    exact rT _ func86 Z Z ⟨Z,HS⟩
   refine yB Z (tT c22) (rN 4 Z ?_)
   obtain ⟨c27,H⟩:=iN H
   obtain ⟨e28,h29,H⟩:=Di H
   rcases iS H with ⟨c30,H⟩ | ⟨c30,H⟩
   ·
    refine rG (pS 2 Z (iX Z U63 Y3 (rk r_a HS) c27 (GO.fld (ea A_a (a1.toNat * 4)) Z Z Xj Z Z (GO.Cj (T:=Ci) (n:=a1.toNat) (o:=0) HS r_a Z Z (Cn (ltN c27) h29) Z Z na2 Z (pS 3 Z (kN 21 Z (tF c30) (oF Z (oF Z (oF Z (oF Z (oF Z (oF Z (oF Z (GO.Jm Z Z Z Z Z ?_))))))))))))))
    refine nL (rN 5 Z (gW (d1 b1 (lR _) _ _ H HS) Z))
   refine rG (pS 2 Z (iX Z U63 Y3 (rk r_a HS) c27 (GO.fld (ea A_a (a1.toNat * 4)) Z Z Xj Z Z (GO.Cj (T:=Ci) (n:=a1.toNat) (o:=0) HS r_a Z Z (Cn (ltN c27) h29) Z Z na2 Z (pS 3 Z (kN 21 Z (tT c30) (oN Z (mV Z (bK (oN Z (mV Z (bK (oN Z (iX Z U63 Y3 (rk r_a HS) c27 ?_))))))))))))))
   refine bK (oN Z (GO.fld (ea A_a (a1.toNat * 4+1)) Z Z R7 (Ot _ _ _) Z (bK (oN Z (GO.Cj (T:=Ci) (n:=a1.toNat) (o:=1) HS r_a Z Z (Cn (ltN c27) h29) Z Z na2 Z (bK (oN Z (mV Z (bK (oN Z (GO.eql Z Z Z Z (bK (GO.Iz Z Z Z Z Z (nL ?_))))))))))))))
   rcases iE H with ⟨c31,H⟩ | ⟨c31,H⟩
   ·
    refine yB Z (tT c31) (rN 2 Z ?_)
    obtain rfl:=sI H
    exact rT _ func86 Z Z ⟨Z,HS⟩
   refine nB Z (tF c31) (rN 4 Z (gW (d1 b1 (lR _) _ _ H HS) Z))
  exact gW (f1 K (lR _) _ _ H HS) Z
theorem Iu.calls {a1:List (List Ab)} {a_ f:Int} {b_ perm:Int} {y_a:Nat→(Ty.slice 107 Ad).Lay} {r1:List (List Ab)} (HS:St w0 w (Own (Ty.slice 107 Ad) 77 A_a c_a y_a a1::L)) (H:Iu.f K a1 a_ f b_ perm=some r1) :
    Calls prog 85 #[.agg [sV A_a a1 c_a].toArray,I a_,I f,I b_,I perm] w (Iu.post w0 L A_a c_a y_a r1):=by
  unfold Iu.f at H
  refine cG func85 Z ?_
  refine sQ (rG (bA HS Z fun b1 wd2 HS=>nL (sQ ?_)))
  obtain ⟨c3,H⟩:=iN H
  obtain ⟨c4,H⟩:=iN H
  refine rG (fL b1 0 Du Z (lB 0 HS Z Gu Z (mV Z (iX Z U29 Jg (rk (ro 1 Z) HS) c3 (GO.Cj (T:=(Ty.slice 107 Ad)) (n:=a_.toNat) (o:=0) HS (ro 1 Z) Z Z (getD_some (d:=[]) (ltN c3)) Z Z Jh Z (pS 3 Z (GO.Dr (.agg [I b_,I perm].toArray) Z Z (fun _=>by kernel_rfl) Z (GO.ix Z Z Z U77 G9 ((Ce.elem (ro 1 Z) c3.1 c3.2) _ HS).2.2.1 c4.1 c4.2 Z ?_))))))))
  replace HS:=HS.pk 2 [1,0] Z
  refine GO.Tq (S:=Ad) (k:=a_.toNat) (n:=f.toNat) (o:=0) (vs:=[I b_,I perm]) (⟨b_,perm⟩:Ab) HS Ba Z Z Z Z (htA D9) Z (ltN c3) (getD_some (d:=Bj) (ltN c4)) Z Z fun wd5 HS=>nL ?_
  replace HS:=HS.K3 (j:=1) (cs':=[sV A_a (a1.set a_.toNat ((a1.getD a_.toNat []).set f.toNat (⟨b_,perm⟩:Ab))) c_a]) Z (by simp only [sV,List.length_set] <;> rfl)
  obtain ⟨c6,H⟩:=iN H
  have h7:=(rk (ro 0 Z) HS)
  obtain ⟨t8,h9,H⟩:=bI H
  obtain ⟨t12,h13,H⟩:=bI H
  obtain ⟨c16,H⟩:=iN H
  refine G.H8 mixed (fun w=>St w0 w (Own (Ty.slice 107 Ad) 77 A_a c_a y_a (a1.set a_.toNat ((a1.getD a_.toNat []).set f.toNat (⟨b_,perm⟩:Ab)))::Box b1 31 [sV A_a (a1.set a_.toNat ((a1.getD a_.toNat []).set f.toNat (⟨b_,perm⟩:Ab))) c_a]::L)) [1,4] [0,2,5,6,8,9,1,3,4,7,10,11,12,13] [13] (by kernel_rfl) (by kernel_rfl) HS.drew ?_
  replace HS:=HS.drew
  refine qL Z Z (fun _ _ g=>fL b1 0 Du Z g) Z (GX.ps 5 Z (GX.ls Z Z Z HS (fun _ HS _ g=>lB 1 HS Z Gu Z g) Z (qL Z Z (fun _ _ g=>iX Z U29 Jg h7 c6 g) Z (GX.ls Z Z Z HS (fun _ HS _ g=>GO.Cj (T:=(Ty.slice 107 Ad)) (n:=b_.toNat) (o:=0) HS (ro 0 Z) Z Z (getD_some (d:=[]) (ltN c6)) Z Z Jh Z g) Z (GX.l2 Z (fJ Jt Z (Bq.calls HS  h9) (fun _ wd10 ⟨h11,HS⟩=>⟨_,h11,(GX.fin HS (GX.l2 Z (fJ T9 Z (Dx.calls HS  h13) (fun _ wd14 ⟨h15,HS⟩=>⟨_,h15,(GX.fin HS (qL Z Z (fun _ _ g=>GO.Dr (.agg [I a_,I t12].toArray) Z Z (fun _=>by kernel_rfl) Z g) Z (qL Z Z (fun _ _ g=>GO.ix Z Z Z U77 G9 ((Ce.elem (ro 0 Z) c6.1 c6.2) _ HS).2.2.1 c16.1 c16.2 Z g) Z (GX.l2 Z (GO.Tq (S:=Ad) (k:=b_.toNat) (n:=t8.toNat) (o:=0) (vs:=[I a_,I t12]) (⟨a_,t12⟩:Ab) HS Ba Z Z Z Z (htA D9) Z (ltN c6) (getD_some (d:=Bj) (ltN c16)) Z Z fun wd17 HS=>?_)))))⟩))))⟩)))))))
  refine GX.Qt Z (GX.nil ?_)
  replace HS:=HS.K3 (j:=1) (cs':=[sV A_a ((a1.set a_.toNat ((a1.getD a_.toNat []).set f.toNat (⟨b_,perm⟩:Ab))).set b_.toNat (((a1.set a_.toNat ((a1.getD a_.toNat []).set f.toNat (⟨b_,perm⟩:Ab))).getD b_.toNat []).set t8.toNat (⟨a_,t12⟩:Ab))) c_a]) Z (by simp only [sV,List.length_set] <;> rfl)
  obtain rfl:=sI H
  exact G.Pz func85 Z ⟨Z,(HS.pk 2 [0] Z)⟩
theorem Au.calls {e1:List (List Ab)} {f1:List Int} {g1:List (List Ab)} {d1:List Av} {y_a:Nat→(Ty.slice 107 Ad).Lay} {y_c:Nat→(Ty.slice 107 Ad).Lay} {r1:List (List Ab)} (HS:St w0 w (L)) (r_a:Ce w0 L (Ty.slice 107 Ad) A_a c_a y_a e1) (r_b:Ce w0 L (Ar .i64) A_b c_b uu f1) (r_c:Ce w0 L (Ty.slice 107 Ad) A_c c_c y_c g1) (r_d:Ce w0 L Ci A_d c_d uu d1) (H:Au.f K e1 f1 g1 d1=some r1) :
    Calls prog 50 #[.agg [sV A_a e1 c_a].toArray,.agg [sV A_b f1 c_b,sV A_c g1 c_c,sV A_d d1 c_d].toArray] w (Au.post w0 L r1):=by
  unfold Au.f at H
  refine cG func50 Z ?_
  refine sQ (rG (bA HS Z fun b1 wd2 HS=>bA HS Z fun b3 wd4 HS=>GO.alloc HS Z Lm Z Z fun b5 wd6 HS=>nL (sQ (rG (GO.Cw (el:=2) ([]) HS Z Z (fun _=>by kernel_rfl) Z fun b7 wd8 HS=>?_)))))
  replace HS:=HS.Fq (T:=(Ar .i64)) (j:=0) Z Ba uu ([]:List Int) Z (Il Z)
  refine GO.H7 (t:=23) (m:=([]:List Int).length) (c':=([]:List Int).length) Z Z Z (aS Z (nL (rN 7 Z ?_)))
  refine G.name (fun h2 z2=>?_)
  have c3:∀ x1,x1≤K→∀ (A2594:Option Addr) (c2595:Nat) (a1:List Int) (c1 x2598:Int) (w:World),Au.l1 K x1 e1 f1 g1 d1 a1 c1 x2598=some r1→St w0 w (Box b1 31 [sV A_a e1 c_a]::Box b3 65 [sV A_b f1 c_b,sV A_c g1 c_c,sV A_d d1 c_d]::Box b5 31 [.slice none 0 0]::Own (Ar .i64) 2 A2594 c2595 uu a1::L)→G prog 50 217 [(2,pT b1),(3,pT b3),(4,pT b5),(5,sV A2594 a1 c2595),(6,I c1),(7,I x2598)] h2 w (Au.post w0 L r1):=by
   refine lp (fun _ _ _ _ _ w H _=>by rw [Au.l1] at H; cases H) fun n1 f3 e2 A2594 c2595 a1 c1 x2598 w H HS=>?_
   rw [Au.l1] at H
   subst z2
   refine rN 2 Z ?_
   obtain ⟨t5184,h5185,H⟩:=bI H
   refine rG (mV Z (lW 0 HS Z Dq (fJ Og Z (Cs.calls HS (rD 4 r_a) h5185) (fun _ wd5186 ⟨h5187,HS⟩=>⟨_,h5187,(GO.lss Z Z Z Z (nL ?_))⟩))))
   rcases iE H with ⟨c5188,H⟩ | ⟨c5188,H⟩
   ·
    refine yB Z (tT c5188) (rN 4 Z ?_)
    obtain ⟨c5194,H⟩:=iN H
    refine rG (pS 2 Z (GO.Cw (el:=2) ([I c1]) HS Z Z (fun _=>by kernel_rfl) Z fun b5189 wd5190 HS=>GO.app1 (T:=(Ar .i64)) (j:=4) (jb:=0) c1 HS Z Z Ba Z Z Z U56 Ml Z Z Z c5194 Z fun A5192 c5193 wd5191 HS=>aS Z (nL (sQ ?_))))
    obtain ⟨t5195,h5196,H⟩:=bI H
    refine rG (fL b3 0 P8 Z (lB 2 HS Z Ih Z (mV Z (fJ Uc Z (Eb.calls HS (rD 5 r_b) h5196) (fun _ wd5197 ⟨h5198,HS⟩=>⟨_,h5198,(GO.not Z Z Z (nL ?_))⟩)))))
    rcases iE H with ⟨c5199,H⟩ | ⟨c5199,H⟩
    ·
     refine nB Z (congrArg Bool.not c5199) (rN 4 Z (gW (e2 n1 (lR _) _ _ _ _ _ _ H (HS.pk 5 [1,2,3,4] Z)) Z))
    refine yB Z (congrArg Bool.not (Db c5199)) (rN 4 Z (gW (e2 n1 (lR _) _ _ _ _ _ _ H (HS.pk 5 [1,2,3,4] Z)) Z))
   refine nB Z (tF c5188) (rN 2 Z (rG (GO.Dr (.agg [.slice none 0 0].toArray) Z Z (fun _=>by kernel_rfl) Z (GO.alloc HS Z Lm Z Z fun b5200 wd5201 HS=>sW 0 HS Z Dq Z fun wd5202 HS=>nL (rN 5 Z ?_)))))
   refine G.name (fun m2 x2=>?_)
   have o2:∀ a2,a2≤n1→∀ (A6056:Option Addr) (c6057:Nat) (x6058:List (List Ab)) (y6059:Nat→(Ty.slice 107 Ad).Lay) (x6060:Int) (w:World),Au.l52 K a2 e1 f1 g1 d1 a1 c1 x6058 x6060=some r1→St w0 w (Box b1 31 [sV A_a e1 c_a]::Box b3 65 [sV A_b f1 c_b,sV A_c g1 c_c,sV A_d d1 c_d]::Box b5 31 [.slice none 0 0]::Own (Ar .i64) 2 A2594 c2595 uu a1::Box b5200 31 [sV A6056 x6058 c6057]::Own (Ty.slice 107 Ad) 77 A6056 c6057 y6059 x6058::L)→G prog 50 217 [(2,pT b1),(3,pT b3),(4,pT b5),(5,sV A2594 a1 c2595),(6,I c1),(8,pT b5200),(9,I x6060)] m2 w (Au.post w0 L r1):=by
    refine lp (fun _ _ _ _ _ w H _=>by rw [Au.l52] at H; cases H) fun i1 g3 d2 A6056 c6057 x6058 y6059 x6060 w H HS=>?_
    rw [Au.l52] at H
    subst x2
    refine rN 2 Z ?_
    obtain ⟨t6915,h6916,H⟩:=bI H
    refine rG (mV Z (lW 0 HS Z Dq (fJ Og Z (Cs.calls HS (rD 6 r_a) h6916) (fun _ wd6917 ⟨h6918,HS⟩=>⟨_,h6918,(GO.lss Z Z Z Z (nL ?_))⟩))))
    rcases iE H with ⟨c6919,H⟩ | ⟨c6919,H⟩
    ·
     refine yB Z (tT c6919) (rN 5 Z ?_)
     obtain ⟨t6920,h6921,H⟩:=bI H
     refine rG (fL b3 0 P8 Z (lB 1 HS Z Ih Z (mV Z (fJ Uc Z (Eb.calls HS (rD 6 r_b) h6921) (fun _ wd6922 ⟨h6923,HS⟩=>⟨_,h6923,(nL ?_)⟩)))))
     rcases iE H with ⟨c6924,H⟩ | ⟨c6924,H⟩
     ·
      refine yB Z c6924 (rN 3 Z (gW (d2 i1 (lR _) _ _ _ _ _ _ H HS) Z))
     refine nB Z (Db c6924) (rN 2 Z ?_)
     obtain ⟨t6925,h6926,H⟩:=bI H
     refine rG (fJ Ti Z (Gd.calls HS  h6926) (fun _ wd6929 ⟨A6927,c6928,h6930,HS⟩=>⟨_,h6930,(aS Z (nL (rN 5 Z ?_)))⟩))
     refine G.name (fun v2 n2=>?_)
     have t2:∀ v1,v1≤i1→∀ (x6954:List Ab) (x6955:Int) (w:World),Au.l69 K v1 e1 f1 g1 d1 a1 c1 x6058 x6060 x6954 x6955=some r1→St w0 w (Box b1 31 [sV A_a e1 c_a]::Box b3 65 [sV A_b f1 c_b,sV A_c g1 c_c,sV A_d d1 c_d]::Box b5 31 [.slice none 0 0]::Own (Ar .i64) 2 A2594 c2595 uu a1::Box b5200 31 [sV A6056 x6058 c6057]::Own (Ty.slice 107 Ad) 77 A6056 c6057 y6059 x6058::Own Ad 107 A6927 c6928 uu x6954::L)→G prog 50 217 [(2,pT b1),(3,pT b3),(4,pT b5),(5,sV A2594 a1 c2595),(6,I c1),(8,pT b5200),(9,I x6060),(10,sV A6927 x6954 c6928),(11,I x6955)] v2 w (Au.post w0 L r1):=by
      refine lp (fun _ _ w H _=>by rw [Au.l69] at H; cases H) fun m1 q2 s1 x6954 x6955 w H HS=>?_
      rw [Au.l69] at H
      subst n2
      refine rN 3 Z ?_
      rcases iS H with ⟨c6988,H⟩ | ⟨c6988,H⟩
      ·
       refine nB Z (tF c6988) (G.exit Z ?_)
       obtain ⟨c7017,H⟩:=iN H
       refine rG (fL b5200 0 Du Z (lB 4 HS Z Gu Z (mV Z (GO.Cw (el:=77) ([sV A6927 x6954 c6928]) HS Z Z (fun _=>by kernel_rfl) Z fun b7012 wd7013 HS=>?_))))
       replace HS:=HS.pk 8 [6,0,7,1,2,3,4,5] Z
       refine GO.Ul (S:=Ad) (u:=107) HS Z Z Z U29 Qb Z Z c7017 Z fun A7015 c7016 y7018 wd7014 HS=>fL b5200 0 Du Z (GO.Ie (j:=6) (vs:=[sV A7015 (x6058++[x6954]) c7016]) ([sV A7015 (x6058++[x6954]) c7016]) HS Z Z Z Z Z (htN Gu Z) Z Z Z fun wd7019 HS=>nL (rN 3 Z (gW (d2 m1 (Nat.le_of_succ_le q2) _ _ _ _ _ _ H (HS.pk 7 [2,3,4,5,6,0] Z)) Z)))
      refine yB Z (tT c6988) (rN 4 Z ?_)
      obtain ⟨c6989,H⟩:=iN H
      obtain ⟨c6990,H⟩:=iN H
      obtain ⟨e6991,h6992,H⟩:=Di H
      refine rG (fL b1 0 Du Z (lB 0 HS Z Gu Z (mV Z (iX Z U29 Jg (rk (rD 7 r_a) HS) c6989 (GO.Cj (T:=(Ty.slice 107 Ad)) (n:=x6060.toNat) (o:=0) HS (rD 7 r_a) Z Z (getD_some (d:=[]) (ltN c6989)) Z Z Jh Z (mV Z (GO.ix Z Z Z U77 G9 ((Ce.elem (rD 7 r_a) c6989.1 c6989.2) _ HS).2.2.1 c6990.1 c6990.2 Z (GO.Hw (T:=Ad) (n:=x6955.toNat) HS (Ce.elem (rD 7 r_a) c6989.1 c6989.2) Z Z (Cn (ltN c6990) h6992) D9 Z (GO.alloc HS Z Jz Z Z fun b6993 wd6994 HS=>sW 0 HS Z D9 Z fun wd6995 HS=>nL (sQ ?_))))))))))
      rcases iS H with ⟨c7001,H⟩ | ⟨c7001,H⟩
      ·
       refine rG (fL b6993 0 Dp Z (lB 0 HS Z na2 Z (pS 2 Z (kN 68 Z (tF c7001) (oF Z (oF Z (oF Z (oF Z (oF Z (oF Z (GO.Jm Z Z Z Z Z (nL (rN 5 Z (gW (s1 m1 (lR _) _ _ _ H (HS.pk 8 [1,2,3,4,5,6,7] Z)) Z))))))))))))))
      obtain ⟨t7002,h7003,H⟩:=bI H
      refine rG (fL b6993 0 Dp Z (lB 0 HS Z na2 Z (pS 2 Z (kN 68 Z (tT c7001) (oN Z (fL b3 0 P8 Z (bK (oN Z (lB 2 HS Z Ih Z (bK (oN Z (fL b6993 0 Dp Z (bK (oN Z ?_))))))))))))))
      refine lB 0 HS Z na2 Z (bK (oN Z (fJ Uc Z (Eb.calls HS (rD 8 r_b) h7003) (fun _ wd7004 ⟨h7005,HS⟩=>⟨_,h7005,(bK (oN Z (GO.not Z Z Z (bK (GO.Iz Z Z Z Z Z (nL ?_))))))⟩))))
      rcases iE H with ⟨c7006,H⟩ | ⟨c7006,H⟩
      ·
       refine nB Z (congrArg Bool.not c7006) (rN 4 Z (gW (s1 m1 (lR _) _ _ _ H (HS.pk 8 [1,2,3,4,5,6,7] Z)) Z))
      refine yB Z (congrArg Bool.not (Db c7006)) ?_
      obtain ⟨c7007,H⟩:=iN H
      have h7008:=(rk (ro 4 Z) HS)
      obtain ⟨c7009,H⟩:=iN H
      have h7010:=(rk (ro 7 Z) HS)
      refine G.lex mixed [0,1,2,3,7,4,5,6,8,9,10,11] (by kernel_rfl) ?_
      replace HS:=HS.drew
      refine GX.ps 3 Z (qL Z Z (fun _ _ g=>fL b6993 0 Dp Z g) Z (qL Z Z (fun _ _ g=>fL b6993 1 Gn Z g) Z (GX.l1 Z Z Z (fun _ g=>lB 0 HS Z na2 Z g) Z (qL Z Z (fun _ _ g=>iX Z U56 sz2 h7008 c7007 g) Z (GX.l1 Z Z Z (fun _ g=>GO.Cj (T:=(Ar .i64)) (n:=e6991.Tet.toNat) (o:=0) HS (ro 4 Z) Z Z (getD_some (d:=0) (ltN c7007)) Z Z na2 Z g) Z (GX.l1 Z Z Z (fun _ g=>lB 0 HS Z na2 Z g) Z (qL Z Z (fun _ _ g=>GO.Dr (.agg [I (a1.getD e6991.Tet.toNat 0),I e6991.Perm].toArray) Z Z (fun _=>by kernel_rfl) Z g) Z (qL Z Z (fun _ _ g=>iX Z U77 G9 h7010 c7009 g) Z (GX.l2 Z (GO.Ii (T:=Ad) (j:=7) (n:=x6955.toNat) (o:=0) (vs:=[I (a1.getD e6991.Tet.toNat 0),I e6991.Perm]) (⟨a1.getD e6991.Tet.toNat 0,e6991.Perm⟩:Ab) HS Z Ba Z Z Z Z (htA D9) Z (getD_some (d:=Bj) (ltN c7009)) Z Z fun wd7011 HS=>GX.fin tv (GX.nil (G.len (t:=10) (m:=(x6954.set x6955.toNat (⟨a1.getD e6991.Tet.toNat 0,e6991.Perm⟩:Ab)).length) Z (by simp only [List.length_set] <;> rfl) (rN 3 Z ?_)))))))))))))
      exact gW (s1 m1 (lR _) _ _ _ H (HS.pk 8 [1,2,3,4,5,6,7] Z)) Z
     exact gW (t2 i1 (lR _) _ _ _ H (HS.pk 7 [1,2,3,4,5,6,0] Z)) Z
    refine nB Z (tF c6919) (rN 6 Z ?_)
    refine G.name (fun p2 f2=>?_)
    have g2:∀ y1,y1≤i1→∀ (A7268:Option Addr) (c7269:Nat) (x7270:List (List Ab)) (y7271:Nat→(Ty.slice 107 Ad).Lay) (x7272:Int) (w:World),Au.l70 K y1 e1 f1 g1 d1 a1 c1 x7270 x7272=some r1→St w0 w (Box b1 31 [sV A_a e1 c_a]::Box b3 65 [sV A_b f1 c_b,sV A_c g1 c_c,sV A_d d1 c_d]::Box b5 31 [.slice none 0 0]::Own (Ar .i64) 2 A2594 c2595 uu a1::Box b5200 31 [sV A7268 x7270 c7269]::Own (Ty.slice 107 Ad) 77 A7268 c7269 y7271 x7270::L)→G prog 50 217 [(2,pT b1),(3,pT b3),(4,pT b5),(5,sV A2594 a1 c2595),(6,I c1),(8,pT b5200),(13,I x7272)] p2 w (Au.post w0 L r1):=by
     refine lp (fun _ _ _ _ _ w H _=>by rw [Au.l70] at H; cases H) fun k1 e3 u2 A7268 c7269 x7270 y7271 x7272 w H HS=>?_
     rw [Au.l70] at H
     subst f2
     refine rN 2 Z (rG (mV Z (fL b3 1 N8 Z (lB 1 HS Z Gu Z (lS Z Z U29 Z (GO.lss Z Z Z Z (nL ?_)))))))
     rcases iE H with ⟨c7521,H⟩ | ⟨c7521,H⟩
     ·
      refine yB Z (tT c7521) (rN 4 Z ?_)
      obtain ⟨t7522,h7523,H⟩:=bI H
      refine rG (fJ Ti Z (Gd.calls HS  h7523) (fun _ wd7526 ⟨A7524,c7525,h7527,HS⟩=>⟨_,h7527,(aS Z (nL (rN 5 Z ?_)))⟩))
      refine G.name (fun y2 a3=>?_)
      have i2:∀ z1,z1≤k1→∀ (x7538:List Ab) (x7539:Int) (w:World),Au.l75 K z1 e1 f1 g1 d1 a1 c1 x7270 x7272 x7538 x7539=some r1→St w0 w (Box b1 31 [sV A_a e1 c_a]::Box b3 65 [sV A_b f1 c_b,sV A_c g1 c_c,sV A_d d1 c_d]::Box b5 31 [.slice none 0 0]::Own (Ar .i64) 2 A2594 c2595 uu a1::Box b5200 31 [sV A7268 x7270 c7269]::Own (Ty.slice 107 Ad) 77 A7268 c7269 y7271 x7270::Own Ad 107 A7524 c7525 uu x7538::L)→G prog 50 217 [(2,pT b1),(3,pT b3),(4,pT b5),(5,sV A2594 a1 c2595),(6,I c1),(8,pT b5200),(13,I x7272),(14,sV A7524 x7538 c7525),(15,I x7539)] y2 w (Au.post w0 L r1):=by
       refine lp (fun _ _ w H _=>by rw [Au.l75] at H; cases H) fun u1 r2 b2 x7538 x7539 w H HS=>?_
       rw [Au.l75] at H
       subst a3
       refine rN 3 Z ?_
       rcases iS H with ⟨c7559,H⟩ | ⟨c7559,H⟩
       ·
        refine nB Z (tF c7559) (G.exit Z ?_)
        obtain ⟨c7575,H⟩:=iN H
        refine rG (fL b5200 0 Du Z (lB 4 HS Z Gu Z (mV Z (GO.Cw (el:=77) ([sV A7524 x7538 c7525]) HS Z Z (fun _=>by kernel_rfl) Z fun b7570 wd7571 HS=>?_))))
        replace HS:=HS.pk 8 [6,0,7,1,2,3,4,5] Z
        refine GO.Ul (S:=Ad) (u:=107) HS Z Z Z U29 Qb Z Z c7575 Z fun A7573 c7574 y7576 wd7572 HS=>fL b5200 0 Du Z (GO.Ie (j:=6) (vs:=[sV A7573 (x7270++[x7538]) c7574]) ([sV A7573 (x7270++[x7538]) c7574]) HS Z Z Z Z Z (htN Gu Z) Z Z Z fun wd7577 HS=>nL (rN 3 Z (gW (u2 u1 (Nat.le_of_succ_le r2) _ _ _ _ _ _ H (HS.pk 7 [2,3,4,5,6,0] Z)) Z)))
       refine yB Z (tT c7559) (rN 4 Z ?_)
       obtain ⟨c7560,H⟩:=iN H
       obtain ⟨c7561,H⟩:=iN H
       obtain ⟨e7562,h7563,H⟩:=Di H
       refine rG (fL b3 1 N8 Z (lB 1 HS Z Gu Z (mV Z (iX Z U29 Jg (rk (rD 7 r_c) HS) c7560 (GO.Cj (T:=(Ty.slice 107 Ad)) (n:=x7272.toNat) (o:=0) HS (rD 7 r_c) Z Z (getD_some (d:=[]) (ltN c7560)) Z Z Jh Z (mV Z (GO.ix Z Z Z U77 G9 ((Ce.elem (rD 7 r_c) c7560.1 c7560.2) _ HS).2.2.1 c7561.1 c7561.2 Z (GO.Hw (T:=Ad) (n:=x7539.toNat) HS (Ce.elem (rD 7 r_c) c7560.1 c7560.2) Z Z (Cn (ltN c7561) h7563) D9 Z (GO.alloc HS Z Jz Z Z fun b7564 wd7565 HS=>sW 0 HS Z D9 Z fun wd7566 HS=>nL (sQ (rG (fL b7564 0 Dp Z ?_))))))))))))
       refine lB 0 HS Z na2 Z (GO.geq Z Z Z Z (nL ?_))
       rcases iS H with ⟨c7567,H⟩ | ⟨c7567,H⟩
       ·
        refine nB Z (tF c7567) (rN 4 Z (gW (b2 u1 (lR _) _ _ _ H (HS.pk 8 [1,2,3,4,5,6,7] Z)) Z))
       refine yB Z (tT c7567) ?_
       obtain ⟨c7568,H⟩:=iN H
       refine rG (pS 3 Z (fL b7564 0 Dp Z (lB 0 HS Z na2 Z (GO.add Z Z Z Z (fL b7564 1 Gn Z (lB 0 HS Z na2 Z (GO.Dr (.agg [I (w64 (c1+e7562.Tet)),I e7562.Perm].toArray) Z Z (fun _=>by kernel_rfl) Z (iX Z U77 G9 (rk (ro 7 Z) HS) c7568 (GO.Ii (T:=Ad) (j:=7) (n:=x7539.toNat) (o:=0) (vs:=[I (w64 (c1+e7562.Tet)),I e7562.Perm]) (⟨w64 (c1+e7562.Tet),e7562.Perm⟩:Ab) HS Z Ba Z Z Z Z (htA D9) Z (getD_some (d:=Bj) (ltN c7568)) Z Z fun wd7569 HS=>nL (G.len (t:=14) (m:=(x7538.set x7539.toNat (⟨w64 (c1+e7562.Tet),e7562.Perm⟩:Ab)).length) Z (by simp only [List.length_set] <;> rfl) (rN 3 Z (gW (b2 u1 (lR _) _ _ _ H (HS.pk 8 [1,2,3,4,5,6,7] Z)) Z))))))))))))
      exact gW (i2 k1 (lR _) _ _ _ H (HS.pk 7 [1,2,3,4,5,6,0] Z)) Z
     refine nB Z (tF c7521) (rN 6 Z ?_)
     refine G.name (fun k2 d3=>?_)
     have s2:∀ c2,c2≤k1→∀ (x7641:List (List Ab)) (x7642:Int) (w:World),Au.l76 K c2 e1 f1 d1 a1 c1 x7641 x7642=some r1→St w0 w (Box b1 31 [sV A_a e1 c_a]::Box b3 65 [sV A_b f1 c_b,sV A_c g1 c_c,sV A_d d1 c_d]::Box b5 31 [.slice none 0 0]::Own (Ar .i64) 2 A2594 c2595 uu a1::Box b5200 31 [sV A7268 x7641 c7269]::Own (Ty.slice 107 Ad) 77 A7268 c7269 y7271 x7641::L)→G prog 50 217 [(2,pT b1),(3,pT b3),(4,pT b5),(5,sV A2594 a1 c2595),(6,I c1),(8,pT b5200),(17,I x7642)] k2 w (Au.post w0 L r1):=by
      refine lp (fun _ _ w H _=>by rw [Au.l76] at H; cases H) fun q1 h3 p1 x7641 x7642 w H HS=>?_
      rw [Au.l76] at H
      subst d3
      refine rN 2 Z (rG (mV Z (fL b3 2 Ko Z (lB 1 HS Z Pf Z (lS Z Z U63 Z (GO.lss Z Z Z Z (nL ?_)))))))
      rcases iS H with ⟨c7706,H⟩ | ⟨c7706,H⟩
      ·
       refine nB Z (tF c7706) (rN 2 Z (rG (lW 4 HS Z Dq (sW 2 HS Z Dq Z fun wd7768 HS=>nL ?_))))
       obtain rfl:=sI H
       exact rT _ func50 Z (Gz.Hu (j:=2) (vs:=[sV A7268 x7641 c7269]) HS Z Z Z Dq) ⟨_,_,_,Z,(HS.pk 6 [5] Z)⟩
      refine yB Z (tT c7706) (rN 4 Z ?_)
      obtain ⟨c7707,H⟩:=iN H
      obtain ⟨e7708,h7709,H⟩:=Di H
      refine rG (fL b3 2 Ko Z (lB 1 HS Z Pf Z (mV Z (iX Z U63 Y3 (rk (rD 6 r_d) HS) c7707 (GO.Hw (T:=Ci) (n:=x7642.toNat) HS (rD 6 r_d) Z Z (Cn (ltN c7707) h7709) dD Z (GO.alloc HS Z oD Z Z fun b7710 wd7711 HS=>sW 0 HS Z dD Z fun wd7712 HS=>nL (sQ ?_)))))))
      obtain ⟨c7713,H⟩:=iN H
      obtain ⟨c7714,H⟩:=iN H
      obtain ⟨e7715,h7716,H⟩:=Di H
      refine G.H8 mixed (fun w=>St w0 w (Box b7710 122 [I e7708.tet,I e7708.Cg,I e7708.to,I e7708.perm]::Box b1 31 [sV A_a e1 c_a]::L)) [1,3,5,7,9] [0,2,6,1,3,4,5,7,8,9,10,11] [] (by kernel_rfl) (by kernel_rfl) (HS.drew.pk 7 [0,1] Z) ?_
      replace HS:=HS.drew
      refine qL Z Z (fun _ _ g=>fL b1 0 Du Z g) Z (qL Z Z (fun _ _ g=>fL b7710 0 Xj Z g) Z (qL Z Z (fun _ _ g=>fL b7710 1 R7 Z g) Z (GX.ls Z Z Z (HS.pk 7 [0,1] Z) (fun _ HS _ g=>lB 1 HS Z Gu Z g) Z (GX.ls Z Z Z (HS.pk 7 [0,1] Z) (fun _ HS _ g=>lB 0 HS Z na2 Z g) Z (qL Z Z (fun _ _ g=>iX Z U29 Jg (rk (rD 7 r_a) HS) c7713 g) Z (GX.ls Z Z Z (HS.pk 7 [0,1] Z) (fun _ HS _ g=>GO.Cj (T:=(Ty.slice 107 Ad)) (n:=e7708.tet.toNat) (o:=0) HS (rD 2 r_a) Z Z (getD_some (d:=[]) (ltN c7713)) Z Z Jh Z g) Z (GX.ls Z Z Z (HS.pk 7 [0,1] Z) (fun _ HS _ g=>lB 0 HS Z na2 Z g) Z (qL Z Z (fun _ _ g=>GO.ix Z Z Z U77 G9 ((Ce.elem (rD 7 r_a) c7713.1 c7713.2) _ HS).2.2.1 c7714.1 c7714.2 Z g) Z (GX.ls Z Z Z (HS.pk 7 [0,1] Z) (fun _ HS _ g=>GO.Hw (T:=Ad) (n:=e7708.Cg.toNat) HS (Ce.elem (rD 2 r_a) c7713.1 c7713.2) Z Z (Cn (ltN c7714) h7716) D9 Z g) Z (GX.l2 Z (GO.alloc HS Z Jz Z Z fun b7717 wd7718 HS=>GX.fin (HS.pk 8 [1,2] Z) (GX.l2 Z (sW 0 HS Z D9 Z fun wd7719 HS=>?_)))))))))))))
      refine GX.fin (HS.pk 8 [1,2] Z) (GX.nil (rN 2 Z (rG (fL b7717 0 Dp Z (lB 0 HS Z na2 Z (GO.lss Z Z Z Z (nL ?_)))))))
      rcases iE H with ⟨c7720,H⟩ | ⟨c7720,H⟩
      ·
       refine yB Z (tT c7720) (rN 3 Z (gW (p1 q1 (lR _) _ _ _ H (HS.pk 8 [2,3,4,5,6,7] Z)) Z))
      refine nB Z (tF c7720) (rN 2 Z ?_)
      obtain ⟨t7721,h7722,H⟩:=bI H
      refine rG (fL b7710 3 Vw Z (lB 1 HS Z na2 Z (fL b7710 1 R7 Z (lB 1 HS Z na2 Z (fJ Jt Z (Bq.calls HS  h7722) (fun _ wd7723 ⟨h7724,HS⟩=>⟨_,h7724,(aS Z (nL (sQ ?_)))⟩))))))
      obtain ⟨t7725,h7726,H⟩:=bI H
      obtain ⟨t7729,h7730,H⟩:=bI H
      refine G.H8 mixed (fun w=>St w0 w (Box b7717 107 [I e7715.Tet,I e7715.Perm]::Box b7710 122 [I e7708.tet,I e7708.Cg,I e7708.to,I e7708.perm]::L)) [1,4] [0,3,1,4,2,5,6] [] (by kernel_rfl) (by kernel_rfl) (HS.drew.pk 8 [0,1] Z) ?_
      replace HS:=HS.drew
      refine qL Z Z (fun _ _ g=>fL b7710 3 Vw Z g) Z (qL Z Z (fun _ _ g=>fL b7717 1 Gn Z g) Z (GX.ls Z Z Z (HS.pk 8 [0,1] Z) (fun _ HS _ g=>lB 1 HS Z na2 Z g) Z (GX.ls Z Z Z (HS.pk 8 [0,1] Z) (fun _ HS _ g=>lB 0 HS Z na2 Z g) Z (GX.l2 Z (fJ T9 Z (Dx.calls HS  h7726) (fun _ wd7727 ⟨h7728,HS⟩=>⟨_,h7728,(GX.fin (HS.pk 8 [0,1] Z) (GX.l2 Z (fJ Yc Z (G5.calls HS  h7730) (fun _ wd7731 ⟨h7732,HS⟩=>⟨_,h7732,(GX.fin (HS.pk 8 [0,1] Z) (GX.ps 1 Z (GX.nil (rN 2 Z ?_))))⟩))))⟩))))))
      obtain ⟨t7733,h7734,H⟩:=bI H
      refine rG (fL b3 0 P8 Z (lB 3 HS Z Ih Z (fL b7717 0 Dp Z (lB 0 HS Z na2 Z (fJ Uc Z (Eb.calls HS (rD 8 r_b) h7734) (fun _ wd7735 ⟨h7736,HS⟩=>⟨_,h7736,(GO.not Z Z Z (nL ?_))⟩))))))
      rcases iS H with ⟨c7737,H⟩ | ⟨c7737,H⟩
      ·
       refine yB Z (congrArg Bool.not (Db c7737)) (sQ ?_)
       obtain ⟨c7761,H⟩:=iN H
       have h7762:=(rk (ro 5 Z) HS)
       obtain ⟨t7763,h7764,H⟩:=bI H
       obtain ⟨c7765,H⟩:=iN H
       refine G.lex mixed [1,2,5,6,7,11,0,3,4,8,9,10,12] (by kernel_rfl) ?_
       replace HS:=HS.drew
       refine GX.ps 1 Z (qL Z Z (fun _ _ g=>fL b7710 2 Xa Z g) Z (GX.ps 2 Z (qL Z Z (fun _ _ g=>fL b7717 0 Dp Z g) Z (GX.ps 1 Z (GX.l1 Z Z Z (fun _ g=>lW 6 HS Z Dq g) Z (GX.l1 Z Z Z (fun _ g=>lB 1 HS Z na2 Z g) Z (GX.ps 1 Z (GX.l1 Z Z Z (fun _ g=>lB 0 HS Z na2 Z g) Z (qL Z Z (fun _ _ g=>iX Z U56 sz2 h7762 c7761 g) Z (GX.l1 Z Z Z (fun _ g=>GO.Cj (T:=(Ar .i64)) (n:=e7715.Tet.toNat) (o:=0) HS (ro 5 Z) Z Z (getD_some (d:=0) (ltN c7761)) Z Z na2 Z g) Z (GX.l2 Z ?_)))))))))))
       replace HS:=HS.pk 8 [7,0,1,2,3,4,5,6] Z
       refine fJ pU Z (Iu.calls HS  h7764) (fun _ wd7766 ⟨h7767,HS⟩=>⟨_,h7767,(GX.fin tv (GX.nil ?_))⟩)
       replace HS:=HS.K3 (j:=7) (cs':=[sV A7268 t7763 c7269]) Z (by simp only [sV,List.length_set,c7765] <;> rfl)
       refine rN 3 Z (gW (p1 q1 (lR _) _ _ _ H (HS.pk 8 [3,4,5,6,7,0] Z)) Z)
      refine nB Z (congrArg Bool.not c7737) (rN 2 Z ?_)
      obtain ⟨t7738,h7739,H⟩:=bI H
      obtain ⟨t7742,h7743,H⟩:=bI H
      obtain ⟨c7746,H⟩:=iN H
      obtain ⟨e7747,h7748,H⟩:=Di H
      refine G.K7 mixed (by decide) (fun b a w=>∃ (b7749:Nat) (h1:Cy),RS 217 [(2,pT b1),(3,pT b3),(4,pT b5),(5,sV A2594 a1 c2595),(6,I c1),(8,pT b5200),(17,I x7642),(18,pT b7710),(19,pT b7717),(20,I t7721),(21,I t7729)] [rv 187 (.pointer (some ⟨b3,2,none⟩)),rv 188 (sV A_d d1 c_d),rv 189 (.pointer (some ⟨b3,2,none⟩)),rv 190 (sV A_d d1 c_d),rv 191 (pT b7717),rv 192 (I e7715.Tet),rv 193 (.pointer (some ⟨b7717,1,none⟩)),rv 194 (I e7715.Perm),rv 195 (.pointer (some ⟨b7710,1,none⟩)),rv 196 (I e7708.Cg),rv 197 (I t7738),rv 198 (I t7742),rv 199 (.pointer (some (ea A_d (t7742.toNat * 4)))),rv 200 (.agg [I e7747.tet,I e7747.Cg,I e7747.to,I e7747.perm].toArray),rv 22 (pT b7749),none] b a∧St w0 w (Box b7717 107 [I e7715.Tet,I e7715.Perm]::Box b7710 122 [I e7708.tet,I e7708.Cg,I e7708.to,I e7708.perm]::Box b1 31 [sV A_a e1 c_a]::Box b3 65 [sV A_b f1 c_b,sV A_c g1 c_c,sV A_d d1 c_d]::Box b5 31 [.slice none 0 0]::Own (Ar .i64) 2 A2594 c2595 uu a1::Box b5200 31 [sV A7268 x7641 c7269]::Own (Ty.slice 107 Ad) 77 A7268 c7269 y7271 x7641::h1::L)∧(b 14=true→b 15=false→h1=Box b7749 122 [I 0,I 0,I 0,I 0])∧(b 15=true→h1=Box b7749 122 [I e7747.tet,I e7747.Cg,I e7747.to,I e7747.perm])) ?_ ?_ ?_
      · exact fun a hs=>⟨0,Emp,hs.init Z,(HS.drew.emp.pk 9 [1,2,3,4,5,6,7,8,0] Z),fun h=>Bool.noConfusion h,fun h=>Bool.noConfusion h⟩
      ·
       intro j b a w hj
       refine exI fun b7749=>exI fun h1=>anI fun hs=>fun hM q=>?_
       have HS:=hM.1
       match j,hj with
       | 0,_ =>
        refine hs.at q [] [] (fL b3 2 Ko Z (hs.fin q Z fun _ hs=>⟨_,_,hs,hM⟩))
       | 1,_ =>
        refine hs.at q [0] [] (lB 3 HS Z Pf Z (hs.fin q Z fun _ hs=>⟨_,_,hs,hM⟩))
       | 2,_ =>
        refine hs.at q [] [] (fL b3 2 Ko Z (hs.fin q Z fun _ hs=>⟨_,_,hs,hM⟩))
       | 3,_ =>
        refine hs.at q [2] [] (lB 3 HS Z Pf Z (hs.fin q Z fun _ hs=>⟨_,_,hs,hM⟩))
       | 4,_ =>
        refine hs.at q [] [] (fL b7717 0 Dp Z (hs.fin q Z fun _ hs=>⟨_,_,hs,hM⟩))
       | 5,_ =>
        refine hs.at q [4] [] (lB 0 HS Z na2 Z (hs.fin q Z fun _ hs=>⟨_,_,hs,hM⟩))
       | 6,_ =>
        refine hs.at q [] [] (fL b7717 1 Gn Z (hs.fin q Z fun _ hs=>⟨_,_,hs,hM⟩))
       | 7,_ =>
        refine hs.at q [6] [] (lB 0 HS Z na2 Z (hs.fin q Z fun _ hs=>⟨_,_,hs,hM⟩))
       | 8,_ =>
        refine hs.at q [] [] (fL b7710 1 R7 Z (hs.fin q Z fun _ hs=>⟨_,_,hs,hM⟩))
       | 9,_ =>
        refine hs.at q [8] [] (lB 1 HS Z na2 Z (hs.fin q Z fun _ hs=>⟨_,_,hs,hM⟩))
       | 10,_ =>
        refine hs.at q [7,9] [] (fJ Jt Z (Bq.calls HS  h7739) (fun _ wd7740 ⟨h7741,HS⟩=>⟨_,h7741,(hs.fin q Z fun _ hs=>⟨_,_,hs,HS,hM.2⟩)⟩))
       | 11,_ =>
        refine hs.at q [3,5,10] [] (fJ xN Z (Ga.calls HS (rD 9 r_d) h7743) (fun _ wd7744 ⟨h7745,HS⟩=>⟨_,h7745,(hs.fin q Z fun _ hs=>⟨_,_,hs,HS,hM.2⟩)⟩))
       | 12,_ =>
        refine hs.at q [1,11] [] (iX Z U63 Y3 (rk (rD 9 r_d) HS) c7746 (hs.fin q Z fun _ hs=>⟨_,_,hs,hM⟩))
       | 13,_ =>
        refine hs.at q [12] [] (GO.Hw (T:=Ci) (n:=t7742.toNat) HS (rD 9 r_d) Z Z (Cn (ltN c7746) h7748) dD Z (hs.fin q Z fun _ hs=>⟨_,_,hs,hM⟩))
       | 14,_ =>
        refine (anI fun HS=>anI fun o1=>fun t1=>?_) hM
        refine hs.at q [] [] (GO.alloc HS Z oD Z Z fun b7749 wd7750 HS=>hs.Oj q [14] (fun _ hs=>⟨b7749,Box b7749 122 [I 0,I 0,I 0,I 0],hs,HS.pk 10 [1,2,3,4,5,6,7,8,0] Z,fun _ _=>Z,fun hh=>(q.no 15 hh).elim⟩) Z Z)
       | 15,_ =>
        refine (anI fun HS=>anI fun o1=>fun t1=>?_) hM
        have hb14:=q.on 14
        obtain rfl:=o1 hb14 q.hb
        refine hs.at q [14,13] [] (sW 8 HS Z dD Z fun wd7751 HS=>hs.We q Z fun _ hs=>⟨b7749,Box b7749 122 [I e7747.tet,I e7747.Cg,I e7747.to,I e7747.perm],hs,HS,fun _ h=>Bool.noConfusion h,fun _=>Z⟩)
       | k+16,hj=>exact absurd hj (Nat.not_lt.2 (Nat.le_add_left 16 k))
      ·
       intro b a w hall
       refine exI fun b7749=>exI fun h1=>anI fun hs=>anI fun HS=>anI fun o1=>fun t1=>?_
       obtain rfl:=t1 (hall 15 (by decide))
       refine G.at (hs.all hall) ?_
       obtain ⟨t7752,h7753,H⟩:=bI H
       obtain ⟨t7756,h7757,H⟩:=bI H
       obtain ⟨c7758,H⟩:=iN H
       refine G.H8 mixed (fun w=>St w0 w (Box b7710 122 [I e7708.tet,I e7708.Cg,I e7708.to,I e7708.perm]::Box b5200 31 [sV A7268 x7641 c7269]::Box b7749 122 [I e7747.tet,I e7747.Cg,I e7747.to,I e7747.perm]::L)) [0,3,8,12] [1,2,5,6,7,10,11,0,3,4,8,9,12,13,14] [] (by kernel_rfl) (by kernel_rfl) (HS.drew.pk 9 [1,6,8] Z) ?_
       replace HS:=HS.drew
       refine GX.ps 1 Z (qL Z Z (fun _ _ g=>fL b7710 2 Xa Z g) Z (GX.ps 2 Z (qL Z Z (fun _ _ g=>fL b7749 2 Xa Z g) Z (GX.ps 1 Z (qL Z Z (fun _ _ g=>fL b7749 3 Vw Z g) Z (GX.ls Z Z Z (HS.pk 9 [1,6,8] Z) (fun _ HS _ g=>lW 1 HS Z Dq g) Z (GX.ls Z Z Z (HS.pk 9 [1,6,8] Z) (fun _ HS _ g=>lB 0 HS Z na2 Z g) Z (GX.ps 1 Z (GX.ls Z Z Z (HS.pk 9 [1,6,8] Z) (fun _ HS _ g=>lB 2 HS Z na2 Z g) Z (GX.ps 1 Z (GX.ls Z Z Z (HS.pk 9 [1,6,8] Z) (fun _ HS _ g=>lB 2 HS Z na2 Z g) Z (GX.l2 Z (fJ Yc Z (G5.calls HS  h7753) (fun _ wd7754 ⟨h7755,HS⟩=>⟨_,h7755,(GX.fin (HS.pk 9 [1,6,8] Z) ?_)⟩))))))))))))))
       refine GX.l2 Z ?_
       replace HS:=HS.pk 9 [7,0,1,2,3,4,5,6,8] Z
       refine fJ pU Z (Iu.calls HS  h7757) (fun _ wd7759 ⟨h7760,HS⟩=>⟨_,h7760,(GX.fin (HS.pk 9 [2,7,8] Z) (GX.nil ?_))⟩)
       replace HS:=HS.K3 (j:=7) (cs':=[sV A7268 t7756 c7269]) Z (by simp only [sV,List.length_set,c7758] <;> rfl)
       refine rN 3 Z (gW (p1 q1 (lR _) _ _ _ H (HS.pk 9 [3,4,5,6,7,0] Z)) Z)
     exact gW (s2 k1 (lR _) _ _ _ H HS) Z
    exact gW (g2 i1 (lR _) _ _ _ _ _ _ H HS) Z
   replace HS:=HS.Dm (Ty.slice 107 Ad) 77 (fun _=>⟨none,0,uu⟩)
   exact gW (o2 n1 (lR _) _ _ _ _ _ _ H (HS.pk 6 [2,3,4,5,1,0] Z)) Z
  exact gW (c3 K (lR _) _ _ _ _ _ _ H (HS.pk 4 [3,2,1,0] Z)) Z
theorem I5.calls {a1:List (List Ab)} {d1 c1 e1:Int} {y_a:Nat→(Ty.slice 107 Ad).Lay} {r1:List (List Ab)} {r2:Int} (HS:St w0 w (L)) (r_a:Ce w0 L (Ty.slice 107 Ad) A_a c_a y_a a1) (H:I5.f K a1 d1 c1 e1=some (r1,r2)) :
    Calls prog 25 #[.agg [sV A_a a1 c_a].toArray,.agg [I d1,I c1,I e1].toArray] w (I5.post w0 L r1 r2):=by
  unfold I5.f at H
  refine cG func25 Z ?_
  refine sQ (rG (bA HS Z fun b1 wd2 HS=>bA HS Z fun b3 wd4 HS=>GO.alloc HS Z Lm Z Z fun b5 wd6 HS=>aS Z (nL (sQ ?_))))
  obtain ⟨t7,t8,t9,t10,h11,H⟩:=D8 H
  refine rG (lW 2 HS Z Dq (lW 1 HS Z Lb (fJ oH Z (H6.calls HS (rD 3 r_a) h11) (fun _ wd19 ⟨A12,c13,A14,c15,y16,A17,c18,h20,HS⟩=>⟨_,h20,(pS 3 Z (GO.alloc HS Z Qr Z Z fun b21 wd22 HS=>sW 0 HS Z Ht Z fun wd23 HS=>aS Z (nL (rN 3 Z ?_))))⟩))))
  rcases iS H with ⟨c24,H⟩ | ⟨c24,H⟩
  ·
   refine yB Z (nF c24) (sQ (rG (GO.Dr (.agg [.slice none 0 0].toArray) Z Z (fun _=>by kernel_rfl) Z (mV Z (sW 4 HS Z Dq Z fun wd33 HS=>aS Z (nL ?_))))))
   replace HS:=HS.Dm (Ty.slice 107 Ad) 77 (fun _=>⟨none,0,uu⟩)
   obtain ⟨rfl,rfl⟩:=H9 H
   exact G.Hy _ _ func25 Z (Gz.Hu (j:=5) (vs:=[.slice none 0 0]) HS Z Z Z Dq) Z ⟨_,_,_,Z,(HS.pk 8 [0] Z)⟩
  refine nB Z (nT c24) (rN 2 Z ?_)
  obtain ⟨t25,h26,H⟩:=bI H
  refine rG (lW 6 HS Z Dq (lW 0 HS Z Ht (fJ vE Z (Au.calls HS (rD 7 r_a) (ro 1 Z) (ro 2 Z) (ro 3 Z) h26) (fun _ wd30 ⟨A27,c28,y29,h31,HS⟩=>⟨_,h31,(sW 5 HS Z Dq Z fun wd32 HS=>aS Z (nL ?_))⟩))))
  obtain ⟨rfl,rfl⟩:=H9 H
  exact G.Hy _ _ func25 Z (Gz.Hu (j:=5) (vs:=[sV A27 t25 c28]) HS Z Z Z Dq) Z ⟨_,_,_,Z,(HS.pk 8 [0] Z)⟩
theorem Eu.calls {a_ b_:List Dg} {r1:Bool} (HS:St w0 w (L)) (r_a:Ce w0 L Ej A_a c_a uu a_) (r_b:Ce w0 L Ej A_b c_b uu b_) (H:Eu.f K a_ b_=some r1) :
    Calls prog 18 #[sV A_a a_ c_a,sV A_b b_ c_b] w (Eu.post w0 L r1):=by
  unfold Eu.f at H
  refine cG func18 Z ?_
  refine rN 4 Z (rG (mV Z (lS Z Z U37 Z (mV Z (lS Z Z U37 Z (GO.neq Z Z Z Z (nL ?_)))))))
  rcases iS H with ⟨c1,H⟩ | ⟨c1,H⟩
  ·
   refine yB Z (nF c1) (rN 2 Z ?_)
   obtain rfl:=sI H
   exact rT _ func18 Z Z ⟨Z,HS⟩
  refine nB Z (nT c1) (rN 6 Z ?_)
  refine G.name (fun g1 e1=>?_)
  have f1:∀ b1,b1≤K→∀ (a1:Int) (w:World),Eu.l1 K b1 a_ b_ a1=some r1→St w0 w (L)→G prog 18 27 [(0,sV A_a a_ c_a),(1,sV A_b b_ c_b),(5,I a1)] g1 w (Eu.post w0 L r1):=by
   refine lp (fun _ w H _=>by rw [Eu.l1] at H; cases H) fun d1 i1 h1 a1 w H HS=>?_
   rw [Eu.l1] at H
   subst e1
   refine rN 2 Z (rG (pS 2 Z (lS Z Z U37 Z (GO.lss Z Z Z Z (nL ?_)))))
   rcases iS H with ⟨c27,H⟩ | ⟨c27,H⟩
   ·
    refine nB Z (tF c27) (rN 3 Z ?_)
    obtain rfl:=sI H
    exact rT _ func18 Z Z ⟨Z,HS⟩
   refine yB Z (tT c27) (rN 4 Z ?_)
   obtain ⟨c28,H⟩:=iN H
   obtain ⟨e29,h30,H⟩:=Di H
   obtain ⟨c31,H⟩:=iN H
   obtain ⟨e32,h33,H⟩:=Di H
   obtain ⟨t34,h35,H⟩:=bI H
   refine G.lex mixed [0,1,2,4,5,6,3,7,8,9] (by kernel_rfl) ?_
   replace HS:=HS.drew
   refine GX.ps 2 Z (qL Z Z (fun _ _ g=>iX Z U37 Ql (rk r_a HS) c28 g) Z (GX.ps 2 Z (qL Z Z (fun _ _ g=>iX Z U37 Ql (rk r_b HS) c31 g) Z (GX.l1 Z Z Z (fun _ g=>GO.Hw (T:=Ej) (n:=a1.toNat) HS r_a Z Z (Cn (ltN c28) h30) Lb Z g) Z (GX.l1 Z Z Z (fun _ g=>GO.Hw (T:=Ej) (n:=a1.toNat) HS r_b Z Z (Cn (ltN c31) h33) Lb Z g) Z (GX.l2 Z (fJ uS Z (Jw.calls HS  h35) (fun _ wd36 ⟨h37,HS⟩=>⟨_,h37,(GX.fin tv (GX.ps 1 Z (GX.nil ?_)))⟩))))))))
   rcases iS H with ⟨c38,H⟩ | ⟨c38,H⟩
   ·
    refine yB Z (congrArg Bool.not (Db c38)) (rN 2 Z ?_)
    obtain rfl:=sI H
    exact rT _ func18 Z Z ⟨Z,HS⟩
   refine nB Z (congrArg Bool.not c38) (rN 4 Z (gW (h1 d1 (lR _) _ _ H HS) Z))
  exact gW (f1 K (lR _) _ _ H HS) Z
theorem E5.calls {a_:List Ab} {k_:Int} {r1:Int} {r2:List Ab} (HS:St w0 w (Own Ad 107 A_a c_a uu a_::L)) (H:E5.f K a_ k_=some (r1,r2)) :
    Calls prog 82 #[sV A_a a_ c_a,I k_] w (E5.post w0 L A_a c_a r1 r2):=by
  unfold E5.f at H
  refine cG func82 Z ?_
  refine rN 7 Z ?_
  refine G.name (fun g1 e1=>?_)
  have f1:∀ c1,c1≤K→∀ (x10:List Ab) (a1 b1:Int) (w:World),E5.l1 K c1 x10 a1 b1=some (r1,r2)→St w0 w (Own Ad 107 A_a c_a uu x10::L)→G prog 82 27 [(0,sV A_a x10 c_a),(1,I a1),(5,I b1)] g1 w (E5.post w0 L A_a c_a r1 r2):=by
   refine lp (fun _ _ _ w H _=>by rw [E5.l1] at H; cases H) fun d1 i1 h1 x10 a1 b1 w H HS=>?_
   rw [E5.l1] at H
   subst e1
   refine rN 2 Z (rG (pS 2 Z (lS Z Z U77 Z (GO.lss Z Z Z Z (nL ?_)))))
   rcases iS H with ⟨c22,H⟩ | ⟨c22,H⟩
   ·
    refine nB Z (tF c22) (rN 3 Z ?_)
    obtain ⟨rfl,rfl⟩:=H9 H
    exact rT _ func82 Z Z ⟨Z,HS⟩
   refine yB Z (tT c22) (rN 4 Z ?_)
   obtain ⟨c23,H⟩:=iN H
   obtain ⟨e25,h26,H⟩:=Di H
   refine rG (pS 3 Z (iX Z U77 G9 (rk (ro 0 Z) HS) c23 (GO.fld (ea A_a (b1.toNat * 2)) Z Z Dp Z Z (GO.Ii (T:=Ad) (j:=0) (n:=b1.toNat) (o:=0) (vs:=[I a1]) ({ e25 with Tet:=a1 }) HS Z Ba Z Z Z Z (htN na2 Z) Z (Cn (ltN c23) h26) Z Z fun wd24 HS=>nL (G.len (t:=0) (m:=(x10.set b1.toNat ({ e25 with Tet:=a1 })).length) Z (by simp only [List.length_set] <;> rfl) (rN 3 Z ?_))))))
   obtain ⟨c27,H⟩:=iN H
   obtain ⟨e29,h30,H⟩:=Di H
   refine rG (pS 3 Z (iX Z U77 G9 (rk (ro 0 Z) HS) c27 (GO.fld (ea A_a (b1.toNat * 2+1)) Z Z Gn (Ot _ _ _) Z (GO.Ii (T:=Ad) (j:=0) (n:=b1.toNat) (o:=1) (vs:=[I (w64 (a1+1))]) ({ e29 with Perm:=w64 (a1+1) }) HS Z Ba Z Z Z Z (htN na2 Z) Z (Cn (ltN c27) h30) Z Z fun wd28 HS=>nL (G.len (t:=0) (m:=((x10.set b1.toNat ({ e25 with Tet:=a1 })).set b1.toNat ({ e29 with Perm:=w64 (a1+1) })).length) Z (by simp only [List.length_set] <;> rfl) (rN 4 Z (gW (h1 d1 (lR _) _ _ _ _ H HS) Z)))))))
  exact gW (f1 K (lR _) _ _ _ _ H HS) Z
theorem Fx.calls {a_:List (List Ab)} {k_:Int} {y_a:Nat→(Ty.slice 107 Ad).Lay} {r1:Int} {r2:List (List Ab)} (HS:St w0 w (Own (Ty.slice 107 Ad) 77 A_a c_a y_a a_::L)) (H:Fx.f K a_ k_=some (r1,r2)) :
    Calls prog 48 #[sV A_a a_ c_a,I k_] w (Fx.post w0 L A_a c_a y_a r1 r2):=by
  unfold Fx.f at H
  refine cG func48 Z ?_
  refine rN 7 Z ?_
  refine G.name (fun g1 e1=>?_)
  have f1:∀ c1,c1≤K→∀ (x9:List (List Ab)) (b1 a1:Int) (w:World),Fx.l1 K c1 x9 b1 a1=some (r1,r2)→St w0 w (Own (Ty.slice 107 Ad) 77 A_a c_a y_a x9::L)→G prog 48 19 [(0,sV A_a x9 c_a),(1,I b1),(5,I a1)] g1 w (Fx.post w0 L A_a c_a y_a r1 r2):=by
   refine lp (fun _ _ _ w H _=>by rw [Fx.l1] at H; cases H) fun d1 i1 h1 x9 b1 a1 w H HS=>?_
   rw [Fx.l1] at H
   subst e1
   refine rN 2 Z (rG (pS 2 Z (lS Z Z U29 Z (GO.lss Z Z Z Z (nL ?_)))))
   rcases iS H with ⟨c20,H⟩ | ⟨c20,H⟩
   ·
    refine nB Z (tF c20) (rN 3 Z ?_)
    obtain ⟨rfl,rfl⟩:=H9 H
    exact rT _ func48 Z Z ⟨Z,HS⟩
   refine yB Z (tT c20) (rN 3 Z ?_)
   obtain ⟨c21,H⟩:=iN H
   obtain ⟨t22,t23,h24,H⟩:=Ea H
   obtain ⟨c25,H⟩:=iN H
   refine rG (pS 2 Z (iX Z U29 Jg (rk (ro 0 Z) HS) c21 (GO.Cj (T:=(Ty.slice 107 Ad)) (n:=a1.toNat) (o:=0) HS (ro 0 Z) Z Z (getD_some (d:=[]) (ltN c21)) Z Z Jh Z (mV Z ?_))))
   replace HS:=HS.iL Fld.id (getD_some (d:=[]) (ltN c21))
   refine fJ vU Z (E5.calls HS  h24) (fun _ wd26 ⟨h27,HS⟩=>⟨_,h27,?_⟩)
   replace HS:=St.Yg (y:=t23) Fld.id (getD_some (d:=[]) (ltN c21)) (congrArg (fun m=>([.slice ((y_a a1.toNat).A) m ((y_a a1.toNat).c)]:List Value)) c25) HS
   refine aS Z (nL (G.len (t:=0) (m:=(x9.set a1.toNat t23).length) Z (by simp only [List.length_set,List.length_set] <;> rfl) (rN 3 Z (gW (h1 d1 (lR _) _ _ _ _ H HS) Z))))
  exact gW (f1 K (lR _) _ _ _ _ H HS) Z
theorem Fz.calls {a1:List (List Ab)} {k_:Int} {y_a:Nat→(Ty.slice 107 Ad).Lay} {r1:Int} {r2:List (List Ab)} (HS:St w0 w (Own (Ty.slice 107 Ad) 77 A_a c_a y_a a1::L)) (H:Fz.f K a1 k_=some (r1,r2)) :
    Calls prog 19 #[.agg [sV A_a a1 c_a].toArray,I k_] w (Fz.post w0 L A_a c_a y_a r1 r2):=by
  unfold Fz.f at H
  refine cG func19 Z ?_
  refine sQ (rG (bA HS Z fun b1 wd2 HS=>aS Z (nL (sQ ?_))))
  obtain ⟨t3,t4,h5,H⟩:=Ea H
  obtain ⟨c6,H⟩:=iN H
  refine rG (fL b1 0 Du Z (lB 0 HS Z Gu Z (mV Z ?_)))
  replace HS:=HS.pk 2 [1,0] Z
  refine fJ wM Z (Fx.calls HS  h5) (fun _ wd7 ⟨h8,HS⟩=>⟨_,h8,(aS Z (nL ?_))⟩)
  replace HS:=HS.K3 (j:=1) (cs':=[sV A_a t4 c_a]) Z (by simp only [sV,List.length_set,c6] <;> rfl)
  refine rN 2 Z ?_
  obtain ⟨rfl,rfl⟩:=H9 H
  exact rT _ func19 Z Z ⟨Z,(HS.pk 2 [0] Z)⟩
theorem Fg.calls {a_:List Dg} {k_:Int} {r1:Int} {r2:List Dg} (HS:St w0 w (Own Ej 33 A_a c_a uu a_::L)) (H:Fg.f K a_ k_=some (r1,r2)) :
    Calls prog 20 #[sV A_a a_ c_a,I k_] w (Fg.post w0 L A_a c_a r1 r2):=by
  unfold Fg.f at H
  refine cG func20 Z ?_
  refine rN 7 Z ?_
  refine G.name (fun g1 e1=>?_)
  have f1:∀ c1,c1≤K→∀ (x14:List Dg) (a1 b1:Int) (w:World),Fg.l1 K c1 x14 a1 b1=some (r1,r2)→St w0 w (Own Ej 33 A_a c_a uu x14::L)→G prog 20 34 [(0,sV A_a x14 c_a),(1,I a1),(5,I b1)] g1 w (Fg.post w0 L A_a c_a r1 r2):=by
   refine lp (fun _ _ _ w H _=>by rw [Fg.l1] at H; cases H) fun d1 i1 h1 x14 a1 b1 w H HS=>?_
   rw [Fg.l1] at H
   subst e1
   refine rN 2 Z (rG (pS 2 Z (lS Z Z U37 Z (GO.lss Z Z Z Z (nL ?_)))))
   rcases iS H with ⟨c30,H⟩ | ⟨c30,H⟩
   ·
    refine nB Z (tF c30) (rN 3 Z ?_)
    obtain ⟨rfl,rfl⟩:=H9 H
    exact rT _ func20 Z Z ⟨Z,HS⟩
   refine yB Z (tT c30) (rN 4 Z ?_)
   obtain ⟨c31,H⟩:=iN H
   obtain ⟨e33,h34,H⟩:=Di H
   refine rG (pS 3 Z (iX Z U37 Ql (rk (ro 0 Z) HS) c31 (GO.fld (ea A_a (b1.toNat * 3)) Z Z Kn Z Z (GO.Ii (T:=Ej) (j:=0) (n:=b1.toNat) (o:=0) (vs:=[I a1]) ({ e33 with Kind:=a1 }) HS Z Ba Z Z Z Z (htN na2 Z) Z (Cn (ltN c31) h34) Z Z fun wd32 HS=>nL (G.len (t:=0) (m:=(x14.set b1.toNat ({ e33 with Kind:=a1 })).length) Z (by simp only [List.length_set] <;> rfl) (rN 3 Z ?_))))))
   obtain ⟨c35,H⟩:=iN H
   obtain ⟨e37,h38,H⟩:=Di H
   refine rG (pS 3 Z (iX Z U37 Ql (rk (ro 0 Z) HS) c35 (GO.fld (ea A_a (b1.toNat * 3+1)) Z Z Ja (Ot _ _ _) Z (GO.Ii (T:=Ej) (j:=0) (n:=b1.toNat) (o:=1) (vs:=[I (w64 (a1+1))]) ({ e37 with Tet:=w64 (a1+1) }) HS Z Ba Z Z Z Z (htN na2 Z) Z (Cn (ltN c35) h38) Z Z fun wd36 HS=>nL (G.len (t:=0) (m:=((x14.set b1.toNat ({ e33 with Kind:=a1 })).set b1.toNat ({ e37 with Tet:=w64 (a1+1) })).length) Z (by simp only [List.length_set] <;> rfl) (rN 3 Z ?_))))))
   obtain ⟨c39,H⟩:=iN H
   obtain ⟨e41,h42,H⟩:=Di H
   refine rG (pS 3 Z (iX Z U37 Ql (rk (ro 0 Z) HS) c39 (GO.fld (ea A_a (b1.toNat * 3+2)) Z Z Kc (Ot _ _ _) Z (GO.Ii (T:=Ej) (j:=0) (n:=b1.toNat) (o:=2) (vs:=[I (w64 ((w64 (a1+1))+1))]) ({ e41 with Index:=w64 ((w64 (a1+1))+1) }) HS Z Ba Z Z Z Z (htN na2 Z) Z (Cn (ltN c39) h42) Z Z fun wd40 HS=>nL (G.len (t:=0) (m:=(((x14.set b1.toNat ({ e33 with Kind:=a1 })).set b1.toNat ({ e37 with Tet:=w64 (a1+1) })).set b1.toNat ({ e41 with Index:=w64 ((w64 (a1+1))+1) })).length) Z (by simp only [List.length_set] <;> rfl) (rN 4 Z (gW (h1 d1 (lR _) _ _ _ _ H HS) Z)))))))
  exact gW (f1 K (lR _) _ _ _ _ H HS) Z
theorem Ez.calls {a_:List Ab} {k_:Int} {r1:Int} (HS:St w0 w (L)) (r_a:Ce w0 L Ad A_a c_a uu a_) (H:Ez.f K a_ k_=some r1) :
    Calls prog 97 #[sV A_a a_ c_a,I k_] w (Ez.post w0 L r1):=by
  unfold Ez.f at H
  refine cG func97 Z ?_
  refine rN 7 Z ?_
  refine G.name (fun e1 c1=>?_)
  have d1:∀ a1,a1≤K→∀ (k_7 i_8:Int) (w:World),Ez.l1 K a1 a_ k_7 i_8=some r1→St w0 w (L)→G prog 97 31 [(0,sV A_a a_ c_a),(1,I k_7),(5,I i_8)] e1 w (Ez.post w0 L r1):=by
   refine lp (fun _ _ w H _=>by rw [Ez.l1] at H; cases H) fun b1 g1 f1 k_7 i_8 w H HS=>?_
   rw [Ez.l1] at H
   subst c1
   refine rN 2 Z (rG (pS 2 Z (lS Z Z U77 Z (GO.lss Z Z Z Z (nL ?_)))))
   rcases iS H with ⟨c15,H⟩ | ⟨c15,H⟩
   ·
    refine nB Z (tF c15) (rN 3 Z ?_)
    obtain rfl:=sI H
    exact rT _ func97 Z Z ⟨Z,HS⟩
   refine yB Z (tT c15) (rN 5 Z ?_)
   obtain ⟨c16,H⟩:=iN H
   obtain ⟨e17,h18,H⟩:=Di H
   refine rG (pS 2 Z (iX Z U77 G9 (rk r_a HS) c16 (GO.fld (ea A_a (i_8.toNat * 2)) Z Z Dp Z Z (GO.Cj (T:=Ad) (n:=i_8.toNat) (o:=0) HS r_a Z Z (Cn (ltN c16) h18) Z Z na2 Z (pS 2 Z (nL ?_))))))
   rcases iS H with ⟨c19,H⟩ | ⟨c19,H⟩
   ·
    refine yB Z (nF c19) (rN 2 Z ?_)
    obtain rfl:=sI H
    exact rT _ func97 Z Z ⟨Z,HS⟩
   refine nB Z (nT c19) (rN 5 Z (rG (pS 2 Z (iX Z U77 G9 (rk r_a HS) c16 (GO.fld (ea A_a (i_8.toNat * 2+1)) Z Z Gn (Ot _ _ _) Z (GO.Cj (T:=Ad) (n:=i_8.toNat) (o:=1) HS r_a Z Z (Cn (ltN c16) h18) Z Z na2 Z (pS 2 Z (nL ?_))))))))
   rcases iS H with ⟨c20,H⟩ | ⟨c20,H⟩
   ·
    refine yB Z (nF c20) (rN 2 Z ?_)
    obtain rfl:=sI H
    exact rT _ func97 Z Z ⟨Z,HS⟩
   refine nB Z (nT c20) (rN 5 Z (gW (f1 b1 (lR _) _ _ _ H HS) Z))
  exact gW (d1 K (lR _) _ _ _ H HS) Z
theorem Fp.calls {a_:List (List Ab)} {k_:Int} {y_a:Nat→(Ty.slice 107 Ad).Lay} {r1:Int} (HS:St w0 w (L)) (r_a:Ce w0 L (Ty.slice 107 Ad) A_a c_a y_a a_) (H:Fp.f K a_ k_=some r1) :
    Calls prog 52 #[sV A_a a_ c_a,I k_] w (Fp.post w0 L r1):=by
  unfold Fp.f at H
  refine cG func52 Z ?_
  refine rN 7 Z ?_
  refine G.name (fun e1 c1=>?_)
  have d1:∀ a1,a1≤K→∀ (k_8 i_9:Int) (w:World),Fp.l1 K a1 a_ k_8 i_9=some r1→St w0 w (L)→G prog 52 21 [(0,sV A_a a_ c_a),(1,I k_8),(5,I i_9)] e1 w (Fp.post w0 L r1):=by
   refine lp (fun _ _ w H _=>by rw [Fp.l1] at H; cases H) fun b1 g1 f1 k_8 i_9 w H HS=>?_
   rw [Fp.l1] at H
   subst c1
   refine rN 2 Z (rG (pS 2 Z (lS Z Z U29 Z (GO.lss Z Z Z Z (nL ?_)))))
   rcases iS H with ⟨c17,H⟩ | ⟨c17,H⟩
   ·
    refine nB Z (tF c17) (rN 3 Z ?_)
    obtain rfl:=sI H
    exact rT _ func52 Z Z ⟨Z,HS⟩
   refine yB Z (tT c17) (rN 4 Z ?_)
   obtain ⟨c18,H⟩:=iN H
   obtain ⟨t19,h20,H⟩:=bI H
   refine rG (pS 2 Z (iX Z U29 Jg (rk r_a HS) c18 (GO.Cj (T:=(Ty.slice 107 Ad)) (n:=i_9.toNat) (o:=0) HS r_a Z Z (getD_some (d:=[]) (ltN c18)) Z Z Jh Z (mV Z (fJ vF Z (Ez.calls HS (Ce.elem r_a c18.1 c18.2) h20) (fun _ wd21 ⟨h22,HS⟩=>⟨_,h22,(aS Z (nL (rN 2 Z ?_)))⟩))))))
   rcases iE H with ⟨c23,H⟩ | ⟨c23,H⟩
   ·
    refine yB Z (tT c23) (rN 2 Z ?_)
    obtain rfl:=sI H
    exact rT _ func52 Z Z ⟨Z,HS⟩
   refine nB Z (tF c23) (rN 4 Z (gW (f1 b1 (lR _) _ _ _ H HS) Z))
  exact gW (d1 K (lR _) _ _ _ H HS) Z
theorem F4.calls {a1:List (List Ab)} {k_:Int} {y_a:Nat→(Ty.slice 107 Ad).Lay} {r1:Int} (HS:St w0 w (L)) (r_a:Ce w0 L (Ty.slice 107 Ad) A_a c_a y_a a1) (H:F4.f K a1 k_=some r1) :
    Calls prog 27 #[.agg [sV A_a a1 c_a].toArray,I k_] w (F4.post w0 L r1):=by
  unfold F4.f at H
  refine cG func27 Z ?_
  refine sQ (rG (bA HS Z fun b1 wd2 HS=>aS Z (nL (sQ ?_))))
  obtain ⟨t3,h4,H⟩:=bI H
  refine rG (fL b1 0 Du Z (lB 0 HS Z Gu Z (mV Z (fJ uO Z (Fp.calls HS (rD 1 r_a) h4) (fun _ wd5 ⟨h6,HS⟩=>⟨_,h6,(aS Z (nL (rN 3 Z ?_)))⟩)))))
  rcases iE H with ⟨c7,H⟩ | ⟨c7,H⟩
  ·
   refine yB Z (tT c7) (rN 2 Z ?_)
   obtain rfl:=sI H
   exact rT _ func27 Z Z ⟨Z,(HS.pk 1 [] Z)⟩
  refine nB Z (tF c7) (rN 3 Z ?_)
  obtain rfl:=sI H
  exact rT _ func27 Z Z ⟨Z,(HS.pk 1 [] Z)⟩
end Go.Proofs.YtbjfinndngafoaaGreat
