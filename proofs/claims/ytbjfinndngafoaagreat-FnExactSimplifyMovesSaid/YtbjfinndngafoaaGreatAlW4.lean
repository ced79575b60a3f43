/-
  The walks through the functions: a call comes to what its list function says.
-/
import Derived.Test.YtbjfinndngafoaaGreatAlF
import Derived.Test.YtbjfinndngafoaaGreatAlW3
set_option linter.unusedVariables false
set_option linter.unusedSimpArgs false
namespace Go.Proofs.YtbjfinndngafoaaGreat
open Go.RowKit
open Tryz
variable {w0 w:World} {L:List Cy} {K:Nat} {A_a A_b A_c A_d A_e A_f A_g A_h A_i A_j A_k A_l A_m A_n A_o A_p A_q A_r A_s A_t A_u A_v A_w A_x A_y A_z:Option Addr} {c_a c_b c_c c_d c_e c_f c_g c_h c_i c_j c_k c_l c_m c_n c_o c_p c_q c_r c_s c_t c_u c_v c_w c_x c_y c_z:Nat}
set_option maxRecDepth 20000
set_option maxHeartbeats 40000000
theorem Co.calls {c1:List (List Ab)} {g1:Int} {y_a:Nat→(Ty.slice 107 Ad).Lay} {r1:List Ab} (HS:St w0 w (L)) (r_a:Ce w0 L (Ty.slice 107 Ad) A_a c_a y_a c1) (H:Co.f K c1 g1=some r1) :
    Calls prog 142 #[.agg [sV A_a c1 c_a].toArray,I g1] w (Co.post w0 L r1):=by
  unfold Co.f at H
  refine cG func142 Z ?_
  refine sQ (rG (bA HS Z fun b1 wd2 HS=>aS Z (nL (sQ ?_))))
  obtain ⟨t3,t4,h5,H⟩:=Ea H
  refine rG (lW 0 HS Z Dq (mV Z (fJ qP Z (Bo.calls HS (rD 1 r_a) h5) (fun _ wd6 ⟨h7,HS⟩=>⟨_,h7,(GO.alloc HS Z Pk Z Z fun b8 wd9 HS=>sW 0 HS Z Iq Z fun wd10 HS=>nL (sQ (rG (lW 0 HS Z Iq (GO.Cw (el:=167) ([I t3,I t4]) HS Z Z (fun _=>by kernel_rfl) Z fun b11 wd12 HS=>?_)))))⟩))))
  replace HS:=HS.Fq (T:=Ad) (j:=0) Z Ba uu ([(⟨t3,t4⟩:Ab)]:List Ab) Z (Il Z)
  refine GO.H7 (t:=13) (m:=([(⟨t3,t4⟩:Ab)]:List Ab).length) (c':=([(⟨t3,t4⟩:Ab)]:List Ab).length) Z Z Z (aS Z (nL (rN 2 Z ?_)))
  refine G.name (fun n1 k1=>?_)
  have m1:∀ h1,h1≤K→∀ (A35:Option Addr) (c36:Nat) (a1:List Ab) (w:World),Co.l1 K h1 c1 t3 t4 a1=some r1→St w0 w (Box b1 31 [sV A_a c1 c_a]::Box b8 167 [I t3,I t4]::Own Ad 167 A35 c36 uu a1::L)→G prog 142 37 [(2,pT b1),(5,pT b8),(6,sV A35 a1 c36)] n1 w (Co.post w0 L r1):=by
   refine lp (fun _ _ _ w H _=>by rw [Co.l1] at H; cases H) fun i1 p1 o1 A35 c36 a1 w H HS=>?_
   rw [Co.l1] at H
   subst k1
   refine rN 2 Z ?_
   obtain ⟨c60,H⟩:=iN H
   have h61:=(rk (ro 2 Z) HS)
   obtain ⟨e62,h63,H⟩:=Di H
   obtain ⟨t64,t65,t66,h67,H⟩:=J3 H
   refine G.K7 mixed (by decide) (fun b a w=>∃ (b70:Nat) (d1:Cy),RS 37 [(2,pT b1),(5,pT b8),(6,sV A35 a1 c36)] [rv 15 (.agg [sV A_a c1 c_a].toArray),rv 16 (sV A35 a1 c36),rv 17 (sV A35 a1 c36),rv 18 (I (a1.length:Int)),rv 19 (I (w64 ((a1.length:Int) - 1))),rv 20 (.pointer (some (ea A35 (((w64 ((a1.length:Int) - 1)).toNat) * 2)))),rv 21 (.agg [I e62.Tet,I e62.Perm].toArray),rv 22 (.tuple #[.agg [I t64,I t65].toArray,.bool t66]),rv 14 (.tuple #[.agg [I t64,I t65].toArray,.bool t66]),rv 23 (.agg [I t64,I t65].toArray),rv 24 (.bool t66),rv 7 (pT b70),none,rv 8 (.bool t66)] b a∧St w0 w (Box b1 31 [sV A_a c1 c_a]::Box b8 167 [I t3,I t4]::Own Ad 167 A35 c36 uu a1::d1::L)∧(b 11=true→b 12=false→d1=Box b70 167 [I 0,I 0])∧(b 12=true→d1=Box b70 167 [I t64,I t65])) ?_ ?_ ?_
   · exact fun a hs=>⟨0,Emp,hs.init Z,(HS.drew.emp.pk 4 [1,2,3,0] Z),fun h=>Bool.noConfusion h,fun h=>Bool.noConfusion h⟩
   ·
    intro j b a w hj
    refine exI fun b70=>exI fun d1=>anI fun hs=>fun hM q=>?_
    have HS:=hM.1
    match j,hj with
    | 0,_ =>
     refine hs.at q [] [] (lW 0 HS Z Dq (hs.fin q Z fun _ hs=>⟨_,_,hs,hM⟩))
    | 1,_ =>
     refine hs.at q [] [] (mV Z (hs.fin q Z fun _ hs=>⟨_,_,hs,hM⟩))
    | 2,_ =>
     refine hs.at q [] [] (mV Z (hs.fin q Z fun _ hs=>⟨_,_,hs,hM⟩))
    | 3,_ =>
     refine hs.at q [2] [] (lS Z Z Jp Z (hs.fin q Z fun _ hs=>⟨_,_,hs,HS,hM.2⟩))
    | 4,_ =>
     refine hs.at q [3] [] (GO.sub Z Z Z Z (hs.fin q Z fun _ hs=>⟨_,_,hs,hM⟩))
    | 5,_ =>
     refine hs.at q [1,4] [] (iX Z Jp Ji h61 c60 (hs.fin q Z fun _ hs=>⟨_,_,hs,hM⟩))
    | 6,_ =>
     refine hs.at q [5] [] (GO.Hw (T:=Ad) (n:=(w64 ((a1.length:Int) - 1)).toNat) HS (ro 2 Z) Z Z (Cn (ltN c60) h63) Iq Z (hs.fin q Z fun _ hs=>⟨_,_,hs,hM⟩))
    | 7,_ =>
     refine hs.at q [0,6] [] (fJ sO Z (F3.calls HS (rD 4 r_a) h67) (fun _ wd68 ⟨h69,HS⟩=>⟨_,h69,(hs.fin q Z fun _ hs=>⟨_,_,hs,HS,hM.2⟩)⟩))
    | 8,_ =>
     refine hs.at q [7] [] (mV Z (hs.fin q Z fun _ hs=>⟨_,_,hs,hM⟩))
    | 9,_ =>
     refine hs.at q [8] [] (GO.extract Z Z Z Z (hs.fin q Z fun _ hs=>⟨_,_,hs,hM⟩))
    | 10,_ =>
     refine hs.at q [8] [] (GO.extract Z Z Z Z (hs.fin q Z fun _ hs=>⟨_,_,hs,hM⟩))
    | 11,_ =>
     refine (anI fun HS=>anI fun e1=>fun f1=>?_) hM
     refine hs.at q [] [] (GO.alloc HS Z Pk Z Z fun b70 wd71 HS=>hs.Oj q [11] (fun _ hs=>⟨b70,Box b70 167 [I 0,I 0],hs,HS.pk 5 [1,2,3,0] Z,fun _ _=>Z,fun hh=>(q.no 12 hh).elim⟩) Z Z)
    | 12,_ =>
     refine (anI fun HS=>anI fun e1=>fun f1=>?_) hM
     have hb11:=q.on 11
     obtain rfl:=e1 hb11 q.hb
     refine hs.at q [11,9] [] (sW 3 HS Z Iq Z fun wd72 HS=>hs.We q Z fun _ hs=>⟨b70,Box b70 167 [I t64,I t65],hs,HS,fun _ h=>Bool.noConfusion h,fun _=>Z⟩)
    | 13,_ =>
     refine hs.at q [10] [] (aS Z (hs.fin q Z fun _ hs=>⟨_,_,hs,hM⟩))
    | k+14,hj=>exact absurd hj (Nat.not_lt.2 (Nat.le_add_left 14 k))
   ·
    intro b a w hall
    refine exI fun b70=>exI fun d1=>anI fun hs=>anI fun HS=>anI fun e1=>fun f1=>?_
    obtain rfl:=f1 (hall 12 (by decide))
    refine G.at (hs.all hall) (rN 2 Z ?_)
    rcases iS H with ⟨c74,H⟩ | ⟨c74,H⟩
    ·
     refine rG (pS 3 Z (kN 27 Z (congrArg Bool.not (Db c74)) (oF Z (oF Z (oF Z (GO.Iz Z Z Z Z Z (nL (rN 3 Z ?_))))))))
     obtain rfl:=sI H
     exact rT _ func142 Z Z ⟨_,_,Z,(HS.pk 4 [2] Z)⟩
    refine rG (pS 3 Z (kN 27 Z (congrArg Bool.not c74) (oN Z (lW 3 HS Z Iq (bK (oN Z (lW 1 HS Z Iq (bK (oN Z (GO.iC Z Z Z nX (fun _=>oW) Z (bK (GO.Jm Z Z Z Z Z (nL ?_)))))))))))))
    rcases iE H with ⟨c75,H⟩ | ⟨c75,H⟩
    ·
     refine yB Z (tT c75) (rN 2 Z ?_)
     obtain rfl:=sI H
     exact rT _ func142 Z Z ⟨_,_,Z,(HS.pk 4 [2] Z)⟩
    refine nB Z (tF c75) (G.skip ?_)
    obtain ⟨c81,H⟩:=iN H
    refine rG (mV Z (lW 3 HS Z Iq (GO.Cw (el:=167) ([I t64,I t65]) HS Z Z (fun _=>by kernel_rfl) Z fun b76 wd77 HS=>GO.app1 (T:=Ad) (j:=3) (jb:=0) (⟨t64,t65⟩:Ab) HS Z Z Ba Z Z Z Jp fD Z Z Z c81 Z fun A79 c80 wd78 HS=>aS Z (nL (rN 2 Z (gW (o1 i1 (lR _) _ _ _ _ H (HS.pk 5 [1,2,3] Z)) Z))))))
  exact gW (m1 K (lR _) _ _ _ _ H (HS.pk 3 [2,1,0] Z)) Z
theorem Bn.calls {a1:List (List Ab)} {o A:Int} {y_a:Nat→(Ty.slice 107 Ad).Lay} {r1:Option (List Int × List (Gq × Eg) × Int × List Gi)} (HS:St w0 w (L)) (r_a:Ce w0 L (Ty.slice 107 Ad) A_a c_a y_a a1) (H:Bn.f K a1 o A=some r1) :
    Calls prog 112 #[.agg [sV A_a a1 c_a].toArray,I o,I A] w (Bn.post w0 L r1):=by
  unfold Bn.f at H
  refine cG func112 Z ?_
  refine sQ (rG (bA HS Z fun b1 wd2 HS=>aS Z (nL (sQ ?_))))
  obtain ⟨t3,h4,H⟩:=bI H
  obtain ⟨c9,H⟩:=iN H
  refine rG (lW 0 HS Z Dq (fJ Q5 Z (Bl.calls HS (rD 1 r_a) h4) (fun _ wd7 ⟨A5,c6,h8,HS⟩=>⟨_,h8,(pS 4 Z (iX Z U56 sz2 (rk (ro 0 Z) HS) c9 (GO.Cj (T:=(Ar .i64)) (n:=(w64 ((w64 (6 * o))+A)).toNat) (o:=0) HS (ro 0 Z) Z Z (getD_some (d:=0) (ltN c9)) Z Z na2 Z (aS Z (nL (rN 2 Z ?_))))))⟩)))
  obtain ⟨t25,h26,H⟩:=bI H
  obtain ⟨c31,H⟩:=iN H
  rcases iE H with ⟨c32,H⟩ | ⟨c32,H⟩
  ·
   refine rG (lW 1 HS Z Dq (fJ gM Z (Bu.calls HS (rD 2 r_a) h26) (fun _ wd29 ⟨A27,c28,h30,HS⟩=>⟨_,h30,(mV Z (iX Z Mq sz4 (rk (ro 0 Z) HS) c31 (GO.Cj (T:=Hz) (n:=(t3.getD ((w64 ((w64 (6 * o))+A)).toNat) 0).toNat) (o:=0) HS (ro 0 Z) Z Z (getD_some (d:=false) (ltN c31)) Z Z na4 Z (mV Z (kN 31 Z c32 (oF Z (oF Z (oF Z (oF Z (oF Z (GO.Iz Z Z Z Z Z (nL ?_))))))))))))⟩)))
   refine rN 3 Z ?_
   replace HS:=HS.emp
   obtain rfl:=sI H
   exact rT _ func112 Z Z ⟨0,none,0,0,none,0,Z,(HS.pk 4 [0] Z)⟩
  obtain ⟨t33,h34,H⟩:=bI H
  obtain ⟨c39,H⟩:=iN H
  refine rG (lW 1 HS Z Dq (fJ gM Z (Bu.calls HS (rD 2 r_a) h26) (fun _ wd29 ⟨A27,c28,h30,HS⟩=>⟨_,h30,(mV Z (iX Z Mq sz4 (rk (ro 0 Z) HS) c31 (GO.Cj (T:=Hz) (n:=(t3.getD ((w64 ((w64 (6 * o))+A)).toNat) 0).toNat) (o:=0) HS (ro 0 Z) Z Z (getD_some (d:=false) (ltN c31)) Z Z na4 Z (mV Z (kN 31 Z (Db c32) (oN Z (lW 2 HS Z Dq (bK (oN Z (fJ jR Z (Ap.calls HS (rD 3 r_a) h34) (fun _ wd37 ⟨A35,c36,h38,HS⟩=>⟨_,h38,(bK (oN Z ?_))⟩)))))))))))⟩)))
  refine mV Z (bK (oN Z (iX Z Mq sz4 (rk (ro 0 Z) HS) c39 (bK (oN Z (GO.Cj (T:=Hz) (n:=(t3.getD ((w64 ((w64 (6 * o))+A)).toNat) 0).toNat) (o:=0) HS (ro 0 Z) Z Z (getD_some (d:=false) (ltN c39)) Z Z na4 Z (bK (GO.Jm Z Z Z Z Z (nL ?_)))))))))
  rcases iE H with ⟨c40,H⟩ | ⟨c40,H⟩
  ·
   refine yB Z c40 (rN 2 Z ?_)
   replace HS:=HS.emp
   obtain rfl:=sI H
   exact rT _ func112 Z Z ⟨0,none,0,0,none,0,Z,(HS.pk 5 [0] Z)⟩
  refine nB Z (Db c40) (rN 2 Z ?_)
  obtain ⟨t41,h42,H⟩:=bI H
  refine rG (lW 3 HS Z Dq (mV Z (fJ sK Z (Co.calls HS (rD 4 r_a) h42) (fun _ wd45 ⟨A43,c44,h46,HS⟩=>⟨_,h46,(aS Z (nL (rN 2 Z ?_)))⟩))))
  rcases iS H with ⟨c59,H⟩ | ⟨c59,H⟩
  ·
   refine G.lex mixed [0,1,2,3,4,5,6,8,9,10,7,11,12,13,14,15,16,17,19,20,21,18,22,23,24,25,26,27,28,30,31,32,29,33,34,35] (by kernel_rfl) ?_
   replace HS:=HS.drew
   refine GX.ps 1 Z (GX.l1 Z Z Z (fun _ g=>lS Z Z Jp Z g) Z (GX.ps 1 Z (qL Z Z (fun _ _ g=>mV Z (kN 44 Z (nF c59) g)) Z (qL Z Z (fun _ _ g=>oF Z g) Z (qL Z Z (fun _ _ g=>oF Z g) Z (qL Z Z (fun _ _ g=>oF Z g) Z (qL Z Z (fun _ _ g=>oF Z g) Z (qL Z Z (fun _ _ g=>oF Z g) Z (qL Z Z (fun _ _ g=>oF Z g) Z (GX.l1 Z Z Z (fun _ g=>oF Z g) Z (GX.l1 Z Z Z (fun _ g=>oF Z g) Z (qL Z Z (fun _ _ g=>oF Z g) Z (GX.ps 2 Z (qL Z Z (fun _ _ g=>oF Z g) Z ?_))))))))))))))
   refine qL Z Z (fun _ _ g=>oF Z g) Z (qL Z Z (fun _ _ g=>oF Z g) Z (qL Z Z (fun _ _ g=>oF Z g) Z (qL Z Z (fun _ _ g=>oF Z g) Z (qL Z Z (fun _ _ g=>oF Z g) Z (GX.l1 Z Z Z (fun _ g=>oF Z g) Z (GX.l1 Z Z Z (fun _ g=>oF Z g) Z (qL Z Z (fun _ _ g=>oF Z g) Z (GX.ps 2 Z (qL Z Z (fun _ _ g=>oF Z g) Z (qL Z Z (fun _ _ g=>oF Z g) Z (qL Z Z (fun _ _ g=>oF Z g) Z (qL Z Z (fun _ _ g=>oF Z g) Z (qL Z Z (fun _ _ g=>oF Z g) Z (qL Z Z (fun _ _ g=>oF Z g) Z ?_))))))))))))))
   refine GX.l1 Z Z Z (fun _ g=>oF Z g) Z (GX.l1 Z Z Z (fun _ g=>oF Z g) Z (qL Z Z (fun _ _ g=>oF Z g) Z (GX.ps 1 Z (GX.nil (rN 3 Z ?_)))))
   replace HS:=HS.emp
   obtain rfl:=sI H
   exact rT _ func112 Z Z ⟨0,none,0,0,none,0,Z,(HS.pk 6 [0] Z)⟩
  obtain ⟨c60,H⟩:=iN H
  have h61:=(rk (ro 0 Z) HS)
  obtain ⟨e62,h63,H⟩:=Di H
  obtain ⟨c64,H⟩:=iN H
  have h65:=(rk (ro 0 Z) HS)
  obtain ⟨e66,h67,H⟩:=Di H
  rcases iE H with ⟨c68,H⟩ | ⟨c68,H⟩
  ·
   refine G.lex mixed [0,1,2,3,4,5,6,8,9,10,7,11,12,13,14,15,16,17,19,20,21,18,22,23,24,25,26,27,28,30,31,32,29,33,34,35] (by kernel_rfl) ?_
   replace HS:=HS.drew
   refine GX.ps 1 Z (GX.l1 Z Z Z (fun _ g=>lS Z Z Jp Z g) Z (GX.ps 1 Z (qL Z Z (fun _ _ g=>mV Z (kN 44 Z (nT c59) g)) Z (qL Z Z (fun _ _ g=>oN Z (mV Z (bK g))) Z (qL Z Z (fun _ _ g=>oN Z (iX Z Jp Ji h61 c60 (bK g))) Z (qL Z Z (fun _ _ g=>oN Z (GO.fld (ea A43 (0 * 2)) Z Z Gx Z Z (bK g))) Z (qL Z Z (fun _ _ g=>oN Z (mV Z (bK g))) Z (qL Z Z (fun _ _ g=>oN Z (iX Z Jp Ji h65 c64 (bK g))) Z (qL Z Z (fun _ _ g=>oN Z (GO.fld (ea A43 (1 * 2)) Z Z Gx Z Z (bK g))) Z (GX.l1 Z Z Z (fun _ g=>oN Z (GO.Cj (T:=Ad) (n:=0) (o:=0) HS (ro 0 Z) Z Z (Cn (ltN c60) h63) Z Z na2 Z (bK g))) Z (GX.l1 Z Z Z (fun _ g=>oN Z (GO.Cj (T:=Ad) (n:=1) (o:=0) HS (ro 0 Z) Z Z (Cn (ltN c64) h67) Z Z na2 Z (bK g))) Z (qL Z Z (fun _ _ g=>oN Z (GO.eql Z Z Z Z (bK g))) Z (GX.ps 1 Z (qL Z Z (fun _ _ g=>mV Z (kN 55 Z (tT c68) g)) Z ?_))))))))))))))
   refine qL Z Z (fun _ _ g=>oF Z g) Z (qL Z Z (fun _ _ g=>oF Z g) Z (qL Z Z (fun _ _ g=>oF Z g) Z (qL Z Z (fun _ _ g=>oF Z g) Z (qL Z Z (fun _ _ g=>oF Z g) Z (qL Z Z (fun _ _ g=>oF Z g) Z (GX.l1 Z Z Z (fun _ g=>oF Z g) Z (GX.l1 Z Z Z (fun _ g=>oF Z g) Z (qL Z Z (fun _ _ g=>oF Z g) Z (GX.ps 2 Z (qL Z Z (fun _ _ g=>oF Z g) Z (qL Z Z (fun _ _ g=>oF Z g) Z (qL Z Z (fun _ _ g=>oF Z g) Z (qL Z Z (fun _ _ g=>oF Z g) Z (qL Z Z (fun _ _ g=>oF Z g) Z ?_))))))))))))))
   refine qL Z Z (fun _ _ g=>oF Z g) Z (GX.l1 Z Z Z (fun _ g=>oF Z g) Z (GX.l1 Z Z Z (fun _ g=>oF Z g) Z (qL Z Z (fun _ _ g=>oF Z g) Z (GX.ps 1 Z (GX.nil (rN 3 Z ?_))))))
   replace HS:=HS.emp
   obtain rfl:=sI H
   exact rT _ func112 Z Z ⟨0,none,0,0,none,0,Z,(HS.pk 6 [0] Z)⟩
  obtain ⟨c69,H⟩:=iN H
  obtain ⟨e70,h71,H⟩:=Di H
  rcases iE H with ⟨c72,H⟩ | ⟨c72,H⟩
  ·
   refine G.lex mixed [0,1,2,3,4,5,6,8,9,10,7,11,12,13,14,15,16,17,19,20,21,18,22,23,24,25,26,27,28,30,31,32,29,33,34,35] (by kernel_rfl) ?_
   replace HS:=HS.drew
   refine GX.ps 1 Z (GX.l1 Z Z Z (fun _ g=>lS Z Z Jp Z g) Z (GX.ps 1 Z (qL Z Z (fun _ _ g=>mV Z (kN 44 Z (nT c59) g)) Z (qL Z Z (fun _ _ g=>oN Z (mV Z (bK g))) Z (qL Z Z (fun _ _ g=>oN Z (iX Z Jp Ji h61 c60 (bK g))) Z (qL Z Z (fun _ _ g=>oN Z (GO.fld (ea A43 (0 * 2)) Z Z Gx Z Z (bK g))) Z (qL Z Z (fun _ _ g=>oN Z (mV Z (bK g))) Z (qL Z Z (fun _ _ g=>oN Z (iX Z Jp Ji h65 c64 (bK g))) Z (qL Z Z (fun _ _ g=>oN Z (GO.fld (ea A43 (1 * 2)) Z Z Gx Z Z (bK g))) Z (GX.l1 Z Z Z (fun _ g=>oN Z (GO.Cj (T:=Ad) (n:=0) (o:=0) HS (ro 0 Z) Z Z (Cn (ltN c60) h63) Z Z na2 Z (bK g))) Z (GX.l1 Z Z Z (fun _ g=>oN Z (GO.Cj (T:=Ad) (n:=1) (o:=0) HS (ro 0 Z) Z Z (Cn (ltN c64) h67) Z Z na2 Z (bK g))) Z (qL Z Z (fun _ _ g=>oN Z (GO.eql Z Z Z Z (bK g))) Z (GX.ps 1 Z (qL Z Z (fun _ _ g=>mV Z (kN 55 Z (tF c68) g)) Z ?_))))))))))))))
   refine qL Z Z (fun _ _ g=>oN Z (mV Z (bK g))) Z (qL Z Z (fun _ _ g=>oN Z (iX Z Jp Ji (rk (ro 0 Z) HS) c64 (bK g))) Z (qL Z Z (fun _ _ g=>oN Z (GO.fld (ea A43 (1 * 2)) Z Z Gx Z Z (bK g))) Z (qL Z Z (fun _ _ g=>oN Z (mV Z (bK g))) Z (qL Z Z (fun _ _ g=>oN Z (iX Z Jp Ji (rk (ro 0 Z) HS) c69 (bK g))) Z (qL Z Z (fun _ _ g=>oN Z (GO.fld (ea A43 (2 * 2)) Z Z Gx Z Z (bK g))) Z (GX.l1 Z Z Z (fun _ g=>oN Z (GO.Cj (T:=Ad) (n:=1) (o:=0) HS (ro 0 Z) Z Z (Cn (ltN c64) h67) Z Z na2 Z (bK g))) Z (GX.l1 Z Z Z (fun _ g=>oN Z (GO.Cj (T:=Ad) (n:=2) (o:=0) HS (ro 0 Z) Z Z (Cn (ltN c69) h71) Z Z na2 Z (bK g))) Z (qL Z Z (fun _ _ g=>oN Z (GO.eql Z Z Z Z (bK g))) Z (GX.ps 1 Z (qL Z Z (fun _ _ g=>mV Z (kN 66 Z (tT c72) g)) Z (qL Z Z (fun _ _ g=>oF Z g) Z (qL Z Z (fun _ _ g=>oF Z g) Z (qL Z Z (fun _ _ g=>oF Z g) Z (qL Z Z (fun _ _ g=>oF Z g) Z ?_))))))))))))))
   refine qL Z Z (fun _ _ g=>oF Z g) Z (qL Z Z (fun _ _ g=>oF Z g) Z (GX.l1 Z Z Z (fun _ g=>oF Z g) Z (GX.l1 Z Z Z (fun _ g=>oF Z g) Z (qL Z Z (fun _ _ g=>oF Z g) Z (GX.ps 1 Z (GX.nil (rN 3 Z ?_)))))))
   replace HS:=HS.emp
   obtain rfl:=sI H
   exact rT _ func112 Z Z ⟨0,none,0,0,none,0,Z,(HS.pk 6 [0] Z)⟩
  refine G.lex mixed [0,1,2,3,4,5,6,8,9,10,7,11,12,13,14,15,16,17,19,20,21,18,22,23,24,25,26,27,28,30,31,32,29,33,34,35] (by kernel_rfl) ?_
  replace HS:=HS.drew
  refine GX.ps 1 Z (GX.l1 Z Z Z (fun _ g=>lS Z Z Jp Z g) Z (GX.ps 1 Z (qL Z Z (fun _ _ g=>mV Z (kN 44 Z (nT c59) g)) Z (qL Z Z (fun _ _ g=>oN Z (mV Z (bK g))) Z (qL Z Z (fun _ _ g=>oN Z (iX Z Jp Ji h61 c60 (bK g))) Z (qL Z Z (fun _ _ g=>oN Z (GO.fld (ea A43 (0 * 2)) Z Z Gx Z Z (bK g))) Z (qL Z Z (fun _ _ g=>oN Z (mV Z (bK g))) Z (qL Z Z (fun _ _ g=>oN Z (iX Z Jp Ji h65 c64 (bK g))) Z (qL Z Z (fun _ _ g=>oN Z (GO.fld (ea A43 (1 * 2)) Z Z Gx Z Z (bK g))) Z (GX.l1 Z Z Z (fun _ g=>oN Z (GO.Cj (T:=Ad) (n:=0) (o:=0) HS (ro 0 Z) Z Z (Cn (ltN c60) h63) Z Z na2 Z (bK g))) Z (GX.l1 Z Z Z (fun _ g=>oN Z (GO.Cj (T:=Ad) (n:=1) (o:=0) HS (ro 0 Z) Z Z (Cn (ltN c64) h67) Z Z na2 Z (bK g))) Z (qL Z Z (fun _ _ g=>oN Z (GO.eql Z Z Z Z (bK g))) Z (GX.ps 1 Z (qL Z Z (fun _ _ g=>mV Z (kN 55 Z (tF c68) g)) Z ?_))))))))))))))
  refine qL Z Z (fun _ _ g=>oN Z (mV Z (bK g))) Z (qL Z Z (fun _ _ g=>oN Z (iX Z Jp Ji (rk (ro 0 Z) HS) c64 (bK g))) Z (qL Z Z (fun _ _ g=>oN Z (GO.fld (ea A43 (1 * 2)) Z Z Gx Z Z (bK g))) Z (qL Z Z (fun _ _ g=>oN Z (mV Z (bK g))) Z (qL Z Z (fun _ _ g=>oN Z (iX Z Jp Ji (rk (ro 0 Z) HS) c69 (bK g))) Z (qL Z Z (fun _ _ g=>oN Z (GO.fld (ea A43 (2 * 2)) Z Z Gx Z Z (bK g))) Z (GX.l1 Z Z Z (fun _ g=>oN Z (GO.Cj (T:=Ad) (n:=1) (o:=0) HS (ro 0 Z) Z Z (Cn (ltN c64) h67) Z Z na2 Z (bK g))) Z (GX.l1 Z Z Z (fun _ g=>oN Z (GO.Cj (T:=Ad) (n:=2) (o:=0) HS (ro 0 Z) Z Z (Cn (ltN c69) h71) Z Z na2 Z (bK g))) Z (qL Z Z (fun _ _ g=>oN Z (GO.eql Z Z Z Z (bK g))) Z (GX.ps 1 Z (qL Z Z (fun _ _ g=>mV Z (kN 66 Z (tF c72) g)) Z (qL Z Z (fun _ _ g=>oN Z (mV Z (bK g))) Z (qL Z Z (fun _ _ g=>oN Z (iX Z Jp Ji (rk (ro 0 Z) HS) c69 (bK g))) Z (qL Z Z (fun _ _ g=>oN Z (GO.fld (ea A43 (2 * 2)) Z Z Gx Z Z (bK g))) Z (qL Z Z (fun _ _ g=>oN Z (mV Z (bK g))) Z ?_))))))))))))))
  refine qL Z Z (fun _ _ g=>oN Z (iX Z Jp Ji (rk (ro 0 Z) HS) c60 (bK g))) Z (qL Z Z (fun _ _ g=>oN Z (GO.fld (ea A43 (0 * 2)) Z Z Gx Z Z (bK g))) Z (GX.l1 Z Z Z (fun _ g=>oN Z (GO.Cj (T:=Ad) (n:=2) (o:=0) HS (ro 0 Z) Z Z (Cn (ltN c69) h71) Z Z na2 Z (bK g))) Z (GX.l1 Z Z Z (fun _ g=>oN Z (GO.Cj (T:=Ad) (n:=0) (o:=0) HS (ro 0 Z) Z Z (Cn (ltN c60) h63) Z Z na2 Z (bK g))) Z (qL Z Z (fun _ _ g=>oN Z (GO.eql Z Z Z Z (bK g))) Z (GX.ps 1 Z (GX.nil ?_))))))
  rcases iE H with ⟨c73,H⟩ | ⟨c73,H⟩
  ·
   refine yB Z (tT c73) (rN 2 Z ?_)
   replace HS:=HS.emp
   obtain rfl:=sI H
   exact rT _ func112 Z Z ⟨0,none,0,0,none,0,Z,(HS.pk 6 [0] Z)⟩
  refine nB Z (tF c73) (rN 2 Z ?_)
  have h74:=(rk (ro 0 Z) HS)
  have h75:=(rk (ro 0 Z) HS)
  have h76:=(rk (ro 0 Z) HS)
  obtain ⟨t79,t80,t81,t82,h83,H⟩:=D8 H
  refine G.lex mixed [0,1,2,4,5,6,8,9,10,3,7,11,12,13,14] (by kernel_rfl) ?_
  replace HS:=HS.drew
  refine GX.ps 1 Z (qL Z Z (fun _ _ g=>iX Z Jp Ji h74 c60 g) Z (qL Z Z (fun _ _ g=>GO.fld (ea A43 (0 * 2)) Z Z Gx Z Z g) Z (GX.ps 1 Z (qL Z Z (fun _ _ g=>iX Z Jp Ji h75 c64 g) Z (qL Z Z (fun _ _ g=>GO.fld (ea A43 (1 * 2)) Z Z Gx Z Z g) Z (GX.ps 1 Z (qL Z Z (fun _ _ g=>iX Z Jp Ji h76 c69 g) Z (qL Z Z (fun _ _ g=>GO.fld (ea A43 (2 * 2)) Z Z Gx Z Z g) Z (GX.l1 Z Z Z (fun _ g=>GO.Cj (T:=Ad) (n:=0) (o:=0) HS (ro 0 Z) Z Z (Cn (ltN c60) h63) Z Z na2 Z g) Z (GX.l1 Z Z Z (fun _ g=>GO.Cj (T:=Ad) (n:=1) (o:=0) HS (ro 0 Z) Z Z (Cn (ltN c64) h67) Z Z na2 Z g) Z (GX.l1 Z Z Z (fun _ g=>GO.Cj (T:=Ad) (n:=2) (o:=0) HS (ro 0 Z) Z Z (Cn (ltN c69) h71) Z Z na2 Z g) Z (GX.l2 Z (GO.Cw (el:=2) ([I e62.Tet,I e66.Tet,I e70.Tet]) HS Z Z (fun _=>by kernel_rfl) Z fun b77 wd78 HS=>GX.fin tv ?_)))))))))))))
  refine GX.l2 Z ?_
  replace HS:=HS.Fq (T:=(Ar .i64)) (j:=0) Z Ba uu ([e62.Tet,e66.Tet,e70.Tet]:List Int) Z (Il Z)
  refine GO.H7 (t:=89) (m:=([e62.Tet,e66.Tet,e70.Tet]:List Int).length) (c':=([e62.Tet,e66.Tet,e70.Tet]:List Int).length) Z Z Z ?_
  replace HS:=HS.pk 6 [0,1,2,3,4,5] Z
  refine fJ Vv Z (Gj.calls HS  h83) (fun _ wd90 ⟨b84,A85,c86,b87,A88,c89,h91,HS⟩=>⟨_,h91,(GX.fin tv (GX.ps 1 Z (GX.nil (rN 2 Z (rG (mV Z (lS Z Z Jp Z (mV Z (nL (rN 2 Z ?_))))))))))⟩)
  refine G.name (fun g1 e1=>?_)
  have f1:∀ c1,c1≤K→∀ (x133:List (Gq × Eg)) (x134:Int) (w:World),Bn.l1 K c1 t41 t79 t81 t82 x133 x134=some r1→St w0 w (Box b84 104 [sV A85 t79 c86,.map (some b87),I t81,sV A88 t82 c89]::Own (Ar .i64) 2 A85 c86 uu t79::Ir b87 Gh Ey x133::Own Ip 131 A88 c89 uu t82::Own Ad 167 A43 c44 uu t41::L)→G prog 112 162 [(9,pT b84),(91,sV A43 t41 c44),(92,I (t41.length:Int)),(93,I x134)] g1 w (Bn.post w0 L r1):=by
   refine lp (fun _ _ w H _=>by rw [Bn.l1] at H; cases H) fun d1 i1 h1 x133 x134 w H HS=>?_
   rw [Bn.l1] at H
   subst e1
   refine rN 3 Z ?_
   rcases iS H with ⟨c179,H⟩ | ⟨c179,H⟩
   ·
    refine nB Z (tF c179) (rN 2 Z (rG (mV Z (GO.Dr (.agg [I 0,I 0,I 1,I 0].toArray) Z Z (fun _=>by kernel_rfl) Z (GO.Cw (el:=131) ([I 0,I 0,I 1,I 0]) HS Z Z (fun _=>by kernel_rfl) Z fun b220 wd221 HS=>GO.Ou Z Z Z (fL b84 3 O7 Z ?_))))))
    replace HS:=HS.Fq (T:=Ip) (j:=0) Z Ba uu ([(⟨0,0,1,0⟩:Gi)]:List Gi) Z (Il Z)
    refine GO.H7 (t:=158) (m:=([(⟨0,0,1,0⟩:Gi)]:List Gi).length) (c':=([(⟨0,0,1,0⟩:Gi)]:List Gi).length) Z Z Z (GO.Ie (j:=1) (vs:=[sV (sb b220) ([(⟨0,0,1,0⟩:Gi)]:List Gi) (([(⟨0,0,1,0⟩:Gi)]:List Gi).length)]) ([sV A85 t79 c86,.map (some b87),I t81,sV (sb b220) ([(⟨0,0,1,0⟩:Gi)]:List Gi) (([(⟨0,0,1,0⟩:Gi)]:List Gi).length)]) HS Z Z Z Z Z (htN Vk Z) Z Z Z fun wd222 HS=>nL (rN 2 Z ?_))
    replace HS:=HS.pk 6 [1,2,3,0,4,5] Z
    replace HS:=St.opt (F:=(fun x=>[Box b84 104 [.slice A85 x.1.length c86,.map (some b87),I x.2.2.1,.slice (sb b220) x.2.2.2.length ([(⟨0,0,1,0⟩:Gi)]:List Gi).length],Own (Ar .i64) 2 A85 c86 uu x.1,Ir b87 Gh Ey x.2.1,Own Ip 131 (sb b220) ([(⟨0,0,1,0⟩:Gi)]:List Gi).length uu x.2.2.2])) (t79,x133,t81,([(⟨0,0,1,0⟩:Gi)]:List Gi)) HS Z
    obtain rfl:=sI H
    exact rT _ func112 Z Z ⟨_,_,_,_,_,_,Z,(HS.pk 3 [0] Z)⟩
   refine yB Z (tT c179) (rN 4 Z ?_)
   obtain ⟨c180,H⟩:=iN H
   obtain ⟨e181,h182,H⟩:=Di H
   refine rG (mV Z (iX Z Jp Ji (rk (ro 4 Z) HS) c180 (GO.Hw (T:=Ad) (n:=x134.toNat) HS (ro 4 Z) Z Z (Cn (ltN c180) h182) Iq Z (GO.alloc HS Z Pk Z Z fun b183 wd184 HS=>aS Z (sW 0 HS Z Iq Z fun wd185 HS=>nL (sQ ?_))))))
   obtain ⟨t186,t187,t188,t189,h190,H⟩:=D8 H
   refine rG (fL b183 1 M0 Z (lB 0 HS Z na2 Z (fJ Lc Z (Ct.calls HS  h190) (fun _ wd191 ⟨h192,HS⟩=>⟨_,h192,(GO.alloc HS Z Ld Z Z fun b193 wd194 HS=>sW 0 HS Z Ki Z fun wd195 HS=>nL (sQ (rG (pS 4 Z (GO.rem Z Z Z (by decide) Z (pS 3 Z (GO.rem Z Z Z (by decide) Z (pS 4 Z (nL ?_)))))))))⟩))))
   refine sQ (rG (GO.alloc HS Z Ld Z Z fun b196 wd197 HS=>GO.alloc HS Z Ld Z Z fun b198 wd199 HS=>nL (sQ ?_)))
   obtain ⟨c200,H⟩:=iN H
   obtain ⟨c202,H⟩:=iN H
   obtain ⟨c204,H⟩:=iN H
   obtain ⟨c206,H⟩:=iN H
   refine G.H8 mixed (fun w=>St w0 w (Box b193 131 [I t186,I t187,I t188,I t189]::L)) [1,3,5,7] [0,2,4,6,8,9,10,1,11,3,5,7,12,13,14,15,16,17,18] [] (by kernel_rfl) (by kernel_rfl) (HS.drew.pk 9 [2] Z) ?_
   replace HS:=HS.drew
   refine qL Z Z (fun _ _ g=>GO.ixP 0 Z Z Z Z Hf sz2 Z Z g) Z (qL Z Z (fun _ _ g=>GO.ixP 1 Z Z Z Z Hf sz2 Z Z g) Z (qL Z Z (fun _ _ g=>GO.ixP 2 Z Z Z Z Hf sz2 Z Z g) Z (qL Z Z (fun _ _ g=>GO.ixP 3 Z Z Z Z Hf sz2 Z Z g) Z (GX.ps 3 Z (GX.ls Z Z Z (HS.pk 9 [2] Z) (fun _ HS _ g=>lB 0 HS Z na2 Z g) Z (qL Z Z (fun _ _ g=>GO.ixW Z Z Z Hf sz2 c200 Z g) Z (GX.ls Z Z Z (HS.pk 9 [2] Z) (fun _ HS _ g=>lB 0 HS Z na2 Z g) Z (GX.ls Z Z Z (HS.pk 9 [2] Z) (fun _ HS _ g=>lB 0 HS Z na2 Z g) Z (GX.ls Z Z Z (HS.pk 9 [2] Z) (fun _ HS _ g=>lB 0 HS Z na2 Z g) Z (GX.l2 Z (GO.stW (j:=1) (o:=0) (sz:=1) (vs:=[I 0]) (fun u_=>[I (se 0 u_ 0 0),I (se 1 u_ 0 0),I (se 2 u_ 0 0),I (se 3 u_ 0 0)]) HS Z Z Z Z Z c200 (htN na2 Z) Z Z (four Z Z Z Z) fun wd201 HS=>GX.fin (HS.pk 9 [2] Z) (qL Z Z (fun _ _ g=>GO.ixW Z Z Z Hf sz2 c202 Z g) Z (GX.l2 Z ?_)))))))))))))
   refine GO.stW (j:=1) (o:=0) (sz:=1) (vs:=[I (w64 (1+((w64 (x134+2)).tmod 3)))]) (fun u_=>[I (se 0 u_ (w64 (1+((w64 (x134+2)).tmod 3))) (se 0 t186 0 0)),I (se 1 u_ (w64 (1+((w64 (x134+2)).tmod 3))) (se 1 t186 0 0)),I (se 2 u_ (w64 (1+((w64 (x134+2)).tmod 3))) (se 2 t186 0 0)),I (se 3 u_ (w64 (1+((w64 (x134+2)).tmod 3))) (se 3 t186 0 0))]) HS Z Z Z Z Z c202 (htN na2 Z) Z Z (four Z Z Z Z) fun wd203 HS=>GX.fin (HS.pk 9 [2] Z) (qL Z Z (fun _ _ g=>GO.ixW Z Z Z Hf sz2 c204 Z g) Z (GX.l2 Z (GO.stW (j:=1) (o:=0) (sz:=1) (vs:=[I (w64 (1+x134))]) (fun u_=>[I (se 0 u_ (w64 (1+x134)) (se 0 t187 (w64 (1+((w64 (x134+2)).tmod 3))) (se 0 t186 0 0))),I (se 1 u_ (w64 (1+x134)) (se 1 t187 (w64 (1+((w64 (x134+2)).tmod 3))) (se 1 t186 0 0))),I (se 2 u_ (w64 (1+x134)) (se 2 t187 (w64 (1+((w64 (x134+2)).tmod 3))) (se 2 t186 0 0))),I (se 3 u_ (w64 (1+x134)) (se 3 t187 (w64 (1+((w64 (x134+2)).tmod 3))) (se 3 t186 0 0)))]) HS Z Z Z Z Z c204 (htN na2 Z) Z Z (four Z Z Z Z) fun wd205 HS=>GX.fin (HS.pk 9 [2] Z) (qL Z Z (fun _ _ g=>GO.ixW Z Z Z Hf sz2 c206 Z g) Z (GX.l2 Z (GO.stW (j:=1) (o:=0) (sz:=1) (vs:=[I (w64 (1+((w64 (x134+1)).tmod 3)))]) (fun u_=>[I (se 0 u_ (w64 (1+((w64 (x134+1)).tmod 3))) (se 0 t188 (w64 (1+x134)) (se 0 t187 (w64 (1+((w64 (x134+2)).tmod 3))) (se 0 t186 0 0)))),I (se 1 u_ (w64 (1+((w64 (x134+1)).tmod 3))) (se 1 t188 (w64 (1+x134)) (se 1 t187 (w64 (1+((w64 (x134+2)).tmod 3))) (se 1 t186 0 0)))),I (se 2 u_ (w64 (1+((w64 (x134+1)).tmod 3))) (se 2 t188 (w64 (1+x134)) (se 2 t187 (w64 (1+((w64 (x134+2)).tmod 3))) (se 2 t186 0 0)))),I (se 3 u_ (w64 (1+((w64 (x134+1)).tmod 3))) (se 3 t188 (w64 (1+x134)) (se 3 t187 (w64 (1+((w64 (x134+2)).tmod 3))) (se 3 t186 0 0))))]) HS Z Z Z Z Z c206 (htN na2 Z) Z Z (four Z Z Z Z) fun wd207 HS=>GX.fin (HS.pk 9 [2] Z) (GX.nil (sQ (G.H8 mixed (fun w=>St w0 w (Box b193 131 [I t186,I t187,I t188,I t189]::L)) [1,3,5,7] [0,2,4,6,8,9,10,1,11,3,5,7,12,13,14,15,16,17,18] [] (by kernel_rfl) (by kernel_rfl) (HS.drew.pk 9 [2] Z) ?_)))))))))
   replace HS:=HS.drew
   refine qL Z Z (fun _ _ g=>GO.ixP 0 Z Z Z Z Hf sz2 Z Z g) Z (qL Z Z (fun _ _ g=>GO.ixP 1 Z Z Z Z Hf sz2 Z Z g) Z (qL Z Z (fun _ _ g=>GO.ixP 2 Z Z Z Z Hf sz2 Z Z g) Z (qL Z Z (fun _ _ g=>GO.ixP 3 Z Z Z Z Hf sz2 Z Z g) Z (GX.ps 3 Z (GX.ls Z Z Z (HS.pk 9 [2] Z) (fun _ HS _ g=>lB 0 HS Z na2 Z g) Z (qL Z Z (fun _ _ g=>GO.ixW Z Z Z Hf sz2 c200 Z g) Z (GX.ls Z Z Z (HS.pk 9 [2] Z) (fun _ HS _ g=>lB 0 HS Z na2 Z g) Z (GX.ls Z Z Z (HS.pk 9 [2] Z) (fun _ HS _ g=>lB 0 HS Z na2 Z g) Z (GX.ls Z Z Z (HS.pk 9 [2] Z) (fun _ HS _ g=>lB 0 HS Z na2 Z g) Z (GX.l2 Z (GO.stW (j:=0) (o:=0) (sz:=1) (vs:=[I (w64 (1+((w64 (x134+2)).tmod 3)))]) (fun u_=>[I (se 0 u_ (w64 (1+((w64 (x134+2)).tmod 3))) 0),I (se 1 u_ (w64 (1+((w64 (x134+2)).tmod 3))) 0),I (se 2 u_ (w64 (1+((w64 (x134+2)).tmod 3))) 0),I (se 3 u_ (w64 (1+((w64 (x134+2)).tmod 3))) 0)]) HS Z Z Z Z Z c200 (htN na2 Z) Z Z (four Z Z Z Z) fun wd208 HS=>GX.fin (HS.pk 9 [2] Z) (qL Z Z (fun _ _ g=>GO.ixW Z Z Z Hf sz2 c202 Z g) Z (GX.l2 Z ?_)))))))))))))
   refine GO.stW (j:=0) (o:=0) (sz:=1) (vs:=[I 0]) (fun u_=>[I (se 0 u_ 0 (se 0 t186 (w64 (1+((w64 (x134+2)).tmod 3))) 0)),I (se 1 u_ 0 (se 1 t186 (w64 (1+((w64 (x134+2)).tmod 3))) 0)),I (se 2 u_ 0 (se 2 t186 (w64 (1+((w64 (x134+2)).tmod 3))) 0)),I (se 3 u_ 0 (se 3 t186 (w64 (1+((w64 (x134+2)).tmod 3))) 0))]) HS Z Z Z Z Z c202 (htN na2 Z) Z Z (four Z Z Z Z) fun wd209 HS=>GX.fin (HS.pk 9 [2] Z) (qL Z Z (fun _ _ g=>GO.ixW Z Z Z Hf sz2 c204 Z g) Z (GX.l2 Z (GO.stW (j:=0) (o:=0) (sz:=1) (vs:=[I (w64 (1+x134))]) (fun u_=>[I (se 0 u_ (w64 (1+x134)) (se 0 t187 0 (se 0 t186 (w64 (1+((w64 (x134+2)).tmod 3))) 0))),I (se 1 u_ (w64 (1+x134)) (se 1 t187 0 (se 1 t186 (w64 (1+((w64 (x134+2)).tmod 3))) 0))),I (se 2 u_ (w64 (1+x134)) (se 2 t187 0 (se 2 t186 (w64 (1+((w64 (x134+2)).tmod 3))) 0))),I (se 3 u_ (w64 (1+x134)) (se 3 t187 0 (se 3 t186 (w64 (1+((w64 (x134+2)).tmod 3))) 0)))]) HS Z Z Z Z Z c204 (htN na2 Z) Z Z (four Z Z Z Z) fun wd210 HS=>GX.fin (HS.pk 9 [2] Z) (qL Z Z (fun _ _ g=>GO.ixW Z Z Z Hf sz2 c206 Z g) Z (GX.l2 Z (GO.stW (j:=0) (o:=0) (sz:=1) (vs:=[I (w64 (1+((w64 (x134+1)).tmod 3)))]) (fun u_=>[I (se 0 u_ (w64 (1+((w64 (x134+1)).tmod 3))) (se 0 t188 (w64 (1+x134)) (se 0 t187 0 (se 0 t186 (w64 (1+((w64 (x134+2)).tmod 3))) 0)))),I (se 1 u_ (w64 (1+((w64 (x134+1)).tmod 3))) (se 1 t188 (w64 (1+x134)) (se 1 t187 0 (se 1 t186 (w64 (1+((w64 (x134+2)).tmod 3))) 0)))),I (se 2 u_ (w64 (1+((w64 (x134+1)).tmod 3))) (se 2 t188 (w64 (1+x134)) (se 2 t187 0 (se 2 t186 (w64 (1+((w64 (x134+2)).tmod 3))) 0)))),I (se 3 u_ (w64 (1+((w64 (x134+1)).tmod 3))) (se 3 t188 (w64 (1+x134)) (se 3 t187 0 (se 3 t186 (w64 (1+((w64 (x134+2)).tmod 3))) 0))))]) HS Z Z Z Z Z c206 (htN na2 Z) Z Z (four Z Z Z Z) fun wd211 HS=>GX.fin (HS.pk 9 [2] Z) (GX.nil (sQ ?_))))))))
   obtain ⟨t212,h213,H⟩:=bI H
   refine rG (mV Z (fL b183 0 Gx Z (lB 3 HS Z na2 Z (GO.ixP 1 Z Z Z Z Hf sz2 Z Z (lB 2 HS Z na2 Z (lW 1 HS Z Ki ?_))))))
   replace HS:=HS.pk 9 [4,6,0,1,2,3,5,7,8] Z
   refine fJ Qx Z (Fj.calls HS (ro 4 Z) (ro 5 Z) h213) (fun _ wd214 ⟨h215,HS⟩=>⟨_,h215,(nL ?_)⟩)
   obtain ⟨t216,h217,H⟩:=bI H
   refine rG (mV Z (fL b183 0 Gx Z (lB 5 HS Z na2 Z (GO.ixP 0 Z Z Z Z Hf sz2 Z Z (lB 4 HS Z na2 Z (lW 2 HS Z Ki ?_))))))
   replace HS:=HS.pk 9 [0,1,2,3,4,5,6,7,8] Z
   refine fJ Qx Z (Fj.calls HS (ro 4 Z) (ro 5 Z) h217) (fun _ wd218 ⟨h219,HS⟩=>⟨_,h219,(nL (rN 3 Z (gW (h1 d1 (lR _) _ _ _ H (HS.pk 9 [0,6,1,7,8] Z)) Z)))⟩)
  exact gW (f1 K (lR _) _ _ _ H (HS.pk 9 [0,1,2,3,4] Z)) Z
theorem Er.calls {tet:Int} {r1:List Int} {r2:List (Gq × Eg)} {r3:Int} {r4:List Gi} (HS:St w0 w (L)) (H:Er.f K tet=some (r1,r2,r3,r4)) :
    Calls prog 113 #[I tet] w (Er.post w0 L r1 r2 r3 r4):=by
  unfold Er.f at H
  refine cG func113 Z ?_
  refine rN 3 Z ?_
  obtain ⟨t3,t4,t5,t6,h7,H⟩:=D8 H
  refine rG (mV Z (GO.Cw (el:=2) ([I tet]) HS Z Z (fun _=>by kernel_rfl) Z fun b1 wd2 HS=>?_))
  replace HS:=HS.Fq (T:=(Ar .i64)) (j:=0) Z Ba uu ([tet]:List Int) Z (Il Z)
  refine GO.H7 (t:=7) (m:=([tet]:List Int).length) (c':=([tet]:List Int).length) Z Z Z ?_
  replace HS:=HS.pk 1 [0] Z
  refine fJ Vv Z (Gj.calls HS  h7) (fun _ wd14 ⟨b8,A9,c10,b11,A12,c13,h15,HS⟩=>⟨_,h15,(aS Z (nL (rN 5 Z ?_)))⟩)
  refine G.name (fun q1 n1=>?_)
  have o1:∀ g1,g1≤K→∀ (d1:List (Gq × Eg)) (x28:Int) (A81:Option Addr) (c82:Nat) (c1:List Gi) (w:World),Er.l1 K g1 tet t3 t5 d1 x28 c1=some (r1,r2,r3,r4)→St w0 w (Box b8 104 [sV A9 t3 c10,.map (some b11),I t5,sV A81 c1 c82]::Own (Ar .i64) 2 A9 c10 uu t3::Ir b11 Gh Ey d1::Own Ip 131 A81 c82 uu c1::L)→G prog 113 41 [(0,I tet),(3,pT b8),(9,I x28)] q1 w (Er.post w0 L r1 r2 r3 r4):=by
   refine lp (fun _ _ _ _ _ w H _=>by rw [Er.l1] at H; cases H) fun e1 u1 s1 d1 x28 A81 c82 c1 w H HS=>?_
   rw [Er.l1] at H
   subst n1
   refine rN 3 Z ?_
   rcases iS H with ⟨c136,H⟩ | ⟨c136,H⟩
   ·
    refine nB Z (tF c136) (rN 3 Z ?_)
    obtain ⟨rfl,rfl,rfl,rfl⟩:=I8 H
    exact rT _ func113 Z Z ⟨_,_,_,_,_,_,Z,HS⟩
   refine yB Z (tT c136) (rN 6 Z ?_)
   obtain ⟨t137,t138,t139,t140,h141,H⟩:=D8 H
   obtain ⟨t144,h145,H⟩:=bI H
   refine rG (pS 4 Z (fJ Lc Z (Ct.calls HS  h141) (fun _ wd142 ⟨h143,HS⟩=>⟨_,h143,?_⟩)))
   replace HS:=HS.pk 4 [0,2,1,3] Z
   refine fJ Qx Z (Fj.calls HS (ro 0 Z) (ro 1 Z) h145) (fun _ wd146 ⟨h147,HS⟩=>⟨_,h147,(nL (rN 4 Z ?_))⟩)
   refine G.name (fun k1 t1=>?_)
   have p1:∀ h1,h1≤e1→∀ (A160:Option Addr) (c161:Nat) (a1:List Gi) (x163:Int) (w:World),Er.l5 K h1 tet t3 t5 x28 t144 a1 x163=some (r1,r2,r3,r4)→St w0 w (Box b8 104 [sV A9 t3 c10,.map (some b11),I t5,sV A160 a1 c161]::Own (Ar .i64) 2 A9 c10 uu t3::Ir b11 Gh Ey t144::Own Ip 131 A160 c161 uu a1::L)→G prog 113 41 [(0,I tet),(3,pT b8),(4,I x28),(9,I x28),(18,I x28),(19,I x163)] k1 w (Er.post w0 L r1 r2 r3 r4):=by
    refine lp (fun _ _ _ _ w H _=>by rw [Er.l5] at H; cases H) fun f1 m1 i1 A160 c161 a1 x163 w H HS=>?_
    rw [Er.l5] at H
    subst t1
    refine rN 3 Z ?_
    rcases iS H with ⟨c176,H⟩ | ⟨c176,H⟩
    ·
     refine nB Z (tF c176) (rN 4 Z (gW (s1 f1 (Nat.le_of_succ_le m1) _ _ _ _ _ _ H HS) Z))
    refine yB Z (tT c176) (rN 5 Z ?_)
    obtain ⟨t177,h178,H⟩:=bI H
    obtain ⟨c186,H⟩:=iN H
    refine G.H8 mixed (fun w=>St w0 w (Box b8 104 [sV A9 t3 c10,.map (some b11),I t5,sV A160 a1 c161]::L)) [4] [0,1,2,3,5,6,7,8,9,4,10,11,12,13,14,15,16] [16] (by kernel_rfl) (by kernel_rfl) (HS.drew.pk 4 [0] Z) ?_
    replace HS:=HS.drew
    refine GX.ps 2 Z (qL Z Z (fun _ _ g=>GO.Ou Z Z Z g) Z (qL Z Z (fun _ _ g=>fL b8 3 O7 Z g) Z (GX.ps 5 Z (GX.ls Z Z Z (HS.pk 4 [0] Z) (fun _ HS _ g=>lB 0 HS Z Vk Z g) Z (GX.l2 Z (fJ V9 Z (Gv.calls HS  h178) (fun _ wd179 ⟨h180,HS⟩=>⟨_,h180,(GX.fin (HS.pk 4 [0] Z) (qL Z Z (fun _ _ g=>GO.Dr (.agg [I x28,I x163,I x163,I t177].toArray) Z Z (fun _=>by kernel_rfl) Z g) Z (GX.l2 Z (GO.Cw (el:=131) ([I x28,I x163,I x163,I t177]) HS Z Z (fun _=>by kernel_rfl) Z fun b181 wd182 HS=>GX.fin (HS.pk 5 [1] Z) (GX.l2 Z (GO.app1 (T:=Ip) (j:=4) (jb:=0) (⟨x28,x163,x163,t177⟩:Gi) HS Z Z Ba Z Z Z mD jI Z Z Z c186 Z fun A184 c185 wd183 HS=>GX.fin (HS.pk 5 [1] Z) ?_))))))⟩)))))))
    refine qL Z Z (fun _ _ g=>GO.Ou Z Z Z g) Z (qL Z Z (fun _ _ g=>fL b8 3 O7 Z g) Z (GX.l2 Z (GO.Ie (j:=1) (vs:=[sV A184 (a1++[(⟨x28,x163,x163,t177⟩:Gi)]) c185]) ([sV A9 t3 c10,.map (some b11),I t5,sV A184 (a1++[(⟨x28,x163,x163,t177⟩:Gi)]) c185]) HS Z Z Z Z Z (htN Vk Z) Z Z Z fun wd187 HS=>GX.Qt Z (GX.nil (rN 3 Z (gW (i1 f1 (lR _) _ _ _ _ _ H (HS.pk 5 [1,2,3,4] Z)) Z))))))
   exact gW (p1 e1 (lR _) _ _ _ _ _ H (HS.pk 4 [0,2,1,3] Z)) Z
  exact gW (o1 K (lR _) _ _ _ _ _ _ H HS) Z
theorem Ev.calls {p q r1:Int} (HS:St w0 w (L)) (H:Ev.f K p q=some r1) :
    Calls prog 94 #[I p,I q] w (Ev.post w0 L r1):=by
  unfold Ev.f at H
  refine cG func94 Z ?_
  refine rN 3 Z ?_
  obtain ⟨t1,t2,t3,t4,h5,H⟩:=D8 H
  obtain ⟨t8,t9,t10,t11,h12,H⟩:=D8 H
  refine rG (mV Z (fJ Lc Z (Ct.calls HS  h5) (fun _ wd6 ⟨h7,HS⟩=>⟨_,h7,(mV Z (fJ Lc Z (Ct.calls HS  h12) (fun _ wd13 ⟨h14,HS⟩=>⟨_,h14,(GO.alloc HS Z Ld Z Z fun b15 wd16 HS=>GO.alloc HS Z Ld Z Z fun b17 wd18 HS=>sW 1 HS Z Ki Z fun wd19 HS=>sW 0 HS Z Ki Z fun wd20 HS=>nL (sQ (rG (GO.alloc HS Z Ld Z Z fun b21 wd22 HS=>nL (rN 2 Z ?_)))))⟩)))⟩)))
  refine rG (lW 2 HS Z Ki (mV Z (nL (rN 2 Z ?_))))
  refine G.name (fun k1 g1=>?_)
  have h1:∀ e1,e1≤K→∀ (d1 x26:Int) (c1 b1 a1:Int) (w:World),Ev.l1 K e1 t1 t2 t3 t4 t8 t9 t10 t11 d1 x26 c1 b1 a1=some r1→St w0 w (Box b17 131 [I t8,I t9,I t10,I t11]::Box b21 131 [I d1,I c1,I b1,I a1]::L)→G prog 94 27 [(6,pT b17),(7,pT b21),(14,.agg [I t1,I t2,I t3,I t4].toArray),(15,I x26)] k1 w (Ev.post w0 L r1):=by
   refine lp (fun _ _ _ _ _ w H _=>by rw [Ev.l1] at H; cases H) fun f1 m1 i1 d1 x26 c1 b1 a1 w H HS=>?_
   rw [Ev.l1] at H
   subst g1
   refine rN 3 Z ?_
   rcases iS H with ⟨c46,H⟩ | ⟨c46,H⟩
   ·
    refine nB Z (tF c46) (rN 2 Z ?_)
    obtain ⟨t50,h51,H⟩:=bI H
    refine rG (lW 1 HS Z Ki (fJ Q8 Z (Cu.calls HS  h51) (fun _ wd52 ⟨h53,HS⟩=>⟨_,h53,(aS Z (nL ?_))⟩)))
    obtain rfl:=sI H
    exact rT _ func94 Z Z ⟨Z,(HS.pk 2 [] Z)⟩
   refine yB Z (tT c46) (rN 4 Z ?_)
   obtain ⟨c47,H⟩:=iN H
   refine rG (mV Z (GO.Vn ([t1,t2,t3,t4]:List Int) Z Z Z Hf U2 sz2 Z c47.1 c47.2 Z (pS 2 Z (nL ?_))))
   obtain ⟨c48,H⟩:=iN H
   refine rG (pS 2 Z (GO.ixW Z Z Z Hf sz2 c48 Z (GO.ldW (j:=0) ([t8,t9,t10,t11]:List Int) HS Z Z Z c48 Z Z na2 Z (GO.ixW Z Z Z Hf sz2 c47 Z (GO.stW (j:=1) (o:=0) (sz:=1) (vs:=[I (([t8,t9,t10,t11]:List Int).getD (([t1,t2,t3,t4]:List Int).getD x26.toNat 0).toNat 0)]) (fun u_=>[I (se 0 u_ (([t8,t9,t10,t11]:List Int).getD (([t1,t2,t3,t4]:List Int).getD x26.toNat 0).toNat 0) d1),I (se 1 u_ (([t8,t9,t10,t11]:List Int).getD (([t1,t2,t3,t4]:List Int).getD x26.toNat 0).toNat 0) c1),I (se 2 u_ (([t8,t9,t10,t11]:List Int).getD (([t1,t2,t3,t4]:List Int).getD x26.toNat 0).toNat 0) b1),I (se 3 u_ (([t8,t9,t10,t11]:List Int).getD (([t1,t2,t3,t4]:List Int).getD x26.toNat 0).toNat 0) a1)]) HS Z Z Z Z Z c47 (htN na2 Z) Z Z (four Z Z Z Z) fun wd49 HS=>nL (rN 3 Z (gW (i1 f1 (lR _) _ _ _ _ _ _ H HS) Z)))))))
  exact gW (h1 K (lR _) _ _ _ _ _ _ H (HS.pk 3 [1,0] Z)) Z
theorem Ai.calls {k1:List (List Ab)} {tet k_:Int} {y_a:Nat→(Ty.slice 107 Ad).Lay} {r1 r2:Int} {r3 r4:Int} {r5 r6:Int} {r7 r8:Int} {r9:Bool} (HS:St w0 w (L)) (r_a:Ce w0 L (Ty.slice 107 Ad) A_a c_a y_a k1) (H:Ai.f K k1 tet k_=some (r1,r2,r3,r4,r5,r6,r7,r8,r9)) :
    Calls prog 143 #[.agg [sV A_a k1 c_a].toArray,I tet,I k_] w (Ai.post w0 L r1 r2 r3 r4 r5 r6 r7 r8 r9):=by
  unfold Ai.f at H
  refine cG func143 Z ?_
  refine sQ (rG (bA HS Z fun b1 wd2 HS=>GO.alloc HS Z gH Z Z fun b3 wd4 HS=>aS Z (nL (sQ (rG (GO.alloc HS Z gH Z Z fun b5 wd6 HS=>nL (sQ ?_)))))))
  obtain ⟨c7,H⟩:=iN H
  refine rG (pS 2 Z (GO.Dr (.agg [I tet,I 0].toArray) Z Z (fun _=>by kernel_rfl) Z (GO.ixW Z Z Z Qc Nn c7 Z (GO.stW (j:=0) (o:=0) (sz:=2) (vs:=[I tet,I 0]) (fun u_=>[I (se 0 u_ tet 0),I (se 0 u_ 0 0),I (se 1 u_ tet 0),I (se 1 u_ 0 0),I (se 2 u_ tet 0),I (se 2 u_ 0 0),I (se 3 u_ tet 0),I (se 3 u_ 0 0)]) HS Z Z Z Z Z c7 (htA Oe) Z Z (four Z Z Z Z) fun wd8 HS=>nL (rN 2 Z ?_)))))
  obtain ⟨t11,h12,H⟩:=bI H
  refine rG (mV Z (GO.Cw (el:=2) ([I k_]) HS Z Z (fun _=>by kernel_rfl) Z fun b9 wd10 HS=>?_))
  replace HS:=HS.Fq (T:=(Ar .i64)) (j:=0) Z Ba uu ([k_]:List Int) Z (Il Z)
  refine GO.H7 (t:=21) (m:=([k_]:List Int).length) (c':=([k_]:List Int).length) Z Z Z (fJ Qs Z (Fb.calls HS (ro 0 Z) h12) (fun _ wd15 ⟨A13,c14,h16,HS⟩=>⟨_,h16,(lS Z Z U56 Z (mV Z (nL (rN 2 Z ?_))))⟩))
  refine G.name (fun v1 d2=>?_)
  have e2:∀ p1,p1≤K→∀ (c1 h1:Int) (d1 g1:Int) (e1 f1:Int) (a1 i1 x552:Int) (w:World),Ai.l1 K p1 k1 tet k_ t11 c1 h1 d1 g1 e1 f1 a1 i1 x552=some (r1,r2,r3,r4,r5,r6,r7,r8,r9)→St w0 w (Box b1 31 [sV A_a k1 c_a]::Box b3 174 [I 0,I 0,I 0,I 0,I 0,I 0,I 0,I 0]::Box b5 174 [I c1,I h1,I d1,I g1,I e1,I f1,I a1,I i1]::Own (Ar .i64) 2 A13 c14 uu t11::L)→G prog 143 121 [(1,I tet),(2,I k_),(3,pT b1),(6,pT b3),(8,pT b5),(22,sV A13 t11 c14),(23,I (t11.length:Int)),(24,I x552)] v1 w (Ai.post w0 L r1 r2 r3 r4 r5 r6 r7 r8 r9):=by
   refine lp (fun _ _ _ _ _ _ _ _ _ w H _=>by rw [Ai.l1] at H; cases H) fun n1 i2 f2 c1 h1 d1 g1 e1 f1 a1 i1 x552 w H HS=>?_
   rw [Ai.l1] at H
   subst d2
   refine rN 3 Z ?_
   rcases iE H with ⟨c1080,H⟩ | ⟨c1080,H⟩
   ·
    refine yB Z (tT c1080) (rN 4 Z ?_)
    obtain ⟨c1081,H⟩:=iN H
    refine rG (iX Z U56 sz2 (rk (ro 3 Z) HS) c1081 (GO.Cj (T:=(Ar .i64)) (n:=x552.toNat) (o:=0) HS (ro 3 Z) Z Z (getD_some (d:=0) (ltN c1081)) Z Z na2 Z (aS Z (nL (sQ ?_)))))
    obtain ⟨c1082,H⟩:=iN H
    obtain ⟨c1083,H⟩:=iN H
    obtain ⟨e1084,h1085,H⟩:=Di H
    refine rG (fL b1 0 Du Z (lB 0 HS Z Gu Z (mV Z (iX Z U29 Jg (rk (rD 4 r_a) HS) c1082 (GO.Cj (T:=(Ty.slice 107 Ad)) (n:=tet.toNat) (o:=0) HS (rD 4 r_a) Z Z (getD_some (d:=[]) (ltN c1082)) Z Z Jh Z (mV Z (GO.ix Z Z Z U77 G9 ((Ce.elem (rD 4 r_a) c1082.1 c1082.2) _ HS).2.2.1 c1083.1 c1083.2 Z (GO.Hw (T:=Ad) (n:=(t11.getD x552.toNat 0).toNat) HS (Ce.elem (rD 4 r_a) c1082.1 c1082.2) Z Z (Cn (ltN c1083) h1085) D9 Z (GO.alloc HS Z Jz Z Z fun b1086 wd1087 HS=>sW 0 HS Z D9 Z fun wd1088 HS=>nL (rN 2 Z ?_))))))))))
    obtain ⟨t1089,h1090,H⟩:=bI H
    refine rG (lW 0 HS Z D9 (fJ Nr Z (Bi.calls HS  h1090) (fun _ wd1091 ⟨h1092,HS⟩=>⟨_,h1092,(nL ?_)⟩)))
    rcases iE H with ⟨c1093,H⟩ | ⟨c1093,H⟩
    ·
     refine yB Z c1093 (sQ (rG (lW 3 HS Z Lr (sW 2 HS Z Lr Z fun wd1094 HS=>aS Z (nL ?_)))))
     obtain ⟨rfl,rfl,rfl,rfl,rfl,rfl,rfl,rfl,rfl⟩:=Y1 H
     exact G.Hy _ _ func143 Z (Gz.Hu (j:=2) (vs:=[I c1,I h1,I d1,I g1,I e1,I f1,I a1,I i1]) HS Z Z Z Lr) Z ⟨Z,(HS.pk 5 [] Z)⟩
    refine nB Z (Db c1093) (G.skip ?_)
    obtain ⟨t1095,h1096,H⟩:=bI H
    obtain ⟨t1099,h1100,H⟩:=bI H
    obtain ⟨t1103,h1104,H⟩:=bI H
    obtain ⟨c1107,H⟩:=iN H
    refine G.H8 mixed (fun w=>St w0 w (Box b1086 107 [I e1084.Tet,I e1084.Perm]::L)) [2,4] [0,1,3,6,7,2,4,5,8,9,10,11,12] [] (by kernel_rfl) (by kernel_rfl) (HS.drew.pk 5 [0] Z) ?_
    replace HS:=HS.drew
    refine GX.ps 1 Z (qL Z Z (fun _ _ g=>fL b1086 0 Dp Z g) Z (qL Z Z (fun _ _ g=>fL b1086 1 Gn Z g) Z (GX.ps 2 Z (GX.ls Z Z Z (HS.pk 5 [0] Z) (fun _ HS _ g=>lB 0 HS Z na2 Z g) Z (GX.ls Z Z Z (HS.pk 5 [0] Z) (fun _ HS _ g=>lB 0 HS Z na2 Z g) Z (GX.l2 Z (fJ Uy Z (Fa.calls HS  h1096) (fun _ wd1097 ⟨h1098,HS⟩=>⟨_,h1098,(GX.fin (HS.pk 5 [0] Z) (GX.l2 Z (fJ V9 Z (Gv.calls HS  h1100) (fun _ wd1101 ⟨h1102,HS⟩=>⟨_,h1102,(GX.fin (HS.pk 5 [0] Z) (GX.l2 Z (fJ X3 Z (Ev.calls HS  h1104) (fun _ wd1105 ⟨h1106,HS⟩=>⟨_,h1106,(GX.fin (HS.pk 5 [0] Z) ?_)⟩))))⟩))))⟩))))))))
    refine qL Z Z (fun _ _ g=>GO.Dr (.agg [I e1084.Tet,I t1103].toArray) Z Z (fun _=>by kernel_rfl) Z g) Z (qL Z Z (fun _ _ g=>GO.ixW Z Z Z Qc Nn c1107 Z g) Z (GX.l2 Z (GO.stW (j:=3) (o:=0) (sz:=2) (vs:=[I e1084.Tet,I t1103]) (fun u_=>[I (se 0 u_ e1084.Tet c1),I (se 0 u_ t1103 h1),I (se 1 u_ e1084.Tet d1),I (se 1 u_ t1103 g1),I (se 2 u_ e1084.Tet e1),I (se 2 u_ t1103 f1),I (se 3 u_ e1084.Tet a1),I (se 3 u_ t1103 i1)]) HS Z Z Z Z Z c1107 (htA Oe) Z Z (four Z Z Z Z) fun wd1108 HS=>GX.fin (HS.pk 5 [0] Z) (GX.nil (rN 3 Z (gW (f2 n1 (lR _) _ _ _ _ _ _ _ _ _ _ H (HS.pk 5 [1,2,3,4] Z)) Z))))))
   refine nB Z (tF c1080) (rN 6 Z ?_)
   refine G.name (fun b2 z1=>?_)
   have x1:∀ t1,t1≤n1→∀ (x1232:Int) (w:World),Ai.l10 K t1 k1 c1 h1 d1 g1 e1 f1 a1 i1 x1232=some (r1,r2,r3,r4,r5,r6,r7,r8,r9)→St w0 w (Box b1 31 [sV A_a k1 c_a]::Box b3 174 [I 0,I 0,I 0,I 0,I 0,I 0,I 0,I 0]::Box b5 174 [I c1,I h1,I d1,I g1,I e1,I f1,I a1,I i1]::L)→G prog 143 121 [(3,pT b1),(6,pT b3),(8,pT b5),(52,I x1232)] b2 w (Ai.post w0 L r1 r2 r3 r4 r5 r6 r7 r8 r9):=by
    refine lp (fun _ w H _=>by rw [Ai.l10] at H; cases H) fun s1 h2 c2 x1232 w H HS=>?_
    rw [Ai.l10] at H
    subst z1
    refine rN 3 Z ?_
    rcases iS H with ⟨c1420,H⟩ | ⟨c1420,H⟩
    ·
     refine nB Z (tF c1420) (rN 2 Z (rG (lW 2 HS Z Lr (sW 1 HS Z Lr Z fun wd1606 HS=>aS Z (nL ?_)))))
     obtain ⟨rfl,rfl,rfl,rfl,rfl,rfl,rfl,rfl,rfl⟩:=Y1 H
     exact G.Hy _ _ func143 Z (Gz.Hu (j:=1) (vs:=[I c1,I h1,I d1,I g1,I e1,I f1,I a1,I i1]) HS Z Z Z Lr) Z ⟨Z,(HS.pk 3 [] Z)⟩
    refine yB Z (tT c1420) (rN 9 Z ?_)
    refine G.name (fun y1 a2=>?_)
    have g2:∀ q1,q1≤s1→∀ (x1481:Int) (w:World),Ai.l13 K q1 k1 c1 h1 d1 g1 e1 f1 a1 i1 x1232 x1481=some (r1,r2,r3,r4,r5,r6,r7,r8,r9)→St w0 w (Box b1 31 [sV A_a k1 c_a]::Box b3 174 [I 0,I 0,I 0,I 0,I 0,I 0,I 0,I 0]::Box b5 174 [I c1,I h1,I d1,I g1,I e1,I f1,I a1,I i1]::L)→G prog 143 121 [(3,pT b1),(6,pT b3),(8,pT b5),(12,I x1232),(52,I x1232),(55,I x1481)] y1 w (Ai.post w0 L r1 r2 r3 r4 r5 r6 r7 r8 r9):=by
     refine lp (fun _ w H _=>by rw [Ai.l13] at H; cases H) fun m1 u1 o1 x1481 w H HS=>?_
     rw [Ai.l13] at H
     subst a2
     refine rN 3 Z ?_
     rcases iS H with ⟨c1544,H⟩ | ⟨c1544,H⟩
     ·
      refine nB Z (tF c1544) (rN 4 Z (gW (c2 m1 (Nat.le_of_succ_le u1) _ _ H HS) Z))
     refine yB Z (tT c1544) (rN 8 Z ?_)
     rcases iE H with ⟨c1545,H⟩ | ⟨c1545,H⟩
     ·
      refine yB Z (tT c1545) (rN 3 Z (gW (o1 m1 (lR _) _ _ H HS) Z))
     refine nB Z (tF c1545) (rN 2 Z ?_)
     obtain ⟨c1546,H⟩:=iN H
     obtain ⟨t1547,h1548,H⟩:=bI H
     obtain ⟨t1551,t1552,t1553,t1554,h1555,H⟩:=D8 H
     obtain ⟨c1558,H⟩:=iN H
     refine rG (mV Z (GO.ixW Z Z Z Qc Nn c1546 Z (GO.fld (⟨b5,1+x1232.toNat * 2,none⟩) Z Z Md (adW _ _ _ _) Z (GO.ldW (j:=2) ([h1,g1,f1,i1]:List Int) HS Z Z Z c1546 Z Z na2 Z (fJ Uy Z (Fa.calls HS  h1548) (fun _ wd1549 ⟨h1550,HS⟩=>⟨_,h1550,(fJ Lc Z (Ct.calls HS  h1555) (fun _ wd1556 ⟨h1557,HS⟩=>⟨_,h1557,(mV Z (GO.Vn ([t1551,t1552,t1553,t1554]:List Int) Z Z Z Hf U2 sz2 Z c1558.1 c1558.2 Z (aS Z (nL (sQ ?_)))))⟩))⟩))))))
     obtain ⟨c1559,H⟩:=iN H
     obtain ⟨c1560,H⟩:=iN H
     obtain ⟨e1561,h1562,H⟩:=Di H
     refine G.H8 mixed (fun w=>St w0 w (Box b1 31 [sV A_a k1 c_a]::Box b5 174 [I c1,I h1,I d1,I g1,I e1,I f1,I a1,I i1]::L)) [1,5,7,10] [0,2,3,4,8,1,5,6,7,9,10,11,12] [] (by kernel_rfl) (by kernel_rfl) (HS.drew.pk 3 [0,2] Z) ?_
     replace HS:=HS.drew
     refine qL Z Z (fun _ _ g=>fL b1 0 Du Z g) Z (GX.ps 1 Z (qL Z Z (fun _ _ g=>GO.ixW Z Z Z Qc Nn c1546 Z g) Z (qL Z Z (fun _ _ g=>GO.fld (⟨b5,0+x1232.toNat * 2,none⟩) Z Z Kj Z Z g) Z (GX.ps 1 Z (GX.ls Z Z Z (HS.pk 3 [0,2] Z) (fun _ HS _ g=>lB 0 HS Z Gu Z g) Z (GX.ls Z Z Z (HS.pk 3 [0,2] Z) (fun _ HS _ g=>GO.ldW (j:=1) ([c1,d1,e1,a1]:List Int) HS Z Z Z c1546 Z Z na2 Z g) Z (qL Z Z (fun _ _ g=>iX Z U29 Jg (rk (rD 3 r_a) HS) c1559 g) Z (GX.ls Z Z Z (HS.pk 3 [0,2] Z) (fun _ HS _ g=>GO.Cj (T:=(Ty.slice 107 Ad)) (n:=(([c1,d1,e1,a1]:List Int).getD x1232.toNat 0).toNat) (o:=0) HS (rD 2 r_a) Z Z (getD_some (d:=[]) (ltN c1559)) Z Z Jh Z g) Z (qL Z Z (fun _ _ g=>GO.ix Z Z Z U77 G9 ((Ce.elem (rD 3 r_a) c1559.1 c1559.2) _ HS).2.2.1 c1560.1 c1560.2 Z g) Z (GX.ls Z Z Z (HS.pk 3 [0,2] Z) (fun _ HS _ g=>GO.Hw (T:=Ad) (n:=(([t1551,t1552,t1553,t1554]:List Int).getD x1481.toNat 0).toNat) HS (Ce.elem (rD 2 r_a) c1559.1 c1559.2) Z Z (Cn (ltN c1560) h1562) D9 Z g) Z (GX.l2 Z (GO.alloc HS Z Jz Z Z fun b1563 wd1564 HS=>GX.fin (HS.pk 4 [1,3] Z) (GX.l2 Z ?_)))))))))))))
     refine sW 0 HS Z D9 Z fun wd1565 HS=>GX.fin (HS.pk 4 [1,3] Z) (GX.nil (sQ ?_))
     rcases iS H with ⟨c1584,H⟩ | ⟨c1584,H⟩
     ·
      refine G.H8 mixed (fun w=>St w0 w (Box b1563 107 [I e1561.Tet,I e1561.Perm]::Box b5 174 [I c1,I h1,I d1,I g1,I e1,I f1,I a1,I i1]::L)) [1,5,11,15,22,25,30] [0,2,3,4,1,5,6,7,8,9,10,12,13,14,11,15,16,17,18,19,20,21,24,27,28,29,32,33,22,25,30,23,26,31,34,35,36] [] (by kernel_rfl) (by kernel_rfl) (HS.drew.pk 4 [0,3] Z) ?_
      replace HS:=HS.drew
      refine qL Z Z (fun _ _ g=>fL b1563 0 Dp Z g) Z (GX.ps 1 Z (qL Z Z (fun _ _ g=>GO.ixW Z Z Z Qc Nn c1558 Z g) Z (qL Z Z (fun _ _ g=>GO.fld (⟨b5,0+x1481.toNat * 2,none⟩) Z Z Kj Z Z g) Z (GX.ls Z Z Z (HS.pk 4 [0,3] Z) (fun _ HS _ g=>lB 0 HS Z na2 Z g) Z (GX.ls Z Z Z (HS.pk 4 [0,3] Z) (fun _ HS _ g=>GO.ldW (j:=1) ([c1,d1,e1,a1]:List Int) HS Z Z Z c1558 Z Z na2 Z g) Z (GX.ps 1 Z (qL Z Z (fun _ _ g=>mV Z (kN 87 Z (nF c1584) g)) Z (qL Z Z (fun _ _ g=>oF Z g) Z (qL Z Z (fun _ _ g=>oF Z g) Z (qL Z Z (fun _ _ g=>oF Z g) Z (qL Z Z (fun _ _ g=>oF Z g) Z (qL Z Z (fun _ _ g=>oF Z g) Z (qL Z Z (fun _ _ g=>oF Z g) Z (GX.ls Z Z Z (HS.pk 4 [0,3] Z) (fun _ HS _ g=>oF Z g) Z ?_))))))))))))))
      refine GX.ls Z Z Z (HS.pk 4 [0,3] Z) (fun _ HS _ g=>oF Z g) Z (qL Z Z (fun _ _ g=>oF Z g) Z (GX.ps 2 Z (qL Z Z (fun _ _ g=>oF Z g) Z (qL Z Z (fun _ _ g=>oF Z g) Z (qL Z Z (fun _ _ g=>oF Z g) Z (qL Z Z (fun _ _ g=>oF Z g) Z (qL Z Z (fun _ _ g=>oF Z g) Z (qL Z Z (fun _ _ g=>oF Z g) Z (qL Z Z (fun _ _ g=>oF Z g) Z (qL Z Z (fun _ _ g=>oF Z g) Z (qL Z Z (fun _ _ g=>oF Z g) Z (GX.ls Z Z Z (HS.pk 4 [0,3] Z) (fun _ HS _ g=>oF Z g) Z (GX.ls Z Z Z (HS.pk 4 [0,3] Z) (fun _ HS _ g=>oF Z g) Z (GX.ls Z Z Z (HS.pk 4 [0,3] Z) (fun _ HS _ g=>oF Z g) Z ?_))))))))))))))
      refine GX.l2 Z (oF Z (GX.fin (HS.pk 4 [0,3] Z) (GX.l2 Z (oF Z (GX.fin (HS.pk 4 [0,3] Z) (GX.l2 Z (oF Z (GX.fin (HS.pk 4 [0,3] Z) (GX.l2 Z (oF Z (GX.fin (HS.pk 4 [0,3] Z) (qL Z Z (fun _ _ g=>oF Z g) Z (GX.ps 1 Z (GX.nil ?_))))))))))))))
      refine rN 2 Z (rG (lW 3 HS Z Lr (sW 2 HS Z Lr Z fun wd1605 HS=>aS Z (nL ?_))))
      obtain ⟨rfl,rfl,rfl,rfl,rfl,rfl,rfl,rfl,rfl⟩:=Y1 H
      exact G.Hy _ _ func143 Z (Gz.Hu (j:=2) (vs:=[I c1,I h1,I d1,I g1,I e1,I f1,I a1,I i1]) HS Z Z Z Lr) Z ⟨Z,(HS.pk 4 [] Z)⟩
     rcases iE H with ⟨c1585,H⟩ | ⟨c1585,H⟩
     ·
      refine G.H8 mixed (fun w=>St w0 w (Box b1563 107 [I e1561.Tet,I e1561.Perm]::Box b5 174 [I c1,I h1,I d1,I g1,I e1,I f1,I a1,I i1]::L)) [1,5,11,15,22,25,30] [0,2,3,4,1,5,6,7,8,9,10,12,13,14,11,15,16,17,18,19,20,21,24,27,28,29,32,33,22,25,30,23,26,31,34,35,36] [] (by kernel_rfl) (by kernel_rfl) (HS.drew.pk 4 [0,3] Z) ?_
      replace HS:=HS.drew
      refine qL Z Z (fun _ _ g=>fL b1563 0 Dp Z g) Z (GX.ps 1 Z (qL Z Z (fun _ _ g=>GO.ixW Z Z Z Qc Nn c1558 Z g) Z (qL Z Z (fun _ _ g=>GO.fld (⟨b5,0+x1481.toNat * 2,none⟩) Z Z Kj Z Z g) Z (GX.ls Z Z Z (HS.pk 4 [0,3] Z) (fun _ HS _ g=>lB 0 HS Z na2 Z g) Z (GX.ls Z Z Z (HS.pk 4 [0,3] Z) (fun _ HS _ g=>GO.ldW (j:=1) ([c1,d1,e1,a1]:List Int) HS Z Z Z c1558 Z Z na2 Z g) Z (GX.ps 1 Z (qL Z Z (fun _ _ g=>mV Z (kN 87 Z (nT c1584) g)) Z (qL Z Z (fun _ _ g=>oN Z (mV Z (bK g))) Z (qL Z Z (fun _ _ g=>oN Z (GO.ixW Z Z Z Qc Nn c1546 Z (bK g))) Z (qL Z Z (fun _ _ g=>oN Z (GO.fld (⟨b5,0+x1232.toNat * 2,none⟩) Z Z Kj Z Z (bK g))) Z (qL Z Z (fun _ _ g=>oN Z (mV Z (bK g))) Z (qL Z Z (fun _ _ g=>oN Z (GO.ixW Z Z Z Qc Nn c1558 Z (bK g))) Z (qL Z Z (fun _ _ g=>oN Z (GO.fld (⟨b5,0+x1481.toNat * 2,none⟩) Z Z Kj Z Z (bK g))) Z (GX.ls Z Z Z (HS.pk 4 [0,3] Z) (fun _ HS _ g=>oN Z (GO.ldW (j:=1) ([c1,d1,e1,a1]:List Int) HS Z Z Z c1546 Z Z na2 Z (bK g))) Z ?_))))))))))))))
      refine GX.ls Z Z Z (HS.pk 4 [0,3] Z) (fun _ HS _ g=>oN Z (GO.ldW (j:=1) ([c1,d1,e1,a1]:List Int) HS Z Z Z c1558 Z Z na2 Z (bK g))) Z (qL Z Z (fun _ _ g=>oN Z (GO.eql Z Z Z Z (bK g))) Z (GX.ps 1 Z (qL Z Z (fun _ _ g=>mV Z (kN 98 Z (tT c1585) g)) Z (qL Z Z (fun _ _ g=>oF Z g) Z (qL Z Z (fun _ _ g=>oF Z g) Z (qL Z Z (fun _ _ g=>oF Z g) Z (qL Z Z (fun _ _ g=>oF Z g) Z (qL Z Z (fun _ _ g=>oF Z g) Z (qL Z Z (fun _ _ g=>oF Z g) Z (qL Z Z (fun _ _ g=>oF Z g) Z (qL Z Z (fun _ _ g=>oF Z g) Z (qL Z Z (fun _ _ g=>oF Z g) Z (GX.ls Z Z Z (HS.pk 4 [0,3] Z) (fun _ HS _ g=>oF Z g) Z (GX.ls Z Z Z (HS.pk 4 [0,3] Z) (fun _ HS _ g=>oF Z g) Z ?_))))))))))))))
      refine GX.ls Z Z Z (HS.pk 4 [0,3] Z) (fun _ HS _ g=>oF Z g) Z (GX.l2 Z (oF Z (GX.fin (HS.pk 4 [0,3] Z) (GX.l2 Z (oF Z (GX.fin (HS.pk 4 [0,3] Z) (GX.l2 Z (oF Z (GX.fin (HS.pk 4 [0,3] Z) (GX.l2 Z (oF Z (GX.fin (HS.pk 4 [0,3] Z) (qL Z Z (fun _ _ g=>oF Z g) Z (GX.ps 1 Z ?_))))))))))))))
      refine GX.nil (rN 2 Z (rG (lW 3 HS Z Lr (sW 2 HS Z Lr Z fun wd1586 HS=>aS Z (nL ?_)))))
      obtain ⟨rfl,rfl,rfl,rfl,rfl,rfl,rfl,rfl,rfl⟩:=Y1 H
      exact G.Hy _ _ func143 Z (Gz.Hu (j:=2) (vs:=[I c1,I h1,I d1,I g1,I e1,I f1,I a1,I i1]) HS Z Z Z Lr) Z ⟨Z,(HS.pk 4 [] Z)⟩
     obtain ⟨t1587,h1588,H⟩:=bI H
     obtain ⟨t1591,h1592,H⟩:=bI H
     obtain ⟨t1595,h1596,H⟩:=bI H
     obtain ⟨t1599,h1600,H⟩:=bI H
     refine G.H8 mixed (fun w=>St w0 w (Box b1563 107 [I e1561.Tet,I e1561.Perm]::Box b5 174 [I c1,I h1,I d1,I g1,I e1,I f1,I a1,I i1]::L)) [1,5,11,15,22,25,30] [0,2,3,4,1,5,6,7,8,9,10,12,13,14,11,15,16,17,18,19,20,21,24,27,28,29,32,33,22,25,30,23,26,31,34,35,36] [] (by kernel_rfl) (by kernel_rfl) (HS.drew.pk 4 [0,3] Z) ?_
     replace HS:=HS.drew
     refine qL Z Z (fun _ _ g=>fL b1563 0 Dp Z g) Z (GX.ps 1 Z (qL Z Z (fun _ _ g=>GO.ixW Z Z Z Qc Nn c1558 Z g) Z (qL Z Z (fun _ _ g=>GO.fld (⟨b5,0+x1481.toNat * 2,none⟩) Z Z Kj Z Z g) Z (GX.ls Z Z Z (HS.pk 4 [0,3] Z) (fun _ HS _ g=>lB 0 HS Z na2 Z g) Z (GX.ls Z Z Z (HS.pk 4 [0,3] Z) (fun _ HS _ g=>GO.ldW (j:=1) ([c1,d1,e1,a1]:List Int) HS Z Z Z c1558 Z Z na2 Z g) Z (GX.ps 1 Z (qL Z Z (fun _ _ g=>mV Z (kN 87 Z (nT c1584) g)) Z (qL Z Z (fun _ _ g=>oN Z (mV Z (bK g))) Z (qL Z Z (fun _ _ g=>oN Z (GO.ixW Z Z Z Qc Nn c1546 Z (bK g))) Z (qL Z Z (fun _ _ g=>oN Z (GO.fld (⟨b5,0+x1232.toNat * 2,none⟩) Z Z Kj Z Z (bK g))) Z (qL Z Z (fun _ _ g=>oN Z (mV Z (bK g))) Z (qL Z Z (fun _ _ g=>oN Z (GO.ixW Z Z Z Qc Nn c1558 Z (bK g))) Z (qL Z Z (fun _ _ g=>oN Z (GO.fld (⟨b5,0+x1481.toNat * 2,none⟩) Z Z Kj Z Z (bK g))) Z (GX.ls Z Z Z (HS.pk 4 [0,3] Z) (fun _ HS _ g=>oN Z (GO.ldW (j:=1) ([c1,d1,e1,a1]:List Int) HS Z Z Z c1546 Z Z na2 Z (bK g))) Z ?_))))))))))))))
     refine GX.ls Z Z Z (HS.pk 4 [0,3] Z) (fun _ HS _ g=>oN Z (GO.ldW (j:=1) ([c1,d1,e1,a1]:List Int) HS Z Z Z c1558 Z Z na2 Z (bK g))) Z (qL Z Z (fun _ _ g=>oN Z (GO.eql Z Z Z Z (bK g))) Z (GX.ps 1 Z (qL Z Z (fun _ _ g=>mV Z (kN 98 Z (tF c1585) g)) Z (qL Z Z (fun _ _ g=>oN Z (mV Z (bK g))) Z (qL Z Z (fun _ _ g=>oN Z (GO.ixW Z Z Z Qc Nn c1546 Z (bK g))) Z (qL Z Z (fun _ _ g=>oN Z (GO.fld (⟨b5,1+x1232.toNat * 2,none⟩) Z Z Md (adW _ _ _ _) Z (bK g))) Z (qL Z Z (fun _ _ g=>oN Z (fL b1563 1 Gn Z (bK g))) Z (qL Z Z (fun _ _ g=>oN Z (mV Z (bK g))) Z (qL Z Z (fun _ _ g=>oN Z (GO.ixW Z Z Z Qc Nn c1558 Z (bK g))) Z (qL Z Z (fun _ _ g=>oN Z (GO.fld (⟨b5,1+x1481.toNat * 2,none⟩) Z Z Md (adW _ _ _ _) Z (bK g))) Z (qL Z Z (fun _ _ g=>oN Z (mV Z (bK g))) Z (qL Z Z (fun _ _ g=>oN Z (mV Z (bK g))) Z (GX.ls Z Z Z (HS.pk 4 [0,3] Z) (fun _ HS _ g=>oN Z (GO.ldW (j:=1) ([h1,g1,f1,i1]:List Int) HS Z Z Z c1546 Z Z na2 Z (bK g))) Z (GX.ls Z Z Z (HS.pk 4 [0,3] Z) (fun _ HS _ g=>oN Z (lB 0 HS Z na2 Z (bK g))) Z ?_))))))))))))))
     refine GX.ls Z Z Z (HS.pk 4 [0,3] Z) (fun _ HS _ g=>oN Z (GO.ldW (j:=1) ([h1,g1,f1,i1]:List Int) HS Z Z Z c1558 Z Z na2 Z (bK g))) Z (GX.l2 Z (oN Z (fJ Uy Z (Fa.calls HS  h1588) (fun _ wd1589 ⟨h1590,HS⟩=>⟨_,h1590,(bK (GX.fin (HS.pk 4 [0,3] Z) (GX.l2 Z (oN Z (fJ X3 Z (Ev.calls HS  h1592) (fun _ wd1593 ⟨h1594,HS⟩=>⟨_,h1594,(bK (GX.fin (HS.pk 4 [0,3] Z) (GX.l2 Z (oN Z (fJ X3 Z (Ev.calls HS  h1596) (fun _ wd1597 ⟨h1598,HS⟩=>⟨_,h1598,(bK ?_)⟩))))))⟩))))))⟩))))
     refine GX.fin (HS.pk 4 [0,3] Z) (GX.l2 Z (oN Z (fJ V9 Z (Gv.calls HS  h1600) (fun _ wd1601 ⟨h1602,HS⟩=>⟨_,h1602,(bK (GX.fin (HS.pk 4 [0,3] Z) (qL Z Z (fun _ _ g=>oN Z (GO.neq Z Z Z Z (bK g))) Z (GX.ps 1 Z (GX.nil ?_)))))⟩))))
     rcases iE H with ⟨c1603,H⟩ | ⟨c1603,H⟩
     ·
      refine nB Z (nT c1603) (rN 4 Z (gW (o1 m1 (lR _) _ _ H (HS.pk 4 [1,2,3] Z)) Z))
     refine yB Z (nF c1603) (sQ (rG (lW 3 HS Z Lr (sW 2 HS Z Lr Z fun wd1604 HS=>aS Z (nL ?_)))))
     obtain ⟨rfl,rfl,rfl,rfl,rfl,rfl,rfl,rfl,rfl⟩:=Y1 H
     exact G.Hy _ _ func143 Z (Gz.Hu (j:=2) (vs:=[I c1,I h1,I d1,I g1,I e1,I f1,I a1,I i1]) HS Z Z Z Lr) Z ⟨Z,(HS.pk 4 [] Z)⟩
    exact gW (g2 s1 (lR _) _ _ H HS) Z
   exact gW (x1 n1 (lR _) _ _ H (HS.pk 4 [0,1,2] Z)) Z
  exact gW (e2 K (lR _) _ _ _ _ _ _ _ _ _ _ H (HS.pk 5 [4,3,2,0] Z)) Z
theorem Bz.calls {d1:List (List Ab)} {tet k_:Int} {y_a:Nat→(Ty.slice 107 Ad).Lay} {r1:Option (List Int × List (Gq × Eg) × Int × List Gi)} (HS:St w0 w (L)) (r_a:Ce w0 L (Ty.slice 107 Ad) A_a c_a y_a d1) (H:Bz.f K d1 tet k_=some r1) :
    Calls prog 114 #[.agg [sV A_a d1 c_a].toArray,I tet,I k_] w (Bz.post w0 L r1):=by
  unfold Bz.f at H
  refine cG func114 Z ?_
  refine sQ (rG (bA HS Z fun b1 wd2 HS=>aS Z (nL (sQ ?_))))
  obtain ⟨t3,t4,t5,t6,t7,t8,t9,t10,t11,h12,H⟩:=Zp H
  refine rG (lW 0 HS Z Dq (pS 2 Z (fJ tO Z (Ai.calls HS (rD 1 r_a) h12) (fun _ wd13 ⟨h14,HS⟩=>⟨_,h14,(pS 3 Z (GO.alloc HS Z gH Z Z fun b15 wd16 HS=>sW 0 HS Z Lr Z fun wd17 HS=>aS Z (nL (rN 3 Z ?_))))⟩))))
  rcases iS H with ⟨c18,H⟩ | ⟨c18,H⟩
  ·
   refine yB Z (congrArg Bool.not (Db c18)) (rN 2 Z ?_)
   replace HS:=HS.emp
   obtain rfl:=sI H
   exact rT _ func114 Z Z ⟨0,none,0,0,none,0,Z,(HS.pk 3 [0] Z)⟩
  refine nB Z (congrArg Bool.not c18) (rN 2 Z ?_)
  obtain ⟨t19,t20,t21,t22,h23,H⟩:=D8 H
  refine rG ?_
  replace HS:=HS.Dm (Ar .i64) 2 uu
  replace HS:=HS.pk 3 [0,1,2] Z
  refine fJ Vv Z (have q:=Gj.calls HS  h23; q) (fun _ wd30 ⟨b24,A25,c26,b27,A28,c29,h31,HS⟩=>⟨_,h31,(aS Z (nL (rN 2 Z (rG (lW 4 HS Z Lr (mV Z (nL (rN 2 Z ?_))))))))⟩)
  refine G.name (fun i1 g1=>?_)
  have h1:∀ e1,e1≤K→∀ (A64:Option Addr) (c65:Nat) (a1:List Int) (c1:List (Gq × Eg)) (x68:Int) (w:World),Bz.l1 K e1 t3 t4 t5 t6 t7 t8 t9 t10 t21 t22 a1 c1 x68=some r1→St w0 w (Box b24 104 [sV A64 a1 c65,.map (some b27),I t21,sV A28 t22 c29]::Own (Ar .i64) 2 A64 c65 uu a1::Ir b27 Gh Ey c1::Own Ip 131 A28 c29 uu t22::L)→G prog 114 53 [(9,pT b24),(22,.agg [I t3,I t4,I t5,I t6,I t7,I t8,I t9,I t10].toArray),(23,I x68)] i1 w (Bz.post w0 L r1):=by
   refine lp (fun _ _ _ _ _ w H _=>by rw [Bz.l1] at H; cases H) fun f1 m1 k1 A64 c65 a1 c1 x68 w H HS=>?_
   rw [Bz.l1] at H
   subst g1
   refine rN 3 Z ?_
   rcases iS H with ⟨c103,H⟩ | ⟨c103,H⟩
   ·
    refine nB Z (tF c103) (rN 3 Z ?_)
    replace HS:=St.opt (F:=(fun x=>[Box b24 104 [.slice A64 x.1.length c65,.map (some b27),I x.2.2.1,.slice A28 x.2.2.2.length c29],Own (Ar .i64) 2 A64 c65 uu x.1,Ir b27 Gh Ey x.2.1,Own Ip 131 A28 c29 uu x.2.2.2])) (a1,c1,t21,t22) HS Z
    obtain rfl:=sI H
    exact rT _ func114 Z Z ⟨_,_,_,_,_,_,Z,HS⟩
   refine yB Z (tT c103) (rN 4 Z ?_)
   obtain ⟨c104,H⟩:=iN H
   refine rG (mV Z (GO.tN (sz:=2) (fun u_=>[I (([t3,t5,t7,t9]:List Int).getD u_ 0),I (([t4,t6,t8,t10]:List Int).getD u_ 0)]) Z Z Z Qc Oe c104 (four Z Z Z Z) Z (GO.alloc HS Z Rk Z Z fun b105 wd106 HS=>aS Z (sW 0 HS Z Oe Z fun wd107 HS=>nL (sQ ?_)))))
   obtain ⟨c113,H⟩:=iN H
   refine G.H8 mixed (fun w=>St w0 w (Box b105 127 [I (([t3,t5,t7,t9]:List Int).getD x68.toNat 0),I (([t4,t6,t8,t10]:List Int).getD x68.toNat 0)]::Box b24 104 [sV A64 a1 c65,.map (some b27),I t21,sV A28 t22 c29]::L)) [4,6] [0,1,2,3,5,4,6,7,8,9,10,11] [11] (by kernel_rfl) (by kernel_rfl) (HS.drew.pk 5 [0,1] Z) ?_
   replace HS:=HS.drew
   refine GX.ps 2 Z (qL Z Z (fun _ _ g=>GO.Ou Z Z Z g) Z (qL Z Z (fun _ _ g=>fL b24 0 O9 Z g) Z (qL Z Z (fun _ _ g=>fL b105 0 Kj Z g) Z (GX.ls Z Z Z (HS.pk 5 [0,1] Z) (fun _ HS _ g=>lB 1 HS Z Ih Z g) Z (GX.ls Z Z Z (HS.pk 5 [0,1] Z) (fun _ HS _ g=>lB 0 HS Z na2 Z g) Z (GX.l2 Z (GO.Cw (el:=2) ([I (([t3,t5,t7,t9]:List Int).getD x68.toNat 0)]) HS Z Z (fun _=>by kernel_rfl) Z fun b108 wd109 HS=>GX.fin (HS.pk 6 [1,2] Z) (GX.l2 Z (GO.app1 (T:=(Ar .i64)) (j:=3) (jb:=0) (([t3,t5,t7,t9]:List Int).getD x68.toNat 0) HS Z Z Ba Z Z Z U56 Ml Z Z Z c113 Z fun A111 c112 wd110 HS=>GX.fin (HS.pk 6 [1,2] Z) (qL Z Z (fun _ _ g=>GO.Ou Z Z Z g) Z (qL Z Z (fun _ _ g=>fL b24 0 O9 Z g) Z (GX.l2 Z ?_))))))))))))
   refine GO.Ie (j:=2) (vs:=[sV A111 (a1++[(([t3,t5,t7,t9]:List Int).getD x68.toNat 0)]) c112]) ([sV A111 (a1++[(([t3,t5,t7,t9]:List Int).getD x68.toNat 0)]) c112,.map (some b27),I t21,sV A28 t22 c29]) HS Z Z Z Z Z (htN Ih Z) Z Z Z fun wd114 HS=>GX.Qt Z (GX.nil ?_)
   obtain ⟨t115,h116,H⟩:=bI H
   obtain ⟨t119,t120,t121,t122,h123,H⟩:=D8 H
   obtain ⟨t126,t127,t128,t129,h130,H⟩:=D8 H
   obtain ⟨t133,h134,H⟩:=bI H
   refine G.H8 mixed (fun w=>St w0 w (Box b105 127 [I (([t3,t5,t7,t9]:List Int).getD x68.toNat 0),I (([t4,t6,t8,t10]:List Int).getD x68.toNat 0)]::L)) [2,4,10] [0,1,3,7,9,2,4,10,5,6,8,11,12] [] (by kernel_rfl) (by kernel_rfl) (HS.drew.pk 6 [1] Z) ?_
   replace HS:=HS.drew
   refine GX.ps 1 Z (qL Z Z (fun _ _ g=>fL b105 0 Kj Z g) Z (qL Z Z (fun _ _ g=>fL b105 1 Md Z g) Z (GX.ps 1 Z (qL Z Z (fun _ _ g=>fL b105 1 Md Z g) Z (GX.ls Z Z Z (HS.pk 6 [1] Z) (fun _ HS _ g=>lB 0 HS Z na2 Z g) Z (GX.ls Z Z Z (HS.pk 6 [1] Z) (fun _ HS _ g=>lB 0 HS Z na2 Z g) Z (GX.ls Z Z Z (HS.pk 6 [1] Z) (fun _ HS _ g=>lB 0 HS Z na2 Z g) Z (GX.l2 Z (fJ Uy Z (Fa.calls HS  h116) (fun _ wd117 ⟨h118,HS⟩=>⟨_,h118,(GX.fin (HS.pk 6 [1] Z) (GX.l2 Z (fJ Lc Z (Ct.calls HS  h123) (fun _ wd124 ⟨h125,HS⟩=>⟨_,h125,(GX.fin (HS.pk 6 [1] Z) (qL Z Z (fun _ _ g=>GO.Vn ([t119,t120,t121,t122]:List Int) Z Z Z Hf U2 sz2 Z c104.1 c104.2 Z g) Z ?_))⟩))))⟩))))))))))
   refine GX.l2 Z (fJ Lc Z (Ct.calls HS  h130) (fun _ wd131 ⟨h132,HS⟩=>⟨_,h132,(GX.fin (HS.pk 6 [1] Z) (GX.l2 Z ?_))⟩))
   replace HS:=HS.pk 6 [2,4,0,1,3,5] Z
   refine fJ Qx Z (Fj.calls HS (ro 2 Z) (ro 3 Z) h134) (fun _ wd135 ⟨h136,HS⟩=>⟨_,h136,(GX.fin (HS.pk 6 [3] Z) (GX.nil (rN 3 Z (gW (k1 f1 (lR _) _ _ _ _ _ _ H (HS.pk 6 [0,4,1,5] Z)) Z))))⟩)
  exact gW (h1 K (lR _) _ _ _ _ _ _ H (HS.pk 6 [0,1,2,3] Z)) Z
theorem Ee.calls {a1:List (List Ab)} {d1 c1 e1:Int} {y_a:Nat→(Ty.slice 107 Ad).Lay} {r1:Option (List Int × List (Gq × Eg) × Int × List Gi)} (HS:St w0 w (L)) (r_a:Ce w0 L (Ty.slice 107 Ad) A_a c_a y_a a1) (H:Ee.f K a1 d1 c1 e1=some r1) :
    Calls prog 73 #[.agg [sV A_a a1 c_a].toArray,.agg [I d1,I c1,I e1].toArray] w (Ee.post w0 L r1):=by
  unfold Ee.f at H
  refine cG func73 Z ?_
  refine sQ (rG (bA HS Z fun b1 wd2 HS=>bA HS Z fun b3 wd4 HS=>aS Z (nL (rN 2 Z (rG (fL b3 0 Kn Z (lB 0 HS Z na2 Z (nL (rN 3 Z ?_)))))))))
  rcases iE H with ⟨c5,H⟩ | ⟨c5,H⟩
  ·
   refine yB Z (tT c5) (sQ ?_)
   obtain ⟨t6,h7,H⟩:=bI H
   refine rG (lW 1 HS Z Dq (fL b3 1 Ja Z (lB 0 HS Z na2 Z (fL b3 2 Kc Z (lB 0 HS Z na2 Z (fJ tY Z (Cc.calls HS (rD 2 r_a) h7) (fun _ wd14 ⟨b8,A9,c10,b11,A12,c13,h15,HS⟩=>⟨_,h15,(aS Z (nL ?_))⟩)))))))
   obtain rfl:=sI H
   exact rT _ func73 Z Z ⟨_,_,_,_,_,_,Z,(HS.pk 3 [0] Z)⟩
  refine nB Z (tF c5) (rN 2 Z ?_)
  rcases iE H with ⟨c16,H⟩ | ⟨c16,H⟩
  ·
   refine yB Z (tT c16) (sQ ?_)
   obtain ⟨t17,h18,H⟩:=bI H
   refine rG (lW 1 HS Z Dq (fL b3 1 Ja Z (lB 0 HS Z na2 Z (fL b3 2 Kc Z (lB 0 HS Z na2 Z (fJ uC Z (Bn.calls HS (rD 2 r_a) h18) (fun _ wd25 ⟨b19,A20,c21,b22,A23,c24,h26,HS⟩=>⟨_,h26,(aS Z (nL ?_))⟩)))))))
   obtain rfl:=sI H
   exact rT _ func73 Z Z ⟨_,_,_,_,_,_,Z,(HS.pk 3 [0] Z)⟩
  refine nB Z (tF c16) (rN 2 Z ?_)
  rcases iS H with ⟨c27,H⟩ | ⟨c27,H⟩
  ·
   refine nB Z (tF c27) (rN 3 Z ?_)
   obtain ⟨t41,h42,H⟩:=bI H
   refine rG (lW 1 HS Z Dq (fL b3 1 Ja Z (lB 0 HS Z na2 Z (fL b3 2 Kc Z (lB 0 HS Z na2 Z (fJ tX Z (Bz.calls HS (rD 2 r_a) h42) (fun _ wd49 ⟨b43,A44,c45,b46,A47,c48,h50,HS⟩=>⟨_,h50,(aS Z (nL ?_))⟩)))))))
   obtain rfl:=sI H
   exact rT _ func73 Z Z ⟨_,_,_,_,_,_,Z,(HS.pk 3 [0] Z)⟩
  refine yB Z (tT c27) (sQ ?_)
  obtain ⟨t28,t29,t30,t31,h32,H⟩:=D8 H
  refine rG (fL b3 1 Ja Z (lB 0 HS Z na2 Z (fJ qH Z (Er.calls HS  h32) (fun _ wd39 ⟨b33,A34,c35,b36,A37,c38,h40,HS⟩=>⟨_,h40,(aS Z (nL ?_))⟩))))
  replace HS:=St.opt (F:=(fun x=>[Box b33 104 [.slice A34 x.1.length c35,.map (some b36),I x.2.2.1,.slice A37 x.2.2.2.length c38],Own (Ar .i64) 2 A34 c35 uu x.1,Ir b36 Gh Ey x.2.1,Own Ip 131 A37 c38 uu x.2.2.2])) (t28,t29,t30,t31) HS Z
  obtain rfl:=sI H
  exact rT _ func73 Z Z ⟨_,_,_,_,_,_,Z,(HS.pk 3 [0] Z)⟩
theorem D5.calls {a1:List (List Ab)} {d1 c1 e1:Int} {y_a:Nat→(Ty.slice 107 Ad).Lay} {r1:Option (List Int × List (Gq × Eg) × Int × List Gi)} {r2:Int} (HS:St w0 w (L)) (r_a:Ce w0 L (Ty.slice 107 Ad) A_a c_a y_a a1) (H:D5.f K a1 d1 c1 e1=some (r1,r2)) :
    Calls prog 43 #[.agg [sV A_a a1 c_a].toArray,.agg [I d1,I c1,I e1].toArray] w (D5.post w0 L r1 r2):=by
  unfold D5.f at H
  refine cG func43 Z ?_
  refine sQ (rG (bA HS Z fun b1 wd2 HS=>bA HS Z fun b3 wd4 HS=>pS 2 Z (nL (rN 2 Z ?_))))
  obtain ⟨t18,h19,H⟩:=bI H
  rcases iS H with ⟨c22,H⟩ | ⟨c22,H⟩
  ·
   refine G.H8 mixed (fun w=>St w0 w (Box b3 33 [I d1,I c1,I e1]::Box b1 31 [sV A_a a1 c_a]::L)) [1,3,8,10] [0,2,1,3,4,5,6,7,9,8,10,11,12,13,14,15] [] (by kernel_rfl) (by kernel_rfl) HS.drew ?_
   replace HS:=HS.drew
   refine qL Z Z (fun _ _ g=>fL b1 0 Du Z g) Z (qL Z Z (fun _ _ g=>fL b3 1 Ja Z g) Z (GX.ls Z Z Z HS (fun _ HS _ g=>lB 1 HS Z Gu Z g) Z (GX.ls Z Z Z HS (fun _ HS _ g=>lB 0 HS Z na2 Z g) Z (GX.l2 Z (fJ bC Z (Dv.calls HS (rD 2 r_a) h19) (fun _ wd20 ⟨h21,HS⟩=>⟨_,h21,(GX.fin HS (GX.ps 1 Z (qL Z Z (fun _ _ g=>mV Z (kN 13 Z (congrArg Bool.not (Db c22)) g)) Z (qL Z Z (fun _ _ g=>oF Z g) Z (qL Z Z (fun _ _ g=>oF Z g) Z (GX.ls Z Z Z HS (fun _ HS _ g=>oF Z g) Z (GX.ls Z Z Z HS (fun _ HS _ g=>oF Z g) Z (GX.l2 Z (oF Z ?_)))))))))⟩))))))
   refine GX.fin HS (qL Z Z (fun _ _ g=>oF Z g) Z (GX.l2 Z (oF Z (GX.fin HS (qL Z Z (fun _ _ g=>oF Z g) Z (GX.ps 1 Z (GX.nil (rN 3 Z ?_))))))))
   replace HS:=HS.emp
   obtain ⟨rfl,rfl⟩:=H9 H
   exact G.Hy _ _ func43 Z Z Z ⟨0,none,0,0,none,0,Z,(HS.pk 3 [0] Z)⟩
  obtain ⟨t23,h24,H⟩:=bI H
  obtain ⟨t27,h28,H⟩:=bI H
  refine G.H8 mixed (fun w=>St w0 w (Box b3 33 [I d1,I c1,I e1]::Box b1 31 [sV A_a a1 c_a]::L)) [1,3,8,10] [0,2,1,3,4,5,6,7,9,8,10,11,12,13,14,15] [] (by kernel_rfl) (by kernel_rfl) HS.drew ?_
  replace HS:=HS.drew
  refine qL Z Z (fun _ _ g=>fL b1 0 Du Z g) Z (qL Z Z (fun _ _ g=>fL b3 1 Ja Z g) Z (GX.ls Z Z Z HS (fun _ HS _ g=>lB 1 HS Z Gu Z g) Z (GX.ls Z Z Z HS (fun _ HS _ g=>lB 0 HS Z na2 Z g) Z (GX.l2 Z (fJ bC Z (Dv.calls HS (rD 2 r_a) h19) (fun _ wd20 ⟨h21,HS⟩=>⟨_,h21,(GX.fin HS (GX.ps 1 Z (qL Z Z (fun _ _ g=>mV Z (kN 13 Z (congrArg Bool.not c22) g)) Z (qL Z Z (fun _ _ g=>oN Z (fL b3 2 Kc Z (bK g))) Z (qL Z Z (fun _ _ g=>oN Z (fL b3 0 Kn Z (bK g))) Z (GX.ls Z Z Z HS (fun _ HS _ g=>oN Z (lB 0 HS Z na2 Z (bK g))) Z (GX.ls Z Z Z HS (fun _ HS _ g=>oN Z (lB 0 HS Z na2 Z (bK g))) Z (GX.l2 Z (oN Z ?_)))))))))⟩))))))
  refine fJ nY Z (F6.calls HS  h24) (fun _ wd25 ⟨h26,HS⟩=>⟨_,h26,(bK (GX.fin HS (qL Z Z (fun _ _ g=>oN Z (GO.sub Z Z Z Z (bK g))) Z (GX.l2 Z (oN Z (fJ fV Z (Hr.calls HS  h28) (fun _ wd29 ⟨h30,HS⟩=>⟨_,h30,(bK (GX.fin HS (qL Z Z (fun _ _ g=>oN Z (GO.not Z Z Z (bK g))) Z (GX.ps 1 Z (GX.nil ?_)))))⟩)))))))⟩)
  rcases iS H with ⟨c31,H⟩ | ⟨c31,H⟩
  ·
   refine yB Z (congrArg Bool.not (Db c31)) (rN 2 Z ?_)
   replace HS:=HS.emp
   obtain ⟨rfl,rfl⟩:=H9 H
   exact G.Hy _ _ func43 Z Z Z ⟨0,none,0,0,none,0,Z,(HS.pk 3 [0] Z)⟩
  refine nB Z (congrArg Bool.not c31) (rN 2 Z ?_)
  obtain ⟨t32,h33,H⟩:=bI H
  refine rG (lW 1 HS Z Dq (lW 0 HS Z Lb (fJ uT Z (Ee.calls HS (rD 2 r_a) h33) (fun _ wd40 ⟨b34,A35,c36,b37,A38,c39,h41,HS⟩=>⟨_,h41,(aS Z (nL (rN 3 Z (rG (mV Z (GO.uX Z Z Z Option.isNone_map U70 Z (aS Z (nL ?_))))))))⟩))))
  rcases dL H with ⟨h44,H⟩ | ⟨x43,h44,H⟩
  ·
   subst h44
   replace HS:=HS.tail
   refine rN 3 Z ?_
   replace HS:=HS.emp
   obtain ⟨rfl,rfl⟩:=H9 H
   exact G.Hy _ _ func43 Z Z Z ⟨0,none,0,0,none,0,Z,(HS.pk 3 [0] Z)⟩
  subst h44
  replace HS:St w0 _ (Box b34 104 [.slice A35 x43.1.length c36,.map (some b37),I x43.2.2.1,.slice A38 x43.2.2.2.length c39]::Own (Ar .i64) 2 A35 c36 uu x43.1::Ir b37 Gh Ey x43.2.1::Own Ip 131 A38 c39 uu x43.2.2.2::Box b3 33 [I d1,I c1,I e1]::Box b1 31 [sV A_a a1 c_a]::L):=St.uJ HS
  refine nB Z (Db Bool.false_ne_true) (sQ (G.lex mixed [0,3,4,5,9,10,11,1,2,6,7,8,12,13,14,15] (by kernel_rfl) ?_))
  replace HS:=HS.drew
  refine qL Z Z (fun _ _ g=>fL b1 0 Du Z g) Z (GX.ps 1 Z (qL Z Z (fun _ _ g=>GO.Ou Z Z Z g) Z (qL Z Z (fun _ _ g=>fL b34 0 O9 Z g) Z (GX.ps 1 Z (qL Z Z (fun _ _ g=>GO.Ou Z Z Z g) Z (qL Z Z (fun _ _ g=>fL b34 2 bU Z g) Z (GX.l1 Z Z Z (fun _ g=>lB 5 HS Z Gu Z g) Z (GX.l1 Z Z Z (fun _ g=>lS Z Z U29 Z g) Z (GX.l1 Z Z Z (fun _ g=>lB 0 HS Z Ih Z g) Z (GX.l1 Z Z Z (fun _ g=>lS Z Z U56 Z g) Z (GX.ps 1 Z (GX.l1 Z Z Z (fun _ g=>lB 0 HS Z na2 Z g) Z (GX.ps 3 Z (GX.nil ?_))))))))))))))
  rcases iE H with ⟨c45,H⟩ | ⟨c45,H⟩
  ·
   refine yB Z (tT c45) (rN 2 Z ?_)
   replace HS:=HS.emp
   obtain ⟨rfl,rfl⟩:=H9 H
   exact G.Hy _ _ func43 Z Z Z ⟨0,none,0,0,none,0,Z,(HS.pk 7 [0] Z)⟩
  refine nB Z (tF c45) (rN 4 Z ?_)
  replace HS:=St.opt (F:=(fun x=>[Box b34 104 [.slice A35 x.1.length c36,.map (some b37),I x.2.2.1,.slice A38 x.2.2.2.length c39],Own (Ar .i64) 2 A35 c36 uu x.1,Ir b37 Gh Ey x.2.1,Own Ip 131 A38 c39 uu x.2.2.2])) (x43.1,x43.2.1,x43.2.2.1,x43.2.2.2) HS Z
  obtain ⟨rfl,rfl⟩:=H9 H
  exact G.Hy _ _ func43 Z Z Z ⟨_,_,_,_,_,_,Z,(HS.pk 3 [0] Z)⟩
theorem Jq.calls {r1 r2:Int} (HS:St w0 w (L)) (H:Jq.f=some (r1,r2)) :
    Calls prog 128 #[] w (Jq.post w0 L r1 r2):=by
  unfold Jq.f at H
  refine cG func128 Z ?_
  refine sQ (rG (GO.alloc HS Z Jz Z Z fun b1 wd2 HS=>nL (sQ (rG (GO.Dr (.agg [I (-1),I 0].toArray) Z Z (fun _=>by kernel_rfl) Z (sW 0 HS Z D9 Z fun wd3 HS=>nL ?_))))))
  obtain ⟨rfl,rfl⟩:=H9 H
  exact rT _ func128 Z (Gz.Hu (j:=0) (vs:=[I (-1),I 0]) HS Z Z Z D9) ⟨Z,(HS.pk 1 [] Z)⟩
theorem I7.calls {x y:Int} {r1 r2:Int} (HS:St w0 w (L)) (H:I7.f x y=some (r1,r2)) :
    Calls prog 165 #[.int .u64 x,.int .u64 y] w (I7.post w0 L r1 r2):=by
  unfold I7.f at H
  refine cG func165 Z ?_
  refine rN 3 Z (rG (mV Z (GO.bits (by simp) Z Z Z Z (aS Z (nL (sQ (rG (mV Z (GO.shr Z Z Z (by decide) (by decide) Z (aS Z (nL (sQ (rG (mV Z ?_))))))))))))))
  refine GO.bits (by simp) Z Z Z Z (aS Z (nL (sQ (rG (mV Z (GO.shr Z Z Z (by decide) (by decide) Z (aS Z (nL (rN 3 Z (rG (pS 4 Z (GO.shr Z Z Z (by decide) (by decide) Z (pS 2 Z (nL ?_))))))))))))))
  refine sQ (rG (mV Z (GO.bits (by simp) Z Z Z Z (aS Z (nL (sQ (rG (mV Z (GO.shr Z Z Z (by decide) (by decide) Z (aS Z (nL (rN 3 Z (rG (pS 6 Z ?_))))))))))))))
  refine GO.shr Z Z Z (by decide) (by decide) Z (pS 2 Z (nL (rN 2 Z ?_)))
  obtain ⟨rfl,rfl⟩:=H9 H
  exact G.Hy _ _ func165 Z Z Z ⟨Z,HS⟩
theorem Jr.calls {x y:Int} {r1 r2:Int} (HS:St w0 w (L)) (H:Jr.f x y=some (r1,r2)) :
    Calls prog 153 #[.int .u64 x,.int .u64 y] w (Jr.post w0 L r1 r2):=by
  unfold Jr.f at H
  refine cG func153 Z ?_
  refine rN 6 Z ?_
  obtain ⟨t1,t2,h3,H⟩:=Ea H
  refine rG (pS 2 Z (fJ qN Z (I7.calls HS  h3) (fun _ wd4 ⟨h5,HS⟩=>⟨_,h5,(pS 5 Z (nL (rN 2 Z ?_)))⟩)))
  obtain ⟨rfl,rfl⟩:=H9 H
  exact G.Hy _ _ func153 Z Z Z ⟨Z,HS⟩
theorem Bh.calls {x:List Ab} {count:Int} {r1:List Ab} (HS:St w0 w (L)) (r_a:Ce w0 L Ad A_a c_a uu x) (H:Bh.f K x count=some r1) :
    Calls prog 127 #[sV A_a x c_a,I count] w (Bh.post w0 L r1):=by
  unfold Bh.f at H
  refine cG func127 Z ?_
  refine rN 5 Z ?_
  rcases iE H with ⟨c2,H⟩ | ⟨c2,H⟩
  ·
   refine yB Z (tT c2) ?_
   cases H
  refine nB Z (tF c2) (rN 2 Z ?_)
  obtain ⟨t3,t4,h5,H⟩:=Ea H
  refine rG (mV Z (lS Z Z U77 Z (GO.conv Z Z U3 qM Z (mV Z (GO.conv Z Z U3 qM Z (fJ qQ Z (Jr.calls HS  h5) (fun _ wd6 ⟨h7,HS⟩=>⟨_,h7,(pS 5 Z (nL (rN 2 Z ?_)))⟩)))))))
  refine G.Ov (fun h1 o1=>?_)
  have e1:∀ d1,d1≤K→∀ (x10:Bool) (w:World),Bh.j2 K d1 x t4 x10=some r1→St w0 w (L)→G prog 127 48 [(0,sV A_a x c_a),(6,.int .u64 t4),(26,.bool x10)] h1 w (Bh.post w0 L r1):=by
   refine jp (fun _ w H _=>by rw [Bh.j2] at H; cases H) fun c1 q1 x10 w H HS=>?_
   rw [Bh.j2] at H
   subst o1
   rcases iE H with ⟨c12,H⟩ | ⟨c12,H⟩
   ·
    refine yB Z c12 ?_
    cases H
   refine nB Z (Db c12) (rN 2 Z ?_)
   obtain ⟨c13,H⟩:=iN H
   obtain ⟨c14,H⟩:=iN H
   refine rG (mV Z (GO.conv Z Z qM U3 Z (GO.make (T:=Ad) Bj () HS Ba Z Z Z U77 Xp Z Z Z c13 c14 Z fun b15 wd16 HS=>aS Z (nL (sQ ?_)))))
   have h18:=Yf (xs:=(List.replicate (w64 (t4)).toNat Bj)) (ys:=x) (Nat.le_of_eq (Nat.zero_add _))
   refine rG (pS 2 Z (GO.nS (T:=Ad) (j:=0) (l:=0) HS Z (rD 1 r_a) Ba Z Z Z U77 G9 Z qV (Nat.le_of_eq (Nat.zero_add _)) (fun _ _=>Z) (fun _=>Z) fun wd17 HS=>aS Z (nL (G.len (t:=7) (m:=(over (List.replicate (w64 (t4)).toNat Bj) 0 (x.take ((List.replicate (w64 (t4)).toNat Bj).length))).length) Z (by simp only [List.length_set,h18] <;> rfl) (rN 3 Z ?_)))))
   refine G.name (fun n1 k1=>?_)
   have g1:∀ f1,f1≤c1→∀ (a1:List Ab) (b1:Int) (w:World),Bh.l4 K f1 a1 b1=some r1→St w0 w (Own Ad 107 (sb b15) ((w64 (t4)).toNat) uu a1::L)→G prog 127 48 [(7,sV (sb b15) a1 ((w64 (t4)).toNat)),(8,I b1)] n1 w (Bh.post w0 L r1):=by
    refine lp (fun _ _ w H _=>by rw [Bh.l4] at H; cases H) fun i1 p1 m1 a1 b1 w H HS=>?_
    rw [Bh.l4] at H
    subst k1
    refine rN 2 Z (rG (pS 2 Z (lS Z Z U77 Z (GO.lss Z Z Z Z (nL ?_)))))
    rcases iS H with ⟨c29,H⟩ | ⟨c29,H⟩
    ·
     refine nB Z (tF c29) (rN 3 Z ?_)
     obtain rfl:=sI H
     exact rT _ func127 Z Z ⟨_,_,Z,HS⟩
    refine yB Z (tT c29) (rN 2 Z ?_)
    obtain ⟨c30,H⟩:=iN H
    have h32:=Yf (xs:=a1) (ys:=((a1.take b1.toNat).drop 0)) (dF (leN c30) (lR _))
    refine G.lex mixed [0,1,2,4,5,3,6,7,8,9] (by kernel_rfl) ?_
    replace HS:=HS.drew
    refine GX.ps 5 Z (GX.l1 Z Z Z (fun _ g=>GO.slL (T:=Ad) HS (ro 0 Z) Z Z Z U77 G9 c30.1 c30.2 Z g) Z (GX.l1 Z Z Z (fun _ g=>GO.slH (T:=Ad) HS (ro 0 Z) Z Z Z U77 G9 c30.1 c30.2 Z g) Z (GX.l2 Z (GO.nS (T:=Ad) (j:=0) (l:=b1.toNat) HS Z (Ce.cut (ro 0 Z) (Nat.zero_le _) (leN c30)) Ba Z Z Z U77 G9 Z (uF (lR _) ((ro 0 Z) _ HS).1) (dF (leN c30) (lR _)) (fun _ _=>Z) (fun _=>Z) fun wd31 HS=>GX.fin tv (GX.ps 2 Z (GX.nil (G.len (t:=7) (m:=(over a1 b1.toNat (((a1.take b1.toNat).drop 0).take (((a1.take a1.length).drop b1.toNat).length))).length) Z (by simp only [List.length_set,h32] <;> rfl) (rN 2 Z (gW (m1 i1 (lR _) _ _ _ H HS) Z)))))))))
   exact gW (g1 c1 (lR _) _ _ _ H HS) Z
  rcases iE H with ⟨c33,H⟩ | ⟨c33,H⟩
  ·
   refine rG (pS 3 Z (kN 23 Z (tT c33) (oF Z (oF Z (GO.Iz Z Z Z Z Z (nL (gW (e1 K (lR _) _ _ H HS) Z)))))))
  refine rG (pS 3 Z (kN 23 Z (tF c33) (oN Z (mV Z (bK (oN Z (GO.gtr Z Z Z Z (bK (GO.Jm Z Z Z Z Z (nL (gW (e1 K (lR _) _ _ H HS) Z)))))))))))
theorem G8.calls {a1:List (List Ab)} {y_a:Nat→(Ty.slice 107 Ad).Lay} {r1:List (List Ab)} (HS:St w0 w (L)) (r_a:Ce w0 L (Ty.slice 107 Ad) A_a c_a y_a a1) (H:G8.f K a1=some r1) :
    Calls prog 89 #[.agg [sV A_a a1 c_a].toArray] w (G8.post w0 L r1):=by
  unfold G8.f at H
  refine cG func89 Z ?_
  refine sQ (rG (bA HS Z fun b1 wd2 HS=>GO.alloc HS Z Lm Z Z fun b3 wd4 HS=>nL (sQ ?_)))
  obtain ⟨t5,h6,H⟩:=bI H
  refine rG (lW 1 HS Z Dq (fJ pJ Z (Cr.calls HS (rD 2 r_a) h6) (fun _ wd10 ⟨A7,c8,y9,h11,HS⟩=>⟨_,h11,(GO.alloc HS Z Lm Z Z fun b12 wd13 HS=>sW 0 HS Z Dq Z fun wd14 HS=>nL (sQ ?_))⟩)))
  obtain ⟨t15,t16,h17,H⟩:=Ea H
  obtain ⟨t22,h23,H⟩:=bI H
  obtain ⟨c33,H⟩:=iN H
  refine G.H8 mixed (fun w=>St w0 w (Box b12 31 [sV A7 t5 c8]::L)) [1] [0,1,2,3,4,5,6,7,8] [8] (by kernel_rfl) (by kernel_rfl) (HS.drew.pk 4 [0] Z) ?_
  replace HS:=HS.drew
  refine qL Z Z (fun _ _ g=>fL b12 0 Du Z g) Z (GX.ls Z Z Z (HS.pk 4 [0] Z) (fun _ HS _ g=>lB 0 HS Z Gu Z g) Z (GX.l2 Z (fJ qK Z (Jq.calls HS  h17) (fun _ wd18 ⟨h19,HS⟩=>⟨_,h19,(GX.fin (HS.pk 4 [0] Z) (GX.l2 Z (GO.Cw (el:=107) ([I t15,I t16]) HS Z Z (fun _=>by kernel_rfl) Z fun b20 wd21 HS=>GX.fin (HS.pk 5 [1] Z) (GX.l2 Z ?_))))⟩))))
  replace HS:=HS.Fq (T:=Ad) (j:=0) Z Ba uu ([(⟨t15,t16⟩:Ab)]:List Ab) Z (Il Z)
  refine GO.H7 (t:=9) (m:=([(⟨t15,t16⟩:Ab)]:List Ab).length) (c':=([(⟨t15,t16⟩:Ab)]:List Ab).length) Z Z Z (fJ rX Z (Bh.calls HS (ro 0 Z) h23) (fun _ wd26 ⟨A24,c25,h27,HS⟩=>⟨_,h27,(GX.fin (HS.pk 6 [2] Z) (GX.l2 Z (GO.Cw (el:=77) ([sV A24 t22 c25]) HS Z Z (fun _=>by kernel_rfl) Z fun b28 wd29 HS=>GX.fin (HS.pk 7 [3] Z) (GX.l2 Z ?_))))⟩))
  replace HS:=HS.pk 7 [4,0,1,2,3,5,6] Z
  refine GO.Ul (S:=Ad) (u:=107) HS Z Z Z U29 Qb Z Z c33 Z fun A31 c32 y34 wd30 HS=>GX.fin (HS.pk 6 [3] Z) (qL Z Z (fun _ _ g=>fL b12 0 Du Z g) Z (GX.l2 Z (GO.Ie (j:=3) (vs:=[sV A31 (t5++[t22]) c32]) ([sV A31 (t5++[t22]) c32]) HS Z Z Z Z Z (htN Gu Z) Z Z Z fun wd35 HS=>GX.Qt Z (GX.nil (sQ (rG (lW 3 HS Z Dq (sW 4 HS Z Dq Z fun wd36 HS=>nL ?_))))))))
  obtain rfl:=sI H
  exact rT _ func89 Z (Gz.Hu (j:=4) (vs:=[sV A31 (t5++[t22]) c32]) HS Z Z Z Dq) ⟨_,_,_,Z,(HS.pk 6 [0] Z)⟩
theorem C9.calls {tet f:Int} {d1:List Int} {k1:List (Gq × Eg)} {m1:Int} {f1:List Gi} {c1:Int} {a1:List Int} {n1 e1:Nat} {A_a:Option Addr} {c_a i1:Nat} {A_b:Option Addr} {c_b h1 g1:Nat} {r1 r2:Int} (HS:St w0 w (Box n1 70 [pT e1]::Box e1 104 [sV A_a d1 c_a,.map (some i1),I m1,sV A_b f1 c_b]::Ir i1 Gh Ey k1::Box h1 2 [I c1]::Box g1 56 [sV A_c a1 c_c]::L)) (r_a:Ce w0 L (Ar .i64) A_a c_a uu d1) (r_b:Ce w0 L Ip A_b c_b uu f1) (r_c:Ce w0 L (Ar .i64) A_c c_c uu a1) (H:C9.f tet f d1 k1 m1 f1 c1 a1=some (r1,r2)) :
    Calls prog 90 #[I tet,I f,pT n1,pT h1,pT g1] w (C9.post w0 L d1 k1 m1 f1 c1 a1 n1 e1 A_a c_a i1 A_b c_b h1 g1 A_c c_c r1 r2):=by
  unfold C9.f at H
  refine cG func90 Z ?_
  refine sQ (rG (GO.alloc HS Z Rk Z Z fun b1 wd2 HS=>nL (rN 2 Z ?_)))
  obtain ⟨e3,h4,H⟩:=Di H
  refine rG (lB 1 HS Z Y8 Z (GO.Ou Z Z Z (fL e1 1 Wy Z (lB 2 HS Z gJ Z (pS 2 Z (GO.Dr (.agg [I tet,I f].toArray) Z Z (fun _=>by kernel_rfl) Z (GO.aR Qd (⟨tet,f⟩:Gq) Tm HS (j:=3) Z Z Z Z sM Rk Z (congrArg Ey h4) (pS 3 Z (GO.alloc HS Z Rk Z Z fun b5 wd6 HS=>sW 0 HS Z Oe Z fun wd7 HS=>aS Z (nL (rN 2 Z ?_)))))))))))
  rcases iE H with ⟨c8,H⟩ | ⟨c8,H⟩
  ·
   refine yB Z c8 (sQ (rG (lB 5 HS Z na2 Z (fL b5 0 Kj Z (lB 0 HS Z na2 Z (GO.add Z Z Z Z (fL b5 1 Md Z (lB 0 HS Z na2 Z (GO.Dr (.agg [I (w64 (c1+e3.tet)),I e3.perm].toArray) Z Z (fun _=>by kernel_rfl) Z (sW 1 HS Z Oe Z fun wd9 HS=>nL ?_))))))))))
   obtain ⟨rfl,rfl⟩:=H9 H
   exact rT _ func90 Z (Gz.Hu (j:=1) (vs:=[I (w64 (c1+e3.tet)),I e3.perm]) HS Z Z Z Oe) ⟨Z,(HS.pk 7 [2,3,4,5,6] Z)⟩
  refine nB Z (Db c8) (rN 2 Z ?_)
  obtain ⟨c10,H⟩:=iN H
  refine rG (lB 6 HS Z Ih Z (mV Z (iX Z U56 sz2 (rk (rD 7 r_c) HS) c10 (GO.Cj (T:=(Ar .i64)) (n:=tet.toNat) (o:=0) HS (rD 7 r_c) Z Z (getD_some (d:=0) (ltN c10)) Z Z na2 Z (GO.Dr (.agg [I (a1.getD tet.toNat 0),I 0].toArray) Z Z (fun _=>by kernel_rfl) Z (sW 1 HS Z Oe Z fun wd11 HS=>nL ?_))))))
  obtain ⟨rfl,rfl⟩:=H9 H
  exact rT _ func90 Z (Gz.Hu (j:=1) (vs:=[I (a1.getD tet.toNat 0),I 0]) HS Z Z Z Oe) ⟨Z,(HS.pk 7 [2,3,4,5,6] Z)⟩
theorem Gl.calls {a1:List (List Ab)} {a_ f:Int} {b_ p:Int} {y_a:Nat→(Ty.slice 107 Ad).Lay} {r1:List (List Ab)} (HS:St w0 w (Own (Ty.slice 107 Ad) 77 A_a c_a y_a a1::L)) (H:Gl.f K a1 a_ f b_ p=some r1) :
    Calls prog 96 #[.agg [sV A_a a1 c_a].toArray,I a_,I f,I b_,I p] w (Gl.post w0 L A_a c_a y_a r1):=by
  unfold Gl.f at H
  refine cG func96 Z ?_
  refine sQ (rG (bA HS Z fun b1 wd2 HS=>nL (sQ (rG (pS 2 Z (GO.Dr (.agg [I b_,I p].toArray) Z Z (fun _=>by kernel_rfl) Z (GO.alloc HS Z Jz Z Z fun b3 wd4 HS=>sW 0 HS Z D9 Z fun wd5 HS=>nL (sQ ?_))))))))
  obtain ⟨c6,H⟩:=iN H
  have h7:=(rk (ro 2 Z) HS)
  obtain ⟨c8,H⟩:=iN H
  refine G.lex mixed [0,2,5,1,3,4,6,7,8] (by kernel_rfl) ?_
  replace HS:=HS.drew
  refine qL Z Z (fun _ _ g=>fL b1 0 Du Z g) Z (GX.ps 2 Z (GX.l1 Z Z Z (fun _ g=>lB 1 HS Z Gu Z g) Z (qL Z Z (fun _ _ g=>iX Z U29 Jg h7 c6 g) Z (GX.l1 Z Z Z (fun _ g=>GO.Cj (T:=(Ty.slice 107 Ad)) (n:=a_.toNat) (o:=0) HS (ro 2 Z) Z Z (getD_some (d:=[]) (ltN c6)) Z Z Jh Z g) Z (GX.l1 Z Z Z (fun _ g=>lW 0 HS Z D9 g) Z (qL Z Z (fun _ _ g=>GO.ix Z Z Z U77 G9 ((Ce.elem (ro 2 Z) c6.1 c6.2) _ HS).2.2.1 c8.1 c8.2 Z g) Z (GX.l2 Z ?_)))))))
  replace HS:=HS.pk 3 [2,0,1] Z
  refine GO.Tq (S:=Ad) (k:=a_.toNat) (n:=f.toNat) (o:=0) (vs:=[I b_,I p]) (⟨b_,p⟩:Ab) HS Ba Z Z Z Z (htA D9) Z (ltN c6) (getD_some (d:=Bj) (ltN c8)) Z Z fun wd9 HS=>GX.fin tv (GX.nil ?_)
  replace HS:=HS.K3 (j:=2) (cs':=[sV A_a (a1.set a_.toNat ((a1.getD a_.toNat []).set f.toNat (⟨b_,p⟩:Ab))) c_a]) Z (by simp only [sV,List.length_set] <;> rfl)
  obtain ⟨c10,H⟩:=iN H
  have h11:=(rk (ro 0 Z) HS)
  obtain ⟨t12,h13,H⟩:=bI H
  obtain ⟨t16,t17,h18,H⟩:=Ea H
  obtain ⟨c21,H⟩:=iN H
  refine G.H8 mixed (fun w=>St w0 w (Own (Ty.slice 107 Ad) 77 A_a c_a y_a (a1.set a_.toNat ((a1.getD a_.toNat []).set f.toNat (⟨b_,p⟩:Ab)))::Box b3 107 [I b_,I p]::Box b1 31 [sV A_a (a1.set a_.toNat ((a1.getD a_.toNat []).set f.toNat (⟨b_,p⟩:Ab))) c_a]::L)) [1,4,5,8] [0,2,6,9,1,3,4,5,8,7,10,11,12] [12] (by kernel_rfl) (by kernel_rfl) HS.drew ?_
  replace HS:=HS.drew
  refine qL Z Z (fun _ _ g=>fL b1 0 Du Z g) Z (GX.ps 3 Z (GX.ls Z Z Z HS (fun _ HS _ g=>lB 2 HS Z Gu Z g) Z (qL Z Z (fun _ _ g=>iX Z U29 Jg h11 c10 g) Z (GX.ls Z Z Z HS (fun _ HS _ g=>GO.Cj (T:=(Ty.slice 107 Ad)) (n:=b_.toNat) (o:=0) HS (ro 0 Z) Z Z (getD_some (d:=[]) (ltN c10)) Z Z Jh Z g) Z (GX.ls Z Z Z HS (fun _ HS _ g=>lW 1 HS Z D9 g) Z (GX.ls Z Z Z HS (fun _ HS _ g=>lW 1 HS Z D9 g) Z (GX.l2 Z (fJ iZ Z (F5.calls HS  h13) (fun _ wd14 ⟨h15,HS⟩=>⟨_,h15,(GX.fin HS (GX.l2 Z (fJ Wn Z (F7.calls HS  h18) (fun _ wd19 ⟨h20,HS⟩=>⟨_,h20,(GX.fin HS (qL Z Z (fun _ _ g=>GO.ix Z Z Z U77 G9 ((Ce.elem (ro 0 Z) c10.1 c10.2) _ HS).2.2.1 c21.1 c21.2 Z g) Z (GX.l2 Z ?_)))⟩))))⟩)))))))))
  refine GO.Tq (S:=Ad) (k:=b_.toNat) (n:=t12.toNat) (o:=0) (vs:=[I t16,I t17]) (⟨t16,t17⟩:Ab) HS Ba Z Z Z Z (htA D9) Z (ltN c10) (getD_some (d:=Bj) (ltN c21)) Z Z fun wd22 HS=>GX.Qt Z (GX.nil ?_)
  replace HS:=HS.K3 (j:=2) (cs':=[sV A_a ((a1.set a_.toNat ((a1.getD a_.toNat []).set f.toNat (⟨b_,p⟩:Ab))).set b_.toNat (((a1.set a_.toNat ((a1.getD a_.toNat []).set f.toNat (⟨b_,p⟩:Ab))).getD b_.toNat []).set t12.toNat (⟨t16,t17⟩:Ab))) c_a]) Z (by simp only [sV,List.length_set] <;> rfl)
  obtain rfl:=sI H
  exact G.Pz func96 Z ⟨Z,(HS.pk 3 [0] Z)⟩
theorem Ae.calls {a1:List (List Ab)} {f1:List Int} {g1:List (Gq × Eg)} {e1:Int} {c1:List Gi} {y_a:Nat→(Ty.slice 107 Ad).Lay} {b_o:Nat} {A_b:Option Addr} {c_b d1:Nat} {r1:List (List Ab)} (HS:St w0 w (Box b_o 104 [sV A_b f1 c_b,.map (some d1),I e1,sV A_c c1 c_c]::Ir d1 Gh Ey g1::L)) (r_a:Ce w0 L (Ty.slice 107 Ad) A_a c_a y_a a1) (r_b:Ce w0 L (Ar .i64) A_b c_b uu f1) (r_c:Ce w0 L Ip A_c c_c uu c1) (H:Ae.f K a1 f1 g1 e1 c1=some r1) :
    Calls prog 51 #[.agg [sV A_a a1 c_a].toArray,pT b_o] w (Ae.post w0 L f1 g1 e1 c1 b_o A_b c_b d1 A_c c_c r1):=by
  unfold Ae.f at H
  refine cG func51 Z ?_
  refine sQ (rG (bA HS Z fun b1 wd2 HS=>GO.box (cs:=[pT b_o]) HS Z Z Z Z fun b3 wd4 HS=>GO.alloc HS Z Lm Z Z fun b5 wd6 HS=>nL (sQ (rG (GO.alloc HS Z Lm Z Z fun b7 wd8 HS=>nL (sQ ?_))))))
  obtain ⟨c9,H⟩:=iN H
  obtain ⟨c10,H⟩:=iN H
  refine rG (fL b1 0 Du Z (lB 3 HS Z Gu Z (lS Z Z U29 Z (GO.make (T:=(Ar .i64)) 0 () HS Ba Z Z Z U56 Ml Z Z Z c9 c10 Z fun b11 wd12 HS=>GO.alloc HS Z Zf Z Z fun b13 wd14 HS=>GO.Ie (j:=0) (vs:=[sV (sb b11) (List.replicate (a1.length:Int).toNat (0:Int)) ((a1.length:Int).toNat)]) ([sV (sb b11) (List.replicate (a1.length:Int).toNat (0:Int)) ((a1.length:Int).toNat)]) HS Z Z Z Z Z (htN Ih Z) Z Z Z fun wd15 HS=>nL (rN 2 Z (rG (fL b1 0 Du Z (lB 5 HS Z Gu Z (lS Z Z U29 Z (mV Z (nL ?_)))))))))))
  refine rN 2 Z ?_
  refine G.name (fun s2 i3=>?_)
  have k3:∀ e2,e2≤K→∀ (A2731:Option Addr) (c2732:Nat) (k1:List (List Ab)) (y2734:Nat→(Ty.slice 107 Ad).Lay) (h1:List Int) (x2736:Int) (w:World),Ae.l1 K e2 a1 f1 g1 e1 c1 k1 h1 x2736=some r1→St w0 w (Box b_o 104 [sV A_b f1 c_b,.map (some d1),I e1,sV A_c c1 c_c]::Ir d1 Gh Ey g1::Box b1 31 [sV A_a a1 c_a]::Box b3 70 [pT b_o]::Box b5 31 [.slice none 0 0]::Box b7 31 [sV A2731 k1 c2732]::Own (Ty.slice 107 Ad) 77 A2731 c2732 y2734 k1::Box b13 56 [sV (sb b11) h1 ((a1.length:Int).toNat)]::Own (Ar .i64) 2 (sb b11) ((a1.length:Int).toNat) uu h1::L)→G prog 51 172 [(2,pT b1),(3,pT b3),(4,pT b5),(5,pT b7),(6,pT b13),(26,sV A_a a1 c_a),(27,I (a1.length:Int)),(28,I x2736)] s2 w (Ae.post w0 L f1 g1 e1 c1 b_o A_b c_b d1 A_c c_c r1):=by
   refine lp (fun _ _ _ _ _ _ w H _=>by rw [Ae.l1] at H; cases H) fun y1 o3 m2 A2731 c2732 k1 y2734 h1 x2736 w H HS=>?_
   rw [Ae.l1] at H
   subst i3
   refine rN 3 Z ?_
   rcases iE H with ⟨c5603,H⟩ | ⟨c5603,H⟩
   ·
    refine yB Z (tT c5603) (rN 4 Z ?_)
    obtain ⟨c5604,H⟩:=iN H
    refine rG (mV Z (iX Z U29 Jg (rk (rD 9 r_a) HS) c5604 (GO.Cj (T:=(Ty.slice 107 Ad)) (n:=x2736.toNat) (o:=0) HS (rD 9 r_a) Z Z (getD_some (d:=[]) (ltN c5604)) Z Z Jh Z (pS 2 Z (nL (sQ ?_))))))
    obtain ⟨t5605,h5606,H⟩:=bI H
    refine rG (lB 3 HS Z Y8 Z (GO.Ou Z Z Z (fL b_o 0 O9 Z (lB 0 HS Z Ih Z (mV Z (fJ bY Z (Dk.calls HS (rD 9 r_b) h5606) (fun _ wd5607 ⟨h5608,HS⟩=>⟨_,h5608,(GO.not Z Z Z (nL ?_))⟩)))))))
    rcases iE H with ⟨c5609,H⟩ | ⟨c5609,H⟩
    ·
     refine nB Z (congrArg Bool.not c5609) (rN 4 Z (gW (m2 y1 (lR _) _ _ _ _ _ _ _ H HS) Z))
    refine yB Z (congrArg Bool.not (Db c5609)) (sQ ?_)
    obtain ⟨t5610,h5611,H⟩:=bI H
    obtain ⟨c5614,H⟩:=iN H
    have h5615:=(rk (ro 8 Z) HS)
    refine G.H8 mixed (fun w=>St w0 w (Box b7 31 [sV A2731 k1 c2732]::Box b13 56 [sV (sb b11) h1 ((a1.length:Int).toNat)]::L)) [0,3] [1,2,0,3,4,5,6] [] (by kernel_rfl) (by kernel_rfl) (HS.drew.pk 9 [5,7] Z) ?_
    replace HS:=HS.drew
    refine GX.ps 1 Z (qL Z Z (fun _ _ g=>fL b7 0 Du Z g) Z (GX.ls Z Z Z (HS.pk 9 [5,7] Z) (fun _ HS _ g=>lB 1 HS Z Ih Z g) Z (GX.ls Z Z Z (HS.pk 9 [5,7] Z) (fun _ HS _ g=>lB 0 HS Z Gu Z g) Z (GX.l2 Z (fJ O0 Z (Bw.calls HS (ro 6 Z) h5611) (fun _ wd5612 ⟨h5613,HS⟩=>⟨_,h5613,(GX.fin (HS.pk 9 [5,7] Z) (qL Z Z (fun _ _ g=>iX Z U56 sz2 h5615 c5614 g) Z (GX.l2 Z (GO.Ii (T:=(Ar .i64)) (j:=8) (n:=x2736.toNat) (o:=0) (vs:=[I t5610]) t5610 HS Z Ba Z Z Z Z (htN na2 Z) Z (getD_some (d:=0) (ltN c5614)) Z Z fun wd5616 HS=>GX.fin (HS.pk 9 [5,7] Z) (GX.nil ?_)))))⟩))))))
    replace HS:=HS.K3 (j:=7) (cs':=[sV (sb b11) (h1.set x2736.toNat t5610) ((a1.length:Int).toNat)]) Z (by simp only [sV,List.length_set] <;> rfl)
    obtain ⟨t5617,h5618,H⟩:=bI H
    obtain ⟨c5628,H⟩:=iN H
    refine G.H8 mixed (fun w=>St w0 w (Box b7 31 [sV A2731 k1 c2732]::L)) [1] [0,2,1,3,4,5,6,7] [7] (by kernel_rfl) (by kernel_rfl) (HS.drew.pk 9 [5] Z) ?_
    replace HS:=HS.drew
    refine qL Z Z (fun _ _ g=>fL b7 0 Du Z g) Z (GX.ps 1 Z (GX.ls Z Z Z (HS.pk 9 [5] Z) (fun _ HS _ g=>lB 0 HS Z Gu Z g) Z (GX.l2 Z (fJ nV Z (Dh.calls HS (Ce.elem (rD 9 r_a) c5604.1 c5604.2) h5618) (fun _ wd5621 ⟨A5619,c5620,h5622,HS⟩=>⟨_,h5622,(GX.fin (HS.pk 10 [6] Z) (GX.l2 Z (GO.Cw (el:=77) ([sV A5619 t5617 c5620]) HS Z Z (fun _=>by kernel_rfl) Z fun b5623 wd5624 HS=>GX.fin (HS.pk 11 [7] Z) (GX.l2 Z ?_))))⟩)))))
    replace HS:=HS.pk 11 [8,0,1,2,3,4,5,6,7,9,10] Z
    refine GO.Ul (S:=Ad) (u:=107) HS Z Z Z U29 Qb Z Z c5628 Z fun A5626 c5627 y5629 wd5625 HS=>GX.fin (HS.pk 10 [7] Z) (qL Z Z (fun _ _ g=>fL b7 0 Du Z g) Z (GX.l2 Z (GO.Ie (j:=7) (vs:=[sV A5626 (k1++[t5617]) c5627]) ([sV A5626 (k1++[t5617]) c5627]) HS Z Z Z Z Z (htN Gu Z) Z Z Z fun wd5630 HS=>GX.Qt Z (GX.nil (rN 3 Z (gW (m2 y1 (lR _) _ _ _ _ _ _ _ H (HS.pk 10 [2,3,4,5,6,7,0,8,9] Z)) Z))))))
   refine nB Z (tF c5603) (rN 2 Z ?_)
   obtain ⟨t5631,h5632,H⟩:=bI H
   refine rG (fL b7 0 Du Z (lB 5 HS Z Gu Z (fJ O0 Z (Bw.calls HS (ro 6 Z) h5632) (fun _ wd5633 ⟨h5634,HS⟩=>⟨_,h5634,(GO.alloc HS Z zr2 Z Z fun b5635 wd5636 HS=>GO.Ie (j:=0) (vs:=[I t5631]) ([I t5631]) HS Z Z Z Z Z (htN na2 Z) Z Z Z fun wd5637 HS=>nL (rN 2 Z (rG (lB 4 HS Z Y8 Z (GO.Ou Z Z Z (fL b_o 2 bU Z (lB 1 HS Z na2 Z (mV Z (nL ?_)))))))))⟩))))
   refine rN 2 Z ?_
   refine G.name (fun v2 z2=>?_)
   have f3:∀ h2,h2≤y1→∀ (A6580:Option Addr) (c6581:Nat) (v1:List (List Ab)) (y6583:Nat→(Ty.slice 107 Ad).Lay) (x6584:Int) (w:World),Ae.Vz K h2 a1 f1 g1 e1 c1 h1 t5631 v1 x6584=some r1→St w0 w (Box b_o 104 [sV A_b f1 c_b,.map (some d1),I e1,sV A_c c1 c_c]::Ir d1 Gh Ey g1::Box b1 31 [sV A_a a1 c_a]::Box b3 70 [pT b_o]::Box b5 31 [.slice none 0 0]::Box b7 31 [sV A6580 v1 c6581]::Own (Ty.slice 107 Ad) 77 A6580 c6581 y6583 v1::Box b13 56 [sV (sb b11) h1 ((a1.length:Int).toNat)]::Own (Ar .i64) 2 (sb b11) ((a1.length:Int).toNat) uu h1::Box b5635 2 [I t5631]::L)→G prog 51 172 [(2,pT b1),(3,pT b3),(4,pT b5),(5,pT b7),(6,pT b13),(9,pT b5635),(60,I e1),(61,I x6584)] v2 w (Ae.post w0 L f1 g1 e1 c1 b_o A_b c_b d1 A_c c_c r1):=by
    refine lp (fun _ _ _ _ _ w H _=>by rw [Ae.Vz] at H; cases H) fun a2 n3 g3 A6580 c6581 v1 y6583 x6584 w H HS=>?_
    rw [Ae.Vz] at H
    subst z2
    refine rN 3 Z ?_
    rcases iE H with ⟨c7527,H⟩ | ⟨c7527,H⟩
    ·
     refine yB Z (tT c7527) (rN 3 Z ?_)
     obtain ⟨t7528,h7529,H⟩:=bI H
     refine rG (lW 5 HS Z Dq (fJ xR Z (G8.calls HS (ro 6 Z) h7529) (fun _ wd7533 ⟨A7530,c7531,y7532,h7534,HS⟩=>⟨_,h7534,(sW 6 HS Z Dq Z fun wd7535 HS=>nL (rN 3 Z (gW (g3 a2 (lR _) _ _ _ _ _ _ H (HS.pk 11 [1,2,3,4,5,6,0,8,9,10] Z)) Z)))⟩)))
    refine nB Z (tF c7527) (rN 2 Z (rG (GO.Q6 Z Z Z Z (aS Z (nL (rN 2 Z ?_))))))
    obtain ⟨t7536,h7537,H⟩:=bI H
    refine rG (fL b1 0 Du Z (lB 2 HS Z Gu Z (fJ O0 Z (Bw.calls HS (rD 10 r_a) h7537) (fun _ wd7538 ⟨h7539,HS⟩=>⟨_,h7539,(mV Z (nL (rN 2 Z ?_)))⟩))))
    refine G.name (fun m3 c3=>?_)
    have r2:∀ c2,c2≤a2→∀ (x1:List (List Ab)) (x7850:Int) (w:World),Ae.Uo K c2 a1 f1 g1 e1 c1 h1 t5631 t7536 x1 x7850=some r1→St w0 w (Box b_o 104 [sV A_b f1 c_b,.map (some d1),I e1,sV A_c c1 c_c]::Ir d1 Gh Ey g1::Box b1 31 [sV A_a a1 c_a]::Box b3 70 [pT b_o]::Box b5 31 [.slice none 0 0]::Box b7 31 [sV A6580 x1 c6581]::Own (Ty.slice 107 Ad) 77 A6580 c6581 y6583 x1::Box b5635 2 [I t5631]::Box b13 56 [sV (sb b11) h1 ((a1.length:Int).toNat)]::Own (Ar .i64) 2 (sb b11) ((a1.length:Int).toNat) uu h1::L)→G prog 51 172 [(2,pT b1),(3,pT b3),(4,pT b5),(5,pT b7),(9,pT b5635),(10,.func (.func 90) #[] #[pT b3,pT b5635,pT b13]),(69,I t7536),(70,I x7850)] m3 w (Ae.post w0 L f1 g1 e1 c1 b_o A_b c_b d1 A_c c_c r1):=by
     refine lp (fun _ _ w H _=>by rw [Ae.Uo] at H; cases H) fun z1 q3 u2 x1 x7850 w H HS=>?_
     rw [Ae.Uo] at H
     subst c3
     refine rN 3 Z ?_
     rcases iS H with ⟨c8160,H⟩ | ⟨c8160,H⟩
     ·
      refine nB Z (tF c8160) (rN 3 Z (rG (lB 3 HS Z Y8 Z (GO.Ou Z Z Z (fL b_o 3 O7 Z (lB 0 HS Z Vk Z (lS Z Z mD Z (mV Z (nL (rN 2 Z ?_))))))))))
      refine G.name (fun j3 d3=>?_)
      have a3:∀ n2,n2≤z1→∀ (q1:List (List Ab)) (x8442:Int) (w:World),Ae.Xg K n2 c1 t5631 q1 x8442=some r1→St w0 w (Box b_o 104 [sV A_b f1 c_b,.map (some d1),I e1,sV A_c c1 c_c]::Ir d1 Gh Ey g1::Box b5 31 [.slice none 0 0]::Box b7 31 [sV A6580 q1 c6581]::Own (Ty.slice 107 Ad) 77 A6580 c6581 y6583 q1::Box b5635 2 [I t5631]::L)→G prog 51 172 [(4,pT b5),(5,pT b7),(9,pT b5635),(150,sV A_c c1 c_c),(151,I (c1.length:Int)),(152,I x8442)] j3 w (Ae.post w0 L f1 g1 e1 c1 b_o A_b c_b d1 A_c c_c r1):=by
       refine lp (fun _ _ w H _=>by rw [Ae.Xg] at H; cases H) fun q2 p3 o2 q1 x8442 w H HS=>?_
       rw [Ae.Xg] at H
       subst d3
       refine rN 3 Z ?_
       rcases iS H with ⟨c8456,H⟩ | ⟨c8456,H⟩
       ·
        refine nB Z (tF c8456) (rN 2 Z (rG (lW 3 HS Z Dq (sW 2 HS Z Dq Z fun wd8468 HS=>nL ?_))))
        obtain rfl:=sI H
        exact rT _ func51 Z (Gz.Hu (j:=2) (vs:=[sV A6580 q1 c6581]) HS Z Z Z Dq) ⟨_,_,_,Z,(HS.pk 6 [4,0,1] Z)⟩
       refine yB Z (tT c8456) (rN 4 Z ?_)
       obtain ⟨c8457,H⟩:=iN H
       obtain ⟨e8458,h8459,H⟩:=Di H
       refine rG (iX Z mD uK (rk (rD 6 r_c) HS) c8457 (GO.Hw (T:=Ip) (n:=x8442.toNat) HS (rD 6 r_c) Z Z (Cn (ltN c8457) h8459) Ki Z (GO.alloc HS Z Ld Z Z fun b8460 wd8461 HS=>sW 0 HS Z Ki Z fun wd8462 HS=>nL ?_)))
       obtain ⟨t8463,h8464,H⟩:=bI H
       obtain ⟨c8465,H⟩:=iN H
       refine rG (lW 4 HS Z Dq (lB 6 HS Z na2 Z (GO.ixP 0 Z Z Z Z Hf sz2 Z Z (lB 0 HS Z na2 Z (GO.add Z Z Z Z (GO.ixP 1 Z Z Z Z Hf sz2 Z Z (lB 0 HS Z na2 Z (lB 6 HS Z na2 Z (GO.ixP 2 Z Z Z Z Hf sz2 Z Z (lB 0 HS Z na2 Z (GO.add Z Z Z Z (GO.ixP 3 Z Z Z Z Hf sz2 Z Z (lB 0 HS Z na2 Z ?_)))))))))))))
       replace HS:=HS.pk 7 [5,0,1,2,3,4,6] Z
       refine fJ wV Z (Gl.calls HS  h8464) (fun _ wd8466 ⟨h8467,HS⟩=>⟨_,h8467,(nL ?_)⟩)
       replace HS:=HS.K3 (j:=5) (cs':=[sV A6580 t8463 c6581]) Z (by simp only [sV,List.length_set,c8465] <;> rfl)
       refine rN 3 Z (gW (o2 q2 (lR _) _ _ _ H (HS.pk 7 [2,3,4,5,0,6] Z)) Z)
      exact gW (a3 z1 (lR _) _ _ _ H (HS.pk 10 [0,1,4,5,6,7] Z)) Z
     refine yB Z (tT c8160) (rN 9 Z ?_)
     refine G.name (fun y2 p2=>?_)
     have x2:∀ d2,d2≤z1→∀ (i1:List (List Ab)) (x8249:Int) (w:World),Ae.Tx K d2 a1 f1 g1 e1 c1 h1 t5631 t7536 x7850 i1 x8249=some r1→St w0 w (Box b_o 104 [sV A_b f1 c_b,.map (some d1),I e1,sV A_c c1 c_c]::Ir d1 Gh Ey g1::Box b1 31 [sV A_a a1 c_a]::Box b3 70 [pT b_o]::Box b5 31 [.slice none 0 0]::Box b7 31 [sV A6580 i1 c6581]::Own (Ty.slice 107 Ad) 77 A6580 c6581 y6583 i1::Box b5635 2 [I t5631]::Box b13 56 [sV (sb b11) h1 ((a1.length:Int).toNat)]::Own (Ar .i64) 2 (sb b11) ((a1.length:Int).toNat) uu h1::L)→G prog 51 172 [(2,pT b1),(3,pT b3),(4,pT b5),(5,pT b7),(9,pT b5635),(10,.func (.func 90) #[] #[pT b3,pT b5635,pT b13]),(11,I x7850),(69,I t7536),(70,I x7850),(73,I x8249)] y2 w (Ae.post w0 L f1 g1 e1 c1 b_o A_b c_b d1 A_c c_c r1):=by
      refine lp (fun _ _ w H _=>by rw [Ae.Tx] at H; cases H) fun t1 t2 i2 i1 x8249 w H HS=>?_
      rw [Ae.Tx] at H
      subst p2
      refine rN 3 Z ?_
      rcases iS H with ⟨c8339,H⟩ | ⟨c8339,H⟩
      ·
       refine nB Z (tF c8339) (rN 4 Z (gW (u2 t1 (Nat.le_of_succ_le t2) _ _ _ H HS) Z))
      refine yB Z (tT c8339) (rN 6 Z ?_)
      obtain ⟨c8340,H⟩:=iN H
      obtain ⟨c8341,H⟩:=iN H
      obtain ⟨e8342,h8343,H⟩:=Di H
      refine rG (fL b1 0 Du Z (lB 2 HS Z Gu Z (mV Z (iX Z U29 Jg (rk (rD 10 r_a) HS) c8340 (GO.Cj (T:=(Ty.slice 107 Ad)) (n:=x7850.toNat) (o:=0) HS (rD 10 r_a) Z Z (getD_some (d:=[]) (ltN c8340)) Z Z Jh Z (mV Z (GO.ix Z Z Z U77 G9 ((Ce.elem (rD 10 r_a) c8340.1 c8340.2) _ HS).2.2.1 c8341.1 c8341.2 Z (GO.Hw (T:=Ad) (n:=x8249.toNat) HS (Ce.elem (rD 10 r_a) c8340.1 c8340.2) Z Z (Cn (ltN c8341) h8343) D9 Z (GO.alloc HS Z Jz Z Z fun b8344 wd8345 HS=>sW 0 HS Z D9 Z fun wd8346 HS=>nL (sQ ?_))))))))))
      obtain ⟨e8347,h8348,H⟩:=Di H
      refine rG (lB 4 HS Z Y8 Z (GO.Ou Z Z Z (fL b_o 1 Wy Z (lB 1 HS Z gJ Z (pS 2 Z (GO.Dr (.agg [I x7850,I x8249].toArray) Z Z (fun _=>by kernel_rfl) Z (GO.aR Qd (⟨x7850,x8249⟩:Gq) Tm HS (j:=2) Z Z Z Z sM Rk Z (congrArg Ey h8348) (pS 3 Z (GO.alloc HS Z Rk Z Z fun b8349 wd8350 HS=>sW 0 HS Z Oe Z fun wd8351 HS=>aS Z (nL (rN 2 Z ?_)))))))))))
      refine G.Ov (fun h3 e3=>?_)
      have b2:∀ f2,f2≤t1→∀ (x8372:Bool) (w:World),Ae.Un K f2 a1 f1 g1 e1 c1 h1 t5631 t7536 x7850 i1 x8249 e8342 x8372=some r1→St w0 w (Box b_o 104 [sV A_b f1 c_b,.map (some d1),I e1,sV A_c c1 c_c]::Ir d1 Gh Ey g1::Box b1 31 [sV A_a a1 c_a]::Box b3 70 [pT b_o]::Box b5 31 [.slice none 0 0]::Box b7 31 [sV A6580 i1 c6581]::Own (Ty.slice 107 Ad) 77 A6580 c6581 y6583 i1::Box b5635 2 [I t5631]::Box b13 56 [sV (sb b11) h1 ((a1.length:Int).toNat)]::Own (Ar .i64) 2 (sb b11) ((a1.length:Int).toNat) uu h1::Box b8344 107 [I e8342.Tet,I e8342.Perm]::L)→G prog 51 172 [(2,pT b1),(3,pT b3),(4,pT b5),(5,pT b7),(9,pT b5635),(10,.func (.func 90) #[] #[pT b3,pT b5635,pT b13]),(11,I x7850),(12,I x8249),(13,pT b8344),(69,I t7536),(70,I x7850),(73,I x8249),(108,.bool x8372)] h3 w (Ae.post w0 L f1 g1 e1 c1 b_o A_b c_b d1 A_c c_c r1):=by
       refine jp (fun _ w H _=>by rw [Ae.Un] at H; cases H) fun k2 g2 x8372 w H HS=>?_
       rw [Ae.Un] at H
       subst e3
       rcases iE H with ⟨c8373,H⟩ | ⟨c8373,H⟩
       ·
        refine yB Z c8373 (rN 3 Z (gW (i2 k2 (Nat.le_of_succ_le g2) _ _ _ H (HS.pk 11 [0,1,2,3,4,5,6,7,8,9] Z)) Z))
       refine nB Z (Db c8373) (rN 2 Z ?_)
       obtain ⟨t8374,t8375,h8376,H⟩:=Ea H
       obtain ⟨t8379,h8380,H⟩:=bI H
       obtain ⟨t8383,t8384,h8385,H⟩:=Ea H
       refine G.K7 mixed (by decide) (fun b a w=>∃ (b8388:Nat) (b8390:Nat) (s1:Cy) (u1:Cy),RS 172 [(2,pT b1),(3,pT b3),(4,pT b5),(5,pT b7),(9,pT b5635),(10,.func (.func 90) #[] #[pT b3,pT b5635,pT b13]),(11,I x7850),(12,I x8249),(13,pT b8344),(69,I t7536),(70,I x7850),(73,I x8249)] [rv 109 (.func (.func 90) #[] #[pT b3,pT b5635,pT b13]),rv 110 (I x7850),rv 111 (I x8249),rv 112 (.agg [I t8374,I t8375].toArray),rv 113 (.func (.func 90) #[] #[pT b3,pT b5635,pT b13]),rv 114 (pT b8344),rv 115 (I e8342.Tet),rv 116 (.agg [I e8342.Tet,I e8342.Perm].toArray),rv 117 (I x8249),rv 118 (I t8379),rv 119 (.agg [I t8383,I t8384].toArray),rv 16 (pT b8388),rv 17 (pT b8390),none,none] b a∧St w0 w (Box b_o 104 [sV A_b f1 c_b,.map (some d1),I e1,sV A_c c1 c_c]::Ir d1 Gh Ey g1::Box b1 31 [sV A_a a1 c_a]::Box b3 70 [pT b_o]::Box b5 31 [.slice none 0 0]::Box b7 31 [sV A6580 i1 c6581]::Own (Ty.slice 107 Ad) 77 A6580 c6581 y6583 i1::Box b5635 2 [I t5631]::Box b13 56 [sV (sb b11) h1 ((a1.length:Int).toNat)]::Own (Ar .i64) 2 (sb b11) ((a1.length:Int).toNat) uu h1::Box b8344 107 [I e8342.Tet,I e8342.Perm]::s1::u1::L)∧(b 11=true→b 13=false→s1=Box b8388 127 [I 0,I 0])∧(b 13=true→s1=Box b8388 127 [I t8374,I t8375])∧(b 12=true→b 14=false→u1=Box b8390 127 [I 0,I 0])∧(b 14=true→u1=Box b8390 127 [I t8383,I t8384])) ?_ ?_ ?_
       · exact fun a hs=>⟨0,0,Emp,Emp,hs.init Z,(HS.drew.emp.emp.pk 13 [2,3,4,5,6,7,8,9,10,11,12,1,0] Z),fun h=>Bool.noConfusion h,fun h=>Bool.noConfusion h,fun h=>Bool.noConfusion h,fun h=>Bool.noConfusion h⟩
       ·
        intro j b a w hj
        refine exI fun b8388=>exI fun b8390=>exI fun s1=>exI fun u1=>anI fun hs=>fun hM q=>?_
        have HS:=hM.1
        match j,hj with
        | 0,_ =>
         refine hs.at q [] [] (mV Z (hs.fin q Z fun _ hs=>⟨_,_,_,_,hs,hM⟩))
        | 1,_ =>
         refine hs.at q [] [] (mV Z (hs.fin q Z fun _ hs=>⟨_,_,_,_,hs,hM⟩))
        | 2,_ =>
         refine hs.at q [] [] (mV Z (hs.fin q Z fun _ hs=>⟨_,_,_,_,hs,hM⟩))
        | 3,_ =>
         refine hs.at q [0,1,2] [] ?_
         replace HS:=HS.pk 13 [3,0,1,7,8,2,4,5,6,9,10,11,12] Z
         refine GO.clo Z Z func90 aN.2.1 aN.2.2 Z Z (C9.calls HS (rD 8 r_b) (rD 8 r_c) (ro 4 Z) h8376) (fun _ wd8377 ⟨h8378,HS⟩=>⟨_,h8378,(hs.fin q Z fun _ hs=>⟨_,_,_,_,hs,HS.pk 13 [1,2,5,0,6,7,8,3,4,9,10,11,12] Z,hM.2⟩)⟩)
        | 4,_ =>
         refine hs.at q [] [] (mV Z (hs.fin q Z fun _ hs=>⟨_,_,_,_,hs,hM⟩))
        | 5,_ =>
         refine hs.at q [] [] (fL b8344 0 Dp Z (hs.fin q Z fun _ hs=>⟨_,_,_,_,hs,hM⟩))
        | 6,_ =>
         refine hs.at q [5] [] (lB 10 HS Z na2 Z (hs.fin q Z fun _ hs=>⟨_,_,_,_,hs,hM⟩))
        | 7,_ =>
         refine hs.at q [] [] (lW 10 HS Z D9 (hs.fin q Z fun _ hs=>⟨_,_,_,_,hs,hM⟩))
        | 8,_ =>
         refine hs.at q [] [] (mV Z (hs.fin q Z fun _ hs=>⟨_,_,_,_,hs,hM⟩))
        | 9,_ =>
         refine hs.at q [7,8] [] (fJ iZ Z (F5.calls HS  h8380) (fun _ wd8381 ⟨h8382,HS⟩=>⟨_,h8382,(hs.fin q Z fun _ hs=>⟨_,_,_,_,hs,HS,hM.2⟩)⟩))
        | 10,_ =>
         refine hs.at q [4,6,9] [] ?_
         replace HS:=HS.pk 13 [3,0,1,7,8,2,4,5,6,9,10,11,12] Z
         refine GO.clo Z Z func90 aN.2.1 aN.2.2 Z Z (C9.calls HS (rD 8 r_b) (rD 8 r_c) (ro 4 Z) h8385) (fun _ wd8386 ⟨h8387,HS⟩=>⟨_,h8387,(hs.fin q Z fun _ hs=>⟨_,_,_,_,hs,HS.pk 13 [1,2,5,0,6,7,8,3,4,9,10,11,12] Z,hM.2⟩)⟩)
        | 11,_ =>
         refine (anI fun HS=>anI fun n1=>anI fun m1=>anI fun p1=>fun o1=>?_) hM
         refine hs.at q [] [] (GO.alloc HS Z Rk Z Z fun b8388 wd8389 HS=>hs.Oj q [11] (fun _ hs=>⟨b8388,b8390,Box b8388 127 [I 0,I 0],_,hs,HS.pk 14 [1,2,3,4,5,6,7,8,9,10,11,0,13] Z,fun _ _=>Z,fun hh=>(q.no 13 hh).elim,p1,o1⟩) Z Z)
        | 12,_ =>
         refine (anI fun HS=>anI fun n1=>anI fun m1=>anI fun p1=>fun o1=>?_) hM
         refine hs.at q [] [] (GO.alloc HS Z Rk Z Z fun b8390 wd8391 HS=>hs.Oj q [12] (fun _ hs=>⟨b8388,b8390,_,Box b8390 127 [I 0,I 0],hs,HS.pk 14 [1,2,3,4,5,6,7,8,9,10,11,12,0] Z,n1,m1,fun _ _=>Z,fun hh=>(q.no 14 hh).elim⟩) Z Z)
        | 13,_ =>
         refine (anI fun HS=>anI fun n1=>anI fun m1=>anI fun p1=>fun o1=>?_) hM
         have hb11:=q.on 11
         obtain rfl:=n1 hb11 q.hb
         refine hs.at q [11,3] [] (sW 11 HS Z Oe Z fun wd8392 HS=>hs.We q Z fun _ hs=>⟨b8388,b8390,Box b8388 127 [I t8374,I t8375],_,hs,HS,fun _ h=>Bool.noConfusion h,fun _=>Z,p1,o1⟩)
        | 14,_ =>
         refine (anI fun HS=>anI fun n1=>anI fun m1=>anI fun p1=>fun o1=>?_) hM
         have hb12:=q.on 12
         obtain rfl:=p1 hb12 q.hb
         refine hs.at q [12,10] [] (sW 12 HS Z Oe Z fun wd8393 HS=>hs.We q Z fun _ hs=>⟨b8388,b8390,_,Box b8390 127 [I t8383,I t8384],hs,HS,n1,m1,fun _ h=>Bool.noConfusion h,fun _=>Z⟩)
        | k+15,hj=>exact absurd hj (Nat.not_lt.2 (Nat.le_add_left 15 k))
       ·
        intro b a w hall
        refine exI fun b8388=>exI fun b8390=>exI fun s1=>exI fun u1=>anI fun hs=>anI fun HS=>anI fun n1=>anI fun m1=>anI fun p1=>fun o1=>?_
        obtain rfl:=m1 (hall 13 (by decide))
        obtain rfl:=o1 (hall 14 (by decide))
        refine G.at (hs.all hall) (sQ ?_)
        obtain ⟨t8394,t8395,t8396,t8397,h8398,H⟩:=D8 H
        obtain ⟨c8401,H⟩:=iN H
        refine rG (fL b8388 1 Md Z (lB 11 HS Z na2 Z (fJ Lc Z (Ct.calls HS  h8398) (fun _ wd8399 ⟨h8400,HS⟩=>⟨_,h8400,(mV Z (GO.Vn ([t8394,t8395,t8396,t8397]:List Int) Z Z Z Hf U2 sz2 Z c8401.1 c8401.2 Z (aS Z (nL ?_))))⟩))))
        obtain ⟨c8402,H⟩:=iN H
        have h8403:=(rk (ro 6 Z) HS)
        obtain ⟨t8404,h8405,H⟩:=bI H
        obtain ⟨t8408,h8409,H⟩:=bI H
        obtain ⟨t8412,h8413,H⟩:=bI H
        obtain ⟨c8416,H⟩:=iN H
        refine G.H8 mixed (fun w=>St w0 w (Box b7 31 [sV A6580 i1 c6581]::Own (Ty.slice 107 Ad) 77 A6580 c6581 y6583 i1::Box b8344 107 [I e8342.Tet,I e8342.Perm]::Box b8388 127 [I t8374,I t8375]::Box b8390 127 [I t8383,I t8384]::L)) [1,3,5,8,10,13,16] [0,2,6,7,9,12,15,1,3,4,5,8,10,13,16,11,14,17,18,19,20] [20] (by kernel_rfl) (by kernel_rfl) (HS.drew.pk 13 [5,6,10,11,12] Z) ?_
        replace HS:=HS.drew
        refine qL Z Z (fun _ _ g=>fL b7 0 Du Z g) Z (qL Z Z (fun _ _ g=>fL b8388 0 Kj Z g) Z (GX.ps 1 Z (qL Z Z (fun _ _ g=>fL b8390 0 Kj Z g) Z (qL Z Z (fun _ _ g=>fL b8388 1 Md Z g) Z (qL Z Z (fun _ _ g=>fL b8344 1 Gn Z g) Z (qL Z Z (fun _ _ g=>fL b8390 1 Md Z g) Z (GX.ls Z Z Z (HS.pk 13 [5,6,10,11,12] Z) (fun _ HS _ g=>lB 0 HS Z Gu Z g) Z (GX.ls Z Z Z (HS.pk 13 [5,6,10,11,12] Z) (fun _ HS _ g=>lB 3 HS Z na2 Z g) Z (qL Z Z (fun _ _ g=>iX Z U29 Jg h8403 c8402 g) Z (GX.ls Z Z Z (HS.pk 13 [5,6,10,11,12] Z) (fun _ HS _ g=>GO.Cj (T:=(Ty.slice 107 Ad)) (n:=t8374.toNat) (o:=0) HS (ro 1 Z) Z Z (getD_some (d:=[]) (ltN c8402)) Z Z Jh Z g) Z (GX.ls Z Z Z (HS.pk 13 [5,6,10,11,12] Z) (fun _ HS _ g=>lB 4 HS Z na2 Z g) Z (GX.ls Z Z Z (HS.pk 13 [5,6,10,11,12] Z) (fun _ HS _ g=>lB 3 HS Z na2 Z g) Z (GX.ls Z Z Z (HS.pk 13 [5,6,10,11,12] Z) (fun _ HS _ g=>lB 2 HS Z na2 Z g) Z (GX.ls Z Z Z (HS.pk 13 [5,6,10,11,12] Z) (fun _ HS _ g=>lB 4 HS Z na2 Z g) Z ?_))))))))))))))
        refine GX.l2 Z (fJ Uy Z (Fa.calls HS  h8405) (fun _ wd8406 ⟨h8407,HS⟩=>⟨_,h8407,(GX.fin (HS.pk 13 [5,6,10,11,12] Z) (GX.l2 Z (fJ X3 Z (Ev.calls HS  h8409) (fun _ wd8410 ⟨h8411,HS⟩=>⟨_,h8411,(GX.fin (HS.pk 13 [5,6,10,11,12] Z) (GX.l2 Z (fJ X3 Z (Ev.calls HS  h8413) (fun _ wd8414 ⟨h8415,HS⟩=>⟨_,h8415,(GX.fin (HS.pk 13 [5,6,10,11,12] Z) (qL Z Z (fun _ _ g=>GO.Dr (.agg [I t8383,I t8412].toArray) Z Z (fun _=>by kernel_rfl) Z g) Z (qL Z Z (fun _ _ g=>GO.ix Z Z Z U77 G9 ((Ce.elem (ro 6 Z) c8402.1 c8402.2) _ HS).2.2.1 c8416.1 c8416.2 Z g) Z (GX.l2 Z ?_))))⟩))))⟩))))⟩))
        replace HS:=HS.pk 13 [6,0,1,2,3,4,5,7,8,9,10,11,12] Z
        refine GO.Tq (S:=Ad) (k:=t8374.toNat) (n:=(([t8394,t8395,t8396,t8397]:List Int).getD x8249.toNat 0).toNat) (o:=0) (vs:=[I t8383,I t8412]) (⟨t8383,t8412⟩:Ab) HS Ba Z Z Z Z (htA D9) Z (ltN c8402) (getD_some (d:=Bj) (ltN c8416)) Z Z fun wd8417 HS=>GX.Qt Z (GX.nil ?_)
        replace HS:=HS.K3 (j:=6) (cs':=[sV A6580 (i1.set t8374.toNat ((i1.getD t8374.toNat []).set ((([t8394,t8395,t8396,t8397]:List Int).getD x8249.toNat 0).toNat) (⟨t8383,t8412⟩:Ab))) c6581]) Z (by simp only [sV,List.length_set] <;> rfl)
        refine rN 3 Z (gW (i2 k2 (Nat.le_of_succ_le g2) _ _ _ H (HS.pk 13 [1,2,3,4,5,6,0,7,8,9] Z)) Z)
      obtain ⟨t8418,h8419,H⟩:=bI H
      rcases iE H with ⟨c8422,H⟩ | ⟨c8422,H⟩
      ·
       refine rG (lW 1 HS Z D9 (fJ Nr Z (Bi.calls HS  h8419) (fun _ wd8420 ⟨h8421,HS⟩=>⟨_,h8421,(mV Z (kN 97 Z c8422 (oF Z (oF Z (oF Z (oF Z (oF Z (oF Z (oF Z (GO.Xq Z Z Z Z Z Z (GO.Xq Z Z Z Z Z Z (oF Z ?_))))))))))))⟩)))
       refine GO.Iz Z Z Z Z Z (nL (gW (b2 t1 (lR _) _ _ H (HS.pk 12 [2,3,4,5,6,7,8,9,10,11,1] Z)) Z))
      obtain ⟨t8423,h8424,H⟩:=bI H
      rcases iS H with ⟨c8427,H⟩ | ⟨c8427,H⟩
      ·
       refine rG (lW 1 HS Z D9 (fJ Nr Z (Bi.calls HS  h8419) (fun _ wd8420 ⟨h8421,HS⟩=>⟨_,h8421,(mV Z (kN 97 Z (Db c8422) (oN Z (lB 5 HS Z Y8 Z (bK (oN Z (GO.Ou Z Z Z (bK (oN Z (fL b_o 0 O9 Z (bK (oN Z ?_))))))))))))⟩)))
       refine lB 2 HS Z Ih Z (bK (oN Z (mV Z (bK (oN Z (fJ bY Z (Dk.calls HS (rD 12 r_b) h8424) (fun _ wd8425 ⟨h8426,HS⟩=>⟨_,h8426,(bK (oN Z (mV Z (bK (kN 104 Z (Db c8427) (oF Z (oF Z (oN Z ?_))))))))⟩)))))))
       refine GO.Jm Z Z Z Z Z (bK (GO.Jm Z Z Z Z Z (nL (gW (b2 t1 (lR _) _ _ H (HS.pk 12 [2,3,4,5,6,7,8,9,10,11,1] Z)) Z))))
      refine rG (lW 1 HS Z D9 (fJ Nr Z (Bi.calls HS  h8419) (fun _ wd8420 ⟨h8421,HS⟩=>⟨_,h8421,(mV Z (kN 97 Z (Db c8422) (oN Z (lB 5 HS Z Y8 Z (bK (oN Z (GO.Ou Z Z Z (bK (oN Z (fL b_o 0 O9 Z (bK (oN Z ?_))))))))))))⟩)))
      refine lB 2 HS Z Ih Z (bK (oN Z (mV Z (bK (oN Z (fJ bY Z (Dk.calls HS (rD 12 r_b) h8424) (fun _ wd8425 ⟨h8426,HS⟩=>⟨_,h8426,(bK (oN Z (mV Z (bK (kN 104 Z c8427 (oN Z (mV Z (bK ?_))))))))⟩)))))))
      refine oN Z (GO.not Z Z Z (bK (oN Z (GO.Iz Z Z Z Z Z (bK (GO.Jm Z Z Z Z Z (nL (gW (b2 t1 (lR _) _ _ H (HS.pk 12 [2,3,4,5,6,7,8,9,10,11,1] Z)) Z))))))))
     exact gW (x2 z1 (lR _) _ _ _ H HS) Z
    exact gW (r2 a2 (lR _) _ _ _ H (HS.pk 10 [0,1,2,3,4,5,6,9,7,8] Z)) Z
   exact gW (f3 y1 (lR _) _ _ _ _ _ _ H (HS.pk 10 [1,2,3,4,5,6,7,8,9,0] Z)) Z
  replace HS:=HS.Dm (Ty.slice 107 Ad) 77 (fun _=>⟨none,0,uu⟩)
  exact gW (k3 K (lR _) _ _ _ _ _ _ _ H (HS.pk 9 [7,8,6,5,4,3,0,1,2] Z)) Z
theorem I4.calls {a1:List (List Ab)} {d1 c1 e1:Int} {y_a:Nat→(Ty.slice 107 Ad).Lay} {r1:List (List Ab)} {r2:Int} (HS:St w0 w (L)) (r_a:Ce w0 L (Ty.slice 107 Ad) A_a c_a y_a a1) (H:I4.f K a1 d1 c1 e1=some (r1,r2)) :
    Calls prog 26 #[.agg [sV A_a a1 c_a].toArray,.agg [I d1,I c1,I e1].toArray] w (I4.post w0 L r1 r2):=by
  unfold I4.f at H
  refine cG func26 Z ?_
  refine sQ (rG (bA HS Z fun b1 wd2 HS=>bA HS Z fun b3 wd4 HS=>GO.alloc HS Z Lm Z Z fun b5 wd6 HS=>aS Z (nL (rN 2 Z ?_))))
  obtain ⟨t7,h8,H⟩:=bI H
  refine rG (lW 2 HS Z Dq (fJ pE Z (Bp.calls HS (rD 3 r_a) h8) (fun _ wd9 ⟨h10,HS⟩=>⟨_,h10,(GO.not Z Z Z (nL ?_))⟩)))
  rcases iS H with ⟨c11,H⟩ | ⟨c11,H⟩
  ·
   refine yB Z (congrArg Bool.not (Db c11)) (sQ (rG (GO.Dr (.agg [.slice none 0 0].toArray) Z Z (fun _=>by kernel_rfl) Z (sW 0 HS Z Dq Z fun wd35 HS=>aS Z (nL ?_)))))
   replace HS:=HS.Dm (Ty.slice 107 Ad) 77 (fun _=>⟨none,0,uu⟩)
   obtain ⟨rfl,rfl⟩:=H9 H
   exact G.Hy _ _ func26 Z (Gz.Hu (j:=1) (vs:=[.slice none 0 0]) HS Z Z Z Dq) Z ⟨_,_,_,Z,(HS.pk 4 [0] Z)⟩
  refine nB Z (congrArg Bool.not c11) (rN 2 Z ?_)
  obtain ⟨t12,t13,h14,H⟩:=Ea H
  refine rG (lW 2 HS Z Dq (lW 1 HS Z Lb (fJ nZ Z (D5.calls HS (rD 3 r_a) h14) (fun _ wd21 ⟨b15,A16,c17,b18,A19,c20,h22,HS⟩=>⟨_,h22,(pS 5 Z (nL (rN 3 Z ?_)))⟩))))
  rcases iS H with ⟨c23,H⟩ | ⟨c23,H⟩
  ·
   refine yB Z (nF c23) (sQ (rG (GO.Dr (.agg [.slice none 0 0].toArray) Z Z (fun _=>by kernel_rfl) Z (mV Z (sW 1 HS Z Dq Z fun wd34 HS=>aS Z (nL ?_))))))
   replace HS:=HS.Dm (Ty.slice 107 Ad) 77 (fun _=>⟨none,0,uu⟩)
   obtain ⟨rfl,rfl⟩:=H9 H
   exact G.Hy _ _ func26 Z (Gz.Hu (j:=2) (vs:=[.slice none 0 0]) HS Z Z Z Dq) Z ⟨_,_,_,Z,(HS.pk 5 [0] Z)⟩
  refine nB Z (nT c23) (rN 2 Z ?_)
  obtain ⟨x24,h25,H⟩:=dO H
  subst h25
  obtain ⟨t26,h27,H⟩:=bI H
  refine rG (lW 3 HS Z Dq (mV Z ?_))
  replace HS:=St.sS (M:=[Box b15 104 [.slice A16 x24.1.length c17,.map (some b18),I x24.2.2.1,.slice A19 x24.2.2.2.length c20],Own (Ar .i64) 2 A16 c17 uu x24.1,Ir b18 Gh Ey x24.2.1,Own Ip 131 A19 c20 uu x24.2.2.2]) HS Z
  replace HS:=HS.pk 7 [0,2,1,3,4,5,6] Z
  refine fJ wY Z (Ae.calls HS (rD 5 r_a) (ro 0 Z) (ro 1 Z) h27) (fun _ wd31 ⟨A28,c29,y30,h32,HS⟩=>⟨_,h32,(sW 5 HS Z Dq Z fun wd33 HS=>aS Z (nL ?_))⟩)
  obtain ⟨rfl,rfl⟩:=H9 H
  exact G.Hy _ _ func26 Z (Gz.Hu (j:=5) (vs:=[sV A28 t26 c29]) HS Z Z Z Dq) Z ⟨_,_,_,Z,(HS.pk 8 [0] Z)⟩
theorem Jy.calls {c1 e1:Int} {a1 d1:Int} {r1:Bool} (HS:St w0 w (L)) (H:Jy.f c1 e1 a1 d1=some r1) :
    Calls prog 115 #[.agg [I c1,I e1].toArray,.agg [I a1,I d1].toArray] w (Jy.post w0 L r1):=by
  unfold Jy.f at H
  refine cG func115 Z ?_
  refine sQ (rG (bA HS Z fun b1 wd2 HS=>bA HS Z fun b3 wd4 HS=>aS Z (nL (rN 2 Z (rG (fL b1 0 Dp Z (lB 1 HS Z na2 Z (fL b3 0 Dp Z (lB 0 HS Z na2 Z (GO.neq Z Z Z Z (nL ?_)))))))))))
  rcases iS H with ⟨c5,H⟩ | ⟨c5,H⟩
  ·
   refine yB Z (nF c5) (rN 2 Z ?_)
   obtain rfl:=sI H
   exact rT _ func115 Z Z ⟨Z,(HS.pk 2 [] Z)⟩
  refine nB Z (nT c5) (rN 3 Z (rG (fL b1 1 Gn Z (lB 1 HS Z na2 Z (fL b3 1 Gn Z (lB 0 HS Z na2 Z (GO.neq Z Z Z Z (nL ?_))))))))
  rcases iS H with ⟨c6,H⟩ | ⟨c6,H⟩
  ·
   refine yB Z (nF c6) (rN 2 Z ?_)
   obtain rfl:=sI H
   exact rT _ func115 Z Z ⟨Z,(HS.pk 2 [] Z)⟩
  refine nB Z (nT c6) (rN 3 Z ?_)
  obtain rfl:=sI H
  exact rT _ func115 Z Z ⟨Z,(HS.pk 2 [] Z)⟩
theorem Gb.calls {a_ b_:List Ab} {r1:Bool} (HS:St w0 w (L)) (r_a:Ce w0 L Ad A_a c_a uu a_) (r_b:Ce w0 L Ad A_b c_b uu b_) (H:Gb.f K a_ b_=some r1) :
    Calls prog 74 #[sV A_a a_ c_a,sV A_b b_ c_b] w (Gb.post w0 L r1):=by
  unfold Gb.f at H
  refine cG func74 Z ?_
  refine rN 4 Z (rG (mV Z (lS Z Z U77 Z (mV Z (lS Z Z U77 Z (GO.neq Z Z Z Z (nL ?_)))))))
  rcases iS H with ⟨c1,H⟩ | ⟨c1,H⟩
  ·
   refine yB Z (nF c1) (rN 2 Z ?_)
   obtain rfl:=sI H
   exact rT _ func74 Z Z ⟨Z,HS⟩
  refine nB Z (nT c1) (rN 6 Z ?_)
  refine G.name (fun g1 e1=>?_)
  have f1:∀ b1,b1≤K→∀ (a1:Int) (w:World),Gb.l1 K b1 a_ b_ a1=some r1→St w0 w (L)→G prog 74 27 [(0,sV A_a a_ c_a),(1,sV A_b b_ c_b),(5,I a1)] g1 w (Gb.post w0 L r1):=by
   refine lp (fun _ w H _=>by rw [Gb.l1] at H; cases H) fun d1 i1 h1 a1 w H HS=>?_
   rw [Gb.l1] at H
   subst e1
   refine rN 2 Z (rG (pS 2 Z (lS Z Z U77 Z (GO.lss Z Z Z Z (nL ?_)))))
   rcases iS H with ⟨c27,H⟩ | ⟨c27,H⟩
   ·
    refine nB Z (tF c27) (rN 3 Z ?_)
    obtain rfl:=sI H
    exact rT _ func74 Z Z ⟨Z,HS⟩
   refine yB Z (tT c27) (rN 4 Z ?_)
   obtain ⟨c28,H⟩:=iN H
   obtain ⟨e29,h30,H⟩:=Di H
   obtain ⟨c31,H⟩:=iN H
   obtain ⟨e32,h33,H⟩:=Di H
   obtain ⟨t34,h35,H⟩:=bI H
   refine G.lex mixed [0,1,2,4,5,6,3,7,8,9] (by kernel_rfl) ?_
   replace HS:=HS.drew
   refine GX.ps 2 Z (qL Z Z (fun _ _ g=>iX Z U77 G9 (rk r_a HS) c28 g) Z (GX.ps 2 Z (qL Z Z (fun _ _ g=>iX Z U77 G9 (rk r_b HS) c31 g) Z (GX.l1 Z Z Z (fun _ g=>GO.Hw (T:=Ad) (n:=a1.toNat) HS r_a Z Z (Cn (ltN c28) h30) D9 Z g) Z (GX.l1 Z Z Z (fun _ g=>GO.Hw (T:=Ad) (n:=a1.toNat) HS r_b Z Z (Cn (ltN c31) h33) D9 Z g) Z (GX.l2 Z (fJ tH Z (Jy.calls HS  h35) (fun _ wd36 ⟨h37,HS⟩=>⟨_,h37,(GX.fin tv (GX.ps 1 Z (GX.nil ?_)))⟩))))))))
   rcases iS H with ⟨c38,H⟩ | ⟨c38,H⟩
   ·
    refine yB Z (congrArg Bool.not (Db c38)) (rN 2 Z ?_)
    obtain rfl:=sI H
    exact rT _ func74 Z Z ⟨Z,HS⟩
   refine nB Z (congrArg Bool.not c38) (rN 4 Z (gW (h1 d1 (lR _) _ _ H HS) Z))
  exact gW (f1 K (lR _) _ _ H HS) Z
theorem Fw.calls {a_ b_:List (List Ab)} {y_a:Nat→(Ty.slice 107 Ad).Lay} {y_b:Nat→(Ty.slice 107 Ad).Lay} {r1:Bool} (HS:St w0 w (L)) (r_a:Ce w0 L (Ty.slice 107 Ad) A_a c_a y_a a_) (r_b:Ce w0 L (Ty.slice 107 Ad) A_b c_b y_b b_) (H:Fw.f K a_ b_=some r1) :
    Calls prog 44 #[sV A_a a_ c_a,sV A_b b_ c_b] w (Fw.post w0 L r1):=by
  unfold Fw.f at H
  refine cG func44 Z ?_
  refine rN 4 Z (rG (mV Z (lS Z Z U29 Z (mV Z (lS Z Z U29 Z (GO.neq Z Z Z Z (nL ?_)))))))
  rcases iS H with ⟨c1,H⟩ | ⟨c1,H⟩
  ·
   refine yB Z (nF c1) (rN 2 Z ?_)
   obtain rfl:=sI H
   exact rT _ func44 Z Z ⟨Z,HS⟩
  refine nB Z (nT c1) (rN 6 Z ?_)
  refine G.name (fun g1 e1=>?_)
  have f1:∀ b1,b1≤K→∀ (a1:Int) (w:World),Fw.l1 K b1 a_ b_ a1=some r1→St w0 w (L)→G prog 44 27 [(0,sV A_a a_ c_a),(1,sV A_b b_ c_b),(5,I a1)] g1 w (Fw.post w0 L r1):=by
   refine lp (fun _ w H _=>by rw [Fw.l1] at H; cases H) fun d1 i1 h1 a1 w H HS=>?_
   rw [Fw.l1] at H
   subst e1
   refine rN 2 Z (rG (pS 2 Z (lS Z Z U29 Z (GO.lss Z Z Z Z (nL ?_)))))
   rcases iS H with ⟨c19,H⟩ | ⟨c19,H⟩
   ·
    refine nB Z (tF c19) (rN 3 Z ?_)
    obtain rfl:=sI H
    exact rT _ func44 Z Z ⟨Z,HS⟩
   refine yB Z (tT c19) (rN 4 Z ?_)
   obtain ⟨c20,H⟩:=iN H
   obtain ⟨c21,H⟩:=iN H
   obtain ⟨t22,h23,H⟩:=bI H
   refine G.lex mixed [0,1,2,4,5,6,3,7,8,9] (by kernel_rfl) ?_
   replace HS:=HS.drew
   refine GX.ps 2 Z (qL Z Z (fun _ _ g=>iX Z U29 Jg (rk r_a HS) c20 g) Z (GX.ps 2 Z (qL Z Z (fun _ _ g=>iX Z U29 Jg (rk r_b HS) c21 g) Z (GX.l1 Z Z Z (fun _ g=>GO.Cj (T:=(Ty.slice 107 Ad)) (n:=a1.toNat) (o:=0) HS r_a Z Z (getD_some (d:=[]) (ltN c20)) Z Z Jh Z g) Z (GX.l1 Z Z Z (fun _ g=>GO.Cj (T:=(Ty.slice 107 Ad)) (n:=a1.toNat) (o:=0) HS r_b Z Z (getD_some (d:=[]) (ltN c21)) Z Z Jh Z g) Z (GX.l2 Z (fJ wN Z (Gb.calls HS (Ce.elem r_a c20.1 c20.2) (Ce.elem r_b c21.1 c21.2) h23) (fun _ wd24 ⟨h25,HS⟩=>⟨_,h25,(GX.fin tv (GX.ps 1 Z (GX.nil ?_)))⟩))))))))
   rcases iS H with ⟨c26,H⟩ | ⟨c26,H⟩
   ·
    refine yB Z (congrArg Bool.not (Db c26)) (rN 2 Z ?_)
    obtain rfl:=sI H
    exact rT _ func44 Z Z ⟨Z,HS⟩
   refine nB Z (congrArg Bool.not c26) (rN 4 Z (gW (h1 d1 (lR _) _ _ H HS) Z))
  exact gW (f1 K (lR _) _ _ H HS) Z
theorem Da.calls {c1 a1:List (List Ab)} {y_a:Nat→(Ty.slice 107 Ad).Lay} {y_b:Nat→(Ty.slice 107 Ad).Lay} {r1:Bool} (HS:St w0 w (L)) (r_a:Ce w0 L (Ty.slice 107 Ad) A_a c_a y_a c1) (r_b:Ce w0 L (Ty.slice 107 Ad) A_b c_b y_b a1) (H:Da.f K c1 a1=some r1) :
    Calls prog 15 #[.agg [sV A_a c1 c_a].toArray,.agg [sV A_b a1 c_b].toArray] w (Da.post w0 L r1):=by
  unfold Da.f at H
  refine cG func15 Z ?_
  refine sQ (rG (bA HS Z fun b1 wd2 HS=>bA HS Z fun b3 wd4 HS=>aS Z (nL (rN 2 Z ?_))))
  obtain ⟨t5,h6,H⟩:=bI H
  refine rG (fL b1 0 Du Z (lB 1 HS Z Gu Z (fL b3 0 Du Z (lB 0 HS Z Gu Z (fJ vC Z (Fw.calls HS (rD 2 r_a) (rD 2 r_b) h6) (fun _ wd7 ⟨h8,HS⟩=>⟨_,h8,(GO.not Z Z Z (nL ?_))⟩))))))
  rcases iS H with ⟨c9,H⟩ | ⟨c9,H⟩
  ·
   refine yB Z (congrArg Bool.not (Db c9)) (rN 2 Z ?_)
   obtain rfl:=sI H
   exact rT _ func15 Z Z ⟨Z,(HS.pk 2 [] Z)⟩
  refine nB Z (congrArg Bool.not c9) (rN 3 Z ?_)
  obtain rfl:=sI H
  exact rT _ func15 Z Z ⟨Z,(HS.pk 2 [] Z)⟩
theorem Jw.calls {d1 e1:Int} {c1 g1:Int} {a1 f1:Int} {r1:Bool} (HS:St w0 w (L)) (H:Jw.f d1 e1 c1 g1 a1 f1=some r1) :
    Calls prog 24 #[.agg [I d1,I e1,I c1].toArray,.agg [I g1,I a1,I f1].toArray] w (Jw.post w0 L r1):=by
  unfold Jw.f at H
  refine cG func24 Z ?_
  refine sQ (rG (bA HS Z fun b1 wd2 HS=>bA HS Z fun b3 wd4 HS=>aS Z (nL (rN 2 Z (rG (fL b1 0 Kn Z (lB 1 HS Z na2 Z (fL b3 0 Kn Z (lB 0 HS Z na2 Z (GO.neq Z Z Z Z (nL ?_)))))))))))
  rcases iS H with ⟨c5,H⟩ | ⟨c5,H⟩
  ·
   refine yB Z (nF c5) (rN 2 Z ?_)
   obtain rfl:=sI H
   exact rT _ func24 Z Z ⟨Z,(HS.pk 2 [] Z)⟩
  refine nB Z (nT c5) (rN 3 Z (rG (fL b1 1 Ja Z (lB 1 HS Z na2 Z (fL b3 1 Ja Z (lB 0 HS Z na2 Z (GO.neq Z Z Z Z (nL ?_))))))))
  rcases iS H with ⟨c6,H⟩ | ⟨c6,H⟩
  ·
   refine yB Z (nF c6) (rN 2 Z ?_)
   obtain rfl:=sI H
   exact rT _ func24 Z Z ⟨Z,(HS.pk 2 [] Z)⟩
  refine nB Z (nT c6) (rN 3 Z (rG (fL b1 2 Kc Z (lB 1 HS Z na2 Z (fL b3 2 Kc Z (lB 0 HS Z na2 Z (GO.neq Z Z Z Z (nL ?_))))))))
  rcases iS H with ⟨c7,H⟩ | ⟨c7,H⟩
  ·
   refine yB Z (nF c7) (rN 2 Z ?_)
   obtain rfl:=sI H
   exact rT _ func24 Z Z ⟨Z,(HS.pk 2 [] Z)⟩
  refine nB Z (nT c7) (rN 3 Z ?_)
  obtain rfl:=sI H
  exact rT _ func24 Z Z ⟨Z,(HS.pk 2 [] Z)⟩
end Go.Proofs.YtbjfinndngafoaaGreat
