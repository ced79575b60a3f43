/-
  The walks through the functions: a call comes to what its list function says.
-/
import Derived.Test.YtgkgmhkgahalgaaGreatAlF
import Derived.Test.YtgkgmhkgahalgaaGreatAlW1
set_option linter.unusedVariables false
set_option linter.unusedSimpArgs false
namespace Go.Proofs.YtgkgmhkgahalgaaGreat
open Go.RowKit
open Tryz
variable {w0 w:World} {L:List Df} {K:Nat} {A_a A_b A_c A_d A_e A_f A_g A_h A_i A_j A_k A_l A_m A_n A_o A_p A_q A_r A_s A_t A_u A_v A_w A_x A_y A_z:Option Addr} {c_a c_b c_c c_d c_e c_f c_g c_h c_i c_j c_k c_l c_m c_n c_o c_p c_q c_r c_s c_t c_u c_v c_w c_x c_y c_z:Nat}
set_option maxRecDepth 20000
set_option maxHeartbeats 40000000
theorem Ac.calls {a1:List (List Aw)} {o:Int} {y_a:Nat→(Ty.slice 83 Bb).Lay} {r1 r2:Int} {r3:List Int} (HS:St w0 w (L)) (r_a:Ce w0 L (Ty.slice 83 Bb) A_a c_a y_a a1) (H:Ac.f K a1 o=some (r1,r2,r3)) :
    Calls prog 36 #[.agg [sV A_a a1 c_a].toArray,I o] w (Ac.post w0 L r1 r2 r3):=by
  unfold Ac.f at H
  refine cG func36 Z ?_
  refine sQ (rG (bA HS Z fun b1 wd2 HS=>GO.alloc HS Z Md Z Z fun b3 wd4 HS=>nL (sQ ?_)))
  obtain ⟨t5,t6,t7,t8,h9,H⟩:=Ie H
  refine rG (lW 1 HS Z Jn (fJ wZ Z (Bl.calls HS (rD 2 r_a) h9) (fun _ wd21 ⟨A10,c11,y12,A13,c14,y15,A16,c17,y18,A19,c20,h22,HS⟩=>⟨_,h22,(pS 3 Z (GO.alloc HS Z vD Z Z fun b23 wd24 HS=>sW 0 HS Z kM Z fun wd25 HS=>aS Z (nL (sQ ?_))))⟩)))
  obtain ⟨c26,H⟩:=iN H
  have h27:=(rk (ro 4 Z) HS)
  obtain ⟨c28,H⟩:=iN H
  have h29:=(rk (ro 4 Z) HS)
  obtain ⟨c30,H⟩:=iN H
  have h31:=(rk (ro 4 Z) HS)
  obtain ⟨c32,H⟩:=iN H
  have h33:=(rk (ro 4 Z) HS)
  refine G.lex mixed [0,1,3,4,6,7,9,10,2,5,8,11,12,13] (by kernel_rfl) ?_
  replace HS:=HS.drew
  refine GX.ps 1 Z (qL Z Z (fun _ _ g=>iX Z U26 sz2 h27 c26 g) Z (GX.ps 1 Z (qL Z Z (fun _ _ g=>iX Z U26 sz2 h29 c28 g) Z (GX.ps 1 Z (qL Z Z (fun _ _ g=>iX Z U26 sz2 h31 c30 g) Z (GX.ps 1 Z (qL Z Z (fun _ _ g=>iX Z U26 sz2 h33 c32 g) Z (GX.l1 Z Z Z (fun _ g=>GO.Dt (T:=(Ad .i64)) (n:=0) (o:=0) HS (ro 4 Z) Z Z (getD_some (d:=0) (ltN c26)) Z Z na2 Z g) Z (GX.l1 Z Z Z (fun _ g=>GO.Dt (T:=(Ad .i64)) (n:=1) (o:=0) HS (ro 4 Z) Z Z (getD_some (d:=0) (ltN c28)) Z Z na2 Z g) Z (GX.l1 Z Z Z (fun _ g=>GO.Dt (T:=(Ad .i64)) (n:=2) (o:=0) HS (ro 4 Z) Z Z (getD_some (d:=0) (ltN c30)) Z Z na2 Z g) Z (GX.l1 Z Z Z (fun _ g=>GO.Dt (T:=(Ad .i64)) (n:=3) (o:=0) HS (ro 4 Z) Z Z (getD_some (d:=0) (ltN c32)) Z Z na2 Z g) Z (GX.l2 Z (GO.Fj (el:=2) ([I 0,I (t8.getD 0 0),I (t8.getD 1 0),I (t8.getD 2 0),I (t8.getD 3 0),I 0]) HS Z Z (fun _=>by kernel_rfl) Z fun b34 wd35 HS=>GX.fin tv ?_)))))))))))))
  replace HS:=HS.Ij (T:=(Ad .i64)) (j:=0) Z Av uu ([0,t8.getD 0 0,t8.getD 1 0,t8.getD 2 0,t8.getD 3 0,0]:List Int) Z (K9 Z)
  refine qL Z Z (fun _ _ g=>GO.Kj (t:=43) (m:=([0,t8.getD 0 0,t8.getD 1 0,t8.getD 2 0,t8.getD 3 0,0]:List Int).length) (c':=([0,t8.getD 0 0,t8.getD 1 0,t8.getD 2 0,t8.getD 3 0,0]:List Int).length) Z Z Z (aS Z g)) Z (GX.nil (sQ ?_))
  obtain ⟨c36,H⟩:=iN H
  have h37:=(rk (ro 0 Z) HS)
  obtain ⟨c38,H⟩:=iN H
  have h39:=(rk (ro 0 Z) HS)
  obtain ⟨t40,t41,t42,h43,H⟩:=Ej H
  refine G.Q6 mixed (by decide) (fun b a w=>∃ (A44:Option Addr) (c45:Nat) (b48:Nat) (q1:Df) (n1:Df),RS 214 [(1,I o),(2,pT b1),(4,pT b3),(5,pT b23),(7,sV (sb b34) ([0,t8.getD 0 0,t8.getD 1 0,t8.getD 2 0,t8.getD 3 0,0]:List Int) (([0,t8.getD 0 0,t8.getD 1 0,t8.getD 2 0,t8.getD 3 0,0]:List Int).length))] [rv 44 (sV (sb b34) ([0,t8.getD 0 0,t8.getD 1 0,t8.getD 2 0,t8.getD 3 0,0]:List Int) (([0,t8.getD 0 0,t8.getD 1 0,t8.getD 2 0,t8.getD 3 0,0]:List Int).length)),rv 45 (I o),rv 46 (.pointer (some (ea (sb b34) (o.toNat * 1)))),rv 47 (I (([0,t8.getD 0 0,t8.getD 1 0,t8.getD 2 0,t8.getD 3 0,0]:List Int).getD o.toNat 0)),rv 48 (sV (sb b34) ([0,t8.getD 0 0,t8.getD 1 0,t8.getD 2 0,t8.getD 3 0,0]:List Int) (([0,t8.getD 0 0,t8.getD 1 0,t8.getD 2 0,t8.getD 3 0,0]:List Int).length)),rv 49 (I o),rv 50 (I (w64 (o+1))),rv 51 (.pointer (some (ea (sb b34) (((w64 (o+1)).toNat) * 1)))),rv 52 (I (([0,t8.getD 0 0,t8.getD 1 0,t8.getD 2 0,t8.getD 3 0,0]:List Int).getD ((w64 (o+1)).toNat) 0)),rv 53 (.agg [I t40,I t41,sV A44 t42 c45].toArray),rv 8 (pT b48),none] b a∧St w0 w (Own (Ad .i64) 2 (sb b34) (([0,t8.getD 0 0,t8.getD 1 0,t8.getD 2 0,t8.getD 3 0,0]:List Int).length) uu ([0,t8.getD 0 0,t8.getD 1 0,t8.getD 2 0,t8.getD 3 0,0]:List Int)::Box b23 95 [sV A10 t5 c11,sV A13 t6 c14,sV A16 t7 c17]::Own (Ty.slice 2 (Ad .i64)) 26 A10 c11 y12 t5::Own (Ty.slice 2 (Ad .i64)) 26 A13 c14 y15 t6::Own (Ty.slice 2 (Ad .i64)) 26 A16 c17 y18 t7::Own (Ad .i64) 2 A19 c20 uu t8::Box b3 57 [I 0,I 0,.slice none 0 0]::Box b1 33 [sV A_a a1 c_a]::q1::n1::L)∧(b 9=true→q1=Own (Ad .i64) 2 A44 c45 uu t42)∧(b 10=true→b 11=false→n1=Box b48 57 [I 0,I 0,.slice none 0 0])∧(b 11=true→n1=Box b48 57 [I t40,I t41,sV A44 t42 c45])) ?_ ?_ ?_
  · exact fun a hs=>⟨none,0,0,Emp,Emp,hs.init Z,(HS.drew.emp.emp.pk 10 [2,3,4,5,6,7,8,9,1,0] Z),fun h=>Bool.noConfusion h,fun h=>Bool.noConfusion h,fun h=>Bool.noConfusion h⟩
  ·
   intro j b a w hj
   refine exI fun A44=>exI fun c45=>exI fun b48=>exI fun q1=>exI fun n1=>anI fun hs=>fun hM q=>?_
   have HS:=hM.1
   match j,hj with
   | 0,_ =>
    refine hs.at q [] [] (mV Z (hs.fin q Z fun _ hs=>⟨_,_,_,_,_,hs,hM⟩))
   | 1,_ =>
    refine hs.at q [] [] (mV Z (hs.fin q Z fun _ hs=>⟨_,_,_,_,_,hs,hM⟩))
   | 2,_ =>
    refine hs.at q [0,1] [] (iX Z U26 sz2 h37 c36 (hs.fin q Z fun _ hs=>⟨_,_,_,_,_,hs,hM⟩))
   | 3,_ =>
    refine hs.at q [2] [] (GO.Dt (T:=(Ad .i64)) (n:=o.toNat) (o:=0) HS (ro 0 Z) Z Z (getD_some (d:=0) (ltN c36)) Z Z na2 Z (hs.fin q Z fun _ hs=>⟨_,_,_,_,_,hs,hM⟩))
   | 4,_ =>
    refine hs.at q [] [] (mV Z (hs.fin q Z fun _ hs=>⟨_,_,_,_,_,hs,hM⟩))
   | 5,_ =>
    refine hs.at q [] [] (mV Z (hs.fin q Z fun _ hs=>⟨_,_,_,_,_,hs,hM⟩))
   | 6,_ =>
    refine hs.at q [5] [] (GO.add Z Z Z Z (hs.fin q Z fun _ hs=>⟨_,_,_,_,_,hs,hM⟩))
   | 7,_ =>
    refine hs.at q [4,6] [] (iX Z U26 sz2 h39 c38 (hs.fin q Z fun _ hs=>⟨_,_,_,_,_,hs,hM⟩))
   | 8,_ =>
    refine hs.at q [7] [] (GO.Dt (T:=(Ad .i64)) (n:=(w64 (o+1)).toNat) (o:=0) HS (ro 0 Z) Z Z (getD_some (d:=0) (ltN c38)) Z Z na2 Z (hs.fin q Z fun _ hs=>⟨_,_,_,_,_,hs,hM⟩))
   | 9,_ =>
    refine (anI fun HS=>anI fun h1=>anI fun m1=>fun u1=>?_) hM
    refine hs.at q [3,8] [] (fJ eF Z (Hu.calls HS  h43) (fun _ wd46 ⟨A44,c45,h47,HS⟩=>⟨_,h47,(hs.V3 q [9] (fun _ hs=>⟨A44,c45,b48,Own (Ad .i64) 2 A44 c45 uu t42,_,hs,HS.pk 11 [1,2,3,4,5,6,7,8,0,10] Z,fun _=>Z,m1,fun hh=>(q.no 11 hh).elim⟩) Z Z)⟩))
   | 10,_ =>
    refine (anI fun HS=>anI fun h1=>anI fun m1=>fun u1=>?_) hM
    refine hs.at q [] [] (GO.alloc HS Z Md Z Z fun b48 wd49 HS=>hs.V3 q [10] (fun _ hs=>⟨A44,c45,b48,_,Box b48 57 [I 0,I 0,.slice none 0 0],hs,HS.pk 11 [1,2,3,4,5,6,7,8,9,0] Z,h1,fun _ _=>Z,fun hh=>(q.no 11 hh).elim⟩) Z Z)
   | 11,_ =>
    refine (anI fun HS=>anI fun h1=>anI fun m1=>fun u1=>?_) hM
    have hb10:=q.on 10
    obtain rfl:=m1 hb10 q.hb
    refine hs.at q [10,9] [] (sW 9 HS Z Du Z fun wd50 HS=>hs.tO q Z fun _ hs=>⟨A44,c45,b48,_,Box b48 57 [I t40,I t41,sV A44 t42 c45],hs,HS,h1,fun _ h=>Bool.noConfusion h,fun _=>Z⟩)
   | k+12,hj=>exact absurd hj (Nat.not_lt.2 (Nat.le_add_left 12 k))
  ·
   intro b a w hall
   refine exI fun A44=>exI fun c45=>exI fun b48=>exI fun q1=>exI fun n1=>anI fun hs=>anI fun HS=>anI fun h1=>anI fun m1=>fun u1=>?_
   obtain rfl:=h1 (hall 9 (by decide))
   obtain rfl:=u1 (hall 11 (by decide))
   refine G.at (hs.all hall) (sQ ?_)
   obtain ⟨t51,h52,H⟩:=bI H
   refine rG (lW 7 HS Z Jn (fJ qD Z (Am.calls HS (rD 10 r_a) h52) (fun _ wd56 ⟨A53,c54,y55,h57,HS⟩=>⟨_,h57,(aS Z (nL (sQ ?_)))⟩)))
   obtain ⟨t58,h59,H⟩:=bI H
   refine rG (lW 8 HS Z Jn (fJ xB Z (Aj.calls HS (rD 11 r_a) h59) (fun _ wd63 ⟨A60,c61,y62,h64,HS⟩=>⟨_,h64,(aS Z (nL (sQ (rG (GO.Fj (el:=2) ([]) HS Z Z (fun _=>by kernel_rfl) Z fun b65 wd66 HS=>?_)))))⟩)))
   replace HS:=HS.Ij (T:=(Ad .i64)) (j:=0) Z Av uu ([]:List Int) Z (K9 Z)
   refine GO.Kj (t:=58) (m:=([]:List Int).length) (c':=([]:List Int).length) Z Z Z (aS Z (nL (sQ (rG (GO.Fj (el:=2) ([]) HS Z Z (fun _=>by kernel_rfl) Z fun b67 wd68 HS=>?_)))))
   replace HS:=HS.Ij (T:=(Ad .i64)) (j:=0) Z Av uu ([]:List Int) Z (K9 Z)
   refine GO.Kj (t:=59) (m:=([]:List Int).length) (c':=([]:List Int).length) Z Z Z (aS Z (nL (rN 5 Z ?_)))
   refine G.name (fun h5 b5=>?_)
   have v5:∀ y2,y2≤K→∀ (x2691:List Int) (A2692:Option Addr) (c2693:Nat) (x2694:List Int) (A2695:Option Addr) (c2696:Nat) (x2697:List Int) (x2698:Int) (w:World),Ac.l1 K y2 a1 o t5 t6 t7 t40 t41 t51 t58 x2691 x2694 x2697 x2698=some (r1,r2,r3)→St w0 w (Box b1 33 [sV A_a a1 c_a]::Box b3 57 [I 0,I 0,.slice none 0 0]::Box b23 95 [sV A10 t5 c11,sV A13 t6 c14,sV A16 t7 c17]::Own (Ty.slice 2 (Ad .i64)) 26 A10 c11 y12 t5::Own (Ty.slice 2 (Ad .i64)) 26 A13 c14 y15 t6::Own (Ty.slice 2 (Ad .i64)) 26 A16 c17 y18 t7::Box b48 57 [I t40,I t41,sV A44 x2691 c45]::Own (Ad .i64) 2 A44 c45 uu x2691::Own (Ty.slice 2 (Ad .i64)) 26 A53 c54 y55 t51::Own (Ty.slice 2 (Ad .i64)) 26 A60 c61 y62 t58::Own (Ad .i64) 2 A2692 c2693 uu x2694::Own (Ad .i64) 2 A2695 c2696 uu x2697::L)→G prog 36 214 [(1,I o),(2,pT b1),(4,pT b3),(5,pT b23),(8,pT b48),(9,sV A53 t51 c54),(10,sV A60 t58 c61),(11,sV A2692 x2694 c2693),(12,sV A2695 x2697 c2696),(13,I x2698)] h5 w (Ac.post w0 L r1 r2 r3):=by
    refine lp (fun _ _ _ _ _ _ _ _ w H _=>by rw [Ac.l1] at H; cases H) fun g2 y5 d1 x2691 A2692 c2693 x2694 A2695 c2696 x2697 x2698 w H HS=>?_
    rw [Ac.l1] at H
    subst b5
    refine rN 2 Z ?_
    obtain ⟨t5321,h5322,H⟩:=bI H
    refine rG (mV Z (lW 0 HS Z Jn (fJ Tf Z (D7.calls HS (rD 12 r_a) h5322) (fun _ wd5323 ⟨h5324,HS⟩=>⟨_,h5324,(GO.lss Z Z Z Z (nL ?_))⟩))))
    rcases iS H with ⟨c5325,H⟩ | ⟨c5325,H⟩
    ·
     refine nB Z (tF c5325) (rN 2 Z (rG (lW 6 HS Z Du (sW 1 HS Z Du Z fun wd7942 HS=>nL ?_))))
     obtain ⟨rfl,rfl,rfl⟩:=Jh H
     exact rT _ func36 Z (I8.J6 (j:=1) (vs:=[I t40,I t41,sV A44 x2691 c45]) HS Z Z Z Du) ⟨_,_,Z,(HS.pk 12 [7] Z)⟩
    refine yB Z (tT c5325) (rN 8 Z ?_)
    refine G.name (fun x4 s4=>?_)
    have t4:∀ g3,g3≤g2→∀ (x5861:List Int) (A5862:Option Addr) (c5863:Nat) (x5864:List Int) (x5865:Int) (w:World),Ac.Tm K g3 a1 o t5 t6 t7 t40 t41 t51 t58 x2697 x2698 x5861 x5864 x5865=some (r1,r2,r3)→St w0 w (Box b1 33 [sV A_a a1 c_a]::Box b3 57 [I 0,I 0,.slice none 0 0]::Box b23 95 [sV A10 t5 c11,sV A13 t6 c14,sV A16 t7 c17]::Own (Ty.slice 2 (Ad .i64)) 26 A10 c11 y12 t5::Own (Ty.slice 2 (Ad .i64)) 26 A13 c14 y15 t6::Own (Ty.slice 2 (Ad .i64)) 26 A16 c17 y18 t7::Box b48 57 [I t40,I t41,sV A44 x5861 c45]::Own (Ad .i64) 2 A44 c45 uu x5861::Own (Ty.slice 2 (Ad .i64)) 26 A53 c54 y55 t51::Own (Ty.slice 2 (Ad .i64)) 26 A60 c61 y62 t58::Own (Ad .i64) 2 A5862 c5863 uu x5864::Own (Ad .i64) 2 A2695 c2696 uu x2697::L)→G prog 36 214 [(1,I o),(2,pT b1),(4,pT b3),(5,pT b23),(8,pT b48),(9,sV A53 t51 c54),(10,sV A60 t58 c61),(11,sV A5862 x5864 c5863),(12,sV A2695 x2697 c2696),(13,I x2698),(14,I x5865)] x4 w (Ac.post w0 L r1 r2 r3):=by
     refine lp (fun _ _ _ _ _ w H _=>by rw [Ac.Tm] at H; cases H) fun g1 c1 z1 x5861 A5862 c5863 x5864 x5865 w H HS=>?_
     rw [Ac.Tm] at H
     subst s4
     refine rN 2 Z ?_
     rcases iS H with ⟨c6905,H⟩ | ⟨c6905,H⟩
     ·
      refine rG (pS 3 Z (kN 68 Z (tF c6905) (oF Z (oF Z (GO.Hw Z Z Z Z Z (nL (rN 7 Z ?_)))))))
      refine G.name (fun q5 n4=>?_)
      have p3:∀ u2,u2≤g1→∀ (x7573:List Int) (A7574:Option Addr) (c7575:Nat) (x7576:List Int) (x7577:Int) (w:World),Ac.dD K u2 a1 o t5 t6 t7 t40 t41 t51 t58 x2698 x5864 x7573 x7576 x7577=some (r1,r2,r3)→St w0 w (Box b1 33 [sV A_a a1 c_a]::Box b3 57 [I 0,I 0,.slice none 0 0]::Box b23 95 [sV A10 t5 c11,sV A13 t6 c14,sV A16 t7 c17]::Own (Ty.slice 2 (Ad .i64)) 26 A10 c11 y12 t5::Own (Ty.slice 2 (Ad .i64)) 26 A13 c14 y15 t6::Own (Ty.slice 2 (Ad .i64)) 26 A16 c17 y18 t7::Box b48 57 [I t40,I t41,sV A44 x7573 c45]::Own (Ad .i64) 2 A44 c45 uu x7573::Own (Ty.slice 2 (Ad .i64)) 26 A53 c54 y55 t51::Own (Ty.slice 2 (Ad .i64)) 26 A60 c61 y62 t58::Own (Ad .i64) 2 A5862 c5863 uu x5864::Own (Ad .i64) 2 A7574 c7575 uu x7576::L)→G prog 36 214 [(1,I o),(2,pT b1),(4,pT b3),(5,pT b23),(8,pT b48),(9,sV A53 t51 c54),(10,sV A60 t58 c61),(11,sV A5862 x5864 c5863),(12,sV A7574 x7576 c7575),(13,I x2698),(18,I x7577)] q5 w (Ac.post w0 L r1 r2 r3):=by
       refine lp (fun _ _ _ _ _ w H _=>by rw [Ac.dD] at H; cases H) fun f1 t1 a2 x7573 A7574 c7575 x7576 x7577 w H HS=>?_
       rw [Ac.dD] at H
       subst n4
       refine rN 2 Z ?_
       rcases iS H with ⟨c7761,H⟩ | ⟨c7761,H⟩
       ·
        refine rG (pS 3 Z (kN 118 Z (tF c7761) (oF Z (oF Z (GO.Hw Z Z Z Z Z (nL (rN 6 Z ?_)))))))
        refine G.name (fun s5 s3=>?_)
        have a4:∀ m2,m2≤f1→∀ (x7908:List Int) (x7909:Int) (w:World),Ac.kI K m2 a1 o t5 t6 t7 t40 t41 t51 t58 x2698 x5864 x7576 x7908 x7909=some (r1,r2,r3)→St w0 w (Box b1 33 [sV A_a a1 c_a]::Box b3 57 [I 0,I 0,.slice none 0 0]::Box b23 95 [sV A10 t5 c11,sV A13 t6 c14,sV A16 t7 c17]::Own (Ty.slice 2 (Ad .i64)) 26 A10 c11 y12 t5::Own (Ty.slice 2 (Ad .i64)) 26 A13 c14 y15 t6::Own (Ty.slice 2 (Ad .i64)) 26 A16 c17 y18 t7::Box b48 57 [I t40,I t41,sV A44 x7908 c45]::Own (Ad .i64) 2 A44 c45 uu x7908::Own (Ty.slice 2 (Ad .i64)) 26 A53 c54 y55 t51::Own (Ty.slice 2 (Ad .i64)) 26 A60 c61 y62 t58::Own (Ad .i64) 2 A5862 c5863 uu x5864::Own (Ad .i64) 2 A7574 c7575 uu x7576::L)→G prog 36 214 [(1,I o),(2,pT b1),(4,pT b3),(5,pT b23),(8,pT b48),(9,sV A53 t51 c54),(10,sV A60 t58 c61),(11,sV A5862 x5864 c5863),(12,sV A7574 x7576 c7575),(13,I x2698),(24,I x7909)] s5 w (Ac.post w0 L r1 r2 r3):=by
         refine lp (fun _ _ w H _=>by rw [Ac.kI] at H; cases H) fun p1 q2 z3 x7908 x7909 w H HS=>?_
         rw [Ac.kI] at H
         subst s3
         refine rN 2 Z ?_
         rcases iS H with ⟨c7927,H⟩ | ⟨c7927,H⟩
         ·
          refine rG (pS 3 Z (kN 183 Z (tF c7927) (oF Z (oF Z (GO.Hw Z Z Z Z Z (nL (rN 5 Z (gW (d1 p1 (Nat.le_trans (Nat.le_of_succ_le q2) (Nat.le_trans (Nat.le_of_succ_le t1) (Nat.le_of_succ_le c1))) _ _ _ _ _ _ _ _ _ H HS) Z))))))))
         refine rG (pS 3 Z (kN 183 Z (tT c7927) (oN Z (mV Z (bK (oN Z (GO.eql Z Z Z Z (bK (GO.Gw Z Z Z Z Z (nL ?_))))))))))
         rcases iS H with ⟨c7928,H⟩ | ⟨c7928,H⟩
         ·
          refine nB Z (tF c7928) (rN 4 Z (gW (d1 p1 (Nat.le_trans (Nat.le_of_succ_le q2) (Nat.le_trans (Nat.le_of_succ_le t1) (Nat.le_of_succ_le c1))) _ _ _ _ _ _ _ _ _ H HS) Z))
         refine yB Z (tT c7928) (rN 4 Z ?_)
         obtain ⟨c7929,H⟩:=iN H
         obtain ⟨c7930,H⟩:=iN H
         refine rG (pS 2 Z (iX Z U65 Od (rk (ro 9 Z) HS) c7929 (GO.Dt (T:=(Ty.slice 2 (Ad .i64))) (n:=x2698.toNat) (o:=0) HS (ro 9 Z) Z Z (getD_some (d:=[]) (ltN c7929)) Z Z Ha Z (mV Z (GO.ix Z Z Z U26 sz2 ((Ce.elem (ro 9 Z) c7929.1 c7929.2) _ HS).2.2.1 c7930.1 c7930.2 Z (GO.Dt (T:=(Ad .i64)) (n:=x7909.toNat) (o:=0) HS (Ce.elem (ro 9 Z) c7929.1 c7929.2) Z Z (getD_some (d:=0) (ltN c7930)) Z Z na2 Z (aS Z (nL (rN 2 Z (rG (mV Z (GO.rem Z Z Z (by decide) Z (GO.eql Z Z Z Z (nL ?_))))))))))))))
         refine G.Oa (fun o5 k5=>?_)
         have i2:∀ c3,c3≤p1→∀ (x7932:Int) (w:World),Ac.lJ K c3 a1 o t5 t6 t7 t40 t41 t51 t58 x2698 x5864 x7576 x7908 x7909 x7932=some (r1,r2,r3)→St w0 w (Box b1 33 [sV A_a a1 c_a]::Box b3 57 [I 0,I 0,.slice none 0 0]::Box b23 95 [sV A10 t5 c11,sV A13 t6 c14,sV A16 t7 c17]::Own (Ty.slice 2 (Ad .i64)) 26 A10 c11 y12 t5::Own (Ty.slice 2 (Ad .i64)) 26 A13 c14 y15 t6::Own (Ty.slice 2 (Ad .i64)) 26 A16 c17 y18 t7::Box b48 57 [I t40,I t41,sV A44 x7908 c45]::Own (Ad .i64) 2 A44 c45 uu x7908::Own (Ty.slice 2 (Ad .i64)) 26 A53 c54 y55 t51::Own (Ty.slice 2 (Ad .i64)) 26 A60 c61 y62 t58::Own (Ad .i64) 2 A5862 c5863 uu x5864::Own (Ad .i64) 2 A7574 c7575 uu x7576::L)→G prog 36 214 [(1,I o),(2,pT b1),(4,pT b3),(5,pT b23),(8,pT b48),(9,sV A53 t51 c54),(10,sV A60 t58 c61),(11,sV A5862 x5864 c5863),(12,sV A7574 x7576 c7575),(13,I x2698),(24,I x7909),(25,I x7932),(184,I o),(185,.bool (decide (o=3)))] o5 w (Ac.post w0 L r1 r2 r3):=by
          refine jp (fun _ w H _=>by rw [Ac.lJ] at H; cases H) fun d4 x3 x7932 w H HS=>?_
          rw [Ac.lJ] at H
          subst k5
          obtain ⟨c7933,H⟩:=iN H
          have h7934:=(rk (ro 5 Z) HS)
          obtain ⟨c7935,H⟩:=iN H
          obtain ⟨t7936,h7937,H⟩:=bI H
          obtain ⟨c7938,H⟩:=iN H
          refine G.lex mixed [1,3,6,9,10,0,2,4,5,7,8,11] (by kernel_rfl) ?_
          replace HS:=HS.drew
          refine qL Z Z (fun _ _ g=>fL b23 2 Qv Z g) Z (GX.ps 4 Z (GX.l1 Z Z Z (fun _ g=>lW 6 HS Z Du g) Z (GX.l1 Z Z Z (fun _ g=>lB 2 HS Z Q3 Z g) Z (qL Z Z (fun _ _ g=>iX Z U65 Od h7934 c7933 g) Z (GX.l1 Z Z Z (fun _ g=>GO.Dt (T:=(Ty.slice 2 (Ad .i64))) (n:=x2698.toNat) (o:=0) HS (ro 5 Z) Z Z (getD_some (d:=[]) (ltN c7933)) Z Z Ha Z g) Z (qL Z Z (fun _ _ g=>GO.ix Z Z Z U26 sz2 ((Ce.elem (ro 5 Z) c7933.1 c7933.2) _ HS).2.2.1 c7935.1 c7935.2 Z g) Z (GX.l1 Z Z Z (fun _ g=>GO.Dt (T:=(Ad .i64)) (n:=x7909.toNat) (o:=0) HS (Ce.elem (ro 5 Z) c7933.1 c7933.2) Z Z (getD_some (d:=0) (ltN c7935)) Z Z na2 Z g) Z (GX.l2 Z ?_))))))))
          replace HS:=HS.pk 12 [7,0,1,2,3,4,5,6,8,9,10,11] Z
          refine fJ Td Z (Ga.calls HS  h7937) (fun _ wd7939 ⟨h7940,HS⟩=>⟨_,h7940,(GX.fin tv (GX.nil ?_))⟩)
          replace HS:=HS.F8 (j:=7) (cs':=[I t40,I t41,sV A44 t7936 c45]) Z (by simp only [sV,List.length_set,c7938] <;> rfl)
          refine rN 3 Z (gW (z3 d4 (Nat.le_of_succ_le x3) _ _ _ H (HS.pk 12 [1,2,3,4,5,6,7,0,8,9,10,11] Z)) Z)
         rcases iS H with ⟨c7941,H⟩ | ⟨c7941,H⟩
         ·
          refine nB Z (tF c7941) (G.skip (gW (i2 p1 (lR _) _ _ H HS) Z))
         refine yB Z (tT c7941) (rG (mV Z (GO.neg Z Z Z (aS Z (nL (gW (i2 p1 (lR _) _ _ H HS) Z))))))
        exact gW (a4 f1 (lR _) _ _ _ H HS) Z
       refine rG (pS 3 Z (kN 118 Z (tT c7761) (oN Z (mV Z (bK (oN Z (GO.eql Z Z Z Z (bK (GO.Gw Z Z Z Z Z (nL ?_))))))))))
       rcases iS H with ⟨c7762,H⟩ | ⟨c7762,H⟩
       ·
        refine nB Z (tF c7762) (rN 5 Z ?_)
        refine G.name (fun k4 q4=>?_)
        have c4:∀ h2,h2≤f1→∀ (x7860:List Int) (x7861:Int) (w:World),Ac.gJ K h2 a1 o t5 t6 t7 t40 t41 t51 t58 x2698 x5864 x7576 x7860 x7861=some (r1,r2,r3)→St w0 w (Box b1 33 [sV A_a a1 c_a]::Box b3 57 [I 0,I 0,.slice none 0 0]::Box b23 95 [sV A10 t5 c11,sV A13 t6 c14,sV A16 t7 c17]::Own (Ty.slice 2 (Ad .i64)) 26 A10 c11 y12 t5::Own (Ty.slice 2 (Ad .i64)) 26 A13 c14 y15 t6::Own (Ty.slice 2 (Ad .i64)) 26 A16 c17 y18 t7::Box b48 57 [I t40,I t41,sV A44 x7860 c45]::Own (Ad .i64) 2 A44 c45 uu x7860::Own (Ty.slice 2 (Ad .i64)) 26 A53 c54 y55 t51::Own (Ty.slice 2 (Ad .i64)) 26 A60 c61 y62 t58::Own (Ad .i64) 2 A5862 c5863 uu x5864::Own (Ad .i64) 2 A7574 c7575 uu x7576::L)→G prog 36 214 [(1,I o),(2,pT b1),(4,pT b3),(5,pT b23),(8,pT b48),(9,sV A53 t51 c54),(10,sV A60 t58 c61),(11,sV A5862 x5864 c5863),(12,sV A7574 x7576 c7575),(13,I x2698),(24,I x7861),(119,I o),(120,.bool (decide (o=2)))] k4 w (Ac.post w0 L r1 r2 r3):=by
         refine lp (fun _ _ w H _=>by rw [Ac.gJ] at H; cases H) fun k1 d3 j5 x7860 x7861 w H HS=>?_
         rw [Ac.gJ] at H
         subst q4
         refine rN 2 Z ?_
         rcases iS H with ⟨c7879,H⟩ | ⟨c7879,H⟩
         ·
          refine rG (pS 3 Z (kN 183 Z (tF c7879) (oF Z (oF Z (GO.Hw Z Z Z Z Z (nL (rN 5 Z (gW (d1 k1 (Nat.le_trans (Nat.le_of_succ_le d3) (Nat.le_trans (Nat.le_of_succ_le t1) (Nat.le_of_succ_le c1))) _ _ _ _ _ _ _ _ _ H HS) Z))))))))
         refine rG (pS 3 Z (kN 183 Z (tT c7879) (oN Z (mV Z (bK (oN Z (GO.eql Z Z Z Z (bK (GO.Gw Z Z Z Z Z (nL ?_))))))))))
         rcases iS H with ⟨c7880,H⟩ | ⟨c7880,H⟩
         ·
          refine nB Z (tF c7880) (rN 4 Z (gW (d1 k1 (Nat.le_trans (Nat.le_of_succ_le d3) (Nat.le_trans (Nat.le_of_succ_le t1) (Nat.le_of_succ_le c1))) _ _ _ _ _ _ _ _ _ H HS) Z))
         refine yB Z (tT c7880) (rN 4 Z ?_)
         obtain ⟨c7881,H⟩:=iN H
         obtain ⟨c7882,H⟩:=iN H
         refine rG (pS 2 Z (iX Z U65 Od (rk (ro 9 Z) HS) c7881 (GO.Dt (T:=(Ty.slice 2 (Ad .i64))) (n:=x2698.toNat) (o:=0) HS (ro 9 Z) Z Z (getD_some (d:=[]) (ltN c7881)) Z Z Ha Z (mV Z (GO.ix Z Z Z U26 sz2 ((Ce.elem (ro 9 Z) c7881.1 c7881.2) _ HS).2.2.1 c7882.1 c7882.2 Z (GO.Dt (T:=(Ad .i64)) (n:=x7861.toNat) (o:=0) HS (Ce.elem (ro 9 Z) c7881.1 c7881.2) Z Z (getD_some (d:=0) (ltN c7882)) Z Z na2 Z (aS Z (nL (rN 2 Z (rG (mV Z (GO.rem Z Z Z (by decide) Z (GO.eql Z Z Z Z (nL ?_))))))))))))))
         refine G.Oa (fun u3 g5=>?_)
         have v2:∀ n2,n2≤k1→∀ (x7884:Int) (w:World),Ac.mR K n2 a1 o t5 t6 t7 t40 t41 t51 t58 x2698 x5864 x7576 x7860 x7861 x7884=some (r1,r2,r3)→St w0 w (Box b1 33 [sV A_a a1 c_a]::Box b3 57 [I 0,I 0,.slice none 0 0]::Box b23 95 [sV A10 t5 c11,sV A13 t6 c14,sV A16 t7 c17]::Own (Ty.slice 2 (Ad .i64)) 26 A10 c11 y12 t5::Own (Ty.slice 2 (Ad .i64)) 26 A13 c14 y15 t6::Own (Ty.slice 2 (Ad .i64)) 26 A16 c17 y18 t7::Box b48 57 [I t40,I t41,sV A44 x7860 c45]::Own (Ad .i64) 2 A44 c45 uu x7860::Own (Ty.slice 2 (Ad .i64)) 26 A53 c54 y55 t51::Own (Ty.slice 2 (Ad .i64)) 26 A60 c61 y62 t58::Own (Ad .i64) 2 A5862 c5863 uu x5864::Own (Ad .i64) 2 A7574 c7575 uu x7576::L)→G prog 36 214 [(1,I o),(2,pT b1),(4,pT b3),(5,pT b23),(8,pT b48),(9,sV A53 t51 c54),(10,sV A60 t58 c61),(11,sV A5862 x5864 c5863),(12,sV A7574 x7576 c7575),(13,I x2698),(24,I x7861),(25,I x7884),(119,I o),(120,.bool (decide (o=2))),(184,I o),(185,.bool (decide (o=3)))] u3 w (Ac.post w0 L r1 r2 r3):=by
          refine jp (fun _ w H _=>by rw [Ac.mR] at H; cases H) fun k3 b4 x7884 w H HS=>?_
          rw [Ac.mR] at H
          subst g5
          obtain ⟨c7885,H⟩:=iN H
          have h7886:=(rk (ro 5 Z) HS)
          obtain ⟨c7887,H⟩:=iN H
          obtain ⟨t7888,h7889,H⟩:=bI H
          obtain ⟨c7890,H⟩:=iN H
          refine G.lex mixed [1,3,6,9,10,0,2,4,5,7,8,11] (by kernel_rfl) ?_
          replace HS:=HS.drew
          refine qL Z Z (fun _ _ g=>fL b23 2 Qv Z g) Z (GX.ps 4 Z (GX.l1 Z Z Z (fun _ g=>lW 6 HS Z Du g) Z (GX.l1 Z Z Z (fun _ g=>lB 2 HS Z Q3 Z g) Z (qL Z Z (fun _ _ g=>iX Z U65 Od h7886 c7885 g) Z (GX.l1 Z Z Z (fun _ g=>GO.Dt (T:=(Ty.slice 2 (Ad .i64))) (n:=x2698.toNat) (o:=0) HS (ro 5 Z) Z Z (getD_some (d:=[]) (ltN c7885)) Z Z Ha Z g) Z (qL Z Z (fun _ _ g=>GO.ix Z Z Z U26 sz2 ((Ce.elem (ro 5 Z) c7885.1 c7885.2) _ HS).2.2.1 c7887.1 c7887.2 Z g) Z (GX.l1 Z Z Z (fun _ g=>GO.Dt (T:=(Ad .i64)) (n:=x7861.toNat) (o:=0) HS (Ce.elem (ro 5 Z) c7885.1 c7885.2) Z Z (getD_some (d:=0) (ltN c7887)) Z Z na2 Z g) Z (GX.l2 Z ?_))))))))
          replace HS:=HS.pk 12 [7,0,1,2,3,4,5,6,8,9,10,11] Z
          refine fJ Td Z (Ga.calls HS  h7889) (fun _ wd7891 ⟨h7892,HS⟩=>⟨_,h7892,(GX.fin tv (GX.nil ?_))⟩)
          replace HS:=HS.F8 (j:=7) (cs':=[I t40,I t41,sV A44 t7888 c45]) Z (by simp only [sV,List.length_set,c7890] <;> rfl)
          refine rN 3 Z (gW (j5 k3 (Nat.le_of_succ_le b4) _ _ _ H (HS.pk 12 [1,2,3,4,5,6,7,0,8,9,10,11] Z)) Z)
         rcases iS H with ⟨c7893,H⟩ | ⟨c7893,H⟩
         ·
          refine nB Z (tF c7893) (G.skip (gW (v2 k1 (lR _) _ _ H HS) Z))
         refine yB Z (tT c7893) (rG (mV Z (GO.neg Z Z Z (aS Z (nL (gW (v2 k1 (lR _) _ _ H HS) Z))))))
        exact gW (c4 f1 (lR _) _ _ _ H HS) Z
       refine yB Z (tT c7762) (rN 4 Z ?_)
       obtain ⟨c7763,H⟩:=iN H
       obtain ⟨c7764,H⟩:=iN H
       refine rG (fL b23 2 Qv Z (lB 2 HS Z Q3 Z (mV Z (iX Z U65 Od (rk (ro 5 Z) HS) c7763 (GO.Dt (T:=(Ty.slice 2 (Ad .i64))) (n:=x2698.toNat) (o:=0) HS (ro 5 Z) Z Z (getD_some (d:=[]) (ltN c7763)) Z Z Ha Z (mV Z (GO.ix Z Z Z U26 sz2 ((Ce.elem (ro 5 Z) c7763.1 c7763.2) _ HS).2.2.1 c7764.1 c7764.2 Z (GO.Dt (T:=(Ad .i64)) (n:=x7577.toNat) (o:=0) HS (Ce.elem (ro 5 Z) c7763.1 c7763.2) Z Z (getD_some (d:=0) (ltN c7764)) Z Z na2 Z (aS Z (nL (rN 2 Z ?_)))))))))))
       obtain ⟨t7765,h7766,H⟩:=bI H
       refine rG (pS 2 Z (fJ jP Z (Fx.calls HS (ro 11 Z) h7766) (fun _ wd7767 ⟨h7768,HS⟩=>⟨_,h7768,(nL ?_)⟩)))
       rcases iE H with ⟨c7769,H⟩ | ⟨c7769,H⟩
       ·
        refine yB Z c7769 (rN 3 Z (gW (a2 f1 (lR _) _ _ _ _ _ _ H HS) Z))
       refine nB Z (Cy c7769) (rN 2 Z ?_)
       obtain ⟨c7775,H⟩:=iN H
       refine rG (pS 2 Z (GO.Fj (el:=2) ([I ((t7.getD x2698.toNat []).getD x7577.toNat 0)]) HS Z Z (fun _=>by kernel_rfl) Z fun b7770 wd7771 HS=>GO.app1 (T:=(Ad .i64)) (j:=12) (jb:=0) ((t7.getD x2698.toNat []).getD x7577.toNat 0) HS Z Z Av Z Z Z U26 Le Z Z Z c7775 Z fun A7773 c7774 wd7772 HS=>aS Z (nL (sQ ?_))))
       obtain ⟨t7776,h7777,H⟩:=bI H
       refine rG (mV Z (fJ iU Z (Fh.calls HS  h7777) (fun _ wd7780 ⟨A7778,c7779,h7781,HS⟩=>⟨_,h7781,(aS Z (nL (rN 4 Z ?_)))⟩)))
       refine G.name (fun v4 c5=>?_)
       have h4:∀ k2,k2≤f1→∀ (x7800:List Int) (x7801:Int) (w:World),Ac.iP K k2 a1 o t5 t6 t7 t40 t41 t51 t58 x2698 x5864 x7576 x7577 t7776 x7800 x7801=some (r1,r2,r3)→St w0 w (Box b1 33 [sV A_a a1 c_a]::Box b3 57 [I 0,I 0,.slice none 0 0]::Box b23 95 [sV A10 t5 c11,sV A13 t6 c14,sV A16 t7 c17]::Own (Ty.slice 2 (Ad .i64)) 26 A10 c11 y12 t5::Own (Ty.slice 2 (Ad .i64)) 26 A13 c14 y15 t6::Own (Ty.slice 2 (Ad .i64)) 26 A16 c17 y18 t7::Box b48 57 [I t40,I t41,sV A44 x7800 c45]::Own (Ad .i64) 2 A44 c45 uu x7800::Own (Ty.slice 2 (Ad .i64)) 26 A53 c54 y55 t51::Own (Ty.slice 2 (Ad .i64)) 26 A60 c61 y62 t58::Own (Ad .i64) 2 A5862 c5863 uu x5864::Own (Ad .i64) 2 A7773 c7774 uu (x7576++[(t7.getD x2698.toNat []).getD x7577.toNat 0])::Own (Ad .i64) 2 A7778 c7779 uu t7776::L)→G prog 36 214 [(1,I o),(2,pT b1),(4,pT b3),(5,pT b23),(8,pT b48),(9,sV A53 t51 c54),(10,sV A60 t58 c61),(11,sV A5862 x5864 c5863),(12,sV A7773 (x7576++[(t7.getD x2698.toNat []).getD x7577.toNat 0]) c7774),(13,I x2698),(18,I x7577),(19,I ((t7.getD x2698.toNat []).getD x7577.toNat 0)),(20,sV A7778 t7776 c7779),(21,I x7801),(119,I o),(120,.bool (decide (o=2)))] v4 w (Ac.post w0 L r1 r2 r3):=by
        refine lp (fun _ _ w H _=>by rw [Ac.iP] at H; cases H) fun s1 q3 r5 x7800 x7801 w H HS=>?_
        rw [Ac.iP] at H
        subst c5
        refine rN 3 Z ?_
        rcases iS H with ⟨c7824,H⟩ | ⟨c7824,H⟩
        ·
         refine nB Z (tF c7824) (rN 4 Z (gW (a2 s1 (Nat.le_of_succ_le q3) _ _ _ _ _ _ H (HS.pk 13 [0,1,2,3,4,5,6,7,8,9,10,11] Z)) Z))
        refine yB Z (tT c7824) (rN 4 Z ?_)
        obtain ⟨c7825,H⟩:=iN H
        have h7826:=(rk (ro 12 Z) HS)
        obtain ⟨c7827,H⟩:=iN H
        have h7828:=(rk (ro 12 Z) HS)
        obtain ⟨t7829,h7830,H⟩:=bI H
        refine G.lex mixed [0,1,2,3,4,6,7,8,9,10,5,11,12,13] (by kernel_rfl) ?_
        replace HS:=HS.drew
        refine GX.ps 3 Z (qL Z Z (fun _ _ g=>GO.rem Z Z Z (by decide) Z g) Z (qL Z Z (fun _ _ g=>iX Z U26 sz2 h7826 c7825 g) Z (GX.ps 3 Z (qL Z Z (fun _ _ g=>GO.rem Z Z Z (by decide) Z g) Z (qL Z Z (fun _ _ g=>iX Z U26 sz2 h7828 c7827 g) Z (GX.l1 Z Z Z (fun _ g=>GO.Dt (T:=(Ad .i64)) (n:=((w64 (x7801+1)).tmod 3).toNat) (o:=0) HS (ro 12 Z) Z Z (getD_some (d:=0) (ltN c7825)) Z Z na2 Z g) Z (GX.l1 Z Z Z (fun _ g=>GO.Dt (T:=(Ad .i64)) (n:=((w64 (x7801+2)).tmod 3).toNat) (o:=0) HS (ro 12 Z) Z Z (getD_some (d:=0) (ltN c7827)) Z Z na2 Z g) Z (GX.l2 Z (fJ fD Z (Eu.calls HS  h7830) (fun _ wd7831 ⟨h7832,HS⟩=>⟨_,h7832,(GX.fin tv (GX.ps 1 Z (GX.nil (sQ ?_))))⟩))))))))))
        obtain ⟨c7833,H⟩:=iN H
        obtain ⟨c7834,H⟩:=iN H
        refine rG (pS 2 Z (iX Z U65 Od (rk (ro 8 Z) HS) c7833 (GO.Dt (T:=(Ty.slice 2 (Ad .i64))) (n:=x2698.toNat) (o:=0) HS (ro 8 Z) Z Z (getD_some (d:=[]) (ltN c7833)) Z Z Ha Z (mV Z (GO.ix Z Z Z U26 sz2 ((Ce.elem (ro 8 Z) c7833.1 c7833.2) _ HS).2.2.1 c7834.1 c7834.2 Z (GO.Dt (T:=(Ad .i64)) (n:=t7829.toNat) (o:=0) HS (Ce.elem (ro 8 Z) c7833.1 c7833.2) Z Z (getD_some (d:=0) (ltN c7834)) Z Z na2 Z (aS Z (nL (rN 3 Z ?_)))))))))
        refine G.Oa (fun r4 f5=>?_)
        have s2:∀ f2,f2≤s1→∀ (x7836:Int) (w:World),Ac.jB K f2 a1 o t5 t6 t7 t40 t41 t51 t58 x2698 x5864 x7576 x7577 t7776 x7800 x7801 t7829 x7836=some (r1,r2,r3)→St w0 w (Box b1 33 [sV A_a a1 c_a]::Box b3 57 [I 0,I 0,.slice none 0 0]::Box b23 95 [sV A10 t5 c11,sV A13 t6 c14,sV A16 t7 c17]::Own (Ty.slice 2 (Ad .i64)) 26 A10 c11 y12 t5::Own (Ty.slice 2 (Ad .i64)) 26 A13 c14 y15 t6::Own (Ty.slice 2 (Ad .i64)) 26 A16 c17 y18 t7::Box b48 57 [I t40,I t41,sV A44 x7800 c45]::Own (Ad .i64) 2 A44 c45 uu x7800::Own (Ty.slice 2 (Ad .i64)) 26 A53 c54 y55 t51::Own (Ty.slice 2 (Ad .i64)) 26 A60 c61 y62 t58::Own (Ad .i64) 2 A5862 c5863 uu x5864::Own (Ad .i64) 2 A7773 c7774 uu (x7576++[(t7.getD x2698.toNat []).getD x7577.toNat 0])::Own (Ad .i64) 2 A7778 c7779 uu t7776::L)→G prog 36 214 [(1,I o),(2,pT b1),(4,pT b3),(5,pT b23),(8,pT b48),(9,sV A53 t51 c54),(10,sV A60 t58 c61),(11,sV A5862 x5864 c5863),(12,sV A7773 (x7576++[(t7.getD x2698.toNat []).getD x7577.toNat 0]) c7774),(13,I x2698),(18,I x7577),(19,I ((t7.getD x2698.toNat []).getD x7577.toNat 0)),(20,sV A7778 t7776 c7779),(21,I x7801),(22,I t7829),(23,I x7836),(119,I o),(120,.bool (decide (o=2)))] r4 w (Ac.post w0 L r1 r2 r3):=by
         refine jp (fun _ w H _=>by rw [Ac.jB] at H; cases H) fun h3 e4 x7836 w H HS=>?_
         rw [Ac.jB] at H
         subst f5
         obtain ⟨c7837,H⟩:=iN H
         have h7838:=(rk (ro 4 Z) HS)
         obtain ⟨c7839,H⟩:=iN H
         obtain ⟨t7840,h7841,H⟩:=bI H
         obtain ⟨c7842,H⟩:=iN H
         refine G.lex mixed [1,3,6,9,10,0,2,4,5,7,8,11] (by kernel_rfl) ?_
         replace HS:=HS.drew
         refine qL Z Z (fun _ _ g=>fL b23 1 Xu Z g) Z (GX.ps 4 Z (GX.l1 Z Z Z (fun _ g=>lW 6 HS Z Du g) Z (GX.l1 Z Z Z (fun _ g=>lB 2 HS Z Q3 Z g) Z (qL Z Z (fun _ _ g=>iX Z U65 Od h7838 c7837 g) Z (GX.l1 Z Z Z (fun _ g=>GO.Dt (T:=(Ty.slice 2 (Ad .i64))) (n:=x2698.toNat) (o:=0) HS (ro 4 Z) Z Z (getD_some (d:=[]) (ltN c7837)) Z Z Ha Z g) Z (qL Z Z (fun _ _ g=>GO.ix Z Z Z U26 sz2 ((Ce.elem (ro 4 Z) c7837.1 c7837.2) _ HS).2.2.1 c7839.1 c7839.2 Z g) Z (GX.l1 Z Z Z (fun _ g=>GO.Dt (T:=(Ad .i64)) (n:=t7829.toNat) (o:=0) HS (Ce.elem (ro 4 Z) c7837.1 c7837.2) Z Z (getD_some (d:=0) (ltN c7839)) Z Z na2 Z g) Z (GX.l2 Z ?_))))))))
         replace HS:=HS.pk 13 [7,0,1,2,3,4,5,6,8,9,10,11,12] Z
         refine fJ Td Z (Ga.calls HS  h7841) (fun _ wd7843 ⟨h7844,HS⟩=>⟨_,h7844,(GX.fin tv (GX.nil ?_))⟩)
         replace HS:=HS.F8 (j:=7) (cs':=[I t40,I t41,sV A44 t7840 c45]) Z (by simp only [sV,List.length_set,c7842] <;> rfl)
         refine rN 3 Z (gW (r5 h3 (Nat.le_of_succ_le e4) _ _ _ H (HS.pk 13 [1,2,3,4,5,6,7,0,8,9,10,11,12] Z)) Z)
        rcases iS H with ⟨c7845,H⟩ | ⟨c7845,H⟩
        ·
         refine nB Z (tF c7845) (G.skip (gW (s2 s1 (lR _) _ _ H HS) Z))
        refine yB Z (tT c7845) (rG (mV Z (GO.neg Z Z Z (aS Z (nL (gW (s2 s1 (lR _) _ _ H HS) Z))))))
       exact gW (h4 f1 (lR _) _ _ _ H (HS.pk 14 [2,3,4,5,6,7,8,9,10,11,12,13,0] Z)) Z
      exact gW (p3 g1 (lR _) _ _ _ _ _ _ H HS) Z
     refine rG (pS 3 Z (kN 68 Z (tT c6905) (oN Z (mV Z (bK (oN Z (GO.eql Z Z Z Z (bK (GO.Gw Z Z Z Z Z (nL ?_))))))))))
     rcases iE H with ⟨c6906,H⟩ | ⟨c6906,H⟩
     ·
      refine yB Z (tT c6906) (rN 4 Z ?_)
      obtain ⟨c6907,H⟩:=iN H
      obtain ⟨c6908,H⟩:=iN H
      refine rG (fL b23 1 Xu Z (lB 2 HS Z Q3 Z (mV Z (iX Z U65 Od (rk (ro 4 Z) HS) c6907 (GO.Dt (T:=(Ty.slice 2 (Ad .i64))) (n:=x2698.toNat) (o:=0) HS (ro 4 Z) Z Z (getD_some (d:=[]) (ltN c6907)) Z Z Ha Z (mV Z (GO.ix Z Z Z U26 sz2 ((Ce.elem (ro 4 Z) c6907.1 c6907.2) _ HS).2.2.1 c6908.1 c6908.2 Z (GO.Dt (T:=(Ad .i64)) (n:=x5865.toNat) (o:=0) HS (Ce.elem (ro 4 Z) c6907.1 c6907.2) Z Z (getD_some (d:=0) (ltN c6908)) Z Z na2 Z (aS Z (nL (rN 2 Z ?_)))))))))))
      obtain ⟨t6909,h6910,H⟩:=bI H
      refine rG (pS 2 Z (fJ jP Z (Fx.calls HS (ro 10 Z) h6910) (fun _ wd6911 ⟨h6912,HS⟩=>⟨_,h6912,(nL ?_)⟩)))
      rcases iE H with ⟨c6913,H⟩ | ⟨c6913,H⟩
      ·
       refine yB Z c6913 (rN 3 Z (gW (z1 g1 (lR _) _ _ _ _ _ _ H HS) Z))
      refine nB Z (Cy c6913) (rN 2 Z ?_)
      obtain ⟨c6919,H⟩:=iN H
      refine rG (pS 2 Z (GO.Fj (el:=2) ([I ((t6.getD x2698.toNat []).getD x5865.toNat 0)]) HS Z Z (fun _=>by kernel_rfl) Z fun b6914 wd6915 HS=>GO.app1 (T:=(Ad .i64)) (j:=11) (jb:=0) ((t6.getD x2698.toNat []).getD x5865.toNat 0) HS Z Z Av Z Z Z U26 Le Z Z Z c6919 Z fun A6917 c6918 wd6916 HS=>aS Z (nL (sQ ?_))))
      obtain ⟨t6920,t6921,h6922,H⟩:=De H
      refine rG (mV Z (fJ dX Z (H7.calls HS  h6922) (fun _ wd6923 ⟨h6924,HS⟩=>⟨_,h6924,(pS 5 Z (nL (sQ ?_)))⟩)))
      obtain ⟨c6925,H⟩:=iN H
      have h6926:=(rk (ro 4 Z) HS)
      obtain ⟨c6927,H⟩:=iN H
      obtain ⟨t6928,h6929,H⟩:=bI H
      obtain ⟨c6930,H⟩:=iN H
      refine G.lex mixed [1,3,6,9,0,2,4,5,7,8,10] (by kernel_rfl) ?_
      replace HS:=HS.drew
      refine qL Z Z (fun _ _ g=>fL b23 0 dO Z g) Z (GX.ps 3 Z (GX.l1 Z Z Z (fun _ g=>lW 7 HS Z Du g) Z (GX.l1 Z Z Z (fun _ g=>lB 3 HS Z Q3 Z g) Z (qL Z Z (fun _ _ g=>iX Z U65 Od h6926 c6925 g) Z (GX.l1 Z Z Z (fun _ g=>GO.Dt (T:=(Ty.slice 2 (Ad .i64))) (n:=x2698.toNat) (o:=0) HS (ro 4 Z) Z Z (getD_some (d:=[]) (ltN c6925)) Z Z Ha Z g) Z (qL Z Z (fun _ _ g=>GO.ix Z Z Z U26 sz2 ((Ce.elem (ro 4 Z) c6925.1 c6925.2) _ HS).2.2.1 c6927.1 c6927.2 Z g) Z (GX.l1 Z Z Z (fun _ g=>GO.Dt (T:=(Ad .i64)) (n:=t6921.toNat) (o:=0) HS (Ce.elem (ro 4 Z) c6925.1 c6925.2) Z Z (getD_some (d:=0) (ltN c6927)) Z Z na2 Z g) Z (GX.l2 Z ?_))))))))
      replace HS:=HS.pk 13 [8,0,1,2,3,4,5,6,7,9,10,11,12] Z
      refine fJ Td Z (Ga.calls HS  h6929) (fun _ wd6931 ⟨h6932,HS⟩=>⟨_,h6932,(GX.fin tv (GX.nil ?_))⟩)
      replace HS:=HS.F8 (j:=8) (cs':=[I t40,I t41,sV A44 t6928 c45]) Z (by simp only [sV,List.length_set,c6930] <;> rfl)
      have h6933:=(rk (ro 5 Z) HS)
      obtain ⟨c6934,H⟩:=iN H
      obtain ⟨t6935,h6936,H⟩:=bI H
      obtain ⟨c6937,H⟩:=iN H
      refine G.lex mixed [1,3,6,9,0,2,4,5,7,8,10] (by kernel_rfl) ?_
      replace HS:=HS.drew
      refine qL Z Z (fun _ _ g=>fL b23 0 dO Z g) Z (GX.ps 3 Z (GX.l1 Z Z Z (fun _ g=>lW 8 HS Z Du g) Z (GX.l1 Z Z Z (fun _ g=>lB 4 HS Z Q3 Z g) Z (qL Z Z (fun _ _ g=>iX Z U65 Od h6933 c6925 g) Z (GX.l1 Z Z Z (fun _ g=>GO.Dt (T:=(Ty.slice 2 (Ad .i64))) (n:=x2698.toNat) (o:=0) HS (ro 5 Z) Z Z (getD_some (d:=[]) (ltN c6925)) Z Z Ha Z g) Z (qL Z Z (fun _ _ g=>GO.ix Z Z Z U26 sz2 ((Ce.elem (ro 5 Z) c6925.1 c6925.2) _ HS).2.2.1 c6934.1 c6934.2 Z g) Z (GX.l1 Z Z Z (fun _ g=>GO.Dt (T:=(Ad .i64)) (n:=t6920.toNat) (o:=0) HS (Ce.elem (ro 5 Z) c6925.1 c6925.2) Z Z (getD_some (d:=0) (ltN c6934)) Z Z na2 Z g) Z (GX.l2 Z ?_))))))))
      replace HS:=HS.pk 13 [0,1,2,3,4,5,6,7,8,9,10,11,12] Z
      refine fJ Td Z (Ga.calls HS  h6936) (fun _ wd6938 ⟨h6939,HS⟩=>⟨_,h6939,(GX.fin tv (GX.nil ?_))⟩)
      replace HS:=HS.F8 (j:=8) (cs':=[I t40,I t41,sV A44 t6935 c45]) Z (by simp only [sV,List.length_set,c6937] <;> rfl)
      refine rN 3 Z (gW (z1 g1 (lR _) _ _ _ _ _ _ H (HS.pk 13 [2,3,4,5,6,7,8,0,9,10,11,12] Z)) Z)
     refine nB Z (tF c6906) (rN 6 Z ?_)
     refine G.name (fun m3 f4=>?_)
     have i4:∀ p2,p2≤g1→∀ (x7072:List Int) (A7073:Option Addr) (c7074:Nat) (x7075:List Int) (x7076:Int) (w:World),Ac.Tj K p2 a1 o t5 t6 t7 t40 t41 t51 t58 x2698 x5864 x7072 x7075 x7076=some (r1,r2,r3)→St w0 w (Box b1 33 [sV A_a a1 c_a]::Box b3 57 [I 0,I 0,.slice none 0 0]::Box b23 95 [sV A10 t5 c11,sV A13 t6 c14,sV A16 t7 c17]::Own (Ty.slice 2 (Ad .i64)) 26 A10 c11 y12 t5::Own (Ty.slice 2 (Ad .i64)) 26 A13 c14 y15 t6::Own (Ty.slice 2 (Ad .i64)) 26 A16 c17 y18 t7::Box b48 57 [I t40,I t41,sV A44 x7072 c45]::Own (Ad .i64) 2 A44 c45 uu x7072::Own (Ty.slice 2 (Ad .i64)) 26 A53 c54 y55 t51::Own (Ty.slice 2 (Ad .i64)) 26 A60 c61 y62 t58::Own (Ad .i64) 2 A5862 c5863 uu x5864::Own (Ad .i64) 2 A7073 c7074 uu x7075::L)→G prog 36 214 [(1,I o),(2,pT b1),(4,pT b3),(5,pT b23),(8,pT b48),(9,sV A53 t51 c54),(10,sV A60 t58 c61),(11,sV A5862 x5864 c5863),(12,sV A7073 x7075 c7074),(13,I x2698),(18,I x7076),(69,I o),(70,.bool (decide (o=1)))] m3 w (Ac.post w0 L r1 r2 r3):=by
      refine lp (fun _ _ _ _ _ w H _=>by rw [Ac.Tj] at H; cases H) fun e1 v1 x2 x7072 A7073 c7074 x7075 x7076 w H HS=>?_
      rw [Ac.Tj] at H
      subst f4
      refine rN 2 Z ?_
      rcases iS H with ⟨c7260,H⟩ | ⟨c7260,H⟩
      ·
       refine rG (pS 3 Z (kN 118 Z (tF c7260) (oF Z (oF Z (GO.Hw Z Z Z Z Z (nL (rN 6 Z ?_)))))))
       refine G.name (fun l3 o4=>?_)
       have p4:∀ t2,t2≤e1→∀ (x7407:List Int) (x7408:Int) (w:World),Ac.gX K t2 a1 o t5 t6 t7 t40 t41 t51 t58 x2698 x5864 x7075 x7407 x7408=some (r1,r2,r3)→St w0 w (Box b1 33 [sV A_a a1 c_a]::Box b3 57 [I 0,I 0,.slice none 0 0]::Box b23 95 [sV A10 t5 c11,sV A13 t6 c14,sV A16 t7 c17]::Own (Ty.slice 2 (Ad .i64)) 26 A10 c11 y12 t5::Own (Ty.slice 2 (Ad .i64)) 26 A13 c14 y15 t6::Own (Ty.slice 2 (Ad .i64)) 26 A16 c17 y18 t7::Box b48 57 [I t40,I t41,sV A44 x7407 c45]::Own (Ad .i64) 2 A44 c45 uu x7407::Own (Ty.slice 2 (Ad .i64)) 26 A53 c54 y55 t51::Own (Ty.slice 2 (Ad .i64)) 26 A60 c61 y62 t58::Own (Ad .i64) 2 A5862 c5863 uu x5864::Own (Ad .i64) 2 A7073 c7074 uu x7075::L)→G prog 36 214 [(1,I o),(2,pT b1),(4,pT b3),(5,pT b23),(8,pT b48),(9,sV A53 t51 c54),(10,sV A60 t58 c61),(11,sV A5862 x5864 c5863),(12,sV A7073 x7075 c7074),(13,I x2698),(24,I x7408),(69,I o),(70,.bool (decide (o=1)))] l3 w (Ac.post w0 L r1 r2 r3):=by
        refine lp (fun _ _ w H _=>by rw [Ac.gX] at H; cases H) fun i1 e3 o3 x7407 x7408 w H HS=>?_
        rw [Ac.gX] at H
        subst o4
        refine rN 2 Z ?_
        rcases iS H with ⟨c7426,H⟩ | ⟨c7426,H⟩
        ·
         refine rG (pS 3 Z (kN 183 Z (tF c7426) (oF Z (oF Z (GO.Hw Z Z Z Z Z (nL (rN 5 Z (gW (d1 i1 (Nat.le_trans (Nat.le_of_succ_le e3) (Nat.le_trans (Nat.le_of_succ_le v1) (Nat.le_of_succ_le c1))) _ _ _ _ _ _ _ _ _ H HS) Z))))))))
        refine rG (pS 3 Z (kN 183 Z (tT c7426) (oN Z (mV Z (bK (oN Z (GO.eql Z Z Z Z (bK (GO.Gw Z Z Z Z Z (nL ?_))))))))))
        rcases iS H with ⟨c7427,H⟩ | ⟨c7427,H⟩
        ·
         refine nB Z (tF c7427) (rN 4 Z (gW (d1 i1 (Nat.le_trans (Nat.le_of_succ_le e3) (Nat.le_trans (Nat.le_of_succ_le v1) (Nat.le_of_succ_le c1))) _ _ _ _ _ _ _ _ _ H HS) Z))
        refine yB Z (tT c7427) (rN 4 Z ?_)
        obtain ⟨c7428,H⟩:=iN H
        obtain ⟨c7429,H⟩:=iN H
        refine rG (pS 2 Z (iX Z U65 Od (rk (ro 9 Z) HS) c7428 (GO.Dt (T:=(Ty.slice 2 (Ad .i64))) (n:=x2698.toNat) (o:=0) HS (ro 9 Z) Z Z (getD_some (d:=[]) (ltN c7428)) Z Z Ha Z (mV Z (GO.ix Z Z Z U26 sz2 ((Ce.elem (ro 9 Z) c7428.1 c7428.2) _ HS).2.2.1 c7429.1 c7429.2 Z (GO.Dt (T:=(Ad .i64)) (n:=x7408.toNat) (o:=0) HS (Ce.elem (ro 9 Z) c7428.1 c7428.2) Z Z (getD_some (d:=0) (ltN c7429)) Z Z na2 Z (aS Z (nL (rN 2 Z (rG (mV Z (GO.rem Z Z Z (by decide) Z (GO.eql Z Z Z Z (nL ?_))))))))))))))
        refine G.Oa (fun p5 i3=>?_)
        have a3:∀ c2,c2≤i1→∀ (x7431:Int) (w:World),Ac.jT K c2 a1 o t5 t6 t7 t40 t41 t51 t58 x2698 x5864 x7075 x7407 x7408 x7431=some (r1,r2,r3)→St w0 w (Box b1 33 [sV A_a a1 c_a]::Box b3 57 [I 0,I 0,.slice none 0 0]::Box b23 95 [sV A10 t5 c11,sV A13 t6 c14,sV A16 t7 c17]::Own (Ty.slice 2 (Ad .i64)) 26 A10 c11 y12 t5::Own (Ty.slice 2 (Ad .i64)) 26 A13 c14 y15 t6::Own (Ty.slice 2 (Ad .i64)) 26 A16 c17 y18 t7::Box b48 57 [I t40,I t41,sV A44 x7407 c45]::Own (Ad .i64) 2 A44 c45 uu x7407::Own (Ty.slice 2 (Ad .i64)) 26 A53 c54 y55 t51::Own (Ty.slice 2 (Ad .i64)) 26 A60 c61 y62 t58::Own (Ad .i64) 2 A5862 c5863 uu x5864::Own (Ad .i64) 2 A7073 c7074 uu x7075::L)→G prog 36 214 [(1,I o),(2,pT b1),(4,pT b3),(5,pT b23),(8,pT b48),(9,sV A53 t51 c54),(10,sV A60 t58 c61),(11,sV A5862 x5864 c5863),(12,sV A7073 x7075 c7074),(13,I x2698),(24,I x7408),(25,I x7431),(69,I o),(70,.bool (decide (o=1))),(184,I o),(185,.bool (decide (o=3)))] p5 w (Ac.post w0 L r1 r2 r3):=by
         refine jp (fun _ w H _=>by rw [Ac.jT] at H; cases H) fun j3 g4 x7431 w H HS=>?_
         rw [Ac.jT] at H
         subst i3
         obtain ⟨c7432,H⟩:=iN H
         have h7433:=(rk (ro 5 Z) HS)
         obtain ⟨c7434,H⟩:=iN H
         obtain ⟨t7435,h7436,H⟩:=bI H
         obtain ⟨c7437,H⟩:=iN H
         refine G.lex mixed [1,3,6,9,10,0,2,4,5,7,8,11] (by kernel_rfl) ?_
         replace HS:=HS.drew
         refine qL Z Z (fun _ _ g=>fL b23 2 Qv Z g) Z (GX.ps 4 Z (GX.l1 Z Z Z (fun _ g=>lW 6 HS Z Du g) Z (GX.l1 Z Z Z (fun _ g=>lB 2 HS Z Q3 Z g) Z (qL Z Z (fun _ _ g=>iX Z U65 Od h7433 c7432 g) Z (GX.l1 Z Z Z (fun _ g=>GO.Dt (T:=(Ty.slice 2 (Ad .i64))) (n:=x2698.toNat) (o:=0) HS (ro 5 Z) Z Z (getD_some (d:=[]) (ltN c7432)) Z Z Ha Z g) Z (qL Z Z (fun _ _ g=>GO.ix Z Z Z U26 sz2 ((Ce.elem (ro 5 Z) c7432.1 c7432.2) _ HS).2.2.1 c7434.1 c7434.2 Z g) Z (GX.l1 Z Z Z (fun _ g=>GO.Dt (T:=(Ad .i64)) (n:=x7408.toNat) (o:=0) HS (Ce.elem (ro 5 Z) c7432.1 c7432.2) Z Z (getD_some (d:=0) (ltN c7434)) Z Z na2 Z g) Z (GX.l2 Z ?_))))))))
         replace HS:=HS.pk 12 [7,0,1,2,3,4,5,6,8,9,10,11] Z
         refine fJ Td Z (Ga.calls HS  h7436) (fun _ wd7438 ⟨h7439,HS⟩=>⟨_,h7439,(GX.fin tv (GX.nil ?_))⟩)
         replace HS:=HS.F8 (j:=7) (cs':=[I t40,I t41,sV A44 t7435 c45]) Z (by simp only [sV,List.length_set,c7437] <;> rfl)
         refine rN 3 Z (gW (o3 j3 (Nat.le_of_succ_le g4) _ _ _ H (HS.pk 12 [1,2,3,4,5,6,7,0,8,9,10,11] Z)) Z)
        rcases iS H with ⟨c7440,H⟩ | ⟨c7440,H⟩
        ·
         refine nB Z (tF c7440) (G.skip (gW (a3 i1 (lR _) _ _ H HS) Z))
        refine yB Z (tT c7440) (rG (mV Z (GO.neg Z Z Z (aS Z (nL (gW (a3 i1 (lR _) _ _ H HS) Z))))))
       exact gW (p4 e1 (lR _) _ _ _ H HS) Z
      refine rG (pS 3 Z (kN 118 Z (tT c7260) (oN Z (mV Z (bK (oN Z (GO.eql Z Z Z Z (bK (GO.Gw Z Z Z Z Z (nL ?_))))))))))
      rcases iS H with ⟨c7261,H⟩ | ⟨c7261,H⟩
      ·
       refine nB Z (tF c7261) (rN 5 Z ?_)
       refine G.name (fun y4 d5=>?_)
       have l5:∀ o2,o2≤e1→∀ (x7359:List Int) (x7360:Int) (w:World),Ac.Xo K o2 a1 o t5 t6 t7 t40 t41 t51 t58 x2698 x5864 x7075 x7359 x7360=some (r1,r2,r3)→St w0 w (Box b1 33 [sV A_a a1 c_a]::Box b3 57 [I 0,I 0,.slice none 0 0]::Box b23 95 [sV A10 t5 c11,sV A13 t6 c14,sV A16 t7 c17]::Own (Ty.slice 2 (Ad .i64)) 26 A10 c11 y12 t5::Own (Ty.slice 2 (Ad .i64)) 26 A13 c14 y15 t6::Own (Ty.slice 2 (Ad .i64)) 26 A16 c17 y18 t7::Box b48 57 [I t40,I t41,sV A44 x7359 c45]::Own (Ad .i64) 2 A44 c45 uu x7359::Own (Ty.slice 2 (Ad .i64)) 26 A53 c54 y55 t51::Own (Ty.slice 2 (Ad .i64)) 26 A60 c61 y62 t58::Own (Ad .i64) 2 A5862 c5863 uu x5864::Own (Ad .i64) 2 A7073 c7074 uu x7075::L)→G prog 36 214 [(1,I o),(2,pT b1),(4,pT b3),(5,pT b23),(8,pT b48),(9,sV A53 t51 c54),(10,sV A60 t58 c61),(11,sV A5862 x5864 c5863),(12,sV A7073 x7075 c7074),(13,I x2698),(24,I x7360),(69,I o),(70,.bool (decide (o=1))),(119,I o),(120,.bool (decide (o=2)))] y4 w (Ac.post w0 L r1 r2 r3):=by
        refine lp (fun _ _ w H _=>by rw [Ac.Xo] at H; cases H) fun o1 z2 m5 x7359 x7360 w H HS=>?_
        rw [Ac.Xo] at H
        subst d5
        refine rN 2 Z ?_
        rcases iS H with ⟨c7378,H⟩ | ⟨c7378,H⟩
        ·
         refine rG (pS 3 Z (kN 183 Z (tF c7378) (oF Z (oF Z (GO.Hw Z Z Z Z Z (nL (rN 5 Z (gW (d1 o1 (Nat.le_trans (Nat.le_of_succ_le z2) (Nat.le_trans (Nat.le_of_succ_le v1) (Nat.le_of_succ_le c1))) _ _ _ _ _ _ _ _ _ H HS) Z))))))))
        refine rG (pS 3 Z (kN 183 Z (tT c7378) (oN Z (mV Z (bK (oN Z (GO.eql Z Z Z Z (bK (GO.Gw Z Z Z Z Z (nL ?_))))))))))
        rcases iS H with ⟨c7379,H⟩ | ⟨c7379,H⟩
        ·
         refine nB Z (tF c7379) (rN 4 Z (gW (d1 o1 (Nat.le_trans (Nat.le_of_succ_le z2) (Nat.le_trans (Nat.le_of_succ_le v1) (Nat.le_of_succ_le c1))) _ _ _ _ _ _ _ _ _ H HS) Z))
        refine yB Z (tT c7379) (rN 4 Z ?_)
        obtain ⟨c7380,H⟩:=iN H
        obtain ⟨c7381,H⟩:=iN H
        refine rG (pS 2 Z (iX Z U65 Od (rk (ro 9 Z) HS) c7380 (GO.Dt (T:=(Ty.slice 2 (Ad .i64))) (n:=x2698.toNat) (o:=0) HS (ro 9 Z) Z Z (getD_some (d:=[]) (ltN c7380)) Z Z Ha Z (mV Z (GO.ix Z Z Z U26 sz2 ((Ce.elem (ro 9 Z) c7380.1 c7380.2) _ HS).2.2.1 c7381.1 c7381.2 Z (GO.Dt (T:=(Ad .i64)) (n:=x7360.toNat) (o:=0) HS (Ce.elem (ro 9 Z) c7380.1 c7380.2) Z Z (getD_some (d:=0) (ltN c7381)) Z Z na2 Z (aS Z (nL (rN 2 Z (rG (mV Z (GO.rem Z Z Z (by decide) Z (GO.eql Z Z Z Z (nL ?_))))))))))))))
        refine G.Oa (fun i5 e5=>?_)
        have e2:∀ f3,f3≤o1→∀ (x7383:Int) (w:World),Ac.aV K f3 a1 o t5 t6 t7 t40 t41 t51 t58 x2698 x5864 x7075 x7359 x7360 x7383=some (r1,r2,r3)→St w0 w (Box b1 33 [sV A_a a1 c_a]::Box b3 57 [I 0,I 0,.slice none 0 0]::Box b23 95 [sV A10 t5 c11,sV A13 t6 c14,sV A16 t7 c17]::Own (Ty.slice 2 (Ad .i64)) 26 A10 c11 y12 t5::Own (Ty.slice 2 (Ad .i64)) 26 A13 c14 y15 t6::Own (Ty.slice 2 (Ad .i64)) 26 A16 c17 y18 t7::Box b48 57 [I t40,I t41,sV A44 x7359 c45]::Own (Ad .i64) 2 A44 c45 uu x7359::Own (Ty.slice 2 (Ad .i64)) 26 A53 c54 y55 t51::Own (Ty.slice 2 (Ad .i64)) 26 A60 c61 y62 t58::Own (Ad .i64) 2 A5862 c5863 uu x5864::Own (Ad .i64) 2 A7073 c7074 uu x7075::L)→G prog 36 214 [(1,I o),(2,pT b1),(4,pT b3),(5,pT b23),(8,pT b48),(9,sV A53 t51 c54),(10,sV A60 t58 c61),(11,sV A5862 x5864 c5863),(12,sV A7073 x7075 c7074),(13,I x2698),(24,I x7360),(25,I x7383),(69,I o),(70,.bool (decide (o=1))),(119,I o),(120,.bool (decide (o=2))),(184,I o),(185,.bool (decide (o=3)))] i5 w (Ac.post w0 L r1 r2 r3):=by
         refine jp (fun _ w H _=>by rw [Ac.aV] at H; cases H) fun u5 u4 x7383 w H HS=>?_
         rw [Ac.aV] at H
         subst e5
         obtain ⟨c7384,H⟩:=iN H
         have h7385:=(rk (ro 5 Z) HS)
         obtain ⟨c7386,H⟩:=iN H
         obtain ⟨t7387,h7388,H⟩:=bI H
         obtain ⟨c7389,H⟩:=iN H
         refine G.lex mixed [1,3,6,9,10,0,2,4,5,7,8,11] (by kernel_rfl) ?_
         replace HS:=HS.drew
         refine qL Z Z (fun _ _ g=>fL b23 2 Qv Z g) Z (GX.ps 4 Z (GX.l1 Z Z Z (fun _ g=>lW 6 HS Z Du g) Z (GX.l1 Z Z Z (fun _ g=>lB 2 HS Z Q3 Z g) Z (qL Z Z (fun _ _ g=>iX Z U65 Od h7385 c7384 g) Z (GX.l1 Z Z Z (fun _ g=>GO.Dt (T:=(Ty.slice 2 (Ad .i64))) (n:=x2698.toNat) (o:=0) HS (ro 5 Z) Z Z (getD_some (d:=[]) (ltN c7384)) Z Z Ha Z g) Z (qL Z Z (fun _ _ g=>GO.ix Z Z Z U26 sz2 ((Ce.elem (ro 5 Z) c7384.1 c7384.2) _ HS).2.2.1 c7386.1 c7386.2 Z g) Z (GX.l1 Z Z Z (fun _ g=>GO.Dt (T:=(Ad .i64)) (n:=x7360.toNat) (o:=0) HS (Ce.elem (ro 5 Z) c7384.1 c7384.2) Z Z (getD_some (d:=0) (ltN c7386)) Z Z na2 Z g) Z (GX.l2 Z ?_))))))))
         replace HS:=HS.pk 12 [7,0,1,2,3,4,5,6,8,9,10,11] Z
         refine fJ Td Z (Ga.calls HS  h7388) (fun _ wd7390 ⟨h7391,HS⟩=>⟨_,h7391,(GX.fin tv (GX.nil ?_))⟩)
         replace HS:=HS.F8 (j:=7) (cs':=[I t40,I t41,sV A44 t7387 c45]) Z (by simp only [sV,List.length_set,c7389] <;> rfl)
         refine rN 3 Z (gW (m5 u5 (Nat.le_of_succ_le u4) _ _ _ H (HS.pk 12 [1,2,3,4,5,6,7,0,8,9,10,11] Z)) Z)
        rcases iS H with ⟨c7392,H⟩ | ⟨c7392,H⟩
        ·
         refine nB Z (tF c7392) (G.skip (gW (e2 o1 (lR _) _ _ H HS) Z))
        refine yB Z (tT c7392) (rG (mV Z (GO.neg Z Z Z (aS Z (nL (gW (e2 o1 (lR _) _ _ H HS) Z))))))
       exact gW (l5 e1 (lR _) _ _ _ H HS) Z
      refine yB Z (tT c7261) (rN 4 Z ?_)
      obtain ⟨c7262,H⟩:=iN H
      obtain ⟨c7263,H⟩:=iN H
      refine rG (fL b23 2 Qv Z (lB 2 HS Z Q3 Z (mV Z (iX Z U65 Od (rk (ro 5 Z) HS) c7262 (GO.Dt (T:=(Ty.slice 2 (Ad .i64))) (n:=x2698.toNat) (o:=0) HS (ro 5 Z) Z Z (getD_some (d:=[]) (ltN c7262)) Z Z Ha Z (mV Z (GO.ix Z Z Z U26 sz2 ((Ce.elem (ro 5 Z) c7262.1 c7262.2) _ HS).2.2.1 c7263.1 c7263.2 Z (GO.Dt (T:=(Ad .i64)) (n:=x7076.toNat) (o:=0) HS (Ce.elem (ro 5 Z) c7262.1 c7262.2) Z Z (getD_some (d:=0) (ltN c7263)) Z Z na2 Z (aS Z (nL (rN 2 Z ?_)))))))))))
      obtain ⟨t7264,h7265,H⟩:=bI H
      refine rG (pS 2 Z (fJ jP Z (Fx.calls HS (ro 11 Z) h7265) (fun _ wd7266 ⟨h7267,HS⟩=>⟨_,h7267,(nL ?_)⟩)))
      rcases iE H with ⟨c7268,H⟩ | ⟨c7268,H⟩
      ·
       refine yB Z c7268 (rN 3 Z (gW (x2 e1 (lR _) _ _ _ _ _ _ H HS) Z))
      refine nB Z (Cy c7268) (rN 2 Z ?_)
      obtain ⟨c7274,H⟩:=iN H
      refine rG (pS 2 Z (GO.Fj (el:=2) ([I ((t7.getD x2698.toNat []).getD x7076.toNat 0)]) HS Z Z (fun _=>by kernel_rfl) Z fun b7269 wd7270 HS=>GO.app1 (T:=(Ad .i64)) (j:=12) (jb:=0) ((t7.getD x2698.toNat []).getD x7076.toNat 0) HS Z Z Av Z Z Z U26 Le Z Z Z c7274 Z fun A7272 c7273 wd7271 HS=>aS Z (nL (sQ ?_))))
      obtain ⟨t7275,h7276,H⟩:=bI H
      refine rG (mV Z (fJ iU Z (Fh.calls HS  h7276) (fun _ wd7279 ⟨A7277,c7278,h7280,HS⟩=>⟨_,h7280,(aS Z (nL (rN 4 Z ?_)))⟩)))
      refine G.name (fun v3 z4=>?_)
      have y3:∀ d2,d2≤e1→∀ (x7299:List Int) (x7300:Int) (w:World),Ac.Zt K d2 a1 o t5 t6 t7 t40 t41 t51 t58 x2698 x5864 x7075 x7076 t7275 x7299 x7300=some (r1,r2,r3)→St w0 w (Box b1 33 [sV A_a a1 c_a]::Box b3 57 [I 0,I 0,.slice none 0 0]::Box b23 95 [sV A10 t5 c11,sV A13 t6 c14,sV A16 t7 c17]::Own (Ty.slice 2 (Ad .i64)) 26 A10 c11 y12 t5::Own (Ty.slice 2 (Ad .i64)) 26 A13 c14 y15 t6::Own (Ty.slice 2 (Ad .i64)) 26 A16 c17 y18 t7::Box b48 57 [I t40,I t41,sV A44 x7299 c45]::Own (Ad .i64) 2 A44 c45 uu x7299::Own (Ty.slice 2 (Ad .i64)) 26 A53 c54 y55 t51::Own (Ty.slice 2 (Ad .i64)) 26 A60 c61 y62 t58::Own (Ad .i64) 2 A5862 c5863 uu x5864::Own (Ad .i64) 2 A7272 c7273 uu (x7075++[(t7.getD x2698.toNat []).getD x7076.toNat 0])::Own (Ad .i64) 2 A7277 c7278 uu t7275::L)→G prog 36 214 [(1,I o),(2,pT b1),(4,pT b3),(5,pT b23),(8,pT b48),(9,sV A53 t51 c54),(10,sV A60 t58 c61),(11,sV A5862 x5864 c5863),(12,sV A7272 (x7075++[(t7.getD x2698.toNat []).getD x7076.toNat 0]) c7273),(13,I x2698),(18,I x7076),(19,I ((t7.getD x2698.toNat []).getD x7076.toNat 0)),(20,sV A7277 t7275 c7278),(21,I x7300),(69,I o),(70,.bool (decide (o=1))),(119,I o),(120,.bool (decide (o=2)))] v3 w (Ac.post w0 L r1 r2 r3):=by
       refine lp (fun _ _ w H _=>by rw [Ac.Zt] at H; cases H) fun x1 n3 t3 x7299 x7300 w H HS=>?_
       rw [Ac.Zt] at H
       subst z4
       refine rN 3 Z ?_
       rcases iS H with ⟨c7323,H⟩ | ⟨c7323,H⟩
       ·
        refine nB Z (tF c7323) (rN 4 Z (gW (x2 x1 (Nat.le_of_succ_le n3) _ _ _ _ _ _ H (HS.pk 13 [0,1,2,3,4,5,6,7,8,9,10,11] Z)) Z))
       refine yB Z (tT c7323) (rN 4 Z ?_)
       obtain ⟨c7324,H⟩:=iN H
       have h7325:=(rk (ro 12 Z) HS)
       obtain ⟨c7326,H⟩:=iN H
       have h7327:=(rk (ro 12 Z) HS)
       obtain ⟨t7328,h7329,H⟩:=bI H
       refine G.lex mixed [0,1,2,3,4,6,7,8,9,10,5,11,12,13] (by kernel_rfl) ?_
       replace HS:=HS.drew
       refine GX.ps 3 Z (qL Z Z (fun _ _ g=>GO.rem Z Z Z (by decide) Z g) Z (qL Z Z (fun _ _ g=>iX Z U26 sz2 h7325 c7324 g) Z (GX.ps 3 Z (qL Z Z (fun _ _ g=>GO.rem Z Z Z (by decide) Z g) Z (qL Z Z (fun _ _ g=>iX Z U26 sz2 h7327 c7326 g) Z (GX.l1 Z Z Z (fun _ g=>GO.Dt (T:=(Ad .i64)) (n:=((w64 (x7300+1)).tmod 3).toNat) (o:=0) HS (ro 12 Z) Z Z (getD_some (d:=0) (ltN c7324)) Z Z na2 Z g) Z (GX.l1 Z Z Z (fun _ g=>GO.Dt (T:=(Ad .i64)) (n:=((w64 (x7300+2)).tmod 3).toNat) (o:=0) HS (ro 12 Z) Z Z (getD_some (d:=0) (ltN c7326)) Z Z na2 Z g) Z (GX.l2 Z (fJ fD Z (Eu.calls HS  h7329) (fun _ wd7330 ⟨h7331,HS⟩=>⟨_,h7331,(GX.fin tv (GX.ps 1 Z (GX.nil (sQ ?_))))⟩))))))))))
       obtain ⟨c7332,H⟩:=iN H
       obtain ⟨c7333,H⟩:=iN H
       refine rG (pS 2 Z (iX Z U65 Od (rk (ro 8 Z) HS) c7332 (GO.Dt (T:=(Ty.slice 2 (Ad .i64))) (n:=x2698.toNat) (o:=0) HS (ro 8 Z) Z Z (getD_some (d:=[]) (ltN c7332)) Z Z Ha Z (mV Z (GO.ix Z Z Z U26 sz2 ((Ce.elem (ro 8 Z) c7332.1 c7332.2) _ HS).2.2.1 c7333.1 c7333.2 Z (GO.Dt (T:=(Ad .i64)) (n:=t7328.toNat) (o:=0) HS (Ce.elem (ro 8 Z) c7332.1 c7332.2) Z Z (getD_some (d:=0) (ltN c7333)) Z Z na2 Z (aS Z (nL (rN 3 Z ?_)))))))))
       refine G.Oa (fun x5 a5=>?_)
       have y1:∀ b2,b2≤x1→∀ (x7335:Int) (w:World),Ac.bX K b2 a1 o t5 t6 t7 t40 t41 t51 t58 x2698 x5864 x7075 x7076 t7275 x7299 x7300 t7328 x7335=some (r1,r2,r3)→St w0 w (Box b1 33 [sV A_a a1 c_a]::Box b3 57 [I 0,I 0,.slice none 0 0]::Box b23 95 [sV A10 t5 c11,sV A13 t6 c14,sV A16 t7 c17]::Own (Ty.slice 2 (Ad .i64)) 26 A10 c11 y12 t5::Own (Ty.slice 2 (Ad .i64)) 26 A13 c14 y15 t6::Own (Ty.slice 2 (Ad .i64)) 26 A16 c17 y18 t7::Box b48 57 [I t40,I t41,sV A44 x7299 c45]::Own (Ad .i64) 2 A44 c45 uu x7299::Own (Ty.slice 2 (Ad .i64)) 26 A53 c54 y55 t51::Own (Ty.slice 2 (Ad .i64)) 26 A60 c61 y62 t58::Own (Ad .i64) 2 A5862 c5863 uu x5864::Own (Ad .i64) 2 A7272 c7273 uu (x7075++[(t7.getD x2698.toNat []).getD x7076.toNat 0])::Own (Ad .i64) 2 A7277 c7278 uu t7275::L)→G prog 36 214 [(1,I o),(2,pT b1),(4,pT b3),(5,pT b23),(8,pT b48),(9,sV A53 t51 c54),(10,sV A60 t58 c61),(11,sV A5862 x5864 c5863),(12,sV A7272 (x7075++[(t7.getD x2698.toNat []).getD x7076.toNat 0]) c7273),(13,I x2698),(18,I x7076),(19,I ((t7.getD x2698.toNat []).getD x7076.toNat 0)),(20,sV A7277 t7275 c7278),(21,I x7300),(22,I t7328),(23,I x7335),(69,I o),(70,.bool (decide (o=1))),(119,I o),(120,.bool (decide (o=2)))] x5 w (Ac.post w0 L r1 r2 r3):=by
        refine jp (fun _ w H _=>by rw [Ac.bX] at H; cases H) fun n5 m4 x7335 w H HS=>?_
        rw [Ac.bX] at H
        subst a5
        obtain ⟨c7336,H⟩:=iN H
        have h7337:=(rk (ro 4 Z) HS)
        obtain ⟨c7338,H⟩:=iN H
        obtain ⟨t7339,h7340,H⟩:=bI H
        obtain ⟨c7341,H⟩:=iN H
        refine G.lex mixed [1,3,6,9,10,0,2,4,5,7,8,11] (by kernel_rfl) ?_
        replace HS:=HS.drew
        refine qL Z Z (fun _ _ g=>fL b23 1 Xu Z g) Z (GX.ps 4 Z (GX.l1 Z Z Z (fun _ g=>lW 6 HS Z Du g) Z (GX.l1 Z Z Z (fun _ g=>lB 2 HS Z Q3 Z g) Z (qL Z Z (fun _ _ g=>iX Z U65 Od h7337 c7336 g) Z (GX.l1 Z Z Z (fun _ g=>GO.Dt (T:=(Ty.slice 2 (Ad .i64))) (n:=x2698.toNat) (o:=0) HS (ro 4 Z) Z Z (getD_some (d:=[]) (ltN c7336)) Z Z Ha Z g) Z (qL Z Z (fun _ _ g=>GO.ix Z Z Z U26 sz2 ((Ce.elem (ro 4 Z) c7336.1 c7336.2) _ HS).2.2.1 c7338.1 c7338.2 Z g) Z (GX.l1 Z Z Z (fun _ g=>GO.Dt (T:=(Ad .i64)) (n:=t7328.toNat) (o:=0) HS (Ce.elem (ro 4 Z) c7336.1 c7336.2) Z Z (getD_some (d:=0) (ltN c7338)) Z Z na2 Z g) Z (GX.l2 Z ?_))))))))
        replace HS:=HS.pk 13 [7,0,1,2,3,4,5,6,8,9,10,11,12] Z
        refine fJ Td Z (Ga.calls HS  h7340) (fun _ wd7342 ⟨h7343,HS⟩=>⟨_,h7343,(GX.fin tv (GX.nil ?_))⟩)
        replace HS:=HS.F8 (j:=7) (cs':=[I t40,I t41,sV A44 t7339 c45]) Z (by simp only [sV,List.length_set,c7341] <;> rfl)
        refine rN 3 Z (gW (t3 n5 (Nat.le_of_succ_le m4) _ _ _ H (HS.pk 13 [1,2,3,4,5,6,7,0,8,9,10,11,12] Z)) Z)
       rcases iS H with ⟨c7344,H⟩ | ⟨c7344,H⟩
       ·
        refine nB Z (tF c7344) (G.skip (gW (y1 x1 (lR _) _ _ H HS) Z))
       refine yB Z (tT c7344) (rG (mV Z (GO.neg Z Z Z (aS Z (nL (gW (y1 x1 (lR _) _ _ H HS) Z))))))
      exact gW (y3 e1 (lR _) _ _ _ H (HS.pk 14 [2,3,4,5,6,7,8,9,10,11,12,13,0] Z)) Z
     exact gW (i4 g1 (lR _) _ _ _ _ _ _ H HS) Z
    exact gW (t4 g2 (lR _) _ _ _ _ _ _ H HS) Z
   exact gW (v5 K (lR _) _ _ _ _ _ _ _ _ _ H (HS.pk 14 [11,10,5,6,7,8,13,12,3,2,1,0] Z)) Z
theorem Ik.calls {n_ low high:Int} {r1:Bool} (HS:St w0 w (L)) (H:Ik.f n_ low high=some r1) :
    Calls prog 103 #[I n_,I low,I high] w (Ik.post w0 L r1):=by
  unfold Ik.f at H
  refine cG func103 Z ?_
  refine rN 3 Z ?_
  rcases iS H with ⟨c1,H⟩ | ⟨c1,H⟩
  ·
   refine rG (pS 4 Z (kN 10 Z (tF c1) (oF Z (oF Z (oF Z (pS 2 Z (nL ?_)))))))
   obtain rfl:=sI H
   exact rT _ func103 Z Z ⟨Z,HS⟩
  refine rG (pS 4 Z (kN 10 Z (tT c1) (oN Z (mV Z (bK (oN Z (mV Z (bK (oN Z (GO.leq Z Z Z Z (bK (pS 2 Z (nL ?_)))))))))))))
  obtain rfl:=sI H
  exact rT _ func103 Z Z ⟨Z,HS⟩
theorem Eg.calls {d1 e1:Int} {a1:List Int} {r1:Bool} (HS:St w0 w (L)) (r_a:Ce w0 L (Ad .i64) A_a c_a uu a1) (H:Eg.f K d1 e1 a1=some r1) :
    Calls prog 64 #[.agg [I d1,I e1,sV A_a a1 c_a].toArray] w (Eg.post w0 L r1):=by
  unfold Eg.f at H
  refine cG func64 Z ?_
  refine sQ (rG (bA HS Z fun b1 wd2 HS=>aS Z (nL (rN 2 Z ?_))))
  obtain ⟨t13,h14,H⟩:=bI H
  rcases iS H with ⟨c17,H⟩ | ⟨c17,H⟩
  ·
   refine rG (fL b1 0 Gg Z (lB 0 HS Z na2 Z (fJ R7 Z (Ik.calls HS  h14) (fun _ wd15 ⟨h16,HS⟩=>⟨_,h16,(pS 2 Z (kN 8 Z (congrArg Bool.not (Cy c17)) (oF Z (oF Z (oF Z (oF Z (pS 2 Z (oF Z (oF Z (oF Z (oF Z ?_)))))))))))⟩))))
   refine oF Z (oF Z (oF Z (oF Z (oF Z (GO.Gw Z Z Z Z Z (nL (rN 3 Z ?_)))))))
   obtain rfl:=sI H
   exact rT _ func64 Z Z ⟨Z,(HS.pk 1 [] Z)⟩
  obtain ⟨t18,h19,H⟩:=bI H
  rcases iS H with ⟨c22,H⟩ | ⟨c22,H⟩
  ·
   refine rG (fL b1 0 Gg Z (lB 0 HS Z na2 Z (fJ R7 Z (Ik.calls HS  h14) (fun _ wd15 ⟨h16,HS⟩=>⟨_,h16,(pS 2 Z (kN 8 Z (congrArg Bool.not c17) (oN Z (fL b1 1 Ew Z (bK (oN Z (lB 0 HS Z na2 Z (bK (oN Z (fJ R7 Z (Ik.calls HS  h19) (fun _ wd20 ⟨h21,HS⟩=>⟨_,h21,(bK ?_)⟩)))))))))))⟩))))
   refine oN Z (GO.not Z Z Z (bK (pS 2 Z (kN 14 Z (congrArg Bool.not (Cy c22)) (oF Z (oF Z (oF Z (oF Z (oF Z (oF Z (oF Z (oF Z (oF Z (GO.Gw Z Z Z Z Z ?_))))))))))))))
   refine nL (rN 3 Z ?_)
   obtain rfl:=sI H
   exact rT _ func64 Z Z ⟨Z,(HS.pk 1 [] Z)⟩
  refine rG (fL b1 0 Gg Z (lB 0 HS Z na2 Z (fJ R7 Z (Ik.calls HS  h14) (fun _ wd15 ⟨h16,HS⟩=>⟨_,h16,(pS 2 Z (kN 8 Z (congrArg Bool.not c17) (oN Z (fL b1 1 Ew Z (bK (oN Z (lB 0 HS Z na2 Z (bK (oN Z (fJ R7 Z (Ik.calls HS  h19) (fun _ wd20 ⟨h21,HS⟩=>⟨_,h21,(bK ?_)⟩)))))))))))⟩))))
  refine oN Z (GO.not Z Z Z (bK (pS 2 Z (kN 14 Z (congrArg Bool.not c22) (oN Z (fL b1 2 Jf Z (bK (oN Z (lB 0 HS Z Ha Z (bK (oN Z (lS Z Z U26 Z (bK (oN Z ?_))))))))))))))
  refine fL b1 0 Gg Z (bK (oN Z (lB 0 HS Z na2 Z (bK (oN Z (fL b1 1 Ew Z (bK (oN Z (lB 0 HS Z na2 Z (bK (oN Z (GO.mul Z Z Z Z (bK (oN Z ?_))))))))))))))
  refine GO.neq Z Z Z Z (bK (GO.Hw Z Z Z Z Z (nL ?_)))
  rcases iS H with ⟨c23,H⟩ | ⟨c23,H⟩
  ·
   refine yB Z (nF c23) (rN 2 Z ?_)
   obtain rfl:=sI H
   exact rT _ func64 Z Z ⟨Z,(HS.pk 1 [] Z)⟩
  refine nB Z (nT c23) (rN 6 Z ?_)
  refine G.name (fun k1 h1=>?_)
  have i1:∀ f1,f1≤K→∀ (c1:Int) (w:World),Eg.l1 K f1 a1 c1=some r1→St w0 w (Box b1 57 [I d1,I e1,sV A_a a1 c_a]::L)→G prog 64 39 [(1,pT b1),(3,I c1)] k1 w (Eg.post w0 L r1):=by
   refine lp (fun _ w H _=>by rw [Eg.l1] at H; cases H) fun g1 n1 m1 c1 w H HS=>?_
   rw [Eg.l1] at H
   subst h1
   refine rN 2 Z (rG (mV Z (fL b1 2 Jf Z (lB 0 HS Z Ha Z (lS Z Z U26 Z (GO.lss Z Z Z Z (nL ?_)))))))
   rcases iS H with ⟨c39,H⟩ | ⟨c39,H⟩
   ·
    refine nB Z (tF c39) (rN 3 Z ?_)
    obtain rfl:=sI H
    exact rT _ func64 Z Z ⟨Z,(HS.pk 1 [] Z)⟩
   refine yB Z (tT c39) (rN 4 Z ?_)
   obtain ⟨c40,H⟩:=iN H
   obtain ⟨t41,h42,H⟩:=bI H
   refine rG (fL b1 2 Jf Z (lB 0 HS Z Ha Z (mV Z (iX Z U26 sz2 (rk (rD 1 r_a) HS) c40 (GO.Dt (T:=(Ad .i64)) (n:=c1.toNat) (o:=0) HS (rD 1 r_a) Z Z (getD_some (d:=0) (ltN c40)) Z Z na2 Z (fJ R7 Z (Ik.calls HS  h42) (fun _ wd43 ⟨h44,HS⟩=>⟨_,h44,(GO.not Z Z Z (nL ?_))⟩)))))))
   rcases iS H with ⟨c45,H⟩ | ⟨c45,H⟩
   ·
    refine yB Z (congrArg Bool.not (Cy c45)) (rN 2 Z ?_)
    obtain rfl:=sI H
    exact rT _ func64 Z Z ⟨Z,(HS.pk 1 [] Z)⟩
   refine nB Z (congrArg Bool.not c45) (rN 4 Z (gW (m1 g1 (lR _) _ _ H HS) Z))
  exact gW (i1 K (lR _) _ _ H HS) Z
theorem Cv.calls {d1 c1:Int} {a1:List Int} {row column:Int} {r1:Int} (HS:St w0 w (L)) (r_a:Ce w0 L (Ad .i64) A_a c_a uu a1) (H:Cv.f d1 c1 a1 row column=some r1) :
    Calls prog 105 #[.agg [I d1,I c1,sV A_a a1 c_a].toArray,I row,I column] w (Cv.post w0 L r1):=by
  unfold Cv.f at H
  refine cG func105 Z ?_
  refine sQ (rG (bA HS Z fun b1 wd2 HS=>aS Z (nL (sQ ?_))))
  obtain ⟨c3,H⟩:=iN H
  refine rG (fL b1 2 Jf Z (lB 0 HS Z Ha Z (mV Z (fL b1 1 Ew Z (lB 0 HS Z na2 Z (pS 3 Z (iX Z U26 sz2 (rk (rD 1 r_a) HS) c3 (GO.Dt (T:=(Ad .i64)) (n:=(w64 ((w64 (row * c1))+column)).toNat) (o:=0) HS (rD 1 r_a) Z Z (getD_some (d:=0) (ltN c3)) Z Z na2 Z (aS Z (nL ?_))))))))))
  obtain rfl:=sI H
  exact rT _ func105 Z Z ⟨Z,(HS.pk 1 [] Z)⟩
theorem G6.calls {n_ r1:Int} (HS:St w0 w (L)) (H:G6.f n_=some r1) :
    Calls prog 106 #[I n_] w (G6.post w0 L r1):=by
  unfold G6.f at H
  refine cG func106 Z ?_
  refine rN 3 Z (rG (pS 2 Z (GO.neg Z Z Z (GO.max2 Z Z Z Z (aS Z (nL ?_))))))
  obtain rfl:=sI H
  exact rT _ func106 Z Z ⟨Z,HS⟩
theorem Ir.calls {a_ b_:Int} {most r1:Int} {r2:Bool} (HS:St w0 w (L)) (H:Ir.f a_ b_ most=some (r1,r2)) :
    Calls prog 104 #[I a_,I b_,I most] w (Ir.post w0 L r1 r2):=by
  unfold Ir.f at H
  refine cG func104 Z ?_
  refine rN 4 Z ?_
  rcases iE H with ⟨c11,H⟩ | ⟨c11,H⟩
  ·
   refine rG (pS 3 Z (kN 10 Z (nT c11) (oF Z (oF Z (oF Z (oF Z (oF Z (oF Z (oF Z (GO.Hw Z Z Z Z Z (nL (rN 4 Z ?_))))))))))))
   obtain ⟨rfl,rfl⟩:=I6 H
   exact G.I9 _ _ func104 Z Z Z ⟨Z,HS⟩
  obtain ⟨t12,h13,H⟩:=bI H
  obtain ⟨t16,h17,H⟩:=bI H
  obtain ⟨c20,H⟩:=Lc H
  refine rG (pS 3 Z (kN 10 Z (nF c11) (oN Z (mV Z (bK (oN Z (fJ Ru Z (G6.calls HS  h13) (fun _ wd14 ⟨h15,HS⟩=>⟨_,h15,(bK (oN Z (mV Z (bK (oN Z (mV Z (bK ?_)))))))⟩))))))))
  refine oN Z (fJ Ru Z (G6.calls HS  h17) (fun _ wd18 ⟨h19,HS⟩=>⟨_,h19,(bK (oN Z (GO.quo Z Z Z c20 Z (bK (oN Z (GO.gtr Z Z Z Z (bK (GO.Gw Z Z Z Z Z (nL ?_)))))))))⟩))
  rcases iE H with ⟨c21,H⟩ | ⟨c21,H⟩
  ·
   refine yB Z (tT c21) (rN 2 Z ?_)
   obtain ⟨rfl,rfl⟩:=I6 H
   exact G.I9 _ _ func104 Z Z Z ⟨Z,HS⟩
  refine nB Z (tF c21) (rN 3 Z ?_)
  obtain ⟨rfl,rfl⟩:=I6 H
  exact G.I9 _ _ func104 Z Z Z ⟨Z,HS⟩
theorem Bq.calls {f1 g1:Int} {c1:List Int} {h1 a1:Int} {d1:List Int} {r1 r2:Int} {r3:List Int} {r4:Bool} (HS:St w0 w (L)) (r_a:Ce w0 L (Ad .i64) A_a c_a uu c1) (r_b:Ce w0 L (Ad .i64) A_b c_b uu d1) (H:Bq.f K f1 g1 c1 h1 a1 d1=some (r1,r2,r3,r4)) :
    Calls prog 65 #[.agg [I f1,I g1,sV A_a c1 c_a].toArray,.agg [I h1,I a1,sV A_b d1 c_b].toArray] w (Bq.post w0 L r1 r2 r3 r4):=by
  unfold Bq.f at H
  refine cG func65 Z ?_
  refine sQ (rG (bA HS Z fun b1 wd2 HS=>bA HS Z fun b3 wd4 HS=>GO.alloc HS Z Md Z Z fun b5 wd6 HS=>aS Z (nL (sQ ?_))))
  obtain ⟨t7,t8,t9,h10,H⟩:=Ej H
  refine rG (fL b1 0 Gg Z (lB 2 HS Z na2 Z (fL b3 1 Ew Z (lB 1 HS Z na2 Z (fJ eF Z (Hu.calls HS  h10) (fun _ wd13 ⟨A11,c12,h14,HS⟩=>⟨_,h14,(GO.alloc HS Z Md Z Z fun b15 wd16 HS=>sW 0 HS Z Du Z fun wd17 HS=>nL (rN 5 Z ?_))⟩))))))
  refine G.name (fun z1 i2=>?_)
  have k2:∀ t1,t1≤K→∀ (n1:List Int) (e1:Int) (w:World),Bq.l1 K t1 f1 g1 c1 h1 a1 d1 t7 t8 n1 e1=some (r1,r2,r3,r4)→St w0 w (Box b1 57 [I f1,I g1,sV A_a c1 c_a]::Box b3 57 [I h1,I a1,sV A_b d1 c_b]::Box b5 57 [I 0,I 0,.slice none 0 0]::Box b15 57 [I t7,I t8,sV A11 n1 c12]::Own (Ad .i64) 2 A11 c12 uu n1::L)→G prog 65 74 [(2,pT b1),(3,pT b3),(4,pT b5),(6,pT b15),(7,I e1)] z1 w (Bq.post w0 L r1 r2 r3 r4):=by
   refine lp (fun _ _ w H _=>by rw [Bq.l1] at H; cases H) fun v1 o2 m2 n1 e1 w H HS=>?_
   rw [Bq.l1] at H
   subst i2
   refine rN 2 Z (rG (mV Z (fL b1 0 Gg Z (lB 0 HS Z na2 Z (GO.lss Z Z Z Z (nL ?_))))))
   rcases iS H with ⟨c502,H⟩ | ⟨c502,H⟩
   ·
    refine nB Z (tF c502) (rN 2 Z (rG (lW 3 HS Z Du (sW 2 HS Z Du Z fun wd742 HS=>aS Z (nL ?_)))))
    obtain ⟨rfl,rfl,rfl,rfl⟩:=Mi H
    exact G.I9 _ _ func65 Z (I8.J6 (j:=2) (vs:=[I t7,I t8,sV A11 n1 c12]) HS Z Z Z Du) Z ⟨_,_,Z,(HS.pk 5 [4] Z)⟩
   refine yB Z (tT c502) (rN 7 Z ?_)
   refine G.name (fun g2 e2=>?_)
   have a2:∀ x1,x1≤v1→∀ (i1:List Int) (k1:Int) (w:World),Bq.l10 K x1 f1 g1 c1 h1 a1 d1 t7 t8 e1 i1 k1=some (r1,r2,r3,r4)→St w0 w (Box b1 57 [I f1,I g1,sV A_a c1 c_a]::Box b3 57 [I h1,I a1,sV A_b d1 c_b]::Box b5 57 [I 0,I 0,.slice none 0 0]::Box b15 57 [I t7,I t8,sV A11 i1 c12]::Own (Ad .i64) 2 A11 c12 uu i1::L)→G prog 65 74 [(2,pT b1),(3,pT b3),(4,pT b5),(6,pT b15),(7,I e1),(8,I k1)] g2 w (Bq.post w0 L r1 r2 r3 r4):=by
    refine lp (fun _ _ w H _=>by rw [Bq.l10] at H; cases H) fun q1 c2 h2 i1 k1 w H HS=>?_
    rw [Bq.l10] at H
    subst e2
    refine rN 2 Z (rG (mV Z (fL b3 1 Ew Z (lB 1 HS Z na2 Z (GO.lss Z Z Z Z (nL ?_))))))
    rcases iS H with ⟨c663,H⟩ | ⟨c663,H⟩
    ·
     refine nB Z (tF c663) (rN 4 Z (gW (m2 q1 (Nat.le_of_succ_le c2) _ _ _ H HS) Z))
    refine yB Z (tT c663) (rN 10 Z ?_)
    refine G.name (fun d2 f2=>?_)
    have n2:∀ u1,u1≤q1→∀ (m1 o1 p1:Int) (w:World),Bq.l13 K u1 f1 g1 c1 h1 a1 d1 t7 t8 e1 i1 k1 m1 o1 p1=some (r1,r2,r3,r4)→St w0 w (Box b1 57 [I f1,I g1,sV A_a c1 c_a]::Box b3 57 [I h1,I a1,sV A_b d1 c_b]::Box b5 57 [I 0,I 0,.slice none 0 0]::Box b15 57 [I t7,I t8,sV A11 i1 c12]::Own (Ad .i64) 2 A11 c12 uu i1::L)→G prog 65 74 [(2,pT b1),(3,pT b3),(4,pT b5),(6,pT b15),(7,I e1),(8,I k1),(9,I m1),(10,I o1),(11,I p1)] d2 w (Bq.post w0 L r1 r2 r3 r4):=by
     refine lp (fun _ _ _ w H _=>by rw [Bq.l13] at H; cases H) fun s1 y1 b2 m1 o1 p1 w H HS=>?_
     rw [Bq.l13] at H
     subst f2
     refine rN 2 Z (rG (mV Z (fL b1 1 Ew Z (lB 0 HS Z na2 Z (GO.lss Z Z Z Z (nL ?_))))))
     rcases iS H with ⟨c717,H⟩ | ⟨c717,H⟩
     ·
      refine nB Z (tF c717) (G.exit Z ?_)
      obtain ⟨c740,H⟩:=iN H
      refine rG (fL b15 2 Jf Z (lB 3 HS Z Ha Z (mV Z (fL b3 1 Ew Z (lB 1 HS Z na2 Z (pS 4 Z (iX Z U26 sz2 (rk (ro 4 Z) HS) c740 (GO.Ia (T:=(Ad .i64)) (j:=4) (n:=(w64 ((w64 (e1 * a1))+k1)).toNat) (o:=0) (vs:=[I m1]) m1 HS Z Av Z Z Z Z (htN na2 Z) Z (getD_some (d:=0) (ltN c740)) Z Z fun wd741 HS=>nL ?_))))))))
      replace HS:=HS.F8 (j:=3) (cs':=[I t7,I t8,sV A11 (i1.set ((w64 ((w64 (e1 * a1))+k1)).toNat) m1) c12]) Z (by simp only [sV,List.length_set] <;> rfl)
      refine rN 3 Z (gW (h2 s1 (Nat.le_of_succ_le y1) _ _ _ H HS) Z)
     refine yB Z (tT c717) (rN 4 Z ?_)
     obtain ⟨t718,h719,H⟩:=bI H
     obtain ⟨t722,h723,H⟩:=bI H
     obtain ⟨t726,t727,h728,H⟩:=De H
     refine G.Jg mixed (fun w=>St w0 w (Box b1 57 [I f1,I g1,sV A_a c1 c_a]::Box b3 57 [I h1,I a1,sV A_b d1 c_b]::L)) [0,4] [1,2,5,6,0,4,3,7,8,9,10,11,12,13] [] (by kernel_rfl) (by kernel_rfl) (HS.drew.pk 5 [0,1] Z) ?_
     replace HS:=HS.drew
     refine GX.ps 4 Z (GX.ls Z Z Z (HS.pk 5 [0,1] Z) (fun _ HS _ g=>lW 0 HS Z Du g) Z (GX.ls Z Z Z (HS.pk 5 [0,1] Z) (fun _ HS _ g=>lW 1 HS Z Du g) Z (GX.l2 Z (fJ Ju Z (Cv.calls HS (rD 5 r_a) h719) (fun _ wd720 ⟨h721,HS⟩=>⟨_,h721,(GX.fin (HS.pk 5 [0,1] Z) (GX.l2 Z (fJ Ju Z (Cv.calls HS (rD 5 r_b) h723) (fun _ wd724 ⟨h725,HS⟩=>⟨_,h725,(GX.fin (HS.pk 5 [0,1] Z) (GX.l2 Z (fJ iV Z (Ir.calls HS  h728) (fun _ wd729 ⟨h730,HS⟩=>⟨_,h730,(GX.fin (HS.pk 5 [0,1] Z) (GX.ps 5 Z (GX.nil (sQ ?_))))⟩))))⟩))))⟩)))))
     obtain ⟨t731,h732,H⟩:=bI H
     refine rG (pS 2 Z (fJ Ru Z (G6.calls HS  h732) (fun _ wd733 ⟨h734,HS⟩=>⟨_,h734,(pS 2 Z (nL (rN 2 Z ?_)))⟩)))
     rcases iS H with ⟨c736,H⟩ | ⟨c736,H⟩
     ·
      refine rG (pS 3 Z (kN 55 Z (congrArg Bool.not (Cy c736)) (oF Z (oF Z (GO.Gw Z Z Z Z Z (nL (rN 2 Z (rG (GO.Il (.agg [I 0,I 0,.slice none 0 0].toArray) Z Z (fun _=>by kernel_rfl) Z (sW 2 HS Z Du Z fun wd739 HS=>aS Z (nL ?_)))))))))))
      replace HS:=HS.H9 (Ad .i64) 2 uu
      obtain ⟨rfl,rfl,rfl,rfl⟩:=Mi H
      exact G.I9 _ _ func65 Z (I8.J6 (j:=3) (vs:=[I 0,I 0,.slice none 0 0]) HS Z Z Z Du) Z ⟨_,_,Z,(HS.pk 6 [0] Z)⟩
     refine rG (pS 3 Z (kN 55 Z (congrArg Bool.not c736) (oN Z (mV Z (bK (oN Z (GO.gtr Z Z Z Z (bK (GO.Hw Z Z Z Z Z (nL ?_))))))))))
     rcases iS H with ⟨c737,H⟩ | ⟨c737,H⟩
     ·
      refine nB Z (tF c737) (rN 5 Z (gW (b2 s1 (lR _) _ _ _ _ H HS) Z))
     refine yB Z (tT c737) (sQ (rG (GO.Il (.agg [I 0,I 0,.slice none 0 0].toArray) Z Z (fun _=>by kernel_rfl) Z (sW 2 HS Z Du Z fun wd738 HS=>aS Z (nL ?_)))))
     replace HS:=HS.H9 (Ad .i64) 2 uu
     obtain ⟨rfl,rfl,rfl,rfl⟩:=Mi H
     exact G.I9 _ _ func65 Z (I8.J6 (j:=3) (vs:=[I 0,I 0,.slice none 0 0]) HS Z Z Z Du) Z ⟨_,_,Z,(HS.pk 6 [0] Z)⟩
    exact gW (n2 q1 (lR _) _ _ _ _ H HS) Z
   exact gW (a2 v1 (lR _) _ _ _ H HS) Z
  exact gW (k2 K (lR _) _ _ _ H (HS.pk 5 [4,3,2,0,1] Z)) Z
theorem F5.calls {h1 g1:Int} {d1:List Int} {f1 e1:Int} {c1:List Int} {r1:Bool} (HS:St w0 w (L)) (r_a:Ce w0 L (Ad .i64) A_a c_a uu d1) (r_b:Ce w0 L (Ad .i64) A_b c_b uu c1) (H:F5.f K h1 g1 d1 f1 e1 c1=some r1) :
    Calls prog 66 #[.agg [I h1,I g1,sV A_a d1 c_a].toArray,.agg [I f1,I e1,sV A_b c1 c_b].toArray] w (F5.post w0 L r1):=by
  unfold F5.f at H
  refine cG func66 Z ?_
  refine sQ (rG (bA HS Z fun b1 wd2 HS=>bA HS Z fun b3 wd4 HS=>aS Z (nL (rN 2 Z ?_))))
  rcases iS H with ⟨c7,H⟩ | ⟨c7,H⟩
  ·
   refine rG (fL b1 0 Gg Z (lB 1 HS Z na2 Z (fL b3 0 Gg Z (lB 0 HS Z na2 Z (pS 2 Z (kN 11 Z (nF c7) (oF Z (oF Z (oF Z (oF Z (oF Z (pS 2 Z (oF Z (oF Z ?_))))))))))))))
   refine oF Z (oF Z (oF Z (oF Z (oF Z (GO.Gw Z Z Z Z Z (nL (rN 3 Z ?_)))))))
   obtain rfl:=sI H
   exact rT _ func66 Z Z ⟨Z,(HS.pk 2 [] Z)⟩
  rcases iS H with ⟨c8,H⟩ | ⟨c8,H⟩
  ·
   refine rG (fL b1 0 Gg Z (lB 1 HS Z na2 Z (fL b3 0 Gg Z (lB 0 HS Z na2 Z (pS 2 Z (kN 11 Z (nT c7) (oN Z (fL b1 1 Ew Z (bK (oN Z (lB 1 HS Z na2 Z (bK (oN Z (fL b3 1 Ew Z ?_))))))))))))))
   refine bK (oN Z (lB 0 HS Z na2 Z (bK (oN Z (GO.neq Z Z Z Z (bK (pS 2 Z (kN 18 Z (nF c8) (oF Z (oF Z (oF Z (oF Z (oF Z (oF Z ?_))))))))))))))
   refine oF Z (GO.Gw Z Z Z Z Z (nL (rN 3 Z ?_)))
   obtain rfl:=sI H
   exact rT _ func66 Z Z ⟨Z,(HS.pk 2 [] Z)⟩
  refine rG (fL b1 0 Gg Z (lB 1 HS Z na2 Z (fL b3 0 Gg Z (lB 0 HS Z na2 Z (pS 2 Z (kN 11 Z (nT c7) (oN Z (fL b1 1 Ew Z (bK (oN Z (lB 1 HS Z na2 Z (bK (oN Z (fL b3 1 Ew Z ?_))))))))))))))
  refine bK (oN Z (lB 0 HS Z na2 Z (bK (oN Z (GO.neq Z Z Z Z (bK (pS 2 Z (kN 18 Z (nT c8) (oN Z (fL b1 2 Jf Z (bK (oN Z (lB 1 HS Z Ha Z (bK ?_))))))))))))))
  refine oN Z (lS Z Z U26 Z (bK (oN Z (fL b3 2 Jf Z (bK (oN Z (lB 0 HS Z Ha Z (bK (oN Z (lS Z Z U26 Z (bK (oN Z (GO.neq Z Z Z Z (bK ?_))))))))))))))
  refine GO.Hw Z Z Z Z Z (nL ?_)
  rcases iS H with ⟨c9,H⟩ | ⟨c9,H⟩
  ·
   refine yB Z (nF c9) (rN 2 Z ?_)
   obtain rfl:=sI H
   exact rT _ func66 Z Z ⟨Z,(HS.pk 2 [] Z)⟩
  refine nB Z (nT c9) (rN 6 Z ?_)
  refine G.name (fun m1 n1=>?_)
  have o1:∀ i1,i1≤K→∀ (a1:Int) (w:World),F5.l1 K i1 d1 c1 a1=some r1→St w0 w (Box b1 57 [I h1,I g1,sV A_a d1 c_a]::Box b3 57 [I f1,I e1,sV A_b c1 c_b]::L)→G prog 66 45 [(2,pT b1),(3,pT b3),(5,I a1)] m1 w (F5.post w0 L r1):=by
   refine lp (fun _ w H _=>by rw [F5.l1] at H; cases H) fun k1 q1 p1 a1 w H HS=>?_
   rw [F5.l1] at H
   subst n1
   refine rN 2 Z (rG (mV Z (fL b1 2 Jf Z (lB 0 HS Z Ha Z (lS Z Z U26 Z (GO.lss Z Z Z Z (nL ?_)))))))
   rcases iS H with ⟨c19,H⟩ | ⟨c19,H⟩
   ·
    refine nB Z (tF c19) (rN 3 Z ?_)
    obtain rfl:=sI H
    exact rT _ func66 Z Z ⟨Z,(HS.pk 2 [] Z)⟩
   refine yB Z (tT c19) (rN 4 Z ?_)
   obtain ⟨c20,H⟩:=iN H
   obtain ⟨c21,H⟩:=iN H
   refine G.lex mixed [0,2,5,7,1,3,4,6,8,9,10] (by kernel_rfl) ?_
   replace HS:=HS.drew
   refine qL Z Z (fun _ _ g=>fL b1 2 Jf Z g) Z (GX.ps 1 Z (qL Z Z (fun _ _ g=>fL b3 2 Jf Z g) Z (GX.ps 1 Z (GX.l1 Z Z Z (fun _ g=>lB 0 HS Z Ha Z g) Z (qL Z Z (fun _ _ g=>iX Z U26 sz2 (rk (rD 2 r_a) HS) c20 g) Z (GX.l1 Z Z Z (fun _ g=>GO.Dt (T:=(Ad .i64)) (n:=a1.toNat) (o:=0) HS (rD 2 r_a) Z Z (getD_some (d:=0) (ltN c20)) Z Z na2 Z g) Z (GX.l1 Z Z Z (fun _ g=>lB 1 HS Z Ha Z g) Z (qL Z Z (fun _ _ g=>iX Z U26 sz2 (rk (rD 2 r_b) HS) c21 g) Z (GX.l1 Z Z Z (fun _ g=>GO.Dt (T:=(Ad .i64)) (n:=a1.toNat) (o:=0) HS (rD 2 r_b) Z Z (getD_some (d:=0) (ltN c21)) Z Z na2 Z g) Z (GX.ps 1 Z (GX.nil ?_)))))))))))
   rcases iS H with ⟨c22,H⟩ | ⟨c22,H⟩
   ·
    refine yB Z (nF c22) (rN 2 Z ?_)
    obtain rfl:=sI H
    exact rT _ func66 Z Z ⟨Z,(HS.pk 2 [] Z)⟩
   refine nB Z (nT c22) (rN 4 Z (gW (p1 k1 (lR _) _ _ H HS) Z))
  exact gW (o1 K (lR _) _ _ H (HS.pk 2 [1,0] Z)) Z
theorem Fq.calls {n_ r1 r2:Int} {r3:List Int} (HS:St w0 w (L)) (H:Fq.f K n_=some (r1,r2,r3)) :
    Calls prog 146 #[I n_] w (Fq.post w0 L r1 r2 r3):=by
  unfold Fq.f at H
  refine cG func146 Z ?_
  refine sQ (rG (GO.alloc HS Z Md Z Z fun b1 wd2 HS=>nL (sQ ?_)))
  obtain ⟨t3,t4,t5,h6,H⟩:=Ej H
  refine rG (pS 2 Z (fJ eF Z (Hu.calls HS  h6) (fun _ wd9 ⟨A7,c8,h10,HS⟩=>⟨_,h10,(GO.alloc HS Z Md Z Z fun b11 wd12 HS=>sW 0 HS Z Du Z fun wd13 HS=>nL (rN 5 Z ?_))⟩)))
  refine G.name (fun i1 f1=>?_)
  have g1:∀ d1,d1≤K→∀ (c1:List Int) (a1:Int) (w:World),Fq.l1 K d1 n_ t3 t4 c1 a1=some (r1,r2,r3)→St w0 w (Box b1 57 [I 0,I 0,.slice none 0 0]::Box b11 57 [I t3,I t4,sV A7 c1 c8]::Own (Ad .i64) 2 A7 c8 uu c1::L)→G prog 146 22 [(0,I n_),(2,pT b1),(3,pT b11),(4,I a1)] i1 w (Fq.post w0 L r1 r2 r3):=by
   refine lp (fun _ _ w H _=>by rw [Fq.l1] at H; cases H) fun e1 k1 h1 c1 a1 w H HS=>?_
   rw [Fq.l1] at H
   subst f1
   refine rN 3 Z ?_
   rcases iS H with ⟨c24,H⟩ | ⟨c24,H⟩
   ·
    refine nB Z (tF c24) (rN 2 Z (rG (lW 1 HS Z Du (sW 0 HS Z Du Z fun wd27 HS=>nL ?_))))
    obtain ⟨rfl,rfl,rfl⟩:=Jh H
    exact rT _ func146 Z (I8.J6 (j:=0) (vs:=[I t3,I t4,sV A7 c1 c8]) HS Z Z Z Du) ⟨_,_,Z,(HS.pk 3 [2] Z)⟩
   refine yB Z (tT c24) (rN 3 Z ?_)
   obtain ⟨c25,H⟩:=iN H
   refine rG (fL b11 2 Jf Z (lB 1 HS Z Ha Z (pS 5 Z (iX Z U26 sz2 (rk (ro 2 Z) HS) c25 (GO.Ia (T:=(Ad .i64)) (j:=2) (n:=(w64 ((w64 (a1 * n_))+a1)).toNat) (o:=0) (vs:=[I 1]) 1 HS Z Av Z Z Z Z (htN na2 Z) Z (getD_some (d:=0) (ltN c25)) Z Z fun wd26 HS=>nL ?_)))))
   replace HS:=HS.F8 (j:=1) (cs':=[I t3,I t4,sV A7 (c1.set ((w64 ((w64 (a1 * n_))+a1)).toNat) 1) c8]) Z (by simp only [sV,List.length_set] <;> rfl)
   refine rN 3 Z (gW (h1 e1 (lR _) _ _ _ H HS) Z)
  exact gW (g1 K (lR _) _ _ _ H (HS.pk 3 [2,0,1] Z)) Z
theorem E8.calls {d1 a1:Int} {e1:List Int} {a_ b_:Int} {r1:List Int} (HS:St w0 w (Own (Ad .i64) 2 A_a c_a uu e1::L)) (H:E8.f K d1 a1 e1 a_ b_=some r1) :
    Calls prog 201 #[.agg [I d1,I a1,sV A_a e1 c_a].toArray,I a_,I b_] w (E8.post w0 L A_a c_a r1):=by
  unfold E8.f at H
  refine cG func201 Z ?_
  refine sQ (rG (bA HS Z fun b1 wd2 HS=>nL (rN 4 Z ?_)))
  refine G.name (fun m1 h1=>?_)
  have i1:∀ f1,f1≤K→∀ (x17:List Int) (c1:Int) (w:World),E8.l1 K f1 d1 a1 a_ b_ x17 c1=some r1→St w0 w (Own (Ad .i64) 2 A_a c_a uu x17::Box b1 57 [I d1,I a1,sV A_a x17 c_a]::L)→G prog 201 41 [(1,I a_),(2,I b_),(3,pT b1),(6,I c1)] m1 w (E8.post w0 L A_a c_a r1):=by
   refine lp (fun _ _ w H _=>by rw [E8.l1] at H; cases H) fun g1 n1 k1 x17 c1 w H HS=>?_
   rw [E8.l1] at H
   subst h1
   refine rN 2 Z (rG (mV Z (fL b1 1 Ew Z (lB 1 HS Z na2 Z (GO.lss Z Z Z Z (nL ?_))))))
   rcases iS H with ⟨c33,H⟩ | ⟨c33,H⟩
   ·
    refine nB Z (tF c33) (G.exit Z ?_)
    obtain rfl:=sI H
    exact G.Ki func201 Z ⟨Z,(HS.pk 2 [0] Z)⟩
   refine yB Z (tT c33) (rN 4 Z ?_)
   obtain ⟨t34,h35,H⟩:=bI H
   refine rG (lW 1 HS Z Du (pS 2 Z (fJ Ju Z (Cv.calls HS (ro 0 Z) h35) (fun _ wd36 ⟨h37,HS⟩=>⟨_,h37,(aS Z (nL (sQ ?_)))⟩))))
   obtain ⟨t38,h39,H⟩:=bI H
   obtain ⟨c42,H⟩:=iN H
   have h43:=(rk (ro 0 Z) HS)
   refine G.Jg mixed (fun w=>St w0 w (Box b1 57 [I d1,I a1,sV A_a x17 c_a]::L)) [1,4,8] [0,2,3,6,9,10,1,4,5,7,8,11,12,13] [] (by kernel_rfl) (by kernel_rfl) (HS.drew.pk 2 [1] Z) ?_
   replace HS:=HS.drew
   refine qL Z Z (fun _ _ g=>fL b1 2 Jf Z g) Z (GX.ps 1 Z (qL Z Z (fun _ _ g=>fL b1 1 Ew Z g) Z (GX.ps 3 Z (GX.ls Z Z Z (HS.pk 2 [1] Z) (fun _ HS _ g=>lB 0 HS Z Ha Z g) Z (GX.ls Z Z Z (HS.pk 2 [1] Z) (fun _ HS _ g=>lB 0 HS Z na2 Z g) Z (GX.ps 2 Z (GX.ls Z Z Z (HS.pk 2 [1] Z) (fun _ HS _ g=>lW 0 HS Z Du g) Z (GX.l2 Z (fJ Ju Z (Cv.calls HS (ro 0 Z) h39) (fun _ wd40 ⟨h41,HS⟩=>⟨_,h41,(GX.fin (HS.pk 2 [1] Z) (qL Z Z (fun _ _ g=>iX Z U26 sz2 h43 c42 g) Z (GX.l2 Z (GO.Ia (T:=(Ad .i64)) (j:=0) (n:=(w64 ((w64 (a_ * a1))+c1)).toNat) (o:=0) (vs:=[I t38]) t38 HS Z Av Z Z Z Z (htN na2 Z) Z (getD_some (d:=0) (ltN c42)) Z Z fun wd44 HS=>GX.fin (HS.pk 2 [1] Z) ?_))))⟩))))))))))
   refine GX.nil ?_
   replace HS:=HS.F8 (j:=1) (cs':=[I d1,I a1,sV A_a (x17.set ((w64 ((w64 (a_ * a1))+c1)).toNat) t38) c_a]) Z (by simp only [sV,List.length_set] <;> rfl)
   obtain ⟨c45,H⟩:=iN H
   refine rG (fL b1 2 Jf Z (lB 1 HS Z Ha Z (mV Z (fL b1 1 Ew Z (lB 1 HS Z na2 Z (pS 4 Z (iX Z U26 sz2 (rk (ro 0 Z) HS) c45 (GO.Ia (T:=(Ad .i64)) (j:=0) (n:=(w64 ((w64 (b_ * a1))+c1)).toNat) (o:=0) (vs:=[I t34]) t34 HS Z Av Z Z Z Z (htN na2 Z) Z (getD_some (d:=0) (ltN c45)) Z Z fun wd46 HS=>nL ?_))))))))
   replace HS:=HS.F8 (j:=1) (cs':=[I d1,I a1,sV A_a ((x17.set ((w64 ((w64 (a_ * a1))+c1)).toNat) t38).set ((w64 ((w64 (b_ * a1))+c1)).toNat) t34) c_a]) Z (by simp only [sV,List.length_set] <;> rfl)
   refine rN 3 Z (gW (k1 g1 (lR _) _ _ _ H HS) Z)
  exact gW (i1 K (lR _) _ _ _ H (HS.pk 2 [1,0] Z)) Z
theorem D8.calls {d1 a1:Int} {e1:List Int} {a_ b_:Int} {r1:List Int} (HS:St w0 w (Own (Ad .i64) 2 A_a c_a uu e1::L)) (H:D8.f K d1 a1 e1 a_ b_=some r1) :
    Calls prog 202 #[.agg [I d1,I a1,sV A_a e1 c_a].toArray,I a_,I b_] w (D8.post w0 L A_a c_a r1):=by
  unfold D8.f at H
  refine cG func202 Z ?_
  refine sQ (rG (bA HS Z fun b1 wd2 HS=>nL (rN 4 Z ?_)))
  refine G.name (fun k1 h1=>?_)
  have i1:∀ f1,f1≤K→∀ (x17:List Int) (c1:Int) (w:World),D8.l1 K f1 d1 a1 a_ b_ x17 c1=some r1→St w0 w (Own (Ad .i64) 2 A_a c_a uu x17::Box b1 57 [I d1,I a1,sV A_a x17 c_a]::L)→G prog 202 41 [(1,I a_),(2,I b_),(3,pT b1),(6,I c1)] k1 w (D8.post w0 L A_a c_a r1):=by
   refine lp (fun _ _ w H _=>by rw [D8.l1] at H; cases H) fun g1 n1 m1 x17 c1 w H HS=>?_
   rw [D8.l1] at H
   subst h1
   refine rN 2 Z (rG (mV Z (fL b1 0 Gg Z (lB 1 HS Z na2 Z (GO.lss Z Z Z Z (nL ?_))))))
   rcases iS H with ⟨c33,H⟩ | ⟨c33,H⟩
   ·
    refine nB Z (tF c33) (G.exit Z ?_)
    obtain rfl:=sI H
    exact G.Ki func202 Z ⟨Z,(HS.pk 2 [0] Z)⟩
   refine yB Z (tT c33) (rN 4 Z ?_)
   obtain ⟨t34,h35,H⟩:=bI H
   refine rG (lW 1 HS Z Du (pS 2 Z (fJ Ju Z (Cv.calls HS (ro 0 Z) h35) (fun _ wd36 ⟨h37,HS⟩=>⟨_,h37,(aS Z (nL (sQ ?_)))⟩))))
   obtain ⟨t38,h39,H⟩:=bI H
   obtain ⟨c42,H⟩:=iN H
   have h43:=(rk (ro 0 Z) HS)
   refine G.Jg mixed (fun w=>St w0 w (Box b1 57 [I d1,I a1,sV A_a x17 c_a]::L)) [1,4,8] [0,2,3,6,9,10,1,4,5,7,8,11,12,13] [] (by kernel_rfl) (by kernel_rfl) (HS.drew.pk 2 [1] Z) ?_
   replace HS:=HS.drew
   refine qL Z Z (fun _ _ g=>fL b1 2 Jf Z g) Z (GX.ps 1 Z (qL Z Z (fun _ _ g=>fL b1 1 Ew Z g) Z (GX.ps 3 Z (GX.ls Z Z Z (HS.pk 2 [1] Z) (fun _ HS _ g=>lB 0 HS Z Ha Z g) Z (GX.ls Z Z Z (HS.pk 2 [1] Z) (fun _ HS _ g=>lB 0 HS Z na2 Z g) Z (GX.ps 2 Z (GX.ls Z Z Z (HS.pk 2 [1] Z) (fun _ HS _ g=>lW 0 HS Z Du g) Z (GX.l2 Z (fJ Ju Z (Cv.calls HS (ro 0 Z) h39) (fun _ wd40 ⟨h41,HS⟩=>⟨_,h41,(GX.fin (HS.pk 2 [1] Z) (qL Z Z (fun _ _ g=>iX Z U26 sz2 h43 c42 g) Z (GX.l2 Z (GO.Ia (T:=(Ad .i64)) (j:=0) (n:=(w64 ((w64 (c1 * a1))+a_)).toNat) (o:=0) (vs:=[I t38]) t38 HS Z Av Z Z Z Z (htN na2 Z) Z (getD_some (d:=0) (ltN c42)) Z Z fun wd44 HS=>GX.fin (HS.pk 2 [1] Z) ?_))))⟩))))))))))
   refine GX.nil ?_
   replace HS:=HS.F8 (j:=1) (cs':=[I d1,I a1,sV A_a (x17.set ((w64 ((w64 (c1 * a1))+a_)).toNat) t38) c_a]) Z (by simp only [sV,List.length_set] <;> rfl)
   obtain ⟨c45,H⟩:=iN H
   refine rG (fL b1 2 Jf Z (lB 1 HS Z Ha Z (mV Z (fL b1 1 Ew Z (lB 1 HS Z na2 Z (pS 4 Z (iX Z U26 sz2 (rk (ro 0 Z) HS) c45 (GO.Ia (T:=(Ad .i64)) (j:=0) (n:=(w64 ((w64 (c1 * a1))+b_)).toNat) (o:=0) (vs:=[I t34]) t34 HS Z Av Z Z Z Z (htN na2 Z) Z (getD_some (d:=0) (ltN c45)) Z Z fun wd46 HS=>nL ?_))))))))
   replace HS:=HS.F8 (j:=1) (cs':=[I d1,I a1,sV A_a ((x17.set ((w64 ((w64 (c1 * a1))+a_)).toNat) t38).set ((w64 ((w64 (c1 * a1))+b_)).toNat) t34) c_a]) Z (by simp only [sV,List.length_set] <;> rfl)
   refine rN 3 Z (gW (m1 g1 (lR _) _ _ _ H HS) Z)
  exact gW (i1 K (lR _) _ _ _ H (HS.pk 2 [1,0] Z)) Z
theorem Bp.calls {c1 a1:Int} {p1:List Int} {f1 b1:Int} {s1:List Int} {e1 d1:Int} {q1:List Int} {g1 i1:Int} {o1:List Int} {h1 k1:Int} {n1:List Int} {m1:Bool} {o:Int} {b_t:Nat} {r1:Bool} {r2 r3:List Int} {r4 r5 r6:List Int} (HS:St w0 w (Box b_t 124 [I c1,I a1,sV A_a p1 c_a,I f1,I b1,sV A_b s1 c_b,I e1,I d1,sV A_c q1 c_c,I g1,I i1,sV A_d o1 c_d,I h1,I k1,sV A_e n1 c_e,.bool m1]::Own (Ad .i64) 2 A_a c_a uu p1::Own (Ad .i64) 2 A_b c_b uu s1::Own (Ad .i64) 2 A_c c_c uu q1::Own (Ad .i64) 2 A_d c_d uu o1::Own (Ad .i64) 2 A_e c_e uu n1::L)) (H:Bp.f K c1 a1 p1 f1 b1 s1 e1 d1 q1 g1 i1 o1 h1 k1 n1 m1 o=some (r1,r2,r3,r4,r5,r6)) :
    Calls prog 181 #[pT b_t,I o] w (Bp.post w0 L c1 a1 f1 b1 e1 d1 g1 i1 h1 k1 m1 b_t A_a c_a A_b c_b A_c c_c A_d c_d A_e c_e r1 r2 r3 r4 r5 r6):=by
  unfold Bp.f at H
  refine cG func181 Z ?_
  refine rN 9 Z ?_
  refine G.name (fun k2 y2=>?_)
  have z2:∀ d2,d2≤K→∀ (y1 x1 x78:Int) (w:World),Bp.l1 K d2 c1 a1 p1 f1 b1 s1 e1 d1 q1 g1 i1 o1 h1 k1 n1 o y1 x1 x78=some (r1,r2,r3,r4,r5,r6)→St w0 w (Box b_t 124 [I c1,I a1,sV A_a p1 c_a,I f1,I b1,sV A_b s1 c_b,I e1,I d1,sV A_c q1 c_c,I g1,I i1,sV A_d o1 c_d,I h1,I k1,sV A_e n1 c_e,.bool m1]::Own (Ad .i64) 2 A_a c_a uu p1::Own (Ad .i64) 2 A_b c_b uu s1::Own (Ad .i64) 2 A_c c_c uu q1::Own (Ad .i64) 2 A_d c_d uu o1::Own (Ad .i64) 2 A_e c_e uu n1::L)→G prog 181 199 [(0,pT b_t),(1,I o),(5,I y1),(6,I x1),(7,I x78)] k2 w (Bp.post w0 L c1 a1 f1 b1 e1 d1 g1 i1 h1 k1 m1 b_t A_a c_a A_b c_b A_c c_c A_d c_d A_e c_e r1 r2 r3 r4 r5 r6):=by
   refine lp (fun _ _ _ w H _=>by rw [Bp.l1] at H; cases H) fun v1 d3 a3 y1 x1 x78 w H HS=>?_
   rw [Bp.l1] at H
   subst y2
   refine rN 2 Z (rG (pS 2 Z (GO.En Z Z Z (fL b_t 0 Ho Z (fL b_t 0 Gg Z (lB 0 HS Z na2 Z (GO.lss Z Z Z Z (nL ?_))))))))
   rcases iE H with ⟨c379,H⟩ | ⟨c379,H⟩
   ·
    refine yB Z (tT c379) (rN 7 Z ?_)
    refine G.name (fun t2 m2=>?_)
    have o2:∀ c2,c2≤v1→∀ (b2 a2 x412:Int) (w:World),Bp.l8 K c2 c1 a1 p1 f1 b1 s1 e1 d1 q1 g1 i1 o1 h1 k1 n1 o x78 b2 a2 x412=some (r1,r2,r3,r4,r5,r6)→St w0 w (Box b_t 124 [I c1,I a1,sV A_a p1 c_a,I f1,I b1,sV A_b s1 c_b,I e1,I d1,sV A_c q1 c_c,I g1,I i1,sV A_d o1 c_d,I h1,I k1,sV A_e n1 c_e,.bool m1]::Own (Ad .i64) 2 A_a c_a uu p1::Own (Ad .i64) 2 A_b c_b uu s1::Own (Ad .i64) 2 A_c c_c uu q1::Own (Ad .i64) 2 A_d c_d uu o1::Own (Ad .i64) 2 A_e c_e uu n1::L)→G prog 181 199 [(0,pT b_t),(1,I o),(5,I b2),(6,I a2),(7,I x78),(8,I x412)] t2 w (Bp.post w0 L c1 a1 f1 b1 e1 d1 g1 i1 h1 k1 m1 b_t A_a c_a A_b c_b A_c c_c A_d c_d A_e c_e r1 r2 r3 r4 r5 r6):=by
     refine lp (fun _ _ _ w H _=>by rw [Bp.l8] at H; cases H) fun t1 n2 u1 b2 a2 x412 w H HS=>?_
     rw [Bp.l8] at H
     subst m2
     refine rN 2 Z (rG (pS 2 Z (GO.En Z Z Z (fL b_t 0 Ho Z (fL b_t 1 Ew Z (lB 0 HS Z na2 Z (GO.lss Z Z Z Z (nL ?_))))))))
     rcases iS H with ⟨c443,H⟩ | ⟨c443,H⟩
     ·
      refine nB Z (tF c443) (rN 4 Z (gW (a3 t1 (Nat.le_of_succ_le n2) _ _ _ _ H HS) Z))
     refine yB Z (tT c443) (rN 4 Z ?_)
     obtain ⟨t444,h445,H⟩:=bI H
     obtain ⟨t448,h449,H⟩:=bI H
     refine rG (mV Z (GO.En Z Z Z (fL b_t 0 Ho Z (GO.Gf (j:=0) ([I c1,I a1,sV A_a p1 c_a]) HS Z Z Z Z Du Z (pS 2 Z (fJ Ju Z (Cv.calls HS (ro 1 Z) h445) (fun _ wd446 ⟨h447,HS⟩=>⟨_,h447,(fJ Ru Z (G6.calls HS  h449) (fun _ wd450 ⟨h451,HS⟩=>⟨_,h451,(aS Z (nL (sQ ?_)))⟩))⟩)))))))
     rcases iS H with ⟨c462,H⟩ | ⟨c462,H⟩
     ·
      refine rG (pS 3 Z (kN 42 Z (tF c462) (oF Z (oF Z (oF Z (GO.Lr Z Z Z Z Z Z (GO.Lr Z Z Z Z Z Z (GO.Lr Z Z Z Z Z Z (GO.Lr Z Z Z Z Z Z (GO.Lr Z Z Z Z Z Z (GO.Lr Z Z Z Z Z Z (GO.Lr Z Z Z Z Z Z (GO.Lr Z Z Z Z Z Z (GO.Lr Z Z Z Z Z Z ?_))))))))))))))
      refine GO.Lr Z Z Z Z Z Z (oF Z (GO.Hw Z Z Z Z Z (nL (rN 5 Z (gW (u1 t1 (lR _) _ _ _ _ H HS) Z)))))
     rcases iE H with ⟨c463,H⟩ | ⟨c463,H⟩
     ·
      refine rG (pS 3 Z (kN 42 Z (tT c462) (oN Z (mV Z (bK (oN Z (GO.lss Z Z Z Z (bK (oN Z (mV Z (bK (kN 45 Z (tT c463) (oF Z (oF Z ?_))))))))))))))
      refine oF Z (oF Z (oF Z (oF Z (oF Z (oF Z (oF Z (oF Z (oN Z (GO.Gw Z Z Z Z Z (bK (GO.Gw Z Z Z Z Z (nL (rN 5 Z (gW (u1 t1 (lR _) _ _ _ _ H HS) Z))))))))))))))
     obtain ⟨t464,h465,H⟩:=bI H
     obtain ⟨t468,h469,H⟩:=bI H
     refine rG (pS 3 Z (kN 42 Z (tT c462) (oN Z (mV Z (bK (oN Z (GO.lss Z Z Z Z (bK (oN Z (mV Z (bK (kN 45 Z (tF c463) (oN Z (mV Z ?_))))))))))))))
     refine bK (oN Z (mV Z (bK (oN Z (GO.En Z Z Z (bK (oN Z (fL b_t 0 Ho Z (bK (oN Z (GO.Gf (j:=0) ([I c1,I a1,sV A_a p1 c_a]) HS Z Z Z Z Du Z (bK (oN Z (mV Z ?_))))))))))))))
     refine bK (oN Z (mV Z (bK (oN Z (fJ Ju Z (Cv.calls HS (ro 1 Z) h465) (fun _ wd466 ⟨h467,HS⟩=>⟨_,h467,(bK (oN Z (fJ Ru Z (G6.calls HS  h469) (fun _ wd470 ⟨h471,HS⟩=>⟨_,h471,(bK (oN Z (GO.lss Z Z Z Z (bK (oN Z (GO.Hw Z Z Z Z Z ?_))))))⟩))))⟩))))))
     refine bK (GO.Gw Z Z Z Z Z (nL ?_))
     rcases iS H with ⟨c472,H⟩ | ⟨c472,H⟩
     ·
      refine nB Z (tF c472) (rN 4 Z (gW (u1 t1 (lR _) _ _ _ _ H HS) Z))
     refine yB Z (tT c472) (rN 4 Z (gW (u1 t1 (lR _) _ _ _ _ H HS) Z))
    exact gW (o2 v1 (lR _) _ _ _ _ H HS) Z
   refine nB Z (tF c379) (rN 4 Z ?_)
   rcases iE H with ⟨c473,H⟩ | ⟨c473,H⟩
   ·
    refine yB Z (tT c473) (rN 2 Z ?_)
    obtain ⟨rfl,rfl,rfl,rfl,rfl,rfl⟩:=Oj H
    exact rT _ func181 Z Z ⟨Z,HS⟩
   refine nB Z (tF c473) (rN 2 Z ?_)
   obtain ⟨t474,h475,H⟩:=bI H
   obtain ⟨c476,H⟩:=iN H
   refine rG (mV Z (GO.En Z Z Z (fL b_t 0 Ho Z (GO.Gf (j:=0) ([I c1,I a1,sV A_a p1 c_a]) HS Z Z Z Z Du Z (pS 2 Z ?_)))))
   replace HS:=HS.pk 6 [1,0,2,3,4,5] Z
   refine fJ dN Z (E8.calls HS  h475) (fun _ wd477 ⟨h478,HS⟩=>⟨_,h478,(nL ?_)⟩)
   replace HS:=HS.F8 (j:=1) (cs':=[I c1,I a1,sV A_a t474 c_a,I f1,I b1,sV A_b s1 c_b,I e1,I d1,sV A_c q1 c_c,I g1,I i1,sV A_d o1 c_d,I h1,I k1,sV A_e n1 c_e,.bool m1]) Z (by simp only [sV,List.length_set,c476] <;> rfl)
   refine sQ ?_
   obtain ⟨t479,h480,H⟩:=bI H
   obtain ⟨c481,H⟩:=iN H
   refine rG (mV Z (GO.En Z Z Z (fL b_t 3 P9 Z (GO.Gf (j:=1) ([I f1,I b1,sV A_b s1 c_b]) HS Z Z Z Z Du Z (pS 2 Z ?_)))))
   replace HS:=HS.pk 6 [2,0,1,3,4,5] Z
   refine fJ dN Z (E8.calls HS  h480) (fun _ wd482 ⟨h483,HS⟩=>⟨_,h483,(nL ?_)⟩)
   replace HS:=HS.F8 (j:=2) (cs':=[I c1,I a1,sV A_a t474 c_a,I f1,I b1,sV A_b t479 c_b,I e1,I d1,sV A_c q1 c_c,I g1,I i1,sV A_d o1 c_d,I h1,I k1,sV A_e n1 c_e,.bool m1]) Z (by simp only [sV,List.length_set,c481] <;> rfl)
   refine sQ ?_
   obtain ⟨t484,h485,H⟩:=bI H
   obtain ⟨c486,H⟩:=iN H
   refine rG (mV Z (GO.En Z Z Z (fL b_t 6 Rj Z (GO.Gf (j:=2) ([I e1,I d1,sV A_c q1 c_c]) HS Z Z Z Z Du Z (pS 2 Z ?_)))))
   replace HS:=HS.pk 6 [3,0,1,2,4,5] Z
   refine fJ bW Z (D8.calls HS  h485) (fun _ wd487 ⟨h488,HS⟩=>⟨_,h488,(nL ?_)⟩)
   replace HS:=HS.F8 (j:=3) (cs':=[I c1,I a1,sV A_a t474 c_a,I f1,I b1,sV A_b t479 c_b,I e1,I d1,sV A_c t484 c_c,I g1,I i1,sV A_d o1 c_d,I h1,I k1,sV A_e n1 c_e,.bool m1]) Z (by simp only [sV,List.length_set,c486] <;> rfl)
   refine sQ ?_
   obtain ⟨t489,h490,H⟩:=bI H
   obtain ⟨c491,H⟩:=iN H
   refine rG (mV Z (GO.En Z Z Z (fL b_t 0 Ho Z (GO.Gf (j:=3) ([I c1,I a1,sV A_a t474 c_a]) HS Z Z Z Z Du Z (pS 2 Z ?_)))))
   replace HS:=HS.pk 6 [2,0,1,3,4,5] Z
   refine fJ bW Z (D8.calls HS  h490) (fun _ wd492 ⟨h493,HS⟩=>⟨_,h493,(nL ?_)⟩)
   replace HS:=HS.F8 (j:=3) (cs':=[I c1,I a1,sV A_a t489 c_a,I f1,I b1,sV A_b t479 c_b,I e1,I d1,sV A_c t484 c_c,I g1,I i1,sV A_d o1 c_d,I h1,I k1,sV A_e n1 c_e,.bool m1]) Z (by simp only [sV,List.length_set,c491] <;> rfl)
   refine sQ ?_
   obtain ⟨t494,h495,H⟩:=bI H
   obtain ⟨c496,H⟩:=iN H
   refine rG (mV Z (GO.En Z Z Z (fL b_t 9 eG Z (GO.Gf (j:=3) ([I g1,I i1,sV A_d o1 c_d]) HS Z Z Z Z Du Z (pS 2 Z ?_)))))
   replace HS:=HS.pk 6 [4,0,1,2,3,5] Z
   refine fJ bW Z (D8.calls HS  h495) (fun _ wd497 ⟨h498,HS⟩=>⟨_,h498,(nL ?_)⟩)
   replace HS:=HS.F8 (j:=4) (cs':=[I c1,I a1,sV A_a t489 c_a,I f1,I b1,sV A_b t479 c_b,I e1,I d1,sV A_c t484 c_c,I g1,I i1,sV A_d t494 c_d,I h1,I k1,sV A_e n1 c_e,.bool m1]) Z (by simp only [sV,List.length_set,c496] <;> rfl)
   refine sQ ?_
   obtain ⟨t499,h500,H⟩:=bI H
   obtain ⟨c501,H⟩:=iN H
   refine rG (mV Z (GO.En Z Z Z (fL b_t 12 fO Z (GO.Gf (j:=4) ([I h1,I k1,sV A_e n1 c_e]) HS Z Z Z Z Du Z (pS 2 Z ?_)))))
   replace HS:=HS.pk 6 [5,0,1,2,3,4] Z
   refine fJ dN Z (E8.calls HS  h500) (fun _ wd502 ⟨h503,HS⟩=>⟨_,h503,(nL ?_)⟩)
   replace HS:=HS.F8 (j:=5) (cs':=[I c1,I a1,sV A_a t489 c_a,I f1,I b1,sV A_b t479 c_b,I e1,I d1,sV A_c t484 c_c,I g1,I i1,sV A_d t494 c_d,I h1,I k1,sV A_e t499 c_e,.bool m1]) Z (by simp only [sV,List.length_set,c501] <;> rfl)
   refine rN 2 Z ?_
   obtain ⟨t504,h505,H⟩:=bI H
   refine rG (mV Z (GO.En Z Z Z (fL b_t 0 Ho Z (GO.Gf (j:=5) ([I c1,I a1,sV A_a t489 c_a]) HS Z Z Z Z Du Z (pS 2 Z (fJ Ju Z (Cv.calls HS (ro 2 Z) h505) (fun _ wd506 ⟨h507,HS⟩=>⟨_,h507,(GO.lss Z Z Z Z (nL ?_))⟩)))))))
   rcases iS H with ⟨c508,H⟩ | ⟨c508,H⟩
   ·
    refine nB Z (tF c508) (rN 3 Z ?_)
    obtain ⟨rfl,rfl,rfl,rfl,rfl,rfl⟩:=Oj H
    exact rT _ func181 Z Z ⟨Z,(HS.pk 6 [5,2,4,3,1,0] Z)⟩
   refine yB Z (tT c508) (rN 5 Z ?_)
   refine G.name (fun u2 v2=>?_)
   have s2:∀ f2,f2≤v1→∀ (x565:List Int) (x566:Int) (w:World),Bp.l9 K f2 c1 a1 f1 b1 e1 d1 o t479 t484 t494 t499 x565 x566=some (r1,r2,r3,r4,r5,r6)→St w0 w (Box b_t 124 [I c1,I a1,sV A_a x565 c_a,I f1,I b1,sV A_b t479 c_b,I e1,I d1,sV A_c t484 c_c,I g1,I i1,sV A_d t494 c_d,I h1,I k1,sV A_e t499 c_e,.bool m1]::Own (Ad .i64) 2 A_a c_a uu x565::Own (Ad .i64) 2 A_b c_b uu t479::Own (Ad .i64) 2 A_c c_c uu t484::Own (Ad .i64) 2 A_d c_d uu t494::Own (Ad .i64) 2 A_e c_e uu t499::L)→G prog 181 199 [(0,pT b_t),(1,I o),(10,I x566)] u2 w (Bp.post w0 L c1 a1 f1 b1 e1 d1 g1 i1 h1 k1 m1 b_t A_a c_a A_b c_b A_c c_c A_d c_d A_e c_e r1 r2 r3 r4 r5 r6):=by
    refine lp (fun _ _ w H _=>by rw [Bp.l9] at H; cases H) fun z1 b3 q2 x565 x566 w H HS=>?_
    rw [Bp.l9] at H
    subst v2
    refine rN 2 Z (rG (pS 2 Z (GO.En Z Z Z (fL b_t 0 Ho Z (fL b_t 1 Ew Z (lB 0 HS Z na2 Z (GO.lss Z Z Z Z (nL ?_))))))))
    rcases iE H with ⟨c623,H⟩ | ⟨c623,H⟩
    ·
     refine yB Z (tT c623) (rN 3 Z ?_)
     obtain ⟨t624,h625,H⟩:=bI H
     obtain ⟨c628,H⟩:=iN H
     have h629:=(rk (ro 1 Z) HS)
     refine G.Jg mixed (fun w=>St w0 w (Box b_t 124 [I c1,I a1,sV A_a x565 c_a,I f1,I b1,sV A_b t479 c_b,I e1,I d1,sV A_c t484 c_c,I g1,I i1,sV A_d t494 c_d,I h1,I k1,sV A_e t499 c_e,.bool m1]::L)) [4,10,17] [0,1,2,3,5,6,7,8,9,12,14,15,16,18,19,4,10,11,13,17,20,21,22,23] [] (by kernel_rfl) (by kernel_rfl) (HS.drew.pk 6 [0] Z) ?_
     replace HS:=HS.drew
     refine GX.ps 1 Z (qL Z Z (fun _ _ g=>GO.En Z Z Z g) Z (qL Z Z (fun _ _ g=>fL b_t 0 Ho Z g) Z (qL Z Z (fun _ _ g=>fL b_t 2 Jf Z g) Z (GX.ps 2 Z (qL Z Z (fun _ _ g=>GO.En Z Z Z g) Z (qL Z Z (fun _ _ g=>fL b_t 0 Ho Z g) Z (qL Z Z (fun _ _ g=>fL b_t 1 Ew Z g) Z (GX.ps 2 Z (qL Z Z (fun _ _ g=>GO.En Z Z Z g) Z (qL Z Z (fun _ _ g=>fL b_t 0 Ho Z g) Z (GX.ps 2 Z (GX.ls Z Z Z (HS.pk 6 [0] Z) (fun _ HS _ g=>lB 0 HS Z Ha Z g) Z (GX.ls Z Z Z (HS.pk 6 [0] Z) (fun _ HS _ g=>lB 0 HS Z na2 Z g) Z (GX.ps 2 Z ?_))))))))))))))
     refine GX.ls Z Z Z (HS.pk 6 [0] Z) (fun _ HS _ g=>GO.Gf (j:=0) ([I c1,I a1,sV A_a x565 c_a]) HS Z Z Z Z Du Z g) Z (GX.l2 Z (fJ Ju Z (Cv.calls HS (ro 1 Z) h625) (fun _ wd626 ⟨h627,HS⟩=>⟨_,h627,(GX.fin (HS.pk 6 [0] Z) (qL Z Z (fun _ _ g=>GO.neg Z Z Z g) Z (qL Z Z (fun _ _ g=>iX Z U26 sz2 h629 c628 g) Z (GX.l2 Z (GO.Ia (T:=(Ad .i64)) (j:=1) (n:=(w64 ((w64 (o * a1))+x566)).toNat) (o:=0) (vs:=[I (w64 (0 - t624))]) (w64 (0 - t624)) HS Z Av Z Z Z Z (htN na2 Z) Z (getD_some (d:=0) (ltN c628)) Z Z fun wd630 HS=>GX.fin (HS.pk 6 [0] Z) (GX.nil ?_))))))⟩)))
     replace HS:=HS.F8 (j:=0) (cs':=[I c1,I a1,sV A_a (x565.set ((w64 ((w64 (o * a1))+x566)).toNat) (w64 (0 - t624))) c_a,I f1,I b1,sV A_b t479 c_b,I e1,I d1,sV A_c t484 c_c,I g1,I i1,sV A_d t494 c_d,I h1,I k1,sV A_e t499 c_e,.bool m1]) Z (by simp only [sV,List.length_set] <;> rfl)
     refine rN 3 Z (gW (q2 z1 (lR _) _ _ _ H HS) Z)
    refine nB Z (tF c623) (rN 5 Z ?_)
    refine G.name (fun i2 g2=>?_)
    have p2:∀ e2,e2≤z1→∀ (x646 x647:List Int) (x648:Int) (w:World),Bp.l12 K e2 f1 b1 e1 d1 o t494 t499 x565 x646 x647 x648=some (r1,r2,r3,r4,r5,r6)→St w0 w (Box b_t 124 [I c1,I a1,sV A_a x565 c_a,I f1,I b1,sV A_b x646 c_b,I e1,I d1,sV A_c x647 c_c,I g1,I i1,sV A_d t494 c_d,I h1,I k1,sV A_e t499 c_e,.bool m1]::Own (Ad .i64) 2 A_a c_a uu x565::Own (Ad .i64) 2 A_b c_b uu x646::Own (Ad .i64) 2 A_c c_c uu x647::Own (Ad .i64) 2 A_d c_d uu t494::Own (Ad .i64) 2 A_e c_e uu t499::L)→G prog 181 199 [(0,pT b_t),(1,I o),(11,I x648)] i2 w (Bp.post w0 L c1 a1 f1 b1 e1 d1 g1 i1 h1 k1 m1 b_t A_a c_a A_b c_b A_c c_c A_d c_d A_e c_e r1 r2 r3 r4 r5 r6):=by
     refine lp (fun _ _ _ w H _=>by rw [Bp.l12] at H; cases H) fun x2 c3 h2 x646 x647 x648 w H HS=>?_
     rw [Bp.l12] at H
     subst g2
     refine rN 2 Z (rG (pS 2 Z (GO.En Z Z Z (fL b_t 3 P9 Z (fL b_t 4 Ew Z (lB 0 HS Z na2 Z (GO.lss Z Z Z Z (nL ?_))))))))
     rcases iS H with ⟨c664,H⟩ | ⟨c664,H⟩
     ·
      refine nB Z (tF c664) (rN 3 Z ?_)
      obtain ⟨rfl,rfl,rfl,rfl,rfl,rfl⟩:=Oj H
      exact rT _ func181 Z Z ⟨Z,HS⟩
     refine yB Z (tT c664) (rN 4 Z ?_)
     obtain ⟨t665,h666,H⟩:=bI H
     obtain ⟨c669,H⟩:=iN H
     have h670:=(rk (ro 2 Z) HS)
     refine G.Jg mixed (fun w=>St w0 w (Box b_t 124 [I c1,I a1,sV A_a x565 c_a,I f1,I b1,sV A_b x646 c_b,I e1,I d1,sV A_c x647 c_c,I g1,I i1,sV A_d t494 c_d,I h1,I k1,sV A_e t499 c_e,.bool m1]::L)) [4,10,17] [0,1,2,3,5,6,7,8,9,12,14,15,16,18,19,4,10,11,13,17,20,21,22,23] [] (by kernel_rfl) (by kernel_rfl) (HS.drew.pk 6 [0] Z) ?_
     replace HS:=HS.drew
     refine GX.ps 1 Z (qL Z Z (fun _ _ g=>GO.En Z Z Z g) Z (qL Z Z (fun _ _ g=>fL b_t 3 P9 Z g) Z (qL Z Z (fun _ _ g=>fL b_t 5 Jf Z g) Z (GX.ps 2 Z (qL Z Z (fun _ _ g=>GO.En Z Z Z g) Z (qL Z Z (fun _ _ g=>fL b_t 3 P9 Z g) Z (qL Z Z (fun _ _ g=>fL b_t 4 Ew Z g) Z (GX.ps 2 Z (qL Z Z (fun _ _ g=>GO.En Z Z Z g) Z (qL Z Z (fun _ _ g=>fL b_t 3 P9 Z g) Z (GX.ps 2 Z (GX.ls Z Z Z (HS.pk 6 [0] Z) (fun _ HS _ g=>lB 0 HS Z Ha Z g) Z (GX.ls Z Z Z (HS.pk 6 [0] Z) (fun _ HS _ g=>lB 0 HS Z na2 Z g) Z (GX.ps 2 Z ?_))))))))))))))
     refine GX.ls Z Z Z (HS.pk 6 [0] Z) (fun _ HS _ g=>GO.Gf (j:=0) ([I f1,I b1,sV A_b x646 c_b]) HS Z Z Z Z Du Z g) Z (GX.l2 Z (fJ Ju Z (Cv.calls HS (ro 2 Z) h666) (fun _ wd667 ⟨h668,HS⟩=>⟨_,h668,(GX.fin (HS.pk 6 [0] Z) (qL Z Z (fun _ _ g=>GO.neg Z Z Z g) Z (qL Z Z (fun _ _ g=>iX Z U26 sz2 h670 c669 g) Z (GX.l2 Z (GO.Ia (T:=(Ad .i64)) (j:=2) (n:=(w64 ((w64 (o * b1))+x648)).toNat) (o:=0) (vs:=[I (w64 (0 - t665))]) (w64 (0 - t665)) HS Z Av Z Z Z Z (htN na2 Z) Z (getD_some (d:=0) (ltN c669)) Z Z fun wd671 HS=>GX.fin (HS.pk 6 [0] Z) (GX.nil ?_))))))⟩)))
     replace HS:=HS.F8 (j:=0) (cs':=[I c1,I a1,sV A_a x565 c_a,I f1,I b1,sV A_b (x646.set ((w64 ((w64 (o * b1))+x648)).toNat) (w64 (0 - t665))) c_b,I e1,I d1,sV A_c x647 c_c,I g1,I i1,sV A_d t494 c_d,I h1,I k1,sV A_e t499 c_e,.bool m1]) Z (by simp only [sV,List.length_set] <;> rfl)
     obtain ⟨t672,h673,H⟩:=bI H
     obtain ⟨c676,H⟩:=iN H
     have h677:=(rk (ro 3 Z) HS)
     refine G.Jg mixed (fun w=>St w0 w (Box b_t 124 [I c1,I a1,sV A_a x565 c_a,I f1,I b1,sV A_b (x646.set ((w64 ((w64 (o * b1))+x648)).toNat) (w64 (0 - t665))) c_b,I e1,I d1,sV A_c x647 c_c,I g1,I i1,sV A_d t494 c_d,I h1,I k1,sV A_e t499 c_e,.bool m1]::L)) [4,10,17] [0,1,2,3,5,6,7,8,9,12,14,15,16,18,19,4,10,11,13,17,20,21,22,23] [] (by kernel_rfl) (by kernel_rfl) (HS.drew.pk 6 [0] Z) ?_
     replace HS:=HS.drew
     refine GX.ps 1 Z (qL Z Z (fun _ _ g=>GO.En Z Z Z g) Z (qL Z Z (fun _ _ g=>fL b_t 6 Rj Z g) Z (qL Z Z (fun _ _ g=>fL b_t 8 Jf Z g) Z (GX.ps 2 Z (qL Z Z (fun _ _ g=>GO.En Z Z Z g) Z (qL Z Z (fun _ _ g=>fL b_t 6 Rj Z g) Z (qL Z Z (fun _ _ g=>fL b_t 7 Ew Z g) Z (GX.ps 2 Z (qL Z Z (fun _ _ g=>GO.En Z Z Z g) Z (qL Z Z (fun _ _ g=>fL b_t 6 Rj Z g) Z (GX.ps 2 Z (GX.ls Z Z Z (HS.pk 6 [0] Z) (fun _ HS _ g=>lB 0 HS Z Ha Z g) Z (GX.ls Z Z Z (HS.pk 6 [0] Z) (fun _ HS _ g=>lB 0 HS Z na2 Z g) Z (GX.ps 2 Z ?_))))))))))))))
     refine GX.ls Z Z Z (HS.pk 6 [0] Z) (fun _ HS _ g=>GO.Gf (j:=0) ([I e1,I d1,sV A_c x647 c_c]) HS Z Z Z Z Du Z g) Z (GX.l2 Z (fJ Ju Z (Cv.calls HS (ro 3 Z) h673) (fun _ wd674 ⟨h675,HS⟩=>⟨_,h675,(GX.fin (HS.pk 6 [0] Z) (qL Z Z (fun _ _ g=>GO.neg Z Z Z g) Z (qL Z Z (fun _ _ g=>iX Z U26 sz2 h677 c676 g) Z (GX.l2 Z (GO.Ia (T:=(Ad .i64)) (j:=3) (n:=(w64 ((w64 (x648 * d1))+o)).toNat) (o:=0) (vs:=[I (w64 (0 - t672))]) (w64 (0 - t672)) HS Z Av Z Z Z Z (htN na2 Z) Z (getD_some (d:=0) (ltN c676)) Z Z fun wd678 HS=>GX.fin (HS.pk 6 [0] Z) (GX.nil ?_))))))⟩)))
     replace HS:=HS.F8 (j:=0) (cs':=[I c1,I a1,sV A_a x565 c_a,I f1,I b1,sV A_b (x646.set ((w64 ((w64 (o * b1))+x648)).toNat) (w64 (0 - t665))) c_b,I e1,I d1,sV A_c (x647.set ((w64 ((w64 (x648 * d1))+o)).toNat) (w64 (0 - t672))) c_c,I g1,I i1,sV A_d t494 c_d,I h1,I k1,sV A_e t499 c_e,.bool m1]) Z (by simp only [sV,List.length_set] <;> rfl)
     refine rN 3 Z (gW (h2 x2 (lR _) _ _ _ _ H HS) Z)
    exact gW (p2 z1 (lR _) _ _ _ _ H HS) Z
   exact gW (s2 v1 (lR _) _ _ _ H (HS.pk 6 [5,2,4,3,1,0] Z)) Z
  exact gW (z2 K (lR _) _ _ _ _ H HS) Z
theorem Ja.calls {a_ b_ r1:Int} (HS:St w0 w (L)) (H:Ja.f a_ b_=some r1) :
    Calls prog 183 #[I a_,I b_] w (Ja.post w0 L r1):=by
  unfold Ja.f at H
  refine cG func183 Z ?_
  refine rN 3 Z ?_
  obtain ⟨c1,H⟩:=Lc H
  refine rG (pS 2 Z (GO.quo Z Z Z c1 Z (aS Z (nL (rN 2 Z (rG (pS 2 Z (GO.rem Z Z Z c1 Z (GO.lss Z Z Z Z (nL ?_))))))))))
  rcases iS H with ⟨c2,H⟩ | ⟨c2,H⟩
  ·
   refine nB Z (tF c2) (rN 3 Z ?_)
   obtain rfl:=sI H
   exact rT _ func183 Z Z ⟨Z,HS⟩
  refine yB Z (tT c2) (rN 3 Z ?_)
  obtain rfl:=sI H
  exact rT _ func183 Z Z ⟨Z,HS⟩
theorem Jp.calls {a_ q:Int} {x r1:Int} (HS:St w0 w (L)) (H:Jp.f a_ q x=some r1) :
    Calls prog 221 #[I a_,I q,I x] w (Jp.post w0 L r1):=by
  unfold Jp.f at H
  refine cG func221 Z ?_
  refine rN 3 Z ?_
  obtain ⟨t1,t2,h3,H⟩:=De H
  refine rG (pS 2 Z (fJ iV Z (Ir.calls HS  h3) (fun _ wd4 ⟨h5,HS⟩=>⟨_,h5,(pS 5 Z (nL (rN 3 Z ?_)))⟩)))
  rcases iS H with ⟨c6,H⟩ | ⟨c6,H⟩
  ·
   refine yB Z (congrArg Bool.not (Cy c6)) (rN 2 Z ?_)
   obtain rfl:=sI H
   exact rT _ func221 Z Z ⟨Z,HS⟩
  refine nB Z (congrArg Bool.not c6) (rN 3 Z ?_)
  obtain rfl:=sI H
  exact rT _ func221 Z Z ⟨Z,HS⟩
theorem Jr.calls {y1:Bool} {f1 a1:Int} {d1:List Int} {i j_ x:Int} {c1:Nat} {g1 k1:Value} {s1 x1:Value} {n1 m1:Value} {v1 p1:Value} {t1 q1:Value} {o1 u1:Value} {e1 h1 i1:Value} {r1:Bool} {r2:List Int} (HS:St w0 w (Box c1 124 [g1,k1,s1,x1,n1,m1,v1,p1,t1,q1,o1,u1,e1,h1,i1,.bool y1]::Own (Ad .i64) 2 A_a c_a uu d1::L)) (H:Jr.f y1 f1 a1 d1 i j_ x=some (r1,r2)) :
    Calls prog 220 #[pT c1,.agg [I f1,I a1,sV A_a d1 c_a].toArray,I i,I j_,I x] w (Jr.post w0 L c1 g1 k1 s1 x1 n1 m1 v1 p1 t1 q1 o1 u1 e1 h1 i1 A_a c_a r1 r2):=by
  unfold Jr.f at H
  refine cG func220 Z ?_
  refine sQ (rG (bA HS Z fun b1 wd2 HS=>nL (rN 2 Z ?_)))
  obtain ⟨t3,h4,H⟩:=bI H
  refine rG (mV Z (fJ Ru Z (G6.calls HS  h4) (fun _ wd5 ⟨h6,HS⟩=>⟨_,h6,(GO.gtr Z Z Z Z (nL ?_))⟩)))
  rcases iE H with ⟨c7,H⟩ | ⟨c7,H⟩
  ·
   refine yB Z (tT c7) (sQ (rG (mV Z (GO.En Z Z Z (fL c1 15 Kb Z (GO.Kq (j:=1) (vs:=[.bool true]) ([g1,k1,s1,x1,n1,m1,v1,p1,t1,q1,o1,u1,e1,h1,i1,.bool true]) HS Z Z Z Z Z (htN na4 Z) Z Z Z fun wd8 HS=>nL ?_))))))
   obtain ⟨rfl,rfl⟩:=I6 H
   exact G.yA func220 Z ⟨Z,(HS.pk 3 [1,2] Z)⟩
  refine nB Z (tF c7) (G.skip ?_)
  obtain ⟨c9,H⟩:=iN H
  refine rG (fL b1 2 Jf Z (lB 0 HS Z Ha Z (mV Z (fL b1 1 Ew Z (lB 0 HS Z na2 Z (pS 4 Z (iX Z U26 sz2 (rk (ro 2 Z) HS) c9 (GO.Ia (T:=(Ad .i64)) (j:=2) (n:=(w64 ((w64 (i * a1))+j_)).toNat) (o:=0) (vs:=[I x]) x HS Z Av Z Z Z Z (htN na2 Z) Z (getD_some (d:=0) (ltN c9)) Z Z fun wd10 HS=>nL ?_))))))))
  replace HS:=HS.F8 (j:=0) (cs':=[I f1,I a1,sV A_a (d1.set ((w64 ((w64 (i * a1))+j_)).toNat) x) c_a]) Z (by simp only [sV,List.length_set] <;> rfl)
  obtain ⟨rfl,rfl⟩:=I6 H
  exact G.Ki func220 Z ⟨Z,(HS.pk 3 [1,2] Z)⟩
theorem Ea.calls {z1:Bool} {c1 d1:Int} {x1:List Int} {i k_ q:Int} {a1:Nat} {f1 i1:Value} {q1 v1:Value} {m1 k1:Value} {u1 o1:Value} {s1 p1:Value} {n1 t1:Value} {e1 g1 h1:Value} {r1:Bool} {r2:List Int} (HS:St w0 w (Box a1 124 [f1,i1,q1,v1,m1,k1,u1,o1,s1,p1,n1,t1,e1,g1,h1,.bool z1]::Own (Ad .i64) 2 A_a c_a uu x1::L)) (H:Ea.f K z1 c1 d1 x1 i k_ q=some (r1,r2)) :
    Calls prog 203 #[pT a1,.agg [I c1,I d1,sV A_a x1 c_a].toArray,I i,I k_,I q] w (Ea.post w0 L a1 f1 i1 q1 v1 m1 k1 u1 o1 s1 p1 n1 t1 e1 g1 h1 A_a c_a r1 r2):=by
  unfold Ea.f at H
  refine cG func203 Z ?_
  refine sQ (rG (bA HS Z fun b1 wd2 HS=>nL (rN 4 Z ?_)))
  refine G.name (fun b2 d2=>?_)
  have e2:∀ a2,a2≤K→∀ (x24:Bool) (x25:List Int) (y1:Int) (w:World),Ea.l1 K a2 c1 d1 i k_ q x24 x25 y1=some (r1,r2)→St w0 w (Box a1 124 [f1,i1,q1,v1,m1,k1,u1,o1,s1,p1,n1,t1,e1,g1,h1,.bool x24]::Own (Ad .i64) 2 A_a c_a uu x25::Box b1 57 [I c1,I d1,sV A_a x25 c_a]::L)→G prog 203 39 [(0,pT a1),(2,I i),(3,I k_),(4,I q),(6,pT b1),(10,I y1)] b2 w (Ea.post w0 L a1 f1 i1 q1 v1 m1 k1 u1 o1 s1 p1 n1 t1 e1 g1 h1 A_a c_a r1 r2):=by
   refine lp (fun _ _ _ w H _=>by rw [Ea.l1] at H; cases H) fun c2 g2 f2 x24 x25 y1 w H HS=>?_
   rw [Ea.l1] at H
   subst d2
   refine rN 2 Z ?_
   rcases iS H with ⟨c49,H⟩ | ⟨c49,H⟩
   ·
    refine rG (mV Z (fL b1 1 Ew Z (lB 2 HS Z na2 Z (pS 2 Z (kN 15 Z (tF c49) (oF Z (oF Z (oF Z (oF Z (oF Z (GO.Hw Z Z Z Z Z (nL (rN 2 Z ?_)))))))))))))
    obtain ⟨rfl,rfl⟩:=I6 H
    exact G.Ki func203 Z ⟨Z,(HS.pk 3 [0,1] Z)⟩
   refine rG (mV Z (fL b1 1 Ew Z (lB 2 HS Z na2 Z (pS 2 Z (kN 15 Z (tT c49) (oN Z (mV Z (bK (oN Z (GO.En Z Z Z (bK (oN Z (fL a1 15 Kb Z (bK ?_))))))))))))))
   refine oN Z (lB 0 HS Z na4 Z (bK (oN Z (GO.not Z Z Z (bK (GO.Gw Z Z Z Z Z (nL ?_)))))))
   rcases iE H with ⟨c50,H⟩ | ⟨c50,H⟩
   ·
    refine nB Z (congrArg Bool.not c50) (G.exit Z ?_)
    obtain ⟨rfl,rfl⟩:=I6 H
    exact G.Ki func203 Z ⟨Z,(HS.pk 3 [0,1] Z)⟩
   refine yB Z (congrArg Bool.not (Cy c50)) (rN 3 Z ?_)
   obtain ⟨t51,h52,H⟩:=bI H
   obtain ⟨t55,h56,H⟩:=bI H
   obtain ⟨t59,h60,H⟩:=bI H
   obtain ⟨t63,t64,h65,H⟩:=De H
   obtain ⟨c66,H⟩:=iN H
   refine G.Jg mixed (fun w=>St w0 w (Box b1 57 [I c1,I d1,sV A_a x25 c_a]::L)) [1,4,9] [0,2,3,5,6,8,10,11,1,4,9,7,12,13,14] [] (by kernel_rfl) (by kernel_rfl) (HS.drew.pk 3 [2] Z) ?_
   replace HS:=HS.drew
   refine GX.ps 8 Z (GX.ls Z Z Z (HS.pk 3 [2] Z) (fun _ HS _ g=>lW 0 HS Z Du g) Z (GX.ls Z Z Z (HS.pk 3 [2] Z) (fun _ HS _ g=>lW 0 HS Z Du g) Z (GX.ls Z Z Z (HS.pk 3 [2] Z) (fun _ HS _ g=>lW 0 HS Z Du g) Z (GX.l2 Z (fJ Ju Z (Cv.calls HS (ro 1 Z) h52) (fun _ wd53 ⟨h54,HS⟩=>⟨_,h54,(GX.fin (HS.pk 3 [2] Z) (GX.l2 Z (fJ Ju Z (Cv.calls HS (ro 1 Z) h56) (fun _ wd57 ⟨h58,HS⟩=>⟨_,h58,(GX.fin (HS.pk 3 [2] Z) (GX.l2 Z (fJ kG Z (Jp.calls HS  h60) (fun _ wd61 ⟨h62,HS⟩=>⟨_,h62,(GX.fin (HS.pk 3 [2] Z) (GX.l2 Z ?_))⟩))))⟩))))⟩))))))
   replace HS:=HS.pk 3 [0,1,2] Z
   refine fJ lH Z (Jr.calls HS  h65) (fun _ wd67 ⟨h68,HS⟩=>⟨_,h68,(GX.fin (HS.pk 3 [2] Z) (GX.nil ?_))⟩)
   replace HS:=HS.F8 (j:=2) (cs':=[I c1,I d1,sV A_a t64 c_a]) Z (by simp only [sV,List.length_set,c66] <;> rfl)
   refine rN 3 Z (gW (f2 c2 (lR _) _ _ _ _ H HS) Z)
  exact gW (e2 K (lR _) _ _ _ _ H (HS.pk 3 [1,2,0] Z)) Z
theorem Dj.calls {z1:Bool} {c1 d1:Int} {y1:List Int} {j_ k_ q:Int} {a1:Nat} {f1 i1:Value} {q1 v1:Value} {m1 k1:Value} {u1 o1:Value} {s1 p1:Value} {n1 t1:Value} {e1 g1 h1:Value} {r1:Bool} {r2:List Int} (HS:St w0 w (Box a1 124 [f1,i1,q1,v1,m1,k1,u1,o1,s1,p1,n1,t1,e1,g1,h1,.bool z1]::Own (Ad .i64) 2 A_a c_a uu y1::L)) (H:Dj.f K z1 c1 d1 y1 j_ k_ q=some (r1,r2)) :
    Calls prog 204 #[pT a1,.agg [I c1,I d1,sV A_a y1 c_a].toArray,I j_,I k_,I q] w (Dj.post w0 L a1 f1 i1 q1 v1 m1 k1 u1 o1 s1 p1 n1 t1 e1 g1 h1 A_a c_a r1 r2):=by
  unfold Dj.f at H
  refine cG func204 Z ?_
  refine sQ (rG (bA HS Z fun b1 wd2 HS=>nL (rN 4 Z ?_)))
  refine G.name (fun b2 d2=>?_)
  have e2:∀ a2,a2≤K→∀ (x24:Bool) (x25:List Int) (x1:Int) (w:World),Dj.l1 K a2 c1 d1 j_ k_ q x24 x25 x1=some (r1,r2)→St w0 w (Box a1 124 [f1,i1,q1,v1,m1,k1,u1,o1,s1,p1,n1,t1,e1,g1,h1,.bool x24]::Own (Ad .i64) 2 A_a c_a uu x25::Box b1 57 [I c1,I d1,sV A_a x25 c_a]::L)→G prog 204 39 [(0,pT a1),(2,I j_),(3,I k_),(4,I q),(6,pT b1),(10,I x1)] b2 w (Dj.post w0 L a1 f1 i1 q1 v1 m1 k1 u1 o1 s1 p1 n1 t1 e1 g1 h1 A_a c_a r1 r2):=by
   refine lp (fun _ _ _ w H _=>by rw [Dj.l1] at H; cases H) fun c2 g2 f2 x24 x25 x1 w H HS=>?_
   rw [Dj.l1] at H
   subst d2
   refine rN 2 Z ?_
   rcases iS H with ⟨c49,H⟩ | ⟨c49,H⟩
   ·
    refine rG (mV Z (fL b1 0 Gg Z (lB 2 HS Z na2 Z (pS 2 Z (kN 15 Z (tF c49) (oF Z (oF Z (oF Z (oF Z (oF Z (GO.Hw Z Z Z Z Z (nL (rN 2 Z ?_)))))))))))))
    obtain ⟨rfl,rfl⟩:=I6 H
    exact G.Ki func204 Z ⟨Z,(HS.pk 3 [0,1] Z)⟩
   refine rG (mV Z (fL b1 0 Gg Z (lB 2 HS Z na2 Z (pS 2 Z (kN 15 Z (tT c49) (oN Z (mV Z (bK (oN Z (GO.En Z Z Z (bK (oN Z (fL a1 15 Kb Z (bK ?_))))))))))))))
   refine oN Z (lB 0 HS Z na4 Z (bK (oN Z (GO.not Z Z Z (bK (GO.Gw Z Z Z Z Z (nL ?_)))))))
   rcases iE H with ⟨c50,H⟩ | ⟨c50,H⟩
   ·
    refine nB Z (congrArg Bool.not c50) (G.exit Z ?_)
    obtain ⟨rfl,rfl⟩:=I6 H
    exact G.Ki func204 Z ⟨Z,(HS.pk 3 [0,1] Z)⟩
   refine yB Z (congrArg Bool.not (Cy c50)) (rN 3 Z ?_)
   obtain ⟨t51,h52,H⟩:=bI H
   obtain ⟨t55,h56,H⟩:=bI H
   obtain ⟨t59,h60,H⟩:=bI H
   obtain ⟨t63,t64,h65,H⟩:=De H
   obtain ⟨c66,H⟩:=iN H
   refine G.Jg mixed (fun w=>St w0 w (Box b1 57 [I c1,I d1,sV A_a x25 c_a]::L)) [1,4,9] [0,2,3,5,6,8,10,11,1,4,9,7,12,13,14] [] (by kernel_rfl) (by kernel_rfl) (HS.drew.pk 3 [2] Z) ?_
   replace HS:=HS.drew
   refine GX.ps 8 Z (GX.ls Z Z Z (HS.pk 3 [2] Z) (fun _ HS _ g=>lW 0 HS Z Du g) Z (GX.ls Z Z Z (HS.pk 3 [2] Z) (fun _ HS _ g=>lW 0 HS Z Du g) Z (GX.ls Z Z Z (HS.pk 3 [2] Z) (fun _ HS _ g=>lW 0 HS Z Du g) Z (GX.l2 Z (fJ Ju Z (Cv.calls HS (ro 1 Z) h52) (fun _ wd53 ⟨h54,HS⟩=>⟨_,h54,(GX.fin (HS.pk 3 [2] Z) (GX.l2 Z (fJ Ju Z (Cv.calls HS (ro 1 Z) h56) (fun _ wd57 ⟨h58,HS⟩=>⟨_,h58,(GX.fin (HS.pk 3 [2] Z) (GX.l2 Z (fJ kG Z (Jp.calls HS  h60) (fun _ wd61 ⟨h62,HS⟩=>⟨_,h62,(GX.fin (HS.pk 3 [2] Z) (GX.l2 Z ?_))⟩))))⟩))))⟩))))))
   replace HS:=HS.pk 3 [0,1,2] Z
   refine fJ lH Z (Jr.calls HS  h65) (fun _ wd67 ⟨h68,HS⟩=>⟨_,h68,(GX.fin (HS.pk 3 [2] Z) (GX.nil ?_))⟩)
   replace HS:=HS.F8 (j:=2) (cs':=[I c1,I d1,sV A_a t64 c_a]) Z (by simp only [sV,List.length_set,c66] <;> rfl)
   refine rN 3 Z (gW (f2 c2 (lR _) _ _ _ _ H HS) Z)
  exact gW (e2 K (lR _) _ _ _ _ H (HS.pk 3 [1,2,0] Z)) Z
theorem Im.calls {i1 d1:Int} {t1:List Int} {g1 e1:Int} {s1:List Int} {b1 h1:Int} {p1:List Int} {k1 q1:Int} {f1:List Int} {m1 o1:Int} {a1:List Int} {u1:Bool} {i k_ q:Int} {n1:Nat} {r1:Bool} {r2 r3 r4:List Int} (HS:St w0 w (Box n1 124 [I i1,I d1,sV A_a t1 c_a,I g1,I e1,sV A_b s1 c_b,I b1,I h1,sV A_c p1 c_c,I k1,I q1,sV A_d f1 c_d,I m1,I o1,sV A_e a1 c_e,.bool u1]::Own (Ad .i64) 2 A_a c_a uu t1::Own (Ad .i64) 2 A_b c_b uu s1::Own (Ad .i64) 2 A_c c_c uu p1::L)) (r_d:Ce w0 L (Ad .i64) A_d c_d uu f1) (r_e:Ce w0 L (Ad .i64) A_e c_e uu a1) (H:Im.f K i1 d1 t1 g1 e1 s1 b1 h1 p1 k1 q1 f1 m1 o1 a1 u1 i k_ q=some (r1,r2,r3,r4)) :
    Calls prog 182 #[pT n1,I i,I k_,I q] w (Im.post w0 L i1 d1 g1 e1 b1 h1 k1 q1 f1 m1 o1 a1 n1 A_a c_a A_b c_b A_c c_c A_d c_d A_e c_e r1 r2 r3 r4):=by
  unfold Im.f at H
  refine cG func182 Z ?_
  refine rN 2 Z ?_
  rcases iE H with ⟨c1,H⟩ | ⟨c1,H⟩
  ·
   refine nB Z (nT c1) (G.skip ?_)
   obtain ⟨rfl,rfl,rfl,rfl⟩:=Mi H
   exact G.Ki func182 Z ⟨Z,HS⟩
  refine yB Z (nF c1) (sQ ?_)
  obtain ⟨t2,t3,h4,H⟩:=De H
  obtain ⟨c5,H⟩:=iN H
  refine rG (pS 2 Z (GO.En Z Z Z (fL n1 0 Ho Z (GO.Gf (j:=0) ([I i1,I d1,sV A_a t1 c_a]) HS Z Z Z Z Du Z (pS 3 Z ?_)))))
  replace HS:=HS.pk 4 [0,1,2,3] Z
  refine fJ dM Z (Ea.calls HS  h4) (fun _ wd6 ⟨h7,HS⟩=>⟨_,h7,(nL ?_)⟩)
  replace HS:=HS.F8 (j:=0) (cs':=[I i1,I d1,sV A_a t3 c_a,I g1,I e1,sV A_b s1 c_b,I b1,I h1,sV A_c p1 c_c,I k1,I q1,sV A_d f1 c_d,I m1,I o1,sV A_e a1 c_e,.bool t2]) Z (by simp only [sV,List.length_set,c5] <;> rfl)
  refine sQ ?_
  obtain ⟨t8,t9,h10,H⟩:=De H
  obtain ⟨c11,H⟩:=iN H
  refine rG (pS 2 Z (GO.En Z Z Z (fL n1 3 P9 Z (GO.Gf (j:=0) ([I g1,I e1,sV A_b s1 c_b]) HS Z Z Z Z Du Z (pS 3 Z ?_)))))
  replace HS:=HS.pk 4 [0,2,1,3] Z
  refine fJ dM Z (Ea.calls HS  h10) (fun _ wd12 ⟨h13,HS⟩=>⟨_,h13,(nL ?_)⟩)
  replace HS:=HS.F8 (j:=0) (cs':=[I i1,I d1,sV A_a t3 c_a,I g1,I e1,sV A_b t9 c_b,I b1,I h1,sV A_c p1 c_c,I k1,I q1,sV A_d f1 c_d,I m1,I o1,sV A_e a1 c_e,.bool t8]) Z (by simp only [sV,List.length_set,c11] <;> rfl)
  obtain ⟨t14,t15,h16,H⟩:=De H
  obtain ⟨c17,H⟩:=iN H
  refine rG (pS 2 Z (GO.En Z Z Z (fL n1 6 Rj Z (GO.Gf (j:=0) ([I b1,I h1,sV A_c p1 c_c]) HS Z Z Z Z Du Z (pS 3 Z (GO.neg Z Z Z ?_))))))
  replace HS:=HS.pk 4 [0,3,1,2] Z
  refine fJ bP Z (Dj.calls HS  h16) (fun _ wd18 ⟨h19,HS⟩=>⟨_,h19,(nL ?_)⟩)
  replace HS:=HS.F8 (j:=0) (cs':=[I i1,I d1,sV A_a t3 c_a,I g1,I e1,sV A_b t9 c_b,I b1,I h1,sV A_c t15 c_c,I k1,I q1,sV A_d f1 c_d,I m1,I o1,sV A_e a1 c_e,.bool t14]) Z (by simp only [sV,List.length_set,c17] <;> rfl)
  obtain ⟨rfl,rfl,rfl,rfl⟩:=Mi H
  exact G.Ki func182 Z ⟨Z,(HS.pk 4 [0,3,2,1] Z)⟩
theorem Ig.calls {i1 d1:Int} {t1:List Int} {p1 o1:Int} {f1:List Int} {n1 q1:Int} {g1:List Int} {a1 h1:Int} {s1:List Int} {b1 e1:Int} {k1:List Int} {u1:Bool} {j_ k_ q:Int} {m1:Nat} {r1:Bool} {r2 r3 r4:List Int} (HS:St w0 w (Box m1 124 [I i1,I d1,sV A_a t1 c_a,I p1,I o1,sV A_b f1 c_b,I n1,I q1,sV A_c g1 c_c,I a1,I h1,sV A_d s1 c_d,I b1,I e1,sV A_e k1 c_e,.bool u1]::Own (Ad .i64) 2 A_a c_a uu t1::Own (Ad .i64) 2 A_d c_d uu s1::Own (Ad .i64) 2 A_e c_e uu k1::L)) (r_b:Ce w0 L (Ad .i64) A_b c_b uu f1) (r_c:Ce w0 L (Ad .i64) A_c c_c uu g1) (H:Ig.f K i1 d1 t1 p1 o1 f1 n1 q1 g1 a1 h1 s1 b1 e1 k1 u1 j_ k_ q=some (r1,r2,r3,r4)) :
    Calls prog 184 #[pT m1,I j_,I k_,I q] w (Ig.post w0 L i1 d1 p1 o1 f1 n1 q1 g1 a1 h1 b1 e1 m1 A_a c_a A_b c_b A_c c_c A_d c_d A_e c_e r1 r2 r3 r4):=by
  unfold Ig.f at H
  refine cG func184 Z ?_
  refine rN 2 Z ?_
  rcases iE H with ⟨c1,H⟩ | ⟨c1,H⟩
  ·
   refine nB Z (nT c1) (G.skip ?_)
   obtain ⟨rfl,rfl,rfl,rfl⟩:=Mi H
   exact G.Ki func184 Z ⟨Z,HS⟩
  refine yB Z (nF c1) (sQ ?_)
  obtain ⟨t2,t3,h4,H⟩:=De H
  obtain ⟨c5,H⟩:=iN H
  refine rG (pS 2 Z (GO.En Z Z Z (fL m1 0 Ho Z (GO.Gf (j:=0) ([I i1,I d1,sV A_a t1 c_a]) HS Z Z Z Z Du Z (pS 3 Z ?_)))))
  replace HS:=HS.pk 4 [0,1,2,3] Z
  refine fJ bP Z (Dj.calls HS  h4) (fun _ wd6 ⟨h7,HS⟩=>⟨_,h7,(nL ?_)⟩)
  replace HS:=HS.F8 (j:=0) (cs':=[I i1,I d1,sV A_a t3 c_a,I p1,I o1,sV A_b f1 c_b,I n1,I q1,sV A_c g1 c_c,I a1,I h1,sV A_d s1 c_d,I b1,I e1,sV A_e k1 c_e,.bool t2]) Z (by simp only [sV,List.length_set,c5] <;> rfl)
  refine sQ ?_
  obtain ⟨t8,t9,h10,H⟩:=De H
  obtain ⟨c11,H⟩:=iN H
  refine rG (pS 2 Z (GO.En Z Z Z (fL m1 9 eG Z (GO.Gf (j:=0) ([I a1,I h1,sV A_d s1 c_d]) HS Z Z Z Z Du Z (pS 3 Z ?_)))))
  replace HS:=HS.pk 4 [0,2,1,3] Z
  refine fJ bP Z (Dj.calls HS  h10) (fun _ wd12 ⟨h13,HS⟩=>⟨_,h13,(nL ?_)⟩)
  replace HS:=HS.F8 (j:=0) (cs':=[I i1,I d1,sV A_a t3 c_a,I p1,I o1,sV A_b f1 c_b,I n1,I q1,sV A_c g1 c_c,I a1,I h1,sV A_d t9 c_d,I b1,I e1,sV A_e k1 c_e,.bool t8]) Z (by simp only [sV,List.length_set,c11] <;> rfl)
  obtain ⟨t14,t15,h16,H⟩:=De H
  obtain ⟨c17,H⟩:=iN H
  refine rG (pS 2 Z (GO.En Z Z Z (fL m1 12 fO Z (GO.Gf (j:=0) ([I b1,I e1,sV A_e k1 c_e]) HS Z Z Z Z Du Z (pS 3 Z (GO.neg Z Z Z ?_))))))
  replace HS:=HS.pk 4 [0,3,1,2] Z
  refine fJ dM Z (Ea.calls HS  h16) (fun _ wd18 ⟨h19,HS⟩=>⟨_,h19,(nL ?_)⟩)
  replace HS:=HS.F8 (j:=0) (cs':=[I i1,I d1,sV A_a t3 c_a,I p1,I o1,sV A_b f1 c_b,I n1,I q1,sV A_c g1 c_c,I a1,I h1,sV A_d t9 c_d,I b1,I e1,sV A_e t15 c_e,.bool t14]) Z (by simp only [sV,List.length_set,c17] <;> rfl)
  obtain ⟨rfl,rfl,rfl,rfl⟩:=Mi H
  exact G.Ki func184 Z ⟨Z,(HS.pk 4 [0,3,2,1] Z)⟩
theorem Dw.calls {d1 c1:Int} {b1:List Int} {s1 q1:Int} {g1:List Int} {t1 m1:Int} {h1:List Int} {i1 p1:Int} {e1:List Int} {k1 o1:Int} {f1:List Int} {n1:Bool} {k_:Int} {a1:Nat} {r1:Bool} (HS:St w0 w (Box a1 124 [I d1,I c1,sV A_a b1 c_a,I s1,I q1,sV A_b g1 c_b,I t1,I m1,sV A_c h1 c_c,I i1,I p1,sV A_d e1 c_d,I k1,I o1,sV A_e f1 c_e,.bool n1]::L)) (r_a:Ce w0 L (Ad .i64) A_a c_a uu b1) (r_b:Ce w0 L (Ad .i64) A_b c_b uu g1) (r_c:Ce w0 L (Ad .i64) A_c c_c uu h1) (r_d:Ce w0 L (Ad .i64) A_d c_d uu e1) (r_e:Ce w0 L (Ad .i64) A_e c_e uu f1) (H:Dw.f K d1 c1 b1 s1 q1 g1 t1 m1 h1 i1 p1 e1 k1 o1 f1 n1 k_=some r1) :
    Calls prog 185 #[pT a1,I k_] w (Dw.post w0 L d1 c1 b1 s1 q1 g1 t1 m1 h1 i1 p1 e1 k1 o1 f1 n1 a1 A_a c_a A_b c_b A_c c_c A_d c_d A_e c_e r1):=by
  unfold Dw.f at H
  refine cG func185 Z ?_
  refine rN 7 Z ?_
  refine G.name (fun d2 g2=>?_)
  have h2:∀ y1,y1≤K→∀ (u1:Int) (w:World),Dw.l1 K y1 d1 c1 b1 k_ u1=some r1→St w0 w (Box a1 124 [I d1,I c1,sV A_a b1 c_a,I s1,I q1,sV A_b g1 c_b,I t1,I m1,sV A_c h1 c_c,I i1,I p1,sV A_d e1 c_d,I k1,I o1,sV A_e f1 c_e,.bool n1]::L)→G prog 185 45 [(0,pT a1),(1,I k_),(5,I u1)] d2 w (Dw.post w0 L d1 c1 b1 s1 q1 g1 t1 m1 h1 i1 p1 e1 k1 o1 f1 n1 a1 A_a c_a A_b c_b A_c c_c A_d c_d A_e c_e r1):=by
   refine lp (fun _ w H _=>by rw [Dw.l1] at H; cases H) fun x1 m2 i2 u1 w H HS=>?_
   rw [Dw.l1] at H
   subst g2
   refine rN 2 Z (rG (pS 2 Z (GO.En Z Z Z (fL a1 0 Ho Z (fL a1 0 Gg Z (lB 0 HS Z na2 Z (GO.lss Z Z Z Z (nL ?_))))))))
   rcases iE H with ⟨c52,H⟩ | ⟨c52,H⟩
   ·
    refine yB Z (tT c52) (rN 4 Z ?_)
    obtain ⟨t53,h54,H⟩:=bI H
    refine rG (mV Z (GO.En Z Z Z (fL a1 0 Ho Z (GO.Gf (j:=0) ([I d1,I c1,sV A_a b1 c_a]) HS Z Z Z Z Du Z (pS 2 Z (fJ Ju Z (Cv.calls HS (rD 1 r_a) h54) (fun _ wd55 ⟨h56,HS⟩=>⟨_,h56,(GO.neq Z Z Z Z (nL ?_))⟩)))))))
    rcases iS H with ⟨c57,H⟩ | ⟨c57,H⟩
    ·
     refine yB Z (nF c57) (rN 2 Z ?_)
     obtain rfl:=sI H
     exact rT _ func185 Z Z ⟨Z,HS⟩
    refine nB Z (nT c57) (rN 4 Z (gW (i2 x1 (lR _) _ _ H HS) Z))
   refine nB Z (tF c52) (rN 6 Z ?_)
   refine G.name (fun f2 c2=>?_)
   have a2:∀ z1,z1≤x1→∀ (v1:Int) (w:World),Dw.l4 K z1 d1 c1 b1 k_ v1=some r1→St w0 w (Box a1 124 [I d1,I c1,sV A_a b1 c_a,I s1,I q1,sV A_b g1 c_b,I t1,I m1,sV A_c h1 c_c,I i1,I p1,sV A_d e1 c_d,I k1,I o1,sV A_e f1 c_e,.bool n1]::L)→G prog 185 45 [(0,pT a1),(1,I k_),(6,I v1)] f2 w (Dw.post w0 L d1 c1 b1 s1 q1 g1 t1 m1 h1 i1 p1 e1 k1 o1 f1 n1 a1 A_a c_a A_b c_b A_c c_c A_d c_d A_e c_e r1):=by
    refine lp (fun _ w H _=>by rw [Dw.l4] at H; cases H) fun b2 k2 e2 v1 w H HS=>?_
    rw [Dw.l4] at H
    subst c2
    refine rN 2 Z (rG (pS 2 Z (GO.En Z Z Z (fL a1 0 Ho Z (fL a1 1 Ew Z (lB 0 HS Z na2 Z (GO.lss Z Z Z Z (nL ?_))))))))
    rcases iS H with ⟨c71,H⟩ | ⟨c71,H⟩
    ·
     refine nB Z (tF c71) (rN 3 Z ?_)
     obtain rfl:=sI H
     exact rT _ func185 Z Z ⟨Z,HS⟩
    refine yB Z (tT c71) (rN 4 Z ?_)
    obtain ⟨t72,h73,H⟩:=bI H
    refine rG (mV Z (GO.En Z Z Z (fL a1 0 Ho Z (GO.Gf (j:=0) ([I d1,I c1,sV A_a b1 c_a]) HS Z Z Z Z Du Z (pS 2 Z (fJ Ju Z (Cv.calls HS (rD 1 r_a) h73) (fun _ wd74 ⟨h75,HS⟩=>⟨_,h75,(GO.neq Z Z Z Z (nL ?_))⟩)))))))
    rcases iS H with ⟨c76,H⟩ | ⟨c76,H⟩
    ·
     refine yB Z (nF c76) (rN 2 Z ?_)
     obtain rfl:=sI H
     exact rT _ func185 Z Z ⟨Z,HS⟩
    refine nB Z (nT c76) (rN 4 Z (gW (e2 b2 (lR _) _ _ H HS) Z))
   exact gW (a2 x1 (lR _) _ _ H HS) Z
  exact gW (h2 K (lR _) _ _ H HS) Z
theorem Dy.calls {d1 c1:Int} {b1:List Int} {s1 q1:Int} {g1:List Int} {t1 m1:Int} {h1:List Int} {i1 p1:Int} {e1:List Int} {k1 o1:Int} {f1:List Int} {n1:Bool} {k_:Int} {a1:Nat} {r1:Int} (HS:St w0 w (Box a1 124 [I d1,I c1,sV A_a b1 c_a,I s1,I q1,sV A_b g1 c_b,I t1,I m1,sV A_c h1 c_c,I i1,I p1,sV A_d e1 c_d,I k1,I o1,sV A_e f1 c_e,.bool n1]::L)) (r_a:Ce w0 L (Ad .i64) A_a c_a uu b1) (r_b:Ce w0 L (Ad .i64) A_b c_b uu g1) (r_c:Ce w0 L (Ad .i64) A_c c_c uu h1) (r_d:Ce w0 L (Ad .i64) A_d c_d uu e1) (r_e:Ce w0 L (Ad .i64) A_e c_e uu f1) (H:Dy.f K d1 c1 b1 s1 q1 g1 t1 m1 h1 i1 p1 e1 k1 o1 f1 n1 k_=some r1) :
    Calls prog 186 #[pT a1,I k_] w (Dy.post w0 L d1 c1 b1 s1 q1 g1 t1 m1 h1 i1 p1 e1 k1 o1 f1 n1 a1 A_a c_a A_b c_b A_c c_c A_d c_d A_e c_e r1):=by
  unfold Dy.f at H
  refine cG func186 Z ?_
  refine rN 7 Z ?_
  refine G.name (fun e2 h2=>?_)
  have i2:∀ y1,y1≤K→∀ (u1:Int) (w:World),Dy.l1 K y1 d1 c1 b1 k_ u1=some r1→St w0 w (Box a1 124 [I d1,I c1,sV A_a b1 c_a,I s1,I q1,sV A_b g1 c_b,I t1,I m1,sV A_c h1 c_c,I i1,I p1,sV A_d e1 c_d,I k1,I o1,sV A_e f1 c_e,.bool n1]::L)→G prog 186 46 [(0,pT a1),(1,I k_),(5,I u1)] e2 w (Dy.post w0 L d1 c1 b1 s1 q1 g1 t1 m1 h1 i1 p1 e1 k1 o1 f1 n1 a1 A_a c_a A_b c_b A_c c_c A_d c_d A_e c_e r1):=by
   refine lp (fun _ w H _=>by rw [Dy.l1] at H; cases H) fun z1 m2 k2 u1 w H HS=>?_
   rw [Dy.l1] at H
   subst h2
   refine rN 2 Z (rG (pS 2 Z (GO.En Z Z Z (fL a1 0 Ho Z (fL a1 0 Gg Z (lB 0 HS Z na2 Z (GO.lss Z Z Z Z (nL ?_))))))))
   rcases iS H with ⟨c72,H⟩ | ⟨c72,H⟩
   ·
    refine nB Z (tF c72) (rN 3 Z ?_)
    obtain rfl:=sI H
    exact rT _ func186 Z Z ⟨Z,HS⟩
   refine yB Z (tT c72) (rN 7 Z ?_)
   refine G.name (fun g2 d2=>?_)
   have b2:∀ a2,a2≤z1→∀ (v1:Int) (w:World),Dy.l4 K a2 d1 c1 b1 k_ u1 v1=some r1→St w0 w (Box a1 124 [I d1,I c1,sV A_a b1 c_a,I s1,I q1,sV A_b g1 c_b,I t1,I m1,sV A_c h1 c_c,I i1,I p1,sV A_d e1 c_d,I k1,I o1,sV A_e f1 c_e,.bool n1]::L)→G prog 186 46 [(0,pT a1),(1,I k_),(5,I u1),(6,I v1)] g2 w (Dy.post w0 L d1 c1 b1 s1 q1 g1 t1 m1 h1 i1 p1 e1 k1 o1 f1 n1 a1 A_a c_a A_b c_b A_c c_c A_d c_d A_e c_e r1):=by
    refine lp (fun _ w H _=>by rw [Dy.l4] at H; cases H) fun x1 c2 f2 v1 w H HS=>?_
    rw [Dy.l4] at H
    subst d2
    refine rN 2 Z (rG (pS 2 Z (GO.En Z Z Z (fL a1 0 Ho Z (fL a1 1 Ew Z (lB 0 HS Z na2 Z (GO.lss Z Z Z Z (nL ?_))))))))
    rcases iS H with ⟨c96,H⟩ | ⟨c96,H⟩
    ·
     refine nB Z (tF c96) (rN 4 Z (gW (k2 x1 (Nat.le_of_succ_le c2) _ _ H HS) Z))
    refine yB Z (tT c96) (rN 4 Z ?_)
    obtain ⟨t97,h98,H⟩:=bI H
    obtain ⟨t101,h102,H⟩:=bI H
    obtain ⟨c105,H⟩:=Lc H
    refine G.Jg mixed (fun w=>St w0 w (Box a1 124 [I d1,I c1,sV A_a b1 c_a,I s1,I q1,sV A_b g1 c_b,I t1,I m1,sV A_c h1 c_c,I i1,I p1,sV A_d e1 c_d,I k1,I o1,sV A_e f1 c_e,.bool n1]::L)) [3,10] [0,1,2,4,5,7,8,9,11,12,3,10,6,13,14,15] [] (by kernel_rfl) (by kernel_rfl) HS.drew ?_
    replace HS:=HS.drew
    refine GX.ps 1 Z (qL Z Z (fun _ _ g=>GO.En Z Z Z g) Z (qL Z Z (fun _ _ g=>fL a1 0 Ho Z g) Z (GX.ps 3 Z (qL Z Z (fun _ _ g=>GO.En Z Z Z g) Z (qL Z Z (fun _ _ g=>fL a1 0 Ho Z g) Z (GX.ps 2 Z (GX.ls Z Z Z HS (fun _ HS _ g=>GO.Gf (j:=0) ([I d1,I c1,sV A_a b1 c_a]) HS Z Z Z Z Du Z g) Z (GX.ls Z Z Z HS (fun _ HS _ g=>GO.Gf (j:=0) ([I d1,I c1,sV A_a b1 c_a]) HS Z Z Z Z Du Z g) Z (GX.l2 Z (fJ Ju Z (Cv.calls HS (rD 1 r_a) h98) (fun _ wd99 ⟨h100,HS⟩=>⟨_,h100,(GX.fin HS (GX.l2 Z (fJ Ju Z (Cv.calls HS (rD 1 r_a) h102) (fun _ wd103 ⟨h104,HS⟩=>⟨_,h104,(GX.fin HS ?_)⟩))))⟩)))))))))))
    refine qL Z Z (fun _ _ g=>GO.rem Z Z Z c105 Z g) Z (GX.ps 1 Z (GX.nil ?_))
    rcases iS H with ⟨c106,H⟩ | ⟨c106,H⟩
    ·
     refine yB Z (nF c106) (rN 2 Z ?_)
     obtain rfl:=sI H
     exact rT _ func186 Z Z ⟨Z,HS⟩
    refine nB Z (nT c106) (rN 4 Z (gW (f2 x1 (lR _) _ _ H HS) Z))
   exact gW (b2 z1 (lR _) _ _ H HS) Z
  exact gW (i2 K (lR _) _ _ H HS) Z
end Go.Proofs.YtgkgmhkgahalgaaGreat
