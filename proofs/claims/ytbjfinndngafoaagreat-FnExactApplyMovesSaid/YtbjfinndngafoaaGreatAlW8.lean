/-
  The walks through the functions: a call comes to what its list function says.
-/
import Derived.Test.YtbjfinndngafoaaGreatAlF
import Derived.Test.YtbjfinndngafoaaGreatAlW1
import Derived.Test.YtbjfinndngafoaaGreatAlW3
import Derived.Test.YtbjfinndngafoaaGreatAlW4
import Derived.Test.YtbjfinndngafoaaGreatAlW5
import Derived.Test.YtbjfinndngafoaaGreatAlW6
set_option linter.unusedVariables false
set_option linter.unusedSimpArgs false
namespace Go.Proofs.YtbjfinndngafoaaGreat
open Go.RowKit
open Tryz
variable {w0 w:World} {L:List Cn} {K:Nat} {A_a A_b A_c A_d A_e A_f A_g A_h A_i A_j A_k A_l A_m A_n A_o A_p A_q A_r A_s A_t A_u A_v A_w A_x A_y A_z:Option Addr} {c_a c_b c_c c_d c_e c_f c_g c_h c_i c_j c_k c_l c_m c_n c_o c_p c_q c_r c_s c_t c_u c_v c_w c_x c_y c_z:Nat}
set_option maxRecDepth 20000
set_option maxHeartbeats 40000000
theorem Iu.calls {a_:List Gh} {left:Int} {r1:Int} (HS:St w0 w (L)) (r_a:Bv w0 L Hf A_a c_a uu a_) (H:Iu.f a_ left=some r1) :
    Calls prog 28 #[sV A_a a_ c_a,I left] w (Iu.post w0 L r1):=by
  unfold Iu.f at H
  refine cG func28 Z ?_
  refine rN 3 Z (rG (pS 2 Z (lS Z Z U48 Z (pS 2 Z (nL (rN 3 Z ?_))))))
  rcases iE H with ⟨c1,H⟩ | ⟨c1,H⟩
  ·
   refine yB Z (tT c1) (rN 2 Z ?_)
   obtain rfl:=sI H
   exact rT _ func28 Z Z ⟨Z,HS⟩
  refine nB Z (tF c1) (rN 3 Z ?_)
  obtain rfl:=sI H
  exact rT _ func28 Z Z ⟨Z,HS⟩
theorem D5.calls {a_:List Gh} {r1:List Gh} (HS:St w0 w (L)) (r_a:Bv w0 L Hf A_a c_a uu a_) (H:D5.f K a_=some r1) :
    Calls prog 30 #[sV A_a a_ c_a] w (D5.post w0 L r1):=by
  unfold D5.f at H
  refine cG func30 Z ?_
  refine rN 3 Z ?_
  obtain ⟨c1,H⟩:=iN H
  obtain ⟨c2,H⟩:=iN H
  refine rG (mV Z (lS Z Z U48 Z (GO.make (T:=Hf) Iw () HS Au Z Z Z U37 uO Z Z Z c1 c2 Z fun b3 wd4 HS=>aS Z (nL (rN 5 Z ?_)))))
  refine G.name (fun h1 f1=>?_)
  have g1:∀ d1,d1≤K→∀ (b1:List Gh) (a1:Int) (w:World),D5.l1 K d1 a_ b1 a1=some r1→St w0 w (Own Hf 33 (sb b3) ((a_.length:Int).toNat) uu b1::L)→G prog 30 23 [(0,sV A_a a_ c_a),(3,sV (sb b3) b1 ((a_.length:Int).toNat)),(4,I a1)] h1 w (D5.post w0 L r1):=by
   refine lp (fun _ _ w H _=>by rw [D5.l1] at H; cases H) fun e1 k1 i1 b1 a1 w H HS=>?_
   rw [D5.l1] at H
   subst f1
   refine rN 2 Z (rG (pS 2 Z (lS Z Z U48 Z (GO.lss Z Z Z Z (nL ?_)))))
   rcases iS H with ⟨c31,H⟩ | ⟨c31,H⟩
   ·
    refine nB Z (tF c31) (rN 3 Z ?_)
    obtain rfl:=sI H
    exact rT _ func30 Z Z ⟨_,_,Z,HS⟩
   refine yB Z (tT c31) (rN 3 Z ?_)
   obtain ⟨c32,H⟩:=iN H
   obtain ⟨e33,h34,H⟩:=De H
   obtain ⟨t35,t36,t37,h38,H⟩:=I4 H
   obtain ⟨c41,H⟩:=iN H
   refine rG (pS 4 Z (iX Z U48 wD (rk (rD 1 r_a) HS) c32 (GO.G5 (T:=Hf) (n:=a1.toNat) HS (rD 1 r_a) Z Z (Ci (ltN c32) h34) wJ Z (fJ vC Z (Jf.calls HS  h38) (fun _ wd39 ⟨h40,HS⟩=>⟨_,h40,(iX Z U37 Xt (fun _=>⟨_,_,Z⟩) c41 (GO.Ha (T:=Hf) (j:=0) (n:=a1.toNat) (o:=0) (vs:=[I t35,I t36,I t37]) (⟨t35,t36,t37⟩:Gh) HS Z Au Z Z Z Z (htA Pp) Z (getD_some (d:=Iw) (ltN c41)) Z Z fun wd42 HS=>nL (G.len (t:=3) (m:=(b1.set a1.toNat (⟨t35,t36,t37⟩:Gh)).length) Z (by simp only [List.length_set] <;> rfl) (rN 3 Z (gW (i1 e1 (lR _) _ _ _ H HS) Z)))))⟩)))))
  exact gW (g1 K (lR _) _ _ _ H HS) Z
theorem Dz.calls {i1:List (List Ab)} {list:List Gh} {y_a:Nat→(Ty.slice 107 Ad).Lay} {r1:List (List Ab)} {r2 r3:Int} (HS:St w0 w (L)) (r_a:Bv w0 L (Ty.slice 107 Ad) A_a c_a y_a i1) (r_b:Bv w0 L Hf A_b c_b uu list) (H:Dz.f K i1 list=some (r1,r2,r3)) :
    Calls prog 29 #[.agg [sV A_a i1 c_a].toArray,sV A_b list c_b] w (Dz.post w0 L r1 r2 r3):=by
  unfold Dz.f at H
  refine cG func29 Z ?_
  refine sQ (rG (bA HS Z fun b1 wd2 HS=>GO.alloc HS Z K6 Z Z fun b3 wd4 HS=>pS 2 Z (nL (rN 2 Z ?_))))
  obtain ⟨t5,h6,H⟩:=bI H
  refine rG (lW 1 HS Z Dh (fJ bS Z (Ah.calls HS (rD 2 r_a) h6) (fun _ wd7 ⟨h8,HS⟩=>⟨_,h8,(GO.not Z Z Z (nL ?_))⟩)))
  rcases iS H with ⟨c9,H⟩ | ⟨c9,H⟩
  ·
   refine yB Z (congrArg Bool.not (Db c9)) (sQ (rG (GO.Da (.agg [.slice none 0 0].toArray) Z Z (fun _=>by kernel_rfl) Z (sW 0 HS Z Dh Z fun wd84 HS=>pS 2 Z (nL ?_)))))
   replace HS:=HS.C8 (Ty.slice 107 Ad) 77 (fun _=>⟨none,0,uu⟩)
   obtain ⟨rfl,rfl,rfl⟩:=Kh H
   exact G.Tt _ _ _ func29 Z (Gc.Gr (j:=1) (vs:=[.slice none 0 0]) HS Z Z Z Dh) Z Z ⟨_,_,_,Z,(HS.pk 3 [0] Z)⟩
  refine nB Z (congrArg Bool.not c9) (rN 3 Z (rG (mV Z (lS Z Z U37 Z (GO.gtr Z Z Z Z (nL ?_))))))
  rcases iE H with ⟨c10,H⟩ | ⟨c10,H⟩
  ·
   refine yB Z (tT c10) (sQ (rG (GO.Da (.agg [.slice none 0 0].toArray) Z Z (fun _=>by kernel_rfl) Z (sW 0 HS Z Dh Z fun wd11 HS=>pS 2 Z (nL ?_)))))
   replace HS:=HS.C8 (Ty.slice 107 Ad) 77 (fun _=>⟨none,0,uu⟩)
   obtain ⟨rfl,rfl,rfl⟩:=Kh H
   exact G.Tt _ _ _ func29 Z (Gc.Gr (j:=1) (vs:=[.slice none 0 0]) HS Z Z Z Dh) Z Z ⟨_,_,_,Z,(HS.pk 3 [0] Z)⟩
  refine nB Z (tF c10) (rN 2 Z ?_)
  obtain ⟨t12,h13,H⟩:=bI H
  refine rG (lW 1 HS Z Dh (fJ uJ Z (Gb.calls HS (rD 2 r_a) h13) (fun _ wd17 ⟨A14,c15,y16,h18,HS⟩=>⟨_,h18,(GO.alloc HS Z K6 Z Z fun b19 wd20 HS=>sW 0 HS Z Dh Z fun wd21 HS=>nL (rN 5 Z ?_))⟩)))
  refine G.name (fun p1 n1=>?_)
  have o1:∀ k1,k1≤K→∀ (A41:Option Addr) (c42:Nat) (a1:List (List Ab)) (y44:Nat→(Ty.slice 107 Ad).Lay) (c1:Int) (w:World),Dz.l1 K k1 list a1 c1=some (r1,r2,r3)→St w0 w (Box b3 31 [.slice none 0 0]::Box b19 31 [sV A41 a1 c42]::Own (Ty.slice 107 Ad) 77 A41 c42 y44 a1::L)→G prog 29 43 [(1,sV A_b list c_b),(4,pT b3),(7,pT b19),(8,I c1)] p1 w (Dz.post w0 L r1 r2 r3):=by
   refine lp (fun _ _ _ _ _ w H _=>by rw [Dz.l1] at H; cases H) fun m1 s1 q1 A41 c42 a1 y44 c1 w H HS=>?_
   rw [Dz.l1] at H
   subst n1
   refine rN 2 Z (rG (pS 2 Z (lS Z Z U37 Z (GO.lss Z Z Z Z (nL ?_)))))
   rcases iS H with ⟨c65,H⟩ | ⟨c65,H⟩
   ·
    refine nB Z (tF c65) (rN 2 Z (rG (lW 1 HS Z Dh (sW 0 HS Z Dh Z fun wd83 HS=>pS 2 Z (nL ?_)))))
    obtain ⟨rfl,rfl,rfl⟩:=Kh H
    exact G.Tt _ _ _ func29 Z (Gc.Gr (j:=0) (vs:=[sV A41 a1 c42]) HS Z Z Z Dh) Z Z ⟨_,_,_,Z,(HS.pk 3 [2] Z)⟩
   refine yB Z (tT c65) (rN 4 Z ?_)
   obtain ⟨c66,H⟩:=iN H
   obtain ⟨e67,h68,H⟩:=De H
   obtain ⟨t69,t70,h71,H⟩:=Dv H
   refine G.J8 mixed (by decide) (fun b a w=>∃ (A72:Option Addr) (c73:Nat) (y74:Nat→(Ty.slice 107 Ad).Lay) (b77:Nat) (g1:Cn) (f1:Cn),RS 43 [(1,sV A_b list c_b),(4,pT b3),(7,pT b19),(8,I c1)] [rv 28 (.agg [sV A41 a1 c42].toArray),rv 29 (sV A_b list c_b),rv 30 (I c1),rv 31 (.pointer (some (ea A_b (c1.toNat * 3)))),rv 32 (.agg [I e67.Kind,I e67.Tet,I e67.Index].toArray),rv 33 (.tuple #[.agg [sV A72 t69 c73].toArray,I t70]),rv 27 (.tuple #[.agg [sV A72 t69 c73].toArray,I t70]),rv 34 (.agg [sV A72 t69 c73].toArray),rv 35 (I t70),rv 9 (pT b77),none,rv 10 (I t70)] b a∧St w0 w (Box b3 31 [.slice none 0 0]::Box b19 31 [sV A41 a1 c42]::Own (Ty.slice 107 Ad) 77 A41 c42 y44 a1::g1::f1::L)∧(b 5=true→g1=Own (Ty.slice 107 Ad) 77 A72 c73 y74 t69)∧(b 9=true→b 10=false→f1=Box b77 31 [.slice none 0 0])∧(b 10=true→f1=Box b77 31 [sV A72 t69 c73])) ?_ ?_ ?_
   · exact fun a hs=>⟨none,0,(fun _=>⟨none,0,uu⟩),0,Emp,Emp,hs.init Z,(HS.drew.emp.emp.pk 5 [2,3,4,1,0] Z),fun h=>Bool.noConfusion h,fun h=>Bool.noConfusion h,fun h=>Bool.noConfusion h⟩
   ·
    intro j b a w hj
    refine exI fun A72=>exI fun c73=>exI fun y74=>exI fun b77=>exI fun g1=>exI fun f1=>anI fun hs=>fun hM q=>?_
    have HS:=hM.1
    match j,hj with
    | 0,_ =>
     refine hs.at q [] [] (lW 1 HS Z Dh (hs.fin q Z fun _ hs=>⟨_,_,_,_,_,_,hs,hM⟩))
    | 1,_ =>
     refine hs.at q [] [] (mV Z (hs.fin q Z fun _ hs=>⟨_,_,_,_,_,_,hs,hM⟩))
    | 2,_ =>
     refine hs.at q [] [] (mV Z (hs.fin q Z fun _ hs=>⟨_,_,_,_,_,_,hs,hM⟩))
    | 3,_ =>
     refine hs.at q [1,2] [] (iX Z U37 Xt (rk (rD 5 r_b) HS) c66 (hs.fin q Z fun _ hs=>⟨_,_,_,_,_,_,hs,hM⟩))
    | 4,_ =>
     refine hs.at q [3] [] (GO.G5 (T:=Hf) (n:=c1.toNat) HS (rD 5 r_b) Z Z (Ci (ltN c66) h68) Pp Z (hs.fin q Z fun _ hs=>⟨_,_,_,_,_,_,hs,hM⟩))
    | 5,_ =>
     refine (anI fun HS=>anI fun d1=>anI fun e1=>fun h1=>?_) hM
     refine hs.at q [0,4] [] (fJ uZ Z (H6.calls HS (ro 2 Z) h71) (fun _ wd75 ⟨A72,c73,y74,h76,HS⟩=>⟨_,h76,(hs.Mk q [5,6,7] (fun _ hs=>⟨A72,c73,y74,b77,Own (Ty.slice 107 Ad) 77 A72 c73 y74 t69,_,hs,HS.pk 6 [1,2,3,0,5] Z,fun _=>Z,e1,fun hh=>(q.no 10 hh).elim⟩) Z Z)⟩))
    | 6,_ =>
     refine hs.at q [5] [] (mV Z (hs.fin q Z fun _ hs=>⟨_,_,_,_,_,_,hs,hM⟩))
    | 7,_ =>
     refine hs.at q [6] [] (GO.extract Z Z Z Z (hs.fin q Z fun _ hs=>⟨_,_,_,_,_,_,hs,hM⟩))
    | 8,_ =>
     refine hs.at q [6] [] (GO.extract Z Z Z Z (hs.fin q Z fun _ hs=>⟨_,_,_,_,_,_,hs,hM⟩))
    | 9,_ =>
     refine (anI fun HS=>anI fun d1=>anI fun e1=>fun h1=>?_) hM
     refine hs.at q [] [] (GO.alloc HS Z K6 Z Z fun b77 wd78 HS=>hs.Mk q [9] (fun _ hs=>⟨A72,c73,y74,b77,_,Box b77 31 [.slice none 0 0],hs,HS.pk 6 [1,2,3,4,0] Z,d1,fun _ _=>Z,fun hh=>(q.no 10 hh).elim⟩) Z Z)
    | 10,_ =>
     refine (anI fun HS=>anI fun d1=>anI fun e1=>fun h1=>?_) hM
     have hb9:=q.on 9
     obtain rfl:=e1 hb9 q.hb
     refine hs.at q [9,7] [] (sW 4 HS Z Dh Z fun wd79 HS=>hs.Tq q Z fun _ hs=>⟨A72,c73,y74,b77,_,Box b77 31 [sV A72 t69 c73],hs,HS,d1,fun _ h=>Bool.noConfusion h,fun _=>Z⟩)
    | 11,_ =>
     refine hs.at q [8] [] (aS Z (hs.fin q Z fun _ hs=>⟨_,_,_,_,_,_,hs,hM⟩))
    | k+12,hj=>exact absurd hj (Nat.not_lt.2 (Nat.le_add_left 12 k))
   ·
    intro b a w hall
    refine exI fun A72=>exI fun c73=>exI fun y74=>exI fun b77=>exI fun g1=>exI fun f1=>anI fun hs=>anI fun HS=>anI fun d1=>anI fun e1=>fun h1=>?_
    obtain rfl:=d1 (hall 5 (by decide))
    obtain rfl:=h1 (hall 10 (by decide))
    refine G.at (hs.all hall) (rN 3 Z ?_)
    rcases iE H with ⟨c80,H⟩ | ⟨c80,H⟩
    ·
     refine nB Z (nT c80) (G.skip (rG (lW 4 HS Z Dh (sW 1 HS Z Dh Z fun wd81 HS=>nL (rN 3 Z (gW (q1 m1 (lR _) _ _ _ _ _ _ H (HS.pk 5 [0,1,3] Z)) Z))))))
    refine yB Z (nF c80) (sQ (rG (GO.Da (.agg [.slice none 0 0].toArray) Z Z (fun _=>by kernel_rfl) Z (pS 2 Z (sW 0 HS Z Dh Z fun wd82 HS=>pS 2 Z (nL ?_))))))
    replace HS:=HS.C8 (Ty.slice 107 Ad) 77 (fun _=>⟨none,0,uu⟩)
    obtain ⟨rfl,rfl,rfl⟩:=Kh H
    exact G.Tt _ _ _ func29 Z (Gc.Gr (j:=1) (vs:=[.slice none 0 0]) HS Z Z Z Dh) Z Z ⟨_,_,_,Z,(HS.pk 6 [0] Z)⟩
  exact gW (o1 K (lR _) _ _ _ _ _ _ H (HS.pk 4 [2,0,1] Z)) Z
theorem Dm.calls {c1:List (List Ab)} {list:List Gh} {y_a:Nat→(Ty.slice 107 Ad).Lay} {r1:List (List Ab)} {r2 r3:Int} (HS:St w0 w (L)) (r_a:Bv w0 L (Ty.slice 107 Ad) A_a c_a y_a c1) (r_b:Bv w0 L Hf A_b c_b uu list) (H:Dm.f K c1 list=some (r1,r2,r3)) :
    Calls prog 31 #[.agg [sV A_a c1 c_a].toArray,sV A_b list c_b] w (Dm.post w0 L r1 r2 r3):=by
  unfold Dm.f at H
  refine cG func31 Z ?_
  refine sQ (rG (bA HS Z fun b1 wd2 HS=>GO.alloc HS Z K6 Z Z fun b3 wd4 HS=>pS 2 Z (nL (rN 3 Z ?_))))
  obtain ⟨t5,h6,H⟩:=bI H
  refine rG (lW 1 HS Z Dh (fJ mM Z (Be.calls HS (rD 2 r_a) h6) (fun _ wd7 ⟨h8,HS⟩=>⟨_,h8,(pS 2 Z (nL ?_))⟩)))
  rcases iS H with ⟨c9,H⟩ | ⟨c9,H⟩
  ·
   refine yB Z (congrArg Bool.not (Db c9)) (sQ (rG (GO.Da (.agg [.slice none 0 0].toArray) Z Z (fun _=>by kernel_rfl) Z (sW 0 HS Z Dh Z fun wd93 HS=>pS 2 Z (nL ?_)))))
   replace HS:=HS.C8 (Ty.slice 107 Ad) 77 (fun _=>⟨none,0,uu⟩)
   obtain ⟨rfl,rfl,rfl⟩:=Kh H
   exact G.Tt _ _ _ func31 Z (Gc.Gr (j:=1) (vs:=[.slice none 0 0]) HS Z Z Z Dh) Z Z ⟨_,_,_,Z,(HS.pk 3 [0] Z)⟩
  refine nB Z (congrArg Bool.not c9) (sQ (rG (mV Z (lS Z Z U37 Z (pS 2 Z (nL ?_))))))
  rcases iE H with ⟨c10,H⟩ | ⟨c10,H⟩
  ·
   refine yB Z (tT c10) (sQ (rG (GO.Da (.agg [.slice none 0 0].toArray) Z Z (fun _=>by kernel_rfl) Z (sW 0 HS Z Dh Z fun wd11 HS=>pS 2 Z (nL ?_)))))
   replace HS:=HS.C8 (Ty.slice 107 Ad) 77 (fun _=>⟨none,0,uu⟩)
   obtain ⟨rfl,rfl,rfl⟩:=Kh H
   exact G.Tt _ _ _ func31 Z (Gc.Gr (j:=1) (vs:=[.slice none 0 0]) HS Z Z Z Dh) Z Z ⟨_,_,_,Z,(HS.pk 3 [0] Z)⟩
  refine nB Z (tF c10) (rN 3 Z ?_)
  obtain ⟨t12,h13,H⟩:=bI H
  refine rG (lW 1 HS Z Dh (fJ mP Z (Cf.calls HS (rD 2 r_a) h13) (fun _ wd17 ⟨A14,c15,y16,h18,HS⟩=>⟨_,h18,(GO.alloc HS Z K6 Z Z fun b19 wd20 HS=>sW 0 HS Z Dh Z fun wd21 HS=>nL (rN 2 Z (rG (mV Z (lS Z Z U37 Z (mV Z (nL (rN 2 Z ?_))))))))⟩)))
  refine G.name (fun h1 f1=>?_)
  have g1:∀ d1,d1≤K→∀ (A44:Option Addr) (c45:Nat) (a1:List (List Ab)) (y47:Nat→(Ty.slice 107 Ad).Lay) (x48:Int) (w:World),Dm.l1 K d1 list a1 x48=some (r1,r2,r3)→St w0 w (Box b3 31 [.slice none 0 0]::Box b19 31 [sV A44 a1 c45]::Own (Ty.slice 107 Ad) 77 A44 c45 y47 a1::L)→G prog 31 45 [(4,pT b3),(7,pT b19),(24,sV A_b list c_b),(25,I (list.length:Int)),(26,I x48)] h1 w (Dm.post w0 L r1 r2 r3):=by
   refine lp (fun _ _ _ _ _ w H _=>by rw [Dm.l1] at H; cases H) fun e1 k1 i1 A44 c45 a1 y47 x48 w H HS=>?_
   rw [Dm.l1] at H
   subst f1
   refine rN 3 Z ?_
   rcases iS H with ⟨c71,H⟩ | ⟨c71,H⟩
   ·
    refine nB Z (tF c71) (rN 2 Z (rG (lW 1 HS Z Dh (sW 0 HS Z Dh Z fun wd92 HS=>pS 2 Z (nL ?_)))))
    obtain ⟨rfl,rfl,rfl⟩:=Kh H
    exact G.Tt _ _ _ func31 Z (Gc.Gr (j:=0) (vs:=[sV A44 a1 c45]) HS Z Z Z Dh) Z Z ⟨_,_,_,Z,(HS.pk 3 [2] Z)⟩
   refine yB Z (tT c71) (rN 4 Z ?_)
   obtain ⟨c72,H⟩:=iN H
   obtain ⟨e73,h74,H⟩:=De H
   refine rG (mV Z (iX Z U37 Xt (rk (rD 3 r_b) HS) c72 (GO.G5 (T:=Hf) (n:=x48.toNat) HS (rD 3 r_b) Z Z (Ci (ltN c72) h74) Pp Z (GO.alloc HS Z pW Z Z fun b75 wd76 HS=>aS Z (sW 0 HS Z Pp Z fun wd77 HS=>nL (sQ ?_))))))
   obtain ⟨t78,t79,h80,H⟩:=Dv H
   refine rG (lW 2 HS Z Dh (lW 0 HS Z Pp (fJ sG Z (H5.calls HS (ro 3 Z) h80) (fun _ wd84 ⟨A81,c82,y83,h85,HS⟩=>⟨_,h85,(pS 3 Z (GO.alloc HS Z K6 Z Z fun b86 wd87 HS=>sW 0 HS Z Dh Z fun wd88 HS=>aS Z (nL (rN 3 Z ?_))))⟩))))
   rcases iE H with ⟨c89,H⟩ | ⟨c89,H⟩
   ·
    refine nB Z (nT c89) (G.skip (rG (lW 0 HS Z Dh (sW 4 HS Z Dh Z fun wd90 HS=>nL (rN 3 Z (gW (i1 e1 (lR _) _ _ _ _ _ _ H (HS.pk 6 [3,4,1] Z)) Z))))))
   refine yB Z (nF c89) (sQ (rG (GO.Da (.agg [.slice none 0 0].toArray) Z Z (fun _=>by kernel_rfl) Z (pS 2 Z (sW 3 HS Z Dh Z fun wd91 HS=>pS 2 Z (nL ?_))))))
   replace HS:=HS.C8 (Ty.slice 107 Ad) 77 (fun _=>⟨none,0,uu⟩)
   obtain ⟨rfl,rfl,rfl⟩:=Kh H
   exact G.Tt _ _ _ func31 Z (Gc.Gr (j:=4) (vs:=[.slice none 0 0]) HS Z Z Z Dh) Z Z ⟨_,_,_,Z,(HS.pk 7 [0] Z)⟩
  exact gW (g1 K (lR _) _ _ _ _ _ _ H (HS.pk 4 [2,0,1] Z)) Z
theorem F6.calls {a1:List (List Ab)} {o:List Gh} {y_a:Nat→(Ty.slice 142 Ad).Lay} {r1:Bool} (HS:St w0 w (L)) (r_a:Bv w0 L (Ty.slice 142 Ad) A_a c_a y_a a1) (r_b:Bv w0 L Hf A_b c_b uu o) (H:F6.f K a1 o=some r1) :
    Calls prog 7 #[.agg [sV A_a a1 c_a].toArray,sV A_b o c_b] w (F6.post w0 L r1):=by
  unfold F6.f at H
  refine cG func7 Z ?_
  refine sQ (rG (bA HS Z fun b1 wd2 HS=>aS Z (nL (rN 3 Z ?_))))
  obtain ⟨t3,h4,H⟩:=bI H
  refine rG (lW 0 HS Z cO (mV Z (fJ uR Z (F3.calls HS (rD 1 r_a) h4) (fun _ wd5 ⟨h6,HS⟩=>⟨_,h6,(aS Z (nL (rN 3 Z ?_)))⟩))))
  rcases iE H with ⟨c7,H⟩ | ⟨c7,H⟩
  ·
   refine yB Z (tT c7) (rN 2 Z ?_)
   obtain rfl:=sI H
   exact rT _ func7 Z Z ⟨Z,(HS.pk 1 [] Z)⟩
  refine nB Z (tF c7) (rN 2 Z ?_)
  obtain ⟨t8,h9,H⟩:=bI H
  refine rG (pS 2 Z (fJ uL Z (Iu.calls HS (rD 1 r_b) h9) (fun _ wd10 ⟨h11,HS⟩=>⟨_,h11,(aS Z (nL (rN 3 Z ?_)))⟩)))
  rcases iE H with ⟨c12,H⟩ | ⟨c12,H⟩
  ·
   refine yB Z (tT c12) (rN 2 Z ?_)
   obtain rfl:=sI H
   exact rT _ func7 Z Z ⟨Z,(HS.pk 1 [] Z)⟩
  refine nB Z (tF c12) (rN 2 Z ?_)
  obtain ⟨t13,h14,H⟩:=bI H
  obtain ⟨t20,h21,H⟩:=bI H
  obtain ⟨t26,t27,t28,h29,H⟩:=I4 H
  refine rG (lW 0 HS Z cO (fJ Ze Z (Du.calls HS (rD 1 r_a) h14) (fun _ wd18 ⟨A15,c16,y17,h19,HS⟩=>⟨_,h19,(mV Z (fJ aH Z (D5.calls HS (rD 2 r_b) h21) (fun _ wd24 ⟨A22,c23,h25,HS⟩=>⟨_,h25,(fJ tH Z (Dz.calls HS (ro 1 Z) (ro 0 Z) h29) (fun _ wd33 ⟨A30,c31,y32,h34,HS⟩=>⟨_,h34,(pS 4 Z (GO.alloc HS Z K6 Z Z fun b35 wd36 HS=>sW 0 HS Z Dh Z fun wd37 HS=>pS 2 Z (nL (sQ ?_))))⟩))⟩)))⟩)))
  obtain ⟨t38,h39,H⟩:=bI H
  refine rG (lW 4 HS Z cO (fJ Ze Z (Du.calls HS (rD 5 r_a) h39) (fun _ wd43 ⟨A40,c41,y42,h44,HS⟩=>⟨_,h44,(GO.alloc HS Z K6 Z Z fun b45 wd46 HS=>sW 0 HS Z Dh Z fun wd47 HS=>nL (sQ ?_))⟩)))
  obtain ⟨t48,h49,H⟩:=bI H
  refine rG (mV Z (fJ aH Z (D5.calls HS (rD 7 r_b) h49) (fun _ wd52 ⟨A50,c51,h53,HS⟩=>⟨_,h53,(aS Z (nL (sQ ?_)))⟩)))
  obtain ⟨t54,t55,t56,h57,H⟩:=I4 H
  refine rG (lW 1 HS Z Dh (mV Z (fJ lZ Z (Dm.calls HS (ro 2 Z) (ro 0 Z) h57) (fun _ wd61 ⟨A58,c59,y60,h62,HS⟩=>⟨_,h62,(pS 4 Z (GO.alloc HS Z K6 Z Z fun b63 wd64 HS=>sW 0 HS Z Dh Z fun wd65 HS=>pS 2 Z (nL (rN 2 Z ?_))))⟩))))
  obtain ⟨t72,h73,H⟩:=bI H
  rcases iS H with ⟨c76,H⟩ | ⟨c76,H⟩
  ·
   refine rG (lW 0 HS Z Dh (lW 5 HS Z Dh (fJ O9 Z (Cq.calls HS (ro 1 Z) (ro 6 Z) h73) (fun _ wd74 ⟨h75,HS⟩=>⟨_,h75,(pS 2 Z (kN 54 Z (congrArg Bool.not (Db c76)) (oF Z (oF Z (oF Z (pS 2 Z (oF Z (oF Z (oF Z (GO.Ic Z Z Z Z Z (nL ?_)))))))))))⟩))))
   refine rN 3 Z ?_
   obtain rfl:=sI H
   exact rT _ func7 Z Z ⟨Z,(HS.pk 10 [] Z)⟩
  rcases iS H with ⟨c77,H⟩ | ⟨c77,H⟩
  ·
   refine rG (lW 0 HS Z Dh (lW 5 HS Z Dh (fJ O9 Z (Cq.calls HS (ro 1 Z) (ro 6 Z) h73) (fun _ wd74 ⟨h75,HS⟩=>⟨_,h75,(pS 2 Z (kN 54 Z (congrArg Bool.not c76) (oN Z (mV Z (bK (oN Z (mV Z (bK (oN Z (GO.neq Z Z Z Z (bK ?_)))))))))))⟩))))
   refine pS 2 Z (kN 59 Z (nF c77) (oF Z (oF Z (oF Z (GO.Ic Z Z Z Z Z (nL (rN 3 Z ?_)))))))
   obtain rfl:=sI H
   exact rT _ func7 Z Z ⟨Z,(HS.pk 10 [] Z)⟩
  refine rG (lW 0 HS Z Dh (lW 5 HS Z Dh (fJ O9 Z (Cq.calls HS (ro 1 Z) (ro 6 Z) h73) (fun _ wd74 ⟨h75,HS⟩=>⟨_,h75,(pS 2 Z (kN 54 Z (congrArg Bool.not c76) (oN Z (mV Z (bK (oN Z (mV Z (bK (oN Z (GO.neq Z Z Z Z (bK ?_)))))))))))⟩))))
  refine pS 2 Z (kN 59 Z (nT c77) (oN Z (mV Z (bK (oN Z (mV Z (bK (oN Z (GO.neq Z Z Z Z (bK (GO.I8 Z Z Z Z Z (nL ?_))))))))))))
  rcases iS H with ⟨c78,H⟩ | ⟨c78,H⟩
  ·
   refine yB Z (nF c78) (rN 2 Z ?_)
   obtain rfl:=sI H
   exact rT _ func7 Z Z ⟨Z,(HS.pk 10 [] Z)⟩
  refine nB Z (nT c78) (rN 3 Z ?_)
  obtain ⟨t79,h80,H⟩:=bI H
  obtain ⟨t86,h87,H⟩:=bI H
  refine G.Hd mixed (fun w=>St w0 w (Box b45 31 [sV A40 t38 c41]::Box b1 24 [sV A_a a1 c_a]::L)) [0,1] [0,1,2,3,4] [] (by kernel_rfl) (by kernel_rfl) (HS.drew.pk 10 [3,9] Z) ?_
  replace HS:=HS.drew
  refine GX.ls Z Z Z (HS.pk 10 [3,9] Z) (fun _ HS _ g=>lW 0 HS Z Dh g) Z (GX.ls Z Z Z (HS.pk 10 [3,9] Z) (fun _ HS _ g=>lW 1 HS Z cO g) Z (GX.l2 Z (fJ Ze Z (Du.calls HS (rD 10 r_a) h80) (fun _ wd84 ⟨A81,c82,y83,h85,HS⟩=>⟨_,h85,(GX.fin (HS.pk 11 [4,10] Z) (GX.l2 Z (fJ O9 Z (Cq.calls HS (ro 5 Z) (ro 0 Z) h87) (fun _ wd88 ⟨h89,HS⟩=>⟨_,h89,(GX.fin (HS.pk 11 [4,10] Z) (GX.ps 1 Z (GX.nil ?_)))⟩))))⟩))))
  rcases iS H with ⟨c90,H⟩ | ⟨c90,H⟩
  ·
   refine yB Z (congrArg Bool.not (Db c90)) (rN 2 Z ?_)
   obtain rfl:=sI H
   exact rT _ func7 Z Z ⟨Z,(HS.pk 11 [] Z)⟩
  refine nB Z (congrArg Bool.not c90) (rN 3 Z ?_)
  obtain ⟨t91,h92,H⟩:=bI H
  obtain ⟨t97,h98,H⟩:=bI H
  refine rG (pS 2 Z (fJ aH Z (D5.calls HS (rD 11 r_b) h92) (fun _ wd95 ⟨A93,c94,h96,HS⟩=>⟨_,h96,(fJ rY Z (Fv.calls HS (ro 4 Z) (ro 0 Z) h98) (fun _ wd99 ⟨h100,HS⟩=>⟨_,h100,(GO.not Z Z Z (nL ?_))⟩))⟩)))
  rcases iS H with ⟨c101,H⟩ | ⟨c101,H⟩
  ·
   refine yB Z (congrArg Bool.not (Db c101)) (rN 2 Z ?_)
   obtain rfl:=sI H
   exact rT _ func7 Z Z ⟨Z,(HS.pk 12 [] Z)⟩
  refine nB Z (congrArg Bool.not c101) (rN 4 Z ?_)
  obtain ⟨t102,t103,h104,H⟩:=Dv H
  obtain ⟨c105,H⟩:=iN H
  refine rG (lW 5 HS Z Dh (mV Z ?_))
  replace HS:=HS.pk 12 [6,0,1,2,3,4,5,7,8,9,10,11] Z
  refine fJ mX Z (Ez.calls HS  h104) (fun _ wd106 ⟨h107,HS⟩=>⟨_,h107,(aS Z (nL ?_))⟩)
  replace HS:=HS.Kl (j:=6) (cs':=[sV A40 t103 c41]) Z (by simp only [sV,List.length_set,c105] <;> rfl)
  refine sQ ?_
  obtain ⟨t108,t109,h110,H⟩:=Dv H
  obtain ⟨c111,H⟩:=iN H
  refine rG (pS 2 Z ?_)
  replace HS:=HS.pk 12 [5,0,1,2,3,4,6,7,8,9,10,11] Z
  refine fJ uX Z (Eb.calls HS  h110) (fun _ wd112 ⟨h113,HS⟩=>⟨_,h113,(aS Z (nL (rN 2 Z ?_)))⟩)
  rcases iE H with ⟨c120,H⟩ | ⟨c120,H⟩
  ·
   refine rG (pS 3 Z (kN 82 Z (tT c120) (oF Z (oF Z (oF Z (oF Z (pS 2 Z (oF Z (oF Z (oF Z (pS 2 Z (oF Z (oF Z (oF Z ?_))))))))))))))
   refine GO.Ic Z Z Z Z Z (nL (rN 3 Z ?_))
   obtain rfl:=sI H
   exact rT _ func7 Z Z ⟨Z,(HS.pk 12 [] Z)⟩
  obtain ⟨t121,h122,H⟩:=bI H
  rcases iS H with ⟨c125,H⟩ | ⟨c125,H⟩
  ·
   refine rG (pS 3 Z (kN 82 Z (tF c120) (oN Z (lW 4 HS Z Dh (bK (oN Z (lW 7 HS Z Dh (bK (oN Z (fJ O9 Z (Cq.calls HS (ro 5 Z) (ro 8 Z) h122) (fun _ wd123 ⟨h124,HS⟩=>⟨_,h124,(bK (oN Z (GO.not Z Z Z (bK ?_))))⟩)))))))))))
   refine pS 2 Z (kN 88 Z (congrArg Bool.not (Db c125)) (oF Z (oF Z (oF Z (pS 2 Z (oF Z (oF Z (oF Z (GO.Ic Z Z Z Z Z (nL (rN 3 Z ?_)))))))))))
   obtain rfl:=sI H
   exact rT _ func7 Z Z ⟨Z,(HS.pk 12 [] Z)⟩
  refine rG (pS 3 Z (kN 82 Z (tF c120) (oN Z (lW 4 HS Z Dh (bK (oN Z (lW 7 HS Z Dh (bK (oN Z (fJ O9 Z (Cq.calls HS (ro 5 Z) (ro 8 Z) h122) (fun _ wd123 ⟨h124,HS⟩=>⟨_,h124,(bK (oN Z (GO.not Z Z Z (bK ?_))))⟩)))))))))))
  refine pS 2 Z (kN 88 Z (congrArg Bool.not c125) (oN Z (mV Z (bK (oN Z (mV Z (bK (oN Z (GO.neq Z Z Z Z (bK (pS 2 Z (kN 93 Z (nT c77) (oN Z (mV Z ?_))))))))))))))
  refine bK (oN Z (mV Z (bK (oN Z (GO.neq Z Z Z Z (bK (GO.I8 Z Z Z Z Z (nL (nB Z (nT c78) (rN 4 Z ?_))))))))))
  obtain ⟨t126,t127,h128,H⟩:=Dv H
  obtain ⟨c129,H⟩:=iN H
  refine rG (lW 4 HS Z Dh (mV Z ?_))
  replace HS:=HS.pk 12 [5,0,1,2,3,4,6,7,8,9,10,11] Z
  refine fJ mX Z (Ez.calls HS  h128) (fun _ wd130 ⟨h131,HS⟩=>⟨_,h131,(aS Z (nL ?_))⟩)
  replace HS:=HS.Kl (j:=5) (cs':=[sV A58 t127 c59]) Z (by simp only [sV,List.length_set,c129] <;> rfl)
  refine rN 3 Z ?_
  obtain ⟨t132,h133,H⟩:=bI H
  refine rG (lW 5 HS Z Dh (mV Z (fJ mE Z (E8.calls HS (ro 0 Z) h133) (fun _ wd134 ⟨h135,HS⟩=>⟨_,h135,(aS Z (nL (rN 3 Z ?_)))⟩))))
  rcases iE H with ⟨c136,H⟩ | ⟨c136,H⟩
  ·
   refine yB Z (tT c136) (rN 2 Z ?_)
   obtain rfl:=sI H
   exact rT _ func7 Z Z ⟨Z,(HS.pk 12 [] Z)⟩
  refine nB Z (tF c136) (rN 4 Z ?_)
  rcases iS H with ⟨c137,H⟩ | ⟨c137,H⟩
  ·
   refine yB Z (nF c137) (rN 2 Z ?_)
   obtain rfl:=sI H
   exact rT _ func7 Z Z ⟨Z,(HS.pk 12 [] Z)⟩
  refine nB Z (nT c137) (rN 2 Z ?_)
  obtain ⟨t138,h139,H⟩:=bI H
  obtain ⟨t145,h146,H⟩:=bI H
  obtain ⟨t151,t152,t153,h154,H⟩:=I4 H
  refine rG (lW 11 HS Z cO (fJ Ze Z (Du.calls HS (rD 12 r_a) h139) (fun _ wd143 ⟨A140,c141,y142,h144,HS⟩=>⟨_,h144,(mV Z (fJ aH Z (D5.calls HS (rD 13 r_b) h146) (fun _ wd149 ⟨A147,c148,h150,HS⟩=>⟨_,h150,(fJ lZ Z (Dm.calls HS (ro 1 Z) (ro 0 Z) h154) (fun _ wd158 ⟨A155,c156,y157,h159,HS⟩=>⟨_,h159,(pS 4 Z (GO.alloc HS Z K6 Z Z fun b160 wd161 HS=>sW 0 HS Z Dh Z fun wd162 HS=>pS 2 Z (nL (rN 2 Z ?_))))⟩))⟩)))⟩)))
  obtain ⟨t169,h170,H⟩:=bI H
  rcases iS H with ⟨c173,H⟩ | ⟨c173,H⟩
  ·
   refine rG (lW 0 HS Z Dh (lW 11 HS Z Dh (fJ O9 Z (Cq.calls HS (ro 1 Z) (ro 12 Z) h170) (fun _ wd171 ⟨h172,HS⟩=>⟨_,h172,(pS 2 Z (kN 122 Z (congrArg Bool.not (Db c173)) (oF Z (oF Z (oF Z (pS 2 Z (oF Z (oF Z (oF Z (GO.Ic Z Z Z Z Z (nL ?_)))))))))))⟩))))
   refine rN 3 Z ?_
   obtain rfl:=sI H
   exact rT _ func7 Z Z ⟨Z,(HS.pk 16 [] Z)⟩
  rcases iS H with ⟨c174,H⟩ | ⟨c174,H⟩
  ·
   refine rG (lW 0 HS Z Dh (lW 11 HS Z Dh (fJ O9 Z (Cq.calls HS (ro 1 Z) (ro 12 Z) h170) (fun _ wd171 ⟨h172,HS⟩=>⟨_,h172,(pS 2 Z (kN 122 Z (congrArg Bool.not c173) (oN Z (mV Z (bK (oN Z (mV Z (bK (oN Z (GO.neq Z Z Z Z (bK ?_)))))))))))⟩))))
   refine pS 2 Z (kN 127 Z (nF c174) (oF Z (oF Z (oF Z (GO.Ic Z Z Z Z Z (nL (rN 3 Z ?_)))))))
   obtain rfl:=sI H
   exact rT _ func7 Z Z ⟨Z,(HS.pk 16 [] Z)⟩
  refine rG (lW 0 HS Z Dh (lW 11 HS Z Dh (fJ O9 Z (Cq.calls HS (ro 1 Z) (ro 12 Z) h170) (fun _ wd171 ⟨h172,HS⟩=>⟨_,h172,(pS 2 Z (kN 122 Z (congrArg Bool.not c173) (oN Z (mV Z (bK (oN Z (mV Z (bK (oN Z (GO.neq Z Z Z Z (bK ?_)))))))))))⟩))))
  refine pS 2 Z (kN 127 Z (nT c174) (oN Z (mV Z (bK (oN Z (mV Z (bK (oN Z (GO.neq Z Z Z Z (bK (GO.I8 Z Z Z Z Z (nL ?_))))))))))))
  rcases iS H with ⟨c175,H⟩ | ⟨c175,H⟩
  ·
   refine yB Z (nF c175) (rN 2 Z ?_)
   obtain rfl:=sI H
   exact rT _ func7 Z Z ⟨Z,(HS.pk 16 [] Z)⟩
  refine nB Z (nT c175) (rN 4 Z ?_)
  obtain ⟨t176,h177,H⟩:=bI H
  refine rG (lW 9 HS Z Dh (mV Z (fJ mE Z (E8.calls HS (ro 4 Z) h177) (fun _ wd178 ⟨h179,HS⟩=>⟨_,h179,(aS Z (nL (rN 3 Z ?_)))⟩))))
  rcases iE H with ⟨c180,H⟩ | ⟨c180,H⟩
  ·
   refine yB Z (tT c180) (rN 2 Z ?_)
   obtain rfl:=sI H
   exact rT _ func7 Z Z ⟨Z,(HS.pk 16 [] Z)⟩
  refine nB Z (tF c180) (rN 4 Z ?_)
  rcases iS H with ⟨c181,H⟩ | ⟨c181,H⟩
  ·
   refine yB Z (nF c181) (rN 2 Z ?_)
   obtain rfl:=sI H
   exact rT _ func7 Z Z ⟨Z,(HS.pk 16 [] Z)⟩
  refine nB Z (nT c181) (rN 3 Z ?_)
  obtain rfl:=sI H
  exact rT _ func7 Z Z ⟨Z,(HS.pk 16 [] Z)⟩
end Go.Proofs.YtbjfinndngafoaaGreat
