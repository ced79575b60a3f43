/-
  The walks through the functions: a call comes to what its list function says.
-/
import Derived.Test.YtbjfinndngafoaaGreatAlF
import Derived.Test.YtbjfinndngafoaaGreatAlW1
import Derived.Test.YtbjfinndngafoaaGreatAlW3
import Derived.Test.YtbjfinndngafoaaGreatAlW4
import Derived.Test.YtbjfinndngafoaaGreatAlW5
import Derived.Test.YtbjfinndngafoaaGreatAlW7
set_option linter.unusedVariables false
set_option linter.unusedSimpArgs false
namespace Go.Proofs.YtbjfinndngafoaaGreat
open Go.RowKit
open Tryz
variable {w0 w:World} {L:List Cw} {K:Nat} {A_a A_b A_c A_d A_e A_f A_g A_h A_i A_j A_k A_l A_m A_n A_o A_p A_q A_r A_s A_t A_u A_v A_w A_x A_y A_z:Option Addr} {c_a c_b c_c c_d c_e c_f c_g c_h c_i c_j c_k c_l c_m c_n c_o c_p c_q c_r c_s c_t c_u c_v c_w c_x c_y c_z:Nat}
set_option maxRecDepth 20000
set_option maxHeartbeats 40000000
theorem D8.calls {a_:List Int} {r1:List Int} (HS:St w0 w (L)) (r_a:Ca w0 L (Ap .i64) A_a c_a uu a_) (H:D8.f K a_=some r1) :
    Calls prog 35 #[sV A_a a_ c_a] w (D8.post w0 L r1):=by
  unfold D8.f at H
  refine cG func35 Z ?_
  refine rN 3 Z ?_
  obtain ⟨c1,H⟩:=iN H
  obtain ⟨c2,H⟩:=iN H
  refine rG (mV Z (lS Z Z U56 Z (GO.make (T:=(Ap .i64)) 0 () HS Aw Z Z Z U56 L6 Z Z Z c1 c2 Z fun b3 wd4 HS=>aS Z (nL (rN 5 Z ?_)))))
  refine G.name (fun h1 f1=>?_)
  have g1:∀ d1,d1≤K→∀ (b1:List Int) (a1:Int) (w:World),D8.l1 K d1 a_ b1 a1=some r1→St w0 w (Own (Ap .i64) 2 (sb b3) ((a_.length:Int).toNat) uu b1::L)→G prog 35 22 [(0,sV A_a a_ c_a),(3,sV (sb b3) b1 ((a_.length:Int).toNat)),(4,I a1)] h1 w (D8.post w0 L r1):=by
   refine lp (fun _ _ w H _=>by rw [D8.l1] at H; cases H) fun e1 k1 i1 b1 a1 w H HS=>?_
   rw [D8.l1] at H
   subst f1
   refine rN 2 Z (rG (pS 2 Z (lS Z Z U56 Z (GO.lss Z Z Z Z (nL ?_)))))
   rcases iS H with ⟨c15,H⟩ | ⟨c15,H⟩
   ·
    refine nB Z (tF c15) (rN 3 Z ?_)
    obtain rfl:=sI H
    exact rT _ func35 Z Z ⟨_,_,Z,HS⟩
   refine yB Z (tT c15) (rN 3 Z ?_)
   obtain ⟨c16,H⟩:=iN H
   obtain ⟨c17,H⟩:=iN H
   refine rG (pS 4 Z (iX Z U56 sz2 (rk (rD 1 r_a) HS) c16 (GO.Ch (T:=(Ap .i64)) (n:=a1.toNat) (o:=0) HS (rD 1 r_a) Z Z (getD_some (d:=0) (ltN c16)) Z Z na2 Z (iX Z U56 sz2 (fun _=>⟨_,_,Z⟩) c17 (GO.Ib (T:=(Ap .i64)) (j:=0) (n:=a1.toNat) (o:=0) (vs:=[I (a_.getD a1.toNat 0)]) (a_.getD a1.toNat 0) HS Z Aw Z Z Z Z (htN na2 Z) Z (getD_some (d:=0) (ltN c17)) Z Z fun wd18 HS=>nL (G.len (t:=3) (m:=(b1.set a1.toNat (a_.getD a1.toNat 0)).length) Z (by simp only [List.length_set] <;> rfl) (rN 3 Z (gW (i1 e1 (lR _) _ _ _ H HS) Z))))))))
  exact gW (g1 K (lR _) _ _ _ H HS) Z
theorem Gj.calls {e1:List (List Ab)} {picks:List Int} {y_a:Nat→(Ty.slice 107 Ad).Lay} {r1:List (List Ab)} {r2:List Dv} (HS:St w0 w (L)) (r_a:Ca w0 L (Ty.slice 107 Ad) A_a c_a y_a e1) (r_b:Ca w0 L (Ap .i64) A_b c_b uu picks) (H:Gj.f K e1 picks=some (r1,r2)) :
    Calls prog 57 #[.agg [sV A_a e1 c_a].toArray,sV A_b picks c_b] w (Gj.post w0 L r1 r2):=by
  unfold Gj.f at H
  refine cG func57 Z ?_
  refine sQ (rG (bA HS Z fun b1 wd2 HS=>GO.alloc HS Z Lt Z Z fun b3 wd4 HS=>aS Z (nL (sQ ?_))))
  obtain ⟨t5,h6,H⟩:=bI H
  refine rG (lW 1 HS Z Dk (fJ wI Z (Gy.calls HS (rD 2 r_a) h6) (fun _ wd10 ⟨A7,c8,y9,h11,HS⟩=>⟨_,h11,(GO.alloc HS Z Lt Z Z fun b12 wd13 HS=>sW 0 HS Z Dk Z fun wd14 HS=>nL (sQ (rG (GO.Ct (el:=33) ([]) HS Z Z (fun _=>by kernel_rfl) Z fun b15 wd16 HS=>?_))))⟩)))
  replace HS:=HS.Fj (T:=Fu) (j:=0) Z Aw uu ([]:List Dv) Z (Ik Z)
  refine GO.Hz (t:=13) (m:=([]:List Dv).length) (c':=([]:List Dv).length) Z Z Z (aS Z (nL (rN 5 Z ?_)))
  refine G.name (fun k1 h1=>?_)
  have i1:∀ f1,f1≤K→∀ (A49:Option Addr) (c50:Nat) (a1:List (List Ab)) (y52:Nat→(Ty.slice 107 Ad).Lay) (A53:Option Addr) (c54:Nat) (d1:List Dv) (c1:Int) (w:World),Gj.l1 K f1 picks a1 d1 c1=some (r1,r2)→St w0 w (Box b3 31 [.slice none 0 0]::Box b12 31 [sV A49 a1 c50]::Own (Ty.slice 107 Ad) 77 A49 c50 y52 a1::Own Fu 33 A53 c54 uu d1::L)→G prog 57 47 [(1,sV A_b picks c_b),(4,pT b3),(6,pT b12),(7,sV A53 d1 c54),(8,I c1)] k1 w (Gj.post w0 L r1 r2):=by
   refine lp (fun _ _ _ _ _ _ _ _ w H _=>by rw [Gj.l1] at H; cases H) fun g1 n1 m1 A49 c50 a1 y52 A53 c54 d1 c1 w H HS=>?_
   rw [Gj.l1] at H
   subst h1
   refine rN 2 Z (rG (pS 2 Z (lS Z Z U56 Z (GO.lss Z Z Z Z (nL ?_)))))
   rcases iS H with ⟨c89,H⟩ | ⟨c89,H⟩
   ·
    refine nB Z (tF c89) (rN 2 Z (rG (lW 1 HS Z Dk (mV Z (sW 0 HS Z Dk Z fun wd120 HS=>aS Z (nL ?_))))))
    obtain ⟨rfl,rfl⟩:=H8 H
    exact G.H6 _ _ func57 Z (Gx.Hl (j:=0) (vs:=[sV A49 a1 c50]) HS Z Z Z Dk) Z ⟨_,_,_,_,_,Z,(HS.pk 4 [2,3] Z)⟩
   refine yB Z (tT c89) (rN 4 Z ?_)
   obtain ⟨t90,h91,H⟩:=bI H
   refine rG (lW 1 HS Z Dk (fJ xS Z (Bp.calls HS (ro 2 Z) h91) (fun _ wd94 ⟨A92,c93,h95,HS⟩=>⟨_,h95,(aS Z (nL (rN 2 Z (rG (mV Z (lS Z Z U37 Z (GO.eql Z Z Z Z (nL ?_))))))))⟩)))
   rcases iE H with ⟨c96,H⟩ | ⟨c96,H⟩
   ·
    refine yB Z (tT c96) (rN 2 Z (rG (lW 2 HS Z Dk (mV Z (sW 1 HS Z Dk Z fun wd97 HS=>aS Z (nL ?_))))))
    obtain ⟨rfl,rfl⟩:=H8 H
    exact G.H6 _ _ func57 Z (Gx.Hl (j:=1) (vs:=[sV A49 a1 c50]) HS Z Z Z Dk) Z ⟨_,_,_,_,_,Z,(HS.pk 5 [3,4] Z)⟩
   refine nB Z (tF c96) (rN 2 Z ?_)
   obtain ⟨c98,H⟩:=iN H
   obtain ⟨c99,H⟩:=iN H
   obtain ⟨e100,h101,H⟩:=Dm H
   refine rG (pS 3 Z (iX Z U56 sz2 (rk (rD 5 r_b) HS) c98 (GO.Ch (T:=(Ap .i64)) (n:=c1.toNat) (o:=0) HS (rD 5 r_b) Z Z (getD_some (d:=0) (ltN c98)) Z Z na2 Z (mV Z (lS Z Z U37 Z (GO.rem Z Z Z c96 Z (iX Z U37 Ur (rk (ro 0 Z) HS) c99 (GO.H7 (T:=Fu) (n:=((picks.getD c1.toNat 0).tmod (t90.length:Int)).toNat) HS (ro 0 Z) Z Z (Cm (ltN c99) h101) Mi Z (GO.alloc HS Z mF Z Z fun b102 wd103 HS=>sW 0 HS Z Mi Z fun wd104 HS=>nL (sQ ?_))))))))))
   obtain ⟨t105,t106,h107,H⟩:=D5 H
   refine rG (lW 3 HS Z Dk (lW 0 HS Z Mi (fJ xB Z (I4.calls HS (ro 4 Z) h107) (fun _ wd111 ⟨A108,c109,y110,h112,HS⟩=>⟨_,h112,(pS 3 Z (sW 4 HS Z Dk Z fun wd113 HS=>nL ?_))⟩))))
   obtain ⟨c119,H⟩:=iN H
   refine rG (mV Z (lW 1 HS Z Mi (GO.Ct (el:=33) ([I e100.Kind,I e100.Tet,I e100.Index]) HS Z Z (fun _=>by kernel_rfl) Z fun b114 wd115 HS=>GO.app1 (T:=Fu) (j:=7) (jb:=0) (⟨e100.Kind,e100.Tet,e100.Index⟩:Dv) HS Z Z Aw Z Z Z U37 bZ Z Z Z c119 Z fun A117 c118 wd116 HS=>aS Z (nL (rN 3 Z (gW (m1 g1 (lR _) _ _ _ _ _ _ _ _ _ H (HS.pk 8 [4,5,1,7] Z)) Z))))))
  exact gW (i1 K (lR _) _ _ _ _ _ _ _ _ _ H (HS.pk 5 [3,1,2,0] Z)) Z
theorem Ey.calls {a1:List (List Ab)} {picks:List Int} {y_a:Nat→(Ty.slice 107 Ad).Lay} {r1:List (List Ab)} {r2:List Dv} {r3:Int} (HS:St w0 w (L)) (r_a:Ca w0 L (Ty.slice 107 Ad) A_a c_a y_a a1) (r_b:Ca w0 L (Ap .i64) A_b c_b uu picks) (H:Ey.f K a1 picks=some (r1,r2,r3)) :
    Calls prog 34 #[.agg [sV A_a a1 c_a].toArray,sV A_b picks c_b] w (Ey.post w0 L r1 r2 r3):=by
  unfold Ey.f at H
  refine cG func34 Z ?_
  refine sQ (rG (bA HS Z fun b1 wd2 HS=>GO.alloc HS Z Lt Z Z fun b3 wd4 HS=>pS 2 Z (nL (rN 2 Z ?_))))
  obtain ⟨t5,h6,H⟩:=bI H
  refine rG (lW 1 HS Z Dk (fJ eX Z (Aj.calls HS (rD 2 r_a) h6) (fun _ wd7 ⟨h8,HS⟩=>⟨_,h8,(GO.not Z Z Z (nL ?_))⟩)))
  rcases iS H with ⟨c9,H⟩ | ⟨c9,H⟩
  ·
   refine yB Z (congrArg Bool.not (Da c9)) (sQ (rG (GO.Dj (.agg [.slice none 0 0].toArray) Z Z (fun _=>by kernel_rfl) Z (sW 0 HS Z Dk Z fun wd67 HS=>pS 2 Z (nL ?_)))))
   replace HS:=HS.C9 (Ty.slice 107 Ad) 77 (fun _=>⟨none,0,uu⟩)
   replace HS:=HS.C9 Fu 33 uu
   obtain ⟨rfl,rfl,rfl⟩:=K4 H
   exact G.Tf _ _ _ func34 Z (Gx.Hl (j:=2) (vs:=[.slice none 0 0]) HS Z Z Z Dk) Z Z ⟨_,_,_,_,_,Z,(HS.pk 4 [1,0] Z)⟩
  refine nB Z (congrArg Bool.not c9) (rN 3 Z (rG (mV Z (lS Z Z U56 Z (GO.gtr Z Z Z Z (nL ?_))))))
  rcases iE H with ⟨c10,H⟩ | ⟨c10,H⟩
  ·
   refine yB Z (tT c10) (sQ (rG (GO.Dj (.agg [.slice none 0 0].toArray) Z Z (fun _=>by kernel_rfl) Z (sW 0 HS Z Dk Z fun wd11 HS=>pS 2 Z (nL ?_)))))
   replace HS:=HS.C9 (Ty.slice 107 Ad) 77 (fun _=>⟨none,0,uu⟩)
   replace HS:=HS.C9 Fu 33 uu
   obtain ⟨rfl,rfl,rfl⟩:=K4 H
   exact G.Tf _ _ _ func34 Z (Gx.Hl (j:=2) (vs:=[.slice none 0 0]) HS Z Z Z Dk) Z Z ⟨_,_,_,_,_,Z,(HS.pk 4 [1,0] Z)⟩
  refine nB Z (tF c10) (rN 6 Z ?_)
  refine G.name (fun h1 f1=>?_)
  have g1:∀ d1,d1≤K→∀ (c1:Int) (w:World),Ey.l1 K d1 a1 picks c1=some (r1,r2,r3)→St w0 w (Box b1 31 [sV A_a a1 c_a]::Box b3 31 [.slice none 0 0]::L)→G prog 34 38 [(1,sV A_b picks c_b),(2,pT b1),(4,pT b3),(7,I c1)] h1 w (Ey.post w0 L r1 r2 r3):=by
   refine lp (fun _ w H _=>by rw [Ey.l1] at H; cases H) fun e1 k1 i1 c1 w H HS=>?_
   rw [Ey.l1] at H
   subst f1
   refine rN 2 Z (rG (pS 2 Z (lS Z Z U56 Z (GO.lss Z Z Z Z (nL ?_)))))
   rcases iS H with ⟨c49,H⟩ | ⟨c49,H⟩
   ·
    refine nB Z (tF c49) (rN 2 Z ?_)
    obtain ⟨t53,t54,h55,H⟩:=D5 H
    refine rG (lW 0 HS Z Dk (mV Z (fJ wJ Z (Gj.calls HS (rD 2 r_a) (rD 2 r_b) h55) (fun _ wd61 ⟨A56,c57,y58,A59,c60,h62,HS⟩=>⟨_,h62,(pS 3 Z (GO.alloc HS Z Lt Z Z fun b63 wd64 HS=>sW 0 HS Z Dk Z fun wd65 HS=>aS Z (nL (sQ (rG (lW 0 HS Z Dk (mV Z (sW 4 HS Z Dk Z fun wd66 HS=>pS 2 Z ?_))))))))⟩))))
    refine nL ?_
    obtain ⟨rfl,rfl,rfl⟩:=K4 H
    exact G.Tf _ _ _ func34 Z (Gx.Hl (j:=4) (vs:=[sV A56 t53 c57]) HS Z Z Z Dk) Z Z ⟨_,_,_,_,_,Z,(HS.pk 5 [1,2] Z)⟩
   refine yB Z (tT c49) (rN 4 Z ?_)
   obtain ⟨c50,H⟩:=iN H
   refine rG (pS 2 Z (iX Z U56 sz2 (rk (rD 2 r_b) HS) c50 (GO.Ch (T:=(Ap .i64)) (n:=c1.toNat) (o:=0) HS (rD 2 r_b) Z Z (getD_some (d:=0) (ltN c50)) Z Z na2 Z (GO.lss Z Z Z Z (nL ?_)))))
   rcases iS H with ⟨c51,H⟩ | ⟨c51,H⟩
   ·
    refine nB Z (tF c51) (rN 4 Z (gW (i1 e1 (lR _) _ _ H HS) Z))
   refine yB Z (tT c51) (sQ (rG (GO.Dj (.agg [.slice none 0 0].toArray) Z Z (fun _=>by kernel_rfl) Z (sW 1 HS Z Dk Z fun wd52 HS=>pS 2 Z (nL ?_)))))
   replace HS:=HS.C9 (Ty.slice 107 Ad) 77 (fun _=>⟨none,0,uu⟩)
   replace HS:=HS.C9 Fu 33 uu
   obtain ⟨rfl,rfl,rfl⟩:=K4 H
   exact G.Tf _ _ _ func34 Z (Gx.Hl (j:=3) (vs:=[.slice none 0 0]) HS Z Z Z Dk) Z Z ⟨_,_,_,_,_,Z,(HS.pk 4 [1,0] Z)⟩
  exact gW (g1 K (lR _) _ _ H (HS.pk 2 [1,0] Z)) Z
theorem Ha.calls {n_:Int} {r1:Bool} (HS:St w0 w (L)) (H:Ha.f n_=some r1) :
    Calls prog 59 #[I n_] w (Ha.post w0 L r1):=by
  unfold Ha.f at H
  refine cG func59 Z ?_
  refine rN 4 Z ?_
  obtain rfl:=sI H
  exact rT _ func59 Z Z ⟨Z,HS⟩
theorem Be.calls {s:List Int} {r1:Int} (HS:St w0 w (L)) (r_a:Ca w0 L (Ap .i64) A_a c_a uu s) (H:Be.f K s=some r1) :
    Calls prog 102 #[sV A_a s c_a,.func (.func 59) #[] #[]] w (Be.post w0 L r1):=by
  unfold Be.f at H
  refine cG func102 Z ?_
  refine rN 4 Z (rG (mV Z (lS Z Z U56 Z (mV Z (nL (rN 2 Z ?_))))))
  refine G.name (fun e1 c1=>?_)
  have d1:∀ a1,a1≤K→∀ (x8:Int) (w:World),Be.l1 K a1 s x8=some r1→St w0 w (L)→G prog 102 19 [(0,sV A_a s c_a),(1,.func (.func 59) #[] #[]),(7,I (s.length:Int)),(8,I x8)] e1 w (Be.post w0 L r1):=by
   refine lp (fun _ w H _=>by rw [Be.l1] at H; cases H) fun b1 g1 f1 x8 w H HS=>?_
   rw [Be.l1] at H
   subst c1
   refine rN 3 Z ?_
   rcases iS H with ⟨c16,H⟩ | ⟨c16,H⟩
   ·
    refine nB Z (tF c16) (rN 3 Z ?_)
    obtain rfl:=sI H
    exact rT _ func102 Z Z ⟨Z,HS⟩
   refine yB Z (tT c16) (rN 6 Z ?_)
   obtain ⟨c17,H⟩:=iN H
   obtain ⟨t18,h19,H⟩:=bI H
   refine rG (pS 3 Z (iX Z U56 sz2 (rk r_a HS) c17 (GO.Ch (T:=(Ap .i64)) (n:=x8.toNat) (o:=0) HS r_a Z Z (getD_some (d:=0) (ltN c17)) Z Z na2 Z (GO.clo Z Z func59 pM.2.1 pM.2.2 Z Z (Ha.calls HS  h19) (fun _ wd20 ⟨h21,HS⟩=>⟨_,h21,(nL ?_)⟩)))))
   rcases iE H with ⟨c22,H⟩ | ⟨c22,H⟩
   ·
    refine yB Z c22 (rN 2 Z ?_)
    obtain rfl:=sI H
    exact rT _ func102 Z Z ⟨Z,HS⟩
   refine nB Z (Da c22) (rN 4 Z (gW (f1 b1 (lR _) _ _ H HS) Z))
  exact gW (d1 K (lR _) _ _ H HS) Z
theorem Dl.calls {s:List Int} {r1:Bool} (HS:St w0 w (L)) (r_a:Ca w0 L (Ap .i64) A_a c_a uu s) (H:Dl.f K s=some r1) :
    Calls prog 58 #[sV A_a s c_a,.func (.func 59) #[] #[]] w (Dl.post w0 L r1):=by
  unfold Dl.f at H
  refine cG func58 Z ?_
  refine rN 3 Z ?_
  obtain ⟨t1,h2,H⟩:=bI H
  refine rG (pS 2 Z (fJ iI Z (Be.calls HS r_a h2) (fun _ wd3 ⟨h4,HS⟩=>⟨_,h4,(pS 2 Z (nL ?_))⟩)))
  obtain rfl:=sI H
  exact rT _ func58 Z Z ⟨Z,HS⟩
theorem Ht.calls {list:List Dv} {r1:Int} (HS:St w0 w (L)) (r_a:Ca w0 L Fu A_a c_a uu list) (H:Ht.f list=some r1) :
    Calls prog 60 #[sV A_a list c_a] w (Ht.post w0 L r1):=by
  unfold Ht.f at H
  refine cG func60 Z ?_
  refine rN 3 Z (rG (mV Z (lS Z Z U37 Z (aS Z (nL ?_)))))
  obtain rfl:=sI H
  exact rT _ func60 Z Z ⟨Z,HS⟩
theorem Eo.calls {d1:List (List Ab)} {picks:List Int} {y_a:Nat→(Ty.slice 107 Ad).Lay} {r1:List (List Ab)} {r2:List Dv} {r3:Int} (HS:St w0 w (L)) (r_a:Ca w0 L (Ty.slice 107 Ad) A_a c_a y_a d1) (r_b:Ca w0 L (Ap .i64) A_b c_b uu picks) (H:Eo.f K d1 picks=some (r1,r2,r3)) :
    Calls prog 36 #[.agg [sV A_a d1 c_a].toArray,sV A_b picks c_b] w (Eo.post w0 L r1 r2 r3):=by
  unfold Eo.f at H
  refine cG func36 Z ?_
  refine sQ (rG (bA HS Z fun b1 wd2 HS=>GO.alloc HS Z Lt Z Z fun b3 wd4 HS=>pS 2 Z (nL (rN 3 Z ?_))))
  obtain ⟨t5,h6,H⟩:=bI H
  refine rG (lW 1 HS Z Dk (fJ pI Z (Bn.calls HS (rD 2 r_a) h6) (fun _ wd7 ⟨h8,HS⟩=>⟨_,h8,(pS 2 Z (nL ?_))⟩)))
  rcases iS H with ⟨c9,H⟩ | ⟨c9,H⟩
  ·
   refine yB Z (congrArg Bool.not (Da c9)) (sQ (rG (GO.Dj (.agg [.slice none 0 0].toArray) Z Z (fun _=>by kernel_rfl) Z (sW 0 HS Z Dk Z fun wd147 HS=>pS 2 Z (nL ?_)))))
   replace HS:=HS.C9 (Ty.slice 107 Ad) 77 (fun _=>⟨none,0,uu⟩)
   replace HS:=HS.C9 Fu 33 uu
   obtain ⟨rfl,rfl,rfl⟩:=K4 H
   exact G.Tf _ _ _ func36 Z (Gx.Hl (j:=2) (vs:=[.slice none 0 0]) HS Z Z Z Dk) Z Z ⟨_,_,_,_,_,Z,(HS.pk 4 [1,0] Z)⟩
  refine nB Z (congrArg Bool.not c9) (sQ (rG (mV Z (lS Z Z U56 Z (pS 2 Z (nL ?_))))))
  rcases iE H with ⟨c10,H⟩ | ⟨c10,H⟩
  ·
   refine yB Z (tT c10) (sQ (rG (GO.Dj (.agg [.slice none 0 0].toArray) Z Z (fun _=>by kernel_rfl) Z (sW 0 HS Z Dk Z fun wd11 HS=>pS 2 Z (nL ?_)))))
   replace HS:=HS.C9 (Ty.slice 107 Ad) 77 (fun _=>⟨none,0,uu⟩)
   replace HS:=HS.C9 Fu 33 uu
   obtain ⟨rfl,rfl,rfl⟩:=K4 H
   exact G.Tf _ _ _ func36 Z (Gx.Hl (j:=2) (vs:=[.slice none 0 0]) HS Z Z Z Dk) Z Z ⟨_,_,_,_,_,Z,(HS.pk 4 [1,0] Z)⟩
  refine nB Z (tF c10) (sQ ?_)
  obtain ⟨t12,h13,H⟩:=bI H
  refine rG (mV Z (fJ xI Z (Dl.calls HS (rD 2 r_b) h13) (fun _ wd14 ⟨h15,HS⟩=>⟨_,h15,(aS Z (nL ?_))⟩)))
  rcases iE H with ⟨c16,H⟩ | ⟨c16,H⟩
  ·
   refine yB Z c16 (sQ (rG (GO.Dj (.agg [.slice none 0 0].toArray) Z Z (fun _=>by kernel_rfl) Z (sW 0 HS Z Dk Z fun wd17 HS=>pS 2 Z (nL ?_)))))
   replace HS:=HS.C9 (Ty.slice 107 Ad) 77 (fun _=>⟨none,0,uu⟩)
   replace HS:=HS.C9 Fu 33 uu
   obtain ⟨rfl,rfl,rfl⟩:=K4 H
   exact G.Tf _ _ _ func36 Z (Gx.Hl (j:=2) (vs:=[.slice none 0 0]) HS Z Z Z Dk) Z Z ⟨_,_,_,_,_,Z,(HS.pk 4 [1,0] Z)⟩
  refine nB Z (Da c16) (rN 3 Z ?_)
  obtain ⟨t18,h19,H⟩:=bI H
  refine rG (lW 1 HS Z Dk (fJ pQ Z (Cn.calls HS (rD 2 r_a) h19) (fun _ wd23 ⟨A20,c21,y22,h24,HS⟩=>⟨_,h24,(GO.alloc HS Z Lt Z Z fun b25 wd26 HS=>sW 0 HS Z Dk Z fun wd27 HS=>nL (rN 4 Z (rG (mV Z (lS Z Z U56 Z (mV Z (nL (rN 2 Z ?_))))))))⟩)))
  refine G.name (fun i1 g1=>?_)
  have h1:∀ e1,e1≤K→∀ (A65:Option Addr) (c66:Nat) (a1:List (List Ab)) (y68:Nat→(Ty.slice 107 Ad).Lay) (A69:Option Addr) (c70:Nat) (c1:List Dv) (x72:Int) (w:World),Eo.l1 K e1 picks a1 c1 x72=some (r1,r2,r3)→St w0 w (Box b3 31 [.slice none 0 0]::Box b25 31 [sV A65 a1 c66]::Own (Ty.slice 107 Ad) 77 A65 c66 y68 a1::Own Fu 33 A69 c70 uu c1::L)→G prog 36 60 [(4,pT b3),(7,pT b25),(8,sV A69 c1 c70),(29,sV A_b picks c_b),(30,I (picks.length:Int)),(31,I x72)] i1 w (Eo.post w0 L r1 r2 r3):=by
   refine lp (fun _ _ _ _ _ _ _ _ w H _=>by rw [Eo.l1] at H; cases H) fun f1 m1 k1 A65 c66 a1 y68 A69 c70 c1 x72 w H HS=>?_
   rw [Eo.l1] at H
   subst g1
   refine rN 3 Z ?_
   rcases iS H with ⟨c110,H⟩ | ⟨c110,H⟩
   ·
    refine nB Z (tF c110) (rN 2 Z (rG (lW 1 HS Z Dk (mV Z (sW 0 HS Z Dk Z fun wd146 HS=>pS 2 Z (nL ?_))))))
    obtain ⟨rfl,rfl,rfl⟩:=K4 H
    exact G.Tf _ _ _ func36 Z (Gx.Hl (j:=0) (vs:=[sV A65 a1 c66]) HS Z Z Z Dk) Z Z ⟨_,_,_,_,_,Z,(HS.pk 4 [2,3] Z)⟩
   refine yB Z (tT c110) (rN 4 Z ?_)
   obtain ⟨c111,H⟩:=iN H
   refine rG (iX Z U56 sz2 (rk (rD 4 r_b) HS) c111 (GO.Ch (T:=(Ap .i64)) (n:=x72.toNat) (o:=0) HS (rD 4 r_b) Z Z (getD_some (d:=0) (ltN c111)) Z Z na2 Z (aS Z (nL (sQ ?_)))))
   obtain ⟨t112,h113,H⟩:=bI H
   refine rG (lW 1 HS Z Dk (fJ vN Z (Ak.calls HS (ro 2 Z) h113) (fun _ wd116 ⟨A114,c115,h117,HS⟩=>⟨_,h117,(aS Z (nL (rN 2 Z (rG (mV Z (lS Z Z U37 Z (GO.eql Z Z Z Z (nL ?_))))))))⟩)))
   rcases iE H with ⟨c118,H⟩ | ⟨c118,H⟩
   ·
    refine yB Z (tT c118) (rN 2 Z (rG (lW 2 HS Z Dk (mV Z (sW 1 HS Z Dk Z fun wd119 HS=>pS 2 Z (nL ?_))))))
    obtain ⟨rfl,rfl,rfl⟩:=K4 H
    exact G.Tf _ _ _ func36 Z (Gx.Hl (j:=1) (vs:=[sV A65 a1 c66]) HS Z Z Z Dk) Z Z ⟨_,_,_,_,_,Z,(HS.pk 5 [3,4] Z)⟩
   refine nB Z (tF c118) (rN 2 Z ?_)
   obtain ⟨t120,h121,H⟩:=bI H
   obtain ⟨c124,H⟩:=O4 H
   obtain ⟨c125,H⟩:=iN H
   obtain ⟨e126,h127,H⟩:=Dm H
   refine rG (pS 3 Z (fJ xM Z (Ht.calls HS (ro 0 Z) h121) (fun _ wd122 ⟨h123,HS⟩=>⟨_,h123,(GO.rem Z Z Z c124 Z (iX Z U37 Ur (rk (ro 0 Z) HS) c125 (GO.H7 (T:=Fu) (n:=((picks.getD x72.toNat 0).tmod t120).toNat) HS (ro 0 Z) Z Z (Cm (ltN c125) h127) Mi Z (GO.alloc HS Z mF Z Z fun b128 wd129 HS=>sW 0 HS Z Mi Z fun wd130 HS=>nL (sQ ?_)))))⟩)))
   obtain ⟨t131,t132,h133,H⟩:=D5 H
   refine rG (lW 3 HS Z Dk (lW 0 HS Z Mi (fJ vC Z (Iz.calls HS (ro 4 Z) h133) (fun _ wd137 ⟨A134,c135,y136,h138,HS⟩=>⟨_,h138,(pS 3 Z (sW 4 HS Z Dk Z fun wd139 HS=>nL ?_))⟩))))
   obtain ⟨c145,H⟩:=iN H
   refine rG (mV Z (lW 1 HS Z Mi (GO.Ct (el:=33) ([I e126.Kind,I e126.Tet,I e126.Index]) HS Z Z (fun _=>by kernel_rfl) Z fun b140 wd141 HS=>GO.app1 (T:=Fu) (j:=7) (jb:=0) (⟨e126.Kind,e126.Tet,e126.Index⟩:Dv) HS Z Z Aw Z Z Z U37 bZ Z Z Z c145 Z fun A143 c144 wd142 HS=>aS Z (nL (rN 3 Z (gW (k1 f1 (lR _) _ _ _ _ _ _ _ _ _ H (HS.pk 8 [4,5,1,7] Z)) Z))))))
  replace HS:=HS.C9 Fu 33 uu
  exact gW (h1 K (lR _) _ _ _ _ _ _ _ _ _ H (HS.pk 5 [3,1,2,0] Z)) Z
theorem F7.calls {a_ b_:List Int} {r1:Bool} (HS:St w0 w (L)) (r_a:Ca w0 L (Ap .i64) A_a c_a uu a_) (r_b:Ca w0 L (Ap .i64) A_b c_b uu b_) (H:F7.f K a_ b_=some r1) :
    Calls prog 37 #[sV A_a a_ c_a,sV A_b b_ c_b] w (F7.post w0 L r1):=by
  unfold F7.f at H
  refine cG func37 Z ?_
  refine rN 4 Z (rG (mV Z (lS Z Z U56 Z (mV Z (lS Z Z U56 Z (GO.neq Z Z Z Z (nL ?_)))))))
  rcases iS H with ⟨c1,H⟩ | ⟨c1,H⟩
  ·
   refine yB Z (nF c1) (rN 2 Z ?_)
   obtain rfl:=sI H
   exact rT _ func37 Z Z ⟨Z,HS⟩
  refine nB Z (nT c1) (rN 6 Z ?_)
  refine G.name (fun f1 d1=>?_)
  have e1:∀ a1,a1≤K→∀ (i_6:Int) (w:World),F7.l1 K a1 a_ b_ i_6=some r1→St w0 w (L)→G prog 37 26 [(0,sV A_a a_ c_a),(1,sV A_b b_ c_b),(5,I i_6)] f1 w (F7.post w0 L r1):=by
   refine lp (fun _ w H _=>by rw [F7.l1] at H; cases H) fun b1 h1 g1 i_6 w H HS=>?_
   rw [F7.l1] at H
   subst d1
   refine rN 2 Z (rG (pS 2 Z (lS Z Z U56 Z (GO.lss Z Z Z Z (nL ?_)))))
   rcases iS H with ⟨c11,H⟩ | ⟨c11,H⟩
   ·
    refine nB Z (tF c11) (rN 3 Z ?_)
    obtain rfl:=sI H
    exact rT _ func37 Z Z ⟨Z,HS⟩
   refine yB Z (tT c11) (rN 4 Z ?_)
   obtain ⟨c12,H⟩:=iN H
   obtain ⟨c13,H⟩:=iN H
   refine G.lex mixed [0,1,2,4,5,6,3,7,8] (by kernel_rfl) ?_
   replace HS:=HS.drew
   refine GX.ps 2 Z (qL Z Z (fun _ _ g=>iX Z U56 sz2 (rk r_a HS) c12 g) Z (GX.ps 2 Z (qL Z Z (fun _ _ g=>iX Z U56 sz2 (rk r_b HS) c13 g) Z (GX.l1 Z Z Z (fun _ g=>GO.Ch (T:=(Ap .i64)) (n:=i_6.toNat) (o:=0) HS r_a Z Z (getD_some (d:=0) (ltN c12)) Z Z na2 Z g) Z (GX.l1 Z Z Z (fun _ g=>GO.Ch (T:=(Ap .i64)) (n:=i_6.toNat) (o:=0) HS r_b Z Z (getD_some (d:=0) (ltN c13)) Z Z na2 Z g) Z (GX.ps 1 Z (GX.nil ?_)))))))
   rcases iS H with ⟨c14,H⟩ | ⟨c14,H⟩
   ·
    refine yB Z (nF c14) (rN 2 Z ?_)
    obtain rfl:=sI H
    exact rT _ func37 Z Z ⟨Z,HS⟩
   refine nB Z (nT c14) (rN 4 Z (gW (g1 b1 (lR _) _ _ H HS) Z))
  exact gW (e1 K (lR _) _ _ H HS) Z
theorem Ef.calls {a_:List Int} {k_:Int} {r1:Int} {r2:List Int} (HS:St w0 w (Own (Ap .i64) 2 A_a c_a uu a_::L)) (H:Ef.f K a_ k_=some (r1,r2)) :
    Calls prog 38 #[sV A_a a_ c_a,I k_] w (Ef.post w0 L A_a c_a r1 r2):=by
  unfold Ef.f at H
  refine cG func38 Z ?_
  refine rN 7 Z ?_
  refine G.name (fun e1 c1=>?_)
  have d1:∀ a1,a1≤K→∀ (x4:List Int) (k_5 i_6:Int) (w:World),Ef.l1 K a1 x4 k_5 i_6=some (r1,r2)→St w0 w (Own (Ap .i64) 2 A_a c_a uu x4::L)→G prog 38 19 [(0,sV A_a x4 c_a),(1,I k_5),(5,I i_6)] e1 w (Ef.post w0 L A_a c_a r1 r2):=by
   refine lp (fun _ _ _ w H _=>by rw [Ef.l1] at H; cases H) fun b1 g1 f1 x4 k_5 i_6 w H HS=>?_
   rw [Ef.l1] at H
   subst c1
   refine rN 2 Z (rG (pS 2 Z (lS Z Z U56 Z (GO.lss Z Z Z Z (nL ?_)))))
   rcases iS H with ⟨c10,H⟩ | ⟨c10,H⟩
   ·
    refine nB Z (tF c10) (rN 3 Z ?_)
    obtain ⟨rfl,rfl⟩:=H8 H
    exact rT _ func38 Z Z ⟨Z,HS⟩
   refine yB Z (tT c10) (rN 4 Z ?_)
   obtain ⟨c11,H⟩:=iN H
   refine rG (pS 3 Z (iX Z U56 sz2 (rk (ro 0 Z) HS) c11 (GO.Ib (T:=(Ap .i64)) (j:=0) (n:=i_6.toNat) (o:=0) (vs:=[I k_5]) k_5 HS Z Aw Z Z Z Z (htN na2 Z) Z (getD_some (d:=0) (ltN c11)) Z Z fun wd12 HS=>nL (G.len (t:=0) (m:=(x4.set i_6.toNat k_5).length) Z (by simp only [List.length_set] <;> rfl) (rN 4 Z (gW (f1 b1 (lR _) _ _ _ _ H HS) Z))))))
  exact gW (d1 K (lR _) _ _ _ _ H HS) Z
theorem Gz.calls {a1:List (List Ab)} {o:List Int} {y_a:Nat→(Ty.slice 142 Ad).Lay} {r1:Bool} (HS:St w0 w (L)) (r_a:Ca w0 L (Ty.slice 142 Ad) A_a c_a y_a a1) (r_b:Ca w0 L (Ap .i64) A_b c_b uu o) (H:Gz.f K a1 o=some r1) :
    Calls prog 9 #[.agg [sV A_a a1 c_a].toArray,sV A_b o c_b] w (Gz.post w0 L r1):=by
  unfold Gz.f at H
  refine cG func9 Z ?_
  refine sQ (rG (bA HS Z fun b1 wd2 HS=>aS Z (nL (rN 2 Z (rG (mV Z (lS Z Z U56 Z (GO.gtr Z Z Z Z (nL ?_)))))))))
  rcases iE H with ⟨c3,H⟩ | ⟨c3,H⟩
  ·
   refine yB Z (tT c3) (rN 2 Z ?_)
   obtain rfl:=sI H
   exact rT _ func9 Z Z ⟨Z,(HS.pk 1 [] Z)⟩
  refine nB Z (tF c3) (rN 4 Z ?_)
  obtain ⟨t4,h5,H⟩:=bI H
  refine rG (lW 0 HS Z fK (mV Z (fJ wS Z (Gr.calls HS (rD 1 r_a) h5) (fun _ wd6 ⟨h7,HS⟩=>⟨_,h7,(aS Z (nL (rN 3 Z ?_)))⟩))))
  rcases iE H with ⟨c8,H⟩ | ⟨c8,H⟩
  ·
   refine yB Z (tT c8) (rN 2 Z ?_)
   obtain rfl:=sI H
   exact rT _ func9 Z Z ⟨Z,(HS.pk 1 [] Z)⟩
  refine nB Z (tF c8) (rN 2 Z ?_)
  obtain ⟨t9,h10,H⟩:=bI H
  obtain ⟨t16,h17,H⟩:=bI H
  obtain ⟨t22,t23,t24,h25,H⟩:=J2 H
  refine rG (lW 0 HS Z fK (fJ aO Z (Eg.calls HS (rD 1 r_a) h10) (fun _ wd14 ⟨A11,c12,y13,h15,HS⟩=>⟨_,h15,(mV Z (fJ dC Z (D8.calls HS (rD 2 r_b) h17) (fun _ wd20 ⟨A18,c19,h21,HS⟩=>⟨_,h21,(fJ vU Z (Ey.calls HS (ro 1 Z) (ro 0 Z) h25) (fun _ wd31 ⟨A26,c27,y28,A29,c30,h32,HS⟩=>⟨_,h32,(pS 4 Z (GO.alloc HS Z Lt Z Z fun b33 wd34 HS=>sW 0 HS Z Dk Z fun wd35 HS=>pS 2 Z (nL (sQ ?_))))⟩))⟩)))⟩)))
  obtain ⟨t36,h37,H⟩:=bI H
  refine rG (lW 5 HS Z fK (fJ aO Z (Eg.calls HS (rD 6 r_a) h37) (fun _ wd41 ⟨A38,c39,y40,h42,HS⟩=>⟨_,h42,(GO.alloc HS Z Lt Z Z fun b43 wd44 HS=>sW 0 HS Z Dk Z fun wd45 HS=>nL (sQ ?_))⟩)))
  obtain ⟨t46,h47,H⟩:=bI H
  refine rG (mV Z (fJ dC Z (D8.calls HS (rD 8 r_b) h47) (fun _ wd50 ⟨A48,c49,h51,HS⟩=>⟨_,h51,(aS Z (nL (sQ ?_)))⟩)))
  obtain ⟨t52,t53,t54,h55,H⟩:=J2 H
  refine rG (lW 1 HS Z Dk (mV Z (fJ pR Z (Eo.calls HS (ro 2 Z) (ro 0 Z) h55) (fun _ wd61 ⟨A56,c57,y58,A59,c60,h62,HS⟩=>⟨_,h62,(pS 4 Z (GO.alloc HS Z Lt Z Z fun b63 wd64 HS=>sW 0 HS Z Dk Z fun wd65 HS=>pS 2 Z (nL (rN 2 Z ?_))))⟩))))
  obtain ⟨t76,h77,H⟩:=bI H
  rcases iS H with ⟨c80,H⟩ | ⟨c80,H⟩
  ·
   refine rG (lW 0 HS Z Dk (lW 6 HS Z Dk (fJ Pj Z (Cz.calls HS (ro 1 Z) (ro 7 Z) h77) (fun _ wd78 ⟨h79,HS⟩=>⟨_,h79,(pS 2 Z (kN 52 Z (congrArg Bool.not (Da c80)) (oF Z (oF Z (oF Z (oF Z (pS 2 Z (oF Z (oF Z (oF Z (GO.Iy Z Z Z Z Z ?_)))))))))))⟩))))
   refine nL (rN 3 Z ?_)
   obtain rfl:=sI H
   exact rT _ func9 Z Z ⟨Z,(HS.pk 12 [] Z)⟩
  obtain ⟨t81,h82,H⟩:=bI H
  rcases iS H with ⟨c85,H⟩ | ⟨c85,H⟩
  ·
   refine rG (lW 0 HS Z Dk (lW 6 HS Z Dk (fJ Pj Z (Cz.calls HS (ro 1 Z) (ro 7 Z) h77) (fun _ wd78 ⟨h79,HS⟩=>⟨_,h79,(pS 2 Z (kN 52 Z (congrArg Bool.not c80) (oN Z (mV Z (bK (oN Z (mV Z (bK (oN Z (fJ Ux Z (Er.calls HS (ro 2 Z) (ro 8 Z) h82) (fun _ wd83 ⟨h84,HS⟩=>⟨_,h84,(bK ?_)⟩)))))))))))⟩))))
   refine oN Z (GO.not Z Z Z (bK (pS 2 Z (kN 58 Z (congrArg Bool.not (Da c85)) (oF Z (oF Z (oF Z (GO.Iy Z Z Z Z Z (nL (rN 3 Z ?_))))))))))
   obtain rfl:=sI H
   exact rT _ func9 Z Z ⟨Z,(HS.pk 12 [] Z)⟩
  refine rG (lW 0 HS Z Dk (lW 6 HS Z Dk (fJ Pj Z (Cz.calls HS (ro 1 Z) (ro 7 Z) h77) (fun _ wd78 ⟨h79,HS⟩=>⟨_,h79,(pS 2 Z (kN 52 Z (congrArg Bool.not c80) (oN Z (mV Z (bK (oN Z (mV Z (bK (oN Z (fJ Ux Z (Er.calls HS (ro 2 Z) (ro 8 Z) h82) (fun _ wd83 ⟨h84,HS⟩=>⟨_,h84,(bK ?_)⟩)))))))))))⟩))))
  refine oN Z (GO.not Z Z Z (bK (pS 2 Z (kN 58 Z (congrArg Bool.not c85) (oN Z (mV Z (bK (oN Z (mV Z (bK (oN Z (GO.neq Z Z Z Z (bK (GO.Jl Z Z Z Z Z ?_))))))))))))))
  refine nL ?_
  rcases iS H with ⟨c86,H⟩ | ⟨c86,H⟩
  ·
   refine yB Z (nF c86) (rN 2 Z ?_)
   obtain rfl:=sI H
   exact rT _ func9 Z Z ⟨Z,(HS.pk 12 [] Z)⟩
  refine nB Z (nT c86) (rN 3 Z ?_)
  obtain ⟨t87,h88,H⟩:=bI H
  obtain ⟨t94,h95,H⟩:=bI H
  refine G.H5 mixed (fun w=>St w0 w (Box b43 31 [sV A38 t36 c39]::Box b1 24 [sV A_a a1 c_a]::L)) [0,1] [0,1,2,3,4] [] (by kernel_rfl) (by kernel_rfl) (HS.drew.pk 12 [4,11] Z) ?_
  replace HS:=HS.drew
  refine GX.ls Z Z Z (HS.pk 12 [4,11] Z) (fun _ HS _ g=>lW 0 HS Z Dk g) Z (GX.ls Z Z Z (HS.pk 12 [4,11] Z) (fun _ HS _ g=>lW 1 HS Z fK g) Z (GX.l2 Z (fJ aO Z (Eg.calls HS (rD 12 r_a) h88) (fun _ wd92 ⟨A89,c90,y91,h93,HS⟩=>⟨_,h93,(GX.fin (HS.pk 13 [5,12] Z) (GX.l2 Z (fJ Pj Z (Cz.calls HS (ro 6 Z) (ro 0 Z) h95) (fun _ wd96 ⟨h97,HS⟩=>⟨_,h97,(GX.fin (HS.pk 13 [5,12] Z) (GX.ps 1 Z (GX.nil ?_)))⟩))))⟩))))
  rcases iS H with ⟨c98,H⟩ | ⟨c98,H⟩
  ·
   refine yB Z (congrArg Bool.not (Da c98)) (rN 2 Z ?_)
   obtain rfl:=sI H
   exact rT _ func9 Z Z ⟨Z,(HS.pk 13 [] Z)⟩
  refine nB Z (congrArg Bool.not c98) (rN 3 Z ?_)
  obtain ⟨t99,h100,H⟩:=bI H
  obtain ⟨t105,h106,H⟩:=bI H
  refine rG (pS 2 Z (fJ dC Z (D8.calls HS (rD 13 r_b) h100) (fun _ wd103 ⟨A101,c102,h104,HS⟩=>⟨_,h104,(fJ uY Z (F7.calls HS (ro 5 Z) (ro 0 Z) h106) (fun _ wd107 ⟨h108,HS⟩=>⟨_,h108,(GO.not Z Z Z (nL ?_))⟩))⟩)))
  rcases iS H with ⟨c109,H⟩ | ⟨c109,H⟩
  ·
   refine yB Z (congrArg Bool.not (Da c109)) (rN 2 Z ?_)
   obtain rfl:=sI H
   exact rT _ func9 Z Z ⟨Z,(HS.pk 14 [] Z)⟩
  refine nB Z (congrArg Bool.not c109) (rN 4 Z ?_)
  obtain ⟨t110,t111,h112,H⟩:=D5 H
  obtain ⟨c113,H⟩:=iN H
  refine rG (lW 6 HS Z Dk (mV Z ?_))
  replace HS:=HS.pk 14 [7,0,1,2,3,4,5,6,8,9,10,11,12,13] Z
  refine fJ pY Z (Fx.calls HS  h112) (fun _ wd114 ⟨h115,HS⟩=>⟨_,h115,(aS Z (nL ?_))⟩)
  replace HS:=HS.Kz (j:=7) (cs':=[sV A38 t111 c39]) Z (by simp only [sV,List.length_set,c113] <;> rfl)
  refine sQ ?_
  obtain ⟨t116,t117,h118,H⟩:=D5 H
  obtain ⟨c119,H⟩:=iN H
  refine rG (pS 2 Z ?_)
  replace HS:=HS.pk 14 [6,0,1,2,3,4,5,7,8,9,10,11,12,13] Z
  refine fJ wL Z (Ef.calls HS  h118) (fun _ wd120 ⟨h121,HS⟩=>⟨_,h121,(aS Z (nL (rN 2 Z ?_)))⟩)
  rcases iE H with ⟨c133,H⟩ | ⟨c133,H⟩
  ·
   refine rG (pS 3 Z (kN 81 Z (tT c133) (oF Z (oF Z (oF Z (oF Z (pS 2 Z (oF Z (oF Z (oF Z (oF Z (pS 2 Z (oF Z (oF Z ?_))))))))))))))
   refine oF Z (GO.Iy Z Z Z Z Z (nL (rN 3 Z ?_)))
   obtain rfl:=sI H
   exact rT _ func9 Z Z ⟨Z,(HS.pk 14 [] Z)⟩
  obtain ⟨t134,h135,H⟩:=bI H
  rcases iS H with ⟨c138,H⟩ | ⟨c138,H⟩
  ·
   refine rG (pS 3 Z (kN 81 Z (tF c133) (oN Z (lW 4 HS Z Dk (bK (oN Z (lW 8 HS Z Dk (bK (oN Z (fJ Pj Z (Cz.calls HS (ro 5 Z) (ro 9 Z) h135) (fun _ wd136 ⟨h137,HS⟩=>⟨_,h137,(bK (oN Z (GO.not Z Z Z (bK ?_))))⟩)))))))))))
   refine pS 2 Z (kN 87 Z (congrArg Bool.not (Da c138)) (oF Z (oF Z (oF Z (oF Z (pS 2 Z (oF Z (oF Z (oF Z (GO.Iy Z Z Z Z Z (nL (rN 3 Z ?_))))))))))))
   obtain rfl:=sI H
   exact rT _ func9 Z Z ⟨Z,(HS.pk 14 [] Z)⟩
  obtain ⟨t139,h140,H⟩:=bI H
  rcases iS H with ⟨c143,H⟩ | ⟨c143,H⟩
  ·
   refine rG (pS 3 Z (kN 81 Z (tF c133) (oN Z (lW 4 HS Z Dk (bK (oN Z (lW 8 HS Z Dk (bK (oN Z (fJ Pj Z (Cz.calls HS (ro 5 Z) (ro 9 Z) h135) (fun _ wd136 ⟨h137,HS⟩=>⟨_,h137,(bK (oN Z (GO.not Z Z Z (bK ?_))))⟩)))))))))))
   refine pS 2 Z (kN 87 Z (congrArg Bool.not c138) (oN Z (mV Z (bK (oN Z (mV Z (bK (oN Z (fJ Ux Z (Er.calls HS (ro 6 Z) (ro 10 Z) h140) (fun _ wd141 ⟨h142,HS⟩=>⟨_,h142,(bK (oN Z (GO.not Z Z Z (bK (pS 2 Z ?_)))))⟩))))))))))
   refine kN 93 Z (congrArg Bool.not (Da c143)) (oF Z (oF Z (oF Z (GO.Iy Z Z Z Z Z (nL (rN 3 Z ?_))))))
   obtain rfl:=sI H
   exact rT _ func9 Z Z ⟨Z,(HS.pk 14 [] Z)⟩
  refine rG (pS 3 Z (kN 81 Z (tF c133) (oN Z (lW 4 HS Z Dk (bK (oN Z (lW 8 HS Z Dk (bK (oN Z (fJ Pj Z (Cz.calls HS (ro 5 Z) (ro 9 Z) h135) (fun _ wd136 ⟨h137,HS⟩=>⟨_,h137,(bK (oN Z (GO.not Z Z Z (bK ?_))))⟩)))))))))))
  refine pS 2 Z (kN 87 Z (congrArg Bool.not c138) (oN Z (mV Z (bK (oN Z (mV Z (bK (oN Z (fJ Ux Z (Er.calls HS (ro 6 Z) (ro 10 Z) h140) (fun _ wd141 ⟨h142,HS⟩=>⟨_,h142,(bK (oN Z (GO.not Z Z Z (bK (pS 2 Z ?_)))))⟩))))))))))
  refine kN 93 Z (congrArg Bool.not c143) (oN Z (mV Z (bK (oN Z (mV Z (bK (oN Z (GO.neq Z Z Z Z (bK (GO.Jl Z Z Z Z Z (nL (nB Z (nT c86) (rN 4 Z ?_)))))))))))))
  obtain ⟨t144,t145,h146,H⟩:=D5 H
  obtain ⟨c147,H⟩:=iN H
  refine rG (lW 4 HS Z Dk (mV Z ?_))
  replace HS:=HS.pk 14 [5,0,1,2,3,4,6,7,8,9,10,11,12,13] Z
  refine fJ pY Z (Fx.calls HS  h146) (fun _ wd148 ⟨h149,HS⟩=>⟨_,h149,(aS Z (nL ?_))⟩)
  replace HS:=HS.Kz (j:=5) (cs':=[sV A56 t145 c57]) Z (by simp only [sV,List.length_set,c147] <;> rfl)
  refine sQ ?_
  obtain ⟨t150,t151,h152,H⟩:=D5 H
  obtain ⟨c153,H⟩:=iN H
  refine rG (pS 2 Z ?_)
  replace HS:=HS.pk 14 [6,0,1,2,3,4,5,7,8,9,10,11,12,13] Z
  refine fJ wZ Z (Fe.calls HS  h152) (fun _ wd154 ⟨h155,HS⟩=>⟨_,h155,(aS Z (nL (G.len (t:=12) (m:=t151.length) Z (by simp only [List.length_set,c153] <;> rfl) (rN 3 Z ?_))))⟩)
  obtain ⟨t156,h157,H⟩:=bI H
  refine rG (lW 6 HS Z Dk (mV Z (fJ oV Z (F3.calls HS (ro 1 Z) h157) (fun _ wd158 ⟨h159,HS⟩=>⟨_,h159,(aS Z (nL (rN 3 Z ?_)))⟩))))
  rcases iE H with ⟨c160,H⟩ | ⟨c160,H⟩
  ·
   refine yB Z (tT c160) (rN 2 Z ?_)
   obtain rfl:=sI H
   exact rT _ func9 Z Z ⟨Z,(HS.pk 14 [] Z)⟩
  refine nB Z (tF c160) (rN 2 Z ?_)
  obtain ⟨t161,h162,H⟩:=bI H
  refine rG (pS 2 Z (fJ pO Z (Ei.calls HS (ro 0 Z) h162) (fun _ wd163 ⟨h164,HS⟩=>⟨_,h164,(aS Z (nL (rN 3 Z ?_)))⟩)))
  rcases iE H with ⟨c165,H⟩ | ⟨c165,H⟩
  ·
   refine yB Z (tT c165) (rN 2 Z ?_)
   obtain rfl:=sI H
   exact rT _ func9 Z Z ⟨Z,(HS.pk 14 [] Z)⟩
  refine nB Z (tF c165) (rN 4 Z ?_)
  rcases iS H with ⟨c166,H⟩ | ⟨c166,H⟩
  ·
   refine yB Z (nF c166) (rN 2 Z ?_)
   obtain rfl:=sI H
   exact rT _ func9 Z Z ⟨Z,(HS.pk 14 [] Z)⟩
  refine nB Z (nT c166) (rN 2 Z ?_)
  obtain ⟨t167,h168,H⟩:=bI H
  obtain ⟨t174,h175,H⟩:=bI H
  obtain ⟨t180,t181,t182,h183,H⟩:=J2 H
  refine rG (lW 13 HS Z fK (fJ aO Z (Eg.calls HS (rD 14 r_a) h168) (fun _ wd172 ⟨A169,c170,y171,h173,HS⟩=>⟨_,h173,(mV Z (fJ dC Z (D8.calls HS (rD 15 r_b) h175) (fun _ wd178 ⟨A176,c177,h179,HS⟩=>⟨_,h179,(fJ pR Z (Eo.calls HS (ro 1 Z) (ro 0 Z) h183) (fun _ wd189 ⟨A184,c185,y186,A187,c188,h190,HS⟩=>⟨_,h190,(pS 4 Z (GO.alloc HS Z Lt Z Z fun b191 wd192 HS=>sW 0 HS Z Dk Z fun wd193 HS=>pS 2 Z (nL (rN 2 Z ?_))))⟩))⟩)))⟩)))
  obtain ⟨t204,h205,H⟩:=bI H
  rcases iS H with ⟨c208,H⟩ | ⟨c208,H⟩
  ·
   refine rG (lW 0 HS Z Dk (lW 13 HS Z Dk (fJ Pj Z (Cz.calls HS (ro 1 Z) (ro 14 Z) h205) (fun _ wd206 ⟨h207,HS⟩=>⟨_,h207,(pS 2 Z (kN 130 Z (congrArg Bool.not (Da c208)) (oF Z (oF Z (oF Z (oF Z (pS 2 Z (oF Z (oF Z (oF Z (GO.Iy Z Z Z Z Z ?_)))))))))))⟩))))
   refine nL (rN 3 Z ?_)
   obtain rfl:=sI H
   exact rT _ func9 Z Z ⟨Z,(HS.pk 19 [] Z)⟩
  obtain ⟨t209,h210,H⟩:=bI H
  rcases iS H with ⟨c213,H⟩ | ⟨c213,H⟩
  ·
   refine rG (lW 0 HS Z Dk (lW 13 HS Z Dk (fJ Pj Z (Cz.calls HS (ro 1 Z) (ro 14 Z) h205) (fun _ wd206 ⟨h207,HS⟩=>⟨_,h207,(pS 2 Z (kN 130 Z (congrArg Bool.not c208) (oN Z (mV Z (bK (oN Z (mV Z (bK (oN Z (fJ Ux Z (Er.calls HS (ro 2 Z) (ro 15 Z) h210) (fun _ wd211 ⟨h212,HS⟩=>⟨_,h212,(bK ?_)⟩)))))))))))⟩))))
   refine oN Z (GO.not Z Z Z (bK (pS 2 Z (kN 136 Z (congrArg Bool.not (Da c213)) (oF Z (oF Z (oF Z (GO.Iy Z Z Z Z Z (nL (rN 3 Z ?_))))))))))
   obtain rfl:=sI H
   exact rT _ func9 Z Z ⟨Z,(HS.pk 19 [] Z)⟩
  refine rG (lW 0 HS Z Dk (lW 13 HS Z Dk (fJ Pj Z (Cz.calls HS (ro 1 Z) (ro 14 Z) h205) (fun _ wd206 ⟨h207,HS⟩=>⟨_,h207,(pS 2 Z (kN 130 Z (congrArg Bool.not c208) (oN Z (mV Z (bK (oN Z (mV Z (bK (oN Z (fJ Ux Z (Er.calls HS (ro 2 Z) (ro 15 Z) h210) (fun _ wd211 ⟨h212,HS⟩=>⟨_,h212,(bK ?_)⟩)))))))))))⟩))))
  refine oN Z (GO.not Z Z Z (bK (pS 2 Z (kN 136 Z (congrArg Bool.not c213) (oN Z (mV Z (bK (oN Z (mV Z (bK (oN Z (GO.neq Z Z Z Z (bK (GO.Jl Z Z Z Z Z ?_))))))))))))))
  refine nL ?_
  rcases iS H with ⟨c214,H⟩ | ⟨c214,H⟩
  ·
   refine yB Z (nF c214) (rN 2 Z ?_)
   obtain rfl:=sI H
   exact rT _ func9 Z Z ⟨Z,(HS.pk 19 [] Z)⟩
  refine nB Z (nT c214) (rN 4 Z ?_)
  obtain ⟨t215,h216,H⟩:=bI H
  refine rG (lW 11 HS Z Dk (mV Z (fJ oV Z (F3.calls HS (ro 6 Z) h216) (fun _ wd217 ⟨h218,HS⟩=>⟨_,h218,(aS Z (nL (rN 3 Z ?_)))⟩))))
  rcases iE H with ⟨c219,H⟩ | ⟨c219,H⟩
  ·
   refine yB Z (tT c219) (rN 2 Z ?_)
   obtain rfl:=sI H
   exact rT _ func9 Z Z ⟨Z,(HS.pk 19 [] Z)⟩
  refine nB Z (tF c219) (rN 2 Z ?_)
  obtain ⟨t220,h221,H⟩:=bI H
  refine rG (pS 2 Z (fJ pO Z (Ei.calls HS (ro 5 Z) h221) (fun _ wd222 ⟨h223,HS⟩=>⟨_,h223,(aS Z (nL (rN 3 Z ?_)))⟩)))
  rcases iE H with ⟨c224,H⟩ | ⟨c224,H⟩
  ·
   refine yB Z (tT c224) (rN 2 Z ?_)
   obtain rfl:=sI H
   exact rT _ func9 Z Z ⟨Z,(HS.pk 19 [] Z)⟩
  refine nB Z (tF c224) (rN 4 Z ?_)
  rcases iS H with ⟨c225,H⟩ | ⟨c225,H⟩
  ·
   refine yB Z (nF c225) (rN 2 Z ?_)
   obtain rfl:=sI H
   exact rT _ func9 Z Z ⟨Z,(HS.pk 19 [] Z)⟩
  refine nB Z (nT c225) (rN 3 Z ?_)
  obtain rfl:=sI H
  exact rT _ func9 Z Z ⟨Z,(HS.pk 19 [] Z)⟩
end Go.Proofs.YtbjfinndngafoaaGreat
