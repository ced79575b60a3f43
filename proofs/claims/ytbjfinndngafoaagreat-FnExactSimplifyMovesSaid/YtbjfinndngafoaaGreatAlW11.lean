/-
  The walks through the functions: a call comes to what its list function says.
-/
import Derived.Test.YtbjfinndngafoaaGreatAlF
import Derived.Test.YtbjfinndngafoaaGreatAlW1
import Derived.Test.YtbjfinndngafoaaGreatAlW3
import Derived.Test.YtbjfinndngafoaaGreatAlW4
import Derived.Test.YtbjfinndngafoaaGreatAlW5
import Derived.Test.YtbjfinndngafoaaGreatAlW7
set_option linter.unusedVariables false
set_option linter.unusedSimpArgs false
namespace Go.Proofs.YtbjfinndngafoaaGreat
open Go.RowKit
open Tryz
variable {w0 w:World} {L:List Cy} {K:Nat} {A_a A_b A_c A_d A_e A_f A_g A_h A_i A_j A_k A_l A_m A_n A_o A_p A_q A_r A_s A_t A_u A_v A_w A_x A_y A_z:Option Addr} {c_a c_b c_c c_d c_e c_f c_g c_h c_i c_j c_k c_l c_m c_n c_o c_p c_q c_r c_s c_t c_u c_v c_w c_x c_y c_z:Nat}
set_option maxRecDepth 20000
set_option maxHeartbeats 40000000
theorem Hm.calls {a1:List (List Ab)} {y_a:Nat→(Ty.slice 107 Ad).Lay} {r1:List Dg} (HS:St w0 w (L)) (r_a:Ce w0 L (Ty.slice 107 Ad) A_a c_a y_a a1) (H:Hm.f K a1=some r1) :
    Calls prog 16 #[.agg [sV A_a a1 c_a].toArray] w (Hm.post w0 L r1):=by
  unfold Hm.f at H
  refine cG func16 Z ?_
  refine sQ (rG (bA HS Z fun b1 wd2 HS=>aS Z (nL (rN 2 Z ?_))))
  obtain ⟨t3,h4,H⟩:=bI H
  refine rG (lW 0 HS Z Dq (fJ aQ Z (Aj.calls HS (rD 1 r_a) h4) (fun _ wd5 ⟨h6,HS⟩=>⟨_,h6,(GO.not Z Z Z (nL ?_))⟩)))
  rcases iS H with ⟨c7,H⟩ | ⟨c7,H⟩
  ·
   refine yB Z (congrArg Bool.not (Db c7)) (rN 2 Z ?_)
   replace HS:=HS.Dm Ej 33 uu
   obtain rfl:=sI H
   exact rT _ func16 Z Z ⟨_,_,Z,(HS.pk 2 [0] Z)⟩
  refine nB Z (congrArg Bool.not c7) (rN 2 Z ?_)
  obtain ⟨t8,h9,H⟩:=bI H
  refine rG (lW 0 HS Z Dq (fJ xO Z (Br.calls HS (rD 1 r_a) h9) (fun _ wd12 ⟨A10,c11,h13,HS⟩=>⟨_,h13,(aS Z (nL ?_))⟩)))
  obtain rfl:=sI H
  exact rT _ func16 Z Z ⟨_,_,Z,(HS.pk 2 [0] Z)⟩
theorem Dw.calls {list:List Dg} {kind:Int} {r1 r2 r3:Int} {r4:Bool} (HS:St w0 w (L)) (r_a:Ce w0 L Ej A_a c_a uu list) (H:Dw.f K list kind=some (r1,r2,r3,r4)) :
    Calls prog 98 #[sV A_a list c_a,I kind] w (Dw.post w0 L r1 r2 r3 r4):=by
  unfold Dw.f at H
  refine cG func98 Z ?_
  refine sQ (rG (GO.alloc HS Z lX Z Z fun b1 wd2 HS=>aS Z (nL (rN 5 Z ?_))))
  refine G.name (fun g1 e1=>?_)
  have f1:∀ c1,c1≤K→∀ (a1:Int) (w:World),Dw.l1 K c1 list kind a1=some (r1,r2,r3,r4)→St w0 w (Box b1 33 [I 0,I 0,I 0]::L)→G prog 98 25 [(0,sV A_a list c_a),(1,I kind),(4,pT b1),(6,I a1)] g1 w (Dw.post w0 L r1 r2 r3 r4):=by
   refine lp (fun _ w H _=>by rw [Dw.l1] at H; cases H) fun d1 i1 h1 a1 w H HS=>?_
   rw [Dw.l1] at H
   subst e1
   refine rN 2 Z (rG (pS 2 Z (lS Z Z U37 Z (GO.lss Z Z Z Z (nL ?_)))))
   rcases iS H with ⟨c18,H⟩ | ⟨c18,H⟩
   ·
    refine nB Z (tF c18) (rN 2 Z (rG (GO.Dr (.agg [I 0,I 0,I 0].toArray) Z Z (fun _=>by kernel_rfl) Z (sW 0 HS Z Lb Z fun wd24 HS=>aS Z (nL ?_)))))
    obtain ⟨rfl,rfl,rfl,rfl⟩:=I8 H
    exact G.Hy _ _ func98 Z (Gz.Hu (j:=0) (vs:=[I 0,I 0,I 0]) HS Z Z Z Lb) Z ⟨Z,(HS.pk 1 [] Z)⟩
   refine yB Z (tT c18) (rN 4 Z ?_)
   obtain ⟨c19,H⟩:=iN H
   obtain ⟨e20,h21,H⟩:=Di H
   refine rG (pS 2 Z (iX Z U37 Ql (rk (rD 1 r_a) HS) c19 (GO.fld (ea A_a (a1.toNat * 3)) Z Z Kn Z Z (GO.Cj (T:=Ej) (n:=a1.toNat) (o:=0) HS (rD 1 r_a) Z Z (Cn (ltN c19) h21) Z Z na2 Z (pS 2 Z (nL ?_))))))
   rcases iS H with ⟨c22,H⟩ | ⟨c22,H⟩
   ·
    refine nB Z (tF c22) (rN 4 Z (gW (h1 d1 (lR _) _ _ H HS) Z))
   refine yB Z (tT c22) (sQ (rG (pS 2 Z (iX Z U37 Ql (rk (rD 1 r_a) HS) c19 (GO.Hw (T:=Ej) (n:=a1.toNat) HS (rD 1 r_a) Z Z (Cn (ltN c19) h21) Lb Z (sW 0 HS Z Lb Z fun wd23 HS=>aS Z (nL ?_)))))))
   obtain ⟨rfl,rfl,rfl,rfl⟩:=I8 H
   exact G.Hy _ _ func98 Z (Gz.Hu (j:=0) (vs:=[I e20.Kind,I e20.Tet,I e20.Index]) HS Z Z Z Lb) Z ⟨Z,(HS.pk 1 [] Z)⟩
  exact gW (f1 K (lR _) _ _ H HS) Z
theorem Cq.calls {i1:List (List Ab)} {y_a:Nat→(Ty.slice 107 Ad).Lay} {r1:List (List Ab)} {r2:List Dg} (HS:St w0 w (L)) (r_a:Ce w0 L (Ty.slice 107 Ad) A_a c_a y_a i1) (H:Cq.f K i1=some (r1,r2)) :
    Calls prog 55 #[.agg [sV A_a i1 c_a].toArray] w (Cq.post w0 L r1 r2):=by
  unfold Cq.f at H
  refine cG func55 Z ?_
  refine sQ (rG (bA HS Z fun b1 wd2 HS=>GO.alloc HS Z Lm Z Z fun b3 wd4 HS=>aS Z (nL (sQ ?_))))
  obtain ⟨t5,h6,H⟩:=bI H
  refine rG (lW 1 HS Z Dq (fJ wG Z (Gy.calls HS (rD 2 r_a) h6) (fun _ wd10 ⟨A7,c8,y9,h11,HS⟩=>⟨_,h11,(GO.alloc HS Z Lm Z Z fun b12 wd13 HS=>sW 0 HS Z Dq Z fun wd14 HS=>nL (sQ (rG (GO.Cw (el:=33) ([]) HS Z Z (fun _=>by kernel_rfl) Z fun b15 wd16 HS=>?_))))⟩)))
  replace HS:=HS.Fq (T:=Ej) (j:=0) Z Ba uu ([]:List Dg) Z (Il Z)
  refine GO.H7 (t:=13) (m:=([]:List Dg).length) (c':=([]:List Dg).length) Z Z Z (aS Z (nL (rN 2 Z ?_)))
  refine G.name (fun o1 u1=>?_)
  have v1:∀ m1,m1≤K→∀ (A77:Option Addr) (c78:Nat) (a1:List (List Ab)) (y80:Nat→(Ty.slice 107 Ad).Lay) (A81:Option Addr) (c82:Nat) (c1:List Dg) (w:World),Cq.l1 K m1 a1 c1=some (r1,r2)→St w0 w (Box b3 31 [.slice none 0 0]::Box b12 31 [sV A77 a1 c78]::Own (Ty.slice 107 Ad) 77 A77 c78 y80 a1::Own Ej 33 A81 c82 uu c1::L)→G prog 55 47 [(2,pT b3),(4,pT b12),(5,sV A81 c1 c82)] o1 w (Cq.post w0 L r1 r2):=by
   refine lp (fun _ _ _ _ _ _ _ w H _=>by rw [Cq.l1] at H; cases H) fun h1 y1 x1 A77 c78 a1 y80 A81 c82 c1 w H HS=>?_
   rw [Cq.l1] at H
   subst u1
   refine rN 2 Z ?_
   obtain ⟨t144,h145,H⟩:=bI H
   refine rG (lW 1 HS Z Dq (fJ vT Z (Hm.calls HS (ro 2 Z) h145) (fun _ wd148 ⟨A146,c147,h149,HS⟩=>⟨_,h149,(aS Z (nL (sQ ?_)))⟩)))
   obtain ⟨t150,t151,t152,t153,h154,H⟩:=D8 H
   refine rG (mV Z (fJ pW Z (Dw.calls HS (ro 0 Z) h154) (fun _ wd155 ⟨h156,HS⟩=>⟨_,h156,(pS 3 Z (GO.alloc HS Z lX Z Z fun b157 wd158 HS=>sW 0 HS Z Lb Z fun wd159 HS=>aS Z (nL (rN 3 Z ?_))))⟩)))
   refine G.Ov (fun t1 s1=>?_)
   have k1:∀ n1,n1≤h1→∀ (f1 e1 d1:Int) (g1:Bool) (w:World),Cq.j4 K n1 a1 c1 f1 e1 d1 g1=some (r1,r2)→St w0 w (Box b3 31 [.slice none 0 0]::Box b12 31 [sV A77 a1 c78]::Own (Ty.slice 107 Ad) 77 A77 c78 y80 a1::Own Ej 33 A81 c82 uu c1::Box b157 33 [I f1,I e1,I d1]::L)→G prog 55 47 [(2,pT b3),(4,pT b12),(5,sV A81 c1 c82),(7,pT b157),(8,.bool g1)] t1 w (Cq.post w0 L r1 r2):=by
    refine jp (fun _ _ _ _ w H _=>by rw [Cq.j4] at H; cases H) fun q1 p1 f1 e1 d1 g1 w H HS=>?_
    rw [Cq.j4] at H
    subst s1
    refine rN 3 Z ?_
    rcases iS H with ⟨c173,H⟩ | ⟨c173,H⟩
    ·
     refine yB Z (congrArg Bool.not (Db c173)) (sQ (rG (lW 1 HS Z Dq (mV Z (sW 0 HS Z Dq Z fun wd194 HS=>aS Z (nL ?_))))))
     obtain ⟨rfl,rfl⟩:=H9 H
     exact G.Hy _ _ func55 Z (Gz.Hu (j:=0) (vs:=[sV A77 a1 c78]) HS Z Z Z Dq) Z ⟨_,_,_,_,_,Z,(HS.pk 5 [2,3] Z)⟩
    refine nB Z (congrArg Bool.not c173) (rN 2 Z ?_)
    obtain ⟨t174,t175,h176,H⟩:=Ea H
    refine rG (lW 1 HS Z Dq (lW 4 HS Z Lb (fJ wZ Z (I5.calls HS (ro 2 Z) h176) (fun _ wd180 ⟨A177,c178,y179,h181,HS⟩=>⟨_,h181,(pS 3 Z (GO.alloc HS Z Lm Z Z fun b182 wd183 HS=>sW 0 HS Z Dq Z fun wd184 HS=>aS Z (nL (rN 3 Z ?_))))⟩))))
    rcases iS H with ⟨c185,H⟩ | ⟨c185,H⟩
    ·
     refine yB Z (nF c185) (sQ (rG (lW 3 HS Z Dq (mV Z (sW 2 HS Z Dq Z fun wd193 HS=>aS Z (nL ?_))))))
     obtain ⟨rfl,rfl⟩:=H9 H
     exact G.Hy _ _ func55 Z (Gz.Hu (j:=2) (vs:=[sV A77 a1 c78]) HS Z Z Z Dq) Z ⟨_,_,_,_,_,Z,(HS.pk 7 [4,5] Z)⟩
    refine nB Z (nT c185) (rN 2 Z (rG (lW 0 HS Z Dq (sW 3 HS Z Dq Z fun wd186 HS=>nL ?_))))
    obtain ⟨c192,H⟩:=iN H
    refine rG (mV Z (lW 6 HS Z Lb (GO.Cw (el:=33) ([I f1,I e1,I d1]) HS Z Z (fun _=>by kernel_rfl) Z fun b187 wd188 HS=>GO.app1 (T:=Ej) (j:=6) (jb:=0) (⟨f1,e1,d1⟩:Dg) HS Z Z Ba Z Z Z U37 cB Z Z Z c192 Z fun A190 c191 wd189 HS=>aS Z (nL (rN 2 Z (gW (x1 q1 (Nat.le_of_succ_le p1) _ _ _ _ _ _ _ _ H (HS.pk 8 [3,4,2,6] Z)) Z))))))
   rcases iE H with ⟨c195,H⟩ | ⟨c195,H⟩
   ·
    refine nB Z (congrArg Bool.not c195) (G.skip (gW (k1 h1 (lR _) _ _ _ _ _ H (HS.pk 6 [2,3,4,5,0] Z)) Z))
   refine yB Z (congrArg Bool.not (Db c195)) ?_
   obtain ⟨t196,t197,t198,t199,h200,H⟩:=D8 H
   refine rG (mV Z (fJ pW Z (Dw.calls HS (ro 1 Z) h200) (fun _ wd201 ⟨h202,HS⟩=>⟨_,h202,(pS 3 Z (sW 0 HS Z Lb Z fun wd203 HS=>aS Z (nL (gW (k1 h1 (lR _) _ _ _ _ _ H (HS.pk 6 [2,3,4,5,0] Z)) Z))))⟩)))
  exact gW (v1 K (lR _) _ _ _ _ _ _ _ _ H (HS.pk 5 [3,1,2,0] Z)) Z
theorem Hl.calls {a1:List (List Ab)} {y_a:Nat→(Ty.slice 107 Ad).Lay} {r1:List (List Ab)} {r2:List Dg} {r3:Int} (HS:St w0 w (L)) (r_a:Ce w0 L (Ty.slice 107 Ad) A_a c_a y_a a1) (H:Hl.f K a1=some (r1,r2,r3)) :
    Calls prog 32 #[.agg [sV A_a a1 c_a].toArray] w (Hl.post w0 L r1 r2 r3):=by
  unfold Hl.f at H
  refine cG func32 Z ?_
  refine sQ (rG (bA HS Z fun b1 wd2 HS=>GO.alloc HS Z Lm Z Z fun b3 wd4 HS=>pS 2 Z (nL (rN 2 Z ?_))))
  obtain ⟨t5,h6,H⟩:=bI H
  refine rG (lW 1 HS Z Dq (fJ aQ Z (Aj.calls HS (rD 2 r_a) h6) (fun _ wd7 ⟨h8,HS⟩=>⟨_,h8,(GO.not Z Z Z (nL ?_))⟩)))
  rcases iS H with ⟨c9,H⟩ | ⟨c9,H⟩
  ·
   refine yB Z (congrArg Bool.not (Db c9)) (sQ (rG (GO.Dr (.agg [.slice none 0 0].toArray) Z Z (fun _=>by kernel_rfl) Z (sW 0 HS Z Dq Z fun wd24 HS=>pS 2 Z (nL ?_)))))
   replace HS:=HS.Dm (Ty.slice 107 Ad) 77 (fun _=>⟨none,0,uu⟩)
   replace HS:=HS.Dm Ej 33 uu
   obtain ⟨rfl,rfl,rfl⟩:=Mm H
   exact G.dN _ _ _ func32 Z (Gz.Hu (j:=2) (vs:=[.slice none 0 0]) HS Z Z Z Dq) Z Z ⟨_,_,_,_,_,Z,(HS.pk 4 [1,0] Z)⟩
  refine nB Z (congrArg Bool.not c9) (rN 2 Z ?_)
  obtain ⟨t10,t11,h12,H⟩:=Ea H
  refine rG (lW 1 HS Z Dq (fJ wS Z (Cq.calls HS (rD 2 r_a) h12) (fun _ wd18 ⟨A13,c14,y15,A16,c17,h19,HS⟩=>⟨_,h19,(pS 3 Z (GO.alloc HS Z Lm Z Z fun b20 wd21 HS=>sW 0 HS Z Dq Z fun wd22 HS=>aS Z (nL (sQ (rG (lW 0 HS Z Dq (mV Z (sW 3 HS Z Dq Z fun wd23 HS=>pS 2 Z (nL ?_)))))))))⟩)))
  obtain ⟨rfl,rfl,rfl⟩:=Mm H
  exact G.dN _ _ _ func32 Z (Gz.Hu (j:=3) (vs:=[sV A13 t10 c14]) HS Z Z Z Dq) Z Z ⟨_,_,_,_,_,Z,(HS.pk 5 [1,2] Z)⟩
theorem Et.calls {c1 a1 d1:Int} {r1:Bool} (HS:St w0 w (L)) (H:Et.f c1 a1 d1=some r1) :
    Calls prog 100 #[.agg [I c1,I a1,I d1].toArray] w (Et.post w0 L r1):=by
  unfold Et.f at H
  refine cG func100 Z ?_
  refine sQ (rG (bA HS Z fun b1 wd2 HS=>aS Z (nL (sQ (rG (fL b1 0 Kn Z (lB 0 HS Z na2 Z (pS 2 Z (nL ?_)))))))))
  obtain rfl:=sI H
  exact rT _ func100 Z Z ⟨Z,(HS.pk 1 [] Z)⟩
theorem Aw.calls {s:List Dg} {r1:Int} (HS:St w0 w (L)) (r_a:Ce w0 L Ej A_a c_a uu s) (H:Aw.f K s=some r1) :
    Calls prog 99 #[sV A_a s c_a,.func (.func 100) #[] #[]] w (Aw.post w0 L r1):=by
  unfold Aw.f at H
  refine cG func99 Z ?_
  refine rN 4 Z (rG (mV Z (lS Z Z U37 Z (mV Z (nL (rN 2 Z ?_))))))
  refine G.name (fun e1 c1=>?_)
  have d1:∀ a1,a1≤K→∀ (x10:Int) (w:World),Aw.l1 K a1 s x10=some r1→St w0 w (L)→G prog 99 19 [(0,sV A_a s c_a),(1,.func (.func 100) #[] #[]),(7,I (s.length:Int)),(8,I x10)] e1 w (Aw.post w0 L r1):=by
   refine lp (fun _ w H _=>by rw [Aw.l1] at H; cases H) fun b1 g1 f1 x10 w H HS=>?_
   rw [Aw.l1] at H
   subst c1
   refine rN 3 Z ?_
   rcases iS H with ⟨c20,H⟩ | ⟨c20,H⟩
   ·
    refine nB Z (tF c20) (rN 3 Z ?_)
    obtain rfl:=sI H
    exact rT _ func99 Z Z ⟨Z,HS⟩
   refine yB Z (tT c20) (rN 6 Z ?_)
   obtain ⟨c21,H⟩:=iN H
   obtain ⟨e22,h23,H⟩:=Di H
   obtain ⟨t24,h25,H⟩:=bI H
   refine rG (pS 3 Z (iX Z U37 Ql (rk r_a HS) c21 (GO.Hw (T:=Ej) (n:=x10.toNat) HS r_a Z Z (Cn (ltN c21) h23) Lb Z (GO.clo Z Z func100 iV.2.1 iV.2.2 Z Z (Et.calls HS  h25) (fun _ wd26 ⟨h27,HS⟩=>⟨_,h27,(nL ?_)⟩)))))
   rcases iE H with ⟨c28,H⟩ | ⟨c28,H⟩
   ·
    refine yB Z c28 (rN 2 Z ?_)
    obtain rfl:=sI H
    exact rT _ func99 Z Z ⟨Z,HS⟩
   refine nB Z (Db c28) (rN 4 Z (gW (f1 b1 (lR _) _ _ H HS) Z))
  exact gW (d1 K (lR _) _ _ H HS) Z
theorem Es.calls {c1 a1 d1:Int} {r1:Bool} (HS:St w0 w (L)) (H:Es.f c1 a1 d1=some r1) :
    Calls prog 101 #[.agg [I c1,I a1,I d1].toArray] w (Es.post w0 L r1):=by
  unfold Es.f at H
  refine cG func101 Z ?_
  refine sQ (rG (bA HS Z fun b1 wd2 HS=>aS Z (nL (sQ (rG (fL b1 0 Kn Z (lB 0 HS Z na2 Z (pS 2 Z (nL ?_)))))))))
  obtain rfl:=sI H
  exact rT _ func101 Z Z ⟨Z,(HS.pk 1 [] Z)⟩
theorem Ay.calls {s:List Dg} {r1:Int} (HS:St w0 w (L)) (r_a:Ce w0 L Ej A_a c_a uu s) (H:Ay.f K s=some r1) :
    Calls prog 99 #[sV A_a s c_a,.func (.func 101) #[] #[]] w (Ay.post w0 L r1):=by
  unfold Ay.f at H
  refine cG func99 Z ?_
  refine rN 4 Z (rG (mV Z (lS Z Z U37 Z (mV Z (nL (rN 2 Z ?_))))))
  refine G.name (fun e1 c1=>?_)
  have d1:∀ a1,a1≤K→∀ (x10:Int) (w:World),Ay.l1 K a1 s x10=some r1→St w0 w (L)→G prog 99 19 [(0,sV A_a s c_a),(1,.func (.func 101) #[] #[]),(7,I (s.length:Int)),(8,I x10)] e1 w (Ay.post w0 L r1):=by
   refine lp (fun _ w H _=>by rw [Ay.l1] at H; cases H) fun b1 g1 f1 x10 w H HS=>?_
   rw [Ay.l1] at H
   subst c1
   refine rN 3 Z ?_
   rcases iS H with ⟨c20,H⟩ | ⟨c20,H⟩
   ·
    refine nB Z (tF c20) (rN 3 Z ?_)
    obtain rfl:=sI H
    exact rT _ func99 Z Z ⟨Z,HS⟩
   refine yB Z (tT c20) (rN 6 Z ?_)
   obtain ⟨c21,H⟩:=iN H
   obtain ⟨e22,h23,H⟩:=Di H
   obtain ⟨t24,h25,H⟩:=bI H
   refine rG (pS 3 Z (iX Z U37 Ql (rk r_a HS) c21 (GO.Hw (T:=Ej) (n:=x10.toNat) HS r_a Z Z (Cn (ltN c21) h23) Lb Z (GO.clo Z Z func101 jP.2.1 jP.2.2 Z Z (Es.calls HS  h25) (fun _ wd26 ⟨h27,HS⟩=>⟨_,h27,(nL ?_)⟩)))))
   rcases iE H with ⟨c28,H⟩ | ⟨c28,H⟩
   ·
    refine yB Z c28 (rN 2 Z ?_)
    obtain rfl:=sI H
    exact rT _ func99 Z Z ⟨Z,HS⟩
   refine nB Z (Db c28) (rN 4 Z (gW (f1 b1 (lR _) _ _ H HS) Z))
  exact gW (d1 K (lR _) _ _ H HS) Z
theorem Bg.calls {f1:List (List Ab)} {y_a:Nat→(Ty.slice 107 Ad).Lay} {r1:List (List Ab)} {r2:List Dg} (HS:St w0 w (Own (Ty.slice 107 Ad) 77 A_a c_a y_a f1::L)) (H:Bg.f K f1=some (r1,r2)) :
    Calls prog 56 #[.agg [sV A_a f1 c_a].toArray] w (Bg.post w0 L r1 r2):=by
  unfold Bg.f at H
  refine cG func56 Z ?_
  refine sQ (rG (bA HS Z fun b1 wd2 HS=>GO.alloc HS Z Lm Z Z fun b3 wd4 HS=>aS Z (nL (rN 4 Z ?_))))
  refine G.name (fun s1 n1=>?_)
  have p1:∀ g1,g1≤K→∀ (A47:Option Addr) (c48:Nat) (a1:List (List Ab)) (y50:Nat→(Ty.slice 107 Ad).Lay) (A51:Option Addr) (c52:Nat) (c1:List Dg) (w:World),Bg.l1 K g1 a1 c1=some (r1,r2)→St w0 w (Box b1 31 [sV A47 a1 c48]::Own (Ty.slice 107 Ad) 77 A47 c48 y50 a1::Box b3 31 [.slice none 0 0]::Own Ej 33 A51 c52 uu c1::L)→G prog 56 35 [(1,pT b1),(2,pT b3),(4,sV A51 c1 c52)] s1 w (Bg.post w0 L r1 r2):=by
   refine lp (fun _ _ _ _ _ _ _ w H _=>by rw [Bg.l1] at H; cases H) fun e1 u1 t1 A47 c48 a1 y50 A51 c52 c1 w H HS=>?_
   rw [Bg.l1] at H
   subst n1
   refine rN 2 Z ?_
   obtain ⟨t96,h97,H⟩:=bI H
   refine rG (lW 0 HS Z Dq (fJ vK Z (Ak.calls HS (ro 1 Z) h97) (fun _ wd100 ⟨A98,c99,h101,HS⟩=>⟨_,h101,(aS Z (nL (sQ ?_)))⟩)))
   obtain ⟨t102,h103,H⟩:=bI H
   refine rG (mV Z (fJ nW Z (Aw.calls HS (ro 0 Z) h103) (fun _ wd104 ⟨h105,HS⟩=>⟨_,h105,(aS Z (nL (rN 3 Z ?_)))⟩)))
   refine G.Ov (fun q1 o1=>?_)
   have h1:∀ i1,i1≤e1→∀ (d1:Int) (w:World),Bg.j4 K i1 a1 c1 t96 d1=some (r1,r2)→St w0 w (Box b1 31 [sV A47 a1 c48]::Own (Ty.slice 107 Ad) 77 A47 c48 y50 a1::Box b3 31 [.slice none 0 0]::Own Ej 33 A51 c52 uu c1::Own Ej 33 A98 c99 uu t96::L)→G prog 56 35 [(1,pT b1),(2,pT b3),(4,sV A51 c1 c52),(5,sV A98 t96 c99),(6,I d1)] q1 w (Bg.post w0 L r1 r2):=by
    refine jp (fun _ w H _=>by rw [Bg.j4] at H; cases H) fun m1 k1 d1 w H HS=>?_
    rw [Bg.j4] at H
    subst o1
    refine rN 3 Z ?_
    rcases iE H with ⟨c112,H⟩ | ⟨c112,H⟩
    ·
     refine yB Z (tT c112) (sQ (rG (lW 0 HS Z Dq (mV Z (sW 2 HS Z Dq Z fun wd113 HS=>aS Z (nL ?_))))))
     obtain ⟨rfl,rfl⟩:=H9 H
     exact G.Hy _ _ func56 Z (Gz.Hu (j:=2) (vs:=[sV A47 a1 c48]) HS Z Z Z Dq) Z ⟨_,_,_,_,_,Z,(HS.pk 5 [1,3] Z)⟩
    refine nB Z (tF c112) (rN 2 Z ?_)
    obtain ⟨c114,H⟩:=iN H
    have h115:=(rk (ro 4 Z) HS)
    obtain ⟨e116,h117,H⟩:=Di H
    obtain ⟨t118,t119,h120,H⟩:=Ea H
    refine G.lex mixed [1,2,3,0,4,5,6,7,8,9] (by kernel_rfl) ?_
    replace HS:=HS.drew
    refine GX.ps 2 Z (qL Z Z (fun _ _ g=>iX Z U37 Ql h115 c114 g) Z (GX.l1 Z Z Z (fun _ g=>lW 0 HS Z Dq g) Z (GX.l1 Z Z Z (fun _ g=>GO.Hw (T:=Ej) (n:=d1.toNat) HS (ro 4 Z) Z Z (Cn (ltN c114) h117) Lb Z g) Z (GX.l2 Z (fJ uY Z (I4.calls HS (ro 1 Z) h120) (fun _ wd124 ⟨A121,c122,y123,h125,HS⟩=>⟨_,h125,(GX.fin tv (GX.ps 3 Z (GX.l2 Z (sW 1 HS Z Dq Z fun wd126 HS=>GX.fin tv (GX.nil ?_)))))⟩))))))
    obtain ⟨c132,H⟩:=iN H
    refine rG (pS 3 Z (iX Z U37 Ql (rk (ro 5 Z) HS) c114 (GO.Hw (T:=Ej) (n:=d1.toNat) HS (ro 5 Z) Z Z (Cn (ltN c114) h117) Lb Z (GO.Cw (el:=33) ([I e116.Kind,I e116.Tet,I e116.Index]) HS Z Z (fun _=>by kernel_rfl) Z fun b127 wd128 HS=>GO.app1 (T:=Ej) (j:=5) (jb:=0) (⟨e116.Kind,e116.Tet,e116.Index⟩:Dg) HS Z Z Ba Z Z Z U37 cB Z Z Z c132 Z fun A130 c131 wd129 HS=>aS Z (nL (rN 2 Z (gW (t1 m1 (Nat.le_of_succ_le k1) _ _ _ _ _ _ _ _ H (HS.pk 7 [2,1,4,5] Z)) Z)))))))
   rcases iS H with ⟨c133,H⟩ | ⟨c133,H⟩
   ·
    refine nB Z (tF c133) (G.skip (gW (h1 e1 (lR _) _ _ H (HS.pk 5 [1,2,3,4,0] Z)) Z))
   refine yB Z (tT c133) ?_
   obtain ⟨t134,h135,H⟩:=bI H
   refine rG (mV Z (fJ nW Z (Ay.calls HS (ro 0 Z) h135) (fun _ wd136 ⟨h137,HS⟩=>⟨_,h137,(aS Z (nL (gW (h1 e1 (lR _) _ _ H (HS.pk 5 [1,2,3,4,0] Z)) Z)))⟩)))
  replace HS:=HS.Dm Ej 33 uu
  exact gW (p1 K (lR _) _ _ _ _ _ _ _ _ H (HS.pk 4 [2,3,1,0] Z)) Z
theorem Gw.calls {a1:List (List Ab)} {y_a:Nat→(Ty.slice 107 Ad).Lay} {r1:List (List Ab)} {r2:List Dg} {r3:Int} (HS:St w0 w (L)) (r_a:Ce w0 L (Ty.slice 107 Ad) A_a c_a y_a a1) (H:Gw.f K a1=some (r1,r2,r3)) :
    Calls prog 33 #[.agg [sV A_a a1 c_a].toArray] w (Gw.post w0 L r1 r2 r3):=by
  unfold Gw.f at H
  refine cG func33 Z ?_
  refine sQ (rG (bA HS Z fun b1 wd2 HS=>GO.alloc HS Z Lm Z Z fun b3 wd4 HS=>pS 2 Z (nL (rN 2 Z ?_))))
  obtain ⟨t5,h6,H⟩:=bI H
  refine rG (lW 1 HS Z Dq (fJ pE Z (Bp.calls HS (rD 2 r_a) h6) (fun _ wd7 ⟨h8,HS⟩=>⟨_,h8,(GO.not Z Z Z (nL ?_))⟩)))
  rcases iS H with ⟨c9,H⟩ | ⟨c9,H⟩
  ·
   refine yB Z (congrArg Bool.not (Db c9)) (sQ (rG (GO.Dr (.agg [.slice none 0 0].toArray) Z Z (fun _=>by kernel_rfl) Z (sW 0 HS Z Dq Z fun wd31 HS=>pS 2 Z (nL ?_)))))
   replace HS:=HS.Dm (Ty.slice 107 Ad) 77 (fun _=>⟨none,0,uu⟩)
   replace HS:=HS.Dm Ej 33 uu
   obtain ⟨rfl,rfl,rfl⟩:=Mm H
   exact G.dN _ _ _ func33 Z (Gz.Hu (j:=2) (vs:=[.slice none 0 0]) HS Z Z Z Dq) Z Z ⟨_,_,_,_,_,Z,(HS.pk 4 [1,0] Z)⟩
  refine nB Z (congrArg Bool.not c9) (rN 2 Z ?_)
  obtain ⟨t10,h11,H⟩:=bI H
  obtain ⟨t17,t18,h19,H⟩:=Ea H
  refine rG (lW 1 HS Z Dq (fJ pJ Z (Cr.calls HS (rD 2 r_a) h11) (fun _ wd15 ⟨A12,c13,y14,h16,HS⟩=>⟨_,h16,?_⟩)))
  replace HS:=HS.pk 3 [0,1,2] Z
  refine fJ vX Z (Bg.calls HS  h19) (fun _ wd25 ⟨A20,c21,y22,A23,c24,h26,HS⟩=>⟨_,h26,(pS 3 Z (GO.alloc HS Z Lm Z Z fun b27 wd28 HS=>sW 0 HS Z Dq Z fun wd29 HS=>aS Z (nL (sQ (rG (lW 0 HS Z Dq (mV Z (sW 3 HS Z Dq Z fun wd30 HS=>pS 2 Z (nL ?_)))))))))⟩)
  obtain ⟨rfl,rfl,rfl⟩:=Mm H
  exact G.dN _ _ _ func33 Z (Gz.Hu (j:=3) (vs:=[sV A20 t17 c21]) HS Z Z Z Dq) Z Z ⟨_,_,_,_,_,Z,(HS.pk 5 [1,2] Z)⟩
theorem F8.calls {a1:List (List Ab)} {y_a:Nat→(Ty.slice 142 Ad).Lay} {r1:Bool} (HS:St w0 w (L)) (r_a:Ce w0 L (Ty.slice 142 Ad) A_a c_a y_a a1) (H:F8.f K a1=some r1) :
    Calls prog 8 #[.agg [sV A_a a1 c_a].toArray] w (F8.post w0 L r1):=by
  unfold F8.f at H
  refine cG func8 Z ?_
  refine sQ (rG (bA HS Z fun b1 wd2 HS=>aS Z (nL (rN 3 Z ?_))))
  obtain ⟨t3,h4,H⟩:=bI H
  refine rG (lW 0 HS Z fE (mV Z (fJ wP Z (Gr.calls HS (rD 1 r_a) h4) (fun _ wd5 ⟨h6,HS⟩=>⟨_,h6,(aS Z (nL (rN 3 Z ?_)))⟩))))
  rcases iE H with ⟨c7,H⟩ | ⟨c7,H⟩
  ·
   refine yB Z (tT c7) (rN 2 Z ?_)
   obtain rfl:=sI H
   exact rT _ func8 Z Z ⟨Z,(HS.pk 1 [] Z)⟩
  refine nB Z (tF c7) (rN 2 Z ?_)
  obtain ⟨t8,h9,H⟩:=bI H
  obtain ⟨t15,t16,t17,h18,H⟩:=J3 H
  refine rG (lW 0 HS Z fE (fJ aP Z (Eh.calls HS (rD 1 r_a) h9) (fun _ wd13 ⟨A10,c11,y12,h14,HS⟩=>⟨_,h14,(fJ wL Z (Hl.calls HS (ro 0 Z) h18) (fun _ wd24 ⟨A19,c20,y21,A22,c23,h25,HS⟩=>⟨_,h25,(pS 4 Z (GO.alloc HS Z Lm Z Z fun b26 wd27 HS=>sW 0 HS Z Dq Z fun wd28 HS=>pS 2 Z (nL (sQ ?_))))⟩))⟩)))
  obtain ⟨t29,h30,H⟩:=bI H
  refine rG (lW 4 HS Z fE (fJ aP Z (Eh.calls HS (rD 5 r_a) h30) (fun _ wd34 ⟨A31,c32,y33,h35,HS⟩=>⟨_,h35,(GO.alloc HS Z Lm Z Z fun b36 wd37 HS=>sW 0 HS Z Dq Z fun wd38 HS=>nL (sQ ?_))⟩)))
  obtain ⟨t39,t40,t41,h42,H⟩:=J3 H
  refine rG (lW 0 HS Z Dq (fJ oV Z (Gw.calls HS (ro 1 Z) h42) (fun _ wd48 ⟨A43,c44,y45,A46,c47,h49,HS⟩=>⟨_,h49,(pS 4 Z (GO.alloc HS Z Lm Z Z fun b50 wd51 HS=>sW 0 HS Z Dq Z fun wd52 HS=>pS 2 Z (nL (rN 2 Z ?_))))⟩)))
  obtain ⟨t63,h64,H⟩:=bI H
  rcases iS H with ⟨c67,H⟩ | ⟨c67,H⟩
  ·
   refine rG (lW 0 HS Z Dq (lW 5 HS Z Dq (fJ Ph Z (Da.calls HS (ro 1 Z) (ro 6 Z) h64) (fun _ wd65 ⟨h66,HS⟩=>⟨_,h66,(pS 2 Z (kN 41 Z (congrArg Bool.not (Db c67)) (oF Z (oF Z (oF Z (oF Z (pS 2 Z (oF Z (oF Z (oF Z (GO.Iz Z Z Z Z Z ?_)))))))))))⟩))))
   refine nL (rN 3 Z ?_)
   obtain rfl:=sI H
   exact rT _ func8 Z Z ⟨Z,(HS.pk 10 [] Z)⟩
  obtain ⟨t68,h69,H⟩:=bI H
  rcases iS H with ⟨c72,H⟩ | ⟨c72,H⟩
  ·
   refine rG (lW 0 HS Z Dq (lW 5 HS Z Dq (fJ Ph Z (Da.calls HS (ro 1 Z) (ro 6 Z) h64) (fun _ wd65 ⟨h66,HS⟩=>⟨_,h66,(pS 2 Z (kN 41 Z (congrArg Bool.not c67) (oN Z (mV Z (bK (oN Z (mV Z (bK (oN Z (fJ Uw Z (Eu.calls HS (ro 2 Z) (ro 7 Z) h69) (fun _ wd70 ⟨h71,HS⟩=>⟨_,h71,(bK ?_)⟩)))))))))))⟩))))
   refine oN Z (GO.not Z Z Z (bK (pS 2 Z (kN 47 Z (congrArg Bool.not (Db c72)) (oF Z (oF Z (oF Z (GO.Iz Z Z Z Z Z (nL (rN 3 Z ?_))))))))))
   obtain rfl:=sI H
   exact rT _ func8 Z Z ⟨Z,(HS.pk 10 [] Z)⟩
  refine rG (lW 0 HS Z Dq (lW 5 HS Z Dq (fJ Ph Z (Da.calls HS (ro 1 Z) (ro 6 Z) h64) (fun _ wd65 ⟨h66,HS⟩=>⟨_,h66,(pS 2 Z (kN 41 Z (congrArg Bool.not c67) (oN Z (mV Z (bK (oN Z (mV Z (bK (oN Z (fJ Uw Z (Eu.calls HS (ro 2 Z) (ro 7 Z) h69) (fun _ wd70 ⟨h71,HS⟩=>⟨_,h71,(bK ?_)⟩)))))))))))⟩))))
  refine oN Z (GO.not Z Z Z (bK (pS 2 Z (kN 47 Z (congrArg Bool.not c72) (oN Z (mV Z (bK (oN Z (mV Z (bK (oN Z (GO.neq Z Z Z Z (bK (GO.Jm Z Z Z Z Z ?_))))))))))))))
  refine nL ?_
  rcases iS H with ⟨c73,H⟩ | ⟨c73,H⟩
  ·
   refine yB Z (nF c73) (rN 2 Z ?_)
   obtain rfl:=sI H
   exact rT _ func8 Z Z ⟨Z,(HS.pk 10 [] Z)⟩
  refine nB Z (nT c73) (rN 3 Z ?_)
  obtain ⟨t74,h75,H⟩:=bI H
  obtain ⟨t81,h82,H⟩:=bI H
  refine G.H8 mixed (fun w=>St w0 w (Box b36 31 [sV A31 t29 c32]::Box b1 24 [sV A_a a1 c_a]::L)) [0,1] [0,1,2,3,4] [] (by kernel_rfl) (by kernel_rfl) (HS.drew.pk 10 [3,9] Z) ?_
  replace HS:=HS.drew
  refine GX.ls Z Z Z (HS.pk 10 [3,9] Z) (fun _ HS _ g=>lW 0 HS Z Dq g) Z (GX.ls Z Z Z (HS.pk 10 [3,9] Z) (fun _ HS _ g=>lW 1 HS Z fE g) Z (GX.l2 Z (fJ aP Z (Eh.calls HS (rD 10 r_a) h75) (fun _ wd79 ⟨A76,c77,y78,h80,HS⟩=>⟨_,h80,(GX.fin (HS.pk 11 [4,10] Z) (GX.l2 Z (fJ Ph Z (Da.calls HS (ro 5 Z) (ro 0 Z) h82) (fun _ wd83 ⟨h84,HS⟩=>⟨_,h84,(GX.fin (HS.pk 11 [4,10] Z) (GX.ps 1 Z (GX.nil ?_)))⟩))))⟩))))
  rcases iS H with ⟨c85,H⟩ | ⟨c85,H⟩
  ·
   refine yB Z (congrArg Bool.not (Db c85)) (rN 2 Z ?_)
   obtain rfl:=sI H
   exact rT _ func8 Z Z ⟨Z,(HS.pk 11 [] Z)⟩
  refine nB Z (congrArg Bool.not c85) (rN 4 Z ?_)
  obtain ⟨t86,t87,h88,H⟩:=Ea H
  obtain ⟨c89,H⟩:=iN H
  refine rG (lW 4 HS Z Dq (mV Z ?_))
  replace HS:=HS.pk 11 [5,0,1,2,3,4,6,7,8,9,10] Z
  refine fJ pR Z (Fz.calls HS  h88) (fun _ wd90 ⟨h91,HS⟩=>⟨_,h91,(aS Z (nL ?_))⟩)
  replace HS:=HS.K3 (j:=5) (cs':=[sV A31 t87 c32]) Z (by simp only [sV,List.length_set,c89] <;> rfl)
  refine rN 2 Z ?_
  rcases iE H with ⟨c103,H⟩ | ⟨c103,H⟩
  ·
   refine rG (pS 3 Z (kN 62 Z (tT c103) (oF Z (oF Z (oF Z (oF Z (pS 2 Z (oF Z (oF Z (oF Z (oF Z (pS 2 Z (oF Z (oF Z ?_))))))))))))))
   refine oF Z (GO.Iz Z Z Z Z Z (nL (rN 3 Z ?_)))
   obtain rfl:=sI H
   exact rT _ func8 Z Z ⟨Z,(HS.pk 11 [] Z)⟩
  obtain ⟨t104,h105,H⟩:=bI H
  rcases iS H with ⟨c108,H⟩ | ⟨c108,H⟩
  ·
   refine rG (pS 3 Z (kN 62 Z (tF c103) (oN Z (lW 2 HS Z Dq (bK (oN Z (lW 6 HS Z Dq (bK (oN Z (fJ Ph Z (Da.calls HS (ro 3 Z) (ro 7 Z) h105) (fun _ wd106 ⟨h107,HS⟩=>⟨_,h107,(bK (oN Z (GO.not Z Z Z (bK ?_))))⟩)))))))))))
   refine pS 2 Z (kN 68 Z (congrArg Bool.not (Db c108)) (oF Z (oF Z (oF Z (oF Z (pS 2 Z (oF Z (oF Z (oF Z (GO.Iz Z Z Z Z Z (nL (rN 3 Z ?_))))))))))))
   obtain rfl:=sI H
   exact rT _ func8 Z Z ⟨Z,(HS.pk 11 [] Z)⟩
  obtain ⟨t109,h110,H⟩:=bI H
  rcases iS H with ⟨c113,H⟩ | ⟨c113,H⟩
  ·
   refine rG (pS 3 Z (kN 62 Z (tF c103) (oN Z (lW 2 HS Z Dq (bK (oN Z (lW 6 HS Z Dq (bK (oN Z (fJ Ph Z (Da.calls HS (ro 3 Z) (ro 7 Z) h105) (fun _ wd106 ⟨h107,HS⟩=>⟨_,h107,(bK (oN Z (GO.not Z Z Z (bK ?_))))⟩)))))))))))
   refine pS 2 Z (kN 68 Z (congrArg Bool.not c108) (oN Z (mV Z (bK (oN Z (mV Z (bK (oN Z (fJ Uw Z (Eu.calls HS (ro 4 Z) (ro 8 Z) h110) (fun _ wd111 ⟨h112,HS⟩=>⟨_,h112,(bK (oN Z (GO.not Z Z Z (bK (pS 2 Z ?_)))))⟩))))))))))
   refine kN 74 Z (congrArg Bool.not (Db c113)) (oF Z (oF Z (oF Z (GO.Iz Z Z Z Z Z (nL (rN 3 Z ?_))))))
   obtain rfl:=sI H
   exact rT _ func8 Z Z ⟨Z,(HS.pk 11 [] Z)⟩
  refine rG (pS 3 Z (kN 62 Z (tF c103) (oN Z (lW 2 HS Z Dq (bK (oN Z (lW 6 HS Z Dq (bK (oN Z (fJ Ph Z (Da.calls HS (ro 3 Z) (ro 7 Z) h105) (fun _ wd106 ⟨h107,HS⟩=>⟨_,h107,(bK (oN Z (GO.not Z Z Z (bK ?_))))⟩)))))))))))
  refine pS 2 Z (kN 68 Z (congrArg Bool.not c108) (oN Z (mV Z (bK (oN Z (mV Z (bK (oN Z (fJ Uw Z (Eu.calls HS (ro 4 Z) (ro 8 Z) h110) (fun _ wd111 ⟨h112,HS⟩=>⟨_,h112,(bK (oN Z (GO.not Z Z Z (bK (pS 2 Z ?_)))))⟩))))))))))
  refine kN 74 Z (congrArg Bool.not c113) (oN Z (mV Z (bK (oN Z (mV Z (bK (oN Z (GO.neq Z Z Z Z (bK (GO.Jm Z Z Z Z Z (nL (nB Z (nT c73) (rN 4 Z ?_)))))))))))))
  obtain ⟨t114,t115,h116,H⟩:=Ea H
  obtain ⟨c117,H⟩:=iN H
  refine rG (lW 2 HS Z Dq (mV Z ?_))
  replace HS:=HS.pk 11 [3,0,1,2,4,5,6,7,8,9,10] Z
  refine fJ pR Z (Fz.calls HS  h116) (fun _ wd118 ⟨h119,HS⟩=>⟨_,h119,(aS Z (nL ?_))⟩)
  replace HS:=HS.K3 (j:=3) (cs':=[sV A43 t115 c44]) Z (by simp only [sV,List.length_set,c117] <;> rfl)
  refine sQ ?_
  obtain ⟨t120,t121,h122,H⟩:=Ea H
  obtain ⟨c123,H⟩:=iN H
  refine rG (pS 2 Z ?_)
  replace HS:=HS.pk 11 [4,0,1,2,3,5,6,7,8,9,10] Z
  refine fJ wX Z (Fg.calls HS  h122) (fun _ wd124 ⟨h125,HS⟩=>⟨_,h125,(aS Z (nL (G.len (t:=9) (m:=t121.length) Z (by simp only [List.length_set,c123] <;> rfl) (rN 3 Z ?_))))⟩)
  obtain ⟨t126,h127,H⟩:=bI H
  refine rG (lW 4 HS Z Dq (mV Z (fJ oO Z (F4.calls HS (ro 1 Z) h127) (fun _ wd128 ⟨h129,HS⟩=>⟨_,h129,(aS Z (nL (rN 3 Z ?_)))⟩))))
  rcases iE H with ⟨c130,H⟩ | ⟨c130,H⟩
  ·
   refine yB Z (tT c130) (rN 2 Z ?_)
   obtain rfl:=sI H
   exact rT _ func8 Z Z ⟨Z,(HS.pk 11 [] Z)⟩
  refine nB Z (tF c130) (rN 2 Z ?_)
  obtain ⟨t131,h132,H⟩:=bI H
  refine rG (pS 2 Z (fJ pI Z (El.calls HS (ro 0 Z) h132) (fun _ wd133 ⟨h134,HS⟩=>⟨_,h134,(aS Z (nL (rN 3 Z ?_)))⟩)))
  rcases iE H with ⟨c135,H⟩ | ⟨c135,H⟩
  ·
   refine yB Z (tT c135) (rN 2 Z ?_)
   obtain rfl:=sI H
   exact rT _ func8 Z Z ⟨Z,(HS.pk 11 [] Z)⟩
  refine nB Z (tF c135) (rN 4 Z ?_)
  rcases iS H with ⟨c136,H⟩ | ⟨c136,H⟩
  ·
   refine yB Z (nF c136) (rN 2 Z ?_)
   obtain rfl:=sI H
   exact rT _ func8 Z Z ⟨Z,(HS.pk 11 [] Z)⟩
  refine nB Z (nT c136) (rN 2 Z ?_)
  obtain ⟨t137,h138,H⟩:=bI H
  obtain ⟨t144,t145,t146,h147,H⟩:=J3 H
  refine rG (lW 10 HS Z fE (fJ aP Z (Eh.calls HS (rD 11 r_a) h138) (fun _ wd142 ⟨A139,c140,y141,h143,HS⟩=>⟨_,h143,(fJ oV Z (Gw.calls HS (ro 0 Z) h147) (fun _ wd153 ⟨A148,c149,y150,A151,c152,h154,HS⟩=>⟨_,h154,(pS 4 Z (GO.alloc HS Z Lm Z Z fun b155 wd156 HS=>sW 0 HS Z Dq Z fun wd157 HS=>pS 2 Z (nL (rN 2 Z ?_))))⟩))⟩)))
  obtain ⟨t168,h169,H⟩:=bI H
  rcases iS H with ⟨c172,H⟩ | ⟨c172,H⟩
  ·
   refine rG (lW 0 HS Z Dq (lW 10 HS Z Dq (fJ Ph Z (Da.calls HS (ro 1 Z) (ro 11 Z) h169) (fun _ wd170 ⟨h171,HS⟩=>⟨_,h171,(pS 2 Z (kN 109 Z (congrArg Bool.not (Db c172)) (oF Z (oF Z (oF Z (oF Z (pS 2 Z (oF Z (oF Z (oF Z (GO.Iz Z Z Z Z Z ?_)))))))))))⟩))))
   refine nL (rN 3 Z ?_)
   obtain rfl:=sI H
   exact rT _ func8 Z Z ⟨Z,(HS.pk 15 [] Z)⟩
  obtain ⟨t173,h174,H⟩:=bI H
  rcases iS H with ⟨c177,H⟩ | ⟨c177,H⟩
  ·
   refine rG (lW 0 HS Z Dq (lW 10 HS Z Dq (fJ Ph Z (Da.calls HS (ro 1 Z) (ro 11 Z) h169) (fun _ wd170 ⟨h171,HS⟩=>⟨_,h171,(pS 2 Z (kN 109 Z (congrArg Bool.not c172) (oN Z (mV Z (bK (oN Z (mV Z (bK (oN Z (fJ Uw Z (Eu.calls HS (ro 2 Z) (ro 12 Z) h174) (fun _ wd175 ⟨h176,HS⟩=>⟨_,h176,(bK ?_)⟩)))))))))))⟩))))
   refine oN Z (GO.not Z Z Z (bK (pS 2 Z (kN 115 Z (congrArg Bool.not (Db c177)) (oF Z (oF Z (oF Z (GO.Iz Z Z Z Z Z (nL (rN 3 Z ?_))))))))))
   obtain rfl:=sI H
   exact rT _ func8 Z Z ⟨Z,(HS.pk 15 [] Z)⟩
  refine rG (lW 0 HS Z Dq (lW 10 HS Z Dq (fJ Ph Z (Da.calls HS (ro 1 Z) (ro 11 Z) h169) (fun _ wd170 ⟨h171,HS⟩=>⟨_,h171,(pS 2 Z (kN 109 Z (congrArg Bool.not c172) (oN Z (mV Z (bK (oN Z (mV Z (bK (oN Z (fJ Uw Z (Eu.calls HS (ro 2 Z) (ro 12 Z) h174) (fun _ wd175 ⟨h176,HS⟩=>⟨_,h176,(bK ?_)⟩)))))))))))⟩))))
  refine oN Z (GO.not Z Z Z (bK (pS 2 Z (kN 115 Z (congrArg Bool.not c177) (oN Z (mV Z (bK (oN Z (mV Z (bK (oN Z (GO.neq Z Z Z Z (bK (GO.Jm Z Z Z Z Z ?_))))))))))))))
  refine nL ?_
  rcases iS H with ⟨c178,H⟩ | ⟨c178,H⟩
  ·
   refine yB Z (nF c178) (rN 2 Z ?_)
   obtain rfl:=sI H
   exact rT _ func8 Z Z ⟨Z,(HS.pk 15 [] Z)⟩
  refine nB Z (nT c178) (rN 4 Z ?_)
  obtain ⟨t179,h180,H⟩:=bI H
  refine rG (lW 8 HS Z Dq (mV Z (fJ oO Z (F4.calls HS (ro 5 Z) h180) (fun _ wd181 ⟨h182,HS⟩=>⟨_,h182,(aS Z (nL (rN 3 Z ?_)))⟩))))
  rcases iE H with ⟨c183,H⟩ | ⟨c183,H⟩
  ·
   refine yB Z (tT c183) (rN 2 Z ?_)
   obtain rfl:=sI H
   exact rT _ func8 Z Z ⟨Z,(HS.pk 15 [] Z)⟩
  refine nB Z (tF c183) (rN 2 Z ?_)
  obtain ⟨t184,h185,H⟩:=bI H
  refine rG (pS 2 Z (fJ pI Z (El.calls HS (ro 4 Z) h185) (fun _ wd186 ⟨h187,HS⟩=>⟨_,h187,(aS Z (nL (rN 3 Z ?_)))⟩)))
  rcases iE H with ⟨c188,H⟩ | ⟨c188,H⟩
  ·
   refine yB Z (tT c188) (rN 2 Z ?_)
   obtain rfl:=sI H
   exact rT _ func8 Z Z ⟨Z,(HS.pk 15 [] Z)⟩
  refine nB Z (tF c188) (rN 4 Z ?_)
  rcases iS H with ⟨c189,H⟩ | ⟨c189,H⟩
  ·
   refine yB Z (nF c189) (rN 2 Z ?_)
   obtain rfl:=sI H
   exact rT _ func8 Z Z ⟨Z,(HS.pk 15 [] Z)⟩
  refine nB Z (nT c189) (rN 3 Z ?_)
  obtain rfl:=sI H
  exact rT _ func8 Z Z ⟨Z,(HS.pk 15 [] Z)⟩
end Go.Proofs.YtbjfinndngafoaaGreat
