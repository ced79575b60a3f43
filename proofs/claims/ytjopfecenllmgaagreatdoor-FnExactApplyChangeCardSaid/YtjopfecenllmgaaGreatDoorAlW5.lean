/-
  The walks through the functions: a call comes to what its list function says.
-/
import Derived.Test.YtjopfecenllmgaaGreatDoorAlF
import Derived.Test.YtjopfecenllmgaaGreatDoorAlW1
import Derived.Test.YtjopfecenllmgaaGreatDoorAlW2
import Derived.Test.YtjopfecenllmgaaGreatDoorAlW4
set_option linter.unusedSimpArgs false
set_option linter.unusedVariables false
namespace Go.Proofs.YtjopfecenllmgaaGreatDoor
open Go.RowKit
open Tryz
variable {w0 w:World} {L:List Cn} {K:Nat} {A_a A_b A_c A_d A_e A_f A_g A_h A_i A_j A_k A_l A_m A_n A_o A_p A_q A_r A_s A_t A_u A_v A_w A_x A_y A_z:Option Addr} {c_a c_b c_c c_d c_e c_f c_g c_h c_i c_j c_k c_l c_m c_n c_o c_p c_q c_r c_s c_t c_u c_v c_w c_x c_y c_z:Nat}
set_option maxRecDepth 20000
set_option maxHeartbeats 40000000
theorem Lt.calls {z1:ByteArray} {a2:Int} {h1:List (List Br)} {k1:List Ah} {x1 y1:Int} {a1:List Int} {v1 q1:Int} {n1:List Cc} {i1 d1:List Int} {c2:ByteArray} {b2:Int} {g1:List (List Br)} {f1:List Ah} {u1 p1:Int} {e1:List Int} {t1 s1:Int} {c1:List Cc} {m1 o1:List Int} {y_a:Nat→(Ty.slice 168 Az).Lay} {y_g:Nat→(Ty.slice 168 Az).Lay} {r1:Bool} (HS:St w0 w (L)) (r_a:Av w0 L (Ty.slice 168 Az) A_a c_a y_a h1) (r_b:Av w0 L Au A_b c_b uu k1) (r_c:Av w0 L (Bi .i64) A_c c_c uu a1) (r_d:Av w0 L Ci A_d c_d uu n1) (r_e:Av w0 L (Bi .i64) A_e c_e uu i1) (r_f:Av w0 L (Bi .i64) A_f c_f uu d1) (r_g:Av w0 L (Ty.slice 168 Az) A_g c_g y_g g1) (r_h:Av w0 L Au A_h c_h uu f1) (r_i:Av w0 L (Bi .i64) A_i c_i uu e1) (r_j:Av w0 L Ci A_j c_j uu c1) (r_k:Av w0 L (Bi .i64) A_k c_k uu m1) (r_l:Av w0 L (Bi .i64) A_l c_l uu o1) (H:Lt.f K z1 a2 h1 k1 x1 y1 a1 v1 q1 n1 i1 d1 c2 b2 g1 f1 u1 p1 e1 t1 s1 c1 m1 o1=some r1) :
    Calls prog 35 #[.agg [.string z1,I a2,sV A_a h1 c_a,sV A_b k1 c_b,I x1,I y1,sV A_c a1 c_c,I v1,I q1,sV A_d n1 c_d,sV A_e i1 c_e,sV A_f d1 c_f].toArray,.agg [.string c2,I b2,sV A_g g1 c_g,sV A_h f1 c_h,I u1,I p1,sV A_i e1 c_i,I t1,I s1,sV A_j c1 c_j,sV A_k m1 c_k,sV A_l o1 c_l].toArray] w (Lt.post w0 L r1):=by
  unfold Lt.f at H
  refine cG func35 Z ?_
  refine sQ (rG (bA HS Z fun b1 wd2 HS=>bA HS Z fun b3 wd4 HS=>aS Z (nL (rN 2 Z (rG (fL b1 0 Jz Z (lB 1 HS Z na9 Z (fL b3 0 Jz Z (lB 0 HS Z na9 Z (GO.qW Z Z Z Z (nL ?_)))))))))))
  rcases iS H with ⟨c5,H⟩ | ⟨c5,H⟩
  ·
   refine yB Z (congrArg Bool.not (Bt c5)) (rN 2 Z ?_)
   obtain rfl:=sI H
   exact rT _ func35 Z Z ⟨Z,(HS.pk 2 [] Z)⟩
  refine nB Z (congrArg Bool.not c5) (rN 3 Z (rG (fL b1 1 Lf Z (lB 1 HS Z na2 Z (fL b3 1 Lf Z (lB 0 HS Z na2 Z (GO.neq Z Z Z Z (nL ?_))))))))
  rcases iS H with ⟨c6,H⟩ | ⟨c6,H⟩
  ·
   refine yB Z (nF c6) (rN 2 Z ?_)
   obtain rfl:=sI H
   exact rT _ func35 Z Z ⟨Z,(HS.pk 2 [] Z)⟩
  refine nB Z (nT c6) (rN 3 Z ?_)
  obtain ⟨t7,h8,H⟩:=bI H
  refine rG (fL b1 2 M9 Z (GO.Du (j:=1) ([sV A_a h1 c_a]) HS Z Z Z Z O0 Z (fL b3 2 M9 Z (GO.Du (j:=0) ([sV A_g g1 c_g]) HS Z Z Z Z O0 Z (fJ zS Z (Ir.calls HS (rD 2 r_a) (rD 2 r_g) h8) (fun _ wd9 ⟨h10,HS⟩=>⟨_,h10,(GO.not Z Z Z (nL ?_))⟩))))))
  rcases iS H with ⟨c11,H⟩ | ⟨c11,H⟩
  ·
   refine yB Z (congrArg Bool.not (Bt c11)) (rN 2 Z ?_)
   obtain rfl:=sI H
   exact rT _ func35 Z Z ⟨Z,(HS.pk 2 [] Z)⟩
  refine nB Z (congrArg Bool.not c11) (rN 3 Z ?_)
  obtain ⟨t12,h13,H⟩:=bI H
  refine rG (fL b1 3 Mm Z (GO.Du (j:=1) ([sV A_b k1 c_b,I x1]) HS Z Z Z Z Oe Z (fL b3 3 Mm Z (GO.Du (j:=0) ([sV A_h f1 c_h,I u1]) HS Z Z Z Z Oe Z (fJ Aa4 Z (Lr.calls HS (rD 2 r_b) (rD 2 r_h) h13) (fun _ wd14 ⟨h15,HS⟩=>⟨_,h15,(GO.not Z Z Z (nL ?_))⟩))))))
  rcases iS H with ⟨c16,H⟩ | ⟨c16,H⟩
  ·
   refine yB Z (congrArg Bool.not (Bt c16)) (rN 2 Z ?_)
   obtain rfl:=sI H
   exact rT _ func35 Z Z ⟨Z,(HS.pk 2 [] Z)⟩
  refine nB Z (congrArg Bool.not c16) (rN 3 Z ?_)
  obtain ⟨t17,h18,H⟩:=bI H
  refine rG (fL b1 5 M7 Z (GO.Du (j:=1) ([I y1,sV A_c a1 c_c]) HS Z Z Z Z R9 Z (fL b3 5 M7 Z (GO.Du (j:=0) ([I p1,sV A_i e1 c_i]) HS Z Z Z Z R9 Z (fJ Aad Z (Mx.calls HS (rD 2 r_c) (rD 2 r_i) h18) (fun _ wd19 ⟨h20,HS⟩=>⟨_,h20,(GO.not Z Z Z (nL ?_))⟩))))))
  rcases iS H with ⟨c21,H⟩ | ⟨c21,H⟩
  ·
   refine yB Z (congrArg Bool.not (Bt c21)) (rN 2 Z ?_)
   obtain rfl:=sI H
   exact rT _ func35 Z Z ⟨Z,(HS.pk 2 [] Z)⟩
  refine nB Z (congrArg Bool.not c21) (rN 3 Z ?_)
  obtain ⟨t22,h23,H⟩:=bI H
  refine rG (fL b1 7 Mc Z (GO.Du (j:=1) ([I v1,I q1,sV A_d n1 c_d,sV A_e i1 c_e,sV A_f d1 c_f]) HS Z Z Z Z Rw Z (fL b3 7 Mc Z (GO.Du (j:=0) ([I t1,I s1,sV A_j c1 c_j,sV A_k m1 c_k,sV A_l o1 c_l]) HS Z Z Z Z Rw Z (fJ AaC Z (Jh.calls HS (rD 2 r_d) (rD 2 r_e) (rD 2 r_f) (rD 2 r_j) (rD 2 r_k) (rD 2 r_l) h23) (fun _ wd24 ⟨h25,HS⟩=>⟨_,h25,(GO.not Z Z Z (nL ?_))⟩))))))
  rcases iS H with ⟨c26,H⟩ | ⟨c26,H⟩
  ·
   refine yB Z (congrArg Bool.not (Bt c26)) (rN 2 Z ?_)
   obtain rfl:=sI H
   exact rT _ func35 Z Z ⟨Z,(HS.pk 2 [] Z)⟩
  refine nB Z (congrArg Bool.not c26) (rN 3 Z ?_)
  obtain rfl:=sI H
  exact rT _ func35 Z Z ⟨Z,(HS.pk 2 [] Z)⟩
theorem Gn.calls {a_ b_:List Af} {y_a:Nat→Aa.Lay} {y_b:Nat→Aa.Lay} {r1:Bool} (HS:St w0 w (L)) (r_a:Av w0 L Aa A_a c_a y_a a_) (r_b:Av w0 L Aa A_b c_b y_b b_) (H:Gn.f K a_ b_=some r1) :
    Calls prog 33 #[sV A_a a_ c_a,sV A_b b_ c_b] w (Gn.post w0 L r1):=by
  unfold Gn.f at H
  refine cG func33 Z ?_
  refine rN 4 Z (rG (mV Z (lS Z Z U44 Z (mV Z (lS Z Z U44 Z (GO.neq Z Z Z Z (nL ?_)))))))
  rcases iS H with ⟨c1,H⟩ | ⟨c1,H⟩
  ·
   refine yB Z (nF c1) (rN 2 Z ?_)
   obtain rfl:=sI H
   exact rT _ func33 Z Z ⟨Z,HS⟩
  refine nB Z (nT c1) (rN 6 Z ?_)
  refine G.name (fun g1 e1=>?_)
  have f1:∀ b1,b1≤K→∀ (a1:Int) (w:World),Gn.l1 K b1 a_ b_ a1=some r1→St w0 w (L)→G prog 33 27 [(0,sV A_a a_ c_a),(1,sV A_b b_ c_b),(5,I a1)] g1 w (Gn.post w0 L r1):=by
   refine lp (fun _ w H _=>by rw [Gn.l1] at H; cases H) fun d1 i1 h1 a1 w H HS=>?_
   rw [Gn.l1] at H
   subst e1
   refine rN 2 Z (rG (pS 2 Z (lS Z Z U44 Z (GO.lss Z Z Z Z (nL ?_)))))
   rcases iS H with ⟨c27,H⟩ | ⟨c27,H⟩
   ·
    refine nB Z (tF c27) (rN 3 Z ?_)
    obtain rfl:=sI H
    exact rT _ func33 Z Z ⟨Z,HS⟩
   refine yB Z (tT c27) (rN 4 Z ?_)
   obtain ⟨c28,H⟩:=iN H
   obtain ⟨e29,h30,H⟩:=Cr H
   obtain ⟨c31,H⟩:=iN H
   obtain ⟨e32,h33,H⟩:=Cr H
   obtain ⟨t34,h35,H⟩:=bI H
   refine G.lex mixed [0,1,2,4,5,6,3,7,8,9] (by kernel_rfl) ?_
   replace HS:=HS.drew
   refine GX.ps 2 Z (qL Z Z (fun _ _ g=>iX Z U44 J7 (rk r_a HS) c28 g) Z (GX.ps 2 Z (qL Z Z (fun _ _ g=>iX Z U44 J7 (rk r_b HS) c31 g) Z (GX.l1 Z Z Z (fun _ g=>GO.J4 (T:=Aa) (n:=a1.toNat) HS r_a Z Z (Ba (ltN c28) h30) Mf Z g) Z (GX.l1 Z Z Z (fun _ g=>GO.J4 (T:=Aa) (n:=a1.toNat) HS r_b Z Z (Ba (ltN c31) h33) Mf Z g) Z (GX.l2 Z (fJ uZ Z (Lt.calls HS (Av.fld r_a (Ba (ltN c28) h30) (fun _ h=>h.2.2.1)) (Av.fld r_a (Ba (ltN c28) h30) (fun _ h=>h.2.2.2.1)) (Av.fld r_a (Ba (ltN c28) h30) (fun _ h=>h.2.2.2.2.2.2.1)) (Av.fld r_a (Ba (ltN c28) h30) (fun _ h=>h.2.2.2.2.2.2.2.2.2.1)) (Av.fld r_a (Ba (ltN c28) h30) (fun _ h=>h.2.2.2.2.2.2.2.2.2.2.1)) (Av.fld r_a (Ba (ltN c28) h30) (fun _ h=>h.2.2.2.2.2.2.2.2.2.2.2)) (Av.fld r_b (Ba (ltN c31) h33) (fun _ h=>h.2.2.1)) (Av.fld r_b (Ba (ltN c31) h33) (fun _ h=>h.2.2.2.1)) (Av.fld r_b (Ba (ltN c31) h33) (fun _ h=>h.2.2.2.2.2.2.1)) (Av.fld r_b (Ba (ltN c31) h33) (fun _ h=>h.2.2.2.2.2.2.2.2.2.1)) (Av.fld r_b (Ba (ltN c31) h33) (fun _ h=>h.2.2.2.2.2.2.2.2.2.2.1)) (Av.fld r_b (Ba (ltN c31) h33) (fun _ h=>h.2.2.2.2.2.2.2.2.2.2.2)) h35) (fun _ wd36 ⟨h37,HS⟩=>⟨_,h37,(GX.fin tv (GX.ps 1 Z (GX.nil ?_)))⟩))))))))
   rcases iS H with ⟨c38,H⟩ | ⟨c38,H⟩
   ·
    refine yB Z (congrArg Bool.not (Bt c38)) (rN 2 Z ?_)
    obtain rfl:=sI H
    exact rT _ func33 Z Z ⟨Z,HS⟩
   refine nB Z (congrArg Bool.not c38) (rN 4 Z (gW (h1 d1 (lR _) _ _ H HS) Z))
  exact gW (f1 K (lR _) _ _ H HS) Z
theorem Fz.calls {a_ b_:List (List Af)} {y_a:Nat→(Ty.slice 62 Aa).Lay} {y_b:Nat→(Ty.slice 62 Aa).Lay} {r1:Bool} (HS:St w0 w (L)) (r_a:Av w0 L (Ty.slice 62 Aa) A_a c_a y_a a_) (r_b:Av w0 L (Ty.slice 62 Aa) A_b c_b y_b b_) (H:Fz.f K a_ b_=some r1) :
    Calls prog 34 #[sV A_a a_ c_a,sV A_b b_ c_b] w (Fz.post w0 L r1):=by
  unfold Fz.f at H
  refine cG func34 Z ?_
  refine rN 4 Z (rG (mV Z (lS Z Z U45 Z (mV Z (lS Z Z U45 Z (GO.neq Z Z Z Z (nL ?_)))))))
  rcases iS H with ⟨c1,H⟩ | ⟨c1,H⟩
  ·
   refine yB Z (nF c1) (rN 2 Z ?_)
   obtain rfl:=sI H
   exact rT _ func34 Z Z ⟨Z,HS⟩
  refine nB Z (nT c1) (rN 6 Z ?_)
  refine G.name (fun g1 e1=>?_)
  have f1:∀ b1,b1≤K→∀ (a1:Int) (w:World),Fz.l1 K b1 a_ b_ a1=some r1→St w0 w (L)→G prog 34 27 [(0,sV A_a a_ c_a),(1,sV A_b b_ c_b),(5,I a1)] g1 w (Fz.post w0 L r1):=by
   refine lp (fun _ w H _=>by rw [Fz.l1] at H; cases H) fun d1 i1 h1 a1 w H HS=>?_
   rw [Fz.l1] at H
   subst e1
   refine rN 2 Z (rG (pS 2 Z (lS Z Z U45 Z (GO.lss Z Z Z Z (nL ?_)))))
   rcases iS H with ⟨c19,H⟩ | ⟨c19,H⟩
   ·
    refine nB Z (tF c19) (rN 3 Z ?_)
    obtain rfl:=sI H
    exact rT _ func34 Z Z ⟨Z,HS⟩
   refine yB Z (tT c19) (rN 4 Z ?_)
   obtain ⟨c20,H⟩:=iN H
   obtain ⟨c21,H⟩:=iN H
   obtain ⟨t22,h23,H⟩:=bI H
   refine G.lex mixed [0,1,2,4,5,6,3,7,8,9] (by kernel_rfl) ?_
   replace HS:=HS.drew
   refine GX.ps 2 Z (qL Z Z (fun _ _ g=>iX Z U45 Sm (rk r_a HS) c20 g) Z (GX.ps 2 Z (qL Z Z (fun _ _ g=>iX Z U45 Sm (rk r_b HS) c21 g) Z (GX.l1 Z Z Z (fun _ g=>GO.Gb (T:=(Ty.slice 62 Aa)) (n:=a1.toNat) (o:=0) HS r_a Z Z (getD_some (d:=[]) (ltN c20)) Z Z Mr Z g) Z (GX.l1 Z Z Z (fun _ g=>GO.Gb (T:=(Ty.slice 62 Aa)) (n:=a1.toNat) (o:=0) HS r_b Z Z (getD_some (d:=[]) (ltN c21)) Z Z Mr Z g) Z (GX.l2 Z (fJ uM Z (Gn.calls HS (Av.elem r_a c20.1 c20.2) (Av.elem r_b c21.1 c21.2) h23) (fun _ wd24 ⟨h25,HS⟩=>⟨_,h25,(GX.fin tv (GX.ps 1 Z (GX.nil ?_)))⟩))))))))
   rcases iS H with ⟨c26,H⟩ | ⟨c26,H⟩
   ·
    refine yB Z (congrArg Bool.not (Bt c26)) (rN 2 Z ?_)
    obtain rfl:=sI H
    exact rT _ func34 Z Z ⟨Z,HS⟩
   refine nB Z (congrArg Bool.not c26) (rN 4 Z (gW (h1 d1 (lR _) _ _ H HS) Z))
  exact gW (f1 K (lR _) _ _ H HS) Z
theorem Hr.calls {f1:List Af} {a1 d1:List (List Af)} {g1:List Af} {e1 c1:List (List Af)} {y_a:Nat→Aa.Lay} {y_b:Nat→(Ty.slice 62 Aa).Lay} {y_c:Nat→(Ty.slice 62 Aa).Lay} {y_d:Nat→Aa.Lay} {y_e:Nat→(Ty.slice 62 Aa).Lay} {y_f:Nat→(Ty.slice 62 Aa).Lay} {r1:Bool} (HS:St w0 w (L)) (r_a:Av w0 L Aa A_a c_a y_a f1) (r_b:Av w0 L (Ty.slice 62 Aa) A_b c_b y_b a1) (r_c:Av w0 L (Ty.slice 62 Aa) A_c c_c y_c d1) (r_d:Av w0 L Aa A_d c_d y_d g1) (r_e:Av w0 L (Ty.slice 62 Aa) A_e c_e y_e e1) (r_f:Av w0 L (Ty.slice 62 Aa) A_f c_f y_f c1) (H:Hr.f K f1 a1 d1 g1 e1 c1=some r1) :
    Calls prog 10 #[.agg [sV A_a f1 c_a,sV A_b a1 c_b,sV A_c d1 c_c].toArray,.agg [sV A_d g1 c_d,sV A_e e1 c_e,sV A_f c1 c_f].toArray] w (Hr.post w0 L r1):=by
  unfold Hr.f at H
  refine cG func10 Z ?_
  refine sQ (rG (bA HS Z fun b1 wd2 HS=>bA HS Z fun b3 wd4 HS=>aS Z (nL (rN 2 Z ?_))))
  obtain ⟨t5,h6,H⟩:=bI H
  refine rG (fL b1 0 Ju Z (lB 1 HS Z Mr Z (fL b3 0 Ju Z (lB 0 HS Z Mr Z (fJ uM Z (Gn.calls HS (rD 2 r_a) (rD 2 r_d) h6) (fun _ wd7 ⟨h8,HS⟩=>⟨_,h8,(GO.not Z Z Z (nL ?_))⟩))))))
  rcases iS H with ⟨c9,H⟩ | ⟨c9,H⟩
  ·
   refine yB Z (congrArg Bool.not (Bt c9)) (rN 2 Z ?_)
   obtain rfl:=sI H
   exact rT _ func10 Z Z ⟨Z,(HS.pk 2 [] Z)⟩
  refine nB Z (congrArg Bool.not c9) (rN 3 Z ?_)
  obtain ⟨t10,h11,H⟩:=bI H
  refine rG (fL b1 1 Mq Z (lB 1 HS Z Nr Z (fL b3 1 Mq Z (lB 0 HS Z Nr Z (fJ uB Z (Fz.calls HS (rD 2 r_b) (rD 2 r_e) h11) (fun _ wd12 ⟨h13,HS⟩=>⟨_,h13,(GO.not Z Z Z (nL ?_))⟩))))))
  rcases iS H with ⟨c14,H⟩ | ⟨c14,H⟩
  ·
   refine yB Z (congrArg Bool.not (Bt c14)) (rN 2 Z ?_)
   obtain rfl:=sI H
   exact rT _ func10 Z Z ⟨Z,(HS.pk 2 [] Z)⟩
  refine nB Z (congrArg Bool.not c14) (rN 3 Z ?_)
  obtain ⟨t15,h16,H⟩:=bI H
  refine rG (fL b1 2 O6 Z (lB 1 HS Z Nr Z (fL b3 2 O6 Z (lB 0 HS Z Nr Z (fJ uB Z (Fz.calls HS (rD 2 r_c) (rD 2 r_f) h16) (fun _ wd17 ⟨h18,HS⟩=>⟨_,h18,(GO.not Z Z Z (nL ?_))⟩))))))
  rcases iS H with ⟨c19,H⟩ | ⟨c19,H⟩
  ·
   refine yB Z (congrArg Bool.not (Bt c19)) (rN 2 Z ?_)
   obtain rfl:=sI H
   exact rT _ func10 Z Z ⟨Z,(HS.pk 2 [] Z)⟩
  refine nB Z (congrArg Bool.not c19) (rN 3 Z ?_)
  obtain rfl:=sI H
  exact rT _ func10 Z Z ⟨Z,(HS.pk 2 [] Z)⟩
theorem K9.calls {e2:Int} {d2 q1:ByteArray} {v1:Int} {c1:List (List Br)} {i1:List Ah} {s1 b2:Int} {g1:List Int} {p1 t1:Int} {k1:List Cc} {m1 f1:List Int} {f2:Int} {g2 c2:ByteArray} {z1:Int} {h1:List (List Br)} {d1:List Ah} {a2 x1:Int} {e1:List Int} {u1 y1:Int} {n1:List Cc} {o1 a1:List Int} {y_a:Nat→(Ty.slice 168 Az).Lay} {y_g:Nat→(Ty.slice 168 Az).Lay} {r1:Bool} (HS:St w0 w (L)) (r_a:Av w0 L (Ty.slice 168 Az) A_a c_a y_a c1) (r_b:Av w0 L Au A_b c_b uu i1) (r_c:Av w0 L (Bi .i64) A_c c_c uu g1) (r_d:Av w0 L Ci A_d c_d uu k1) (r_e:Av w0 L (Bi .i64) A_e c_e uu m1) (r_f:Av w0 L (Bi .i64) A_f c_f uu f1) (r_g:Av w0 L (Ty.slice 168 Az) A_g c_g y_g h1) (r_h:Av w0 L Au A_h c_h uu d1) (r_i:Av w0 L (Bi .i64) A_i c_i uu e1) (r_j:Av w0 L Ci A_j c_j uu n1) (r_k:Av w0 L (Bi .i64) A_k c_k uu o1) (r_l:Av w0 L (Bi .i64) A_l c_l uu a1) (H:K9.f K e2 d2 q1 v1 c1 i1 s1 b2 g1 p1 t1 k1 m1 f1 f2 g2 c2 z1 h1 d1 a2 x1 e1 u1 y1 n1 o1 a1=some r1) :
    Calls prog 11 #[.agg [I e2,.string d2,.string q1,I v1,sV A_a c1 c_a,sV A_b i1 c_b,I s1,I b2,sV A_c g1 c_c,I p1,I t1,sV A_d k1 c_d,sV A_e m1 c_e,sV A_f f1 c_f].toArray,.agg [I f2,.string g2,.string c2,I z1,sV A_g h1 c_g,sV A_h d1 c_h,I a2,I x1,sV A_i e1 c_i,I u1,I y1,sV A_j n1 c_j,sV A_k o1 c_k,sV A_l a1 c_l].toArray] w (K9.post w0 L r1):=by
  unfold K9.f at H
  refine cG func11 Z ?_
  refine sQ (rG (bA HS Z fun b1 wd2 HS=>bA HS Z fun b3 wd4 HS=>aS Z (nL (rN 2 Z (rG (fL b1 0 Uj Z (lB 1 HS Z na2 Z (fL b3 0 Uj Z (lB 0 HS Z na2 Z (GO.neq Z Z Z Z (nL ?_)))))))))))
  rcases iS H with ⟨c5,H⟩ | ⟨c5,H⟩
  ·
   refine yB Z (nF c5) (rN 2 Z ?_)
   obtain rfl:=sI H
   exact rT _ func11 Z Z ⟨Z,(HS.pk 2 [] Z)⟩
  refine nB Z (nT c5) (rN 3 Z (rG (fL b1 1 Ow Z (lB 1 HS Z na9 Z (fL b3 1 Ow Z (lB 0 HS Z na9 Z (GO.qW Z Z Z Z (nL ?_))))))))
  rcases iS H with ⟨c6,H⟩ | ⟨c6,H⟩
  ·
   refine yB Z (congrArg Bool.not (Bt c6)) (rN 2 Z ?_)
   obtain rfl:=sI H
   exact rT _ func11 Z Z ⟨Z,(HS.pk 2 [] Z)⟩
  refine nB Z (congrArg Bool.not c6) (rN 3 Z ?_)
  obtain ⟨t7,h8,H⟩:=bI H
  refine rG (fL b1 2 Pv Z (GO.Du (j:=1) ([.string q1,I v1,sV A_a c1 c_a,sV A_b i1 c_b,I s1,I b2,sV A_c g1 c_c,I p1,I t1,sV A_d k1 c_d,sV A_e m1 c_e,sV A_f f1 c_f]) HS Z Z Z Z Mf Z (fL b3 2 Pv Z (GO.Du (j:=0) ([.string c2,I z1,sV A_g h1 c_g,sV A_h d1 c_h,I a2,I x1,sV A_i e1 c_i,I u1,I y1,sV A_j n1 c_j,sV A_k o1 c_k,sV A_l a1 c_l]) HS Z Z Z Z Mf Z (fJ uZ Z (Lt.calls HS (rD 2 r_a) (rD 2 r_b) (rD 2 r_c) (rD 2 r_d) (rD 2 r_e) (rD 2 r_f) (rD 2 r_g) (rD 2 r_h) (rD 2 r_i) (rD 2 r_j) (rD 2 r_k) (rD 2 r_l) h8) (fun _ wd9 ⟨h10,HS⟩=>⟨_,h10,(GO.not Z Z Z (nL ?_))⟩))))))
  rcases iS H with ⟨c11,H⟩ | ⟨c11,H⟩
  ·
   refine yB Z (congrArg Bool.not (Bt c11)) (rN 2 Z ?_)
   obtain rfl:=sI H
   exact rT _ func11 Z Z ⟨Z,(HS.pk 2 [] Z)⟩
  refine nB Z (congrArg Bool.not c11) (rN 3 Z ?_)
  obtain rfl:=sI H
  exact rT _ func11 Z Z ⟨Z,(HS.pk 2 [] Z)⟩
theorem Ex.calls {k_:Int} {r1:ByteArray} (HS:St w0 w (L)) (H:Ex.f K k_=some r1) :
    Calls prog 77 #[I k_] w (Ex.post w0 L r1):=by
  unfold Ex.f at H
  refine cG func77 Z ?_
  refine rN 5 Z ?_
  rcases iE H with ⟨c1,H⟩ | ⟨c1,H⟩
  ·
   refine yB Z (tT c1) (rN 2 Z ?_)
   obtain rfl:=sI H
   exact rT _ func77 Z Z ⟨Z,HS⟩
  refine nB Z (tF c1) (rN 6 Z ?_)
  refine G.name (fun g1 e1=>?_)
  have f1:∀ b1,b1≤K→∀ (k_7:Int) (a1:ByteArray) (w:World),Ex.l1 K b1 k_7 a1=some r1→St w0 w (L)→G prog 77 20 [(0,I k_7),(3,.string a1)] g1 w (Ex.post w0 L r1):=by
   refine lp (fun _ _ w H _=>by rw [Ex.l1] at H; cases H) fun d1 i1 h1 k_7 a1 w H HS=>?_
   rw [Ex.l1] at H
   subst e1
   refine rN 3 Z ?_
   rcases iS H with ⟨c14,H⟩ | ⟨c14,H⟩
   ·
    refine nB Z (tF c14) (rN 2 Z ?_)
    obtain ⟨c18,H⟩:=iN H
    refine rG (mV Z (GO.Yq Z Z Z c18 Z (aS Z (nL ?_))))
    obtain rfl:=sI H
    exact rT _ func77 Z Z ⟨Z,HS⟩
   refine yB Z (tT c14) (rN 3 Z ?_)
   obtain ⟨c17,H⟩:=iN H
   refine rG (mV Z (GO.rem Z Z Z (by decide) Z (GO.add Z Z Z Z (GO.conv Z Z U3 U5 Z (GO.Gr (el:=5) ([.int .u8 (IntKind.wrap .u8 (w64 (48+(k_7.tmod 10))))]) HS Z Z (fun _=>by kernel_rfl) Z fun b15 wd16 HS=>?_)))))
   replace HS:=HS.Le (T:=(Bi .u8)) (j:=0) Z Bw uu ([IntKind.wrap .u8 (w64 (48+(k_7.tmod 10)))]:List Int) Z (Qd Z)
   refine GO.Oj (t:=12) (m:=([IntKind.wrap .u8 (w64 (48+(k_7.tmod 10)))]:List Int).length) (c':=([IntKind.wrap .u8 (w64 (48+(k_7.tmod 10)))]:List Int).length) Z Z Z (GO.bS HS (ro 0 Z) Z Z Aa0 U5 U9 Z (mV Z (GO.Yq Z Z Z c17 Z (aS Z (nL (rG (mV Z (GO.quo Z Z Z (by decide) Z (aS Z (nL (rN 2 Z (gW (h1 d1 (lR _) _ _ _ H (HS.pk 1 [] Z)) Z))))))))))))
  exact gW (f1 K (lR _) _ _ _ H HS) Z
theorem E8.calls {a_:List Br} {k_:Int} {r1:Int} {r2:List Br} (HS:St w0 w (Own Az 168 A_a c_a uu a_::L)) (H:E8.f K a_ k_=some (r1,r2)) :
    Calls prog 133 #[sV A_a a_ c_a,I k_] w (E8.post w0 L A_a c_a r1 r2):=by
  unfold E8.f at H
  refine cG func133 Z ?_
  refine rN 7 Z ?_
  refine G.name (fun g1 e1=>?_)
  have f1:∀ c1,c1≤K→∀ (x10:List Br) (a1 b1:Int) (w:World),E8.l1 K c1 x10 a1 b1=some (r1,r2)→St w0 w (Own Az 168 A_a c_a uu x10::L)→G prog 133 27 [(0,sV A_a x10 c_a),(1,I a1),(5,I b1)] g1 w (E8.post w0 L A_a c_a r1 r2):=by
   refine lp (fun _ _ _ w H _=>by rw [E8.l1] at H; cases H) fun d1 i1 h1 x10 a1 b1 w H HS=>?_
   rw [E8.l1] at H
   subst e1
   refine rN 2 Z (rG (pS 2 Z (lS Z Z P8 Z (GO.lss Z Z Z Z (nL ?_)))))
   rcases iS H with ⟨c22,H⟩ | ⟨c22,H⟩
   ·
    refine nB Z (tF c22) (rN 3 Z ?_)
    obtain ⟨rfl,rfl⟩:=Nq H
    exact rT _ func133 Z Z ⟨Z,HS⟩
   refine yB Z (tT c22) (rN 4 Z ?_)
   obtain ⟨c23,H⟩:=iN H
   obtain ⟨e25,h26,H⟩:=Cr H
   refine rG (pS 3 Z (iX Z P8 Qt (rk (ro 0 Z) HS) c23 (GO.fld (ea A_a (b1.toNat * 2)) Z Z K5 Z Z (GO.N9 (T:=Az) (j:=0) (n:=b1.toNat) (o:=0) (vs:=[I a1]) ({ e25 with Tet:=a1 }) HS Z Bw Z Z Z Z (htN na2 Z) Z (Ba (ltN c23) h26) Z Z fun wd24 HS=>nL (G.len (t:=0) (m:=(x10.set b1.toNat ({ e25 with Tet:=a1 })).length) Z (by simp only [List.length_set] <;> rfl) (rN 3 Z ?_))))))
   obtain ⟨c27,H⟩:=iN H
   obtain ⟨e29,h30,H⟩:=Cr H
   refine rG (pS 3 Z (iX Z P8 Qt (rk (ro 0 Z) HS) c27 (GO.fld (ea A_a (b1.toNat * 2+1)) Z Z Oq (Gw _ _ _) Z (GO.N9 (T:=Az) (j:=0) (n:=b1.toNat) (o:=1) (vs:=[I (w64 (a1+1))]) ({ e29 with Perm:=w64 (a1+1) }) HS Z Bw Z Z Z Z (htN na2 Z) Z (Ba (ltN c27) h30) Z Z fun wd28 HS=>nL (G.len (t:=0) (m:=((x10.set b1.toNat ({ e25 with Tet:=a1 })).set b1.toNat ({ e29 with Perm:=w64 (a1+1) })).length) Z (by simp only [List.length_set] <;> rfl) (rN 4 Z (gW (h1 d1 (lR _) _ _ _ _ H HS) Z)))))))
  exact gW (f1 K (lR _) _ _ _ _ H HS) Z
theorem Fh.calls {a_:List (List Br)} {k_:Int} {y_a:Nat→(Ty.slice 168 Az).Lay} {r1:Int} {r2:List (List Br)} (HS:St w0 w (Own (Ty.slice 168 Az) 161 A_a c_a y_a a_::L)) (H:Fh.f K a_ k_=some (r1,r2)) :
    Calls prog 78 #[sV A_a a_ c_a,I k_] w (Fh.post w0 L A_a c_a y_a r1 r2):=by
  unfold Fh.f at H
  refine cG func78 Z ?_
  refine rN 7 Z ?_
  refine G.name (fun g1 e1=>?_)
  have f1:∀ c1,c1≤K→∀ (x9:List (List Br)) (b1 a1:Int) (w:World),Fh.l1 K c1 x9 b1 a1=some (r1,r2)→St w0 w (Own (Ty.slice 168 Az) 161 A_a c_a y_a x9::L)→G prog 78 19 [(0,sV A_a x9 c_a),(1,I b1),(5,I a1)] g1 w (Fh.post w0 L A_a c_a y_a r1 r2):=by
   refine lp (fun _ _ _ w H _=>by rw [Fh.l1] at H; cases H) fun d1 i1 h1 x9 b1 a1 w H HS=>?_
   rw [Fh.l1] at H
   subst e1
   refine rN 2 Z (rG (pS 2 Z (lS Z Z U51 Z (GO.lss Z Z Z Z (nL ?_)))))
   rcases iS H with ⟨c20,H⟩ | ⟨c20,H⟩
   ·
    refine nB Z (tF c20) (rN 3 Z ?_)
    obtain ⟨rfl,rfl⟩:=Nq H
    exact rT _ func78 Z Z ⟨Z,HS⟩
   refine yB Z (tT c20) (rN 3 Z ?_)
   obtain ⟨c21,H⟩:=iN H
   obtain ⟨t22,t23,h24,H⟩:=Dt H
   obtain ⟨c25,H⟩:=iN H
   refine rG (pS 2 Z (iX Z U51 P7 (rk (ro 0 Z) HS) c21 (GO.Gb (T:=(Ty.slice 168 Az)) (n:=a1.toNat) (o:=0) HS (ro 0 Z) Z Z (getD_some (d:=[]) (ltN c21)) Z Z Qc Z (mV Z ?_))))
   replace HS:=HS.Sy Fld.id (getD_some (d:=[]) (ltN c21))
   refine fJ zD Z (E8.calls HS  h24) (fun _ wd26 ⟨h27,HS⟩=>⟨_,h27,?_⟩)
   replace HS:=St.Qa (y:=t23) Fld.id (getD_some (d:=[]) (ltN c21)) (congrArg (fun m=>([.slice ((y_a a1.toNat).A) m ((y_a a1.toNat).c)]:List Value)) c25) HS
   refine aS Z (nL (G.len (t:=0) (m:=(x9.set a1.toNat t23).length) Z (by simp only [List.length_set,List.length_set] <;> rfl) (rN 3 Z (gW (h1 d1 (lR _) _ _ _ _ H HS) Z))))
  exact gW (f1 K (lR _) _ _ _ _ H HS) Z
theorem C8.calls {a_:List Ah} {k_:Int} {r1:Int} {r2:List Ah} (HS:St w0 w (Own Au 163 A_a c_a uu a_::L)) (H:C8.f K a_ k_=some (r1,r2)) :
    Calls prog 79 #[sV A_a a_ c_a,I k_] w (C8.post w0 L A_a c_a r1 r2):=by
  unfold C8.f at H
  refine cG func79 Z ?_
  refine rN 7 Z ?_
  refine G.name (fun g1 e1=>?_)
  have f1:∀ c1,c1≤K→∀ (x22:List Ah) (a1 b1:Int) (w:World),C8.l1 K c1 x22 a1 b1=some (r1,r2)→St w0 w (Own Au 163 A_a c_a uu x22::L)→G prog 79 48 [(0,sV A_a x22 c_a),(1,I a1),(5,I b1)] g1 w (C8.post w0 L A_a c_a r1 r2):=by
   refine lp (fun _ _ _ w H _=>by rw [C8.l1] at H; cases H) fun d1 i1 h1 x22 a1 b1 w H HS=>?_
   rw [C8.l1] at H
   subst e1
   refine rN 2 Z (rG (pS 2 Z (lS Z Z U54 Z (GO.lss Z Z Z Z (nL ?_)))))
   rcases iS H with ⟨c46,H⟩ | ⟨c46,H⟩
   ·
    refine nB Z (tF c46) (rN 3 Z ?_)
    obtain ⟨rfl,rfl⟩:=Nq H
    exact rT _ func79 Z Z ⟨Z,HS⟩
   refine yB Z (tT c46) (rN 4 Z ?_)
   obtain ⟨c47,H⟩:=iN H
   obtain ⟨e49,h50,H⟩:=Cr H
   refine rG (pS 3 Z (iX Z U54 Oz (rk (ro 0 Z) HS) c47 (GO.fld (ea A_a (b1.toNat * 5)) Z Z Rx Z Z (GO.N9 (T:=Au) (j:=0) (n:=b1.toNat) (o:=0) (vs:=[I a1]) ({ e49 with A:=a1 }) HS Z Bw Z Z Z Z (htN na2 Z) Z (Ba (ltN c47) h50) Z Z fun wd48 HS=>nL (G.len (t:=0) (m:=(x22.set b1.toNat ({ e49 with A:=a1 })).length) Z (by simp only [List.length_set] <;> rfl) (rN 3 Z ?_))))))
   obtain ⟨c51,H⟩:=iN H
   obtain ⟨e53,h54,H⟩:=Cr H
   refine rG (pS 3 Z (iX Z U54 Oz (rk (ro 0 Z) HS) c51 (GO.fld (ea A_a (b1.toNat * 5+1)) Z Z Rv (Gw _ _ _) Z (GO.N9 (T:=Au) (j:=0) (n:=b1.toNat) (o:=1) (vs:=[I (w64 (a1+1))]) ({ e53 with B:=w64 (a1+1) }) HS Z Bw Z Z Z Z (htN na2 Z) Z (Ba (ltN c51) h54) Z Z fun wd52 HS=>nL (G.len (t:=0) (m:=((x22.set b1.toNat ({ e49 with A:=a1 })).set b1.toNat ({ e53 with B:=w64 (a1+1) })).length) Z (by simp only [List.length_set] <;> rfl) (rN 3 Z ?_))))))
   obtain ⟨c55,H⟩:=iN H
   obtain ⟨e57,h58,H⟩:=Cr H
   refine rG (pS 3 Z (iX Z U54 Oz (rk (ro 0 Z) HS) c55 (GO.fld (ea A_a (b1.toNat * 5+2)) Z Z R4 (Gw _ _ _) Z (GO.N9 (T:=Au) (j:=0) (n:=b1.toNat) (o:=2) (vs:=[I (w64 ((w64 (a1+1))+1))]) ({ e57 with C:=w64 ((w64 (a1+1))+1) }) HS Z Bw Z Z Z Z (htN na2 Z) Z (Ba (ltN c55) h58) Z Z fun wd56 HS=>nL (G.len (t:=0) (m:=(((x22.set b1.toNat ({ e49 with A:=a1 })).set b1.toNat ({ e53 with B:=w64 (a1+1) })).set b1.toNat ({ e57 with C:=w64 ((w64 (a1+1))+1) })).length) Z (by simp only [List.length_set] <;> rfl) (rN 3 Z ?_))))))
   obtain ⟨c59,H⟩:=iN H
   obtain ⟨e61,h62,H⟩:=Cr H
   refine rG (pS 3 Z (iX Z U54 Oz (rk (ro 0 Z) HS) c59 (GO.fld (ea A_a (b1.toNat * 5+3)) Z Z Rz (Gw _ _ _) Z (GO.N9 (T:=Au) (j:=0) (n:=b1.toNat) (o:=3) (vs:=[I (w64 ((w64 ((w64 (a1+1))+1))+1))]) ({ e61 with D:=w64 ((w64 ((w64 (a1+1))+1))+1) }) HS Z Bw Z Z Z Z (htN na2 Z) Z (Ba (ltN c59) h62) Z Z fun wd60 HS=>nL (G.len (t:=0) (m:=((((x22.set b1.toNat ({ e49 with A:=a1 })).set b1.toNat ({ e53 with B:=w64 (a1+1) })).set b1.toNat ({ e57 with C:=w64 ((w64 (a1+1))+1) })).set b1.toNat ({ e61 with D:=w64 ((w64 ((w64 (a1+1))+1))+1) })).length) Z (by simp only [List.length_set] <;> rfl) (rN 3 Z ?_))))))
   obtain ⟨c63,H⟩:=iN H
   obtain ⟨e65,h66,H⟩:=Cr H
   refine rG (pS 3 Z (iX Z U54 Oz (rk (ro 0 Z) HS) c63 (GO.fld (ea A_a (b1.toNat * 5+4)) Z Z M0 (Gw _ _ _) Z (GO.N9 (T:=Au) (j:=0) (n:=b1.toNat) (o:=4) (vs:=[I (w64 ((w64 ((w64 ((w64 (a1+1))+1))+1))+1))]) ({ e65 with Sign:=w64 ((w64 ((w64 ((w64 (a1+1))+1))+1))+1) }) HS Z Bw Z Z Z Z (htN na2 Z) Z (Ba (ltN c63) h66) Z Z fun wd64 HS=>nL (G.len (t:=0) (m:=(((((x22.set b1.toNat ({ e49 with A:=a1 })).set b1.toNat ({ e53 with B:=w64 (a1+1) })).set b1.toNat ({ e57 with C:=w64 ((w64 (a1+1))+1) })).set b1.toNat ({ e61 with D:=w64 ((w64 ((w64 (a1+1))+1))+1) })).set b1.toNat ({ e65 with Sign:=w64 ((w64 ((w64 ((w64 (a1+1))+1))+1))+1) })).length) Z (by simp only [List.length_set] <;> rfl) (rN 4 Z (gW (h1 d1 (lR _) _ _ _ _ H HS) Z)))))))
  exact gW (f1 K (lR _) _ _ _ _ H HS) Z
theorem Ct.calls {a_:List Int} {k_:Int} {r1:Int} {r2:List Int} (HS:St w0 w (Own (Bi .i64) 2 A_a c_a uu a_::L)) (H:Ct.f K a_ k_=some (r1,r2)) :
    Calls prog 80 #[sV A_a a_ c_a,I k_] w (Ct.post w0 L A_a c_a r1 r2):=by
  unfold Ct.f at H
  refine cG func80 Z ?_
  refine rN 7 Z ?_
  refine G.name (fun e1 c1=>?_)
  have d1:∀ a1,a1≤K→∀ (x4:List Int) (k_5 i_6:Int) (w:World),Ct.l1 K a1 x4 k_5 i_6=some (r1,r2)→St w0 w (Own (Bi .i64) 2 A_a c_a uu x4::L)→G prog 80 19 [(0,sV A_a x4 c_a),(1,I k_5),(5,I i_6)] e1 w (Ct.post w0 L A_a c_a r1 r2):=by
   refine lp (fun _ _ _ w H _=>by rw [Ct.l1] at H; cases H) fun b1 g1 f1 x4 k_5 i_6 w H HS=>?_
   rw [Ct.l1] at H
   subst c1
   refine rN 2 Z (rG (pS 2 Z (lS Z Z U32 Z (GO.lss Z Z Z Z (nL ?_)))))
   rcases iS H with ⟨c10,H⟩ | ⟨c10,H⟩
   ·
    refine nB Z (tF c10) (rN 3 Z ?_)
    obtain ⟨rfl,rfl⟩:=Nq H
    exact rT _ func80 Z Z ⟨Z,HS⟩
   refine yB Z (tT c10) (rN 4 Z ?_)
   obtain ⟨c11,H⟩:=iN H
   refine rG (pS 3 Z (iX Z U32 sz2 (rk (ro 0 Z) HS) c11 (GO.N9 (T:=(Bi .i64)) (j:=0) (n:=i_6.toNat) (o:=0) (vs:=[I k_5]) k_5 HS Z Bw Z Z Z Z (htN na2 Z) Z (getD_some (d:=0) (ltN c11)) Z Z fun wd12 HS=>nL (G.len (t:=0) (m:=(x4.set i_6.toNat k_5).length) Z (by simp only [List.length_set] <;> rfl) (rN 4 Z (gW (f1 b1 (lR _) _ _ _ _ H HS) Z))))))
  exact gW (d1 K (lR _) _ _ _ _ H HS) Z
theorem Er.calls {a_:List Cc} {k_:Int} {r1:Int} {r2:List Cc} (HS:St w0 w (Own Ci 153 A_a c_a uu a_::L)) (H:Er.f K a_ k_=some (r1,r2)) :
    Calls prog 81 #[sV A_a a_ c_a,I k_] w (Er.post w0 L A_a c_a r1 r2):=by
  unfold Er.f at H
  refine cG func81 Z ?_
  refine rN 7 Z ?_
  refine G.name (fun g1 e1=>?_)
  have f1:∀ c1,c1≤K→∀ (x14:List Cc) (a1 b1:Int) (w:World),Er.l1 K c1 x14 a1 b1=some (r1,r2)→St w0 w (Own Ci 153 A_a c_a uu x14::L)→G prog 81 34 [(0,sV A_a x14 c_a),(1,I a1),(5,I b1)] g1 w (Er.post w0 L A_a c_a r1 r2):=by
   refine lp (fun _ _ _ w H _=>by rw [Er.l1] at H; cases H) fun d1 i1 h1 x14 a1 b1 w H HS=>?_
   rw [Er.l1] at H
   subst e1
   refine rN 2 Z (rG (pS 2 Z (lS Z Z U58 Z (GO.lss Z Z Z Z (nL ?_)))))
   rcases iS H with ⟨c30,H⟩ | ⟨c30,H⟩
   ·
    refine nB Z (tF c30) (rN 3 Z ?_)
    obtain ⟨rfl,rfl⟩:=Nq H
    exact rT _ func81 Z Z ⟨Z,HS⟩
   refine yB Z (tT c30) (rN 4 Z ?_)
   obtain ⟨c31,H⟩:=iN H
   obtain ⟨e33,h34,H⟩:=Cr H
   refine rG (pS 3 Z (iX Z U58 Sr (rk (ro 0 Z) HS) c31 (GO.fld (ea A_a (b1.toNat * 3)) Z Z Ot Z Z (GO.N9 (T:=Ci) (j:=0) (n:=b1.toNat) (o:=0) (vs:=[I a1]) ({ e33 with Kind:=a1 }) HS Z Bw Z Z Z Z (htN na2 Z) Z (Ba (ltN c31) h34) Z Z fun wd32 HS=>nL (G.len (t:=0) (m:=(x14.set b1.toNat ({ e33 with Kind:=a1 })).length) Z (by simp only [List.length_set] <;> rfl) (rN 3 Z ?_))))))
   obtain ⟨c35,H⟩:=iN H
   obtain ⟨e37,h38,H⟩:=Cr H
   refine rG (pS 3 Z (iX Z U58 Sr (rk (ro 0 Z) HS) c35 (GO.fld (ea A_a (b1.toNat * 3+1)) Z Z Pi (Gw _ _ _) Z (GO.N9 (T:=Ci) (j:=0) (n:=b1.toNat) (o:=1) (vs:=[I (w64 (a1+1))]) ({ e37 with Tet:=w64 (a1+1) }) HS Z Bw Z Z Z Z (htN na2 Z) Z (Ba (ltN c35) h38) Z Z fun wd36 HS=>nL (G.len (t:=0) (m:=((x14.set b1.toNat ({ e33 with Kind:=a1 })).set b1.toNat ({ e37 with Tet:=w64 (a1+1) })).length) Z (by simp only [List.length_set] <;> rfl) (rN 3 Z ?_))))))
   obtain ⟨c39,H⟩:=iN H
   obtain ⟨e41,h42,H⟩:=Cr H
   refine rG (pS 3 Z (iX Z U58 Sr (rk (ro 0 Z) HS) c39 (GO.fld (ea A_a (b1.toNat * 3+2)) Z Z Qp (Gw _ _ _) Z (GO.N9 (T:=Ci) (j:=0) (n:=b1.toNat) (o:=2) (vs:=[I (w64 ((w64 (a1+1))+1))]) ({ e41 with Index:=w64 ((w64 (a1+1))+1) }) HS Z Bw Z Z Z Z (htN na2 Z) Z (Ba (ltN c39) h42) Z Z fun wd40 HS=>nL (G.len (t:=0) (m:=(((x14.set b1.toNat ({ e33 with Kind:=a1 })).set b1.toNat ({ e37 with Tet:=w64 (a1+1) })).set b1.toNat ({ e41 with Index:=w64 ((w64 (a1+1))+1) })).length) Z (by simp only [List.length_set] <;> rfl) (rN 4 Z (gW (h1 d1 (lR _) _ _ _ _ H HS) Z)))))))
  exact gW (f1 K (lR _) _ _ _ _ H HS) Z
theorem Dz.calls {a_:List Af} {k_:Int} {y_a:Nat→Aa.Lay} {r1:Int} {r2:List Af} (HS:St w0 w (Own Aa 62 A_a c_a y_a a_::L)) (H:Dz.f K a_ k_=some (r1,r2)) :
    Calls prog 36 #[sV A_a a_ c_a,I k_] w (Dz.post w0 L A_a c_a y_a r1 r2):=by
  unfold Dz.f at H
  refine cG func36 Z ?_
  refine rN 7 Z ?_
  refine G.name (fun g1 e1=>?_)
  have f1:∀ c1,c1≤K→∀ (x84:List Af) (b1 a1:Int) (w:World),Dz.l1 K c1 x84 b1 a1=some (r1,r2)→St w0 w (Own Aa 62 A_a c_a y_a x84::L)→G prog 36 108 [(0,sV A_a x84 c_a),(1,I b1),(5,I a1)] g1 w (Dz.post w0 L A_a c_a y_a r1 r2):=by
   refine lp (fun _ _ _ w H _=>by rw [Dz.l1] at H; cases H) fun d1 i1 h1 x84 b1 a1 w H HS=>?_
   rw [Dz.l1] at H
   subst e1
   refine rN 2 Z (rG (pS 2 Z (lS Z Z U44 Z (GO.lss Z Z Z Z (nL ?_)))))
   rcases iS H with ⟨c170,H⟩ | ⟨c170,H⟩
   ·
    refine nB Z (tF c170) (rN 3 Z ?_)
    obtain ⟨rfl,rfl⟩:=Nq H
    exact rT _ func36 Z Z ⟨Z,HS⟩
   refine yB Z (tT c170) (rN 4 Z ?_)
   obtain ⟨t171,h172,H⟩:=bI H
   obtain ⟨c175,H⟩:=iN H
   obtain ⟨e177,h178,H⟩:=Cr H
   refine rG (pS 3 Z (fJ uQ Z (Ex.calls HS  h172) (fun _ wd173 ⟨h174,HS⟩=>⟨_,h174,(iX Z U44 J7 (rk (ro 0 Z) HS) c175 (GO.fld (ea A_a (a1.toNat * 12)) Z Z Jz Z Z (GO.stK (T:=Aa) (j:=0) (n:=a1.toNat) (o:=0) (x0:=e177) (vs:=[.string t171]) ({ e177 with Name:=t171 }) HS Z (fun _ _ h=>h) Z Z Z Z (htN na9 Z) Z (Ba (ltN c175) h178) Z Z fun wd176 HS=>nL (G.len (t:=0) (m:=(x84.set a1.toNat ({ e177 with Name:=t171 })).length) Z (by simp only [List.length_set] <;> rfl) (rN 3 Z ?_)))))⟩)))
   obtain ⟨c179,H⟩:=iN H
   obtain ⟨e181,h182,H⟩:=Cr H
   refine rG (pS 3 Z (iX Z U44 J7 (rk (ro 0 Z) HS) c179 (GO.fld (ea A_a (a1.toNat * 12+1)) Z Z Lf (Gw _ _ _) Z (GO.stK (T:=Aa) (j:=0) (n:=a1.toNat) (o:=1) (x0:=e181) (vs:=[I (w64 (b1+1))]) ({ e181 with Kind:=w64 (b1+1) }) HS Z (fun _ _ h=>h) Z Z Z Z (htN na2 Z) Z (Ba (ltN c179) h182) Z Z fun wd180 HS=>nL (G.len (t:=0) (m:=((x84.set a1.toNat ({ e177 with Name:=t171 })).set a1.toNat ({ e181 with Kind:=w64 (b1+1) })).length) Z (by simp only [List.length_set] <;> rfl) (rN 3 Z ?_))))))
   obtain ⟨c183,H⟩:=iN H
   obtain ⟨e184,h185,H⟩:=Cr H
   obtain ⟨t186,t187,h188,H⟩:=Dt H
   obtain ⟨c189,H⟩:=iN H
   refine rG (pS 2 Z (iX Z U44 J7 (rk (ro 0 Z) HS) c183 (GO.fld (ea A_a (a1.toNat * 12+2)) Z Z M9 (Gw _ _ _) Z (GO.fld (ea A_a (a1.toNat * 12+2)) Z Z J2 Z Z (GO.Gb (T:=Aa) (n:=a1.toNat) (o:=2) HS (ro 0 Z) Z Z (Ba (ltN c183) h185) Z Z O1 Z (mV Z ?_))))))
   replace HS:=HS.Sy Nj (Ba (ltN c183) h185)
   refine fJ uN Z (Fh.calls HS  h188) (fun _ wd190 ⟨h191,HS⟩=>⟨_,h191,?_⟩)
   replace HS:=St.Qa (y:=t187) Nj (Ba (ltN c183) h185) (congrArg (fun m=>([.string e184.Name,I e184.Kind,.slice (y_a a1.toNat).2.2.1.A m (y_a a1.toNat).2.2.1.c,.slice (y_a a1.toNat).2.2.2.1.A e184.Ae.length (y_a a1.toNat).2.2.2.1.c,I e184.Al,I e184.Ao,.slice (y_a a1.toNat).2.2.2.2.2.2.1.A e184.Ay.length (y_a a1.toNat).2.2.2.2.2.2.1.c,I e184.Am,I e184.Aj,.slice (y_a a1.toNat).2.2.2.2.2.2.2.2.2.1.A e184.Ag.length (y_a a1.toNat).2.2.2.2.2.2.2.2.2.1.c,.slice (y_a a1.toNat).2.2.2.2.2.2.2.2.2.2.1.A e184.Ak.length (y_a a1.toNat).2.2.2.2.2.2.2.2.2.2.1.c,.slice (y_a a1.toNat).2.2.2.2.2.2.2.2.2.2.2.A e184.Ai.length (y_a a1.toNat).2.2.2.2.2.2.2.2.2.2.2.c]:List Value)) c189) HS
   refine aS Z (nL (G.len (t:=0) (m:=(((x84.set a1.toNat ({ e177 with Name:=t171 })).set a1.toNat ({ e181 with Kind:=w64 (b1+1) })).set a1.toNat { e184 with Ad:=t187 }).length) Z (by simp only [List.length_set,List.length_set] <;> rfl) (sQ ?_)))
   obtain ⟨c192,H⟩:=iN H
   obtain ⟨e193,h194,H⟩:=Cr H
   obtain ⟨t195,t196,h197,H⟩:=Dt H
   obtain ⟨c198,H⟩:=iN H
   refine rG (pS 2 Z (iX Z U44 J7 (rk (ro 0 Z) HS) c192 (GO.fld (ea A_a (a1.toNat * 12+3)) Z Z Mm (Gw _ _ _) Z (GO.fld (ea A_a (a1.toNat * 12+3)) Z Z Jr Z Z (GO.Gb (T:=Aa) (n:=a1.toNat) (o:=3) HS (ro 0 Z) Z Z (Ba (ltN c192) h194) Z Z Ol Z (mV Z ?_))))))
   replace HS:=HS.Sy Nu (Ba (ltN c192) h194)
   refine fJ tV Z (C8.calls HS  h197) (fun _ wd199 ⟨h200,HS⟩=>⟨_,h200,?_⟩)
   replace HS:=St.Qa (y:=t196) Nu (Ba (ltN c192) h194) (congrArg (fun m=>([.string e193.Name,I e193.Kind,.slice (y_a a1.toNat).2.2.1.A e193.Ad.length (y_a a1.toNat).2.2.1.c,.slice (y_a a1.toNat).2.2.2.1.A m (y_a a1.toNat).2.2.2.1.c,I e193.Al,I e193.Ao,.slice (y_a a1.toNat).2.2.2.2.2.2.1.A e193.Ay.length (y_a a1.toNat).2.2.2.2.2.2.1.c,I e193.Am,I e193.Aj,.slice (y_a a1.toNat).2.2.2.2.2.2.2.2.2.1.A e193.Ag.length (y_a a1.toNat).2.2.2.2.2.2.2.2.2.1.c,.slice (y_a a1.toNat).2.2.2.2.2.2.2.2.2.2.1.A e193.Ak.length (y_a a1.toNat).2.2.2.2.2.2.2.2.2.2.1.c,.slice (y_a a1.toNat).2.2.2.2.2.2.2.2.2.2.2.A e193.Ai.length (y_a a1.toNat).2.2.2.2.2.2.2.2.2.2.2.c]:List Value)) c198) HS
   refine aS Z (nL (G.len (t:=0) (m:=((((x84.set a1.toNat ({ e177 with Name:=t171 })).set a1.toNat ({ e181 with Kind:=w64 (b1+1) })).set a1.toNat { e184 with Ad:=t187 }).set a1.toNat { e193 with Ae:=t196 }).length) Z (by simp only [List.length_set,List.length_set] <;> rfl) (sQ ?_)))
   obtain ⟨c201,H⟩:=iN H
   obtain ⟨e203,h204,H⟩:=Cr H
   refine rG (pS 3 Z (iX Z U44 J7 (rk (ro 0 Z) HS) c201 (GO.fld (ea A_a (a1.toNat * 12+3)) Z Z Mm (Gw _ _ _) Z (GO.fld (ea A_a (a1.toNat * 12+4)) Z Z Qi (by rw [Gw,Nat.add_assoc]) Z (GO.stK (T:=Aa) (j:=0) (n:=a1.toNat) (o:=4) (x0:=e203) (vs:=[I t195]) ({ e203 with Al:=t195 }) HS Z (fun _ _ h=>h) Z Z Z Z (htN na2 Z) Z (Ba (ltN c201) h204) Z Z fun wd202 HS=>nL (G.len (t:=0) (m:=(((((x84.set a1.toNat ({ e177 with Name:=t171 })).set a1.toNat ({ e181 with Kind:=w64 (b1+1) })).set a1.toNat { e184 with Ad:=t187 }).set a1.toNat { e193 with Ae:=t196 }).set a1.toNat ({ e203 with Al:=t195 })).length) Z (by simp only [List.length_set] <;> rfl) (rN 3 Z ?_)))))))
   obtain ⟨c205,H⟩:=iN H
   obtain ⟨e207,h208,H⟩:=Cr H
   refine rG (pS 3 Z (iX Z U44 J7 (rk (ro 0 Z) HS) c205 (GO.fld (ea A_a (a1.toNat * 12+5)) Z Z M7 (Gw _ _ _) Z (GO.fld (ea A_a (a1.toNat * 12+5)) Z Z Ou Z Z (GO.stK (T:=Aa) (j:=0) (n:=a1.toNat) (o:=5) (x0:=e207) (vs:=[I (w64 (t195+1))]) ({ e207 with Ao:=w64 (t195+1) }) HS Z (fun _ _ h=>h) Z Z Z Z (htN na2 Z) Z (Ba (ltN c205) h208) Z Z fun wd206 HS=>nL (G.len (t:=0) (m:=((((((x84.set a1.toNat ({ e177 with Name:=t171 })).set a1.toNat ({ e181 with Kind:=w64 (b1+1) })).set a1.toNat { e184 with Ad:=t187 }).set a1.toNat { e193 with Ae:=t196 }).set a1.toNat ({ e203 with Al:=t195 })).set a1.toNat ({ e207 with Ao:=w64 (t195+1) })).length) Z (by simp only [List.length_set] <;> rfl) (rN 3 Z ?_)))))))
   obtain ⟨c209,H⟩:=iN H
   obtain ⟨e210,h211,H⟩:=Cr H
   obtain ⟨t212,t213,h214,H⟩:=Dt H
   obtain ⟨c215,H⟩:=iN H
   refine rG (pS 2 Z (iX Z U44 J7 (rk (ro 0 Z) HS) c209 (GO.fld (ea A_a (a1.toNat * 12+5)) Z Z M7 (Gw _ _ _) Z (GO.fld (ea A_a (a1.toNat * 12+6)) Z Z Oi (by rw [Gw,Nat.add_assoc]) Z (GO.Gb (T:=Aa) (n:=a1.toNat) (o:=6) HS (ro 0 Z) Z Z (Ba (ltN c209) h211) Z Z Jb Z (mV Z ?_))))))
   replace HS:=HS.Sy Pn (Ba (ltN c209) h211)
   refine fJ Zr Z (Ct.calls HS  h214) (fun _ wd216 ⟨h217,HS⟩=>⟨_,h217,?_⟩)
   replace HS:=St.Qa (y:=t213) Pn (Ba (ltN c209) h211) (congrArg (fun m=>([.string e210.Name,I e210.Kind,.slice (y_a a1.toNat).2.2.1.A e210.Ad.length (y_a a1.toNat).2.2.1.c,.slice (y_a a1.toNat).2.2.2.1.A e210.Ae.length (y_a a1.toNat).2.2.2.1.c,I e210.Al,I e210.Ao,.slice (y_a a1.toNat).2.2.2.2.2.2.1.A m (y_a a1.toNat).2.2.2.2.2.2.1.c,I e210.Am,I e210.Aj,.slice (y_a a1.toNat).2.2.2.2.2.2.2.2.2.1.A e210.Ag.length (y_a a1.toNat).2.2.2.2.2.2.2.2.2.1.c,.slice (y_a a1.toNat).2.2.2.2.2.2.2.2.2.2.1.A e210.Ak.length (y_a a1.toNat).2.2.2.2.2.2.2.2.2.2.1.c,.slice (y_a a1.toNat).2.2.2.2.2.2.2.2.2.2.2.A e210.Ai.length (y_a a1.toNat).2.2.2.2.2.2.2.2.2.2.2.c]:List Value)) c215) HS
   refine aS Z (nL (G.len (t:=0) (m:=(((((((x84.set a1.toNat ({ e177 with Name:=t171 })).set a1.toNat ({ e181 with Kind:=w64 (b1+1) })).set a1.toNat { e184 with Ad:=t187 }).set a1.toNat { e193 with Ae:=t196 }).set a1.toNat ({ e203 with Al:=t195 })).set a1.toNat ({ e207 with Ao:=w64 (t195+1) })).set a1.toNat { e210 with Ay:=t213 }).length) Z (by simp only [List.length_set,List.length_set] <;> rfl) (sQ ?_)))
   obtain ⟨c218,H⟩:=iN H
   obtain ⟨e220,h221,H⟩:=Cr H
   refine rG (pS 3 Z (iX Z U44 J7 (rk (ro 0 Z) HS) c218 (GO.fld (ea A_a (a1.toNat * 12+7)) Z Z Mc (Gw _ _ _) Z (GO.fld (ea A_a (a1.toNat * 12+7)) Z Z Nz Z Z (GO.stK (T:=Aa) (j:=0) (n:=a1.toNat) (o:=7) (x0:=e220) (vs:=[I t212]) ({ e220 with Am:=t212 }) HS Z (fun _ _ h=>h) Z Z Z Z (htN na2 Z) Z (Ba (ltN c218) h221) Z Z fun wd219 HS=>nL (G.len (t:=0) (m:=((((((((x84.set a1.toNat ({ e177 with Name:=t171 })).set a1.toNat ({ e181 with Kind:=w64 (b1+1) })).set a1.toNat { e184 with Ad:=t187 }).set a1.toNat { e193 with Ae:=t196 }).set a1.toNat ({ e203 with Al:=t195 })).set a1.toNat ({ e207 with Ao:=w64 (t195+1) })).set a1.toNat { e210 with Ay:=t213 }).set a1.toNat ({ e220 with Am:=t212 })).length) Z (by simp only [List.length_set] <;> rfl) (rN 3 Z ?_)))))))
   obtain ⟨c222,H⟩:=iN H
   obtain ⟨e224,h225,H⟩:=Cr H
   refine rG (pS 3 Z (iX Z U44 J7 (rk (ro 0 Z) HS) c222 (GO.fld (ea A_a (a1.toNat * 12+7)) Z Z Mc (Gw _ _ _) Z (GO.fld (ea A_a (a1.toNat * 12+8)) Z Z N7 (by rw [Gw,Nat.add_assoc]) Z (GO.stK (T:=Aa) (j:=0) (n:=a1.toNat) (o:=8) (x0:=e224) (vs:=[I (w64 (t212+1))]) ({ e224 with Aj:=w64 (t212+1) }) HS Z (fun _ _ h=>h) Z Z Z Z (htN na2 Z) Z (Ba (ltN c222) h225) Z Z fun wd223 HS=>nL (G.len (t:=0) (m:=(((((((((x84.set a1.toNat ({ e177 with Name:=t171 })).set a1.toNat ({ e181 with Kind:=w64 (b1+1) })).set a1.toNat { e184 with Ad:=t187 }).set a1.toNat { e193 with Ae:=t196 }).set a1.toNat ({ e203 with Al:=t195 })).set a1.toNat ({ e207 with Ao:=w64 (t195+1) })).set a1.toNat { e210 with Ay:=t213 }).set a1.toNat ({ e220 with Am:=t212 })).set a1.toNat ({ e224 with Aj:=w64 (t212+1) })).length) Z (by simp only [List.length_set] <;> rfl) (rN 3 Z ?_)))))))
   obtain ⟨c226,H⟩:=iN H
   obtain ⟨e227,h228,H⟩:=Cr H
   obtain ⟨t229,t230,h231,H⟩:=Dt H
   obtain ⟨c232,H⟩:=iN H
   refine rG (pS 2 Z (iX Z U44 J7 (rk (ro 0 Z) HS) c226 (GO.fld (ea A_a (a1.toNat * 12+7)) Z Z Mc (Gw _ _ _) Z (GO.fld (ea A_a (a1.toNat * 12+9)) Z Z Jp (by rw [Gw,Nat.add_assoc]) Z (GO.Gb (T:=Aa) (n:=a1.toNat) (o:=9) HS (ro 0 Z) Z Z (Ba (ltN c226) h228) Z Z Om Z (mV Z ?_))))))
   replace HS:=HS.Sy Nt (Ba (ltN c226) h228)
   refine fJ uL Z (Er.calls HS  h231) (fun _ wd233 ⟨h234,HS⟩=>⟨_,h234,?_⟩)
   replace HS:=St.Qa (y:=t230) Nt (Ba (ltN c226) h228) (congrArg (fun m=>([.string e227.Name,I e227.Kind,.slice (y_a a1.toNat).2.2.1.A e227.Ad.length (y_a a1.toNat).2.2.1.c,.slice (y_a a1.toNat).2.2.2.1.A e227.Ae.length (y_a a1.toNat).2.2.2.1.c,I e227.Al,I e227.Ao,.slice (y_a a1.toNat).2.2.2.2.2.2.1.A e227.Ay.length (y_a a1.toNat).2.2.2.2.2.2.1.c,I e227.Am,I e227.Aj,.slice (y_a a1.toNat).2.2.2.2.2.2.2.2.2.1.A m (y_a a1.toNat).2.2.2.2.2.2.2.2.2.1.c,.slice (y_a a1.toNat).2.2.2.2.2.2.2.2.2.2.1.A e227.Ak.length (y_a a1.toNat).2.2.2.2.2.2.2.2.2.2.1.c,.slice (y_a a1.toNat).2.2.2.2.2.2.2.2.2.2.2.A e227.Ai.length (y_a a1.toNat).2.2.2.2.2.2.2.2.2.2.2.c]:List Value)) c232) HS
   refine aS Z (nL (G.len (t:=0) (m:=((((((((((x84.set a1.toNat ({ e177 with Name:=t171 })).set a1.toNat ({ e181 with Kind:=w64 (b1+1) })).set a1.toNat { e184 with Ad:=t187 }).set a1.toNat { e193 with Ae:=t196 }).set a1.toNat ({ e203 with Al:=t195 })).set a1.toNat ({ e207 with Ao:=w64 (t195+1) })).set a1.toNat { e210 with Ay:=t213 }).set a1.toNat ({ e220 with Am:=t212 })).set a1.toNat ({ e224 with Aj:=w64 (t212+1) })).set a1.toNat { e227 with Ag:=t230 }).length) Z (by simp only [List.length_set,List.length_set] <;> rfl) (sQ ?_)))
   obtain ⟨c235,H⟩:=iN H
   obtain ⟨e236,h237,H⟩:=Cr H
   obtain ⟨t238,t239,h240,H⟩:=Dt H
   obtain ⟨c241,H⟩:=iN H
   refine rG (pS 2 Z (iX Z U44 J7 (rk (ro 0 Z) HS) c235 (GO.fld (ea A_a (a1.toNat * 12+7)) Z Z Mc (Gw _ _ _) Z (GO.fld (ea A_a (a1.toNat * 12+10)) Z Z Kb (by rw [Gw,Nat.add_assoc]) Z (GO.Gb (T:=Aa) (n:=a1.toNat) (o:=10) HS (ro 0 Z) Z Z (Ba (ltN c235) h237) Z Z Jb Z (mV Z ?_))))))
   replace HS:=HS.Sy Oc (Ba (ltN c235) h237)
   refine fJ Zr Z (Ct.calls HS  h240) (fun _ wd242 ⟨h243,HS⟩=>⟨_,h243,?_⟩)
   replace HS:=St.Qa (y:=t239) Oc (Ba (ltN c235) h237) (congrArg (fun m=>([.string e236.Name,I e236.Kind,.slice (y_a a1.toNat).2.2.1.A e236.Ad.length (y_a a1.toNat).2.2.1.c,.slice (y_a a1.toNat).2.2.2.1.A e236.Ae.length (y_a a1.toNat).2.2.2.1.c,I e236.Al,I e236.Ao,.slice (y_a a1.toNat).2.2.2.2.2.2.1.A e236.Ay.length (y_a a1.toNat).2.2.2.2.2.2.1.c,I e236.Am,I e236.Aj,.slice (y_a a1.toNat).2.2.2.2.2.2.2.2.2.1.A e236.Ag.length (y_a a1.toNat).2.2.2.2.2.2.2.2.2.1.c,.slice (y_a a1.toNat).2.2.2.2.2.2.2.2.2.2.1.A m (y_a a1.toNat).2.2.2.2.2.2.2.2.2.2.1.c,.slice (y_a a1.toNat).2.2.2.2.2.2.2.2.2.2.2.A e236.Ai.length (y_a a1.toNat).2.2.2.2.2.2.2.2.2.2.2.c]:List Value)) c241) HS
   refine aS Z (nL (G.len (t:=0) (m:=(((((((((((x84.set a1.toNat ({ e177 with Name:=t171 })).set a1.toNat ({ e181 with Kind:=w64 (b1+1) })).set a1.toNat { e184 with Ad:=t187 }).set a1.toNat { e193 with Ae:=t196 }).set a1.toNat ({ e203 with Al:=t195 })).set a1.toNat ({ e207 with Ao:=w64 (t195+1) })).set a1.toNat { e210 with Ay:=t213 }).set a1.toNat ({ e220 with Am:=t212 })).set a1.toNat ({ e224 with Aj:=w64 (t212+1) })).set a1.toNat { e227 with Ag:=t230 }).set a1.toNat { e236 with Ak:=t239 }).length) Z (by simp only [List.length_set,List.length_set] <;> rfl) ?_))
   obtain ⟨c244,H⟩:=iN H
   obtain ⟨e245,h246,H⟩:=Cr H
   obtain ⟨t247,t248,h249,H⟩:=Dt H
   obtain ⟨c250,H⟩:=iN H
   refine rG (pS 2 Z (iX Z U44 J7 (rk (ro 0 Z) HS) c244 (GO.fld (ea A_a (a1.toNat * 12+7)) Z Z Mc (Gw _ _ _) Z (GO.fld (ea A_a (a1.toNat * 12+11)) Z Z M6 (by rw [Gw,Nat.add_assoc]) Z (GO.Gb (T:=Aa) (n:=a1.toNat) (o:=11) HS (ro 0 Z) Z Z (Ba (ltN c244) h246) Z Z Jb Z (mV Z ?_))))))
   replace HS:=HS.Sy Ns (Ba (ltN c244) h246)
   refine fJ Zr Z (Ct.calls HS  h249) (fun _ wd251 ⟨h252,HS⟩=>⟨_,h252,?_⟩)
   replace HS:=St.Qa (y:=t248) Ns (Ba (ltN c244) h246) (congrArg (fun m=>([.string e245.Name,I e245.Kind,.slice (y_a a1.toNat).2.2.1.A e245.Ad.length (y_a a1.toNat).2.2.1.c,.slice (y_a a1.toNat).2.2.2.1.A e245.Ae.length (y_a a1.toNat).2.2.2.1.c,I e245.Al,I e245.Ao,.slice (y_a a1.toNat).2.2.2.2.2.2.1.A e245.Ay.length (y_a a1.toNat).2.2.2.2.2.2.1.c,I e245.Am,I e245.Aj,.slice (y_a a1.toNat).2.2.2.2.2.2.2.2.2.1.A e245.Ag.length (y_a a1.toNat).2.2.2.2.2.2.2.2.2.1.c,.slice (y_a a1.toNat).2.2.2.2.2.2.2.2.2.2.1.A e245.Ak.length (y_a a1.toNat).2.2.2.2.2.2.2.2.2.2.1.c,.slice (y_a a1.toNat).2.2.2.2.2.2.2.2.2.2.2.A m (y_a a1.toNat).2.2.2.2.2.2.2.2.2.2.2.c]:List Value)) c250) HS
   refine aS Z (nL (G.len (t:=0) (m:=((((((((((((x84.set a1.toNat ({ e177 with Name:=t171 })).set a1.toNat ({ e181 with Kind:=w64 (b1+1) })).set a1.toNat { e184 with Ad:=t187 }).set a1.toNat { e193 with Ae:=t196 }).set a1.toNat ({ e203 with Al:=t195 })).set a1.toNat ({ e207 with Ao:=w64 (t195+1) })).set a1.toNat { e210 with Ay:=t213 }).set a1.toNat ({ e220 with Am:=t212 })).set a1.toNat ({ e224 with Aj:=w64 (t212+1) })).set a1.toNat { e227 with Ag:=t230 }).set a1.toNat { e236 with Ak:=t239 }).set a1.toNat { e245 with Ai:=t248 }).length) Z (by simp only [List.length_set,List.length_set] <;> rfl) (rN 3 Z (gW (h1 d1 (lR _) _ _ _ _ H HS) Z))))
  exact gW (f1 K (lR _) _ _ _ _ H HS) Z
theorem Fp.calls {a_:List (List Af)} {k_:Int} {y_a:Nat→(Ty.slice 62 Aa).Lay} {r1:Int} {r2:List (List Af)} (HS:St w0 w (Own (Ty.slice 62 Aa) 44 A_a c_a y_a a_::L)) (H:Fp.f K a_ k_=some (r1,r2)) :
    Calls prog 37 #[sV A_a a_ c_a,I k_] w (Fp.post w0 L A_a c_a y_a r1 r2):=by
  unfold Fp.f at H
  refine cG func37 Z ?_
  refine rN 7 Z ?_
  refine G.name (fun g1 e1=>?_)
  have f1:∀ c1,c1≤K→∀ (x9:List (List Af)) (b1 a1:Int) (w:World),Fp.l1 K c1 x9 b1 a1=some (r1,r2)→St w0 w (Own (Ty.slice 62 Aa) 44 A_a c_a y_a x9::L)→G prog 37 19 [(0,sV A_a x9 c_a),(1,I b1),(5,I a1)] g1 w (Fp.post w0 L A_a c_a y_a r1 r2):=by
   refine lp (fun _ _ _ w H _=>by rw [Fp.l1] at H; cases H) fun d1 i1 h1 x9 b1 a1 w H HS=>?_
   rw [Fp.l1] at H
   subst e1
   refine rN 2 Z (rG (pS 2 Z (lS Z Z U45 Z (GO.lss Z Z Z Z (nL ?_)))))
   rcases iS H with ⟨c20,H⟩ | ⟨c20,H⟩
   ·
    refine nB Z (tF c20) (rN 3 Z ?_)
    obtain ⟨rfl,rfl⟩:=Nq H
    exact rT _ func37 Z Z ⟨Z,HS⟩
   refine yB Z (tT c20) (rN 3 Z ?_)
   obtain ⟨c21,H⟩:=iN H
   obtain ⟨t22,t23,h24,H⟩:=Dt H
   obtain ⟨c25,H⟩:=iN H
   refine rG (pS 2 Z (iX Z U45 Sm (rk (ro 0 Z) HS) c21 (GO.Gb (T:=(Ty.slice 62 Aa)) (n:=a1.toNat) (o:=0) HS (ro 0 Z) Z Z (getD_some (d:=[]) (ltN c21)) Z Z Mr Z (mV Z ?_))))
   replace HS:=HS.Sy Fld.id (getD_some (d:=[]) (ltN c21))
   refine fJ uS Z (Dz.calls HS  h24) (fun _ wd26 ⟨h27,HS⟩=>⟨_,h27,?_⟩)
   replace HS:=St.Qa (y:=t23) Fld.id (getD_some (d:=[]) (ltN c21)) (congrArg (fun m=>([.slice ((y_a a1.toNat).A) m ((y_a a1.toNat).c)]:List Value)) c25) HS
   refine aS Z (nL (G.len (t:=0) (m:=(x9.set a1.toNat t23).length) Z (by simp only [List.length_set,List.length_set] <;> rfl) (rN 3 Z (gW (h1 d1 (lR _) _ _ _ _ H HS) Z))))
  exact gW (f1 K (lR _) _ _ _ _ H HS) Z
theorem J3.calls {d1:List Af} {c1 a1:List (List Af)} {k_:Int} {y_a:Nat→Aa.Lay} {y_b:Nat→(Ty.slice 62 Aa).Lay} {y_c:Nat→(Ty.slice 62 Aa).Lay} {r1:Int} {r2:List Af} {r3 r4:List (List Af)} (HS:St w0 w (Own Aa 62 A_a c_a y_a d1::Own (Ty.slice 62 Aa) 44 A_b c_b y_b c1::Own (Ty.slice 62 Aa) 44 A_c c_c y_c a1::L)) (H:J3.f K d1 c1 a1 k_=some (r1,r2,r3,r4)) :
    Calls prog 12 #[.agg [sV A_a d1 c_a,sV A_b c1 c_b,sV A_c a1 c_c].toArray,I k_] w (J3.post w0 L A_a c_a y_a A_b c_b y_b A_c c_c y_c r1 r2 r3 r4):=by
  unfold J3.f at H
  refine cG func12 Z ?_
  refine sQ (rG (bA HS Z fun b1 wd2 HS=>aS Z (nL (sQ ?_))))
  obtain ⟨t3,t4,h5,H⟩:=Dt H
  obtain ⟨c6,H⟩:=iN H
  refine rG (fL b1 0 Ju Z (lB 0 HS Z Mr Z (mV Z ?_)))
  replace HS:=HS.pk 4 [1,0,2,3] Z
  refine fJ uS Z (Dz.calls HS  h5) (fun _ wd7 ⟨h8,HS⟩=>⟨_,h8,(aS Z (nL ?_))⟩)
  replace HS:=HS.Li (j:=1) (cs':=[sV A_a t4 c_a,sV A_b c1 c_b,sV A_c a1 c_c]) Z (by simp only [sV,List.length_set,c6] <;> rfl)
  refine sQ ?_
  obtain ⟨t9,t10,h11,H⟩:=Dt H
  obtain ⟨c12,H⟩:=iN H
  refine rG (fL b1 1 Mq Z (lB 1 HS Z Nr Z (mV Z ?_)))
  replace HS:=HS.pk 4 [2,0,1,3] Z
  refine fJ tL Z (Fp.calls HS  h11) (fun _ wd13 ⟨h14,HS⟩=>⟨_,h14,(aS Z (nL ?_))⟩)
  replace HS:=HS.Li (j:=2) (cs':=[sV A_a t4 c_a,sV A_b t10 c_b,sV A_c a1 c_c]) Z (by simp only [sV,List.length_set,c12] <;> rfl)
  refine sQ ?_
  obtain ⟨t15,t16,h17,H⟩:=Dt H
  obtain ⟨c18,H⟩:=iN H
  refine rG (fL b1 2 O6 Z (lB 2 HS Z Nr Z (mV Z ?_)))
  replace HS:=HS.pk 4 [3,0,1,2] Z
  refine fJ tL Z (Fp.calls HS  h17) (fun _ wd19 ⟨h20,HS⟩=>⟨_,h20,(aS Z (nL ?_))⟩)
  replace HS:=HS.Li (j:=3) (cs':=[sV A_a t4 c_a,sV A_b t10 c_b,sV A_c t16 c_c]) Z (by simp only [sV,List.length_set,c18] <;> rfl)
  refine rN 2 Z ?_
  obtain ⟨rfl,rfl,rfl,rfl⟩:=Kc H
  exact rT _ func12 Z Z ⟨Z,(HS.pk 4 [2,1,0] Z)⟩
theorem Hq.calls {a1:List (List Br)} {k_:Int} {y_a:Nat→(Ty.slice 168 Az).Lay} {r1:Int} {r2:List (List Br)} (HS:St w0 w (Own (Ty.slice 168 Az) 161 A_a c_a y_a a1::L)) (H:Hq.f K a1 k_=some (r1,r2)) :
    Calls prog 82 #[.agg [sV A_a a1 c_a].toArray,I k_] w (Hq.post w0 L A_a c_a y_a r1 r2):=by
  unfold Hq.f at H
  refine cG func82 Z ?_
  refine sQ (rG (bA HS Z fun b1 wd2 HS=>aS Z (nL (sQ ?_))))
  obtain ⟨t3,t4,h5,H⟩:=Dt H
  obtain ⟨c6,H⟩:=iN H
  refine rG (fL b1 0 J2 Z (lB 0 HS Z O1 Z (mV Z ?_)))
  replace HS:=HS.pk 2 [1,0] Z
  refine fJ uN Z (Fh.calls HS  h5) (fun _ wd7 ⟨h8,HS⟩=>⟨_,h8,(aS Z (nL ?_))⟩)
  replace HS:=HS.Li (j:=1) (cs':=[sV A_a t4 c_a]) Z (by simp only [sV,List.length_set,c6] <;> rfl)
  refine rN 2 Z ?_
  obtain ⟨rfl,rfl⟩:=Nq H
  exact rT _ func82 Z Z ⟨Z,(HS.pk 2 [0] Z)⟩
theorem Kj.calls {a1:List Ah} {c1 k_:Int} {r1:Int} {r2:List Ah} (HS:St w0 w (Own Au 163 A_a c_a uu a1::L)) (H:Kj.f K a1 c1 k_=some (r1,r2)) :
    Calls prog 83 #[.agg [sV A_a a1 c_a,I c1].toArray,I k_] w (Kj.post w0 L A_a c_a r1 r2):=by
  unfold Kj.f at H
  refine cG func83 Z ?_
  refine sQ (rG (bA HS Z fun b1 wd2 HS=>aS Z (nL (sQ ?_))))
  obtain ⟨t3,t4,h5,H⟩:=Dt H
  obtain ⟨c6,H⟩:=iN H
  refine rG (fL b1 0 Jr Z (lB 0 HS Z Ol Z (mV Z ?_)))
  replace HS:=HS.pk 2 [1,0] Z
  refine fJ tV Z (C8.calls HS  h5) (fun _ wd7 ⟨h8,HS⟩=>⟨_,h8,(aS Z (nL ?_))⟩)
  replace HS:=HS.Li (j:=1) (cs':=[sV A_a t4 c_a,I c1]) Z (by simp only [sV,List.length_set,c6] <;> rfl)
  refine rN 2 Z ?_
  obtain ⟨rfl,rfl⟩:=Nq H
  exact rT _ func83 Z Z ⟨Z,(HS.pk 2 [0] Z)⟩
theorem Ll.calls {c1:Int} {a1:List Int} {k_:Int} {r1:Int} {r2:List Int} (HS:St w0 w (Own (Bi .i64) 2 A_a c_a uu a1::L)) (H:Ll.f K c1 a1 k_=some (r1,r2)) :
    Calls prog 84 #[.agg [I c1,sV A_a a1 c_a].toArray,I k_] w (Ll.post w0 L A_a c_a r1 r2):=by
  unfold Ll.f at H
  refine cG func84 Z ?_
  refine sQ (rG (bA HS Z fun b1 wd2 HS=>aS Z (nL (sQ ?_))))
  obtain ⟨t3,t4,h5,H⟩:=Dt H
  obtain ⟨c6,H⟩:=iN H
  refine rG (fL b1 1 Oi Z (lB 0 HS Z Jb Z (mV Z ?_)))
  replace HS:=HS.pk 2 [1,0] Z
  refine fJ Zr Z (Ct.calls HS  h5) (fun _ wd7 ⟨h8,HS⟩=>⟨_,h8,(aS Z (nL ?_))⟩)
  replace HS:=HS.Li (j:=1) (cs':=[I c1,sV A_a t4 c_a]) Z (by simp only [sV,List.length_set,c6] <;> rfl)
  refine rN 2 Z ?_
  obtain ⟨rfl,rfl⟩:=Nq H
  exact rT _ func84 Z Z ⟨Z,(HS.pk 2 [0] Z)⟩
theorem Iu.calls {d1 c1:Int} {f1:List Cc} {e1 a1:List Int} {k_:Int} {r1:Int} {r2:List Cc} {r3 r4:List Int} (HS:St w0 w (Own Ci 153 A_a c_a uu f1::Own (Bi .i64) 2 A_b c_b uu e1::Own (Bi .i64) 2 A_c c_c uu a1::L)) (H:Iu.f K d1 c1 f1 e1 a1 k_=some (r1,r2,r3,r4)) :
    Calls prog 85 #[.agg [I d1,I c1,sV A_a f1 c_a,sV A_b e1 c_b,sV A_c a1 c_c].toArray,I k_] w (Iu.post w0 L A_a c_a A_b c_b A_c c_c r1 r2 r3 r4):=by
  unfold Iu.f at H
  refine cG func85 Z ?_
  refine sQ (rG (bA HS Z fun b1 wd2 HS=>aS Z (nL (sQ ?_))))
  obtain ⟨t3,t4,h5,H⟩:=Dt H
  obtain ⟨c6,H⟩:=iN H
  refine rG (fL b1 2 Jp Z (lB 0 HS Z Om Z (mV Z ?_)))
  replace HS:=HS.pk 4 [1,0,2,3] Z
  refine fJ uL Z (Er.calls HS  h5) (fun _ wd7 ⟨h8,HS⟩=>⟨_,h8,(aS Z (nL ?_))⟩)
  replace HS:=HS.Li (j:=1) (cs':=[I d1,I c1,sV A_a t4 c_a,sV A_b e1 c_b,sV A_c a1 c_c]) Z (by simp only [sV,List.length_set,c6] <;> rfl)
  refine sQ ?_
  obtain ⟨t9,t10,h11,H⟩:=Dt H
  obtain ⟨c12,H⟩:=iN H
  refine rG (fL b1 3 Kb Z (lB 1 HS Z Jb Z (mV Z ?_)))
  replace HS:=HS.pk 4 [2,0,1,3] Z
  refine fJ Zr Z (Ct.calls HS  h11) (fun _ wd13 ⟨h14,HS⟩=>⟨_,h14,(aS Z (nL ?_))⟩)
  replace HS:=HS.Li (j:=2) (cs':=[I d1,I c1,sV A_a t4 c_a,sV A_b t10 c_b,sV A_c a1 c_c]) Z (by simp only [sV,List.length_set,c12] <;> rfl)
  refine sQ ?_
  obtain ⟨t15,t16,h17,H⟩:=Dt H
  obtain ⟨c18,H⟩:=iN H
  refine rG (fL b1 4 M6 Z (lB 2 HS Z Jb Z (mV Z ?_)))
  replace HS:=HS.pk 4 [3,0,1,2] Z
  refine fJ Zr Z (Ct.calls HS  h17) (fun _ wd19 ⟨h20,HS⟩=>⟨_,h20,(aS Z (nL ?_))⟩)
  replace HS:=HS.Li (j:=3) (cs':=[I d1,I c1,sV A_a t4 c_a,sV A_b t10 c_b,sV A_c t16 c_c]) Z (by simp only [sV,List.length_set,c18] <;> rfl)
  refine rN 2 Z ?_
  obtain ⟨rfl,rfl,rfl,rfl⟩:=Kc H
  exact rT _ func85 Z Z ⟨Z,(HS.pk 4 [2,1,0] Z)⟩
theorem La.calls {h1:ByteArray} {g1:Int} {o1:List (List Br)} {n1:List Ah} {f1 a1:Int} {m1:List Int} {e1 d1:Int} {k1:List Cc} {i1 c1:List Int} {k_:Int} {y_a:Nat→(Ty.slice 168 Az).Lay} {r1:Int} {r2:List (List Br)} {r3:List Ah} {r4:List Int} {r5:List Cc} {r6 r7:List Int} (HS:St w0 w (Own (Ty.slice 168 Az) 161 A_a c_a y_a o1::Own Au 163 A_b c_b uu n1::Own (Bi .i64) 2 A_c c_c uu m1::Own Ci 153 A_d c_d uu k1::Own (Bi .i64) 2 A_e c_e uu i1::Own (Bi .i64) 2 A_f c_f uu c1::L)) (H:La.f K h1 g1 o1 n1 f1 a1 m1 e1 d1 k1 i1 c1 k_=some (r1,r2,r3,r4,r5,r6,r7)) :
    Calls prog 38 #[.agg [.string h1,I g1,sV A_a o1 c_a,sV A_b n1 c_b,I f1,I a1,sV A_c m1 c_c,I e1,I d1,sV A_d k1 c_d,sV A_e i1 c_e,sV A_f c1 c_f].toArray,I k_] w (La.post w0 L A_a c_a y_a A_b c_b A_c c_c A_d c_d A_e c_e A_f c_f r1 r2 r3 r4 r5 r6 r7):=by
  unfold La.f at H
  refine cG func38 Z ?_
  refine sQ (rG (bA HS Z fun b1 wd2 HS=>aS Z (nL (sQ ?_))))
  obtain ⟨t3,t4,h5,H⟩:=Dt H
  obtain ⟨c6,H⟩:=iN H
  refine rG (fL b1 2 M9 Z (GO.Du (j:=0) ([sV A_a o1 c_a]) HS Z Z Z Z O0 Z (mV Z ?_)))
  replace HS:=HS.pk 7 [1,0,2,3,4,5,6] Z
  refine fJ Aaj Z (Hq.calls HS  h5) (fun _ wd7 ⟨h8,HS⟩=>⟨_,h8,(aS Z (nL ?_))⟩)
  replace HS:=HS.Li (j:=1) (cs':=[.string h1,I g1,sV A_a t4 c_a,sV A_b n1 c_b,I f1,I a1,sV A_c m1 c_c,I e1,I d1,sV A_d k1 c_d,sV A_e i1 c_e,sV A_f c1 c_f]) Z (by simp only [sV,List.length_set,c6] <;> rfl)
  refine sQ ?_
  obtain ⟨t9,t10,h11,H⟩:=Dt H
  obtain ⟨c12,H⟩:=iN H
  refine rG (fL b1 3 Mm Z (GO.Du (j:=1) ([sV A_b n1 c_b,I f1]) HS Z Z Z Z Oe Z (mV Z ?_)))
  replace HS:=HS.pk 7 [2,0,1,3,4,5,6] Z
  refine fJ Aai Z (Kj.calls HS  h11) (fun _ wd13 ⟨h14,HS⟩=>⟨_,h14,(aS Z (nL ?_))⟩)
  replace HS:=HS.Li (j:=2) (cs':=[.string h1,I g1,sV A_a t4 c_a,sV A_b t10 c_b,I f1,I a1,sV A_c m1 c_c,I e1,I d1,sV A_d k1 c_d,sV A_e i1 c_e,sV A_f c1 c_f]) Z (by simp only [sV,List.length_set,c12] <;> rfl)
  refine sQ ?_
  obtain ⟨t15,t16,h17,H⟩:=Dt H
  obtain ⟨c18,H⟩:=iN H
  refine rG (fL b1 5 M7 Z (GO.Du (j:=2) ([I a1,sV A_c m1 c_c]) HS Z Z Z Z R9 Z (mV Z ?_)))
  replace HS:=HS.pk 7 [3,0,1,2,4,5,6] Z
  refine fJ Aah Z (Ll.calls HS  h17) (fun _ wd19 ⟨h20,HS⟩=>⟨_,h20,(aS Z (nL ?_))⟩)
  replace HS:=HS.Li (j:=3) (cs':=[.string h1,I g1,sV A_a t4 c_a,sV A_b t10 c_b,I f1,I a1,sV A_c t16 c_c,I e1,I d1,sV A_d k1 c_d,sV A_e i1 c_e,sV A_f c1 c_f]) Z (by simp only [sV,List.length_set,c18] <;> rfl)
  refine sQ ?_
  obtain ⟨t21,t22,t23,t24,h25,H⟩:=Hz H
  obtain ⟨c26,H⟩:=iN H
  obtain ⟨c27,H⟩:=iN H
  obtain ⟨c28,H⟩:=iN H
  refine rG (fL b1 7 Mc Z (GO.Du (j:=3) ([I e1,I d1,sV A_d k1 c_d,sV A_e i1 c_e,sV A_f c1 c_f]) HS Z Z Z Z Rw Z (mV Z ?_)))
  replace HS:=HS.pk 7 [4,5,6,0,1,2,3] Z
  refine fJ AaO Z (Iu.calls HS  h25) (fun _ wd29 ⟨h30,HS⟩=>⟨_,h30,(aS Z (nL ?_))⟩)
  replace HS:=HS.Li (j:=6) (cs':=[.string h1,I g1,sV A_a t4 c_a,sV A_b t10 c_b,I f1,I a1,sV A_c t16 c_c,I e1,I d1,sV A_d t22 c_d,sV A_e i1 c_e,sV A_f c1 c_f]) Z (by simp only [sV,List.length_set,c26,c27,c28] <;> rfl)
  replace HS:=HS.Li (j:=6) (cs':=[.string h1,I g1,sV A_a t4 c_a,sV A_b t10 c_b,I f1,I a1,sV A_c t16 c_c,I e1,I d1,sV A_d t22 c_d,sV A_e t23 c_e,sV A_f c1 c_f]) Z (by simp only [sV,List.length_set,c26,c27,c28] <;> rfl)
  replace HS:=HS.Li (j:=6) (cs':=[.string h1,I g1,sV A_a t4 c_a,sV A_b t10 c_b,I f1,I a1,sV A_c t16 c_c,I e1,I d1,sV A_d t22 c_d,sV A_e t23 c_e,sV A_f t24 c_f]) Z (by simp only [sV,List.length_set,c26,c27,c28] <;> rfl)
  refine rN 2 Z ?_
  obtain ⟨rfl,rfl,rfl,rfl,rfl,rfl,rfl⟩:=tZ H
  exact rT _ func38 Z Z ⟨Z,(HS.pk 7 [5,4,3,0,1,2] Z)⟩
theorem J8.calls {k1:Int} {m1 e1:ByteArray} {c1:Int} {q1:List (List Br)} {p1:List Ah} {h1 f1:Int} {o1:List Int} {d1 a1:Int} {n1:List Cc} {i1 g1:List Int} {k_:Int} {y_a:Nat→(Ty.slice 168 Az).Lay} {r1:Int} {r2:List (List Br)} {r3:List Ah} {r4:List Int} {r5:List Cc} {r6 r7:List Int} (HS:St w0 w (Own (Ty.slice 168 Az) 161 A_a c_a y_a q1::Own Au 163 A_b c_b uu p1::Own (Bi .i64) 2 A_c c_c uu o1::Own Ci 153 A_d c_d uu n1::Own (Bi .i64) 2 A_e c_e uu i1::Own (Bi .i64) 2 A_f c_f uu g1::L)) (H:J8.f K k1 m1 e1 c1 q1 p1 h1 f1 o1 d1 a1 n1 i1 g1 k_=some (r1,r2,r3,r4,r5,r6,r7)) :
    Calls prog 13 #[.agg [I k1,.string m1,.string e1,I c1,sV A_a q1 c_a,sV A_b p1 c_b,I h1,I f1,sV A_c o1 c_c,I d1,I a1,sV A_d n1 c_d,sV A_e i1 c_e,sV A_f g1 c_f].toArray,I k_] w (J8.post w0 L A_a c_a y_a A_b c_b A_c c_c A_d c_d A_e c_e A_f c_f r1 r2 r3 r4 r5 r6 r7):=by
  unfold J8.f at H
  refine cG func13 Z ?_
  refine sQ (rG (bA HS Z fun b1 wd2 HS=>aS Z (nL (sQ ?_))))
  obtain ⟨t3,t4,t5,t6,t7,t8,t9,h10,H⟩:=Xk H
  obtain ⟨c11,H⟩:=iN H
  obtain ⟨c12,H⟩:=iN H
  obtain ⟨c13,H⟩:=iN H
  obtain ⟨c14,H⟩:=iN H
  obtain ⟨c15,H⟩:=iN H
  obtain ⟨c16,H⟩:=iN H
  refine rG (fL b1 2 Pv Z (GO.Du (j:=0) ([.string e1,I c1,sV A_a q1 c_a,sV A_b p1 c_b,I h1,I f1,sV A_c o1 c_c,I d1,I a1,sV A_d n1 c_d,sV A_e i1 c_e,sV A_f g1 c_f]) HS Z Z Z Z Mf Z (mV Z ?_)))
  replace HS:=HS.pk 7 [1,2,3,4,5,6,0] Z
  refine fJ Aas Z (La.calls HS  h10) (fun _ wd17 ⟨h18,HS⟩=>⟨_,h18,(aS Z (nL ?_))⟩)
  replace HS:=HS.Li (j:=6) (cs':=[I k1,.string m1,.string e1,I c1,sV A_a t4 c_a,sV A_b p1 c_b,I h1,I f1,sV A_c o1 c_c,I d1,I a1,sV A_d n1 c_d,sV A_e i1 c_e,sV A_f g1 c_f]) Z (by simp only [sV,List.length_set,c11,c12,c13,c14,c15,c16] <;> rfl)
  replace HS:=HS.Li (j:=6) (cs':=[I k1,.string m1,.string e1,I c1,sV A_a t4 c_a,sV A_b t5 c_b,I h1,I f1,sV A_c o1 c_c,I d1,I a1,sV A_d n1 c_d,sV A_e i1 c_e,sV A_f g1 c_f]) Z (by simp only [sV,List.length_set,c11,c12,c13,c14,c15,c16] <;> rfl)
  replace HS:=HS.Li (j:=6) (cs':=[I k1,.string m1,.string e1,I c1,sV A_a t4 c_a,sV A_b t5 c_b,I h1,I f1,sV A_c t6 c_c,I d1,I a1,sV A_d n1 c_d,sV A_e i1 c_e,sV A_f g1 c_f]) Z (by simp only [sV,List.length_set,c11,c12,c13,c14,c15,c16] <;> rfl)
  replace HS:=HS.Li (j:=6) (cs':=[I k1,.string m1,.string e1,I c1,sV A_a t4 c_a,sV A_b t5 c_b,I h1,I f1,sV A_c t6 c_c,I d1,I a1,sV A_d t7 c_d,sV A_e i1 c_e,sV A_f g1 c_f]) Z (by simp only [sV,List.length_set,c11,c12,c13,c14,c15,c16] <;> rfl)
  replace HS:=HS.Li (j:=6) (cs':=[I k1,.string m1,.string e1,I c1,sV A_a t4 c_a,sV A_b t5 c_b,I h1,I f1,sV A_c t6 c_c,I d1,I a1,sV A_d t7 c_d,sV A_e t8 c_e,sV A_f g1 c_f]) Z (by simp only [sV,List.length_set,c11,c12,c13,c14,c15,c16] <;> rfl)
  replace HS:=HS.Li (j:=6) (cs':=[I k1,.string m1,.string e1,I c1,sV A_a t4 c_a,sV A_b t5 c_b,I h1,I f1,sV A_c t6 c_c,I d1,I a1,sV A_d t7 c_d,sV A_e t8 c_e,sV A_f t9 c_f]) Z (by simp only [sV,List.length_set,c11,c12,c13,c14,c15,c16] <;> rfl)
  refine rN 2 Z ?_
  obtain ⟨rfl,rfl,rfl,rfl,rfl,rfl,rfl⟩:=tZ H
  exact rT _ func13 Z Z ⟨Z,(HS.pk 7 [0,1,2,3,4,5] Z)⟩
theorem Ez.calls {a_:List Br} {k_:Int} {r1:Int} (HS:St w0 w (L)) (r_a:Av w0 L Az A_a c_a uu a_) (H:Ez.f K a_ k_=some r1) :
    Calls prog 134 #[sV A_a a_ c_a,I k_] w (Ez.post w0 L r1):=by
  unfold Ez.f at H
  refine cG func134 Z ?_
  refine rN 7 Z ?_
  refine G.name (fun e1 c1=>?_)
  have d1:∀ a1,a1≤K→∀ (k_7 i_8:Int) (w:World),Ez.l1 K a1 a_ k_7 i_8=some r1→St w0 w (L)→G prog 134 31 [(0,sV A_a a_ c_a),(1,I k_7),(5,I i_8)] e1 w (Ez.post w0 L r1):=by
   refine lp (fun _ _ w H _=>by rw [Ez.l1] at H; cases H) fun b1 g1 f1 k_7 i_8 w H HS=>?_
   rw [Ez.l1] at H
   subst c1
   refine rN 2 Z (rG (pS 2 Z (lS Z Z P8 Z (GO.lss Z Z Z Z (nL ?_)))))
   rcases iS H with ⟨c15,H⟩ | ⟨c15,H⟩
   ·
    refine nB Z (tF c15) (rN 3 Z ?_)
    obtain rfl:=sI H
    exact rT _ func134 Z Z ⟨Z,HS⟩
   refine yB Z (tT c15) (rN 5 Z ?_)
   obtain ⟨c16,H⟩:=iN H
   obtain ⟨e17,h18,H⟩:=Cr H
   refine rG (pS 2 Z (iX Z P8 Qt (rk r_a HS) c16 (GO.fld (ea A_a (i_8.toNat * 2)) Z Z K5 Z Z (GO.Gb (T:=Az) (n:=i_8.toNat) (o:=0) HS r_a Z Z (Ba (ltN c16) h18) Z Z na2 Z (pS 2 Z (nL ?_))))))
   rcases iS H with ⟨c19,H⟩ | ⟨c19,H⟩
   ·
    refine yB Z (nF c19) (rN 2 Z ?_)
    obtain rfl:=sI H
    exact rT _ func134 Z Z ⟨Z,HS⟩
   refine nB Z (nT c19) (rN 5 Z (rG (pS 2 Z (iX Z P8 Qt (rk r_a HS) c16 (GO.fld (ea A_a (i_8.toNat * 2+1)) Z Z Oq (Gw _ _ _) Z (GO.Gb (T:=Az) (n:=i_8.toNat) (o:=1) HS r_a Z Z (Ba (ltN c16) h18) Z Z na2 Z (pS 2 Z (nL ?_))))))))
   rcases iS H with ⟨c20,H⟩ | ⟨c20,H⟩
   ·
    refine yB Z (nF c20) (rN 2 Z ?_)
    obtain rfl:=sI H
    exact rT _ func134 Z Z ⟨Z,HS⟩
   refine nB Z (nT c20) (rN 5 Z (gW (f1 b1 (lR _) _ _ _ H HS) Z))
  exact gW (d1 K (lR _) _ _ _ H HS) Z
theorem Gc.calls {a_:List (List Br)} {k_:Int} {y_a:Nat→(Ty.slice 168 Az).Lay} {r1:Int} (HS:St w0 w (L)) (r_a:Av w0 L (Ty.slice 168 Az) A_a c_a y_a a_) (H:Gc.f K a_ k_=some r1) :
    Calls prog 86 #[sV A_a a_ c_a,I k_] w (Gc.post w0 L r1):=by
  unfold Gc.f at H
  refine cG func86 Z ?_
  refine rN 7 Z ?_
  refine G.name (fun e1 c1=>?_)
  have d1:∀ a1,a1≤K→∀ (k_8 i_9:Int) (w:World),Gc.l1 K a1 a_ k_8 i_9=some r1→St w0 w (L)→G prog 86 21 [(0,sV A_a a_ c_a),(1,I k_8),(5,I i_9)] e1 w (Gc.post w0 L r1):=by
   refine lp (fun _ _ w H _=>by rw [Gc.l1] at H; cases H) fun b1 g1 f1 k_8 i_9 w H HS=>?_
   rw [Gc.l1] at H
   subst c1
   refine rN 2 Z (rG (pS 2 Z (lS Z Z U51 Z (GO.lss Z Z Z Z (nL ?_)))))
   rcases iS H with ⟨c17,H⟩ | ⟨c17,H⟩
   ·
    refine nB Z (tF c17) (rN 3 Z ?_)
    obtain rfl:=sI H
    exact rT _ func86 Z Z ⟨Z,HS⟩
   refine yB Z (tT c17) (rN 4 Z ?_)
   obtain ⟨c18,H⟩:=iN H
   obtain ⟨t19,h20,H⟩:=bI H
   refine rG (pS 2 Z (iX Z U51 P7 (rk r_a HS) c18 (GO.Gb (T:=(Ty.slice 168 Az)) (n:=i_9.toNat) (o:=0) HS r_a Z Z (getD_some (d:=[]) (ltN c18)) Z Z Qc Z (mV Z (fJ vY Z (Ez.calls HS (Av.elem r_a c18.1 c18.2) h20) (fun _ wd21 ⟨h22,HS⟩=>⟨_,h22,(aS Z (nL (rN 2 Z ?_)))⟩))))))
   rcases iE H with ⟨c23,H⟩ | ⟨c23,H⟩
   ·
    refine yB Z (tT c23) (rN 2 Z ?_)
    obtain rfl:=sI H
    exact rT _ func86 Z Z ⟨Z,HS⟩
   refine nB Z (tF c23) (rN 4 Z (gW (f1 b1 (lR _) _ _ _ H HS) Z))
  exact gW (d1 K (lR _) _ _ _ H HS) Z
theorem Di.calls {a_:List Ah} {k_:Int} {r1:Int} (HS:St w0 w (L)) (r_a:Av w0 L Au A_a c_a uu a_) (H:Di.f K a_ k_=some r1) :
    Calls prog 87 #[sV A_a a_ c_a,I k_] w (Di.post w0 L r1):=by
  unfold Di.f at H
  refine cG func87 Z ?_
  refine rN 7 Z ?_
  refine G.name (fun g1 e1=>?_)
  have f1:∀ c1,c1≤K→∀ (b1 a1:Int) (w:World),Di.l1 K c1 a_ b1 a1=some r1→St w0 w (L)→G prog 87 58 [(0,sV A_a a_ c_a),(1,I b1),(5,I a1)] g1 w (Di.post w0 L r1):=by
   refine lp (fun _ _ w H _=>by rw [Di.l1] at H; cases H) fun d1 i1 h1 b1 a1 w H HS=>?_
   rw [Di.l1] at H
   subst e1
   refine rN 2 Z (rG (pS 2 Z (lS Z Z U54 Z (GO.lss Z Z Z Z (nL ?_)))))
   rcases iS H with ⟨c21,H⟩ | ⟨c21,H⟩
   ·
    refine nB Z (tF c21) (rN 3 Z ?_)
    obtain rfl:=sI H
    exact rT _ func87 Z Z ⟨Z,HS⟩
   refine yB Z (tT c21) (rN 5 Z ?_)
   obtain ⟨c22,H⟩:=iN H
   obtain ⟨e23,h24,H⟩:=Cr H
   refine rG (pS 2 Z (iX Z U54 Oz (rk r_a HS) c22 (GO.fld (ea A_a (a1.toNat * 5)) Z Z Rx Z Z (GO.Gb (T:=Au) (n:=a1.toNat) (o:=0) HS r_a Z Z (Ba (ltN c22) h24) Z Z na2 Z (pS 2 Z (nL ?_))))))
   rcases iS H with ⟨c25,H⟩ | ⟨c25,H⟩
   ·
    refine yB Z (nF c25) (rN 2 Z ?_)
    obtain rfl:=sI H
    exact rT _ func87 Z Z ⟨Z,HS⟩
   refine nB Z (nT c25) (rN 5 Z (rG (pS 2 Z (iX Z U54 Oz (rk r_a HS) c22 (GO.fld (ea A_a (a1.toNat * 5+1)) Z Z Rv (Gw _ _ _) Z (GO.Gb (T:=Au) (n:=a1.toNat) (o:=1) HS r_a Z Z (Ba (ltN c22) h24) Z Z na2 Z (pS 2 Z (nL ?_))))))))
   rcases iS H with ⟨c26,H⟩ | ⟨c26,H⟩
   ·
    refine yB Z (nF c26) (rN 2 Z ?_)
    obtain rfl:=sI H
    exact rT _ func87 Z Z ⟨Z,HS⟩
   refine nB Z (nT c26) (rN 5 Z (rG (pS 2 Z (iX Z U54 Oz (rk r_a HS) c22 (GO.fld (ea A_a (a1.toNat * 5+2)) Z Z R4 (Gw _ _ _) Z (GO.Gb (T:=Au) (n:=a1.toNat) (o:=2) HS r_a Z Z (Ba (ltN c22) h24) Z Z na2 Z (pS 2 Z (nL ?_))))))))
   rcases iS H with ⟨c27,H⟩ | ⟨c27,H⟩
   ·
    refine yB Z (nF c27) (rN 2 Z ?_)
    obtain rfl:=sI H
    exact rT _ func87 Z Z ⟨Z,HS⟩
   refine nB Z (nT c27) (rN 5 Z (rG (pS 2 Z (iX Z U54 Oz (rk r_a HS) c22 (GO.fld (ea A_a (a1.toNat * 5+3)) Z Z Rz (Gw _ _ _) Z (GO.Gb (T:=Au) (n:=a1.toNat) (o:=3) HS r_a Z Z (Ba (ltN c22) h24) Z Z na2 Z (pS 2 Z (nL ?_))))))))
   rcases iS H with ⟨c28,H⟩ | ⟨c28,H⟩
   ·
    refine yB Z (nF c28) (rN 2 Z ?_)
    obtain rfl:=sI H
    exact rT _ func87 Z Z ⟨Z,HS⟩
   refine nB Z (nT c28) (rN 5 Z (rG (pS 2 Z (iX Z U54 Oz (rk r_a HS) c22 (GO.fld (ea A_a (a1.toNat * 5+4)) Z Z M0 (Gw _ _ _) Z (GO.Gb (T:=Au) (n:=a1.toNat) (o:=4) HS r_a Z Z (Ba (ltN c22) h24) Z Z na2 Z (pS 2 Z (nL ?_))))))))
   rcases iS H with ⟨c29,H⟩ | ⟨c29,H⟩
   ·
    refine yB Z (nF c29) (rN 2 Z ?_)
    obtain rfl:=sI H
    exact rT _ func87 Z Z ⟨Z,HS⟩
   refine nB Z (nT c29) (rN 5 Z (gW (h1 d1 (lR _) _ _ _ H HS) Z))
  exact gW (f1 K (lR _) _ _ _ H HS) Z
theorem Dp.calls {a_:List Int} {k_:Int} {r1:Int} (HS:St w0 w (L)) (r_a:Av w0 L (Bi .i64) A_a c_a uu a_) (H:Dp.f K a_ k_=some r1) :
    Calls prog 88 #[sV A_a a_ c_a,I k_] w (Dp.post w0 L r1):=by
  unfold Dp.f at H
  refine cG func88 Z ?_
  refine rN 7 Z ?_
  refine G.name (fun e1 c1=>?_)
  have d1:∀ a1,a1≤K→∀ (k_4 i_5:Int) (w:World),Dp.l1 K a1 a_ k_4 i_5=some r1→St w0 w (L)→G prog 88 21 [(0,sV A_a a_ c_a),(1,I k_4),(5,I i_5)] e1 w (Dp.post w0 L r1):=by
   refine lp (fun _ _ w H _=>by rw [Dp.l1] at H; cases H) fun b1 g1 f1 k_4 i_5 w H HS=>?_
   rw [Dp.l1] at H
   subst c1
   refine rN 2 Z (rG (pS 2 Z (lS Z Z U32 Z (GO.lss Z Z Z Z (nL ?_)))))
   rcases iS H with ⟨c9,H⟩ | ⟨c9,H⟩
   ·
    refine nB Z (tF c9) (rN 3 Z ?_)
    obtain rfl:=sI H
    exact rT _ func88 Z Z ⟨Z,HS⟩
   refine yB Z (tT c9) (rN 5 Z ?_)
   obtain ⟨c10,H⟩:=iN H
   refine rG (pS 2 Z (iX Z U32 sz2 (rk r_a HS) c10 (GO.Gb (T:=(Bi .i64)) (n:=i_5.toNat) (o:=0) HS r_a Z Z (getD_some (d:=0) (ltN c10)) Z Z na2 Z (pS 2 Z (nL ?_)))))
   rcases iS H with ⟨c11,H⟩ | ⟨c11,H⟩
   ·
    refine yB Z (nF c11) (rN 2 Z ?_)
    obtain rfl:=sI H
    exact rT _ func88 Z Z ⟨Z,HS⟩
   refine nB Z (nT c11) (rN 5 Z (gW (f1 b1 (lR _) _ _ _ H HS) Z))
  exact gW (d1 K (lR _) _ _ _ H HS) Z
theorem Fs.calls {a_:List Cc} {k_:Int} {r1:Int} (HS:St w0 w (L)) (r_a:Av w0 L Ci A_a c_a uu a_) (H:Fs.f K a_ k_=some r1) :
    Calls prog 89 #[sV A_a a_ c_a,I k_] w (Fs.post w0 L r1):=by
  unfold Fs.f at H
  refine cG func89 Z ?_
  refine rN 7 Z ?_
  refine G.name (fun e1 c1=>?_)
  have d1:∀ a1,a1≤K→∀ (k_8 i_9:Int) (w:World),Fs.l1 K a1 a_ k_8 i_9=some r1→St w0 w (L)→G prog 89 40 [(0,sV A_a a_ c_a),(1,I k_8),(5,I i_9)] e1 w (Fs.post w0 L r1):=by
   refine lp (fun _ _ w H _=>by rw [Fs.l1] at H; cases H) fun b1 g1 f1 k_8 i_9 w H HS=>?_
   rw [Fs.l1] at H
   subst c1
   refine rN 2 Z (rG (pS 2 Z (lS Z Z U58 Z (GO.lss Z Z Z Z (nL ?_)))))
   rcases iS H with ⟨c17,H⟩ | ⟨c17,H⟩
   ·
    refine nB Z (tF c17) (rN 3 Z ?_)
    obtain rfl:=sI H
    exact rT _ func89 Z Z ⟨Z,HS⟩
   refine yB Z (tT c17) (rN 5 Z ?_)
   obtain ⟨c18,H⟩:=iN H
   obtain ⟨e19,h20,H⟩:=Cr H
   refine rG (pS 2 Z (iX Z U58 Sr (rk r_a HS) c18 (GO.fld (ea A_a (i_9.toNat * 3)) Z Z Ot Z Z (GO.Gb (T:=Ci) (n:=i_9.toNat) (o:=0) HS r_a Z Z (Ba (ltN c18) h20) Z Z na2 Z (pS 2 Z (nL ?_))))))
   rcases iS H with ⟨c21,H⟩ | ⟨c21,H⟩
   ·
    refine yB Z (nF c21) (rN 2 Z ?_)
    obtain rfl:=sI H
    exact rT _ func89 Z Z ⟨Z,HS⟩
   refine nB Z (nT c21) (rN 5 Z (rG (pS 2 Z (iX Z U58 Sr (rk r_a HS) c18 (GO.fld (ea A_a (i_9.toNat * 3+1)) Z Z Pi (Gw _ _ _) Z (GO.Gb (T:=Ci) (n:=i_9.toNat) (o:=1) HS r_a Z Z (Ba (ltN c18) h20) Z Z na2 Z (pS 2 Z (nL ?_))))))))
   rcases iS H with ⟨c22,H⟩ | ⟨c22,H⟩
   ·
    refine yB Z (nF c22) (rN 2 Z ?_)
    obtain rfl:=sI H
    exact rT _ func89 Z Z ⟨Z,HS⟩
   refine nB Z (nT c22) (rN 5 Z (rG (pS 2 Z (iX Z U58 Sr (rk r_a HS) c18 (GO.fld (ea A_a (i_9.toNat * 3+2)) Z Z Qp (Gw _ _ _) Z (GO.Gb (T:=Ci) (n:=i_9.toNat) (o:=2) HS r_a Z Z (Ba (ltN c18) h20) Z Z na2 Z (pS 2 Z (nL ?_))))))))
   rcases iS H with ⟨c23,H⟩ | ⟨c23,H⟩
   ·
    refine yB Z (nF c23) (rN 2 Z ?_)
    obtain rfl:=sI H
    exact rT _ func89 Z Z ⟨Z,HS⟩
   refine nB Z (nT c23) (rN 5 Z (gW (f1 b1 (lR _) _ _ _ H HS) Z))
  exact gW (d1 K (lR _) _ _ _ H HS) Z
theorem Dy.calls {t:List Af} {o:Int} {y_a:Nat→Aa.Lay} {r1:Int} (HS:St w0 w (L)) (r_a:Av w0 L Aa A_a c_a y_a t) (H:Dy.f K t o=some r1) :
    Calls prog 39 #[sV A_a t c_a,I o] w (Dy.post w0 L r1):=by
  unfold Dy.f at H
  refine cG func39 Z ?_
  refine rN 7 Z ?_
  refine G.name (fun g1 e1=>?_)
  have f1:∀ c1,c1≤K→∀ (b1 a1:Int) (w:World),Dy.l1 K c1 t b1 a1=some r1→St w0 w (L)→G prog 39 132 [(0,sV A_a t c_a),(1,I b1),(5,I a1)] g1 w (Dy.post w0 L r1):=by
   refine lp (fun _ _ w H _=>by rw [Dy.l1] at H; cases H) fun d1 i1 h1 b1 a1 w H HS=>?_
   rw [Dy.l1] at H
   subst e1
   refine rN 2 Z (rG (pS 2 Z (lS Z Z U44 Z (GO.lss Z Z Z Z (nL ?_)))))
   rcases iS H with ⟨c91,H⟩ | ⟨c91,H⟩
   ·
    refine nB Z (tF c91) (rN 3 Z ?_)
    obtain rfl:=sI H
    exact rT _ func39 Z Z ⟨Z,HS⟩
   refine yB Z (tT c91) (rN 5 Z ?_)
   obtain ⟨c92,H⟩:=iN H
   obtain ⟨e93,h94,H⟩:=Cr H
   obtain ⟨t95,h96,H⟩:=bI H
   refine G.O7 mixed (fun w=>St w0 w (L)) [4] [0,1,2,3,5,4,6,7] [] (by kernel_rfl) (by kernel_rfl) HS.drew ?_
   replace HS:=HS.drew
   refine GX.ps 2 Z (qL Z Z (fun _ _ g=>iX Z U44 J7 (rk r_a HS) c92 g) Z (qL Z Z (fun _ _ g=>GO.fld (ea A_a (a1.toNat * 12)) Z Z Jz Z Z g) Z (GX.ps 1 Z (GX.ls Z Z Z HS (fun _ HS _ g=>GO.Gb (T:=Aa) (n:=a1.toNat) (o:=0) HS r_a Z Z (Ba (ltN c92) h94) Z Z na9 Z g) Z (GX.l2 Z (fJ uQ Z (Ex.calls HS  h96) (fun _ wd97 ⟨h98,HS⟩=>⟨_,h98,(GX.fin HS (qL Z Z (fun _ _ g=>GO.qW Z Z Z Z g) Z (GX.nil ?_)))⟩)))))))
   rcases iS H with ⟨c99,H⟩ | ⟨c99,H⟩
   ·
    refine yB Z (congrArg Bool.not (Bt c99)) (rN 2 Z ?_)
    obtain rfl:=sI H
    exact rT _ func39 Z Z ⟨Z,HS⟩
   refine nB Z (congrArg Bool.not c99) (rN 5 Z (rG (pS 2 Z (iX Z U44 J7 (rk r_a HS) c92 (GO.fld (ea A_a (a1.toNat * 12+1)) Z Z Lf (Gw _ _ _) Z (GO.Gb (T:=Aa) (n:=a1.toNat) (o:=1) HS r_a Z Z (Ba (ltN c92) h94) Z Z na2 Z (pS 2 Z (nL ?_))))))))
   rcases iS H with ⟨c100,H⟩ | ⟨c100,H⟩
   ·
    refine yB Z (nF c100) (rN 2 Z ?_)
    obtain rfl:=sI H
    exact rT _ func39 Z Z ⟨Z,HS⟩
   refine nB Z (nT c100) (rN 4 Z ?_)
   obtain ⟨t101,h102,H⟩:=bI H
   refine rG (pS 2 Z (iX Z U44 J7 (rk r_a HS) c92 (GO.fld (ea A_a (a1.toNat * 12+2)) Z Z M9 (Gw _ _ _) Z (GO.fld (ea A_a (a1.toNat * 12+2)) Z Z J2 Z Z (GO.Gb (T:=Aa) (n:=a1.toNat) (o:=2) HS r_a Z Z (Ba (ltN c92) h94) Z Z O1 Z (mV Z (fJ AaU Z (Gc.calls HS (Av.fld r_a (Ba (ltN c92) h94) (fun _ h=>h.2.2.1)) h102) (fun _ wd103 ⟨h104,HS⟩=>⟨_,h104,(aS Z (nL (rN 3 Z ?_)))⟩))))))))
   rcases iE H with ⟨c105,H⟩ | ⟨c105,H⟩
   ·
    refine yB Z (tT c105) (rN 2 Z ?_)
    obtain rfl:=sI H
    exact rT _ func39 Z Z ⟨Z,HS⟩
   refine nB Z (tF c105) (rN 2 Z ?_)
   obtain ⟨t106,h107,H⟩:=bI H
   refine rG (pS 2 Z (iX Z U44 J7 (rk r_a HS) c92 (GO.fld (ea A_a (a1.toNat * 12+3)) Z Z Mm (Gw _ _ _) Z (GO.fld (ea A_a (a1.toNat * 12+3)) Z Z Jr Z Z (GO.Gb (T:=Aa) (n:=a1.toNat) (o:=3) HS r_a Z Z (Ba (ltN c92) h94) Z Z Ol Z (mV Z (fJ Aa2 Z (Di.calls HS (Av.fld r_a (Ba (ltN c92) h94) (fun _ h=>h.2.2.2.1)) h107) (fun _ wd108 ⟨h109,HS⟩=>⟨_,h109,(aS Z (nL (rN 3 Z ?_)))⟩))))))))
   rcases iE H with ⟨c110,H⟩ | ⟨c110,H⟩
   ·
    refine yB Z (tT c110) (rN 2 Z ?_)
    obtain rfl:=sI H
    exact rT _ func39 Z Z ⟨Z,HS⟩
   refine nB Z (tF c110) (rN 3 Z (rG (pS 2 Z (iX Z U44 J7 (rk r_a HS) c92 (GO.fld (ea A_a (a1.toNat * 12+3)) Z Z Mm (Gw _ _ _) Z (GO.fld (ea A_a (a1.toNat * 12+4)) Z Z Qi (by rw [Gw,Nat.add_assoc]) Z (GO.Gb (T:=Aa) (n:=a1.toNat) (o:=4) HS r_a Z Z (Ba (ltN c92) h94) Z Z na2 Z (pS 2 Z (nL ?_)))))))))
   rcases iS H with ⟨c111,H⟩ | ⟨c111,H⟩
   ·
    refine yB Z (nF c111) (rN 2 Z ?_)
    obtain rfl:=sI H
    exact rT _ func39 Z Z ⟨Z,HS⟩
   refine nB Z (nT c111) (rN 5 Z (rG (pS 2 Z (iX Z U44 J7 (rk r_a HS) c92 (GO.fld (ea A_a (a1.toNat * 12+5)) Z Z M7 (Gw _ _ _) Z (GO.fld (ea A_a (a1.toNat * 12+5)) Z Z Ou Z Z (GO.Gb (T:=Aa) (n:=a1.toNat) (o:=5) HS r_a Z Z (Ba (ltN c92) h94) Z Z na2 Z (pS 2 Z (nL ?_)))))))))
   rcases iS H with ⟨c112,H⟩ | ⟨c112,H⟩
   ·
    refine yB Z (nF c112) (rN 2 Z ?_)
    obtain rfl:=sI H
    exact rT _ func39 Z Z ⟨Z,HS⟩
   refine nB Z (nT c112) (rN 4 Z ?_)
   obtain ⟨t113,h114,H⟩:=bI H
   refine rG (pS 2 Z (iX Z U44 J7 (rk r_a HS) c92 (GO.fld (ea A_a (a1.toNat * 12+5)) Z Z M7 (Gw _ _ _) Z (GO.fld (ea A_a (a1.toNat * 12+6)) Z Z Oi (by rw [Gw,Nat.add_assoc]) Z (GO.Gb (T:=Aa) (n:=a1.toNat) (o:=6) HS r_a Z Z (Ba (ltN c92) h94) Z Z Jb Z (mV Z (fJ kM Z (Dp.calls HS (Av.fld r_a (Ba (ltN c92) h94) (fun _ h=>h.2.2.2.2.2.2.1)) h114) (fun _ wd115 ⟨h116,HS⟩=>⟨_,h116,(aS Z (nL (rN 3 Z ?_)))⟩))))))))
   rcases iE H with ⟨c117,H⟩ | ⟨c117,H⟩
   ·
    refine yB Z (tT c117) (rN 2 Z ?_)
    obtain rfl:=sI H
    exact rT _ func39 Z Z ⟨Z,HS⟩
   refine nB Z (tF c117) (rN 3 Z (rG (pS 2 Z (iX Z U44 J7 (rk r_a HS) c92 (GO.fld (ea A_a (a1.toNat * 12+7)) Z Z Mc (Gw _ _ _) Z (GO.fld (ea A_a (a1.toNat * 12+7)) Z Z Nz Z Z (GO.Gb (T:=Aa) (n:=a1.toNat) (o:=7) HS r_a Z Z (Ba (ltN c92) h94) Z Z na2 Z (pS 2 Z (nL ?_)))))))))
   rcases iS H with ⟨c118,H⟩ | ⟨c118,H⟩
   ·
    refine yB Z (nF c118) (rN 2 Z ?_)
    obtain rfl:=sI H
    exact rT _ func39 Z Z ⟨Z,HS⟩
   refine nB Z (nT c118) (rN 5 Z (rG (pS 2 Z (iX Z U44 J7 (rk r_a HS) c92 (GO.fld (ea A_a (a1.toNat * 12+7)) Z Z Mc (Gw _ _ _) Z (GO.fld (ea A_a (a1.toNat * 12+8)) Z Z N7 (by rw [Gw,Nat.add_assoc]) Z (GO.Gb (T:=Aa) (n:=a1.toNat) (o:=8) HS r_a Z Z (Ba (ltN c92) h94) Z Z na2 Z (pS 2 Z (nL ?_)))))))))
   rcases iS H with ⟨c119,H⟩ | ⟨c119,H⟩
   ·
    refine yB Z (nF c119) (rN 2 Z ?_)
    obtain rfl:=sI H
    exact rT _ func39 Z Z ⟨Z,HS⟩
   refine nB Z (nT c119) (rN 4 Z ?_)
   obtain ⟨t120,h121,H⟩:=bI H
   refine rG (pS 2 Z (iX Z U44 J7 (rk r_a HS) c92 (GO.fld (ea A_a (a1.toNat * 12+7)) Z Z Mc (Gw _ _ _) Z (GO.fld (ea A_a (a1.toNat * 12+9)) Z Z Jp (by rw [Gw,Nat.add_assoc]) Z (GO.Gb (T:=Aa) (n:=a1.toNat) (o:=9) HS r_a Z Z (Ba (ltN c92) h94) Z Z Om Z (mV Z (fJ Abb Z (Fs.calls HS (Av.fld r_a (Ba (ltN c92) h94) (fun _ h=>h.2.2.2.2.2.2.2.2.2.1)) h121) (fun _ wd122 ⟨h123,HS⟩=>⟨_,h123,(aS Z (nL (rN 3 Z ?_)))⟩))))))))
   rcases iE H with ⟨c124,H⟩ | ⟨c124,H⟩
   ·
    refine yB Z (tT c124) (rN 2 Z ?_)
    obtain rfl:=sI H
    exact rT _ func39 Z Z ⟨Z,HS⟩
   refine nB Z (tF c124) (rN 2 Z ?_)
   obtain ⟨t125,h126,H⟩:=bI H
   refine rG (pS 2 Z (iX Z U44 J7 (rk r_a HS) c92 (GO.fld (ea A_a (a1.toNat * 12+7)) Z Z Mc (Gw _ _ _) Z (GO.fld (ea A_a (a1.toNat * 12+10)) Z Z Kb (by rw [Gw,Nat.add_assoc]) Z (GO.Gb (T:=Aa) (n:=a1.toNat) (o:=10) HS r_a Z Z (Ba (ltN c92) h94) Z Z Jb Z (mV Z (fJ kM Z (Dp.calls HS (Av.fld r_a (Ba (ltN c92) h94) (fun _ h=>h.2.2.2.2.2.2.2.2.2.2.1)) h126) (fun _ wd127 ⟨h128,HS⟩=>⟨_,h128,(aS Z (nL (rN 3 Z ?_)))⟩))))))))
   rcases iE H with ⟨c129,H⟩ | ⟨c129,H⟩
   ·
    refine yB Z (tT c129) (rN 2 Z ?_)
    obtain rfl:=sI H
    exact rT _ func39 Z Z ⟨Z,HS⟩
   refine nB Z (tF c129) (rN 2 Z ?_)
   obtain ⟨t130,h131,H⟩:=bI H
   refine rG (pS 2 Z (iX Z U44 J7 (rk r_a HS) c92 (GO.fld (ea A_a (a1.toNat * 12+7)) Z Z Mc (Gw _ _ _) Z (GO.fld (ea A_a (a1.toNat * 12+11)) Z Z M6 (by rw [Gw,Nat.add_assoc]) Z (GO.Gb (T:=Aa) (n:=a1.toNat) (o:=11) HS r_a Z Z (Ba (ltN c92) h94) Z Z Jb Z (mV Z (fJ kM Z (Dp.calls HS (Av.fld r_a (Ba (ltN c92) h94) (fun _ h=>h.2.2.2.2.2.2.2.2.2.2.2)) h131) (fun _ wd132 ⟨h133,HS⟩=>⟨_,h133,(aS Z (nL (rN 2 Z ?_)))⟩))))))))
   rcases iE H with ⟨c134,H⟩ | ⟨c134,H⟩
   ·
    refine yB Z (tT c134) (rN 2 Z ?_)
    obtain rfl:=sI H
    exact rT _ func39 Z Z ⟨Z,HS⟩
   refine nB Z (tF c134) (rN 4 Z (gW (h1 d1 (lR _) _ _ _ H HS) Z))
  exact gW (f1 K (lR _) _ _ _ H HS) Z
theorem Fj.calls {a_:List (List Af)} {k_:Int} {y_a:Nat→(Ty.slice 62 Aa).Lay} {r1:Int} (HS:St w0 w (L)) (r_a:Av w0 L (Ty.slice 62 Aa) A_a c_a y_a a_) (H:Fj.f K a_ k_=some r1) :
    Calls prog 40 #[sV A_a a_ c_a,I k_] w (Fj.post w0 L r1):=by
  unfold Fj.f at H
  refine cG func40 Z ?_
  refine rN 7 Z ?_
  refine G.name (fun e1 c1=>?_)
  have d1:∀ a1,a1≤K→∀ (k_8 i_9:Int) (w:World),Fj.l1 K a1 a_ k_8 i_9=some r1→St w0 w (L)→G prog 40 21 [(0,sV A_a a_ c_a),(1,I k_8),(5,I i_9)] e1 w (Fj.post w0 L r1):=by
   refine lp (fun _ _ w H _=>by rw [Fj.l1] at H; cases H) fun b1 g1 f1 k_8 i_9 w H HS=>?_
   rw [Fj.l1] at H
   subst c1
   refine rN 2 Z (rG (pS 2 Z (lS Z Z U45 Z (GO.lss Z Z Z Z (nL ?_)))))
   rcases iS H with ⟨c17,H⟩ | ⟨c17,H⟩
   ·
    refine nB Z (tF c17) (rN 3 Z ?_)
    obtain rfl:=sI H
    exact rT _ func40 Z Z ⟨Z,HS⟩
   refine yB Z (tT c17) (rN 4 Z ?_)
   obtain ⟨c18,H⟩:=iN H
   obtain ⟨t19,h20,H⟩:=bI H
   refine rG (pS 2 Z (iX Z U45 Sm (rk r_a HS) c18 (GO.Gb (T:=(Ty.slice 62 Aa)) (n:=i_9.toNat) (o:=0) HS r_a Z Z (getD_some (d:=[]) (ltN c18)) Z Z Mr Z (mV Z (fJ uE Z (Dy.calls HS (Av.elem r_a c18.1 c18.2) h20) (fun _ wd21 ⟨h22,HS⟩=>⟨_,h22,(aS Z (nL (rN 2 Z ?_)))⟩))))))
   rcases iE H with ⟨c23,H⟩ | ⟨c23,H⟩
   ·
    refine yB Z (tT c23) (rN 2 Z ?_)
    obtain rfl:=sI H
    exact rT _ func40 Z Z ⟨Z,HS⟩
   refine nB Z (tF c23) (rN 4 Z (gW (f1 b1 (lR _) _ _ _ H HS) Z))
  exact gW (d1 K (lR _) _ _ _ H HS) Z
theorem J5.calls {a1:List Af} {d1 c1:List (List Af)} {k_:Int} {y_a:Nat→Aa.Lay} {y_b:Nat→(Ty.slice 62 Aa).Lay} {y_c:Nat→(Ty.slice 62 Aa).Lay} {r1:Int} (HS:St w0 w (L)) (r_a:Av w0 L Aa A_a c_a y_a a1) (r_b:Av w0 L (Ty.slice 62 Aa) A_b c_b y_b d1) (r_c:Av w0 L (Ty.slice 62 Aa) A_c c_c y_c c1) (H:J5.f K a1 d1 c1 k_=some r1) :
    Calls prog 14 #[.agg [sV A_a a1 c_a,sV A_b d1 c_b,sV A_c c1 c_c].toArray,I k_] w (J5.post w0 L r1):=by
  unfold J5.f at H
  refine cG func14 Z ?_
  refine sQ (rG (bA HS Z fun b1 wd2 HS=>aS Z (nL (sQ ?_))))
  obtain ⟨t3,h4,H⟩:=bI H
  refine rG (fL b1 0 Ju Z (lB 0 HS Z Mr Z (mV Z (fJ uE Z (Dy.calls HS (rD 1 r_a) h4) (fun _ wd5 ⟨h6,HS⟩=>⟨_,h6,(aS Z (nL (rN 3 Z ?_)))⟩)))))
  rcases iE H with ⟨c7,H⟩ | ⟨c7,H⟩
  ·
   refine yB Z (tT c7) (rN 2 Z ?_)
   obtain rfl:=sI H
   exact rT _ func14 Z Z ⟨Z,(HS.pk 1 [] Z)⟩
  refine nB Z (tF c7) (rN 2 Z ?_)
  obtain ⟨t8,h9,H⟩:=bI H
  refine rG (fL b1 1 Mq Z (lB 0 HS Z Nr Z (mV Z (fJ uD Z (Fj.calls HS (rD 1 r_b) h9) (fun _ wd10 ⟨h11,HS⟩=>⟨_,h11,(aS Z (nL (rN 3 Z ?_)))⟩)))))
  rcases iE H with ⟨c12,H⟩ | ⟨c12,H⟩
  ·
   refine yB Z (tT c12) (rN 2 Z ?_)
   obtain rfl:=sI H
   exact rT _ func14 Z Z ⟨Z,(HS.pk 1 [] Z)⟩
  refine nB Z (tF c12) (rN 2 Z ?_)
  obtain ⟨t13,h14,H⟩:=bI H
  refine rG (fL b1 2 O6 Z (lB 0 HS Z Nr Z (mV Z (fJ uD Z (Fj.calls HS (rD 1 r_c) h14) (fun _ wd15 ⟨h16,HS⟩=>⟨_,h16,(aS Z (nL (rN 3 Z ?_)))⟩)))))
  rcases iE H with ⟨c17,H⟩ | ⟨c17,H⟩
  ·
   refine yB Z (tT c17) (rN 2 Z ?_)
   obtain rfl:=sI H
   exact rT _ func14 Z Z ⟨Z,(HS.pk 1 [] Z)⟩
  refine nB Z (tF c17) (rN 3 Z ?_)
  obtain rfl:=sI H
  exact rT _ func14 Z Z ⟨Z,(HS.pk 1 [] Z)⟩
theorem Hf.calls {k2:List Af} {h2 m2:List (List Af)} {s2:Int} {u2 t2:ByteArray} {z2:Int} {i2:List (List Br)} {o2:List Ah} {y2 x2:Int} {g2:List Int} {a3 v2:Int} {r2:List Cc} {f2 p2:List Int} {y_a:Nat→Fu.Lay} {y_b:Nat→(Ty.slice 39 Fu).Lay} {y_c:Nat→(Ty.slice 39 Fu).Lay} {y_d:Nat→(Ty.slice 211 Az).Lay} {r1:Bool} (HS:St w0 w (L)) (r_a:Av w0 L Fu A_a c_a y_a k2) (r_b:Av w0 L (Ty.slice 39 Fu) A_b c_b y_b h2) (r_c:Av w0 L (Ty.slice 39 Fu) A_c c_c y_c m2) (r_d:Av w0 L (Ty.slice 211 Az) A_d c_d y_d i2) (r_e:Av w0 L Au A_e c_e uu o2) (r_f:Av w0 L (Bi .i64) A_f c_f uu g2) (r_g:Av w0 L Ci A_g c_g uu r2) (r_h:Av w0 L (Bi .i64) A_h c_h uu f2) (r_i:Av w0 L (Bi .i64) A_i c_i uu p2) (H:Hf.f K k2 h2 m2 s2 u2 t2 z2 i2 o2 y2 x2 g2 a3 v2 r2 f2 p2=some r1) :
    Calls prog 3 #[.agg [sV A_a k2 c_a,sV A_b h2 c_b,sV A_c m2 c_c].toArray,.agg [I s2,.string u2,.string t2,I z2,sV A_d i2 c_d,sV A_e o2 c_e,I y2,I x2,sV A_f g2 c_f,I a3,I v2,sV A_g r2 c_g,sV A_h f2 c_h,sV A_i p2 c_i].toArray] w (Hf.post w0 L r1):=by
  unfold Hf.f at H
  refine cG func3 Z ?_
  refine sQ (rG (bA HS Z fun b1 wd2 HS=>bA HS Z fun b3 wd4 HS=>aS Z (nL (rN 3 Z ?_))))
  obtain ⟨t5,h6,H⟩:=bI H
  refine rG (lW 1 HS Z mG (mV Z (fJ Abi Z (Me.calls HS (rD 2 r_a) (rD 2 r_b) (rD 2 r_c) h6) (fun _ wd7 ⟨h8,HS⟩=>⟨_,h8,(aS Z (nL (rN 3 Z ?_)))⟩))))
  rcases iE H with ⟨c9,H⟩ | ⟨c9,H⟩
  ·
   refine yB Z (tT c9) (rN 2 Z ?_)
   obtain rfl:=sI H
   exact rT _ func3 Z Z ⟨Z,(HS.pk 2 [] Z)⟩
  refine nB Z (tF c9) (rN 2 Z ?_)
  obtain ⟨t10,h11,H⟩:=bI H
  refine rG (lW 0 HS Z nY (mV Z (fJ Abl Z (Kn.calls HS (rD 2 r_d) (rD 2 r_e) (rD 2 r_f) (rD 2 r_g) (rD 2 r_h) (rD 2 r_i) h11) (fun _ wd12 ⟨h13,HS⟩=>⟨_,h13,(aS Z (nL (rN 3 Z ?_)))⟩))))
  rcases iE H with ⟨c14,H⟩ | ⟨c14,H⟩
  ·
   refine yB Z (tT c14) (rN 2 Z ?_)
   obtain rfl:=sI H
   exact rT _ func3 Z Z ⟨Z,(HS.pk 2 [] Z)⟩
  refine nB Z (tF c14) (rN 2 Z ?_)
  obtain ⟨t15,t16,t17,h18,H⟩:=M5 H
  obtain ⟨t30,t31,t32,t33,t34,t35,t36,t37,t38,t39,t40,t41,t42,t43,h44,H⟩:=Ra H
  obtain ⟨t60,t61,t62,t63,h64,H⟩:=Hz H
  refine G.Rp mixed (by decide) (fun b a w=>∃ (A19:Option Addr) (c20:Nat) (y21:Nat→Aa.Lay) (A22:Option Addr) (c23:Nat) (y24:Nat→(Ty.slice 62 Aa).Lay) (A25:Option Addr) (c26:Nat) (y27:Nat→(Ty.slice 62 Aa).Lay) (A45:Option Addr) (c46:Nat) (y47:Nat→(Ty.slice 168 Az).Lay) (A48:Option Addr) (c49:Nat) (A50:Option Addr) (c51:Nat) (A52:Option Addr) (c53:Nat) (A54:Option Addr) (c55:Nat) (A56:Option Addr) (c57:Nat) (A65:Option Addr) (c66:Nat) (y67:Nat→Aa.Lay) (A68:Option Addr) (c69:Nat) (y70:Nat→(Ty.slice 62 Aa).Lay) (A71:Option Addr) (c72:Nat) (y73:Nat→(Ty.slice 62 Aa).Lay) (b76:Nat) (y3:Cn) (g3:Cn) (u3:Cn) (r3:Cn) (e3:Cn) (k3:Cn) (f3:Cn) (s3:Cn) (z3:Cn) (b4:Cn) (v3:Cn) (n3:Cn) (c3:Cn),RS 119 [(2,pT b1),(3,pT b3)] [rv 28 (.agg [sV A_a k2 c_a,sV A_b h2 c_b,sV A_c m2 c_c].toArray),rv 29 (.agg [sV A19 t15 c20,sV A22 t16 c23,sV A25 t17 c26].toArray),rv 30 (.agg [I s2,.string u2,.string t2,I z2,sV A_d i2 c_d,sV A_e o2 c_e,I y2,I x2,sV A_f g2 c_f,I a3,I v2,sV A_g r2 c_g,sV A_h f2 c_h,sV A_i p2 c_i].toArray),rv 31 (.agg [I t30,.string t31,.string t32,I t33,sV A45 t34 c46,sV A48 t35 c49,I t36,I t37,sV A50 t38 c51,I t39,I t40,sV A52 t41 c53,sV A54 t42 c55,sV A56 t43 c57].toArray),rv 32 (.tuple #[.agg [sV A65 t60 c66,sV A68 t61 c69,sV A71 t62 c72].toArray,I t63]),rv 27 (.tuple #[.agg [sV A65 t60 c66,sV A68 t61 c69,sV A71 t62 c72].toArray,I t63]),rv 33 (.agg [sV A65 t60 c66,sV A68 t61 c69,sV A71 t62 c72].toArray),rv 34 (I t63),rv 6 (pT b76),none,rv 7 (I t63)] b a∧St w0 w (Box b3 41 [I s2,.string u2,.string t2,I z2,sV A_d i2 c_d,sV A_e o2 c_e,I y2,I x2,sV A_f g2 c_f,I a3,I v2,sV A_g r2 c_g,sV A_h f2 c_h,sV A_i p2 c_i]::Box b1 25 [sV A_a k2 c_a,sV A_b h2 c_b,sV A_c m2 c_c]::y3::g3::u3::r3::e3::k3::f3::s3::z3::b4::v3::n3::c3::L)∧(b 1=true→y3=Own Aa 62 A19 c20 y21 t15)∧(b 1=true→g3=Own (Ty.slice 62 Aa) 44 A22 c23 y24 t16)∧(b 1=true→u3=Own (Ty.slice 62 Aa) 44 A25 c26 y27 t17)∧(b 3=true→r3=Own (Ty.slice 168 Az) 161 A45 c46 y47 t34)∧(b 3=true→e3=Own Au 163 A48 c49 uu t35)∧(b 3=true→k3=Own (Bi .i64) 2 A50 c51 uu t38)∧(b 3=true→f3=Own Ci 153 A52 c53 uu t41)∧(b 3=true→s3=Own (Bi .i64) 2 A54 c55 uu t42)∧(b 3=true→z3=Own (Bi .i64) 2 A56 c57 uu t43)∧(b 4=true→b4=Own Aa 62 A65 c66 y67 t60)∧(b 4=true→v3=Own (Ty.slice 62 Aa) 44 A68 c69 y70 t61)∧(b 4=true→n3=Own (Ty.slice 62 Aa) 44 A71 c72 y73 t62)∧(b 8=true→b 9=false→c3=Box b76 47 [.slice none 0 0,.slice none 0 0,.slice none 0 0])∧(b 9=true→c3=Box b76 47 [sV A65 t60 c66,sV A68 t61 c69,sV A71 t62 c72])) ?_ ?_ ?_
  · exact fun a hs=>⟨none,0,(fun _=>Bh),none,0,(fun _=>⟨none,0,(fun _=>Bh)⟩),none,0,(fun _=>⟨none,0,(fun _=>Bh)⟩),none,0,(fun _=>⟨none,0,uu⟩),none,0,none,0,none,0,none,0,none,0,none,0,(fun _=>Bh),none,0,(fun _=>⟨none,0,(fun _=>Bh)⟩),none,0,(fun _=>⟨none,0,(fun _=>Bh)⟩),0,Emp,Emp,Emp,Emp,Emp,Emp,Emp,Emp,Emp,Emp,Emp,Emp,Emp,hs.init Z,(HS.drew.emp.emp.emp.emp.emp.emp.emp.emp.emp.emp.emp.emp.emp.pk 15 [13,14,12,11,10,9,8,7,6,5,4,3,2,1,0] Z),fun h=>Bool.noConfusion h,fun h=>Bool.noConfusion h,fun h=>Bool.noConfusion h,fun h=>Bool.noConfusion h,fun h=>Bool.noConfusion h,fun h=>Bool.noConfusion h,fun h=>Bool.noConfusion h,fun h=>Bool.noConfusion h,fun h=>Bool.noConfusion h,fun h=>Bool.noConfusion h,fun h=>Bool.noConfusion h,fun h=>Bool.noConfusion h,fun h=>Bool.noConfusion h,fun h=>Bool.noConfusion h⟩
  ·
   intro j b a w hj
   refine exI fun A19=>exI fun c20=>exI fun y21=>exI fun A22=>exI fun c23=>exI fun y24=>exI fun A25=>exI fun c26=>exI fun y27=>exI fun A45=>exI fun c46=>exI fun y47=>exI fun A48=>exI fun c49=>exI fun A50=>exI fun c51=>exI fun A52=>exI fun c53=>exI fun A54=>exI fun c55=>exI fun A56=>exI fun c57=>exI fun A65=>exI fun c66=>exI fun y67=>exI fun A68=>exI fun c69=>exI fun y70=>exI fun A71=>exI fun c72=>exI fun y73=>exI fun b76=>exI fun y3=>exI fun g3=>exI fun u3=>exI fun r3=>exI fun e3=>exI fun k3=>exI fun f3=>exI fun s3=>exI fun z3=>exI fun b4=>exI fun v3=>exI fun n3=>exI fun c3=>anI fun hs=>fun hM q=>?_
   have HS:=hM.1
   match j,hj with
   | 0,_ =>
    refine hs.at q [] [] (lW 1 HS Z mG (hs.fin q Z fun _ hs=>⟨_,_,_,_,_,_,_,_,_,_,_,_,_,_,_,_,_,_,_,_,_,_,_,_,_,_,_,_,_,_,_,_,_,_,_,_,_,_,_,_,_,_,_,_,_,hs,hM⟩))
   | 1,_ =>
    refine (anI fun HS=>anI fun q1=>anI fun u1=>anI fun c1=>anI fun v1=>anI fun e1=>anI fun t1=>anI fun k1=>anI fun f1=>anI fun s1=>anI fun z1=>anI fun y1=>anI fun x1=>anI fun e2=>fun n2=>?_) hM
    refine hs.at q [0] [] (fJ qJ Z (Jc.calls HS (rD 15 r_a) (rD 15 r_b) (rD 15 r_c) h18) (fun _ wd28 ⟨A19,c20,y21,A22,c23,y24,A25,c26,y27,h29,HS⟩=>⟨_,h29,(hs.Tz q [1] (fun _ hs=>⟨A19,c20,y21,A22,c23,y24,A25,c26,y27,A45,c46,y47,A48,c49,A50,c51,A52,c53,A54,c55,A56,c57,A65,c66,y67,A68,c69,y70,A71,c72,y73,b76,Own Aa 62 A19 c20 y21 t15,Own (Ty.slice 62 Aa) 44 A22 c23 y24 t16,Own (Ty.slice 62 Aa) 44 A25 c26 y27 t17,_,_,_,_,_,_,_,_,_,_,hs,HS.pk 18 [3,4,0,1,2,8,9,10,11,12,13,14,15,16,17] Z,fun _=>Z,fun _=>Z,fun _=>Z,v1,e1,t1,k1,f1,s1,z1,y1,x1,e2,n2⟩) Z Z)⟩))
   | 2,_ =>
    refine hs.at q [] [] (lW 0 HS Z nY (hs.fin q Z fun _ hs=>⟨_,_,_,_,_,_,_,_,_,_,_,_,_,_,_,_,_,_,_,_,_,_,_,_,_,_,_,_,_,_,_,_,_,_,_,_,_,_,_,_,_,_,_,_,_,hs,hM⟩))
   | 3,_ =>
    refine (anI fun HS=>anI fun q1=>anI fun u1=>anI fun c1=>anI fun v1=>anI fun e1=>anI fun t1=>anI fun k1=>anI fun f1=>anI fun s1=>anI fun z1=>anI fun y1=>anI fun x1=>anI fun e2=>fun n2=>?_) hM
    refine hs.at q [2] [] (fJ rX Z (H7.calls HS (rD 15 r_d) (rD 15 r_e) (rD 15 r_f) (rD 15 r_g) (rD 15 r_h) (rD 15 r_i) h44) (fun _ wd58 ⟨A45,c46,y47,A48,c49,A50,c51,A52,c53,A54,c55,A56,c57,h59,HS⟩=>⟨_,h59,(hs.Tz q [3] (fun _ hs=>⟨A19,c20,y21,A22,c23,y24,A25,c26,y27,A45,c46,y47,A48,c49,A50,c51,A52,c53,A54,c55,A56,c57,A65,c66,y67,A68,c69,y70,A71,c72,y73,b76,_,_,_,Own (Ty.slice 168 Az) 161 A45 c46 y47 t34,Own Au 163 A48 c49 uu t35,Own (Bi .i64) 2 A50 c51 uu t38,Own Ci 153 A52 c53 uu t41,Own (Bi .i64) 2 A54 c55 uu t42,Own (Bi .i64) 2 A56 c57 uu t43,_,_,_,_,hs,HS.pk 21 [6,7,8,9,10,0,1,2,3,4,5,17,18,19,20] Z,q1,u1,c1,fun _=>Z,fun _=>Z,fun _=>Z,fun _=>Z,fun _=>Z,fun _=>Z,z1,y1,x1,e2,n2⟩) Z Z)⟩))
   | 4,_ =>
    refine (anI fun HS=>anI fun q1=>anI fun u1=>anI fun c1=>anI fun v1=>anI fun e1=>anI fun t1=>anI fun k1=>anI fun f1=>anI fun s1=>anI fun z1=>anI fun y1=>anI fun x1=>anI fun e2=>fun n2=>?_) hM
    have hb1:=q.on 1
    obtain rfl:=q1 hb1
    obtain rfl:=u1 hb1
    obtain rfl:=c1 hb1
    have hb3:=q.on 3
    obtain rfl:=v1 hb3
    obtain rfl:=e1 hb3
    obtain rfl:=t1 hb3
    obtain rfl:=k1 hb3
    obtain rfl:=f1 hb3
    obtain rfl:=s1 hb3
    refine hs.at q [1,3] [] (fJ Abf Z (Jn.calls HS (ro 2 Z) (ro 3 Z) (ro 4 Z) (ro 5 Z) (ro 6 Z) (ro 7 Z) (ro 8 Z) (ro 9 Z) (ro 10 Z) h64) (fun _ wd74 ⟨A65,c66,y67,A68,c69,y70,A71,c72,y73,h75,HS⟩=>⟨_,h75,(hs.Tz q [4,5,6] (fun _ hs=>⟨A19,c20,y21,A22,c23,y24,A25,c26,y27,A45,c46,y47,A48,c49,A50,c51,A52,c53,A54,c55,A56,c57,A65,c66,y67,A68,c69,y70,A71,c72,y73,b76,_,_,_,_,_,_,_,_,_,Own Aa 62 A65 c66 y67 t60,Own (Ty.slice 62 Aa) 44 A68 c69 y70 t61,Own (Ty.slice 62 Aa) 44 A71 c72 y73 t62,_,hs,HS.pk 18 [3,4,5,6,7,8,9,10,11,12,13,0,1,2,17] Z,q1,u1,c1,v1,e1,t1,k1,f1,s1,fun _=>Z,fun _=>Z,fun _=>Z,e2,fun hh=>(q.no 9 hh).elim⟩) Z Z)⟩))
   | 5,_ =>
    refine hs.at q [4] [] (mV Z (hs.fin q Z fun _ hs=>⟨_,_,_,_,_,_,_,_,_,_,_,_,_,_,_,_,_,_,_,_,_,_,_,_,_,_,_,_,_,_,_,_,_,_,_,_,_,_,_,_,_,_,_,_,_,hs,hM⟩))
   | 6,_ =>
    refine hs.at q [5] [] (GO.extract Z Z Z Z (hs.fin q Z fun _ hs=>⟨_,_,_,_,_,_,_,_,_,_,_,_,_,_,_,_,_,_,_,_,_,_,_,_,_,_,_,_,_,_,_,_,_,_,_,_,_,_,_,_,_,_,_,_,_,hs,hM⟩))
   | 7,_ =>
    refine hs.at q [5] [] (GO.extract Z Z Z Z (hs.fin q Z fun _ hs=>⟨_,_,_,_,_,_,_,_,_,_,_,_,_,_,_,_,_,_,_,_,_,_,_,_,_,_,_,_,_,_,_,_,_,_,_,_,_,_,_,_,_,_,_,_,_,hs,hM⟩))
   | 8,_ =>
    refine (anI fun HS=>anI fun q1=>anI fun u1=>anI fun c1=>anI fun v1=>anI fun e1=>anI fun t1=>anI fun k1=>anI fun f1=>anI fun s1=>anI fun z1=>anI fun y1=>anI fun x1=>anI fun e2=>fun n2=>?_) hM
    refine hs.at q [] [] (GO.alloc HS Z Rs Z Z fun b76 wd77 HS=>hs.Tz q [8] (fun _ hs=>⟨A19,c20,y21,A22,c23,y24,A25,c26,y27,A45,c46,y47,A48,c49,A50,c51,A52,c53,A54,c55,A56,c57,A65,c66,y67,A68,c69,y70,A71,c72,y73,b76,_,_,_,_,_,_,_,_,_,_,_,_,Box b76 47 [.slice none 0 0,.slice none 0 0,.slice none 0 0],hs,HS.pk 16 [1,2,3,4,5,6,7,8,9,10,11,12,13,14,0] Z,q1,u1,c1,v1,e1,t1,k1,f1,s1,z1,y1,x1,fun _ _=>Z,fun hh=>(q.no 9 hh).elim⟩) Z Z)
   | 9,_ =>
    refine (anI fun HS=>anI fun q1=>anI fun u1=>anI fun c1=>anI fun v1=>anI fun e1=>anI fun t1=>anI fun k1=>anI fun f1=>anI fun s1=>anI fun z1=>anI fun y1=>anI fun x1=>anI fun e2=>fun n2=>?_) hM
    have hb8:=q.on 8
    obtain rfl:=e2 hb8 q.hb
    refine hs.at q [8,6] [] (sW 14 HS Z Eu Z fun wd78 HS=>hs.qO q Z fun _ hs=>⟨A19,c20,y21,A22,c23,y24,A25,c26,y27,A45,c46,y47,A48,c49,A50,c51,A52,c53,A54,c55,A56,c57,A65,c66,y67,A68,c69,y70,A71,c72,y73,b76,_,_,_,_,_,_,_,_,_,_,_,_,Box b76 47 [sV A65 t60 c66,sV A68 t61 c69,sV A71 t62 c72],hs,HS,q1,u1,c1,v1,e1,t1,k1,f1,s1,z1,y1,x1,fun _ h=>Bool.noConfusion h,fun _=>Z⟩)
   | 10,_ =>
    refine hs.at q [7] [] (aS Z (hs.fin q Z fun _ hs=>⟨_,_,_,_,_,_,_,_,_,_,_,_,_,_,_,_,_,_,_,_,_,_,_,_,_,_,_,_,_,_,_,_,_,_,_,_,_,_,_,_,_,_,_,_,_,hs,hM⟩))
   | k+11,hj=>exact absurd hj (Nat.not_lt.2 (Nat.le_add_left 11 k))
  ·
   intro b a w hall
   refine exI fun A19=>exI fun c20=>exI fun y21=>exI fun A22=>exI fun c23=>exI fun y24=>exI fun A25=>exI fun c26=>exI fun y27=>exI fun A45=>exI fun c46=>exI fun y47=>exI fun A48=>exI fun c49=>exI fun A50=>exI fun c51=>exI fun A52=>exI fun c53=>exI fun A54=>exI fun c55=>exI fun A56=>exI fun c57=>exI fun A65=>exI fun c66=>exI fun y67=>exI fun A68=>exI fun c69=>exI fun y70=>exI fun A71=>exI fun c72=>exI fun y73=>exI fun b76=>exI fun y3=>exI fun g3=>exI fun u3=>exI fun r3=>exI fun e3=>exI fun k3=>exI fun f3=>exI fun s3=>exI fun z3=>exI fun b4=>exI fun v3=>exI fun n3=>exI fun c3=>anI fun hs=>anI fun HS=>anI fun q1=>anI fun u1=>anI fun c1=>anI fun v1=>anI fun e1=>anI fun t1=>anI fun k1=>anI fun f1=>anI fun s1=>anI fun z1=>anI fun y1=>anI fun x1=>anI fun e2=>fun n2=>?_
   obtain rfl:=q1 (hall 1 (by decide))
   obtain rfl:=u1 (hall 1 (by decide))
   obtain rfl:=c1 (hall 1 (by decide))
   obtain rfl:=v1 (hall 3 (by decide))
   obtain rfl:=e1 (hall 3 (by decide))
   obtain rfl:=t1 (hall 3 (by decide))
   obtain rfl:=k1 (hall 3 (by decide))
   obtain rfl:=f1 (hall 3 (by decide))
   obtain rfl:=s1 (hall 3 (by decide))
   obtain rfl:=z1 (hall 4 (by decide))
   obtain rfl:=y1 (hall 4 (by decide))
   obtain rfl:=x1 (hall 4 (by decide))
   obtain rfl:=n2 (hall 9 (by decide))
   refine G.at (hs.all hall) (sQ ?_)
   obtain ⟨t79,t80,t81,h82,H⟩:=M5 H
   refine rG (lW 1 HS Z mG (fJ qJ Z (Jc.calls HS (rD 15 r_a) (rD 15 r_b) (rD 15 r_c) h82) (fun _ wd92 ⟨A83,c84,y85,A86,c87,y88,A89,c90,y91,h93,HS⟩=>⟨_,h93,(GO.alloc HS Z Rs Z Z fun b94 wd95 HS=>sW 0 HS Z Eu Z fun wd96 HS=>nL (sQ ?_))⟩)))
   obtain ⟨t97,t98,t99,t100,t101,t102,t103,t104,t105,t106,t107,t108,t109,t110,h111,H⟩:=Ra H
   refine rG (lW 4 HS Z nY (fJ rX Z (H7.calls HS (rD 19 r_d) (rD 19 r_e) (rD 19 r_f) (rD 19 r_g) (rD 19 r_h) (rD 19 r_i) h111) (fun _ wd125 ⟨A112,c113,y114,A115,c116,A117,c118,A119,c120,A121,c122,A123,c124,h126,HS⟩=>⟨_,h126,(GO.alloc HS Z vD Z Z fun b127 wd128 HS=>sW 0 HS Z bN Z fun wd129 HS=>nL (sQ ?_))⟩)))
   obtain ⟨t130,t131,t132,t133,h134,H⟩:=Hz H
   refine rG (lW 7 HS Z Eu (lW 0 HS Z bN (fJ Aav Z (Il.calls HS (ro 8 Z) (ro 9 Z) (ro 10 Z) (ro 1 Z) (ro 2 Z) (ro 3 Z) (ro 4 Z) (ro 5 Z) (ro 6 Z) h134) (fun _ wd144 ⟨A135,c136,y137,A138,c139,y140,A141,c142,y143,h145,HS⟩=>⟨_,h145,(pS 3 Z (GO.alloc HS Z Rs Z Z fun b146 wd147 HS=>sW 0 HS Z Eu Z fun wd148 HS=>aS Z (nL (rN 2 Z ?_))))⟩))))
   obtain ⟨t154,h155,H⟩:=bI H
   rcases iS H with ⟨c158,H⟩ | ⟨c158,H⟩
   ·
    refine rG (lW 0 HS Z Eu (lW 29 HS Z Eu (fJ Xz Z (Hr.calls HS (ro 1 Z) (ro 2 Z) (ro 3 Z) (ro 26 Z) (ro 27 Z) (ro 28 Z) h155) (fun _ wd156 ⟨h157,HS⟩=>⟨_,h157,(pS 2 Z (kN 49 Z (congrArg Bool.not (Bt c158)) (oF Z (oF Z (oF Z (GO.Ii Z Z Z Z Z (nL (rN 3 Z ?_))))))))⟩))))
    obtain rfl:=sI H
    exact rT _ func3 Z Z ⟨Z,(HS.pk 30 [] Z)⟩
   refine rG (lW 0 HS Z Eu (lW 29 HS Z Eu (fJ Xz Z (Hr.calls HS (ro 1 Z) (ro 2 Z) (ro 3 Z) (ro 26 Z) (ro 27 Z) (ro 28 Z) h155) (fun _ wd156 ⟨h157,HS⟩=>⟨_,h157,(pS 2 Z (kN 49 Z (congrArg Bool.not c158) (oN Z (mV Z (bK (oN Z (mV Z (bK (oN Z (GO.neq Z Z Z Z (bK ?_)))))))))))⟩))))
   refine GO.Ki Z Z Z Z Z (nL ?_)
   rcases iS H with ⟨c159,H⟩ | ⟨c159,H⟩
   ·
    refine yB Z (nF c159) (rN 2 Z ?_)
    obtain rfl:=sI H
    exact rT _ func3 Z Z ⟨Z,(HS.pk 30 [] Z)⟩
   refine nB Z (nT c159) (rN 3 Z ?_)
   obtain ⟨t160,t161,t162,h163,H⟩:=M5 H
   obtain ⟨t175,h176,H⟩:=bI H
   refine G.O7 mixed (fun w=>St w0 w (Box b94 47 [sV A83 t79 c84,sV A86 t80 c87,sV A89 t81 c90]::Box b1 25 [sV A_a k2 c_a,sV A_b h2 c_b,sV A_c m2 c_c]::L)) [0,1] [0,1,2,3,4] [] (by kernel_rfl) (by kernel_rfl) (HS.drew.pk 30 [11,16] Z) ?_
   replace HS:=HS.drew
   refine GX.ls Z Z Z (HS.pk 30 [11,16] Z) (fun _ HS _ g=>lW 0 HS Z Eu g) Z (GX.ls Z Z Z (HS.pk 30 [11,16] Z) (fun _ HS _ g=>lW 1 HS Z mG g) Z (GX.l2 Z (fJ qJ Z (Jc.calls HS (rD 30 r_a) (rD 30 r_b) (rD 30 r_c) h163) (fun _ wd173 ⟨A164,c165,y166,A167,c168,y169,A170,c171,y172,h174,HS⟩=>⟨_,h174,(GX.fin (HS.pk 33 [14,19] Z) (GX.l2 Z (fJ Xz Z (Hr.calls HS (ro 15 Z) (ro 16 Z) (ro 17 Z) (ro 0 Z) (ro 1 Z) (ro 2 Z) h176) (fun _ wd177 ⟨h178,HS⟩=>⟨_,h178,(GX.fin (HS.pk 33 [14,19] Z) (GX.ps 1 Z (GX.nil ?_)))⟩))))⟩))))
   rcases iS H with ⟨c179,H⟩ | ⟨c179,H⟩
   ·
    refine yB Z (congrArg Bool.not (Bt c179)) (rN 2 Z ?_)
    obtain rfl:=sI H
    exact rT _ func3 Z Z ⟨Z,(HS.pk 33 [] Z)⟩
   refine nB Z (congrArg Bool.not c179) (rN 3 Z ?_)
   obtain ⟨t180,t181,t182,t183,t184,t185,t186,t187,t188,t189,t190,t191,t192,t193,h194,H⟩:=Ra H
   obtain ⟨t210,h211,H⟩:=bI H
   refine G.O7 mixed (fun w=>St w0 w (Box b127 64 [I t97,.string t98,.string t99,I t100,sV A112 t101 c113,sV A115 t102 c116,I t103,I t104,sV A117 t105 c118,I t106,I t107,sV A119 t108 c120,sV A121 t109 c122,sV A123 t110 c124]::Box b3 41 [I s2,.string u2,.string t2,I z2,sV A_d i2 c_d,sV A_e o2 c_e,I y2,I x2,sV A_f g2 c_f,I a3,I v2,sV A_g r2 c_g,sV A_h f2 c_h,sV A_i p2 c_i]::L)) [0,1] [0,1,2,3,4] [] (by kernel_rfl) (by kernel_rfl) (HS.drew.pk 33 [7,18] Z) ?_
   replace HS:=HS.drew
   refine GX.ls Z Z Z (HS.pk 33 [7,18] Z) (fun _ HS _ g=>lW 0 HS Z bN g) Z (GX.ls Z Z Z (HS.pk 33 [7,18] Z) (fun _ HS _ g=>lW 1 HS Z nY g) Z (GX.l2 Z (fJ rX Z (H7.calls HS (rD 33 r_d) (rD 33 r_e) (rD 33 r_f) (rD 33 r_g) (rD 33 r_h) (rD 33 r_i) h194) (fun _ wd208 ⟨A195,c196,y197,A198,c199,A200,c201,A202,c203,A204,c205,A206,c207,h209,HS⟩=>⟨_,h209,(GX.fin (HS.pk 39 [13,24] Z) (GX.l2 Z (fJ Aa6 Z (K9.calls HS (ro 14 Z) (ro 15 Z) (ro 16 Z) (ro 17 Z) (ro 18 Z) (ro 19 Z) (ro 0 Z) (ro 1 Z) (ro 2 Z) (ro 3 Z) (ro 4 Z) (ro 5 Z) h211) (fun _ wd212 ⟨h213,HS⟩=>⟨_,h213,(GX.fin (HS.pk 39 [13,24] Z) (GX.ps 1 Z (GX.nil ?_)))⟩))))⟩))))
   rcases iS H with ⟨c214,H⟩ | ⟨c214,H⟩
   ·
    refine yB Z (congrArg Bool.not (Bt c214)) (rN 2 Z ?_)
    obtain rfl:=sI H
    exact rT _ func3 Z Z ⟨Z,(HS.pk 39 [] Z)⟩
   refine nB Z (congrArg Bool.not c214) (rN 4 Z ?_)
   obtain ⟨t215,t216,t217,t218,h219,H⟩:=Hz H
   obtain ⟨c220,H⟩:=iN H
   obtain ⟨c221,H⟩:=iN H
   obtain ⟨c222,H⟩:=iN H
   refine rG (lW 20 HS Z Eu (mV Z ?_))
   replace HS:=HS.pk 39 [21,22,23,0,1,2,3,4,5,6,7,8,9,10,11,12,13,14,15,16,17,18,19,20,24,25,26,27,28,29,30,31,32,33,34,35,36,37,38] Z
   refine fJ sU Z (J3.calls HS  h219) (fun _ wd223 ⟨h224,HS⟩=>⟨_,h224,(aS Z (nL ?_))⟩)
   replace HS:=HS.Li (j:=23) (cs':=[sV A83 t216 c84,sV A86 t80 c87,sV A89 t81 c90]) Z (by simp only [sV,List.length_set,c220,c221,c222] <;> rfl)
   replace HS:=HS.Li (j:=23) (cs':=[sV A83 t216 c84,sV A86 t217 c87,sV A89 t81 c90]) Z (by simp only [sV,List.length_set,c220,c221,c222] <;> rfl)
   replace HS:=HS.Li (j:=23) (cs':=[sV A83 t216 c84,sV A86 t217 c87,sV A89 t218 c90]) Z (by simp only [sV,List.length_set,c220,c221,c222] <;> rfl)
   refine sQ ?_
   obtain ⟨t225,t226,t227,t228,t229,t230,t231,h232,H⟩:=Xk H
   obtain ⟨c233,H⟩:=iN H
   obtain ⟨c234,H⟩:=iN H
   obtain ⟨c235,H⟩:=iN H
   obtain ⟨c236,H⟩:=iN H
   obtain ⟨c237,H⟩:=iN H
   obtain ⟨c238,H⟩:=iN H
   refine rG (lW 16 HS Z bN (mV Z ?_))
   replace HS:=HS.pk 39 [17,18,19,20,21,22,0,1,2,3,4,5,6,7,8,9,10,11,12,13,14,15,16,23,24,25,26,27,28,29,30,31,32,33,34,35,36,37,38] Z
   refine fJ AaD Z (J8.calls HS  h232) (fun _ wd239 ⟨h240,HS⟩=>⟨_,h240,(aS Z (nL ?_))⟩)
   replace HS:=HS.Li (j:=22) (cs':=[I t97,.string t98,.string t99,I t100,sV A112 t226 c113,sV A115 t102 c116,I t103,I t104,sV A117 t105 c118,I t106,I t107,sV A119 t108 c120,sV A121 t109 c122,sV A123 t110 c124]) Z (by simp only [sV,List.length_set,c233,c234,c235,c236,c237,c238] <;> rfl)
   replace HS:=HS.Li (j:=22) (cs':=[I t97,.string t98,.string t99,I t100,sV A112 t226 c113,sV A115 t227 c116,I t103,I t104,sV A117 t105 c118,I t106,I t107,sV A119 t108 c120,sV A121 t109 c122,sV A123 t110 c124]) Z (by simp only [sV,List.length_set,c233,c234,c235,c236,c237,c238] <;> rfl)
   replace HS:=HS.Li (j:=22) (cs':=[I t97,.string t98,.string t99,I t100,sV A112 t226 c113,sV A115 t227 c116,I t103,I t104,sV A117 t228 c118,I t106,I t107,sV A119 t108 c120,sV A121 t109 c122,sV A123 t110 c124]) Z (by simp only [sV,List.length_set,c233,c234,c235,c236,c237,c238] <;> rfl)
   replace HS:=HS.Li (j:=22) (cs':=[I t97,.string t98,.string t99,I t100,sV A112 t226 c113,sV A115 t227 c116,I t103,I t104,sV A117 t228 c118,I t106,I t107,sV A119 t229 c120,sV A121 t109 c122,sV A123 t110 c124]) Z (by simp only [sV,List.length_set,c233,c234,c235,c236,c237,c238] <;> rfl)
   replace HS:=HS.Li (j:=22) (cs':=[I t97,.string t98,.string t99,I t100,sV A112 t226 c113,sV A115 t227 c116,I t103,I t104,sV A117 t228 c118,I t106,I t107,sV A119 t229 c120,sV A121 t230 c122,sV A123 t110 c124]) Z (by simp only [sV,List.length_set,c233,c234,c235,c236,c237,c238] <;> rfl)
   replace HS:=HS.Li (j:=22) (cs':=[I t97,.string t98,.string t99,I t100,sV A112 t226 c113,sV A115 t227 c116,I t103,I t104,sV A117 t228 c118,I t106,I t107,sV A119 t229 c120,sV A121 t230 c122,sV A123 t231 c124]) Z (by simp only [sV,List.length_set,c233,c234,c235,c236,c237,c238] <;> rfl)
   refine rN 2 Z ?_
   rcases iE H with ⟨c247,H⟩ | ⟨c247,H⟩
   ·
    refine rG (pS 3 Z (kN 72 Z (tT c247) (oF Z (oF Z (oF Z (oF Z (pS 2 Z (oF Z (oF Z (oF Z (GO.Ii Z Z Z Z Z (nL (rN 3 Z ?_)))))))))))))
    obtain rfl:=sI H
    exact rT _ func3 Z Z ⟨Z,(HS.pk 39 [] Z)⟩
   obtain ⟨t248,h249,H⟩:=bI H
   rcases iS H with ⟨c252,H⟩ | ⟨c252,H⟩
   ·
    refine rG (pS 3 Z (kN 72 Z (tF c247) (oN Z (lW 18 HS Z Eu (bK (oN Z (lW 38 HS Z Eu (bK (oN Z (fJ Xz Z (Hr.calls HS (ro 19 Z) (ro 20 Z) (ro 21 Z) (ro 35 Z) (ro 36 Z) (ro 37 Z) h249) (fun _ wd250 ⟨h251,HS⟩=>⟨_,h251,(bK (oN Z (GO.not Z Z Z (bK ?_))))⟩)))))))))))
    refine pS 2 Z (kN 78 Z (congrArg Bool.not (Bt c252)) (oF Z (oF Z (oF Z (GO.Ii Z Z Z Z Z (nL (rN 3 Z ?_)))))))
    obtain rfl:=sI H
    exact rT _ func3 Z Z ⟨Z,(HS.pk 39 [] Z)⟩
   refine rG (pS 3 Z (kN 72 Z (tF c247) (oN Z (lW 18 HS Z Eu (bK (oN Z (lW 38 HS Z Eu (bK (oN Z (fJ Xz Z (Hr.calls HS (ro 19 Z) (ro 20 Z) (ro 21 Z) (ro 35 Z) (ro 36 Z) (ro 37 Z) h249) (fun _ wd250 ⟨h251,HS⟩=>⟨_,h251,(bK (oN Z (GO.not Z Z Z (bK ?_))))⟩)))))))))))
   refine pS 2 Z (kN 78 Z (congrArg Bool.not c252) (oN Z (mV Z (bK (oN Z (mV Z (bK (oN Z (GO.neq Z Z Z Z (bK (GO.Ki Z Z Z Z Z (nL (nB Z (nT c159) (rN 4 Z ?_))))))))))))))
   obtain ⟨t253,t254,t255,t256,h257,H⟩:=Hz H
   obtain ⟨c258,H⟩:=iN H
   obtain ⟨c259,H⟩:=iN H
   obtain ⟨c260,H⟩:=iN H
   refine rG (lW 18 HS Z Eu (mV Z ?_))
   replace HS:=HS.pk 39 [19,20,21,0,1,2,3,4,5,6,7,8,9,10,11,12,13,14,15,16,17,18,22,23,24,25,26,27,28,29,30,31,32,33,34,35,36,37,38] Z
   refine fJ sU Z (J3.calls HS  h257) (fun _ wd261 ⟨h262,HS⟩=>⟨_,h262,(aS Z (nL ?_))⟩)
   replace HS:=HS.Li (j:=21) (cs':=[sV A135 t254 c136,sV A138 t131 c139,sV A141 t132 c142]) Z (by simp only [sV,List.length_set,c258,c259,c260] <;> rfl)
   replace HS:=HS.Li (j:=21) (cs':=[sV A135 t254 c136,sV A138 t255 c139,sV A141 t132 c142]) Z (by simp only [sV,List.length_set,c258,c259,c260] <;> rfl)
   replace HS:=HS.Li (j:=21) (cs':=[sV A135 t254 c136,sV A138 t255 c139,sV A141 t256 c142]) Z (by simp only [sV,List.length_set,c258,c259,c260] <;> rfl)
   refine rN 3 Z ?_
   obtain ⟨t263,h264,H⟩:=bI H
   refine rG (lW 21 HS Z Eu (mV Z (fJ uC Z (J5.calls HS (ro 0 Z) (ro 1 Z) (ro 2 Z) h264) (fun _ wd265 ⟨h266,HS⟩=>⟨_,h266,(aS Z (nL (rN 3 Z ?_)))⟩))))
   rcases iE H with ⟨c267,H⟩ | ⟨c267,H⟩
   ·
    refine yB Z (tT c267) (rN 2 Z ?_)
    obtain rfl:=sI H
    exact rT _ func3 Z Z ⟨Z,(HS.pk 39 [] Z)⟩
   refine nB Z (tF c267) (rN 4 Z ?_)
   rcases iS H with ⟨c268,H⟩ | ⟨c268,H⟩
   ·
    refine yB Z (nF c268) (rN 2 Z ?_)
    obtain rfl:=sI H
    exact rT _ func3 Z Z ⟨Z,(HS.pk 39 [] Z)⟩
   refine nB Z (nT c268) (rN 2 Z ?_)
   obtain ⟨t269,t270,t271,h272,H⟩:=M5 H
   obtain ⟨t284,t285,t286,t287,t288,t289,t290,t291,t292,t293,t294,t295,t296,t297,h298,H⟩:=Ra H
   obtain ⟨t314,t315,t316,t317,h318,H⟩:=Hz H
   refine G.Rp mixed (by decide) (fun b a w=>∃ (A273:Option Addr) (c274:Nat) (y275:Nat→Aa.Lay) (A276:Option Addr) (c277:Nat) (y278:Nat→(Ty.slice 62 Aa).Lay) (A279:Option Addr) (c280:Nat) (y281:Nat→(Ty.slice 62 Aa).Lay) (A299:Option Addr) (c300:Nat) (y301:Nat→(Ty.slice 168 Az).Lay) (A302:Option Addr) (c303:Nat) (A304:Option Addr) (c305:Nat) (A306:Option Addr) (c307:Nat) (A308:Option Addr) (c309:Nat) (A310:Option Addr) (c311:Nat) (A319:Option Addr) (c320:Nat) (y321:Nat→Aa.Lay) (A322:Option Addr) (c323:Nat) (y324:Nat→(Ty.slice 62 Aa).Lay) (A325:Option Addr) (c326:Nat) (y327:Nat→(Ty.slice 62 Aa).Lay) (b330:Nat) (t3:Cn) (m3:Cn) (p3:Cn) (o3:Cn) (q3:Cn) (x3:Cn) (i3:Cn) (j3:Cn) (h3:Cn) (c4:Cn) (a4:Cn) (l3:Cn) (d3:Cn),RS 119 [(2,pT b1),(3,pT b3),(6,pT b76),(7,I t63),(10,pT b146),(13,I t253)] [rv 95 (.agg [sV A_a k2 c_a,sV A_b h2 c_b,sV A_c m2 c_c].toArray),rv 96 (.agg [sV A273 t269 c274,sV A276 t270 c277,sV A279 t271 c280].toArray),rv 97 (.agg [I s2,.string u2,.string t2,I z2,sV A_d i2 c_d,sV A_e o2 c_e,I y2,I x2,sV A_f g2 c_f,I a3,I v2,sV A_g r2 c_g,sV A_h f2 c_h,sV A_i p2 c_i].toArray),rv 98 (.agg [I t284,.string t285,.string t286,I t287,sV A299 t288 c300,sV A302 t289 c303,I t290,I t291,sV A304 t292 c305,I t293,I t294,sV A306 t295 c307,sV A308 t296 c309,sV A310 t297 c311].toArray),rv 99 (.tuple #[.agg [sV A319 t314 c320,sV A322 t315 c323,sV A325 t316 c326].toArray,I t317]),rv 94 (.tuple #[.agg [sV A319 t314 c320,sV A322 t315 c323,sV A325 t316 c326].toArray,I t317]),rv 100 (.agg [sV A319 t314 c320,sV A322 t315 c323,sV A325 t316 c326].toArray),rv 101 (I t317),rv 15 (pT b330),none,rv 16 (I t317)] b a∧St w0 w (Own Aa 62 A135 c136 y137 t254::Own (Ty.slice 62 Aa) 44 A138 c139 y140 t255::Own (Ty.slice 62 Aa) 44 A141 c142 y143 t256::Own (Ty.slice 168 Az) 161 A112 c113 y114 t226::Own Au 163 A115 c116 uu t227::Own (Bi .i64) 2 A117 c118 uu t228::Own Ci 153 A119 c120 uu t229::Own (Bi .i64) 2 A121 c122 uu t230::Own (Bi .i64) 2 A123 c124 uu t231::Own Aa 62 A83 c84 y85 t216::Own (Ty.slice 62 Aa) 44 A86 c87 y88 t217::Own (Ty.slice 62 Aa) 44 A89 c90 y91 t218::Own (Ty.slice 168 Az) 161 A195 c196 y197 t184::Own Au 163 A198 c199 uu t185::Own (Bi .i64) 2 A200 c201 uu t188::Own Ci 153 A202 c203 uu t191::Own (Bi .i64) 2 A204 c205 uu t192::Own (Bi .i64) 2 A206 c207 uu t193::Own Aa 62 A164 c165 y166 t160::Own (Ty.slice 62 Aa) 44 A167 c168 y169 t161::Own (Ty.slice 62 Aa) 44 A170 c171 y172 t162::Box b146 47 [sV A135 t254 c136,sV A138 t255 c139,sV A141 t256 c142]::Box b127 64 [I t97,.string t98,.string t99,I t100,sV A112 t226 c113,sV A115 t227 c116,I t103,I t104,sV A117 t228 c118,I t106,I t107,sV A119 t229 c120,sV A121 t230 c122,sV A123 t231 c124]::Box b94 47 [sV A83 t216 c84,sV A86 t217 c87,sV A89 t218 c90]::Box b3 41 [I s2,.string u2,.string t2,I z2,sV A_d i2 c_d,sV A_e o2 c_e,I y2,I x2,sV A_f g2 c_f,I a3,I v2,sV A_g r2 c_g,sV A_h f2 c_h,sV A_i p2 c_i]::Box b1 25 [sV A_a k2 c_a,sV A_b h2 c_b,sV A_c m2 c_c]::Own Aa 62 A19 c20 y21 t15::Own (Ty.slice 62 Aa) 44 A22 c23 y24 t16::Own (Ty.slice 62 Aa) 44 A25 c26 y27 t17::Own (Ty.slice 168 Az) 161 A45 c46 y47 t34::Own Au 163 A48 c49 uu t35::Own (Bi .i64) 2 A50 c51 uu t38::Own Ci 153 A52 c53 uu t41::Own (Bi .i64) 2 A54 c55 uu t42::Own (Bi .i64) 2 A56 c57 uu t43::Own Aa 62 A65 c66 y67 t60::Own (Ty.slice 62 Aa) 44 A68 c69 y70 t61::Own (Ty.slice 62 Aa) 44 A71 c72 y73 t62::Box b76 47 [sV A65 t60 c66,sV A68 t61 c69,sV A71 t62 c72]::t3::m3::p3::o3::q3::x3::i3::j3::h3::c4::a4::l3::d3::L)∧(b 1=true→t3=Own Aa 62 A273 c274 y275 t269)∧(b 1=true→m3=Own (Ty.slice 62 Aa) 44 A276 c277 y278 t270)∧(b 1=true→p3=Own (Ty.slice 62 Aa) 44 A279 c280 y281 t271)∧(b 3=true→o3=Own (Ty.slice 168 Az) 161 A299 c300 y301 t288)∧(b 3=true→q3=Own Au 163 A302 c303 uu t289)∧(b 3=true→x3=Own (Bi .i64) 2 A304 c305 uu t292)∧(b 3=true→i3=Own Ci 153 A306 c307 uu t295)∧(b 3=true→j3=Own (Bi .i64) 2 A308 c309 uu t296)∧(b 3=true→h3=Own (Bi .i64) 2 A310 c311 uu t297)∧(b 4=true→c4=Own Aa 62 A319 c320 y321 t314)∧(b 4=true→a4=Own (Ty.slice 62 Aa) 44 A322 c323 y324 t315)∧(b 4=true→l3=Own (Ty.slice 62 Aa) 44 A325 c326 y327 t316)∧(b 8=true→b 9=false→d3=Box b330 47 [.slice none 0 0,.slice none 0 0,.slice none 0 0])∧(b 9=true→d3=Box b330 47 [sV A319 t314 c320,sV A322 t315 c323,sV A325 t316 c326])) ?_ ?_ ?_
   · exact fun a hs=>⟨none,0,(fun _=>Bh),none,0,(fun _=>⟨none,0,(fun _=>Bh)⟩),none,0,(fun _=>⟨none,0,(fun _=>Bh)⟩),none,0,(fun _=>⟨none,0,uu⟩),none,0,none,0,none,0,none,0,none,0,none,0,(fun _=>Bh),none,0,(fun _=>⟨none,0,(fun _=>Bh)⟩),none,0,(fun _=>⟨none,0,(fun _=>Bh)⟩),0,Emp,Emp,Emp,Emp,Emp,Emp,Emp,Emp,Emp,Emp,Emp,Emp,Emp,hs.init Z,(HS.drew.emp.emp.emp.emp.emp.emp.emp.emp.emp.emp.emp.emp.emp.pk 52 [13,14,15,16,17,18,19,20,21,22,23,24,25,26,27,28,29,30,31,32,33,34,35,36,37,38,39,40,41,42,43,44,45,46,47,48,49,50,51,12,11,10,9,8,7,6,5,4,3,2,1,0] Z),fun h=>Bool.noConfusion h,fun h=>Bool.noConfusion h,fun h=>Bool.noConfusion h,fun h=>Bool.noConfusion h,fun h=>Bool.noConfusion h,fun h=>Bool.noConfusion h,fun h=>Bool.noConfusion h,fun h=>Bool.noConfusion h,fun h=>Bool.noConfusion h,fun h=>Bool.noConfusion h,fun h=>Bool.noConfusion h,fun h=>Bool.noConfusion h,fun h=>Bool.noConfusion h,fun h=>Bool.noConfusion h⟩
   ·
    intro j b a w hj
    refine exI fun A273=>exI fun c274=>exI fun y275=>exI fun A276=>exI fun c277=>exI fun y278=>exI fun A279=>exI fun c280=>exI fun y281=>exI fun A299=>exI fun c300=>exI fun y301=>exI fun A302=>exI fun c303=>exI fun A304=>exI fun c305=>exI fun A306=>exI fun c307=>exI fun A308=>exI fun c309=>exI fun A310=>exI fun c311=>exI fun A319=>exI fun c320=>exI fun y321=>exI fun A322=>exI fun c323=>exI fun y324=>exI fun A325=>exI fun c326=>exI fun y327=>exI fun b330=>exI fun t3=>exI fun m3=>exI fun p3=>exI fun o3=>exI fun q3=>exI fun x3=>exI fun i3=>exI fun j3=>exI fun h3=>exI fun c4=>exI fun a4=>exI fun l3=>exI fun d3=>anI fun hs=>fun hM q=>?_
    have HS:=hM.1
    match j,hj with
    | 0,_ =>
     refine hs.at q [] [] (lW 25 HS Z mG (hs.fin q Z fun _ hs=>⟨_,_,_,_,_,_,_,_,_,_,_,_,_,_,_,_,_,_,_,_,_,_,_,_,_,_,_,_,_,_,_,_,_,_,_,_,_,_,_,_,_,_,_,_,_,hs,hM⟩))
    | 1,_ =>
     refine (anI fun HS=>anI fun h1=>anI fun a1=>anI fun i1=>anI fun m1=>anI fun g1=>anI fun o1=>anI fun d1=>anI fun n1=>anI fun p1=>anI fun c2=>anI fun a2=>anI fun b2=>anI fun d2=>fun q2=>?_) hM
     refine hs.at q [0] [] (fJ qJ Z (Jc.calls HS (rD 52 r_a) (rD 52 r_b) (rD 52 r_c) h272) (fun _ wd282 ⟨A273,c274,y275,A276,c277,y278,A279,c280,y281,h283,HS⟩=>⟨_,h283,(hs.Tz q [1] (fun _ hs=>⟨A273,c274,y275,A276,c277,y278,A279,c280,y281,A299,c300,y301,A302,c303,A304,c305,A306,c307,A308,c309,A310,c311,A319,c320,y321,A322,c323,y324,A325,c326,y327,b330,Own Aa 62 A273 c274 y275 t269,Own (Ty.slice 62 Aa) 44 A276 c277 y278 t270,Own (Ty.slice 62 Aa) 44 A279 c280 y281 t271,_,_,_,_,_,_,_,_,_,_,hs,HS.pk 55 [3,4,5,6,7,8,9,10,11,12,13,14,15,16,17,18,19,20,21,22,23,24,25,26,27,28,29,30,31,32,33,34,35,36,37,38,39,40,41,0,1,2,45,46,47,48,49,50,51,52,53,54] Z,fun _=>Z,fun _=>Z,fun _=>Z,m1,g1,o1,d1,n1,p1,c2,a2,b2,d2,q2⟩) Z Z)⟩))
    | 2,_ =>
     refine hs.at q [] [] (lW 24 HS Z nY (hs.fin q Z fun _ hs=>⟨_,_,_,_,_,_,_,_,_,_,_,_,_,_,_,_,_,_,_,_,_,_,_,_,_,_,_,_,_,_,_,_,_,_,_,_,_,_,_,_,_,_,_,_,_,hs,hM⟩))
    | 3,_ =>
     refine (anI fun HS=>anI fun h1=>anI fun a1=>anI fun i1=>anI fun m1=>anI fun g1=>anI fun o1=>anI fun d1=>anI fun n1=>anI fun p1=>anI fun c2=>anI fun a2=>anI fun b2=>anI fun d2=>fun q2=>?_) hM
     refine hs.at q [2] [] (fJ rX Z (H7.calls HS (rD 52 r_d) (rD 52 r_e) (rD 52 r_f) (rD 52 r_g) (rD 52 r_h) (rD 52 r_i) h298) (fun _ wd312 ⟨A299,c300,y301,A302,c303,A304,c305,A306,c307,A308,c309,A310,c311,h313,HS⟩=>⟨_,h313,(hs.Tz q [3] (fun _ hs=>⟨A273,c274,y275,A276,c277,y278,A279,c280,y281,A299,c300,y301,A302,c303,A304,c305,A306,c307,A308,c309,A310,c311,A319,c320,y321,A322,c323,y324,A325,c326,y327,b330,_,_,_,Own (Ty.slice 168 Az) 161 A299 c300 y301 t288,Own Au 163 A302 c303 uu t289,Own (Bi .i64) 2 A304 c305 uu t292,Own Ci 153 A306 c307 uu t295,Own (Bi .i64) 2 A308 c309 uu t296,Own (Bi .i64) 2 A310 c311 uu t297,_,_,_,_,hs,HS.pk 58 [6,7,8,9,10,11,12,13,14,15,16,17,18,19,20,21,22,23,24,25,26,27,28,29,30,31,32,33,34,35,36,37,38,39,40,41,42,43,44,45,46,47,0,1,2,3,4,5,54,55,56,57] Z,h1,a1,i1,fun _=>Z,fun _=>Z,fun _=>Z,fun _=>Z,fun _=>Z,fun _=>Z,c2,a2,b2,d2,q2⟩) Z Z)⟩))
    | 4,_ =>
     refine (anI fun HS=>anI fun h1=>anI fun a1=>anI fun i1=>anI fun m1=>anI fun g1=>anI fun o1=>anI fun d1=>anI fun n1=>anI fun p1=>anI fun c2=>anI fun a2=>anI fun b2=>anI fun d2=>fun q2=>?_) hM
     have hb1:=q.on 1
     obtain rfl:=h1 hb1
     obtain rfl:=a1 hb1
     obtain rfl:=i1 hb1
     have hb3:=q.on 3
     obtain rfl:=m1 hb3
     obtain rfl:=g1 hb3
     obtain rfl:=o1 hb3
     obtain rfl:=d1 hb3
     obtain rfl:=n1 hb3
     obtain rfl:=p1 hb3
     refine hs.at q [1,3] [] (fJ Aav Z (Il.calls HS (ro 39 Z) (ro 40 Z) (ro 41 Z) (ro 42 Z) (ro 43 Z) (ro 44 Z) (ro 45 Z) (ro 46 Z) (ro 47 Z) h318) (fun _ wd328 ⟨A319,c320,y321,A322,c323,y324,A325,c326,y327,h329,HS⟩=>⟨_,h329,(hs.Tz q [4,5,6] (fun _ hs=>⟨A273,c274,y275,A276,c277,y278,A279,c280,y281,A299,c300,y301,A302,c303,A304,c305,A306,c307,A308,c309,A310,c311,A319,c320,y321,A322,c323,y324,A325,c326,y327,b330,_,_,_,_,_,_,_,_,_,Own Aa 62 A319 c320 y321 t314,Own (Ty.slice 62 Aa) 44 A322 c323 y324 t315,Own (Ty.slice 62 Aa) 44 A325 c326 y327 t316,_,hs,HS.pk 55 [3,4,5,6,7,8,9,10,11,12,13,14,15,16,17,18,19,20,21,22,23,24,25,26,27,28,29,30,31,32,33,34,35,36,37,38,39,40,41,42,43,44,45,46,47,48,49,50,0,1,2,54] Z,h1,a1,i1,m1,g1,o1,d1,n1,p1,fun _=>Z,fun _=>Z,fun _=>Z,d2,fun hh=>(q.no 9 hh).elim⟩) Z Z)⟩))
    | 5,_ =>
     refine hs.at q [4] [] (mV Z (hs.fin q Z fun _ hs=>⟨_,_,_,_,_,_,_,_,_,_,_,_,_,_,_,_,_,_,_,_,_,_,_,_,_,_,_,_,_,_,_,_,_,_,_,_,_,_,_,_,_,_,_,_,_,hs,hM⟩))
    | 6,_ =>
     refine hs.at q [5] [] (GO.extract Z Z Z Z (hs.fin q Z fun _ hs=>⟨_,_,_,_,_,_,_,_,_,_,_,_,_,_,_,_,_,_,_,_,_,_,_,_,_,_,_,_,_,_,_,_,_,_,_,_,_,_,_,_,_,_,_,_,_,hs,hM⟩))
    | 7,_ =>
     refine hs.at q [5] [] (GO.extract Z Z Z Z (hs.fin q Z fun _ hs=>⟨_,_,_,_,_,_,_,_,_,_,_,_,_,_,_,_,_,_,_,_,_,_,_,_,_,_,_,_,_,_,_,_,_,_,_,_,_,_,_,_,_,_,_,_,_,hs,hM⟩))
    | 8,_ =>
     refine (anI fun HS=>anI fun h1=>anI fun a1=>anI fun i1=>anI fun m1=>anI fun g1=>anI fun o1=>anI fun d1=>anI fun n1=>anI fun p1=>anI fun c2=>anI fun a2=>anI fun b2=>anI fun d2=>fun q2=>?_) hM
     refine hs.at q [] [] (GO.alloc HS Z Rs Z Z fun b330 wd331 HS=>hs.Tz q [8] (fun _ hs=>⟨A273,c274,y275,A276,c277,y278,A279,c280,y281,A299,c300,y301,A302,c303,A304,c305,A306,c307,A308,c309,A310,c311,A319,c320,y321,A322,c323,y324,A325,c326,y327,b330,_,_,_,_,_,_,_,_,_,_,_,_,Box b330 47 [.slice none 0 0,.slice none 0 0,.slice none 0 0],hs,HS.pk 53 [1,2,3,4,5,6,7,8,9,10,11,12,13,14,15,16,17,18,19,20,21,22,23,24,25,26,27,28,29,30,31,32,33,34,35,36,37,38,39,40,41,42,43,44,45,46,47,48,49,50,51,0] Z,h1,a1,i1,m1,g1,o1,d1,n1,p1,c2,a2,b2,fun _ _=>Z,fun hh=>(q.no 9 hh).elim⟩) Z Z)
    | 9,_ =>
     refine (anI fun HS=>anI fun h1=>anI fun a1=>anI fun i1=>anI fun m1=>anI fun g1=>anI fun o1=>anI fun d1=>anI fun n1=>anI fun p1=>anI fun c2=>anI fun a2=>anI fun b2=>anI fun d2=>fun q2=>?_) hM
     have hb8:=q.on 8
     obtain rfl:=d2 hb8 q.hb
     refine hs.at q [8,6] [] (sW 51 HS Z Eu Z fun wd332 HS=>hs.qO q Z fun _ hs=>⟨A273,c274,y275,A276,c277,y278,A279,c280,y281,A299,c300,y301,A302,c303,A304,c305,A306,c307,A308,c309,A310,c311,A319,c320,y321,A322,c323,y324,A325,c326,y327,b330,_,_,_,_,_,_,_,_,_,_,_,_,Box b330 47 [sV A319 t314 c320,sV A322 t315 c323,sV A325 t316 c326],hs,HS,h1,a1,i1,m1,g1,o1,d1,n1,p1,c2,a2,b2,fun _ h=>Bool.noConfusion h,fun _=>Z⟩)
    | 10,_ =>
     refine hs.at q [7] [] (aS Z (hs.fin q Z fun _ hs=>⟨_,_,_,_,_,_,_,_,_,_,_,_,_,_,_,_,_,_,_,_,_,_,_,_,_,_,_,_,_,_,_,_,_,_,_,_,_,_,_,_,_,_,_,_,_,hs,hM⟩))
    | k+11,hj=>exact absurd hj (Nat.not_lt.2 (Nat.le_add_left 11 k))
   ·
    intro b a w hall
    refine exI fun A273=>exI fun c274=>exI fun y275=>exI fun A276=>exI fun c277=>exI fun y278=>exI fun A279=>exI fun c280=>exI fun y281=>exI fun A299=>exI fun c300=>exI fun y301=>exI fun A302=>exI fun c303=>exI fun A304=>exI fun c305=>exI fun A306=>exI fun c307=>exI fun A308=>exI fun c309=>exI fun A310=>exI fun c311=>exI fun A319=>exI fun c320=>exI fun y321=>exI fun A322=>exI fun c323=>exI fun y324=>exI fun A325=>exI fun c326=>exI fun y327=>exI fun b330=>exI fun t3=>exI fun m3=>exI fun p3=>exI fun o3=>exI fun q3=>exI fun x3=>exI fun i3=>exI fun j3=>exI fun h3=>exI fun c4=>exI fun a4=>exI fun l3=>exI fun d3=>anI fun hs=>anI fun HS=>anI fun h1=>anI fun a1=>anI fun i1=>anI fun m1=>anI fun g1=>anI fun o1=>anI fun d1=>anI fun n1=>anI fun p1=>anI fun c2=>anI fun a2=>anI fun b2=>anI fun d2=>fun q2=>?_
    obtain rfl:=h1 (hall 1 (by decide))
    obtain rfl:=a1 (hall 1 (by decide))
    obtain rfl:=i1 (hall 1 (by decide))
    obtain rfl:=m1 (hall 3 (by decide))
    obtain rfl:=g1 (hall 3 (by decide))
    obtain rfl:=o1 (hall 3 (by decide))
    obtain rfl:=d1 (hall 3 (by decide))
    obtain rfl:=n1 (hall 3 (by decide))
    obtain rfl:=p1 (hall 3 (by decide))
    obtain rfl:=c2 (hall 4 (by decide))
    obtain rfl:=a2 (hall 4 (by decide))
    obtain rfl:=b2 (hall 4 (by decide))
    obtain rfl:=q2 (hall 9 (by decide))
    refine G.at (hs.all hall) (rN 2 Z ?_)
    obtain ⟨t338,h339,H⟩:=bI H
    rcases iS H with ⟨c342,H⟩ | ⟨c342,H⟩
    ·
     refine rG (lW 51 HS Z Eu (lW 38 HS Z Eu (fJ Xz Z (Hr.calls HS (ro 48 Z) (ro 49 Z) (ro 50 Z) (ro 35 Z) (ro 36 Z) (ro 37 Z) h339) (fun _ wd340 ⟨h341,HS⟩=>⟨_,h341,(pS 2 Z (kN 106 Z (congrArg Bool.not (Bt c342)) (oF Z (oF Z (oF Z (GO.Ii Z Z Z Z Z (nL (rN 3 Z ?_))))))))⟩))))
     obtain rfl:=sI H
     exact rT _ func3 Z Z ⟨Z,(HS.pk 52 [] Z)⟩
    refine rG (lW 51 HS Z Eu (lW 38 HS Z Eu (fJ Xz Z (Hr.calls HS (ro 48 Z) (ro 49 Z) (ro 50 Z) (ro 35 Z) (ro 36 Z) (ro 37 Z) h339) (fun _ wd340 ⟨h341,HS⟩=>⟨_,h341,(pS 2 Z (kN 106 Z (congrArg Bool.not c342) (oN Z (mV Z (bK (oN Z (mV Z (bK (oN Z (GO.neq Z Z Z Z (bK ?_)))))))))))⟩))))
    refine GO.Ki Z Z Z Z Z (nL ?_)
    rcases iS H with ⟨c343,H⟩ | ⟨c343,H⟩
    ·
     refine yB Z (nF c343) (rN 2 Z ?_)
     obtain rfl:=sI H
     exact rT _ func3 Z Z ⟨Z,(HS.pk 52 [] Z)⟩
    refine nB Z (nT c343) (rN 4 Z ?_)
    obtain ⟨t344,h345,H⟩:=bI H
    refine rG (lW 21 HS Z Eu (mV Z (fJ uC Z (J5.calls HS (ro 0 Z) (ro 1 Z) (ro 2 Z) h345) (fun _ wd346 ⟨h347,HS⟩=>⟨_,h347,(aS Z (nL (rN 3 Z ?_)))⟩))))
    rcases iE H with ⟨c348,H⟩ | ⟨c348,H⟩
    ·
     refine yB Z (tT c348) (rN 2 Z ?_)
     obtain rfl:=sI H
     exact rT _ func3 Z Z ⟨Z,(HS.pk 52 [] Z)⟩
    refine nB Z (tF c348) (rN 4 Z ?_)
    rcases iS H with ⟨c349,H⟩ | ⟨c349,H⟩
    ·
     refine yB Z (nF c349) (rN 2 Z ?_)
     obtain rfl:=sI H
     exact rT _ func3 Z Z ⟨Z,(HS.pk 52 [] Z)⟩
    refine nB Z (nT c349) (rN 3 Z ?_)
    obtain rfl:=sI H
    exact rT _ func3 Z Z ⟨Z,(HS.pk 52 [] Z)⟩
end Go.Proofs.YtjopfecenllmgaaGreatDoor
