/-
  The walks through the functions: a call comes to what its list function says.
-/
import Derived.Test.YtjopfecenllmgaaGreatDoorAlF
import Derived.Test.YtjopfecenllmgaaGreatDoorAlW2
set_option linter.unusedSimpArgs false
set_option linter.unusedVariables false
namespace Go.Proofs.YtjopfecenllmgaaGreatDoor
open Go.RowKit
open Tryz
variable {w0 w:World} {L:List Cn} {K:Nat} {A_a A_b A_c A_d A_e A_f A_g A_h A_i A_j A_k A_l A_m A_n A_o A_p A_q A_r A_s A_t A_u A_v A_w A_x A_y A_z:Option Addr} {c_a c_b c_c c_d c_e c_f c_g c_h c_i c_j c_k c_l c_m c_n c_o c_p c_q c_r c_s c_t c_u c_v c_w c_x c_y c_z:Nat}
set_option maxRecDepth 20000
set_option maxHeartbeats 40000000
theorem Lh.calls {n1:ByteArray} {o1:Int} {m1:List (List Br)} {f1:List Ah} {k1 h1:Int} {i1:List Int} {a1 c1:Int} {d1:List Cc} {e1 g1:List Int} {y_a:Nat→(Ty.slice 168 Az).Lay} {r1 r2:Bool} {r3 r4:Bool} (HS:St w0 w (L)) (r_a:Av w0 L (Ty.slice 168 Az) A_a c_a y_a m1) (r_b:Av w0 L Au A_b c_b uu f1) (r_c:Av w0 L (Bi .i64) A_c c_c uu i1) (r_d:Av w0 L Ci A_d c_d uu d1) (r_e:Av w0 L (Bi .i64) A_e c_e uu e1) (r_f:Av w0 L (Bi .i64) A_f c_f uu g1) (H:Lh.f n1 o1 m1 f1 k1 h1 i1 a1 c1 d1 e1 g1=some (r1,r2,r3,r4)) :
    Calls prog 112 #[.agg [.string n1,I o1,sV A_a m1 c_a,sV A_b f1 c_b,I k1,I h1,sV A_c i1 c_c,I a1,I c1,sV A_d d1 c_d,sV A_e e1 c_e,sV A_f g1 c_f].toArray] w (Lh.post w0 L r1 r2 r3 r4):=by
  unfold Lh.f at H
  refine cG func112 Z ?_
  refine sQ (rG (bA HS Z fun b1 wd2 HS=>GO.alloc HS Z uP Z Z fun b3 wd4 HS=>nL (sQ (rG (fL b1 7 Mc Z (GO.Du (j:=1) ([I a1,I c1,sV A_d d1 c_d,sV A_e e1 c_e,sV A_f g1 c_f]) HS Z Z Z Z Rw Z (GO.alloc HS Z rY Z Z fun b5 wd6 HS=>sW 0 HS Z Rw Z fun wd7 HS=>nL (sQ (rG (fL b1 2 M9 Z ?_))))))))))
  refine fL b1 2 J2 Z (lB 2 HS Z O1 Z (lS Z Z U51 Z (GO.gtr Z Z Z Z (fL b1 3 Mm Z (fL b1 3 Jr Z (lB 2 HS Z Ol Z (lS Z Z U54 Z (pS 2 Z (GO.join 5 21 (.bool ((decide (0<(f1.length:Int))) || (!(decide (k1=0))))) (fun Q g=>?_) ?_)))))))))
  ·
   rcases Decidable.em (0<(f1.length:Int)) with c8 | c9
   ·
    refine kN 16 Z (tT c8) (oF Z (oF Z (oF Z (oF Z (GO.Ii Z Z Z Z Z (kN 21 Z (orT (tT c8)) (kN 16 Z (tT c8).symm (GO.weak (by repeat (first | exact tv | refine ⟨Z,?_⟩)) g))))))))
   refine kN 16 Z (tF c9) (oN Z (fL b1 3 Mm Z (bK (oN Z (fL b1 4 Qi Z (bK (oN Z (lB 2 HS Z na2 Z (bK (oN Z (GO.neq Z Z Z Z (bK (GO.Ki Z Z Z Z Z (kN 21 Z (orF (tF c9)) ?_))))))))))))))
   refine kN 16 Z (tF c9).symm (GO.weak (by repeat (first | exact tv | refine ⟨Z,?_⟩)) g)
  refine fL b1 5 M7 Z (fL b1 5 Ou Z (lB 2 HS Z na2 Z (pS 2 Z (GO.join 6 32 (.bool ((!(decide (h1=0))) || (decide (0<(i1.length:Int))))) (fun Q g=>?_) ?_))))
  ·
   rcases Decidable.em (h1=0) with c10 | c11
   ·
    refine kN 26 Z (nT c10) (oN Z (fL b1 5 M7 Z (bK (oN Z (fL b1 6 Oi Z (bK (oN Z (lB 2 HS Z Jb Z (bK (oN Z (lS Z Z U32 Z (bK (oN Z (GO.gtr Z Z Z Z ?_))))))))))))))
    refine bK (GO.Ki Z Z Z Z Z (kN 32 Z (orF (nT c10)) (kN 26 Z (nT c10).symm (GO.weak (by repeat (first | exact tv | refine ⟨Z,?_⟩)) g))))
   refine kN 26 Z (nF c11) (oF Z (oF Z (oF Z (oF Z (oF Z (GO.Ii Z Z Z Z Z (kN 32 Z (orT (nF c11)) (kN 26 Z (nF c11).symm (GO.weak (by repeat (first | exact tv | refine ⟨Z,?_⟩)) g)))))))))
  refine fL b5 0 Nz Z (lB 0 HS Z na2 Z (pS 2 Z (GO.join 4 40 (.bool ((!(decide (a1=0))) || (!(decide (c1=0))))) (fun Q g=>?_) ?_)))
  ·
   rcases Decidable.em (a1=0) with c12 | c13
   ·
    refine kN 36 Z (nT c12) (oN Z (fL b5 1 N7 Z (bK (oN Z (lB 0 HS Z na2 Z (bK (oN Z (GO.neq Z Z Z Z (bK (GO.Ki Z Z Z Z Z (kN 40 Z (orF (nT c12)) (kN 36 Z (nT c12).symm (GO.weak (by repeat (first | exact tv | refine ⟨Z,?_⟩)) g)))))))))))))
   refine kN 36 Z (nF c13) (oF Z (oF Z (oF Z (GO.Ii Z Z Z Z Z (kN 40 Z (orT (nF c13)) (kN 36 Z (nF c13).symm (GO.weak (by repeat (first | exact tv | refine ⟨Z,?_⟩)) g)))))))
  refine mV Z (GO.join 5 46 (.bool (((!(decide (a1=0))) || (!(decide (c1=0)))) || (decide (0<(d1.length:Int))))) (fun Q g=>?_) ?_)
  ·
   rcases Decidable.em (((!(decide (a1=0))) || (!(decide (c1=0))))=true) with c14 | c15
   ·
    refine kN 41 Z c14 (oF Z (oF Z (oF Z (oF Z (GO.Ii Z Z Z Z Z (kN 46 Z (orT c14) (kN 41 Z c14.symm (GO.weak (by repeat (first | exact tv | refine ⟨Z,?_⟩)) g))))))))
   refine kN 41 Z (Bt c15) (oN Z (fL b5 2 Jp Z (bK (oN Z (lB 0 HS Z Om Z (bK (oN Z (lS Z Z U58 Z (bK (oN Z (GO.gtr Z Z Z Z (bK (GO.Ki Z Z Z Z Z (kN 46 Z (orF (Bt c15)) ?_))))))))))))))
   refine kN 41 Z (Bt c15).symm (GO.weak (by repeat (first | exact tv | refine ⟨Z,?_⟩)) g)
  refine mV Z (GO.join 5 52 (.bool ((((!(decide (a1=0))) || (!(decide (c1=0)))) || (decide (0<(d1.length:Int)))) || (decide (0<(e1.length:Int))))) (fun Q g=>?_) ?_)
  ·
   rcases Decidable.em ((((!(decide (a1=0))) || (!(decide (c1=0)))) || (decide (0<(d1.length:Int))))=true) with c16 | c17
   ·
    refine kN 47 Z c16 (oF Z (oF Z (oF Z (oF Z (GO.Ii Z Z Z Z Z (kN 52 Z (orT c16) (kN 47 Z c16.symm (GO.weak (by repeat (first | exact tv | refine ⟨Z,?_⟩)) g))))))))
   refine kN 47 Z (Bt c17) (oN Z (fL b5 3 Kb Z (bK (oN Z (lB 0 HS Z Jb Z (bK (oN Z (lS Z Z U32 Z (bK (oN Z (GO.gtr Z Z Z Z (bK (GO.Ki Z Z Z Z Z (kN 52 Z (orF (Bt c17)) ?_))))))))))))))
   refine kN 47 Z (Bt c17).symm (GO.weak (by repeat (first | exact tv | refine ⟨Z,?_⟩)) g)
  refine mV Z (GO.join 5 58 (.bool (((((!(decide (a1=0))) || (!(decide (c1=0)))) || (decide (0<(d1.length:Int)))) || (decide (0<(e1.length:Int)))) || (decide (0<(g1.length:Int))))) (fun Q g=>?_) ?_)
  ·
   rcases Decidable.em (((((!(decide (a1=0))) || (!(decide (c1=0)))) || (decide (0<(d1.length:Int)))) || (decide (0<(e1.length:Int))))=true) with c18 | c19
   ·
    refine kN 53 Z c18 (oF Z (oF Z (oF Z (oF Z (GO.Ii Z Z Z Z Z (kN 58 Z (orT c18) (kN 53 Z c18.symm (GO.weak (by repeat (first | exact tv | refine ⟨Z,?_⟩)) g))))))))
   refine kN 53 Z (Bt c19) (oN Z (fL b5 4 M6 Z (bK (oN Z (lB 0 HS Z Jb Z (bK (oN Z (lS Z Z U32 Z (bK (oN Z (GO.gtr Z Z Z Z (bK (GO.Ki Z Z Z Z Z (kN 58 Z (orF (Bt c19)) ?_))))))))))))))
   refine kN 53 Z (Bt c19).symm (GO.weak (by repeat (first | exact tv | refine ⟨Z,?_⟩)) g)
  refine GO.Gj (.agg [.bool (decide (0<(m1.length:Int))),.bool ((decide (0<(f1.length:Int))) || (!(decide (k1=0)))),.bool ((!(decide (h1=0))) || (decide (0<(i1.length:Int)))),.bool (((((!(decide (a1=0))) || (!(decide (c1=0)))) || (decide (0<(d1.length:Int)))) || (decide (0<(e1.length:Int)))) || (decide (0<(g1.length:Int))))].toArray) Z Z (fun _=>by kernel_rfl) Z (sW 1 HS Z Yf Z fun wd20 HS=>nL ?_)
  obtain ⟨rfl,rfl,rfl,rfl⟩:=Kc H
  exact rT _ func112 Z (Iq.Ji (j:=1) (vs:=[.bool (decide (0<(m1.length:Int))),.bool ((decide (0<(f1.length:Int))) || (!(decide (k1=0)))),.bool ((!(decide (h1=0))) || (decide (0<(i1.length:Int)))),.bool (((((!(decide (a1=0))) || (!(decide (c1=0)))) || (decide (0<(d1.length:Int)))) || (decide (0<(e1.length:Int)))) || (decide (0<(g1.length:Int))))]) HS Z Z Z Yf) ⟨Z,(HS.pk 3 [] Z)⟩
theorem Gf.calls {faces:List Br} {r1:Bool} (HS:St w0 w (L)) (r_a:Av w0 L Az A_a c_a uu faces) (H:Gf.f faces=some r1) :
    Calls prog 151 #[sV A_a faces c_a] w (Gf.post w0 L r1):=by
  unfold Gf.f at H
  refine cG func151 Z ?_
  refine rN 3 Z (rG (mV Z (lS Z Z P8 Z (pS 2 Z (nL ?_)))))
  obtain rfl:=sI H
  exact rT _ func151 Z Z ⟨Z,HS⟩
theorem Aw.calls {s:List (List Br)} {y_a:Nat→(Ty.slice 168 Az).Lay} {r1:Int} (HS:St w0 w (L)) (r_a:Av w0 L (Ty.slice 168 Az) A_a c_a y_a s) (H:Aw.f K s=some r1) :
    Calls prog 183 #[sV A_a s c_a,.func (.func 151) #[] #[]] w (Aw.post w0 L r1):=by
  unfold Aw.f at H
  refine cG func183 Z ?_
  refine rN 4 Z (rG (mV Z (lS Z Z U51 Z (mV Z (nL (rN 2 Z ?_))))))
  refine G.name (fun e1 c1=>?_)
  have d1:∀ a1,a1≤K→∀ (x8:Int) (w:World),Aw.l1 K a1 s x8=some r1→St w0 w (L)→G prog 183 19 [(0,sV A_a s c_a),(1,.func (.func 151) #[] #[]),(7,I (s.length:Int)),(8,I x8)] e1 w (Aw.post w0 L r1):=by
   refine lp (fun _ w H _=>by rw [Aw.l1] at H; cases H) fun b1 g1 f1 x8 w H HS=>?_
   rw [Aw.l1] at H
   subst c1
   refine rN 3 Z ?_
   rcases iS H with ⟨c16,H⟩ | ⟨c16,H⟩
   ·
    refine nB Z (tF c16) (rN 3 Z ?_)
    obtain rfl:=sI H
    exact rT _ func183 Z Z ⟨Z,HS⟩
   refine yB Z (tT c16) (rN 6 Z ?_)
   obtain ⟨c17,H⟩:=iN H
   obtain ⟨t18,h19,H⟩:=bI H
   refine rG (pS 3 Z (iX Z U51 P7 (rk r_a HS) c17 (GO.Gb (T:=(Ty.slice 168 Az)) (n:=x8.toNat) (o:=0) HS r_a Z Z (getD_some (d:=[]) (ltN c17)) Z Z Qc Z (GO.clo Z Z func151 oP.2.1 oP.2.2 Z Z (Gf.calls HS (Av.elem r_a c17.1 c17.2) h19) (fun _ wd20 ⟨h21,HS⟩=>⟨_,h21,(nL ?_)⟩)))))
   rcases iE H with ⟨c22,H⟩ | ⟨c22,H⟩
   ·
    refine yB Z c22 (rN 2 Z ?_)
    obtain rfl:=sI H
    exact rT _ func183 Z Z ⟨Z,HS⟩
   refine nB Z (Bt c22) (rN 4 Z (gW (f1 b1 (lR _) _ _ H HS) Z))
  exact gW (d1 K (lR _) _ _ H HS) Z
theorem Cg.calls {s:List (List Br)} {y_a:Nat→(Ty.slice 168 Az).Lay} {r1:Bool} (HS:St w0 w (L)) (r_a:Av w0 L (Ty.slice 168 Az) A_a c_a y_a s) (H:Cg.f K s=some r1) :
    Calls prog 150 #[sV A_a s c_a,.func (.func 151) #[] #[]] w (Cg.post w0 L r1):=by
  unfold Cg.f at H
  refine cG func150 Z ?_
  refine rN 3 Z ?_
  obtain ⟨t1,h2,H⟩:=bI H
  refine rG (pS 2 Z (fJ yU Z (Aw.calls HS r_a h2) (fun _ wd3 ⟨h4,HS⟩=>⟨_,h4,(pS 2 Z (nL ?_))⟩)))
  obtain rfl:=sI H
  exact rT _ func150 Z Z ⟨Z,HS⟩
theorem Gt.calls {list:List (List Br)} {y_a:Nat→(Ty.slice 168 Az).Lay} {r1:Int} (HS:St w0 w (L)) (r_a:Av w0 L (Ty.slice 168 Az) A_a c_a y_a list) (H:Gt.f list=some r1) :
    Calls prog 152 #[sV A_a list c_a] w (Gt.post w0 L r1):=by
  unfold Gt.f at H
  refine cG func152 Z ?_
  refine rN 3 Z (rG (mV Z (lS Z Z U51 Z (aS Z (nL ?_)))))
  obtain rfl:=sI H
  exact rT _ func152 Z Z ⟨Z,HS⟩
theorem E5.calls {list:List (List Br)} {i:Int} {y_a:Nat→(Ty.slice 168 Az).Lay} {r1:Bool} (HS:St w0 w (L)) (r_a:Av w0 L (Ty.slice 168 Az) A_a c_a y_a list) (H:E5.f list i=some r1) :
    Calls prog 184 #[sV A_a list c_a,I i] w (E5.post w0 L r1):=by
  unfold E5.f at H
  refine cG func184 Z ?_
  refine rN 3 Z ?_
  obtain ⟨t1,h2,H⟩:=bI H
  obtain ⟨t5,h6,H⟩:=bI H
  refine rG (pS 2 Z (fJ lF Z (Gt.calls HS r_a h2) (fun _ wd3 ⟨h4,HS⟩=>⟨_,h4,(GO.sub Z Z Z Z (fJ Ox Z (Cu.calls HS  h6) (fun _ wd7 ⟨h8,HS⟩=>⟨_,h8,(aS Z (nL ?_))⟩)))⟩)))
  obtain rfl:=sI H
  exact rT _ func184 Z Z ⟨Z,HS⟩
theorem Jy.calls {p:Int} {r1:Bool} (HS:St w0 w (L)) (H:Jy.f p=some r1) :
    Calls prog 164 #[I p] w (Jy.post w0 L r1):=by
  unfold Jy.f at H
  refine cG func164 Z ?_
  refine rN 3 Z ?_
  obtain ⟨t1,h2,H⟩:=bI H
  refine rG (mV Z (fJ Ox Z (Cu.calls HS  h2) (fun _ wd3 ⟨h4,HS⟩=>⟨_,h4,(aS Z (nL ?_))⟩)))
  obtain rfl:=sI H
  exact rT _ func164 Z Z ⟨Z,HS⟩
theorem Dg.calls {s:List Int} {i j_:Int} {r1:List Int} (HS:St w0 w (Own (Bi .i64) 2 A_a c_a uu s::L)) (H:Dg.f s i j_=some r1) :
    Calls prog 217 #[sV A_a s c_a,I i,I j_] w (Dg.post w0 L r1):=by
  unfold Dg.f at H
  refine cG func217 Z ?_
  refine rN 3 Z ?_
  obtain ⟨c1,H⟩:=iN H
  obtain ⟨c2,H⟩:=iN H
  refine rG (pS 4 Z (lS Z Z U32 Z (GO.slM Z Z Z Z Z U32 sz2 c1 c2 (Int.ofNat_le.2 ((ro 0 Z) _ HS).1) Z (nL (rN 3 Z ?_)))))
  rcases iE H with ⟨c3,H⟩ | ⟨c3,H⟩
  ·
   refine yB Z (tT c3) (rN 2 Z ?_)
   obtain rfl:=sI H
   exact rT _ func217 Z Z ⟨_,_,Z,HS⟩
  refine nB Z (tF c3) (rN 2 Z (rG (mV Z (lS Z Z U32 Z (aS Z (nL (sQ ?_)))))))
  obtain ⟨c4,H⟩:=iN H
  obtain ⟨c5,H⟩:=iN H
  obtain ⟨c7,H⟩:=iN H
  have h8:=Tx c7 (leN c5)
  refine G.lex mixed [0,1,3,4,2,5,6,7] (by kernel_rfl) ?_
  replace HS:=HS.drew
  refine GX.ps 4 Z (GX.l1 Z Z Z (fun _ g=>GO.slH (T:=(Bi .i64)) HS (ro 0 Z) Z Z Z U32 sz2 c4.1 c4.2 Z g) Z (GX.l1 Z Z Z (fun _ g=>GO.slL (T:=(Bi .i64)) HS (ro 0 Z) Z Z Z U32 sz2 c5.1 c5.2 Z g) Z (GX.l2 Z (GO.fH (T:=(Bi .i64)) (j:=0) (i1:=i.toNat) (l1:=j_.toNat) HS Z Bw (fun _ _=>Z) Z Z Z (by rw [List.drop_zero,List.length_take]; exact Nat.min_eq_left (leN c4)) (by rw [List.length_drop,List.take_length]) U32 Va c7 (leN c5) Z fun wd6 HS=>GX.fin tv (GX.ps 1 Z (GX.nil (sQ ?_)))))))
  obtain ⟨c9,H⟩:=iN H
  obtain ⟨c10,H⟩:=iN H
  have h12:=Y0 (xs:=(over s i.toNat (s.drop j_.toNat))) (z:=0) (iW (qX c9) (leN c10))
  refine rG (pS 2 Z (lS Z Z U32 Z (mV Z (GO.uT (T:=(Bi .i64)) (xs:=(over s i.toNat (s.drop j_.toNat))) ((ro 0 Z) _ HS).1 Z Z Z Z U32 sz2 c9 c10 Z (GO.kK (T:=(Bi .i64)) (j:=0) (l:=((((over s i.toNat (s.drop j_.toNat)).take (i.toNat+(s.length - j_.toNat))).drop 0).length:Int).toNat) 0 () HS Z Bw Z Z U32 zr2 Z Z (zG (leN c10) ((ro 0 Z) _ HS).1) (iW (qX c9) (leN c10)) (fun _=>Z) fun wd11 HS=>nL ?_)))))
  obtain ⟨c13,H⟩:=iN H
  refine G.len (t:=0) (m:=(((over (over s i.toNat (s.drop j_.toNat)) (((((over s i.toNat (s.drop j_.toNat)).take (i.toNat+(s.length - j_.toNat))).drop 0).length:Int).toNat) (List.replicate (((over s i.toNat (s.drop j_.toNat)).take ((s.length:Int).toNat)).drop (((((over s i.toNat (s.drop j_.toNat)).take (i.toNat+(s.length - j_.toNat))).drop 0).length:Int).toNat)).length 0)).take (i.toNat+(s.length - j_.toNat))).drop 0).length) Z (kF h12) (rN 2 Z ?_)
  replace HS:=HS.Xl (A':=(Ja A_a 0 c_a 1)) (c':=(c_a - 0)) (j:=0) (l:=0) (h:=(i.toNat+(s.length - j_.toNat))) (m:=c_a) Z (Nat.zero_le _) c13 (Nat.le_trans c13 ((ro 0 Z) _ HS).1) (lR _) Z Z
  obtain rfl:=sI H
  exact rT _ func217 Z Z ⟨_,_,Z,HS⟩
theorem Js.calls {p r1:Int} {r2 r3 r4:Int} (HS:St w0 w (L)) (H:Js.f K p=some (r1,r2,r3,r4)) :
    Calls prog 204 #[I p] w (Js.post w0 L r1 r2 r3 r4):=by
  unfold Js.f at H
  refine cG func204 Z ?_
  refine sQ (rG (GO.alloc HS Z iJ Z Z fun b1 wd2 HS=>nL (sQ (rG (GO.alloc HS Z iJ Z Z fun b3 wd4 HS=>nL (sQ (rG (GO.Gr (el:=2) ([I 0,I 1,I 2,I 3]) HS Z Z (fun _=>by kernel_rfl) Z fun b5 wd6 HS=>?_))))))))
  replace HS:=HS.Le (T:=(Bi .i64)) (j:=0) Z Bw uu ([0,1,2,3]:List Int) Z (Qd Z)
  refine GO.Oj (t:=8) (m:=([0,1,2,3]:List Int).length) (c':=([0,1,2,3]:List Int).length) Z Z Z (aS Z (nL (rN 2 Z (rG (GO.Gr (el:=2) ([I 6,I 2,I 1,I 1]) HS Z Z (fun _=>by kernel_rfl) Z fun b7 wd8 HS=>lS Z Z U32 Z (mV Z (nL (rN 2 Z ?_))))))))
  replace HS:=HS.Le (T:=(Bi .i64)) (j:=0) Z Bw uu ([6,2,1,1]:List Int) Z (Qd Z)
  refine G.Oj (t:=9) (m:=([6,2,1,1]:List Int).length) (c':=([6,2,1,1]:List Int).length) Z Z Z ?_
  refine G.name (fun o1 m1=>?_)
  have n1:∀ k1,k1≤K→∀ (a1 d1:Int) (A21:Option Addr) (c22:Nat) (c1:List Int) (x24 e1:Int) (g1 f1:Int) (w:World),Js.l1 K k1 a1 d1 c1 x24 e1 g1 f1=some (r1,r2,r3,r4)→St w0 w (Box b1 228 [I 0,I 0,I 0,I 0]::Box b3 228 [I d1,I e1,I g1,I f1]::Own (Bi .i64) 2 A21 c22 uu c1::Own (Bi .i64) 2 (sb b7) (([6,2,1,1]:List Int).length) uu ([6,2,1,1]:List Int)::L)→G prog 204 35 [(0,I a1),(2,pT b1),(3,pT b3),(4,sV A21 c1 c22),(9,sV (sb b7) ([6,2,1,1]:List Int) (([6,2,1,1]:List Int).length)),(10,I 4),(11,I x24)] o1 w (Js.post w0 L r1 r2 r3 r4):=by
   refine lp (fun _ _ _ _ _ _ _ _ _ w H _=>by rw [Js.l1] at H; cases H) fun h1 p1 i1 a1 d1 A21 c22 c1 x24 e1 g1 f1 w H HS=>?_
   rw [Js.l1] at H
   subst m1
   refine rN 3 Z ?_
   rcases iS H with ⟨c102,H⟩ | ⟨c102,H⟩
   ·
    refine nB Z (tF c102) (rN 2 Z (rG (lW 1 HS Z Yy (sW 0 HS Z Yy Z fun wd138 HS=>nL ?_))))
    obtain ⟨rfl,rfl,rfl,rfl⟩:=Kc H
    exact rT _ func204 Z (Iq.Ji (j:=0) (vs:=[I d1,I e1,I g1,I f1]) HS Z Z Z Yy) ⟨Z,(HS.pk 4 [] Z)⟩
   refine yB Z (tT c102) (rN 4 Z ?_)
   obtain ⟨c103,H⟩:=iN H
   refine rG (mV Z (iX Z U32 sz2 (fun _=>⟨_,_,Z⟩) c103 (GO.Gb (T:=(Bi .i64)) (n:=x24.toNat) (o:=0) HS (ro 3 Z) Z Z (getD_some (d:=0) (ltN c103)) Z Z na2 Z (pS 2 Z (nL (sQ ?_))))))
   obtain ⟨c104,H⟩:=Vb H
   refine rG (pS 2 Z (GO.quo Z Z Z c104 Z (aS Z (nL (sQ (rG (pS 2 Z (GO.rem Z Z Z c104 Z (aS Z (nL (sQ ?_)))))))))))
   obtain ⟨c105,H⟩:=iN H
   rcases iE H with ⟨c106,H⟩ | ⟨c106,H⟩
   ·
    refine rG (pS 3 Z (iX Z U32 sz2 (rk (ro 2 Z) HS) c105 (GO.Gb (T:=(Bi .i64)) (n:=(w64 (a1.tdiv (([6,2,1,1]:List Int).getD x24.toNat 0))).toNat) (o:=0) HS (ro 2 Z) Z Z (getD_some (d:=0) (ltN c105)) Z Z na2 Z (GO.ixP 0 Z Z Z c106 Ug sz2 Z Z (GO.H9 (j:=1) (vs:=[I (c1.getD ((w64 (a1.tdiv (([6,2,1,1]:List Int).getD x24.toNat 0))).toNat) 0)]) ([I (c1.getD ((w64 (a1.tdiv (([6,2,1,1]:List Int).getD x24.toNat 0))).toNat) 0),I e1,I g1,I f1]) HS Z Z Z Z Z (htN na2 Z) Z Z Z fun wd107 HS=>nL ?_)))))
    obtain ⟨t108,h109,H⟩:=bI H
    refine rG (pS 4 Z ?_)
    replace HS:=HS.pk 4 [2,0,1,3] Z
    refine fJ aF Z (Dg.calls HS  h109) (fun _ wd112 ⟨A110,c111,h113,HS⟩=>⟨_,h113,(aS Z (nL (rN 3 Z (gW (i1 h1 (lR _) _ _ _ _ _ _ _ _ _ _ H (HS.pk 4 [1,2,0,3] Z)) Z))))⟩)
   rcases iE H with ⟨c114,H⟩ | ⟨c114,H⟩
   ·
    refine rG (pS 3 Z (iX Z U32 sz2 (rk (ro 2 Z) HS) c105 (GO.Gb (T:=(Bi .i64)) (n:=(w64 (a1.tdiv (([6,2,1,1]:List Int).getD x24.toNat 0))).toNat) (o:=0) HS (ro 2 Z) Z Z (getD_some (d:=0) (ltN c105)) Z Z na2 Z (GO.ixP 1 Z Z Z c114 Ug sz2 Z Z (GO.H9 (j:=1) (vs:=[I (c1.getD ((w64 (a1.tdiv (([6,2,1,1]:List Int).getD x24.toNat 0))).toNat) 0)]) ([I d1,I (c1.getD ((w64 (a1.tdiv (([6,2,1,1]:List Int).getD x24.toNat 0))).toNat) 0),I g1,I f1]) HS Z Z Z Z Z (htN na2 Z) Z Z Z fun wd115 HS=>nL ?_)))))
    obtain ⟨t116,h117,H⟩:=bI H
    refine rG (pS 4 Z ?_)
    replace HS:=HS.pk 4 [2,0,1,3] Z
    refine fJ aF Z (Dg.calls HS  h117) (fun _ wd120 ⟨A118,c119,h121,HS⟩=>⟨_,h121,(aS Z (nL (rN 3 Z (gW (i1 h1 (lR _) _ _ _ _ _ _ _ _ _ _ H (HS.pk 4 [1,2,0,3] Z)) Z))))⟩)
   rcases iE H with ⟨c122,H⟩ | ⟨c122,H⟩
   ·
    refine rG (pS 3 Z (iX Z U32 sz2 (rk (ro 2 Z) HS) c105 (GO.Gb (T:=(Bi .i64)) (n:=(w64 (a1.tdiv (([6,2,1,1]:List Int).getD x24.toNat 0))).toNat) (o:=0) HS (ro 2 Z) Z Z (getD_some (d:=0) (ltN c105)) Z Z na2 Z (GO.ixP 2 Z Z Z c122 Ug sz2 Z Z (GO.H9 (j:=1) (vs:=[I (c1.getD ((w64 (a1.tdiv (([6,2,1,1]:List Int).getD x24.toNat 0))).toNat) 0)]) ([I d1,I e1,I (c1.getD ((w64 (a1.tdiv (([6,2,1,1]:List Int).getD x24.toNat 0))).toNat) 0),I f1]) HS Z Z Z Z Z (htN na2 Z) Z Z Z fun wd123 HS=>nL ?_)))))
    obtain ⟨t124,h125,H⟩:=bI H
    refine rG (pS 4 Z ?_)
    replace HS:=HS.pk 4 [2,0,1,3] Z
    refine fJ aF Z (Dg.calls HS  h125) (fun _ wd128 ⟨A126,c127,h129,HS⟩=>⟨_,h129,(aS Z (nL (rN 3 Z (gW (i1 h1 (lR _) _ _ _ _ _ _ _ _ _ _ H (HS.pk 4 [1,2,0,3] Z)) Z))))⟩)
   rcases iS H with ⟨c130,H⟩ | ⟨c130,H⟩
   ·
    cases H
   refine rG (pS 3 Z (iX Z U32 sz2 (rk (ro 2 Z) HS) c105 (GO.Gb (T:=(Bi .i64)) (n:=(w64 (a1.tdiv (([6,2,1,1]:List Int).getD x24.toNat 0))).toNat) (o:=0) HS (ro 2 Z) Z Z (getD_some (d:=0) (ltN c105)) Z Z na2 Z (GO.ixP 3 Z Z Z c130 Ug sz2 Z Z (GO.H9 (j:=1) (vs:=[I (c1.getD ((w64 (a1.tdiv (([6,2,1,1]:List Int).getD x24.toNat 0))).toNat) 0)]) ([I d1,I e1,I g1,I (c1.getD ((w64 (a1.tdiv (([6,2,1,1]:List Int).getD x24.toNat 0))).toNat) 0)]) HS Z Z Z Z Z (htN na2 Z) Z Z Z fun wd131 HS=>nL ?_)))))
   obtain ⟨t132,h133,H⟩:=bI H
   refine rG (pS 4 Z ?_)
   replace HS:=HS.pk 4 [2,0,1,3] Z
   refine fJ aF Z (Dg.calls HS  h133) (fun _ wd136 ⟨A134,c135,h137,HS⟩=>⟨_,h137,(aS Z (nL (rN 3 Z (gW (i1 h1 (lR _) _ _ _ _ _ _ _ _ _ _ H (HS.pk 4 [1,2,0,3] Z)) Z))))⟩)
  exact gW (n1 K (lR _) _ _ _ _ _ _ _ _ _ _ H (HS.pk 4 [3,2,1,0] Z)) Z
theorem I7.calls {a1 c1:Int} {face r1:Int} (HS:St w0 w (L)) (H:I7.f K a1 c1 face=some r1) :
    Calls prog 185 #[.agg [I a1,I c1].toArray,I face] w (I7.post w0 L r1):=by
  unfold I7.f at H
  refine cG func185 Z ?_
  refine sQ (rG (bA HS Z fun b1 wd2 HS=>aS Z (nL (sQ ?_))))
  obtain ⟨t3,t4,t5,t6,h7,H⟩:=Hz H
  obtain ⟨c10,H⟩:=iN H
  refine rG (fL b1 1 Oq Z (lB 0 HS Z na2 Z (fJ lQ Z (Js.calls HS  h7) (fun _ wd8 ⟨h9,HS⟩=>⟨_,h9,(mV Z (GO.iV ([t3,t4,t5,t6]:List Int) Z Z Z Ug U2 sz2 Z c10.1 c10.2 Z (aS Z (nL ?_))))⟩))))
  obtain rfl:=sI H
  exact rT _ func185 Z Z ⟨Z,(HS.pk 1 [] Z)⟩
theorem F3.calls {a1 c1:Int} {d1 e1 r1:Int} (HS:St w0 w (L)) (H:F3.f K a1 c1 d1 e1=some r1) :
    Calls prog 218 #[.agg [I a1,I c1,I d1,I e1].toArray] w (F3.post w0 L r1):=by
  unfold F3.f at H
  refine cG func218 Z ?_
  refine sQ (rG (bA HS Z fun b1 wd2 HS=>aS Z (nL (rN 4 Z (rG (GO.Gr (el:=2) ([I 6,I 2,I 1,I 1]) HS Z Z (fun _=>by kernel_rfl) Z fun b3 wd4 HS=>lS Z Z U32 Z (mV Z (nL (rN 2 Z ?_)))))))))
  replace HS:=HS.Le (T:=(Bi .i64)) (j:=0) Z Bw uu ([6,2,1,1]:List Int) Z (Qd Z)
  refine G.Oj (t:=9) (m:=([6,2,1,1]:List Int).length) (c':=([6,2,1,1]:List Int).length) Z Z Z ?_
  refine G.name (fun s1 u1=>?_)
  have v1:∀ i1,i1≤K→∀ (f1 x19:Int) (w:World),F3.l1 K i1 a1 c1 d1 e1 f1 x19=some r1→St w0 w (Box b1 228 [I a1,I c1,I d1,I e1]::Own (Bi .i64) 2 (sb b3) (([6,2,1,1]:List Int).length) uu ([6,2,1,1]:List Int)::L)→G prog 218 41 [(1,pT b1),(3,I f1),(9,sV (sb b3) ([6,2,1,1]:List Int) (([6,2,1,1]:List Int).length)),(10,I 4),(11,I x19)] s1 w (F3.post w0 L r1):=by
   refine lp (fun _ _ w H _=>by rw [F3.l1] at H; cases H) fun m1 y1 x1 f1 x19 w H HS=>?_
   rw [F3.l1] at H
   subst u1
   refine rN 3 Z ?_
   rcases iS H with ⟨c35,H⟩ | ⟨c35,H⟩
   ·
    refine nB Z (tF c35) (rN 3 Z ?_)
    obtain rfl:=sI H
    exact rT _ func218 Z Z ⟨Z,(HS.pk 2 [] Z)⟩
   refine yB Z (tT c35) (rN 4 Z ?_)
   obtain ⟨c36,H⟩:=iN H
   refine rG (mV Z (iX Z U32 sz2 (fun _=>⟨_,_,Z⟩) c36 (GO.Gb (T:=(Bi .i64)) (n:=x19.toNat) (o:=0) HS (ro 1 Z) Z Z (getD_some (d:=0) (ltN c36)) Z Z na2 Z (pS 2 Z (nL (sQ ?_))))))
   obtain ⟨c37,H⟩:=iN H
   refine rG (mV Z (GO.ixV Z Z Z Ug sz2 c37.1 c37.2 Z (GO.nD (j:=0) (kd:=.i64) ([a1,c1,d1,e1]:List Int) HS Z Z Z (ltN c37) na2 Z Z (aS Z (nL (rN 2 Z ?_))))))
   obtain ⟨c38,H⟩:=iN H
   refine rG (mV Z (GO.vB (m:=(([a1,c1,d1,e1]:List Int).take x19.toNat).length) Z Z Z Ug sz2 c38 (rV (leN c38)) Z (lS Z Z U32 Z (mV Z (nL (rN 2 Z ?_))))))
   refine G.name (fun t1 q1=>?_)
   have o1:∀ n1,n1≤m1→∀ (h1 x43:Int) (w:World),F3.l4 K n1 a1 c1 d1 e1 f1 x19 h1 x43=some r1→St w0 w (Box b1 228 [I a1,I c1,I d1,I e1]::Own (Bi .i64) 2 (sb b3) (([6,2,1,1]:List Int).length) uu ([6,2,1,1]:List Int)::L)→G prog 218 41 [(1,pT b1),(3,I f1),(4,I x19),(5,I (([6,2,1,1]:List Int).getD x19.toNat 0)),(6,I h1),(9,sV (sb b3) ([6,2,1,1]:List Int) (([6,2,1,1]:List Int).length)),(10,I 4),(11,I x19),(20,sV (sb b1) (([a1,c1,d1,e1]:List Int).take x19.toNat) 4),(21,I ((([a1,c1,d1,e1]:List Int).take x19.toNat).length:Int)),(22,I x43)] t1 w (F3.post w0 L r1):=by
    refine lp (fun _ _ w H _=>by rw [F3.l4] at H; cases H) fun g1 p1 k1 h1 x43 w H HS=>?_
    rw [F3.l4] at H
    subst q1
    refine rN 3 Z ?_
    rcases iS H with ⟨c47,H⟩ | ⟨c47,H⟩
    ·
     refine nB Z (tF c47) (rN 5 Z (gW (x1 g1 (Nat.le_of_succ_le p1) _ _ _ H HS) Z))
    refine yB Z (tT c47) (rN 4 Z ?_)
    obtain ⟨c48,H⟩:=iN H
    refine rG (iX Z U32 sz2 (fun _=>⟨_,_,Z⟩) c48 (GO.Gb (T:=(Bi .i64)) (n:=x43.toNat) (o:=0) HS (Av.take (Av.box (j:=0) uu ([a1,c1,d1,e1]:List Int) Z Z Z Z (fun _ _ _ _ _=>tv)) (leN c38)) Z Z (getD_some (d:=0) (ltN c48)) Z Z na2 Z (aS Z (nL (sQ (rG (pS 2 Z (GO.ixV Z Z Z Ug sz2 c37.1 c37.2 Z (GO.nD (j:=0) (kd:=.i64) ([a1,c1,d1,e1]:List Int) HS Z Z Z (ltN c37) na2 Z Z (GO.lss Z Z Z Z (nL ?_)))))))))))
    rcases iS H with ⟨c49,H⟩ | ⟨c49,H⟩
    ·
     refine nB Z (tF c49) (rN 4 Z (gW (k1 g1 (lR _) _ _ _ H HS) Z))
    refine yB Z (tT c49) (rN 4 Z (gW (k1 g1 (lR _) _ _ _ H HS) Z))
   exact gW (o1 m1 (lR _) _ _ _ H HS) Z
  exact gW (v1 K (lR _) _ _ _ H (HS.pk 2 [1,0] Z)) Z
theorem Ib.calls {p r1:Int} (HS:St w0 w (L)) (H:Ib.f K p=some r1) :
    Calls prog 205 #[I p] w (Ib.post w0 L r1):=by
  unfold Ib.f at H
  refine cG func205 Z ?_
  refine rN 3 Z (rG (GO.alloc HS Z iJ Z Z fun b1 wd2 HS=>nL (rN 2 Z ?_)))
  obtain ⟨t3,t4,t5,t6,h7,H⟩:=Hz H
  refine rG (mV Z (fJ lQ Z (Js.calls HS  h7) (fun _ wd8 ⟨h9,HS⟩=>⟨_,h9,(mV Z (nL (rN 2 Z ?_)))⟩)))
  refine G.name (fun m1 i1=>?_)
  have k1:∀ h1,h1≤K→∀ (x18 a1:Int) (e1 d1 c1:Int) (w:World),Ib.l1 K h1 t3 t4 t5 t6 x18 a1 e1 d1 c1=some r1→St w0 w (Box b1 228 [I a1,I e1,I d1,I c1]::L)→G prog 205 18 [(3,pT b1),(7,.agg [I t3,I t4,I t5,I t6].toArray),(8,I x18)] m1 w (Ib.post w0 L r1):=by
   refine lp (fun _ _ _ _ _ w H _=>by rw [Ib.l1] at H; cases H) fun f1 n1 g1 x18 a1 e1 d1 c1 w H HS=>?_
   rw [Ib.l1] at H
   subst i1
   refine rN 3 Z ?_
   rcases iS H with ⟨c51,H⟩ | ⟨c51,H⟩
   ·
    refine nB Z (tF c51) (rN 2 Z ?_)
    obtain ⟨t61,h62,H⟩:=bI H
    refine rG (lW 0 HS Z Yy (fJ xB Z (F3.calls HS  h62) (fun _ wd63 ⟨h64,HS⟩=>⟨_,h64,(aS Z (nL ?_))⟩)))
    obtain rfl:=sI H
    exact rT _ func205 Z Z ⟨Z,(HS.pk 1 [] Z)⟩
   refine yB Z (tT c51) (rN 4 Z ?_)
   obtain ⟨c52,H⟩:=iN H
   refine rG (mV Z (GO.iV ([t3,t4,t5,t6]:List Int) Z Z Z Ug U2 sz2 Z c52.1 c52.2 Z (pS 2 Z (nL ?_))))
   rcases iE H with ⟨c53,H⟩ | ⟨c53,H⟩
   ·
    refine rG (pS 2 Z (GO.ixP 0 Z Z Z c53 Ug sz2 Z Z (GO.H9 (j:=0) (vs:=[I x18]) ([I x18,I e1,I d1,I c1]) HS Z Z Z Z Z (htN na2 Z) Z Z Z fun wd54 HS=>nL (rN 3 Z (gW (g1 f1 (lR _) _ _ _ _ _ _ H HS) Z)))))
   rcases iE H with ⟨c55,H⟩ | ⟨c55,H⟩
   ·
    refine rG (pS 2 Z (GO.ixP 1 Z Z Z c55 Ug sz2 Z Z (GO.H9 (j:=0) (vs:=[I x18]) ([I a1,I x18,I d1,I c1]) HS Z Z Z Z Z (htN na2 Z) Z Z Z fun wd56 HS=>nL (rN 3 Z (gW (g1 f1 (lR _) _ _ _ _ _ _ H HS) Z)))))
   rcases iE H with ⟨c57,H⟩ | ⟨c57,H⟩
   ·
    refine rG (pS 2 Z (GO.ixP 2 Z Z Z c57 Ug sz2 Z Z (GO.H9 (j:=0) (vs:=[I x18]) ([I a1,I e1,I x18,I c1]) HS Z Z Z Z Z (htN na2 Z) Z Z Z fun wd58 HS=>nL (rN 3 Z (gW (g1 f1 (lR _) _ _ _ _ _ _ H HS) Z)))))
   rcases iS H with ⟨c59,H⟩ | ⟨c59,H⟩
   ·
    cases H
   refine rG (pS 2 Z (GO.ixP 3 Z Z Z c59 Ug sz2 Z Z (GO.H9 (j:=0) (vs:=[I x18]) ([I a1,I e1,I d1,I x18]) HS Z Z Z Z Z (htN na2 Z) Z Z Z fun wd60 HS=>nL (rN 3 Z (gW (g1 f1 (lR _) _ _ _ _ _ _ H HS) Z)))))
  exact gW (k1 K (lR _) _ _ _ _ _ _ H HS) Z
theorem Hy.calls {a1 c1:Int} {tet r1 r2:Int} (HS:St w0 w (L)) (H:Hy.f K a1 c1 tet=some (r1,r2)) :
    Calls prog 186 #[.agg [I a1,I c1].toArray,I tet] w (Hy.post w0 L r1 r2):=by
  unfold Hy.f at H
  refine cG func186 Z ?_
  refine sQ (rG (bA HS Z fun b1 wd2 HS=>GO.alloc HS Z Zx Z Z fun b3 wd4 HS=>nL (sQ ?_)))
  obtain ⟨t5,h6,H⟩:=bI H
  refine rG (mV Z (fL b1 1 Oq Z (lB 1 HS Z na2 Z (fJ yT Z (Ib.calls HS  h6) (fun _ wd7 ⟨h8,HS⟩=>⟨_,h8,(GO.Gj (.agg [I tet,I t5].toArray) Z Z (fun _=>by kernel_rfl) Z (sW 0 HS Z Nk Z fun wd9 HS=>nL ?_))⟩)))))
  obtain ⟨rfl,rfl⟩:=Nq H
  exact rT _ func186 Z (Iq.Ji (j:=0) (vs:=[I tet,I t5]) HS Z Z Z Nk) ⟨Z,(HS.pk 2 [] Z)⟩
theorem Eb.calls {a1:List (List Br)} {tet f:Int} {y_a:Nat→(Ty.slice 168 Az).Lay} {r1:Bool} (HS:St w0 w (L)) (r_a:Av w0 L (Ty.slice 168 Az) A_a c_a y_a a1) (H:Eb.f K a1 tet f=some r1) :
    Calls prog 153 #[.agg [sV A_a a1 c_a].toArray,I tet,I f] w (Eb.post w0 L r1):=by
  unfold Eb.f at H
  refine cG func153 Z ?_
  refine sQ (rG (bA HS Z fun b1 wd2 HS=>aS Z (nL (sQ ?_))))
  obtain ⟨c3,H⟩:=iN H
  obtain ⟨c4,H⟩:=iN H
  obtain ⟨e5,h6,H⟩:=Cr H
  refine rG (fL b1 0 J2 Z (lB 0 HS Z O1 Z (mV Z (iX Z U51 P7 (rk (rD 1 r_a) HS) c3 (GO.Gb (T:=(Ty.slice 168 Az)) (n:=tet.toNat) (o:=0) HS (rD 1 r_a) Z Z (getD_some (d:=[]) (ltN c3)) Z Z Qc Z (mV Z (GO.ix Z Z Z P8 Qt ((Av.elem (rD 1 r_a) c3.1 c3.2) _ HS).2.2.1 c4.1 c4.2 Z (GO.J4 (T:=Az) (n:=f.toNat) HS (Av.elem (rD 1 r_a) c3.1 c3.2) Z Z (Ba (ltN c4) h6) Nk Z (GO.alloc HS Z Zx Z Z fun b7 wd8 HS=>sW 0 HS Z Nk Z fun wd9 HS=>nL (rN 2 Z (rG (fL b7 0 K5 Z ?_))))))))))))
  refine lB 0 HS Z na2 Z (GO.eql Z Z Z Z (nL ?_))
  rcases iE H with ⟨c10,H⟩ | ⟨c10,H⟩
  ·
   refine yB Z (tT c10) (sQ (rG (fL b7 1 Oq Z (lB 0 HS Z na2 Z (pS 2 Z (nL ?_))))))
   obtain rfl:=sI H
   exact rT _ func153 Z Z ⟨Z,(HS.pk 2 [] Z)⟩
  refine nB Z (tF c10) (rN 3 Z ?_)
  obtain ⟨t20,h21,H⟩:=bI H
  rcases iS H with ⟨c24,H⟩ | ⟨c24,H⟩
  ·
   refine rG (fL b1 0 J2 Z (lB 1 HS Z O1 Z (fL b7 0 K5 Z (lB 0 HS Z na2 Z (fJ nE Z (E5.calls HS (rD 2 r_a) h21) (fun _ wd22 ⟨h23,HS⟩=>⟨_,h23,(pS 2 Z (kN 29 Z (congrArg Bool.not (Bt c24)) (oF Z (oF Z (oF Z (oF Z (GO.Ii Z Z Z Z Z (nL (rN 3 Z ?_)))))))))⟩))))))
   obtain rfl:=sI H
   exact rT _ func153 Z Z ⟨Z,(HS.pk 2 [] Z)⟩
  obtain ⟨t25,h26,H⟩:=bI H
  refine rG (fL b1 0 J2 Z (lB 1 HS Z O1 Z (fL b7 0 K5 Z (lB 0 HS Z na2 Z (fJ nE Z (E5.calls HS (rD 2 r_a) h21) (fun _ wd22 ⟨h23,HS⟩=>⟨_,h23,(pS 2 Z (kN 29 Z (congrArg Bool.not c24) (oN Z (fL b7 1 Oq Z (bK (oN Z (lB 0 HS Z na2 Z (bK (oN Z ?_)))))))))⟩))))))
  refine fJ oU Z (Jy.calls HS  h26) (fun _ wd27 ⟨h28,HS⟩=>⟨_,h28,(bK (oN Z (GO.not Z Z Z (bK (GO.Ki Z Z Z Z Z (nL ?_))))))⟩)
  rcases iS H with ⟨c29,H⟩ | ⟨c29,H⟩
  ·
   refine yB Z (congrArg Bool.not (Bt c29)) (rN 2 Z ?_)
   obtain rfl:=sI H
   exact rT _ func153 Z Z ⟨Z,(HS.pk 2 [] Z)⟩
  refine nB Z (congrArg Bool.not c29) (rN 2 Z ?_)
  obtain ⟨t30,h31,H⟩:=bI H
  refine rG (lW 0 HS Z Nk (mV Z (fJ vR Z (I7.calls HS  h31) (fun _ wd32 ⟨h33,HS⟩=>⟨_,h33,(aS Z (nL (sQ ?_)))⟩))))
  obtain ⟨c34,H⟩:=iN H
  obtain ⟨c35,H⟩:=iN H
  obtain ⟨e36,h37,H⟩:=Cr H
  obtain ⟨t38,t39,h40,H⟩:=Dt H
  rcases iS H with ⟨c43,H⟩ | ⟨c43,H⟩
  ·
   refine G.O7 mixed (fun w=>St w0 w (Box b7 168 [I e5.Tet,I e5.Perm]::Box b1 53 [sV A_a a1 c_a]::L)) [1,3,5,8,9,15] [0,2,6,10,1,3,4,5,7,8,9,11,12,13,14,16,15,17,18,19,20,21,22,23,24] [] (by kernel_rfl) (by kernel_rfl) HS.drew ?_
   replace HS:=HS.drew
   refine qL Z Z (fun _ _ g=>fL b1 0 J2 Z g) Z (qL Z Z (fun _ _ g=>fL b7 0 K5 Z g) Z (GX.ps 2 Z (GX.ls Z Z Z HS (fun _ HS _ g=>lB 1 HS Z O1 Z g) Z (GX.ls Z Z Z HS (fun _ HS _ g=>lB 0 HS Z na2 Z g) Z (qL Z Z (fun _ _ g=>iX Z U51 P7 (rk (rD 2 r_a) HS) c34 g) Z (GX.ls Z Z Z HS (fun _ HS _ g=>GO.Gb (T:=(Ty.slice 168 Az)) (n:=e5.Tet.toNat) (o:=0) HS (rD 2 r_a) Z Z (getD_some (d:=[]) (ltN c34)) Z Z Qc Z g) Z (qL Z Z (fun _ _ g=>GO.ix Z Z Z P8 Qt ((Av.elem (rD 2 r_a) c34.1 c34.2) _ HS).2.2.1 c35.1 c35.2 Z g) Z (GX.ls Z Z Z HS (fun _ HS _ g=>GO.J4 (T:=Az) (n:=t30.toNat) HS (Av.elem (rD 2 r_a) c34.1 c34.2) Z Z (Ba (ltN c35) h37) Nk Z g) Z (GX.ls Z Z Z HS (fun _ HS _ g=>lW 0 HS Z Nk g) Z (GX.l2 Z (fJ fC Z (Hy.calls HS  h40) (fun _ wd41 ⟨h42,HS⟩=>⟨_,h42,(GX.fin HS (qL Z Z (fun _ _ g=>GO.qZ Z Z Z Zu (fun _=>Zc) Z g) Z (qL Z Z (fun _ _ g=>mV Z (kN 51 Z (tF c43) g)) Z ?_)))⟩))))))))))))
   refine qL Z Z (fun _ _ g=>oF Z g) Z (qL Z Z (fun _ _ g=>oF Z g) Z (GX.ls Z Z Z HS (fun _ HS _ g=>oF Z g) Z (qL Z Z (fun _ _ g=>oF Z g) Z (qL Z Z (fun _ _ g=>oF Z g) Z (qL Z Z (fun _ _ g=>GO.Od Z Z Z Z Z Z g) Z (qL Z Z (fun _ _ g=>GO.Od Z Z Z Z Z Z g) Z (qL Z Z (fun _ _ g=>GO.Od Z Z Z Z Z Z g) Z (qL Z Z (fun _ _ g=>oF Z g) Z (GX.ps 2 Z (GX.nil ?_))))))))))
   obtain rfl:=sI H
   exact rT _ func153 Z Z ⟨Z,(HS.pk 2 [] Z)⟩
  rcases iS H with ⟨c44,H⟩ | ⟨c44,H⟩
  ·
   refine G.O7 mixed (fun w=>St w0 w (Box b7 168 [I e5.Tet,I e5.Perm]::Box b1 53 [sV A_a a1 c_a]::L)) [1,3,5,8,9,15] [0,2,6,10,1,3,4,5,7,8,9,11,12,13,14,16,15,17,18,19,20,21,22,23,24] [] (by kernel_rfl) (by kernel_rfl) HS.drew ?_
   replace HS:=HS.drew
   refine qL Z Z (fun _ _ g=>fL b1 0 J2 Z g) Z (qL Z Z (fun _ _ g=>fL b7 0 K5 Z g) Z (GX.ps 2 Z (GX.ls Z Z Z HS (fun _ HS _ g=>lB 1 HS Z O1 Z g) Z (GX.ls Z Z Z HS (fun _ HS _ g=>lB 0 HS Z na2 Z g) Z (qL Z Z (fun _ _ g=>iX Z U51 P7 (rk (rD 2 r_a) HS) c34 g) Z (GX.ls Z Z Z HS (fun _ HS _ g=>GO.Gb (T:=(Ty.slice 168 Az)) (n:=e5.Tet.toNat) (o:=0) HS (rD 2 r_a) Z Z (getD_some (d:=[]) (ltN c34)) Z Z Qc Z g) Z (qL Z Z (fun _ _ g=>GO.ix Z Z Z P8 Qt ((Av.elem (rD 2 r_a) c34.1 c34.2) _ HS).2.2.1 c35.1 c35.2 Z g) Z (GX.ls Z Z Z HS (fun _ HS _ g=>GO.J4 (T:=Az) (n:=t30.toNat) HS (Av.elem (rD 2 r_a) c34.1 c34.2) Z Z (Ba (ltN c35) h37) Nk Z g) Z (GX.ls Z Z Z HS (fun _ HS _ g=>lW 0 HS Z Nk g) Z (GX.l2 Z (fJ fC Z (Hy.calls HS  h40) (fun _ wd41 ⟨h42,HS⟩=>⟨_,h42,(GX.fin HS (qL Z Z (fun _ _ g=>GO.qZ Z Z Z Zu (fun _=>Zc) Z g) Z (qL Z Z (fun _ _ g=>mV Z (kN 51 Z (tT c43) g)) Z ?_)))⟩))))))))))))
   refine qL Z Z (fun _ _ g=>oN Z (fL b7 0 K5 Z (bK g))) Z (qL Z Z (fun _ _ g=>oN Z (mV Z (bK g))) Z (GX.ls Z Z Z HS (fun _ HS _ g=>oN Z (lB 0 HS Z na2 Z (bK g))) Z (qL Z Z (fun _ _ g=>oN Z (GO.neq Z Z Z Z (bK g))) Z (qL Z Z (fun _ _ g=>oN Z (mV Z (bK (kN 56 Z (nF c44) g)))) Z (qL Z Z (fun _ _ g=>oF Z g) Z (qL Z Z (fun _ _ g=>oF Z g) Z (qL Z Z (fun _ _ g=>oF Z g) Z (qL Z Z (fun _ _ g=>oN Z (GO.Ii Z Z Z Z Z (bK g))) Z (GX.ps 2 Z (GX.nil ?_))))))))))
   obtain rfl:=sI H
   exact rT _ func153 Z Z ⟨Z,(HS.pk 2 [] Z)⟩
  refine G.O7 mixed (fun w=>St w0 w (Box b7 168 [I e5.Tet,I e5.Perm]::Box b1 53 [sV A_a a1 c_a]::L)) [1,3,5,8,9,15] [0,2,6,10,1,3,4,5,7,8,9,11,12,13,14,16,15,17,18,19,20,21,22,23,24] [] (by kernel_rfl) (by kernel_rfl) HS.drew ?_
  replace HS:=HS.drew
  refine qL Z Z (fun _ _ g=>fL b1 0 J2 Z g) Z (qL Z Z (fun _ _ g=>fL b7 0 K5 Z g) Z (GX.ps 2 Z (GX.ls Z Z Z HS (fun _ HS _ g=>lB 1 HS Z O1 Z g) Z (GX.ls Z Z Z HS (fun _ HS _ g=>lB 0 HS Z na2 Z g) Z (qL Z Z (fun _ _ g=>iX Z U51 P7 (rk (rD 2 r_a) HS) c34 g) Z (GX.ls Z Z Z HS (fun _ HS _ g=>GO.Gb (T:=(Ty.slice 168 Az)) (n:=e5.Tet.toNat) (o:=0) HS (rD 2 r_a) Z Z (getD_some (d:=[]) (ltN c34)) Z Z Qc Z g) Z (qL Z Z (fun _ _ g=>GO.ix Z Z Z P8 Qt ((Av.elem (rD 2 r_a) c34.1 c34.2) _ HS).2.2.1 c35.1 c35.2 Z g) Z (GX.ls Z Z Z HS (fun _ HS _ g=>GO.J4 (T:=Az) (n:=t30.toNat) HS (Av.elem (rD 2 r_a) c34.1 c34.2) Z Z (Ba (ltN c35) h37) Nk Z g) Z (GX.ls Z Z Z HS (fun _ HS _ g=>lW 0 HS Z Nk g) Z (GX.l2 Z (fJ fC Z (Hy.calls HS  h40) (fun _ wd41 ⟨h42,HS⟩=>⟨_,h42,(GX.fin HS (qL Z Z (fun _ _ g=>GO.qZ Z Z Z Zu (fun _=>Zc) Z g) Z (qL Z Z (fun _ _ g=>mV Z (kN 51 Z (tT c43) g)) Z ?_)))⟩))))))))))))
  refine qL Z Z (fun _ _ g=>oN Z (fL b7 0 K5 Z (bK g))) Z (qL Z Z (fun _ _ g=>oN Z (mV Z (bK g))) Z (GX.ls Z Z Z HS (fun _ HS _ g=>oN Z (lB 0 HS Z na2 Z (bK g))) Z (qL Z Z (fun _ _ g=>oN Z (GO.neq Z Z Z Z (bK g))) Z (qL Z Z (fun _ _ g=>oN Z (mV Z (bK (kN 56 Z (nT c44) g)))) Z (qL Z Z (fun _ _ g=>oN Z (mV Z (bK g))) Z (qL Z Z (fun _ _ g=>oN Z (mV Z (bK g))) Z (qL Z Z (fun _ _ g=>oN Z (GO.neq Z Z Z Z (bK g))) Z (qL Z Z (fun _ _ g=>oN Z (GO.Ki Z Z Z Z Z (bK g))) Z (GX.ps 2 Z (GX.nil ?_))))))))))
  obtain rfl:=sI H
  exact rT _ func153 Z Z ⟨Z,(HS.pk 2 [] Z)⟩
theorem Bv.calls {a1:List (List Br)} {y_a:Nat→(Ty.slice 168 Az).Lay} {r1:Bool} (HS:St w0 w (L)) (r_a:Av w0 L (Ty.slice 168 Az) A_a c_a y_a a1) (H:Bv.f K a1=some r1) :
    Calls prog 113 #[.agg [sV A_a a1 c_a].toArray] w (Bv.post w0 L r1):=by
  unfold Bv.f at H
  refine cG func113 Z ?_
  refine sQ (rG (bA HS Z fun b1 wd2 HS=>aS Z (nL (rN 2 Z ?_))))
  rcases iE H with ⟨c8,H⟩ | ⟨c8,H⟩
  ·
   refine rG (fL b1 0 J2 Z (lB 0 HS Z O1 Z (lS Z Z U51 Z (pS 2 Z (kN 9 Z (tT c8) (oF Z (oF Z (oF Z (GO.Ii Z Z Z Z Z (nL (rN 3 Z ?_)))))))))))
   obtain rfl:=sI H
   exact rT _ func113 Z Z ⟨Z,(HS.pk 1 [] Z)⟩
  obtain ⟨t9,h10,H⟩:=bI H
  refine rG (fL b1 0 J2 Z (lB 0 HS Z O1 Z (lS Z Z U51 Z (pS 2 Z (kN 9 Z (tF c8) (oN Z (fL b1 0 J2 Z (bK (oN Z (lB 0 HS Z O1 Z (bK (oN Z (fJ xG Z (Cg.calls HS (rD 1 r_a) h10) (fun _ wd11 ⟨h12,HS⟩=>⟨_,h12,(bK ?_)⟩))))))))))))))
  refine GO.Ki Z Z Z Z Z (nL ?_)
  rcases iE H with ⟨c13,H⟩ | ⟨c13,H⟩
  ·
   refine yB Z c13 (rN 2 Z ?_)
   obtain rfl:=sI H
   exact rT _ func113 Z Z ⟨Z,(HS.pk 1 [] Z)⟩
  refine nB Z (Bt c13) (rN 3 Z ?_)
  obtain ⟨t14,h15,H⟩:=bI H
  refine rG (fL b1 0 J2 Z (lB 0 HS Z O1 Z (fJ lF Z (Gt.calls HS (rD 1 r_a) h15) (fun _ wd16 ⟨h17,HS⟩=>⟨_,h17,(mV Z (nL (rN 2 Z ?_)))⟩))))
  refine G.name (fun p1 k1=>?_)
  have o1:∀ e1,e1≤K→∀ (x37:Int) (w:World),Bv.l1 K e1 a1 t14 x37=some r1→St w0 w (Box b1 53 [sV A_a a1 c_a]::L)→G prog 113 30 [(1,pT b1),(16,I t14),(17,I x37)] p1 w (Bv.post w0 L r1):=by
   refine lp (fun _ w H _=>by rw [Bv.l1] at H; cases H) fun c1 s1 q1 x37 w H HS=>?_
   rw [Bv.l1] at H
   subst k1
   refine rN 3 Z ?_
   rcases iS H with ⟨c57,H⟩ | ⟨c57,H⟩
   ·
    refine nB Z (tF c57) (rN 3 Z ?_)
    obtain rfl:=sI H
    exact rT _ func113 Z Z ⟨Z,(HS.pk 1 [] Z)⟩
   refine yB Z (tT c57) (rN 9 Z ?_)
   refine G.name (fun m1 n1=>?_)
   have g1:∀ f1,f1≤c1→∀ (x63:Int) (w:World),Bv.l4 K f1 a1 t14 x37 x63=some r1→St w0 w (Box b1 53 [sV A_a a1 c_a]::L)→G prog 113 30 [(1,pT b1),(3,I x37),(16,I t14),(17,I x37),(20,I x63)] m1 w (Bv.post w0 L r1):=by
    refine lp (fun _ w H _=>by rw [Bv.l4] at H; cases H) fun d1 h1 i1 x63 w H HS=>?_
    rw [Bv.l4] at H
    subst n1
    refine rN 3 Z ?_
    rcases iS H with ⟨c70,H⟩ | ⟨c70,H⟩
    ·
     refine nB Z (tF c70) (rN 4 Z (gW (q1 d1 (Nat.le_of_succ_le h1) _ _ H HS) Z))
    refine yB Z (tT c70) (rN 6 Z ?_)
    obtain ⟨t71,h72,H⟩:=bI H
    refine rG (lW 0 HS Z O0 (pS 2 Z (fJ vT Z (Eb.calls HS (rD 1 r_a) h72) (fun _ wd73 ⟨h74,HS⟩=>⟨_,h74,(GO.not Z Z Z (nL ?_))⟩))))
    rcases iS H with ⟨c75,H⟩ | ⟨c75,H⟩
    ·
     refine yB Z (congrArg Bool.not (Bt c75)) (rN 2 Z ?_)
     obtain rfl:=sI H
     exact rT _ func113 Z Z ⟨Z,(HS.pk 1 [] Z)⟩
    refine nB Z (congrArg Bool.not c75) (rN 4 Z (gW (i1 d1 (lR _) _ _ H HS) Z))
   exact gW (g1 c1 (lR _) _ _ H HS) Z
  exact gW (o1 K (lR _) _ _ H HS) Z
theorem Fe.calls {list:List Ah} {r1:Int} (HS:St w0 w (L)) (r_a:Av w0 L Au A_a c_a uu list) (H:Fe.f list=some r1) :
    Calls prog 187 #[sV A_a list c_a] w (Fe.post w0 L r1):=by
  unfold Fe.f at H
  refine cG func187 Z ?_
  refine rN 3 Z (rG (mV Z (lS Z Z U54 Z (aS Z (nL ?_)))))
  obtain rfl:=sI H
  exact rT _ func187 Z Z ⟨Z,HS⟩
theorem Gg.calls {c_A c_B:Int} {c_C c_D a1:Int} {r1:Bool} (HS:St w0 w (L)) (H:Gg.f c_A c_B c_C c_D a1=some r1) :
    Calls prog 189 #[.agg [I c_A,I c_B,I c_C,I c_D,I a1].toArray] w (Gg.post w0 L r1):=by
  unfold Gg.f at H
  refine cG func189 Z ?_
  refine sQ (rG (bA HS Z fun b1 wd2 HS=>aS Z (nL (sQ ?_))))
  rcases iE H with ⟨c3,H⟩ | ⟨c3,H⟩
  ·
   refine rG (fL b1 4 M0 Z (lB 0 HS Z na2 Z (pS 2 Z (kN 6 Z (nT c3) (oF Z (oF Z (oF Z (pS 2 Z (nL ?_)))))))))
   obtain rfl:=sI H
   exact rT _ func189 Z Z ⟨Z,(HS.pk 1 [] Z)⟩
  refine rG (fL b1 4 M0 Z (lB 0 HS Z na2 Z (pS 2 Z (kN 6 Z (nF c3) (oN Z (fL b1 4 M0 Z (bK (oN Z (lB 0 HS Z na2 Z (bK (oN Z (GO.neq Z Z Z Z (bK (pS 2 Z ?_))))))))))))))
  refine nL ?_
  obtain rfl:=sI H
  exact rT _ func189 Z Z ⟨Z,(HS.pk 1 [] Z)⟩
theorem Bd.calls {s:List Ah} {r1:Int} (HS:St w0 w (L)) (r_a:Av w0 L Au A_a c_a uu s) (H:Bd.f K s=some r1) :
    Calls prog 206 #[sV A_a s c_a,.func (.func 189) #[] #[]] w (Bd.post w0 L r1):=by
  unfold Bd.f at H
  refine cG func206 Z ?_
  refine rN 4 Z (rG (mV Z (lS Z Z U54 Z (mV Z (nL (rN 2 Z ?_))))))
  refine G.name (fun e1 c1=>?_)
  have d1:∀ a1,a1≤K→∀ (x10:Int) (w:World),Bd.l1 K a1 s x10=some r1→St w0 w (L)→G prog 206 19 [(0,sV A_a s c_a),(1,.func (.func 189) #[] #[]),(7,I (s.length:Int)),(8,I x10)] e1 w (Bd.post w0 L r1):=by
   refine lp (fun _ w H _=>by rw [Bd.l1] at H; cases H) fun b1 g1 f1 x10 w H HS=>?_
   rw [Bd.l1] at H
   subst c1
   refine rN 3 Z ?_
   rcases iS H with ⟨c20,H⟩ | ⟨c20,H⟩
   ·
    refine nB Z (tF c20) (rN 3 Z ?_)
    obtain rfl:=sI H
    exact rT _ func206 Z Z ⟨Z,HS⟩
   refine yB Z (tT c20) (rN 6 Z ?_)
   obtain ⟨c21,H⟩:=iN H
   obtain ⟨e22,h23,H⟩:=Cr H
   obtain ⟨t24,h25,H⟩:=bI H
   refine rG (pS 3 Z (iX Z U54 Oz (rk r_a HS) c21 (GO.J4 (T:=Au) (n:=x10.toNat) HS r_a Z Z (Ba (ltN c21) h23) Ni Z (GO.clo Z Z func189 kW.2.1 kW.2.2 Z Z (Gg.calls HS  h25) (fun _ wd26 ⟨h27,HS⟩=>⟨_,h27,(nL ?_)⟩)))))
   rcases iE H with ⟨c28,H⟩ | ⟨c28,H⟩
   ·
    refine yB Z c28 (rN 2 Z ?_)
    obtain rfl:=sI H
    exact rT _ func206 Z Z ⟨Z,HS⟩
   refine nB Z (Bt c28) (rN 4 Z (gW (f1 b1 (lR _) _ _ H HS) Z))
  exact gW (d1 K (lR _) _ _ H HS) Z
theorem Ch.calls {s:List Ah} {r1:Bool} (HS:St w0 w (L)) (r_a:Av w0 L Au A_a c_a uu s) (H:Ch.f K s=some r1) :
    Calls prog 188 #[sV A_a s c_a,.func (.func 189) #[] #[]] w (Ch.post w0 L r1):=by
  unfold Ch.f at H
  refine cG func188 Z ?_
  refine rN 3 Z ?_
  obtain ⟨t1,h2,H⟩:=bI H
  refine rG (pS 2 Z (fJ yX Z (Bd.calls HS r_a h2) (fun _ wd3 ⟨h4,HS⟩=>⟨_,h4,(pS 2 Z (nL ?_))⟩)))
  obtain rfl:=sI H
  exact rT _ func188 Z Z ⟨Z,HS⟩
theorem Lx.calls {x y:Int} {r1 r2:Int} (HS:St w0 w (L)) (H:Lx.f x y=some (r1,r2)) :
    Calls prog 223 #[.int .u64 x,.int .u64 y] w (Lx.post w0 L r1 r2):=by
  unfold Lx.f at H
  refine cG func223 Z ?_
  refine rN 3 Z (rG (mV Z (GO.bits (by simp) Z Z Z Z (aS Z (nL (sQ (rG (mV Z (GO.shr Z Z Z (by decide) (by decide) Z (aS Z (nL (sQ (rG (mV Z ?_))))))))))))))
  refine GO.bits (by simp) Z Z Z Z (aS Z (nL (sQ (rG (mV Z (GO.shr Z Z Z (by decide) (by decide) Z (aS Z (nL (rN 3 Z (rG (pS 4 Z (GO.shr Z Z Z (by decide) (by decide) Z (pS 2 Z (nL ?_))))))))))))))
  refine sQ (rG (mV Z (GO.bits (by simp) Z Z Z Z (aS Z (nL (sQ (rG (mV Z (GO.shr Z Z Z (by decide) (by decide) Z (aS Z (nL (rN 3 Z (rG (pS 6 Z ?_))))))))))))))
  refine GO.shr Z Z Z (by decide) (by decide) Z (pS 2 Z (nL (rN 2 Z ?_)))
  obtain ⟨rfl,rfl⟩:=Nq H
  exact G.Lb _ _ func223 Z Z Z ⟨Z,HS⟩
theorem Ld.calls {x y:Int} {r1 r2:Int} (HS:St w0 w (L)) (H:Ld.f x y=some (r1,r2)) :
    Calls prog 219 #[.int .u64 x,.int .u64 y] w (Ld.post w0 L r1 r2):=by
  unfold Ld.f at H
  refine cG func219 Z ?_
  refine rN 6 Z ?_
  obtain ⟨t1,t2,h3,H⟩:=Dt H
  refine rG (pS 2 Z (fJ wB Z (Lx.calls HS  h3) (fun _ wd4 ⟨h5,HS⟩=>⟨_,h5,(pS 5 Z (nL (rN 2 Z ?_)))⟩)))
  obtain ⟨rfl,rfl⟩:=Nq H
  exact G.Lb _ _ func219 Z Z Z ⟨Z,HS⟩
theorem Be.calls {x:List Gm} {count:Int} {r1:List Gm} (HS:St w0 w (L)) (r_a:Av w0 L Ht A_a c_a uu x) (H:Be.f K x count=some r1) :
    Calls prog 207 #[sV A_a x c_a,I count] w (Be.post w0 L r1):=by
  unfold Be.f at H
  refine cG func207 Z ?_
  refine rN 5 Z ?_
  rcases iE H with ⟨c2,H⟩ | ⟨c2,H⟩
  ·
   refine yB Z (tT c2) ?_
   cases H
  refine nB Z (tF c2) (rN 2 Z ?_)
  obtain ⟨t3,t4,h5,H⟩:=Dt H
  refine rG (mV Z (lS Z Z Sw Z (GO.conv Z Z U3 mJ Z (mV Z (GO.conv Z Z U3 mJ Z (fJ wM Z (Ld.calls HS  h5) (fun _ wd6 ⟨h7,HS⟩=>⟨_,h7,(pS 5 Z (nL (rN 2 Z ?_)))⟩)))))))
  refine G.Qj (fun h1 o1=>?_)
  have e1:∀ d1,d1≤K→∀ (x10:Bool) (w:World),Be.j2 K d1 x t4 x10=some r1→St w0 w (L)→G prog 207 48 [(0,sV A_a x c_a),(6,.int .u64 t4),(26,.bool x10)] h1 w (Be.post w0 L r1):=by
   refine jp (fun _ w H _=>by rw [Be.j2] at H; cases H) fun c1 q1 x10 w H HS=>?_
   rw [Be.j2] at H
   subst o1
   rcases iE H with ⟨c12,H⟩ | ⟨c12,H⟩
   ·
    refine yB Z c12 ?_
    cases H
   refine nB Z (Bt c12) (rN 2 Z ?_)
   obtain ⟨c13,H⟩:=iN H
   obtain ⟨c14,H⟩:=iN H
   refine rG (mV Z (GO.conv Z Z mJ U3 Z (GO.make (T:=Ht) Ka () HS Bw Z Z Z Sw yZ Z Z Z c13 c14 Z fun b15 wd16 HS=>aS Z (nL (sQ ?_)))))
   have h18:=dF (xs:=(List.replicate (w64 (t4)).toNat Ka)) (ys:=x) (Nat.le_of_eq (Nat.zero_add _))
   refine rG (pS 2 Z (GO.bP (T:=Ht) (j:=0) (l:=0) HS Z (rD 1 r_a) Bw Z Z Z Sw R8 Z vW (Nat.le_of_eq (Nat.zero_add _)) (fun _ _=>Z) (fun _=>Z) fun wd17 HS=>aS Z (nL (G.len (t:=7) (m:=(over (List.replicate (w64 (t4)).toNat Ka) 0 (x.take ((List.replicate (w64 (t4)).toNat Ka).length))).length) Z (by simp only [List.length_set,h18] <;> rfl) (rN 3 Z ?_)))))
   refine G.name (fun n1 k1=>?_)
   have g1:∀ f1,f1≤c1→∀ (a1:List Gm) (b1:Int) (w:World),Be.l4 K f1 a1 b1=some r1→St w0 w (Own Ht 233 (sb b15) ((w64 (t4)).toNat) uu a1::L)→G prog 207 48 [(7,sV (sb b15) a1 ((w64 (t4)).toNat)),(8,I b1)] n1 w (Be.post w0 L r1):=by
    refine lp (fun _ _ w H _=>by rw [Be.l4] at H; cases H) fun i1 p1 m1 a1 b1 w H HS=>?_
    rw [Be.l4] at H
    subst k1
    refine rN 2 Z (rG (pS 2 Z (lS Z Z Sw Z (GO.lss Z Z Z Z (nL ?_)))))
    rcases iS H with ⟨c29,H⟩ | ⟨c29,H⟩
    ·
     refine nB Z (tF c29) (rN 3 Z ?_)
     obtain rfl:=sI H
     exact rT _ func207 Z Z ⟨_,_,Z,HS⟩
    refine yB Z (tT c29) (rN 2 Z ?_)
    obtain ⟨c30,H⟩:=iN H
    have h32:=dF (xs:=a1) (ys:=((a1.take b1.toNat).drop 0)) (iW (leN c30) (lR _))
    refine G.lex mixed [0,1,2,4,5,3,6,7,8,9] (by kernel_rfl) ?_
    replace HS:=HS.drew
    refine GX.ps 5 Z (GX.l1 Z Z Z (fun _ g=>GO.slL (T:=Ht) HS (ro 0 Z) Z Z Z Sw R8 c30.1 c30.2 Z g) Z (GX.l1 Z Z Z (fun _ g=>GO.slH (T:=Ht) HS (ro 0 Z) Z Z Z Sw R8 c30.1 c30.2 Z g) Z (GX.l2 Z (GO.bP (T:=Ht) (j:=0) (l:=b1.toNat) HS Z (Av.cut (ro 0 Z) (Nat.zero_le _) (leN c30)) Bw Z Z Z Sw R8 Z (zG (lR _) ((ro 0 Z) _ HS).1) (iW (leN c30) (lR _)) (fun _ _=>Z) (fun _=>Z) fun wd31 HS=>GX.fin tv (GX.ps 2 Z (GX.nil (G.len (t:=7) (m:=(over a1 b1.toNat (((a1.take b1.toNat).drop 0).take (((a1.take a1.length).drop b1.toNat).length))).length) Z (by simp only [List.length_set,h32] <;> rfl) (rN 2 Z (gW (m1 i1 (lR _) _ _ _ H HS) Z)))))))))
   exact gW (g1 c1 (lR _) _ _ _ H HS) Z
  rcases iE H with ⟨c33,H⟩ | ⟨c33,H⟩
  ·
   refine rG (pS 3 Z (kN 23 Z (tT c33) (oF Z (oF Z (GO.Ii Z Z Z Z Z (nL (gW (e1 K (lR _) _ _ H HS) Z)))))))
  refine rG (pS 3 Z (kN 23 Z (tF c33) (oN Z (mV Z (bK (oN Z (GO.gtr Z Z Z Z (bK (GO.Ki Z Z Z Z Z (nL (gW (e1 K (lR _) _ _ H HS) Z)))))))))))
theorem H6.calls {c_A c_B:Int} {c_C c_D:Int} {a1 r1:Int} {r2 r3 r4:Int} (HS:St w0 w (L)) (H:H6.f c_A c_B c_C c_D a1=some (r1,r2,r3,r4)) :
    Calls prog 208 #[.agg [I c_A,I c_B,I c_C,I c_D,I a1].toArray] w (H6.post w0 L r1 r2 r3 r4):=by
  unfold H6.f at H
  refine cG func208 Z ?_
  refine sQ (rG (bA HS Z fun b1 wd2 HS=>GO.alloc HS Z iJ Z Z fun b3 wd4 HS=>nL (sQ (rG (fL b1 0 Rx Z (lB 1 HS Z na2 Z (fL b1 1 Rv Z (lB 1 HS Z na2 Z (fL b1 2 R4 Z (lB 1 HS Z na2 Z (fL b1 3 Rz Z (lB 1 HS Z na2 Z ?_))))))))))))
  refine GO.Gj (.agg [I c_A,I c_B,I c_C,I c_D].toArray) Z Z (fun _=>by kernel_rfl) Z (sW 0 HS Z Yy Z fun wd5 HS=>nL ?_)
  obtain ⟨rfl,rfl,rfl,rfl⟩:=Kc H
  exact rT _ func208 Z (Iq.Ji (j:=0) (vs:=[I c_A,I c_B,I c_C,I c_D]) HS Z Z Z Yy) ⟨Z,(HS.pk 2 [] Z)⟩
theorem Gi.calls {c_A c_B:Int} {c_C c_D:Int} {a1 p:Int} {r1:Bool} (HS:St w0 w (L)) (H:Gi.f c_A c_B c_C c_D a1 p=some r1) :
    Calls prog 209 #[.agg [I c_A,I c_B,I c_C,I c_D,I a1].toArray,I p] w (Gi.post w0 L r1):=by
  unfold Gi.f at H
  refine cG func209 Z ?_
  refine sQ (rG (bA HS Z fun b1 wd2 HS=>aS Z (nL (sQ ?_))))
  rcases iE H with ⟨c3,H⟩ | ⟨c3,H⟩
  ·
   refine rG (pS 3 Z (kN 7 Z (tT c3) (oF Z (oF Z (oF Z (oF Z (oF Z (pS 2 Z (nL ?_)))))))))
   obtain rfl:=sI H
   exact rT _ func209 Z Z ⟨Z,(HS.pk 1 [] Z)⟩
  refine rG (pS 3 Z (kN 7 Z (tF c3) (oN Z (mV Z (bK (oN Z (fL b1 4 M0 Z (bK (oN Z (lB 0 HS Z na2 Z (bK (oN Z (GO.add Z Z Z Z (bK ?_))))))))))))))
  refine oN Z (GO.eql Z Z Z Z (bK (pS 2 Z (nL ?_))))
  obtain rfl:=sI H
  exact rT _ func209 Z Z ⟨Z,(HS.pk 1 [] Z)⟩
theorem Jg.calls {list:List Gm} {r1:Int} (HS:St w0 w (L)) (r_a:Av w0 L Ht A_a c_a uu list) (H:Jg.f list=some r1) :
    Calls prog 220 #[sV A_a list c_a] w (Jg.post w0 L r1):=by
  unfold Jg.f at H
  refine cG func220 Z ?_
  refine rN 3 Z (rG (mV Z (lS Z Z Sw Z (aS Z (nL ?_)))))
  obtain rfl:=sI H
  exact rT _ func220 Z Z ⟨Z,HS⟩
theorem D9.calls {list:List Gm} {i:Int} {r1:Bool} (HS:St w0 w (L)) (r_a:Av w0 L Ht A_a c_a uu list) (H:D9.f list i=some r1) :
    Calls prog 210 #[sV A_a list c_a,I i] w (D9.post w0 L r1):=by
  unfold D9.f at H
  refine cG func210 Z ?_
  refine rN 3 Z ?_
  obtain ⟨t1,h2,H⟩:=bI H
  obtain ⟨t5,h6,H⟩:=bI H
  refine rG (pS 2 Z (fJ xS Z (Jg.calls HS r_a h2) (fun _ wd3 ⟨h4,HS⟩=>⟨_,h4,(GO.sub Z Z Z Z (fJ Ox Z (Cu.calls HS  h6) (fun _ wd7 ⟨h8,HS⟩=>⟨_,h8,(aS Z (nL ?_))⟩)))⟩)))
  obtain rfl:=sI H
  exact rT _ func210 Z Z ⟨Z,HS⟩
theorem Bl.calls {d1:List Ah} {h1:Int} {r1 r2:List Gm} {r3:Bool} (HS:St w0 w (L)) (r_a:Av w0 L Au A_a c_a uu d1) (H:Bl.f K d1 h1=some (r1,r2,r3)) :
    Calls prog 190 #[.agg [sV A_a d1 c_a,I h1].toArray] w (Bl.post w0 L r1 r2 r3):=by
  unfold Bl.f at H
  refine cG func190 Z ?_
  refine sQ (rG (bA HS Z fun b1 wd2 HS=>GO.alloc HS Z dB Z Z fun b3 wd4 HS=>aS Z (nL (sQ (rG (fL b1 0 Jr Z (lB 1 HS Z Ol Z (lS Z Z U54 Z (pS 2 Z (nL (sQ ?_)))))))))))
  obtain ⟨t7,h8,H⟩:=bI H
  obtain ⟨t15,h16,H⟩:=bI H
  refine rG (GO.Gj (.agg [I (-1),I 0].toArray) Z Z (fun _=>by kernel_rfl) Z (GO.Gr (el:=233) ([I (-1),I 0]) HS Z Z (fun _=>by kernel_rfl) Z fun b5 wd6 HS=>mV Z ?_))
  replace HS:=HS.Le (T:=Ht) (j:=0) Z Bw uu ([(⟨(-1),0⟩:Gm)]:List Gm) Z (Qd Z)
  refine GO.Oj (t:=16) (m:=([(⟨(-1),0⟩:Gm)]:List Gm).length) (c':=([(⟨(-1),0⟩:Gm)]:List Gm).length) Z Z Z (fJ nP Z (Be.calls HS (ro 0 Z) h8) (fun _ wd11 ⟨A9,c10,h12,HS⟩=>⟨_,h12,(GO.Gj (.agg [I (-1),I 0].toArray) Z Z (fun _=>by kernel_rfl) Z (GO.Gr (el:=233) ([I (-1),I 0]) HS Z Z (fun _=>by kernel_rfl) Z fun b13 wd14 HS=>mV Z ?_))⟩))
  replace HS:=HS.Le (T:=Ht) (j:=0) Z Bw uu ([(⟨(-1),0⟩:Gm)]:List Gm) Z (Qd Z)
  refine GO.Oj (t:=20) (m:=([(⟨(-1),0⟩:Gm)]:List Gm).length) (c':=([(⟨(-1),0⟩:Gm)]:List Gm).length) Z Z Z (fJ nP Z (Be.calls HS (ro 0 Z) h16) (fun _ wd19 ⟨A17,c18,h20,HS⟩=>⟨_,h20,(GO.Gj (.agg [sV A9 t7 c10,sV A17 t15 c18].toArray) Z Z (fun _=>by kernel_rfl) Z (GO.alloc HS Z dB Z Z fun b21 wd22 HS=>sW 0 HS Z Lv Z fun wd23 HS=>nL (rN 2 Z (rG (fL b1 0 Jr Z (lB 6 HS Z Ol Z (lS Z Z U54 Z (mV Z (nL (rN 2 Z ?_))))))))))⟩))
  refine G.name (fun o1 u1=>?_)
  have v1:∀ i1,i1≤K→∀ (e1 f1:List Gm) (x195:Int) (w:World),Bl.l1 K i1 d1 e1 f1 x195=some (r1,r2,r3)→St w0 w (Box b3 187 [.slice none 0 0,.slice none 0 0]::Box b21 187 [sV A9 e1 c10,sV A17 f1 c18]::Own Ht 233 A9 c10 uu e1::Own Ht 233 A17 c18 uu f1::L)→G prog 190 67 [(2,pT b3),(5,pT b21),(25,sV A_a d1 c_a),(26,I (d1.length:Int)),(27,I x195)] o1 w (Bl.post w0 L r1 r2 r3):=by
   refine lp (fun _ _ _ w H _=>by rw [Bl.l1] at H; cases H) fun m1 y1 x1 e1 f1 x195 w H HS=>?_
   rw [Bl.l1] at H
   subst u1
   refine rN 3 Z ?_
   rcases iS H with ⟨c365,H⟩ | ⟨c365,H⟩
   ·
    refine nB Z (tF c365) (rN 2 Z (rG (lW 1 HS Z Lv (sW 0 HS Z Lv Z fun wd533 HS=>aS Z (nL ?_)))))
    obtain ⟨rfl,rfl,rfl⟩:=Rb H
    exact G.Lb _ _ func190 Z (Iq.Ji (j:=0) (vs:=[sV A9 e1 c10,sV A17 f1 c18]) HS Z Z Z Lv) Z ⟨_,_,_,_,Z,(HS.pk 4 [2,3] Z)⟩
   refine yB Z (tT c365) (rN 4 Z ?_)
   obtain ⟨c366,H⟩:=iN H
   obtain ⟨e367,h368,H⟩:=Cr H
   refine rG (mV Z (iX Z U54 Oz (rk (rD 4 r_a) HS) c366 (GO.J4 (T:=Au) (n:=x195.toNat) HS (rD 4 r_a) Z Z (Ba (ltN c366) h368) Ni Z (GO.alloc HS Z Zl Z Z fun b369 wd370 HS=>aS Z (sW 0 HS Z Ni Z fun wd371 HS=>nL (sQ ?_))))))
   obtain ⟨t372,t373,t374,t375,h376,H⟩:=Hz H
   refine rG (lW 0 HS Z Ni (fJ lD Z (H6.calls HS  h376) (fun _ wd377 ⟨h378,HS⟩=>⟨_,h378,(mV Z (nL (rN 2 Z ?_)))⟩)))
   refine G.name (fun t1 s1=>?_)
   have p1:∀ n1,n1≤m1→∀ (c1 a1:List Gm) (x430:Int) (w:World),Bl.l10 K n1 d1 x195 e367 t372 t373 t374 t375 c1 a1 x430=some (r1,r2,r3)→St w0 w (Box b3 187 [.slice none 0 0,.slice none 0 0]::Box b21 187 [sV A9 c1 c10,sV A17 a1 c18]::Own Ht 233 A9 c10 uu c1::Own Ht 233 A17 c18 uu a1::Box b369 163 [I e367.A,I e367.B,I e367.C,I e367.D,I e367.Sign]::L)→G prog 190 67 [(2,pT b3),(5,pT b21),(6,I x195),(7,pT b369),(25,sV A_a d1 c_a),(26,I (d1.length:Int)),(27,I x195),(33,.agg [I t372,I t373,I t374,I t375].toArray),(34,I x430)] t1 w (Bl.post w0 L r1 r2 r3):=by
    refine lp (fun _ _ _ w H _=>by rw [Bl.l10] at H; cases H) fun g1 q1 k1 c1 a1 x430 w H HS=>?_
    rw [Bl.l10] at H
    subst s1
    refine rN 3 Z ?_
    rcases iS H with ⟨c482,H⟩ | ⟨c482,H⟩
    ·
     refine nB Z (tF c482) (rN 4 Z (gW (x1 g1 (Nat.le_of_succ_le q1) _ _ _ _ H (HS.pk 5 [0,1,2,3] Z)) Z))
    refine yB Z (tT c482) (rN 4 Z ?_)
    obtain ⟨c483,H⟩:=iN H
    refine rG (mV Z (GO.iV ([t372,t373,t374,t375]:List Int) Z Z Z Ug U2 sz2 Z c483.1 c483.2 Z (pS 2 Z (nL (sQ (rG (fL b21 0 aZ Z (lB 1 HS Z Zf Z (aS Z (nL (rN 2 Z ?_)))))))))))
    obtain ⟨t484,h485,H⟩:=bI H
    refine rG (lW 4 HS Z Ni (mV Z (fJ oW Z (Gi.calls HS  h485) (fun _ wd486 ⟨h487,HS⟩=>⟨_,h487,(nL ?_)⟩))))
    rcases iS H with ⟨c492,H⟩ | ⟨c492,H⟩
    ·
     refine nB Z (Bt c492) (rN 3 Z ?_)
     obtain ⟨t521,h522,H⟩:=bI H
     rcases iS H with ⟨c525,H⟩ | ⟨c525,H⟩
     ·
      refine rG (pS 2 Z (fJ aN Z (D9.calls HS (ro 2 Z) h522) (fun _ wd523 ⟨h524,HS⟩=>⟨_,h524,(pS 2 Z (kN 49 Z (congrArg Bool.not (Bt c525)) (oF Z (oF Z (oF Z (oF Z (oF Z (oF Z (GO.Ii Z Z Z Z Z (nL (rN 2 Z (rG ?_))))))))))))⟩)))
      refine lW 1 HS Z Lv (sW 0 HS Z Lv Z fun wd532 HS=>aS Z (nL ?_))
      obtain ⟨rfl,rfl,rfl⟩:=Rb H
      exact G.Lb _ _ func190 Z (Iq.Ji (j:=0) (vs:=[sV A9 c1 c10,sV A17 a1 c18]) HS Z Z Z Lv) Z ⟨_,_,_,_,Z,(HS.pk 5 [2,3] Z)⟩
     obtain ⟨c526,H⟩:=iN H
     obtain ⟨e527,h528,H⟩:=Cr H
     refine rG (pS 2 Z (fJ aN Z (D9.calls HS (ro 2 Z) h522) (fun _ wd523 ⟨h524,HS⟩=>⟨_,h524,(pS 2 Z (kN 49 Z (congrArg Bool.not c525) (oN Z (mV Z (bK (oN Z (mV Z (bK (oN Z (iX Z Sw R8 (rk (ro 2 Z) HS) c526 (bK (oN Z ?_))))))))))))⟩)))
     refine GO.fld (ea A9 (((([t372,t373,t374,t375]:List Int).getD x430.toNat 0).toNat) * 2)) Z Z Tw Z Z (bK (oN Z (GO.Gb (T:=Ht) (n:=(([t372,t373,t374,t375]:List Int).getD x430.toNat 0).toNat) (o:=0) HS (ro 2 Z) Z Z (Ba (ltN c526) h528) Z Z na2 Z (bK (oN Z (GO.geq Z Z Z Z (bK (GO.Ki Z Z Z Z Z (nL ?_)))))))))
     rcases iE H with ⟨c529,H⟩ | ⟨c529,H⟩
     ·
      refine yB Z (tT c529) (sQ (rG (lW 1 HS Z Lv (sW 0 HS Z Lv Z fun wd530 HS=>aS Z (nL ?_)))))
      obtain ⟨rfl,rfl,rfl⟩:=Rb H
      exact G.Lb _ _ func190 Z (Iq.Ji (j:=0) (vs:=[sV A9 c1 c10,sV A17 a1 c18]) HS Z Z Z Lv) Z ⟨_,_,_,_,Z,(HS.pk 5 [2,3] Z)⟩
     refine nB Z (tF c529) (G.skip (rG (pS 4 Z (GO.Gj (.agg [I x195,I x430].toArray) Z Z (fun _=>by kernel_rfl) Z (iX Z Sw R8 (rk (ro 2 Z) HS) c526 (GO.N9 (T:=Ht) (j:=2) (n:=(([t372,t373,t374,t375]:List Int).getD x430.toNat 0).toNat) (o:=0) (vs:=[I x195,I x430]) (⟨x195,x430⟩:Gm) HS Z Bw Z Z Z Z (htA Td) Z (getD_some (d:=Ka) (ltN c526)) Z Z fun wd531 HS=>nL (G.len (t:=50) (m:=(c1.set ((([t372,t373,t374,t375]:List Int).getD x430.toNat 0).toNat) (⟨x195,x430⟩:Gm)).length) Z (by simp only [List.length_set] <;> rfl) ?_)))))))
     replace HS:=HS.Li (j:=1) (cs':=[sV A9 (c1.set ((([t372,t373,t374,t375]:List Int).getD x430.toNat 0).toNat) (⟨x195,x430⟩:Gm)) c10,sV A17 a1 c18]) Z (by simp only [sV,List.length_set] <;> rfl)
     refine rN 3 Z (gW (k1 g1 (lR _) _ _ _ _ H HS) Z)
    refine yB Z c492 (rG (fL b21 1 Z5 Z (lB 1 HS Z Zf Z (aS Z (nL (rN 2 Z ?_))))))
    obtain ⟨t501,h502,H⟩:=bI H
    rcases iS H with ⟨c505,H⟩ | ⟨c505,H⟩
    ·
     refine rG (pS 2 Z (fJ aN Z (D9.calls HS (ro 3 Z) h502) (fun _ wd503 ⟨h504,HS⟩=>⟨_,h504,(pS 2 Z (kN 49 Z (congrArg Bool.not (Bt c505)) (oF Z (oF Z (oF Z (oF Z (oF Z (oF Z (GO.Ii Z Z Z Z Z (nL (rN 2 Z (rG ?_))))))))))))⟩)))
     refine lW 1 HS Z Lv (sW 0 HS Z Lv Z fun wd512 HS=>aS Z (nL ?_))
     obtain ⟨rfl,rfl,rfl⟩:=Rb H
     exact G.Lb _ _ func190 Z (Iq.Ji (j:=0) (vs:=[sV A9 c1 c10,sV A17 a1 c18]) HS Z Z Z Lv) Z ⟨_,_,_,_,Z,(HS.pk 5 [2,3] Z)⟩
    obtain ⟨c506,H⟩:=iN H
    obtain ⟨e507,h508,H⟩:=Cr H
    refine rG (pS 2 Z (fJ aN Z (D9.calls HS (ro 3 Z) h502) (fun _ wd503 ⟨h504,HS⟩=>⟨_,h504,(pS 2 Z (kN 49 Z (congrArg Bool.not c505) (oN Z (mV Z (bK (oN Z (mV Z (bK (oN Z (iX Z Sw R8 (rk (ro 3 Z) HS) c506 (bK (oN Z ?_))))))))))))⟩)))
    refine GO.fld (ea A17 (((([t372,t373,t374,t375]:List Int).getD x430.toNat 0).toNat) * 2)) Z Z Tw Z Z (bK (oN Z (GO.Gb (T:=Ht) (n:=(([t372,t373,t374,t375]:List Int).getD x430.toNat 0).toNat) (o:=0) HS (ro 3 Z) Z Z (Ba (ltN c506) h508) Z Z na2 Z (bK (oN Z (GO.geq Z Z Z Z (bK (GO.Ki Z Z Z Z Z (nL ?_)))))))))
    rcases iE H with ⟨c509,H⟩ | ⟨c509,H⟩
    ·
     refine yB Z (tT c509) (sQ (rG (lW 1 HS Z Lv (sW 0 HS Z Lv Z fun wd510 HS=>aS Z (nL ?_)))))
     obtain ⟨rfl,rfl,rfl⟩:=Rb H
     exact G.Lb _ _ func190 Z (Iq.Ji (j:=0) (vs:=[sV A9 c1 c10,sV A17 a1 c18]) HS Z Z Z Lv) Z ⟨_,_,_,_,Z,(HS.pk 5 [2,3] Z)⟩
    refine nB Z (tF c509) (G.skip (rG (pS 4 Z (GO.Gj (.agg [I x195,I x430].toArray) Z Z (fun _=>by kernel_rfl) Z (iX Z Sw R8 (rk (ro 3 Z) HS) c506 (GO.N9 (T:=Ht) (j:=3) (n:=(([t372,t373,t374,t375]:List Int).getD x430.toNat 0).toNat) (o:=0) (vs:=[I x195,I x430]) (⟨x195,x430⟩:Gm) HS Z Bw Z Z Z Z (htA Td) Z (getD_some (d:=Ka) (ltN c506)) Z Z fun wd511 HS=>nL (G.len (t:=50) (m:=(a1.set ((([t372,t373,t374,t375]:List Int).getD x430.toNat 0).toNat) (⟨x195,x430⟩:Gm)).length) Z (by simp only [List.length_set] <;> rfl) ?_)))))))
    replace HS:=HS.Li (j:=1) (cs':=[sV A9 c1 c10,sV A17 (a1.set ((([t372,t373,t374,t375]:List Int).getD x430.toNat 0).toNat) (⟨x195,x430⟩:Gm)) c18]) Z (by simp only [sV,List.length_set] <;> rfl)
    refine rN 3 Z (gW (k1 g1 (lR _) _ _ _ _ H HS) Z)
   exact gW (p1 m1 (lR _) _ _ _ _ H (HS.pk 5 [1,2,3,4,0] Z)) Z
  exact gW (v1 K (lR _) _ _ _ _ H (HS.pk 7 [5,0,3,1] Z)) Z
theorem I1.calls {e1:List Ah} {g1:Int} {d1 f1:List Gm} {c1 a1:Int} {r1 r2:Int} (HS:St w0 w (L)) (r_a:Av w0 L Au A_a c_a uu e1) (r_b:Av w0 L Ht A_b c_b uu d1) (r_c:Av w0 L Ht A_c c_c uu f1) (H:I1.f e1 g1 d1 f1 c1 a1=some (r1,r2)) :
    Calls prog 211 #[.agg [sV A_a e1 c_a,I g1].toArray,.agg [sV A_b d1 c_b,sV A_c f1 c_c].toArray,.agg [I c1,I a1].toArray] w (I1.post w0 L r1 r2):=by
  unfold I1.f at H
  refine cG func211 Z ?_
  refine sQ (rG (bA HS Z fun b1 wd2 HS=>bA HS Z fun b3 wd4 HS=>bA HS Z fun b5 wd6 HS=>GO.alloc HS Z oZ Z Z fun b7 wd8 HS=>nL (sQ ?_)))
  obtain ⟨c9,H⟩:=iN H
  obtain ⟨e10,h11,H⟩:=Cr H
  refine rG (fL b1 0 Jr Z (lB 3 HS Z Ol Z (fL b5 0 Tw Z (lB 1 HS Z na2 Z (iX Z U54 Oz (rk (rD 4 r_a) HS) c9 (GO.J4 (T:=Au) (n:=c1.toNat) HS (rD 4 r_a) Z Z (Ba (ltN c9) h11) Ni Z (GO.alloc HS Z Zl Z Z fun b12 wd13 HS=>sW 0 HS Z Ni Z fun wd14 HS=>nL (sQ ?_))))))))
  obtain ⟨t15,t16,t17,t18,h19,H⟩:=Hz H
  obtain ⟨c22,H⟩:=iN H
  refine G.O7 mixed (fun w=>St w0 w (Box b12 163 [I e10.A,I e10.B,I e10.C,I e10.D,I e10.Sign]::Box b5 233 [I c1,I a1]::L)) [0,3] [2,0,3,1,4,5] [] (by kernel_rfl) (by kernel_rfl) (HS.drew.pk 5 [0,2] Z) ?_
  replace HS:=HS.drew
  refine qL Z Z (fun _ _ g=>fL b5 1 Z4 Z g) Z (GX.ls Z Z Z (HS.pk 5 [0,2] Z) (fun _ HS _ g=>lW 0 HS Z Ni g) Z (GX.ls Z Z Z (HS.pk 5 [0,2] Z) (fun _ HS _ g=>lB 1 HS Z na2 Z g) Z (GX.l2 Z (fJ lD Z (H6.calls HS  h19) (fun _ wd20 ⟨h21,HS⟩=>⟨_,h21,(GX.fin (HS.pk 5 [0,2] Z) (qL Z Z (fun _ _ g=>GO.iV ([t15,t16,t17,t18]:List Int) Z Z Z Ug U2 sz2 Z c22.1 c22.2 Z g) Z (GX.ps 1 Z (GX.nil (rN 2 Z ?_)))))⟩)))))
  obtain ⟨t23,h24,H⟩:=bI H
  refine rG (lW 0 HS Z Ni (fL b5 1 Z4 Z (lB 2 HS Z na2 Z (fJ oW Z (Gi.calls HS  h24) (fun _ wd25 ⟨h26,HS⟩=>⟨_,h26,(nL ?_)⟩)))))
  rcases iE H with ⟨c27,H⟩ | ⟨c27,H⟩
  ·
   refine yB Z c27 (sQ ?_)
   obtain ⟨c28,H⟩:=iN H
   obtain ⟨e29,h30,H⟩:=Cr H
   refine rG (fL b3 0 aZ Z (lB 3 HS Z Zf Z (mV Z (iX Z Sw R8 (rk (rD 5 r_b) HS) c28 (GO.J4 (T:=Ht) (n:=(([t15,t16,t17,t18]:List Int).getD a1.toNat 0).toNat) HS (rD 5 r_b) Z Z (Ba (ltN c28) h30) Td Z (sW 1 HS Z Td Z fun wd31 HS=>nL ?_))))))
   obtain ⟨rfl,rfl⟩:=Nq H
   exact rT _ func211 Z (Iq.Ji (j:=1) (vs:=[I e29.crossing,I e29.position]) HS Z Z Z Td) ⟨Z,(HS.pk 5 [] Z)⟩
  refine nB Z (Bt c27) (rN 2 Z ?_)
  obtain ⟨c32,H⟩:=iN H
  obtain ⟨e33,h34,H⟩:=Cr H
  refine rG (fL b3 1 Z5 Z (lB 3 HS Z Zf Z (mV Z (iX Z Sw R8 (rk (rD 5 r_c) HS) c32 (GO.J4 (T:=Ht) (n:=(([t15,t16,t17,t18]:List Int).getD a1.toNat 0).toNat) HS (rD 5 r_c) Z Z (Ba (ltN c32) h34) Td Z (sW 1 HS Z Td Z fun wd35 HS=>nL ?_))))))
  obtain ⟨rfl,rfl⟩:=Nq H
  exact rT _ func211 Z (Iq.Ji (j:=1) (vs:=[I e33.crossing,I e33.position]) HS Z Z Z Td) ⟨Z,(HS.pk 5 [] Z)⟩
theorem Ca.calls {a1:List Ah} {g1:Int} {f1 d1:List Gm} {r1:List (List Int)} (HS:St w0 w (L)) (r_a:Av w0 L Au A_a c_a uu a1) (r_b:Av w0 L Ht A_b c_b uu f1) (r_c:Av w0 L Ht A_c c_c uu d1) (H:Ca.f K a1 g1 f1 d1=some r1) :
    Calls prog 192 #[.agg [sV A_a a1 c_a,I g1].toArray,.agg [sV A_b f1 c_b,sV A_c d1 c_c].toArray] w (Ca.post w0 L r1):=by
  unfold Ca.f at H
  refine cG func192 Z ?_
  refine sQ ?_
  refine rG ?_
  refine bA HS Z ?_; intro b1 wd2 HS
  refine bA HS Z ?_; intro b3 wd4 HS
  refine aS Z ?_
  refine nL ?_
  refine rN 3 Z ?_
  obtain ⟨c5,H⟩:=iN H
  obtain ⟨c6,H⟩:=iN H
  refine rG ?_
  refine fL b1 0 Jr Z ?_
  refine lB 1 HS Z Ol Z ?_
  refine lS Z Z U54 Z ?_
  refine GO.mul Z Z Z Z ?_
  refine GO.make (T:=Na) false () HS Bw Z Z Z Uf qR Z Z Z c5 c6 Z ?_; intro b7 wd8 HS
  refine aS Z ?_
  refine nL ?_
  refine rN 2 Z ?_
  refine rG ?_
  refine mV Z ?_
  refine lS Z Z Uf Z ?_
  refine mV Z ?_
  refine nL ?_
  refine rN 2 Z ?_
  refine G.name (fun v1 z1=>?_)
  have a2:∀ o1,o1≤K→∀ (A82:Option Addr) (c83:Nat) (e1:List (List Int)) (y85:Nat→(Ty.slice 2 (Bi .i64)).Lay) (k1:List Bool) (x87:Int) (w:World),Ca.l1 K o1 a1 g1 f1 d1 e1 k1 x87=some r1→St w0 w (Box b1 56 [sV A_a a1 c_a,I g1]::Box b3 187 [sV A_b f1 c_b,sV A_c d1 c_c]::Own (Ty.slice 2 (Bi .i64)) 32 A82 c83 y85 e1::Own Na 4 (sb b7) ((w64 (4 * (a1.length:Int))).toNat) uu k1::L)→G prog 192 58 [(2,pT b1),(3,pT b3),(5,sV A82 e1 c83),(6,sV (sb b7) k1 ((w64 (4 * (a1.length:Int))).toNat)),(17,I ((List.replicate (w64 (4 * (a1.length:Int))).toNat false).length:Int)),(18,I x87)] v1 w (Ca.post w0 L r1):=by
   refine lp (fun _ _ _ _ _ _ w H _=>by rw [Ca.l1] at H; cases H) fun p1 b2 s1 A82 c83 e1 y85 k1 x87 w H HS=>?_
   rw [Ca.l1] at H
   subst z1
   refine rN 3 Z ?_
   rcases iS H with ⟨c161,H⟩ | ⟨c161,H⟩
   ·
    refine nB Z (tF c161) ?_
    refine rN 3 Z ?_
    obtain rfl:=sI H
    exact rT _ func192 Z Z ⟨_,_,_,Z,(HS.pk 4 [2] Z)⟩
   refine yB Z (tT c161) ?_
   refine rN 12 Z ?_
   refine G.name (fun y1 u1=>?_)
   have t1:∀ q1,q1≤p1→∀ (h1:List Bool) (A180:Option Addr) (c181:Nat) (i1:List Int) (c1:Int) (w:World),Ca.l4 K q1 a1 g1 f1 d1 e1 x87 h1 i1 c1=some r1→St w0 w (Box b1 56 [sV A_a a1 c_a,I g1]::Box b3 187 [sV A_b f1 c_b,sV A_c d1 c_c]::Own (Ty.slice 2 (Bi .i64)) 32 A82 c83 y85 e1::Own Na 4 (sb b7) ((w64 (4 * (a1.length:Int))).toNat) uu h1::Own (Bi .i64) 2 A180 c181 uu i1::L)→G prog 192 58 [(2,pT b1),(3,pT b3),(5,sV A82 e1 c83),(6,sV (sb b7) h1 ((w64 (4 * (a1.length:Int))).toNat)),(8,sV A180 i1 c181),(9,I c1),(17,I ((List.replicate (w64 (4 * (a1.length:Int))).toNat false).length:Int)),(18,I x87)] y1 w (Ca.post w0 L r1):=by
    refine lp (fun _ _ _ _ _ w H _=>by rw [Ca.l4] at H; cases H) fun m1 n1 x1 h1 A180 c181 i1 c1 w H HS=>?_
    rw [Ca.l4] at H
    subst u1
    refine rN 2 Z ?_
    obtain ⟨c209,H⟩:=iN H
    refine rG ?_
    refine pS 2 Z ?_
    refine iX Z Uf sz4 (fun _=>⟨_,_,Z⟩) c209 ?_
    refine GO.Gb (T:=Na) (n:=c1.toNat) (o:=0) HS (ro 3 Z) Z Z (getD_some (d:=false) (ltN c209)) Z Z na4 Z ?_
    refine GO.not Z Z Z ?_
    refine nL ?_
    rcases iE H with ⟨c210,H⟩ | ⟨c210,H⟩
    ·
     refine nB Z (congrArg Bool.not c210) ?_
     refine rN 2 Z ?_
     refine rG ?_
     refine mV Z ?_
     refine lS Z Z U32 Z ?_
     refine GO.gtr Z Z Z Z ?_
     refine nL ?_
     rcases iS H with ⟨c211,H⟩ | ⟨c211,H⟩
     ·
      refine nB Z (tF c211) ?_
      refine rN 4 Z ?_
      exact gW (s1 m1 (Nat.le_of_succ_le n1) _ _ _ _ _ _ _ H (HS.pk 5 [0,1,2,3] Z)) Z
     refine yB Z (tT c211) ?_
     obtain ⟨c217,H⟩:=iN H
     refine rG ?_
     refine pS 2 Z ?_
     refine GO.Gr (el:=32) ([sV A180 i1 c181]) HS Z Z (fun _=>by kernel_rfl) Z ?_; intro b212 wd213 HS
     replace HS:=HS.pk 6 [3,0,5,1,2,4] Z
     refine GO.dW (S:=(Bi .i64)) (u:=2) HS Z Z Z pK uH Z Z c217 Z ?_; intro A215 c216 y218 wd214 HS
     refine aS Z ?_
     refine nL ?_
     refine rN 3 Z ?_
     exact gW (s1 m1 (Nat.le_of_succ_le n1) _ _ _ _ _ _ _ H (HS.pk 5 [2,3,0,4] Z)) Z
    refine yB Z (congrArg Bool.not (Bt c210)) ?_
    refine rN 3 Z ?_
    refine rG ?_
    refine pS 2 Z ?_
    refine iX Z Uf sz4 (fun _=>⟨_,_,Z⟩) c209 ?_
    refine GO.N9 (T:=Na) (j:=3) (n:=c1.toNat) (o:=0) (vs:=[.bool true]) true HS Z Bw Z Z Z Z (htN na4 Z) Z (getD_some (d:=false) (ltN c209)) Z Z ?_; intro wd219 HS
    refine nL ?_
    refine G.len (t:=6) (m:=(h1.set c1.toNat true).length) Z (by simp only [List.length_set] <;> rfl) ?_
    refine sQ ?_
    obtain ⟨c225,H⟩:=iN H
    refine rG ?_
    refine pS 2 Z ?_
    refine GO.Gr (el:=2) ([I c1]) HS Z Z (fun _=>by kernel_rfl) Z ?_; intro b220 wd221 HS
    refine GO.app1 (T:=(Bi .i64)) (j:=5) (jb:=0) c1 HS Z Z Bw Z Z Z U32 Va Z Z Z c225 Z ?_; intro A223 c224 wd222 HS
    refine aS Z ?_
    refine nL ?_
    refine sQ ?_
    obtain ⟨t226,t227,h228,H⟩:=Dt H
    refine rG ?_
    refine lW 1 HS Z Oe ?_
    refine lW 2 HS Z Lv ?_
    refine mV Z ?_
    refine GO.quo Z Z Z (by decide) Z ?_
    refine pS 2 Z ?_
    refine GO.rem Z Z Z (by decide) Z ?_
    refine GO.Gj (.agg [I (w64 (c1.tdiv 4)),I ((w64 (c1+1)).tmod 4)].toArray) Z Z (fun _=>by kernel_rfl) Z ?_
    refine fJ xU Z (I1.calls HS (rD 6 r_a) (rD 6 r_b) (rD 6 r_c) h228) (fun _ wd229 ⟨h230,HS⟩=>⟨_,h230,?_⟩)
    refine GO.alloc HS Z oZ Z Z ?_; intro b231 wd232 HS
    refine sW 0 HS Z Td Z ?_; intro wd233 HS
    refine nL ?_
    refine rG ?_
    refine fL b231 0 Tw Z ?_
    refine lB 0 HS Z na2 Z ?_
    refine GO.mul Z Z Z Z ?_
    refine fL b231 1 Z4 Z ?_
    refine lB 0 HS Z na2 Z ?_
    refine pS 2 Z ?_
    refine nL ?_
    refine rN 2 Z ?_
    exact gW (x1 m1 (lR _) _ _ _ _ _ _ H (HS.pk 7 [2,3,4,5,6] Z)) Z
   replace HS:=HS.Da (Bi .i64) 2 uu
   exact gW (t1 p1 (lR _) _ _ _ _ _ _ H (HS.pk 5 [1,2,3,4,0] Z)) Z
  replace HS:=HS.Da (Ty.slice 2 (Bi .i64)) 32 (fun _=>⟨none,0,uu⟩)
  exact gW (a2 K (lR _) _ _ _ _ _ _ _ H (HS.pk 4 [3,2,0,1] Z)) Z
theorem L8.calls {list:List (List Int)} {y_a:Nat→(Ty.slice 2 (Bi .i64)).Lay} {r1:Int} (HS:St w0 w (L)) (r_a:Av w0 L (Ty.slice 2 (Bi .i64)) A_a c_a y_a list) (H:L8.f list=some r1) :
    Calls prog 191 #[sV A_a list c_a] w (L8.post w0 L r1):=by
  unfold L8.f at H
  refine cG func191 Z ?_
  refine rN 3 Z (rG (mV Z (lS Z Z pK Z (aS Z (nL ?_)))))
  obtain rfl:=sI H
  exact rT _ func191 Z Z ⟨Z,HS⟩
theorem Gq.calls {n_:Int} {r1:List Int} (HS:St w0 w (L)) (H:Gq.f K n_=some r1) :
    Calls prog 213 #[I n_] w (Gq.post w0 L r1):=by
  unfold Gq.f at H
  refine cG func213 Z ?_
  refine rN 9 Z ?_
  refine G.name (fun f1 d1=>?_)
  have e1:∀ b1,b1≤K→∀ (A8:Option Addr) (c9:Nat) (a1:List Int) (x11:Int) (w:World),Gq.l1 K b1 n_ a1 x11=some r1→St w0 w (Own (Bi .i64) 2 A8 c9 uu a1::L)→G prog 213 15 [(3,sV A8 a1 c9),(5,I n_),(6,I x11)] f1 w (Gq.post w0 L r1):=by
   refine lp (fun _ _ _ _ w H _=>by rw [Gq.l1] at H; cases H) fun c1 h1 g1 A8 c9 a1 x11 w H HS=>?_
   rw [Gq.l1] at H
   subst d1
   refine rN 3 Z ?_
   rcases iS H with ⟨c19,H⟩ | ⟨c19,H⟩
   ·
    refine nB Z (tF c19) (rN 3 Z ?_)
    obtain rfl:=sI H
    exact rT _ func213 Z Z ⟨_,_,Z,HS⟩
   refine yB Z (tT c19) (rN 5 Z ?_)
   obtain ⟨c25,H⟩:=iN H
   refine rG (pS 2 Z (GO.Gr (el:=2) ([I x11]) HS Z Z (fun _=>by kernel_rfl) Z fun b20 wd21 HS=>GO.app1 (T:=(Bi .i64)) (j:=1) (jb:=0) x11 HS Z Z Bw Z Z Z U32 Va Z Z Z c25 Z fun A23 c24 wd22 HS=>aS Z (nL (rN 3 Z (gW (g1 c1 (lR _) _ _ _ _ _ H (HS.pk 2 [1] Z)) Z)))))
  replace HS:=HS.Da (Bi .i64) 2 uu
  exact gW (e1 K (lR _) _ _ _ _ _ H HS) Z
theorem Ik.calls {sets:List Int} {i k_:Int} {r1:List Int} (HS:St w0 w (Own (Bi .i64) 2 A_a c_a uu sets::L)) (H:Ik.f K sets i k_=some r1) :
    Calls prog 214 #[sV A_a sets c_a,I i,I k_] w (Ik.post w0 L A_a c_a r1):=by
  unfold Ik.f at H
  refine cG func214 Z ?_
  refine sQ ?_
  obtain ⟨c1,H⟩:=iN H
  have h2:=(rk (ro 0 Z) HS)
  obtain ⟨c3,H⟩:=iN H
  have h4:=(rk (ro 0 Z) HS)
  refine G.lex mixed [0,1,2,4,5,6,3,8,7,9] (by kernel_rfl) ?_
  replace HS:=HS.drew
  refine GX.ps 2 Z (qL Z Z (fun _ _ g=>iX Z U32 sz2 h2 c1 g) Z (GX.ps 2 Z (qL Z Z (fun _ _ g=>iX Z U32 sz2 h4 c3 g) Z (GX.l1 Z Z Z (fun _ g=>GO.Gb (T:=(Bi .i64)) (n:=k_.toNat) (o:=0) HS (ro 0 Z) Z Z (getD_some (d:=0) (ltN c1)) Z Z na2 Z g) Z (GX.ps 1 Z (GX.l1 Z Z Z (fun _ g=>GO.Gb (T:=(Bi .i64)) (n:=i.toNat) (o:=0) HS (ro 0 Z) Z Z (getD_some (d:=0) (ltN c3)) Z Z na2 Z g) Z (GX.ps 1 Z (GX.nil (sQ (rG (mV Z (lS Z Z U32 Z (mV Z (nL ?_))))))))))))))
  refine rN 2 Z ?_
  refine G.name (fun g1 e1=>?_)
  have f1:∀ b1,b1≤K→∀ (x9:List Int) (x10:Int) (w:World),Ik.l1 K b1 sets i k_ x9 x10=some r1→St w0 w (Own (Bi .i64) 2 A_a c_a uu x9::L)→G prog 214 33 [(0,sV A_a x9 c_a),(6,I (sets.getD k_.toNat 0)),(7,I (sets.getD i.toNat 0)),(18,sV A_a x9 c_a),(19,I (sets.length:Int)),(20,I x10)] g1 w (Ik.post w0 L A_a c_a r1):=by
   refine lp (fun _ _ w H _=>by rw [Ik.l1] at H; cases H) fun a1 h1 d1 x9 x10 w H HS=>?_
   rw [Ik.l1] at H
   subst e1
   refine rN 3 Z ?_
   rcases iS H with ⟨c15,H⟩ | ⟨c15,H⟩
   ·
    refine nB Z (tF c15) (G.exit Z ?_)
    obtain rfl:=sI H
    exact G.Abo func214 Z ⟨Z,HS⟩
   refine yB Z (tT c15) (rN 4 Z ?_)
   obtain ⟨c16,H⟩:=iN H
   refine rG (mV Z (iX Z U32 sz2 (rk (ro 0 Z) HS) c16 (GO.Gb (T:=(Bi .i64)) (n:=x10.toNat) (o:=0) HS (ro 0 Z) Z Z (getD_some (d:=0) (ltN c16)) Z Z na2 Z (pS 2 Z (nL (rN 2 Z ?_))))))
   rcases iS H with ⟨c17,H⟩ | ⟨c17,H⟩
   ·
    refine nB Z (tF c17) (rN 4 Z (gW (d1 a1 (lR _) _ _ _ H HS) Z))
   refine yB Z (tT c17) (rG (pS 3 Z (iX Z U32 sz2 (rk (ro 0 Z) HS) c16 (GO.N9 (T:=(Bi .i64)) (j:=0) (n:=x10.toNat) (o:=0) (vs:=[I (sets.getD i.toNat 0)]) (sets.getD i.toNat 0) HS Z Bw Z Z Z Z (htN na2 Z) Z (getD_some (d:=0) (ltN c16)) Z Z fun wd18 HS=>nL (G.len (t:=0) (m:=(x9.set x10.toNat (sets.getD i.toNat 0)).length) Z (by simp only [List.length_set] <;> rfl) (G.len (t:=18) (m:=(x9.set x10.toNat (sets.getD i.toNat 0)).length) Z (by simp only [List.length_set] <;> rfl) (rN 3 Z (gW (d1 a1 (lR _) _ _ _ H HS) Z))))))))
  exact gW (f1 K (lR _) _ _ _ H HS) Z
theorem Cy.calls {roots:List Int} {r1:List Int} (HS:St w0 w (L)) (r_a:Av w0 L (Bi .i64) A_a c_a uu roots) (H:Cy.f K roots=some r1) :
    Calls prog 215 #[sV A_a roots c_a] w (Cy.post w0 L r1):=by
  unfold Cy.f at H
  refine cG func215 Z ?_
  refine rN 3 Z (rG (GO.aY .i64 .i64 HS Z Z fun b1 wd2 HS=>aS Z (nL (rN 4 Z (rG (mV Z (lS Z Z U32 Z (mV Z (nL (rN 2 Z ?_))))))))))
  refine G.name (fun q1 m1=>?_)
  have o1:∀ g1,g1≤K→∀ (e1:List (Int × Int)) (A17:Option Addr) (c18:Nat) (a1:List Int) (x20:Int) (w:World),Cy.l1 K g1 roots e1 a1 x20=some r1→St w0 w (Uv b1 .i64 .i64 e1::Own (Bi .i64) 2 A17 c18 uu a1::L)→G prog 215 36 [(3,.map (some b1)),(4,sV A17 a1 c18),(10,sV A_a roots c_a),(11,I (roots.length:Int)),(12,I x20)] q1 w (Cy.post w0 L r1):=by
   refine lp (fun _ _ _ _ _ w H _=>by rw [Cy.l1] at H; cases H) fun d1 t1 s1 e1 A17 c18 a1 x20 w H HS=>?_
   rw [Cy.l1] at H
   subst m1
   refine rN 3 Z ?_
   rcases iS H with ⟨c34,H⟩ | ⟨c34,H⟩
   ·
    refine nB Z (tF c34) (rN 3 Z ?_)
    obtain rfl:=sI H
    exact rT _ func215 Z Z ⟨_,_,Z,(HS.pk 2 [1] Z)⟩
   refine yB Z (tT c34) (rN 4 Z ?_)
   obtain ⟨c35,H⟩:=iN H
   refine rG (iX Z U32 sz2 (rk (rD 2 r_a) HS) c35 (GO.Gb (T:=(Bi .i64)) (n:=x20.toNat) (o:=0) HS (rD 2 r_a) Z Z (getD_some (d:=0) (ltN c35)) Z Z na2 Z (aS Z (nL (rN 2 Z (rG (pS 2 Z (GO.sD (j:=0) HS Z Z Z Z qE U2 zr2 Z (pS 5 Z (nL (rN 2 Z ?_)))))))))))
   refine G.Qj (fun p1 n1=>?_)
   have f1:∀ h1,h1≤d1→∀ (c1:List (Int × Int)) (w:World),Cy.j4 K h1 roots a1 x20 c1=some r1→St w0 w (Uv b1 .i64 .i64 c1::Own (Bi .i64) 2 A17 c18 uu a1::L)→G prog 215 36 [(3,.map (some b1)),(4,sV A17 a1 c18),(6,I (roots.getD x20.toNat 0)),(10,sV A_a roots c_a),(11,I (roots.length:Int)),(12,I x20)] p1 w (Cy.post w0 L r1):=by
    refine jp (fun _ w H _=>by rw [Cy.j4] at H; cases H) fun k1 i1 c1 w H HS=>?_
    rw [Cy.j4] at H
    subst n1
    obtain ⟨c44,H⟩:=iN H
    refine rG (pS 3 Z (GO.Aal (j:=0) HS Z Z Z Z qE U2 zr2 Z (GO.Gr (el:=2) ([I ((Nw c1 (roots.getD x20.toNat 0)).getD 0)]) HS Z Z (fun _=>by kernel_rfl) Z fun b39 wd40 HS=>GO.app1 (T:=(Bi .i64)) (j:=2) (jb:=0) ((Nw c1 (roots.getD x20.toNat 0)).getD 0) HS Z Z Bw Z Z Z U32 Va Z Z Z c44 Z fun A42 c43 wd41 HS=>aS Z (nL (rN 3 Z (gW (s1 k1 (Nat.le_of_succ_le i1) _ _ _ _ _ _ H (HS.pk 3 [1,2] Z)) Z))))))
   rcases iE H with ⟨c45,H⟩ | ⟨c45,H⟩
   ·
    refine nB Z (congrArg Bool.not c45) (G.skip (gW (f1 d1 (lR _) _ _ H HS) Z))
   refine yB Z (congrArg Bool.not (Bt c45)) (rG (pS 3 Z (GO.zX (j:=0) HS Z Z Z qE Z (GO.zK (j:=0) HS Z Z Z Z Z qE U2 fun wd46 HS=>nL (gW (f1 d1 (lR _) _ _ H HS) Z)))))
  replace HS:=HS.Da (Bi .i64) 2 uu
  exact gW (o1 K (lR _) _ _ _ _ _ _ H (HS.pk 2 [1,0] Z)) Z
theorem Cz.calls {e1:List Ah} {f1:Int} {a1 c1:List Gm} {r1:List Int} (HS:St w0 w (L)) (r_a:Av w0 L Au A_a c_a uu e1) (r_b:Av w0 L Ht A_b c_b uu a1) (r_c:Av w0 L Ht A_c c_c uu c1) (H:Cz.f K e1 f1 a1 c1=some r1) :
    Calls prog 194 #[.agg [sV A_a e1 c_a,I f1].toArray,.agg [sV A_b a1 c_b,sV A_c c1 c_c].toArray] w (Cz.post w0 L r1):=by
  unfold Cz.f at H
  refine cG func194 Z ?_
  refine sQ (rG (bA HS Z fun b1 wd2 HS=>bA HS Z fun b3 wd4 HS=>aS Z (nL (sQ ?_))))
  obtain ⟨t5,h6,H⟩:=bI H
  obtain ⟨t9,h10,H⟩:=bI H
  refine rG (fL b1 0 Jr Z (lB 1 HS Z Ol Z (fJ lJ Z (Fe.calls HS (rD 2 r_a) h6) (fun _ wd7 ⟨h8,HS⟩=>⟨_,h8,(fJ wG Z (Gq.calls HS  h10) (fun _ wd13 ⟨A11,c12,h14,HS⟩=>⟨_,h14,(aS Z (nL (rN 2 Z (rG (fL b3 0 aZ Z (lB 1 HS Z Zf Z (lS Z Z Sw Z (mV Z (nL (rN 2 Z ?_))))))))))⟩))⟩))))
  refine G.name (fun m1 i1=>?_)
  have k1:∀ g1,g1≤K→∀ (d1:List Int) (x37:Int) (w:World),Cz.l1 K g1 a1 c1 d1 x37=some r1→St w0 w (Box b3 187 [sV A_b a1 c_b,sV A_c c1 c_c]::Own (Bi .i64) 2 A11 c12 uu d1::L)→G prog 194 33 [(3,pT b3),(5,sV A11 d1 c12),(13,sV A_b a1 c_b),(14,I (a1.length:Int)),(15,I x37)] m1 w (Cz.post w0 L r1):=by
   refine lp (fun _ _ w H _=>by rw [Cz.l1] at H; cases H) fun h1 o1 n1 d1 x37 w H HS=>?_
   rw [Cz.l1] at H
   subst i1
   refine rN 3 Z ?_
   rcases iS H with ⟨c59,H⟩ | ⟨c59,H⟩
   ·
    refine nB Z (tF c59) (rN 2 Z ?_)
    obtain ⟨t74,h75,H⟩:=bI H
    refine rG (mV Z (fJ yK Z (Cy.calls HS (ro 1 Z) h75) (fun _ wd78 ⟨A76,c77,h79,HS⟩=>⟨_,h79,(aS Z (nL ?_))⟩)))
    obtain rfl:=sI H
    exact rT _ func194 Z Z ⟨_,_,Z,(HS.pk 3 [0] Z)⟩
   refine yB Z (tT c59) (rN 4 Z ?_)
   obtain ⟨c60,H⟩:=iN H
   obtain ⟨e61,h62,H⟩:=Cr H
   refine rG (mV Z (iX Z Sw R8 (rk (rD 2 r_b) HS) c60 (GO.J4 (T:=Ht) (n:=x37.toNat) HS (rD 2 r_b) Z Z (Ba (ltN c60) h62) Td Z (GO.alloc HS Z oZ Z Z fun b63 wd64 HS=>aS Z (sW 0 HS Z Td Z fun wd65 HS=>nL ?_)))))
   obtain ⟨c66,H⟩:=iN H
   obtain ⟨e67,h68,H⟩:=Cr H
   obtain ⟨t69,h70,H⟩:=bI H
   obtain ⟨c71,H⟩:=iN H
   refine G.lex mixed [0,1,3,5,2,4,6,7,8,9] (by kernel_rfl) ?_
   replace HS:=HS.drew
   refine GX.ps 1 Z (qL Z Z (fun _ _ g=>fL b63 0 Tw Z g) Z (qL Z Z (fun _ _ g=>fL b3 1 Z5 Z g) Z (GX.ps 1 Z (GX.l1 Z Z Z (fun _ g=>lB 0 HS Z na2 Z g) Z (GX.l1 Z Z Z (fun _ g=>lB 1 HS Z Zf Z g) Z (qL Z Z (fun _ _ g=>iX Z Sw R8 (rk (rD 3 r_c) HS) c66 g) Z (qL Z Z (fun _ _ g=>GO.fld (ea A_c (x37.toNat * 2)) Z Z Tw Z Z g) Z (GX.l1 Z Z Z (fun _ g=>GO.Gb (T:=Ht) (n:=x37.toNat) (o:=0) HS (rD 3 r_c) Z Z (Ba (ltN c66) h68) Z Z na2 Z g) Z (GX.l2 Z ?_)))))))))
   replace HS:=HS.pk 3 [2,0,1] Z
   refine fJ vP Z (Ik.calls HS  h70) (fun _ wd72 ⟨h73,HS⟩=>⟨_,h73,(GX.fin tv (GX.nil (G.len (t:=5) (m:=t69.length) Z (by simp only [List.length_set,c71] <;> rfl) (rN 3 Z (gW (n1 h1 (lR _) _ _ _ H (HS.pk 3 [2,0] Z)) Z)))))⟩)
  exact gW (k1 K (lR _) _ _ _ H (HS.pk 3 [1,0] Z)) Z
theorem Cq.calls {x:List Int} {r1:Int} (HS:St w0 w (L)) (r_a:Av w0 L (Bi .i64) A_a c_a uu x) (H:Cq.f K x=some r1) :
    Calls prog 212 #[sV A_a x c_a] w (Cq.post w0 L r1):=by
  unfold Cq.f at H
  refine cG func212 Z ?_
  refine rN 4 Z (rG (mV Z (lS Z Z U32 Z (GO.lss Z Z Z Z (nL ?_)))))
  rcases iE H with ⟨c2,H⟩ | ⟨c2,H⟩
  ·
   refine yB Z (tT c2) ?_
   cases H
  refine nB Z (tF c2) (rN 2 Z ?_)
  obtain ⟨c3,H⟩:=iN H
  refine rG (mV Z (iX Z U32 sz2 (rk r_a HS) c3 (GO.Gb (T:=(Bi .i64)) (n:=0) (o:=0) HS r_a Z Z (getD_some (d:=0) (ltN c3)) Z Z na2 Z (aS Z (nL (rN 5 Z ?_))))))
  refine G.name (fun f1 c1=>?_)
  have d1:∀ a1,a1≤K→∀ (m_6 i_7:Int) (w:World),Cq.l2 K a1 x m_6 i_7=some r1→St w0 w (L)→G prog 212 25 [(0,sV A_a x c_a),(3,I m_6),(4,I i_7)] f1 w (Cq.post w0 L r1):=by
   refine lp (fun _ _ w H _=>by rw [Cq.l2] at H; cases H) fun e1 g1 b1 m_6 i_7 w H HS=>?_
   rw [Cq.l2] at H
   subst c1
   refine rN 2 Z (rG (pS 2 Z (lS Z Z U32 Z (GO.lss Z Z Z Z (nL ?_)))))
   rcases iS H with ⟨c10,H⟩ | ⟨c10,H⟩
   ·
    refine nB Z (tF c10) (rN 3 Z ?_)
    obtain rfl:=sI H
    exact rT _ func212 Z Z ⟨Z,HS⟩
   refine yB Z (tT c10) (rN 3 Z ?_)
   obtain ⟨c11,H⟩:=iN H
   refine rG (pS 3 Z (iX Z U32 sz2 (rk r_a HS) c11 (GO.Gb (T:=(Bi .i64)) (n:=i_7.toNat) (o:=0) HS r_a Z Z (getD_some (d:=0) (ltN c11)) Z Z na2 Z (GO.max2 Z Z Z Z (aS Z (nL (rN 3 Z (gW (b1 e1 (lR _) _ _ _ H HS) Z))))))))
  exact gW (d1 K (lR _) _ _ _ H HS) Z
theorem Jk.calls {classes:List Int} {r1:Int} (HS:St w0 w (L)) (r_a:Av w0 L (Bi .i64) A_a c_a uu classes) (H:Jk.f K classes=some r1) :
    Calls prog 193 #[sV A_a classes c_a] w (Jk.post w0 L r1):=by
  unfold Jk.f at H
  refine cG func193 Z ?_
  refine rN 4 Z (rG (mV Z (lS Z Z U32 Z (GO.eql Z Z Z Z (nL ?_)))))
  rcases iE H with ⟨c1,H⟩ | ⟨c1,H⟩
  ·
   refine yB Z (tT c1) (rN 2 Z ?_)
   obtain rfl:=sI H
   exact rT _ func193 Z Z ⟨Z,HS⟩
  refine nB Z (tF c1) (rN 2 Z ?_)
  obtain ⟨t2,h3,H⟩:=bI H
  refine rG (mV Z (fJ yR Z (Cq.calls HS r_a h3) (fun _ wd4 ⟨h5,HS⟩=>⟨_,h5,(pS 2 Z (nL ?_))⟩)))
  obtain rfl:=sI H
  exact rT _ func193 Z Z ⟨Z,HS⟩
theorem G7.calls {a1:List Ah} {c1:Int} {r1 r2:List Gm} {r3:Bool} (HS:St w0 w (L)) (r_a:Av w0 L Au A_a c_a uu a1) (H:G7.f K a1 c1=some (r1,r2,r3)) :
    Calls prog 154 #[.agg [sV A_a a1 c_a,I c1].toArray] w (G7.post w0 L r1 r2 r3):=by
  unfold G7.f at H
  refine cG func154 Z ?_
  refine sQ (rG (bA HS Z fun b1 wd2 HS=>GO.alloc HS Z dB Z Z fun b3 wd4 HS=>aS Z (nL (sQ ?_))))
  obtain ⟨t5,h6,H⟩:=bI H
  refine rG (fL b1 0 Jr Z (lB 1 HS Z Ol Z (fJ lJ Z (Fe.calls HS (rD 2 r_a) h6) (fun _ wd7 ⟨h8,HS⟩=>⟨_,h8,(aS Z (nL (rN 2 Z ?_)))⟩))))
  rcases iE H with ⟨c19,H⟩ | ⟨c19,H⟩
  ·
   refine rG (pS 3 Z (kN 12 Z (tT c19) (oF Z (oF Z (oF Z (oF Z (pS 2 Z (oF Z (oF Z (oF Z (GO.Ii Z Z Z Z Z (nL (rN 2 Z (rG ?_))))))))))))))
   refine GO.Gj (.agg [.slice none 0 0,.slice none 0 0].toArray) Z Z (fun _=>by kernel_rfl) Z (sW 0 HS Z Lv Z fun wd20 HS=>aS Z (nL ?_))
   replace HS:=HS.Da Ht 233 uu
   replace HS:=HS.Da Ht 233 uu
   obtain ⟨rfl,rfl,rfl⟩:=Rb H
   exact G.Lb _ _ func154 Z (Iq.Ji (j:=2) (vs:=[.slice none 0 0,.slice none 0 0]) HS Z Z Z Lv) Z ⟨_,_,_,_,Z,(HS.pk 4 [1,0] Z)⟩
  obtain ⟨t21,h22,H⟩:=bI H
  rcases iS H with ⟨c25,H⟩ | ⟨c25,H⟩
  ·
   refine rG (pS 3 Z (kN 12 Z (tF c19) (oN Z (fL b1 1 Qi Z (bK (oN Z (lB 1 HS Z na2 Z (bK (oN Z (fJ Ox Z (Cu.calls HS  h22) (fun _ wd23 ⟨h24,HS⟩=>⟨_,h24,(bK (oN Z (GO.not Z Z Z (bK ?_))))⟩)))))))))))
   refine pS 2 Z (kN 18 Z (congrArg Bool.not (Bt c25)) (oF Z (oF Z (oF Z (GO.Ii Z Z Z Z Z (nL (rN 2 Z (rG (GO.Gj (.agg [.slice none 0 0,.slice none 0 0].toArray) Z Z (fun _=>by kernel_rfl) Z (sW 0 HS Z Lv Z fun wd93 HS=>aS Z (nL ?_)))))))))))
   replace HS:=HS.Da Ht 233 uu
   replace HS:=HS.Da Ht 233 uu
   obtain ⟨rfl,rfl,rfl⟩:=Rb H
   exact G.Lb _ _ func154 Z (Iq.Ji (j:=2) (vs:=[.slice none 0 0,.slice none 0 0]) HS Z Z Z Lv) Z ⟨_,_,_,_,Z,(HS.pk 4 [1,0] Z)⟩
  obtain ⟨t26,h27,H⟩:=bI H
  refine rG (pS 3 Z (kN 12 Z (tF c19) (oN Z (fL b1 1 Qi Z (bK (oN Z (lB 1 HS Z na2 Z (bK (oN Z (fJ Ox Z (Cu.calls HS  h22) (fun _ wd23 ⟨h24,HS⟩=>⟨_,h24,(bK (oN Z (GO.not Z Z Z (bK ?_))))⟩)))))))))))
  refine pS 2 Z (kN 18 Z (congrArg Bool.not c25) (oN Z (fL b1 0 Jr Z (bK (oN Z (lB 1 HS Z Ol Z (bK (oN Z (fJ wS Z (Ch.calls HS (rD 2 r_a) h27) (fun _ wd28 ⟨h29,HS⟩=>⟨_,h29,(bK (GO.Ki Z Z Z Z Z (nL ?_)))⟩))))))))))
  rcases iE H with ⟨c30,H⟩ | ⟨c30,H⟩
  ·
   refine yB Z c30 (sQ (rG (GO.Gj (.agg [.slice none 0 0,.slice none 0 0].toArray) Z Z (fun _=>by kernel_rfl) Z (sW 0 HS Z Lv Z fun wd31 HS=>aS Z (nL ?_)))))
   replace HS:=HS.Da Ht 233 uu
   replace HS:=HS.Da Ht 233 uu
   obtain ⟨rfl,rfl,rfl⟩:=Rb H
   exact G.Lb _ _ func154 Z (Iq.Ji (j:=2) (vs:=[.slice none 0 0,.slice none 0 0]) HS Z Z Z Lv) Z ⟨_,_,_,_,Z,(HS.pk 4 [1,0] Z)⟩
  refine nB Z (Bt c30) (rN 2 Z ?_)
  obtain ⟨t32,t33,t34,h35,H⟩:=M5 H
  refine rG (lW 1 HS Z Oe (fJ zB Z (Bl.calls HS (rD 2 r_a) h35) (fun _ wd40 ⟨A36,c37,A38,c39,h41,HS⟩=>⟨_,h41,(pS 3 Z (GO.alloc HS Z dB Z Z fun b42 wd43 HS=>sW 0 HS Z Lv Z fun wd44 HS=>aS Z (nL (rN 2 Z ?_))))⟩)))
  rcases iS H with ⟨c67,H⟩ | ⟨c67,H⟩
  ·
   refine G.O7 mixed (fun w=>St w0 w (L)) [3,4,8,9] [0,1,2,7,3,4,8,9,5,6,10,11,12,13,14,15] [] (by kernel_rfl) (by kernel_rfl) (HS.drew.pk 5 [] Z) ?_
   replace HS:=HS.drew
   refine GX.ps 2 Z (qL Z Z (fun _ _ g=>mV Z (kN 31 Z (congrArg Bool.not (Bt c67)) g)) Z (qL Z Z (fun _ _ g=>oF Z g) Z (GX.ls Z Z Z (HS.pk 5 [] Z) (fun _ HS _ g=>oF Z g) Z (GX.ls Z Z Z (HS.pk 5 [] Z) (fun _ HS _ g=>oF Z g) Z (GX.ls Z Z Z (HS.pk 5 [] Z) (fun _ HS _ g=>oF Z g) Z (GX.ls Z Z Z (HS.pk 5 [] Z) (fun _ HS _ g=>oF Z g) Z (GX.l2 Z (oF Z (GX.fin (HS.pk 5 [] Z) (GX.l2 Z (oF Z (GX.fin (HS.pk 5 [] Z) (GX.l2 Z (oF Z ?_))))))))))))))
   refine GX.fin (HS.pk 5 [] Z) (GX.l2 Z (oF Z (GX.fin (HS.pk 5 [] Z) (qL Z Z (fun _ _ g=>oF Z g) Z (qL Z Z (fun _ _ g=>oF Z g) Z (qL Z Z (fun _ _ g=>oF Z g) Z (GX.ps 1 Z (GX.nil (rN 2 Z (rG (GO.Gj (.agg [.slice none 0 0,.slice none 0 0].toArray) Z Z (fun _=>by kernel_rfl) Z (sW 3 HS Z Lv Z fun wd92 HS=>aS Z (nL ?_)))))))))))))
   replace HS:=HS.Da Ht 233 uu
   replace HS:=HS.Da Ht 233 uu
   obtain ⟨rfl,rfl,rfl⟩:=Rb H
   exact G.Lb _ _ func154 Z (Iq.Ji (j:=5) (vs:=[.slice none 0 0,.slice none 0 0]) HS Z Z Z Lv) Z ⟨_,_,_,_,Z,(HS.pk 7 [1,0] Z)⟩
  obtain ⟨t68,h69,H⟩:=bI H
  obtain ⟨t75,h76,H⟩:=bI H
  obtain ⟨t79,h80,H⟩:=bI H
  obtain ⟨t85,h86,H⟩:=bI H
  refine G.O7 mixed (fun w=>St w0 w (Box b42 187 [sV A36 t32 c37,sV A38 t33 c39]::Box b1 56 [sV A_a a1 c_a,I c1]::L)) [3,4,8,9] [0,1,2,7,3,4,8,9,5,6,10,11,12,13,14,15] [] (by kernel_rfl) (by kernel_rfl) (HS.drew.pk 5 [0,4] Z) ?_
  replace HS:=HS.drew
  refine GX.ps 2 Z (qL Z Z (fun _ _ g=>mV Z (kN 31 Z (congrArg Bool.not c67) g)) Z (qL Z Z (fun _ _ g=>oN Z (mV Z (bK g))) Z (GX.ls Z Z Z (HS.pk 5 [0,4] Z) (fun _ HS _ g=>oN Z (lW 1 HS Z Oe (bK g))) Z (GX.ls Z Z Z (HS.pk 5 [0,4] Z) (fun _ HS _ g=>oN Z (lW 0 HS Z Lv (bK g))) Z (GX.ls Z Z Z (HS.pk 5 [0,4] Z) (fun _ HS _ g=>oN Z (lW 1 HS Z Oe (bK g))) Z (GX.ls Z Z Z (HS.pk 5 [0,4] Z) (fun _ HS _ g=>oN Z (lW 0 HS Z Lv (bK g))) Z (GX.l2 Z (oN Z (fJ yE Z (Ca.calls HS (rD 5 r_a) (ro 1 Z) (ro 2 Z) h69) (fun _ wd73 ⟨A70,c71,y72,h74,HS⟩=>⟨_,h74,(bK (GX.fin (HS.pk 6 [1,5] Z) (GX.l2 Z (oN Z (fJ xM Z (L8.calls HS (ro 0 Z) h76) (fun _ wd77 ⟨h78,HS⟩=>⟨_,h78,?_⟩))))))⟩))))))))))
  refine bK (GX.fin (HS.pk 6 [1,5] Z) (GX.l2 Z (oN Z (fJ xN Z (Cz.calls HS (rD 6 r_a) (ro 2 Z) (ro 3 Z) h80) (fun _ wd83 ⟨A81,c82,h84,HS⟩=>⟨_,h84,(bK (GX.fin (HS.pk 7 [2,6] Z) (GX.l2 Z (oN Z (fJ vC Z (Jk.calls HS (ro 0 Z) h86) (fun _ wd87 ⟨h88,HS⟩=>⟨_,h88,(bK (GX.fin (HS.pk 7 [2,6] Z) (qL Z Z (fun _ _ g=>oN Z (GO.mul Z Z Z Z (bK g))) Z (qL Z Z (fun _ _ g=>oN Z (GO.add Z Z Z Z (bK g))) Z (qL Z Z (fun _ _ g=>oN Z (GO.neq Z Z Z Z (bK g))) Z ?_)))))⟩))))))⟩)))))
  refine GX.ps 1 Z (GX.nil ?_)
  rcases iE H with ⟨c89,H⟩ | ⟨c89,H⟩
  ·
   refine nB Z (nT c89) (rN 2 Z (rG (lW 2 HS Z Lv (sW 5 HS Z Lv Z fun wd90 HS=>aS Z (nL ?_)))))
   obtain ⟨rfl,rfl,rfl⟩:=Rb H
   exact G.Lb _ _ func154 Z (Iq.Ji (j:=5) (vs:=[sV A36 t32 c37,sV A38 t33 c39]) HS Z Z Z Lv) Z ⟨_,_,_,_,Z,(HS.pk 7 [3,4] Z)⟩
  refine yB Z (nF c89) (sQ (rG (GO.Gj (.agg [.slice none 0 0,.slice none 0 0].toArray) Z Z (fun _=>by kernel_rfl) Z (sW 5 HS Z Lv Z fun wd91 HS=>aS Z (nL ?_)))))
  replace HS:=HS.Da Ht 233 uu
  replace HS:=HS.Da Ht 233 uu
  obtain ⟨rfl,rfl,rfl⟩:=Rb H
  exact G.Lb _ _ func154 Z (Iq.Ji (j:=7) (vs:=[.slice none 0 0,.slice none 0 0]) HS Z Z Z Lv) Z ⟨_,_,_,_,Z,(HS.pk 9 [1,0] Z)⟩
theorem G8.calls {a1:List Ah} {c1:Int} {r1:Bool} (HS:St w0 w (L)) (r_a:Av w0 L Au A_a c_a uu a1) (H:G8.f K a1 c1=some r1) :
    Calls prog 114 #[.agg [sV A_a a1 c_a,I c1].toArray] w (G8.post w0 L r1):=by
  unfold G8.f at H
  refine cG func114 Z ?_
  refine sQ (rG (bA HS Z fun b1 wd2 HS=>aS Z (nL (sQ ?_))))
  obtain ⟨t3,t4,t5,h6,H⟩:=M5 H
  refine rG (lW 0 HS Z Oe (fJ xC Z (G7.calls HS (rD 1 r_a) h6) (fun _ wd11 ⟨A7,c8,A9,c10,h12,HS⟩=>⟨_,h12,(pS 3 Z (GO.alloc HS Z dB Z Z fun b13 wd14 HS=>sW 0 HS Z Lv Z fun wd15 HS=>aS Z (nL (rN 2 Z ?_))))⟩)))
  obtain rfl:=sI H
  exact rT _ func114 Z Z ⟨Z,(HS.pk 4 [] Z)⟩
theorem K6.calls {strands letter:Int} {r1:Bool} (HS:St w0 w (L)) (H:K6.f strands letter=some r1) :
    Calls prog 157 #[I strands,I letter] w (K6.post w0 L r1):=by
  unfold K6.f at H
  refine cG func157 Z ?_
  refine rN 3 Z ?_
  rcases iE H with ⟨c1,H⟩ | ⟨c1,H⟩
  ·
   refine rG (pS 3 Z (kN 7 Z (nT c1) (oF Z (oF Z (oF Z (oF Z (oF Z (oF Z (pS 2 Z (nL ?_))))))))))
   obtain rfl:=sI H
   exact rT _ func157 Z Z ⟨Z,HS⟩
  obtain ⟨t2,h3,H⟩:=bI H
  refine rG (pS 3 Z (kN 7 Z (nF c1) (oN Z (mV Z (bK (oN Z (mV Z (bK (oN Z (GO.sub Z Z Z Z (bK (oN Z (mV Z (bK ?_))))))))))))))
  refine oN Z (GO.sub Z Z Z Z (bK (oN Z (fJ Ox Z (Cu.calls HS  h3) (fun _ wd4 ⟨h5,HS⟩=>⟨_,h5,(bK (pS 2 Z (nL ?_)))⟩)))))
  obtain rfl:=sI H
  exact rT _ func157 Z Z ⟨Z,HS⟩
theorem Ha.calls {x c1:Int} {b1:List Int} {a1:Nat} {r1:Bool} (HS:St w0 w (Box a1 57 [I c1,sV A_a b1 c_a]::L)) (r_a:Av w0 L (Bi .i64) A_a c_a uu b1) (H:Ha.f x c1 b1=some r1) :
    Calls prog 156 #[I x,pT a1] w (Ha.post w0 L c1 b1 a1 A_a c_a r1):=by
  unfold Ha.f at H
  refine cG func156 Z ?_
  refine rN 3 Z ?_
  obtain ⟨t1,h2,H⟩:=bI H
  refine rG (fL a1 0 Ou Z (lB 0 HS Z na2 Z (mV Z (fJ vG Z (K6.calls HS  h2) (fun _ wd3 ⟨h4,HS⟩=>⟨_,h4,(pS 2 Z (nL ?_))⟩)))))
  obtain rfl:=sI H
  exact rT _ func156 Z Z ⟨Z,HS⟩
theorem Bo.calls {s:List Int} {c1:Int} {a1:List Int} {A_a:Option Addr} {c_a b1:Nat} {r1:Int} (HS:St w0 w (Box b1 57 [I c1,sV A_b a1 c_b]::L)) (r_a:Av w0 L (Bi .i64) A_a c_a uu s) (r_b:Av w0 L (Bi .i64) A_b c_b uu a1) (H:Bo.f K s c1 a1=some r1) :
    Calls prog 195 #[sV A_a s c_a,.func (.func 156) #[] #[pT b1]] w (Bo.post w0 L c1 a1 b1 A_b c_b r1):=by
  unfold Bo.f at H
  refine cG func195 Z ?_
  refine rN 4 Z (rG (mV Z (lS Z Z U32 Z (mV Z (nL (rN 2 Z ?_))))))
  refine G.name (fun h1 f1=>?_)
  have g1:∀ d1,d1≤K→∀ (x8:Int) (w:World),Bo.l1 K d1 s c1 a1 x8=some r1→St w0 w (Box b1 57 [I c1,sV A_b a1 c_b]::L)→G prog 195 19 [(0,sV A_a s c_a),(1,.func (.func 156) #[] #[pT b1]),(7,I (s.length:Int)),(8,I x8)] h1 w (Bo.post w0 L c1 a1 b1 A_b c_b r1):=by
   refine lp (fun _ w H _=>by rw [Bo.l1] at H; cases H) fun e1 k1 i1 x8 w H HS=>?_
   rw [Bo.l1] at H
   subst f1
   refine rN 3 Z ?_
   rcases iS H with ⟨c16,H⟩ | ⟨c16,H⟩
   ·
    refine nB Z (tF c16) (rN 3 Z ?_)
    obtain rfl:=sI H
    exact rT _ func195 Z Z ⟨Z,HS⟩
   refine yB Z (tT c16) (rN 6 Z ?_)
   obtain ⟨c17,H⟩:=iN H
   obtain ⟨t18,h19,H⟩:=bI H
   refine rG (pS 3 Z (iX Z U32 sz2 (rk (rD 1 r_a) HS) c17 (GO.Gb (T:=(Bi .i64)) (n:=x8.toNat) (o:=0) HS (rD 1 r_a) Z Z (getD_some (d:=0) (ltN c17)) Z Z na2 Z ?_)))
   replace HS:=HS.pk 1 [0] Z
   refine GO.clo Z Z func156 mK.2.1 mK.2.2 Z Z (Ha.calls HS r_b h19) (fun _ wd20 ⟨h21,HS⟩=>⟨_,h21,(nL ?_)⟩)
   rcases iE H with ⟨c22,H⟩ | ⟨c22,H⟩
   ·
    refine yB Z c22 (rN 2 Z ?_)
    obtain rfl:=sI H
    exact rT _ func195 Z Z ⟨Z,HS⟩
   refine nB Z (Bt c22) (rN 4 Z (gW (i1 e1 (lR _) _ _ H HS) Z))
  exact gW (g1 K (lR _) _ _ H HS) Z
theorem Cx.calls {s:List Int} {c1:Int} {a1:List Int} {A_a:Option Addr} {c_a b1:Nat} {r1:Bool} (HS:St w0 w (Box b1 57 [I c1,sV A_b a1 c_b]::L)) (r_a:Av w0 L (Bi .i64) A_a c_a uu s) (r_b:Av w0 L (Bi .i64) A_b c_b uu a1) (H:Cx.f K s c1 a1=some r1) :
    Calls prog 155 #[sV A_a s c_a,.func (.func 156) #[] #[pT b1]] w (Cx.post w0 L c1 a1 b1 A_b c_b r1):=by
  unfold Cx.f at H
  refine cG func155 Z ?_
  refine rN 3 Z ?_
  obtain ⟨t1,h2,H⟩:=bI H
  refine rG (pS 2 Z ?_)
  replace HS:=HS.pk 1 [0] Z
  refine fJ eY Z (Bo.calls HS r_a r_b h2) (fun _ wd3 ⟨h4,HS⟩=>⟨_,h4,(pS 2 Z (nL ?_))⟩)
  obtain rfl:=sI H
  exact rT _ func155 Z Z ⟨Z,HS⟩
theorem Ih.calls {c1:Int} {a1:List Int} {r1:Bool} (HS:St w0 w (L)) (r_a:Av w0 L (Bi .i64) A_a c_a uu a1) (H:Ih.f K c1 a1=some r1) :
    Calls prog 115 #[.agg [I c1,sV A_a a1 c_a].toArray] w (Ih.post w0 L r1):=by
  unfold Ih.f at H
  refine cG func115 Z ?_
  refine sQ (rG (bA HS Z fun b1 wd2 HS=>aS Z (nL (sQ ?_))))
  obtain ⟨t3,h4,H⟩:=bI H
  rcases iS H with ⟨c7,H⟩ | ⟨c7,H⟩
  ·
   refine rG (fL b1 0 Ou Z (lB 0 HS Z na2 Z (fJ Ox Z (Cu.calls HS  h4) (fun _ wd5 ⟨h6,HS⟩=>⟨_,h6,(mV Z (kN 6 Z (Bt c7) (oF Z (oF Z (oF Z (oF Z (pS 2 Z (oF Z (oF Z (oF Z (oF Z ?_)))))))))))⟩))))
   refine oF Z (pS 2 Z (nL ?_))
   obtain rfl:=sI H
   exact rT _ func115 Z Z ⟨Z,(HS.pk 1 [] Z)⟩
  rcases iS H with ⟨c8,H⟩ | ⟨c8,H⟩
  ·
   refine rG (fL b1 0 Ou Z (lB 0 HS Z na2 Z (fJ Ox Z (Cu.calls HS  h4) (fun _ wd5 ⟨h6,HS⟩=>⟨_,h6,(mV Z (kN 6 Z c7 (oN Z (fL b1 1 Oi Z (bK (oN Z (lB 0 HS Z Jb Z (bK (oN Z (lS Z Z U32 Z (bK ?_)))))))))))⟩))))
   refine oN Z (GO.leq Z Z Z Z (bK (pS 2 Z (kN 12 Z (tF c8) (oF Z (oF Z (oF Z (oF Z (oF Z (pS 2 Z (nL ?_)))))))))))
   obtain rfl:=sI H
   exact rT _ func115 Z Z ⟨Z,(HS.pk 1 [] Z)⟩
  obtain ⟨t9,h10,H⟩:=bI H
  refine rG (fL b1 0 Ou Z (lB 0 HS Z na2 Z (fJ Ox Z (Cu.calls HS  h4) (fun _ wd5 ⟨h6,HS⟩=>⟨_,h6,(mV Z (kN 6 Z c7 (oN Z (fL b1 1 Oi Z (bK (oN Z (lB 0 HS Z Jb Z (bK (oN Z (lS Z Z U32 Z (bK ?_)))))))))))⟩))))
  refine oN Z (GO.leq Z Z Z Z (bK (pS 2 Z (kN 12 Z (tT c8) (oN Z (fL b1 1 Oi Z (bK (oN Z (lB 0 HS Z Jb Z (bK (oN Z (GO.xX Z Z Z Z (bK (oN Z ?_))))))))))))))
  replace HS:=HS.pk 1 [0] Z
  refine fJ aU Z (Cx.calls HS r_a r_a h10) (fun _ wd11 ⟨h12,HS⟩=>⟨_,h12,(bK (oN Z (GO.not Z Z Z (bK (pS 2 Z (nL ?_))))))⟩)
  obtain rfl:=sI H
  exact rT _ func115 Z Z ⟨Z,(HS.pk 1 [] Z)⟩
theorem Mt.calls {name:Int} {r1:Bool} (HS:St w0 w (L)) (H:Mt.f name=some r1) :
    Calls prog 158 #[I name] w (Mt.post w0 L r1):=by
  unfold Mt.f at H
  refine cG func158 Z ?_
  refine rN 3 Z ?_
  obtain ⟨t1,h2,H⟩:=bI H
  refine rG (mV Z (fJ Ox Z (Cu.calls HS  h2) (fun _ wd3 ⟨h4,HS⟩=>⟨_,h4,(aS Z (nL ?_))⟩)))
  obtain rfl:=sI H
  exact rT _ func158 Z Z ⟨Z,HS⟩
theorem Gp.calls {kind r1:Int} (HS:St w0 w (L)) (H:Gp.f K kind=some r1) :
    Calls prog 197 #[I kind] w (Gp.post w0 L r1):=by
  unfold Gp.f at H
  refine cG func197 Z ?_
  refine rN 9 Z ?_
  refine G.Qj (fun c1 d1=>?_)
  have a1:∀ b1,b1≤K→∀ (x2:Bool) (w:World),Gp.j1 K b1 kind x2=some r1→St w0 w (L)→G prog 197 11 [(3,I kind),(4,.bool x2)] c1 w (Gp.post w0 L r1):=by
   refine jp (fun _ w H _=>by rw [Gp.j1] at H; cases H) fun f1 e1 x2 w H HS=>?_
   rw [Gp.j1] at H
   subst d1
   rcases iE H with ⟨c3,H⟩ | ⟨c3,H⟩
   ·
    refine yB Z c3 (rN 2 Z ?_)
    obtain rfl:=sI H
    exact rT _ func197 Z Z ⟨Z,HS⟩
   refine nB Z (Bt c3) (rN 2 Z ?_)
   rcases iE H with ⟨c4,H⟩ | ⟨c4,H⟩
   ·
    refine yB Z (tT c4) (rN 2 Z ?_)
    obtain rfl:=sI H
    exact rT _ func197 Z Z ⟨Z,HS⟩
   refine nB Z (tF c4) (rN 2 Z ?_)
   rcases iE H with ⟨c5,H⟩ | ⟨c5,H⟩
   ·
    refine yB Z (tT c5) (rN 2 Z ?_)
    obtain rfl:=sI H
    exact rT _ func197 Z Z ⟨Z,HS⟩
   refine nB Z (tF c5) (rN 4 Z ?_)
   obtain rfl:=sI H
   exact rT _ func197 Z Z ⟨Z,HS⟩
  rcases iE H with ⟨c6,H⟩ | ⟨c6,H⟩
  ·
   refine yB Z (tT c6) (G.skip (gW (a1 K (lR _) _ _ H HS) Z))
  refine nB Z (tF c6) (rN 1 Z (gW (a1 K (lR _) _ _ H HS) Z))
theorem internal_strconv_small.calls {i:Int} {r1:ByteArray} (HS:St w0 w (L)) (H:internal_strconv_small.f i=some r1) :
    Calls prog 224 #[I i] w (internal_strconv_small.post w0 L r1):=by
  unfold internal_strconv_small.f at H
  refine cG func224 Z ?_
  refine rN 5 Z ?_
  rcases iE H with ⟨c1,H⟩ | ⟨c1,H⟩
  ·
   refine yB Z (tT c1) (sQ ?_)
   obtain ⟨c2,H⟩:=iN H
   obtain ⟨c3,H⟩:=iN H
   refine rG (pS 3 Z (GO.nI Z Z Z Z U9 c2 c3 Z (aS Z (nL ?_))))
   obtain rfl:=sI H
   exact rT _ func224 Z Z ⟨Z,HS⟩
  refine nB Z (tF c1) (rN 2 Z ?_)
  obtain ⟨c4,H⟩:=iN H
  obtain ⟨c5,H⟩:=iN H
  refine rG (pS 5 Z (GO.nI Z Z Z Z U9 c4 c5 Z (aS Z (nL ?_))))
  obtain rfl:=sI H
  exact rT _ func224 Z Z ⟨Z,HS⟩
theorem Cf.calls {i base:Int} {r1:ByteArray} (HS:St w0 w (L)) (H:Cf.f K i base=some r1) :
    Calls prog 221 #[I i,I base] w (Cf.post w0 L r1):=by
  unfold Cf.f at H
  refine cG func221 Z ?_
  refine rN 5 Z ?_
  rcases iS H with ⟨c1,H⟩ | ⟨c1,H⟩
  ·
   refine nB Z (tF c1) (rN 2 Z ?_)
   cases H
  refine yB Z (tT c1) (rN 2 Z ?_)
  refine G.Qj (fun h1 k1=>?_)
  have d1:∀ g1,g1≤K→∀ (x4:Bool) (w:World),Cf.j1 K g1 i x4=some r1→St w0 w (L)→G prog 221 54 [(0,I i),(17,.bool x4)] h1 w (Cf.post w0 L r1):=by
   refine jp (fun _ w H _=>by rw [Cf.j1] at H; cases H) fun b1 n1 x4 w H HS=>?_
   rw [Cf.j1] at H
   subst k1
   rcases iE H with ⟨c5,H⟩ | ⟨c5,H⟩
   ·
    refine yB Z c5 (sQ ?_)
    obtain ⟨t6,h7,H⟩:=bI H
    refine rG (mV Z (fJ vX Z (internal_strconv_small.calls HS  h7) (fun _ wd8 ⟨h9,HS⟩=>⟨_,h9,(aS Z (nL ?_))⟩)))
    obtain rfl:=sI H
    exact rT _ func221 Z Z ⟨Z,HS⟩
   refine nB Z (Bt c5) (rN 2 Z (rG (GO.alloc HS Z Aax Z Z fun b10 wd11 HS=>nL (sQ (rG (mV Z (GO.conv Z Z U2 Abm Z (aS Z (nL (rN 3 Z ?_))))))))))
   refine G.Qj (fun i1 m1=>?_)
   have f1:∀ e1,e1≤b1→∀ (a1:Int) (w:World),Cf.j2 K e1 a1=some r1→St w0 w (Box b10 252 [.int .u8 0,.int .u8 0,.int .u8 0,.int .u8 0,.int .u8 0,.int .u8 0,.int .u8 0,.int .u8 0,.int .u8 0,.int .u8 0,.int .u8 0,.int .u8 0,.int .u8 0,.int .u8 0,.int .u8 0,.int .u8 0,.int .u8 0,.int .u8 0,.int .u8 0,.int .u8 0,.int .u8 0,.int .u8 0,.int .u8 0,.int .u8 0]::L)→G prog 221 54 [(0,I i),(5,pT b10),(6,.int .u64 a1)] i1 w (Cf.post w0 L r1):=by
    refine jp (fun _ w H _=>by rw [Cf.j2] at H; cases H) fun o1 p1 a1 w H HS=>?_
    rw [Cf.j2] at H
    subst m1
    refine sQ ?_
    cases H
   rcases iS H with ⟨c14,H⟩ | ⟨c14,H⟩
   ·
    refine nB Z (tF c14) (G.skip (gW (f1 b1 (lR _) _ _ H HS) Z))
   refine yB Z (tT c14) (rG (mV Z (GO.neg Z Z Z (aS Z (nL (gW (f1 b1 (lR _) _ _ H HS) Z))))))
  rcases iS H with ⟨c15,H⟩ | ⟨c15,H⟩
  ·
   refine rG (pS 3 Z (kN 14 Z (tF c15) (oF Z (oF Z (GO.Ki Z Z Z Z Z (nL (gW (d1 K (lR _) _ _ H HS) Z)))))))
  refine rG (pS 3 Z (kN 14 Z (tT c15) (oN Z (mV Z (bK (oN Z (GO.lss Z Z Z Z (bK (GO.Ii Z Z Z Z Z (nL (gW (d1 K (lR _) _ _ H HS) Z)))))))))))
theorem Kq.calls {i base:Int} {r1:ByteArray} (HS:St w0 w (L)) (H:Kq.f K i base=some r1) :
    Calls prog 216 #[I i,I base] w (Kq.post w0 L r1):=by
  unfold Kq.f at H
  refine cG func216 Z ?_
  refine rN 3 Z ?_
  obtain ⟨t1,h2,H⟩:=bI H
  refine rG (pS 2 Z (fJ wY Z (Cf.calls HS  h2) (fun _ wd3 ⟨h4,HS⟩=>⟨_,h4,(aS Z (nL ?_))⟩)))
  obtain rfl:=sI H
  exact rT _ func216 Z Z ⟨Z,HS⟩
theorem Kt.calls {n_:Int} {r1:ByteArray} (HS:St w0 w (L)) (H:Kt.f K n_=some r1) :
    Calls prog 198 #[I n_] w (Kt.post w0 L r1):=by
  unfold Kt.f at H
  refine cG func198 Z ?_
  refine rN 3 Z ?_
  obtain ⟨t1,h2,H⟩:=bI H
  refine rG (mV Z (fJ xD Z (Kq.calls HS  h2) (fun _ wd3 ⟨h4,HS⟩=>⟨_,h4,(aS Z (nL ?_))⟩)))
  obtain rfl:=sI H
  exact rT _ func198 Z Z ⟨Z,HS⟩
theorem Kk.calls {c1 a1 d1:Int} {r1:ByteArray} (HS:St w0 w (L)) (H:Kk.f K c1 a1 d1=some r1) :
    Calls prog 161 #[.agg [I c1,I a1,I d1].toArray] w (Kk.post w0 L r1):=by
  unfold Kk.f at H
  refine cG func161 Z ?_
  refine sQ (rG (bA HS Z fun b1 wd2 HS=>aS Z (nL (rN 2 Z ?_))))
  obtain ⟨t16,h17,H⟩:=bI H
  rcases iS H with ⟨c20,H⟩ | ⟨c20,H⟩
  ·
   refine G.O7 mixed (fun w=>St w0 w (Box b1 153 [I c1,I a1,I d1]::L)) [1,6,8] [0,1,2,3,4,5,7,6,8,9,10,11,12,13] [] (by kernel_rfl) (by kernel_rfl) HS.drew ?_
   replace HS:=HS.drew
   refine qL Z Z (fun _ _ g=>fL b1 1 Pi Z g) Z (GX.ls Z Z Z HS (fun _ HS _ g=>lB 0 HS Z na2 Z g) Z (GX.l2 Z (fJ Ox Z (Cu.calls HS  h17) (fun _ wd18 ⟨h19,HS⟩=>⟨_,h19,(GX.fin HS (GX.ps 1 Z (qL Z Z (fun _ _ g=>mV Z (kN 7 Z (congrArg Bool.not (Bt c20)) g)) Z (qL Z Z (fun _ _ g=>oF Z g) Z (qL Z Z (fun _ _ g=>oF Z g) Z (GX.ls Z Z Z HS (fun _ HS _ g=>oF Z g) Z (GX.ls Z Z Z HS (fun _ HS _ g=>oF Z g) Z (GX.l2 Z (oF Z (GX.fin HS (qL Z Z (fun _ _ g=>oF Z g) Z ?_)))))))))))⟩))))
   refine GX.l2 Z (oF Z (GX.fin HS (qL Z Z (fun _ _ g=>oF Z g) Z (GX.ps 1 Z (GX.nil (rN 3 Z ?_))))))
   obtain rfl:=sI H
   exact rT _ func161 Z Z ⟨Z,(HS.pk 1 [] Z)⟩
  obtain ⟨t21,h22,H⟩:=bI H
  obtain ⟨t25,h26,H⟩:=bI H
  refine G.O7 mixed (fun w=>St w0 w (Box b1 153 [I c1,I a1,I d1]::L)) [1,6,8] [0,1,2,3,4,5,7,6,8,9,10,11,12,13] [] (by kernel_rfl) (by kernel_rfl) HS.drew ?_
  replace HS:=HS.drew
  refine qL Z Z (fun _ _ g=>fL b1 1 Pi Z g) Z (GX.ls Z Z Z HS (fun _ HS _ g=>lB 0 HS Z na2 Z g) Z (GX.l2 Z (fJ Ox Z (Cu.calls HS  h17) (fun _ wd18 ⟨h19,HS⟩=>⟨_,h19,(GX.fin HS (GX.ps 1 Z (qL Z Z (fun _ _ g=>mV Z (kN 7 Z (congrArg Bool.not c20) g)) Z (qL Z Z (fun _ _ g=>oN Z (fL b1 2 Qp Z (bK g))) Z (qL Z Z (fun _ _ g=>oN Z (fL b1 0 Ot Z (bK g))) Z (GX.ls Z Z Z HS (fun _ HS _ g=>oN Z (lB 0 HS Z na2 Z (bK g))) Z (GX.ls Z Z Z HS (fun _ HS _ g=>oN Z (lB 0 HS Z na2 Z (bK g))) Z (GX.l2 Z (oN Z (fJ vO Z (Gp.calls HS  h22) (fun _ wd23 ⟨h24,HS⟩=>⟨_,h24,(bK ?_)⟩)))))))))))⟩))))
  refine GX.fin HS (qL Z Z (fun _ _ g=>oN Z (GO.sub Z Z Z Z (bK g))) Z (GX.l2 Z (oN Z (fJ Ox Z (Cu.calls HS  h26) (fun _ wd27 ⟨h28,HS⟩=>⟨_,h28,(bK (GX.fin HS (qL Z Z (fun _ _ g=>oN Z (GO.not Z Z Z (bK g))) Z (GX.ps 1 Z (GX.nil ?_)))))⟩)))))
  rcases iS H with ⟨c29,H⟩ | ⟨c29,H⟩
  ·
   refine yB Z (congrArg Bool.not (Bt c29)) (rN 2 Z ?_)
   obtain rfl:=sI H
   exact rT _ func161 Z Z ⟨Z,(HS.pk 1 [] Z)⟩
  refine nB Z (congrArg Bool.not c29) (rN 2 Z ?_)
  obtain ⟨c30,H⟩:=iN H
  obtain ⟨c31,H⟩:=iN H
  obtain ⟨c32,H⟩:=iN H
  obtain ⟨t33,h34,H⟩:=bI H
  obtain ⟨c37,H⟩:=iN H
  obtain ⟨c38,H⟩:=iN H
  obtain ⟨t39,h40,H⟩:=bI H
  obtain ⟨c43,H⟩:=iN H
  refine G.O7 mixed (fun w=>St w0 w (Box b1 153 [I c1,I a1,I d1]::L)) [1,5,7,10,15] [0,4,9,14,1,2,3,5,6,7,8,10,15,11,12,13,16,17,18] [] (by kernel_rfl) (by kernel_rfl) HS.drew ?_
  replace HS:=HS.drew
  refine qL Z Z (fun _ _ g=>fL b1 0 Ot Z g) Z (qL Z Z (fun _ _ g=>fL b1 0 Ot Z g) Z (qL Z Z (fun _ _ g=>fL b1 1 Pi Z g) Z (qL Z Z (fun _ _ g=>fL b1 2 Qp Z g) Z (GX.ls Z Z Z HS (fun _ HS _ g=>lB 0 HS Z na2 Z g) Z (GX.ps 2 Z (GX.ls Z Z Z HS (fun _ HS _ g=>lB 0 HS Z na2 Z g) Z (GX.ps 1 Z (GX.ls Z Z Z HS (fun _ HS _ g=>GO.nI Z Z Z Z U9 c30 c31 Z g) Z (qL Z Z (fun _ _ g=>GO.Yq Z Z Z c32 Z g) Z (GX.ls Z Z Z HS (fun _ HS _ g=>lB 0 HS Z na2 Z g) Z (GX.ls Z Z Z HS (fun _ HS _ g=>lB 0 HS Z na2 Z g) Z (GX.l2 Z (fJ mI Z (Kt.calls HS  h34) (fun _ wd35 ⟨h36,HS⟩=>⟨_,h36,(GX.fin HS ?_)⟩))))))))))))))
  refine qL Z Z (fun _ _ g=>GO.Yq Z Z Z c37 Z g) Z (qL Z Z (fun _ _ g=>GO.Yq Z Z Z c38 Z g) Z (GX.l2 Z (fJ mI Z (Kt.calls HS  h40) (fun _ wd41 ⟨h42,HS⟩=>⟨_,h42,(GX.fin HS (qL Z Z (fun _ _ g=>GO.Yq Z Z Z c43 Z g) Z (GX.ps 1 Z (GX.nil ?_))))⟩))))
  obtain rfl:=sI H
  exact rT _ func161 Z Z ⟨Z,(HS.pk 1 [] Z)⟩
theorem Jt.calls {c1 a1 d1:Int} {r1:Bool} (HS:St w0 w (L)) (H:Jt.f K c1 a1 d1=some r1) :
    Calls prog 160 #[.agg [I c1,I a1,I d1].toArray] w (Jt.post w0 L r1):=by
  unfold Jt.f at H
  refine cG func160 Z ?_
  refine sQ (rG (bA HS Z fun b1 wd2 HS=>aS Z (nL (sQ ?_))))
  obtain ⟨t3,h4,H⟩:=bI H
  refine rG (lW 0 HS Z U6 (fJ zC Z (Kk.calls HS  h4) (fun _ wd5 ⟨h6,HS⟩=>⟨_,h6,(GO.R5 Z Z Z Z (aS Z (nL ?_)))⟩)))
  obtain rfl:=sI H
  exact rT _ func160 Z Z ⟨Z,(HS.pk 1 [] Z)⟩
theorem Bc.calls {s:List Cc} {r1:Int} (HS:St w0 w (L)) (r_a:Av w0 L Ci A_a c_a uu s) (H:Bc.f K s=some r1) :
    Calls prog 196 #[sV A_a s c_a,.func (.func 160) #[] #[]] w (Bc.post w0 L r1):=by
  unfold Bc.f at H
  refine cG func196 Z ?_
  refine rN 4 Z (rG (mV Z (lS Z Z U58 Z (mV Z (nL (rN 2 Z ?_))))))
  refine G.name (fun e1 c1=>?_)
  have d1:∀ a1,a1≤K→∀ (x10:Int) (w:World),Bc.l1 K a1 s x10=some r1→St w0 w (L)→G prog 196 19 [(0,sV A_a s c_a),(1,.func (.func 160) #[] #[]),(7,I (s.length:Int)),(8,I x10)] e1 w (Bc.post w0 L r1):=by
   refine lp (fun _ w H _=>by rw [Bc.l1] at H; cases H) fun b1 g1 f1 x10 w H HS=>?_
   rw [Bc.l1] at H
   subst c1
   refine rN 3 Z ?_
   rcases iS H with ⟨c20,H⟩ | ⟨c20,H⟩
   ·
    refine nB Z (tF c20) (rN 3 Z ?_)
    obtain rfl:=sI H
    exact rT _ func196 Z Z ⟨Z,HS⟩
   refine yB Z (tT c20) (rN 6 Z ?_)
   obtain ⟨c21,H⟩:=iN H
   obtain ⟨e22,h23,H⟩:=Cr H
   obtain ⟨t24,h25,H⟩:=bI H
   refine rG (pS 3 Z (iX Z U58 Sr (rk r_a HS) c21 (GO.J4 (T:=Ci) (n:=x10.toNat) HS r_a Z Z (Ba (ltN c21) h23) U6 Z (GO.clo Z Z func160 nK.2.1 nK.2.2 Z Z (Jt.calls HS  h25) (fun _ wd26 ⟨h27,HS⟩=>⟨_,h27,(nL ?_)⟩)))))
   rcases iE H with ⟨c28,H⟩ | ⟨c28,H⟩
   ·
    refine yB Z c28 (rN 2 Z ?_)
    obtain rfl:=sI H
    exact rT _ func196 Z Z ⟨Z,HS⟩
   refine nB Z (Bt c28) (rN 4 Z (gW (f1 b1 (lR _) _ _ H HS) Z))
  exact gW (d1 K (lR _) _ _ H HS) Z
theorem Bz.calls {s:List Cc} {r1:Bool} (HS:St w0 w (L)) (r_a:Av w0 L Ci A_a c_a uu s) (H:Bz.f K s=some r1) :
    Calls prog 159 #[sV A_a s c_a,.func (.func 160) #[] #[]] w (Bz.post w0 L r1):=by
  unfold Bz.f at H
  refine cG func159 Z ?_
  refine rN 3 Z ?_
  obtain ⟨t1,h2,H⟩:=bI H
  refine rG (pS 2 Z (fJ yF Z (Bc.calls HS r_a h2) (fun _ wd3 ⟨h4,HS⟩=>⟨_,h4,(pS 2 Z (nL ?_))⟩)))
  obtain rfl:=sI H
  exact rT _ func159 Z Z ⟨Z,HS⟩
theorem Jq.calls {k_:Int} {r1:Bool} (HS:St w0 w (L)) (H:Jq.f k_=some r1) :
    Calls prog 162 #[I k_] w (Jq.post w0 L r1):=by
  unfold Jq.f at H
  refine cG func162 Z ?_
  refine rN 3 Z ?_
  obtain ⟨t1,h2,H⟩:=bI H
  refine rG (mV Z (fJ Ox Z (Cu.calls HS  h2) (fun _ wd3 ⟨h4,HS⟩=>⟨_,h4,(pS 2 Z (nL ?_))⟩)))
  obtain rfl:=sI H
  exact rT _ func162 Z Z ⟨Z,HS⟩
theorem Bp.calls {s:List Int} {r1:Int} (HS:St w0 w (L)) (r_a:Av w0 L (Bi .i64) A_a c_a uu s) (H:Bp.f K s=some r1) :
    Calls prog 195 #[sV A_a s c_a,.func (.func 162) #[] #[]] w (Bp.post w0 L r1):=by
  unfold Bp.f at H
  refine cG func195 Z ?_
  refine rN 4 Z (rG (mV Z (lS Z Z U32 Z (mV Z (nL (rN 2 Z ?_))))))
  refine G.name (fun e1 c1=>?_)
  have d1:∀ a1,a1≤K→∀ (x8:Int) (w:World),Bp.l1 K a1 s x8=some r1→St w0 w (L)→G prog 195 19 [(0,sV A_a s c_a),(1,.func (.func 162) #[] #[]),(7,I (s.length:Int)),(8,I x8)] e1 w (Bp.post w0 L r1):=by
   refine lp (fun _ w H _=>by rw [Bp.l1] at H; cases H) fun b1 g1 f1 x8 w H HS=>?_
   rw [Bp.l1] at H
   subst c1
   refine rN 3 Z ?_
   rcases iS H with ⟨c16,H⟩ | ⟨c16,H⟩
   ·
    refine nB Z (tF c16) (rN 3 Z ?_)
    obtain rfl:=sI H
    exact rT _ func195 Z Z ⟨Z,HS⟩
   refine yB Z (tT c16) (rN 6 Z ?_)
   obtain ⟨c17,H⟩:=iN H
   obtain ⟨t18,h19,H⟩:=bI H
   refine rG (pS 3 Z (iX Z U32 sz2 (rk r_a HS) c17 (GO.Gb (T:=(Bi .i64)) (n:=x8.toNat) (o:=0) HS r_a Z Z (getD_some (d:=0) (ltN c17)) Z Z na2 Z (GO.clo Z Z func162 kV.2.1 kV.2.2 Z Z (Jq.calls HS  h19) (fun _ wd20 ⟨h21,HS⟩=>⟨_,h21,(nL ?_)⟩)))))
   rcases iE H with ⟨c22,H⟩ | ⟨c22,H⟩
   ·
    refine yB Z c22 (rN 2 Z ?_)
    obtain rfl:=sI H
    exact rT _ func195 Z Z ⟨Z,HS⟩
   refine nB Z (Bt c22) (rN 4 Z (gW (f1 b1 (lR _) _ _ H HS) Z))
  exact gW (d1 K (lR _) _ _ H HS) Z
theorem Cs.calls {s:List Int} {r1:Bool} (HS:St w0 w (L)) (r_a:Av w0 L (Bi .i64) A_a c_a uu s) (H:Cs.f K s=some r1) :
    Calls prog 155 #[sV A_a s c_a,.func (.func 162) #[] #[]] w (Cs.post w0 L r1):=by
  unfold Cs.f at H
  refine cG func155 Z ?_
  refine rN 3 Z ?_
  obtain ⟨t1,h2,H⟩:=bI H
  refine rG (pS 2 Z (fJ eY Z (Bp.calls HS r_a h2) (fun _ wd3 ⟨h4,HS⟩=>⟨_,h4,(pS 2 Z (nL ?_))⟩)))
  obtain rfl:=sI H
  exact rT _ func155 Z Z ⟨Z,HS⟩
theorem Jo.calls {p:Int} {r1:Bool} (HS:St w0 w (L)) (H:Jo.f p=some r1) :
    Calls prog 163 #[I p] w (Jo.post w0 L r1):=by
  unfold Jo.f at H
  refine cG func163 Z ?_
  refine rN 3 Z ?_
  obtain ⟨t1,h2,H⟩:=bI H
  refine rG (mV Z (fJ oU Z (Jy.calls HS  h2) (fun _ wd3 ⟨h4,HS⟩=>⟨_,h4,(pS 2 Z (nL ?_))⟩)))
  obtain rfl:=sI H
  exact rT _ func163 Z Z ⟨Z,HS⟩
theorem Bn.calls {s:List Int} {r1:Int} (HS:St w0 w (L)) (r_a:Av w0 L (Bi .i64) A_a c_a uu s) (H:Bn.f K s=some r1) :
    Calls prog 195 #[sV A_a s c_a,.func (.func 163) #[] #[]] w (Bn.post w0 L r1):=by
  unfold Bn.f at H
  refine cG func195 Z ?_
  refine rN 4 Z (rG (mV Z (lS Z Z U32 Z (mV Z (nL (rN 2 Z ?_))))))
  refine G.name (fun e1 c1=>?_)
  have d1:∀ a1,a1≤K→∀ (x8:Int) (w:World),Bn.l1 K a1 s x8=some r1→St w0 w (L)→G prog 195 19 [(0,sV A_a s c_a),(1,.func (.func 163) #[] #[]),(7,I (s.length:Int)),(8,I x8)] e1 w (Bn.post w0 L r1):=by
   refine lp (fun _ w H _=>by rw [Bn.l1] at H; cases H) fun b1 g1 f1 x8 w H HS=>?_
   rw [Bn.l1] at H
   subst c1
   refine rN 3 Z ?_
   rcases iS H with ⟨c16,H⟩ | ⟨c16,H⟩
   ·
    refine nB Z (tF c16) (rN 3 Z ?_)
    obtain rfl:=sI H
    exact rT _ func195 Z Z ⟨Z,HS⟩
   refine yB Z (tT c16) (rN 6 Z ?_)
   obtain ⟨c17,H⟩:=iN H
   obtain ⟨t18,h19,H⟩:=bI H
   refine rG (pS 3 Z (iX Z U32 sz2 (rk r_a HS) c17 (GO.Gb (T:=(Bi .i64)) (n:=x8.toNat) (o:=0) HS r_a Z Z (getD_some (d:=0) (ltN c17)) Z Z na2 Z (GO.clo Z Z func163 nM.2.1 nM.2.2 Z Z (Jo.calls HS  h19) (fun _ wd20 ⟨h21,HS⟩=>⟨_,h21,(nL ?_)⟩)))))
   rcases iE H with ⟨c22,H⟩ | ⟨c22,H⟩
   ·
    refine yB Z c22 (rN 2 Z ?_)
    obtain rfl:=sI H
    exact rT _ func195 Z Z ⟨Z,HS⟩
   refine nB Z (Bt c22) (rN 4 Z (gW (f1 b1 (lR _) _ _ H HS) Z))
  exact gW (d1 K (lR _) _ _ H HS) Z
theorem Cw.calls {s:List Int} {r1:Bool} (HS:St w0 w (L)) (r_a:Av w0 L (Bi .i64) A_a c_a uu s) (H:Cw.f K s=some r1) :
    Calls prog 155 #[sV A_a s c_a,.func (.func 163) #[] #[]] w (Cw.post w0 L r1):=by
  unfold Cw.f at H
  refine cG func155 Z ?_
  refine rN 3 Z ?_
  obtain ⟨t1,h2,H⟩:=bI H
  refine rG (pS 2 Z (fJ eY Z (Bn.calls HS r_a h2) (fun _ wd3 ⟨h4,HS⟩=>⟨_,h4,(pS 2 Z (nL ?_))⟩)))
  obtain rfl:=sI H
  exact rT _ func155 Z Z ⟨Z,HS⟩
theorem Ig.calls {e1 f1:Int} {c1:List Cc} {d1 a1:List Int} {r1:Bool} (HS:St w0 w (L)) (r_a:Av w0 L Ci A_a c_a uu c1) (r_b:Av w0 L (Bi .i64) A_b c_b uu d1) (r_c:Av w0 L (Bi .i64) A_c c_c uu a1) (H:Ig.f K e1 f1 c1 d1 a1=some r1) :
    Calls prog 116 #[.agg [I e1,I f1,sV A_a c1 c_a,sV A_b d1 c_b,sV A_c a1 c_c].toArray] w (Ig.post w0 L r1):=by
  unfold Ig.f at H
  refine cG func116 Z ?_
  refine sQ (rG (bA HS Z fun b1 wd2 HS=>aS Z (nL (rN 3 Z ?_))))
  obtain ⟨t12,h13,H⟩:=bI H
  rcases iS H with ⟨c16,H⟩ | ⟨c16,H⟩
  ·
   refine rG (fL b1 0 Nz Z (lB 0 HS Z na2 Z (fJ nN Z (Mt.calls HS  h13) (fun _ wd14 ⟨h15,HS⟩=>⟨_,h15,(pS 2 Z (kN 8 Z (congrArg Bool.not (Bt c16)) (oF Z (oF Z (oF Z (oF Z (pS 2 Z (nL (rN 3 Z ?_)))))))))⟩))))
   obtain rfl:=sI H
   exact rT _ func116 Z Z ⟨Z,(HS.pk 1 [] Z)⟩
  obtain ⟨t17,h18,H⟩:=bI H
  refine rG (fL b1 0 Nz Z (lB 0 HS Z na2 Z (fJ nN Z (Mt.calls HS  h13) (fun _ wd14 ⟨h15,HS⟩=>⟨_,h15,(pS 2 Z (kN 8 Z (congrArg Bool.not c16) (oN Z (fL b1 1 N7 Z (bK (oN Z (lB 0 HS Z na2 Z (bK (oN Z (fJ Ox Z (Cu.calls HS  h18) (fun _ wd19 ⟨h20,HS⟩=>⟨_,h20,(bK ?_)⟩)))))))))))⟩))))
  refine oN Z (GO.not Z Z Z (bK (pS 2 Z (nL ?_))))
  rcases iS H with ⟨c21,H⟩ | ⟨c21,H⟩
  ·
   refine yB Z (congrArg Bool.not (Bt c21)) (rN 2 Z ?_)
   obtain rfl:=sI H
   exact rT _ func116 Z Z ⟨Z,(HS.pk 1 [] Z)⟩
  refine nB Z (congrArg Bool.not c21) (sQ (rG (fL b1 1 N7 Z (lB 0 HS Z na2 Z (pS 2 Z (nL ?_))))))
  rcases iS H with ⟨c22,H⟩ | ⟨c22,H⟩
  ·
   refine yB Z (nF c22) (sQ ?_)
   rcases iS H with ⟨c40,H⟩ | ⟨c40,H⟩
   ·
    refine rG (fL b1 2 Jp Z (lB 0 HS Z Om Z (lS Z Z U58 Z (pS 2 Z (kN 22 Z (tF c40) (oF Z (oF Z (oF Z (oF Z (pS 2 Z (oF Z (oF Z (oF Z (oF Z ?_))))))))))))))
    refine pS 2 Z (nL ?_)
    obtain rfl:=sI H
    exact rT _ func116 Z Z ⟨Z,(HS.pk 1 [] Z)⟩
   rcases iS H with ⟨c41,H⟩ | ⟨c41,H⟩
   ·
    refine rG (fL b1 2 Jp Z (lB 0 HS Z Om Z (lS Z Z U58 Z (pS 2 Z (kN 22 Z (tT c40) (oN Z (fL b1 3 Kb Z (bK (oN Z (lB 0 HS Z Jb Z (bK (oN Z (lS Z Z U32 Z (bK ?_))))))))))))))
    refine oN Z (GO.eql Z Z Z Z (bK (pS 2 Z (kN 28 Z (tF c41) (oF Z (oF Z (oF Z (oF Z (pS 2 Z (nL ?_))))))))))
    obtain rfl:=sI H
    exact rT _ func116 Z Z ⟨Z,(HS.pk 1 [] Z)⟩
   refine rG (fL b1 2 Jp Z (lB 0 HS Z Om Z (lS Z Z U58 Z (pS 2 Z (kN 22 Z (tT c40) (oN Z (fL b1 3 Kb Z (bK (oN Z (lB 0 HS Z Jb Z (bK (oN Z (lS Z Z U32 Z (bK ?_))))))))))))))
   refine oN Z (GO.eql Z Z Z Z (bK (pS 2 Z (kN 28 Z (tT c41) (oN Z (fL b1 4 M6 Z (bK (oN Z (lB 0 HS Z Jb Z (bK (oN Z (lS Z Z U32 Z (bK (oN Z ?_))))))))))))))
   refine GO.eql Z Z Z Z (bK (pS 2 Z (nL ?_)))
   obtain rfl:=sI H
   exact rT _ func116 Z Z ⟨Z,(HS.pk 1 [] Z)⟩
  refine nB Z (nT c22) (rN 3 Z ?_)
  rcases iS H with ⟨c23,H⟩ | ⟨c23,H⟩
  ·
   refine rG (fL b1 2 Jp Z (lB 0 HS Z Om Z (lS Z Z U58 Z (pS 2 Z (kN 38 Z (tF c23) (oF Z (oF Z (oF Z (oF Z (pS 2 Z (oF Z (oF Z (oF Z (oF Z ?_))))))))))))))
   refine oF Z (oF Z (oF Z (pS 2 Z (oF Z (oF Z (oF Z (oF Z (pS 2 Z (oF Z (oF Z (oF Z (oF Z (pS 2 Z (oF Z ?_))))))))))))))
   refine oF Z (oF Z (oF Z (pS 2 Z (nL ?_))))
   obtain rfl:=sI H
   exact rT _ func116 Z Z ⟨Z,(HS.pk 1 [] Z)⟩
  obtain ⟨t24,h25,H⟩:=bI H
  rcases iE H with ⟨c28,H⟩ | ⟨c28,H⟩
  ·
   refine rG (fL b1 2 Jp Z (lB 0 HS Z Om Z (lS Z Z U58 Z (pS 2 Z (kN 38 Z (tT c23) (oN Z (fL b1 2 Jp Z (bK (oN Z (lB 0 HS Z Om Z (bK (oN Z (fJ Wu Z (Bz.calls HS (rD 1 r_a) h25) (fun _ wd26 ⟨h27,HS⟩=>⟨_,h27,(bK ?_)⟩))))))))))))))
   refine oN Z (GO.not Z Z Z (bK (pS 2 Z (kN 44 Z (congrArg Bool.not c28) (oF Z (oF Z (oF Z (oF Z (oF Z (oF Z (oF Z (pS 2 Z (oF Z (oF Z ?_))))))))))))))
   refine oF Z (oF Z (pS 2 Z (oF Z (oF Z (oF Z (oF Z (pS 2 Z (oF Z (oF Z (oF Z (oF Z (pS 2 Z (nL ?_)))))))))))))
   obtain rfl:=sI H
   exact rT _ func116 Z Z ⟨Z,(HS.pk 1 [] Z)⟩
  rcases iS H with ⟨c29,H⟩ | ⟨c29,H⟩
  ·
   refine rG (fL b1 2 Jp Z (lB 0 HS Z Om Z (lS Z Z U58 Z (pS 2 Z (kN 38 Z (tT c23) (oN Z (fL b1 2 Jp Z (bK (oN Z (lB 0 HS Z Om Z (bK (oN Z (fJ Wu Z (Bz.calls HS (rD 1 r_a) h25) (fun _ wd26 ⟨h27,HS⟩=>⟨_,h27,(bK ?_)⟩))))))))))))))
   refine oN Z (GO.not Z Z Z (bK (pS 2 Z (kN 44 Z (congrArg Bool.not (Bt c28)) (oN Z (fL b1 3 Kb Z (bK (oN Z (lB 0 HS Z Jb Z (bK (oN Z (lS Z Z U32 Z (bK (oN Z ?_))))))))))))))
   refine fL b1 4 M6 Z (bK (oN Z (lB 0 HS Z Jb Z (bK (oN Z (lS Z Z U32 Z (bK (oN Z (GO.eql Z Z Z Z (bK (pS 2 Z (kN 53 Z (tF c29) (oF Z (oF Z ?_))))))))))))))
   refine oF Z (oF Z (pS 2 Z (oF Z (oF Z (oF Z (oF Z (pS 2 Z (oF Z (oF Z (oF Z (oF Z (pS 2 Z (nL ?_)))))))))))))
   obtain rfl:=sI H
   exact rT _ func116 Z Z ⟨Z,(HS.pk 1 [] Z)⟩
  rcases iS H with ⟨c30,H⟩ | ⟨c30,H⟩
  ·
   refine rG (fL b1 2 Jp Z (lB 0 HS Z Om Z (lS Z Z U58 Z (pS 2 Z (kN 38 Z (tT c23) (oN Z (fL b1 2 Jp Z (bK (oN Z (lB 0 HS Z Om Z (bK (oN Z (fJ Wu Z (Bz.calls HS (rD 1 r_a) h25) (fun _ wd26 ⟨h27,HS⟩=>⟨_,h27,(bK ?_)⟩))))))))))))))
   refine oN Z (GO.not Z Z Z (bK (pS 2 Z (kN 44 Z (congrArg Bool.not (Bt c28)) (oN Z (fL b1 3 Kb Z (bK (oN Z (lB 0 HS Z Jb Z (bK (oN Z (lS Z Z U32 Z (bK (oN Z ?_))))))))))))))
   refine fL b1 4 M6 Z (bK (oN Z (lB 0 HS Z Jb Z (bK (oN Z (lS Z Z U32 Z (bK (oN Z (GO.eql Z Z Z Z (bK (pS 2 Z (kN 53 Z (tT c29) (oN Z (fL b1 3 Kb Z ?_))))))))))))))
   refine bK (oN Z (lB 0 HS Z Jb Z (bK (oN Z (lS Z Z U32 Z (bK (oN Z (GO.leq Z Z Z Z (bK (pS 2 Z (kN 59 Z (tF c30) (oF Z (oF Z (oF Z ?_))))))))))))))
   refine oF Z (pS 2 Z (oF Z (oF Z (oF Z (oF Z (pS 2 Z (nL ?_)))))))
   obtain rfl:=sI H
   exact rT _ func116 Z Z ⟨Z,(HS.pk 1 [] Z)⟩
  obtain ⟨t31,h32,H⟩:=bI H
  rcases iE H with ⟨c35,H⟩ | ⟨c35,H⟩
  ·
   refine rG (fL b1 2 Jp Z (lB 0 HS Z Om Z (lS Z Z U58 Z (pS 2 Z (kN 38 Z (tT c23) (oN Z (fL b1 2 Jp Z (bK (oN Z (lB 0 HS Z Om Z (bK (oN Z (fJ Wu Z (Bz.calls HS (rD 1 r_a) h25) (fun _ wd26 ⟨h27,HS⟩=>⟨_,h27,(bK ?_)⟩))))))))))))))
   refine oN Z (GO.not Z Z Z (bK (pS 2 Z (kN 44 Z (congrArg Bool.not (Bt c28)) (oN Z (fL b1 3 Kb Z (bK (oN Z (lB 0 HS Z Jb Z (bK (oN Z (lS Z Z U32 Z (bK (oN Z ?_))))))))))))))
   refine fL b1 4 M6 Z (bK (oN Z (lB 0 HS Z Jb Z (bK (oN Z (lS Z Z U32 Z (bK (oN Z (GO.eql Z Z Z Z (bK (pS 2 Z (kN 53 Z (tT c29) (oN Z (fL b1 3 Kb Z ?_))))))))))))))
   refine bK (oN Z (lB 0 HS Z Jb Z (bK (oN Z (lS Z Z U32 Z (bK (oN Z (GO.leq Z Z Z Z (bK (pS 2 Z (kN 59 Z (tT c30) (oN Z (fL b1 3 Kb Z (bK ?_))))))))))))))
   refine oN Z (lB 0 HS Z Jb Z (bK (oN Z (fJ aU Z (Cs.calls HS (rD 1 r_b) h32) (fun _ wd33 ⟨h34,HS⟩=>⟨_,h34,(bK (oN Z (GO.not Z Z Z (bK (pS 2 Z (kN 65 Z (congrArg Bool.not c35) (oF Z (oF Z (oF Z (oF Z ?_))))))))))⟩)))))
   refine pS 2 Z (nL ?_)
   obtain rfl:=sI H
   exact rT _ func116 Z Z ⟨Z,(HS.pk 1 [] Z)⟩
  obtain ⟨t36,h37,H⟩:=bI H
  refine rG (fL b1 2 Jp Z (lB 0 HS Z Om Z (lS Z Z U58 Z (pS 2 Z (kN 38 Z (tT c23) (oN Z (fL b1 2 Jp Z (bK (oN Z (lB 0 HS Z Om Z (bK (oN Z (fJ Wu Z (Bz.calls HS (rD 1 r_a) h25) (fun _ wd26 ⟨h27,HS⟩=>⟨_,h27,(bK ?_)⟩))))))))))))))
  refine oN Z (GO.not Z Z Z (bK (pS 2 Z (kN 44 Z (congrArg Bool.not (Bt c28)) (oN Z (fL b1 3 Kb Z (bK (oN Z (lB 0 HS Z Jb Z (bK (oN Z (lS Z Z U32 Z (bK (oN Z ?_))))))))))))))
  refine fL b1 4 M6 Z (bK (oN Z (lB 0 HS Z Jb Z (bK (oN Z (lS Z Z U32 Z (bK (oN Z (GO.eql Z Z Z Z (bK (pS 2 Z (kN 53 Z (tT c29) (oN Z (fL b1 3 Kb Z ?_))))))))))))))
  refine bK (oN Z (lB 0 HS Z Jb Z (bK (oN Z (lS Z Z U32 Z (bK (oN Z (GO.leq Z Z Z Z (bK (pS 2 Z (kN 59 Z (tT c30) (oN Z (fL b1 3 Kb Z (bK ?_))))))))))))))
  refine oN Z (lB 0 HS Z Jb Z (bK (oN Z (fJ aU Z (Cs.calls HS (rD 1 r_b) h32) (fun _ wd33 ⟨h34,HS⟩=>⟨_,h34,(bK (oN Z (GO.not Z Z Z (bK (pS 2 Z (kN 65 Z (congrArg Bool.not (Bt c35)) (oN Z (fL b1 4 M6 Z (bK (oN Z ?_))))))))))⟩)))))
  refine lB 0 HS Z Jb Z (bK (oN Z (fJ aU Z (Cw.calls HS (rD 1 r_c) h37) (fun _ wd38 ⟨h39,HS⟩=>⟨_,h39,(bK (oN Z (GO.not Z Z Z (bK (pS 2 Z (nL ?_))))))⟩))))
  obtain rfl:=sI H
  exact rT _ func116 Z Z ⟨Z,(HS.pk 1 [] Z)⟩
end Go.Proofs.YtjopfecenllmgaaGreatDoor
