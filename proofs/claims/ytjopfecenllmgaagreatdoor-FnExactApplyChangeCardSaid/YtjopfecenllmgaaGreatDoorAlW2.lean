/-
  The walks through the functions: a call comes to what its list function says.
-/
import Derived.Test.YtjopfecenllmgaaGreatDoorAlF
import Derived.Test.YtjopfecenllmgaaGreatDoorAlW1
set_option linter.unusedSimpArgs false
set_option linter.unusedVariables false
namespace Go.Proofs.YtjopfecenllmgaaGreatDoor
open Go.RowKit
open Tryz
variable {w0 w:World} {L:List Cn} {K:Nat} {A_a A_b A_c A_d A_e A_f A_g A_h A_i A_j A_k A_l A_m A_n A_o A_p A_q A_r A_s A_t A_u A_v A_w A_x A_y A_z:Option Addr} {c_a c_b c_c c_d c_e c_f c_g c_h c_i c_j c_k c_l c_m c_n c_o c_p c_q c_r c_s c_t c_u c_v c_w c_x c_y c_z:Nat}
set_option maxRecDepth 20000
set_option maxHeartbeats 40000000
theorem D6.calls {d1:Int} {a1:List Int} {r1:Bool} (HS:St w0 w (L)) (r_a:Av w0 L (Bi .i64) A_a c_a uu a1) (H:D6.f K d1 a1=some r1) :
    Calls prog 98 #[.agg [I d1,sV A_a a1 c_a].toArray] w (D6.post w0 L r1):=by
  unfold D6.f at H
  refine cG func98 Z ?_
  refine sQ (rG (bA HS Z fun b1 wd2 HS=>aS Z (nL (rN 2 Z ?_))))
  obtain ⟨t8,h9,H⟩:=bI H
  rcases iS H with ⟨c12,H⟩ | ⟨c12,H⟩
  ·
   refine rG (fL b1 0 Ou Z (lB 0 HS Z na2 Z (fJ Q6 Z (Ef.calls HS  h9) (fun _ wd10 ⟨h11,HS⟩=>⟨_,h11,(pS 2 Z (kN 8 Z (congrArg Bool.not (Bt c12)) (oF Z (oF Z (oF Z (oF Z (GO.Ii Z Z Z Z Z (nL (rN 3 Z ?_)))))))))⟩))))
   obtain rfl:=sI H
   exact rT _ func98 Z Z ⟨Z,(HS.pk 1 [] Z)⟩
  refine rG (fL b1 0 Ou Z (lB 0 HS Z na2 Z (fJ Q6 Z (Ef.calls HS  h9) (fun _ wd10 ⟨h11,HS⟩=>⟨_,h11,(pS 2 Z (kN 8 Z (congrArg Bool.not c12) (oN Z (fL b1 1 Oi Z (bK (oN Z (lB 0 HS Z Jb Z (bK (oN Z (lS Z Z U32 Z (bK ?_)))))))))))⟩))))
  refine oN Z (GO.gtr Z Z Z Z (bK (GO.Ki Z Z Z Z Z (nL ?_))))
  rcases iE H with ⟨c13,H⟩ | ⟨c13,H⟩
  ·
   refine yB Z (tT c13) (rN 2 Z ?_)
   obtain rfl:=sI H
   exact rT _ func98 Z Z ⟨Z,(HS.pk 1 [] Z)⟩
  refine nB Z (tF c13) (rN 6 Z ?_)
  refine G.name (fun i1 g1=>?_)
  have h1:∀ e1,e1≤K→∀ (c1:Int) (w:World),D6.l1 K e1 d1 a1 c1=some r1→St w0 w (Box b1 57 [I d1,sV A_a a1 c_a]::L)→G prog 98 30 [(1,pT b1),(3,I c1)] i1 w (D6.post w0 L r1):=by
   refine lp (fun _ w H _=>by rw [D6.l1] at H; cases H) fun f1 m1 k1 c1 w H HS=>?_
   rw [D6.l1] at H
   subst g1
   refine rN 2 Z (rG (mV Z (fL b1 1 Oi Z (lB 0 HS Z Jb Z (lS Z Z U32 Z (GO.lss Z Z Z Z (nL ?_)))))))
   rcases iS H with ⟨c29,H⟩ | ⟨c29,H⟩
   ·
    refine nB Z (tF c29) (rN 3 Z ?_)
    obtain rfl:=sI H
    exact rT _ func98 Z Z ⟨Z,(HS.pk 1 [] Z)⟩
   refine yB Z (tT c29) (rN 4 Z ?_)
   obtain ⟨c30,H⟩:=iN H
   obtain ⟨t31,h32,H⟩:=bI H
   refine G.lex mixed [0,2,5,1,3,4,6,7,8] (by kernel_rfl) ?_
   replace HS:=HS.drew
   refine qL Z Z (fun _ _ g=>fL b1 1 Oi Z g) Z (GX.ps 1 Z (qL Z Z (fun _ _ g=>fL b1 0 Ou Z g) Z (GX.l1 Z Z Z (fun _ g=>lB 0 HS Z Jb Z g) Z (qL Z Z (fun _ _ g=>iX Z U32 sz2 (rk (rD 1 r_a) HS) c30 g) Z (GX.l1 Z Z Z (fun _ g=>GO.Gb (T:=(Bi .i64)) (n:=c1.toNat) (o:=0) HS (rD 1 r_a) Z Z (getD_some (d:=0) (ltN c30)) Z Z na2 Z g) Z (GX.l1 Z Z Z (fun _ g=>lB 0 HS Z na2 Z g) Z (GX.l2 Z (fJ yI Z (Ku.calls HS  h32) (fun _ wd33 ⟨h34,HS⟩=>⟨_,h34,(GX.fin tv (GX.ps 1 Z (GX.nil ?_)))⟩)))))))))
   rcases iS H with ⟨c35,H⟩ | ⟨c35,H⟩
   ·
    refine yB Z (congrArg Bool.not (Bt c35)) (rN 2 Z ?_)
    obtain rfl:=sI H
    exact rT _ func98 Z Z ⟨Z,(HS.pk 1 [] Z)⟩
   refine nB Z (congrArg Bool.not c35) (rN 4 Z (gW (k1 f1 (lR _) _ _ H HS) Z))
  exact gW (h1 K (lR _) _ _ H HS) Z
theorem L6.calls {name:Int} {r1:Bool} (HS:St w0 w (L)) (H:L6.f name=some r1) :
    Calls prog 145 #[I name] w (L6.post w0 L r1):=by
  unfold L6.f at H
  refine cG func145 Z ?_
  refine rN 3 Z ?_
  obtain ⟨t1,h2,H⟩:=bI H
  refine rG (mV Z (fJ Q6 Z (Ef.calls HS  h2) (fun _ wd3 ⟨h4,HS⟩=>⟨_,h4,(aS Z (nL ?_))⟩)))
  obtain rfl:=sI H
  exact rT _ func145 Z Z ⟨Z,HS⟩
theorem Ff.calls {kind r1:Int} (HS:St w0 w (L)) (H:Ff.f K kind=some r1) :
    Calls prog 179 #[I kind] w (Ff.post w0 L r1):=by
  unfold Ff.f at H
  refine cG func179 Z ?_
  refine rN 9 Z ?_
  refine G.Qj (fun c1 d1=>?_)
  have a1:∀ b1,b1≤K→∀ (x2:Bool) (w:World),Ff.j1 K b1 kind x2=some r1→St w0 w (L)→G prog 179 11 [(3,I kind),(4,.bool x2)] c1 w (Ff.post w0 L r1):=by
   refine jp (fun _ w H _=>by rw [Ff.j1] at H; cases H) fun f1 e1 x2 w H HS=>?_
   rw [Ff.j1] at H
   subst d1
   rcases iE H with ⟨c3,H⟩ | ⟨c3,H⟩
   ·
    refine yB Z c3 (rN 2 Z ?_)
    obtain rfl:=sI H
    exact rT _ func179 Z Z ⟨Z,HS⟩
   refine nB Z (Bt c3) (rN 2 Z ?_)
   rcases iE H with ⟨c4,H⟩ | ⟨c4,H⟩
   ·
    refine yB Z (tT c4) (rN 2 Z ?_)
    obtain rfl:=sI H
    exact rT _ func179 Z Z ⟨Z,HS⟩
   refine nB Z (tF c4) (rN 2 Z ?_)
   rcases iE H with ⟨c5,H⟩ | ⟨c5,H⟩
   ·
    refine yB Z (tT c5) (rN 2 Z ?_)
    obtain rfl:=sI H
    exact rT _ func179 Z Z ⟨Z,HS⟩
   refine nB Z (tF c5) (rN 4 Z ?_)
   obtain rfl:=sI H
   exact rT _ func179 Z Z ⟨Z,HS⟩
  rcases iE H with ⟨c6,H⟩ | ⟨c6,H⟩
  ·
   refine yB Z (tT c6) (G.skip (gW (a1 K (lR _) _ _ H HS) Z))
  refine nB Z (tF c6) (rN 1 Z (gW (a1 K (lR _) _ _ H HS) Z))
theorem Mh.calls {r1:List ByteArray} (HS:St w0 w (L)) (H:Mh.f=some r1) :
    Calls prog 180 #[] w (Mh.post w0 L r1):=by
  unfold Mh.f at H
  refine cG func180 Z ?_
  refine rN 3 Z (rG (GO.Gr (el:=9) ([.string (⟨#[50,51]⟩:ByteArray),.string (⟨#[51,50]⟩:ByteArray),.string (⟨#[49,52]⟩:ByteArray),.string (⟨#[52,49]⟩:ByteArray)]) HS Z Z (fun _=>by kernel_rfl) Z fun b1 wd2 HS=>?_))
  replace HS:=HS.Le (T:=Sn) (j:=0) Z Bw uu ([(⟨#[50,51]⟩:ByteArray),(⟨#[51,50]⟩:ByteArray),(⟨#[49,52]⟩:ByteArray),(⟨#[52,49]⟩:ByteArray)]:List ByteArray) Z (Qd Z)
  refine GO.Oj (t:=1) (m:=([(⟨#[50,51]⟩:ByteArray),(⟨#[51,50]⟩:ByteArray),(⟨#[49,52]⟩:ByteArray),(⟨#[52,49]⟩:ByteArray)]:List ByteArray).length) (c':=([(⟨#[50,51]⟩:ByteArray),(⟨#[51,50]⟩:ByteArray),(⟨#[49,52]⟩:ByteArray),(⟨#[52,49]⟩:ByteArray)]:List ByteArray).length) Z Z Z (aS Z (nL ?_))
  obtain rfl:=sI H
  exact rT _ func180 Z Z ⟨_,_,Z,HS⟩
theorem Km.calls {n_:Int} {r1:ByteArray} (HS:St w0 w (L)) (H:Km.f n_=some r1) :
    Calls prog 181 #[I n_] w (Km.post w0 L r1):=by
  unfold Km.f at H
  refine cG func181 Z ?_
  refine rN 3 Z (rG (pS 2 Z (GO.conv Z Z U2 U5 Z (GO.Gr (el:=5) ([.int .u8 (IntKind.wrap .u8 (w64 (48+n_)))]) HS Z Z (fun _=>by kernel_rfl) Z fun b1 wd2 HS=>?_))))
  replace HS:=HS.Le (T:=(Bi .u8)) (j:=0) Z Bw uu ([IntKind.wrap .u8 (w64 (48+n_))]:List Int) Z (Qd Z)
  refine GO.Oj (t:=6) (m:=([IntKind.wrap .u8 (w64 (48+n_))]:List Int).length) (c':=([IntKind.wrap .u8 (w64 (48+n_))]:List Int).length) Z Z Z (GO.bS HS (ro 0 Z) Z Z Aa0 U5 U9 Z (aS Z (nL ?_)))
  obtain rfl:=sI H
  exact rT _ func181 Z Z ⟨Z,(HS.pk 1 [] Z)⟩
theorem Kl.calls {a1 e1 d1:Int} {r1:ByteArray} (HS:St w0 w (L)) (H:Kl.f K a1 e1 d1=some r1) :
    Calls prog 146 #[.agg [I a1,I e1,I d1].toArray] w (Kl.post w0 L r1):=by
  unfold Kl.f at H
  refine cG func146 Z ?_
  refine sQ (rG (bA HS Z fun b1 wd2 HS=>aS Z (nL (rN 2 Z ?_))))
  obtain ⟨t21,h22,H⟩:=bI H
  rcases iE H with ⟨c25,H⟩ | ⟨c25,H⟩
  ·
   refine G.O7 mixed (fun w=>St w0 w (Box b1 153 [I a1,I e1,I d1]::L)) [1,6,12,14] [0,1,2,3,4,5,6,7,8,9,10,11,13,12,14,15,16,17,18] [] (by kernel_rfl) (by kernel_rfl) HS.drew ?_
   replace HS:=HS.drew
   refine qL Z Z (fun _ _ g=>fL b1 0 Ot Z g) Z (GX.ls Z Z Z HS (fun _ HS _ g=>lB 0 HS Z na2 Z g) Z (GX.l2 Z (fJ aD Z (Ff.calls HS  h22) (fun _ wd23 ⟨h24,HS⟩=>⟨_,h24,(GX.fin HS (GX.ps 1 Z (qL Z Z (fun _ _ g=>mV Z (kN 7 Z (tT c25) g)) Z (qL Z Z (fun _ _ g=>oF Z g) Z (GX.ls Z Z Z HS (fun _ HS _ g=>oF Z g) Z (GX.l2 Z (oF Z (GX.fin HS (qL Z Z (fun _ _ g=>oF Z g) Z (GX.ps 2 Z (qL Z Z (fun _ _ g=>oF Z g) Z ?_)))))))))))⟩))))
   refine qL Z Z (fun _ _ g=>oF Z g) Z (GX.ls Z Z Z HS (fun _ HS _ g=>oF Z g) Z (GX.ls Z Z Z HS (fun _ HS _ g=>oF Z g) Z (GX.l2 Z (oF Z (GX.fin HS (GX.l2 Z (oF Z (GX.fin HS (qL Z Z (fun _ _ g=>oF Z g) Z (GX.ps 1 Z (GX.nil (rN 3 Z ?_))))))))))))
   obtain rfl:=sI H
   exact rT _ func146 Z Z ⟨Z,(HS.pk 1 [] Z)⟩
  obtain ⟨t26,h27,H⟩:=bI H
  rcases iS H with ⟨c30,H⟩ | ⟨c30,H⟩
  ·
   refine G.O7 mixed (fun w=>St w0 w (Box b1 153 [I a1,I e1,I d1]::L)) [1,6,12,14] [0,1,2,3,4,5,6,7,8,9,10,11,13,12,14,15,16,17,18] [] (by kernel_rfl) (by kernel_rfl) HS.drew ?_
   replace HS:=HS.drew
   refine qL Z Z (fun _ _ g=>fL b1 0 Ot Z g) Z (GX.ls Z Z Z HS (fun _ HS _ g=>lB 0 HS Z na2 Z g) Z (GX.l2 Z (fJ aD Z (Ff.calls HS  h22) (fun _ wd23 ⟨h24,HS⟩=>⟨_,h24,(GX.fin HS (GX.ps 1 Z (qL Z Z (fun _ _ g=>mV Z (kN 7 Z (tF c25) g)) Z (qL Z Z (fun _ _ g=>oN Z (fL b1 1 Pi Z (bK g))) Z (GX.ls Z Z Z HS (fun _ HS _ g=>oN Z (lB 0 HS Z na2 Z (bK g))) Z (GX.l2 Z (oN Z (fJ Wy Z (J9.calls HS  h27) (fun _ wd28 ⟨h29,HS⟩=>⟨_,h29,(bK (GX.fin HS (qL Z Z (fun _ _ g=>oN Z (GO.not Z Z Z (bK g))) Z ?_)))⟩)))))))))⟩))))
   refine GX.ps 1 Z (qL Z Z (fun _ _ g=>mV Z (kN 13 Z (congrArg Bool.not (Bt c30)) g)) Z (qL Z Z (fun _ _ g=>oF Z g) Z (qL Z Z (fun _ _ g=>oF Z g) Z (GX.ls Z Z Z HS (fun _ HS _ g=>oF Z g) Z (GX.ls Z Z Z HS (fun _ HS _ g=>oF Z g) Z (GX.l2 Z (oF Z (GX.fin HS (GX.l2 Z (oF Z (GX.fin HS (qL Z Z (fun _ _ g=>oF Z g) Z (GX.ps 1 Z (GX.nil ?_))))))))))))))
   refine rN 3 Z ?_
   obtain rfl:=sI H
   exact rT _ func146 Z Z ⟨Z,(HS.pk 1 [] Z)⟩
  obtain ⟨t31,h32,H⟩:=bI H
  obtain ⟨t35,h36,H⟩:=bI H
  refine G.O7 mixed (fun w=>St w0 w (Box b1 153 [I a1,I e1,I d1]::L)) [1,6,12,14] [0,1,2,3,4,5,6,7,8,9,10,11,13,12,14,15,16,17,18] [] (by kernel_rfl) (by kernel_rfl) HS.drew ?_
  replace HS:=HS.drew
  refine qL Z Z (fun _ _ g=>fL b1 0 Ot Z g) Z (GX.ls Z Z Z HS (fun _ HS _ g=>lB 0 HS Z na2 Z g) Z (GX.l2 Z (fJ aD Z (Ff.calls HS  h22) (fun _ wd23 ⟨h24,HS⟩=>⟨_,h24,(GX.fin HS (GX.ps 1 Z (qL Z Z (fun _ _ g=>mV Z (kN 7 Z (tF c25) g)) Z (qL Z Z (fun _ _ g=>oN Z (fL b1 1 Pi Z (bK g))) Z (GX.ls Z Z Z HS (fun _ HS _ g=>oN Z (lB 0 HS Z na2 Z (bK g))) Z (GX.l2 Z (oN Z (fJ Wy Z (J9.calls HS  h27) (fun _ wd28 ⟨h29,HS⟩=>⟨_,h29,(bK (GX.fin HS (qL Z Z (fun _ _ g=>oN Z (GO.not Z Z Z (bK g))) Z ?_)))⟩)))))))))⟩))))
  refine GX.ps 1 Z (qL Z Z (fun _ _ g=>mV Z (kN 13 Z (congrArg Bool.not c30) g)) Z (qL Z Z (fun _ _ g=>oN Z (fL b1 2 Qp Z (bK g))) Z (qL Z Z (fun _ _ g=>oN Z (fL b1 0 Ot Z (bK g))) Z (GX.ls Z Z Z HS (fun _ HS _ g=>oN Z (lB 0 HS Z na2 Z (bK g))) Z (GX.ls Z Z Z HS (fun _ HS _ g=>oN Z (lB 0 HS Z na2 Z (bK g))) Z (GX.l2 Z (oN Z (fJ aD Z (Ff.calls HS  h32) (fun _ wd33 ⟨h34,HS⟩=>⟨_,h34,(bK (GX.fin HS (GX.l2 Z (oN Z (fJ Wy Z (J9.calls HS  h36) (fun _ wd37 ⟨h38,HS⟩=>⟨_,h38,(bK ?_)⟩))))))⟩)))))))))
  refine GX.fin HS (qL Z Z (fun _ _ g=>oN Z (GO.not Z Z Z (bK g))) Z (GX.ps 1 Z (GX.nil ?_)))
  rcases iS H with ⟨c39,H⟩ | ⟨c39,H⟩
  ·
   refine yB Z (congrArg Bool.not (Bt c39)) (rN 2 Z ?_)
   obtain rfl:=sI H
   exact rT _ func146 Z Z ⟨Z,(HS.pk 1 [] Z)⟩
  refine nB Z (congrArg Bool.not c39) (rN 2 Z ?_)
  obtain ⟨t40,h41,H⟩:=bI H
  obtain ⟨c46,H⟩:=iN H
  obtain ⟨c47,H⟩:=iN H
  obtain ⟨t48,h49,H⟩:=bI H
  obtain ⟨c52,H⟩:=iN H
  obtain ⟨c53,H⟩:=iN H
  obtain ⟨t54,h55,H⟩:=bI H
  obtain ⟨c58,H⟩:=iN H
  refine G.Rp mixed (by decide) (fun b a w=>∃ (A42:Option Addr) (c43:Nat) (f1:Cn),RS 38 [(1,pT b1)] [rv 22 (sV A42 t40 c43),rv 23 (pT b1),rv 24 (I a1),rv 25 (I (w64 (a1 - 1))),rv 26 (.pointer (some (ea A42 (((w64 (a1 - 1)).toNat) * 1)))),rv 27 (.string (t40.getD ((w64 (a1 - 1)).toNat) ByteArray.empty)),rv 28 (.string (t40.getD ((w64 (a1 - 1)).toNat) ByteArray.empty++(⟨#[32]⟩:ByteArray))),rv 29 (.pointer (some ⟨b1,1,none⟩)),rv 30 (I e1),rv 31 (.string t48),rv 32 (.string ((t40.getD ((w64 (a1 - 1)).toNat) ByteArray.empty++(⟨#[32]⟩:ByteArray))++t48)),rv 33 (.string (((t40.getD ((w64 (a1 - 1)).toNat) ByteArray.empty++(⟨#[32]⟩:ByteArray))++t48)++(⟨#[32]⟩:ByteArray))),rv 34 (.pointer (some ⟨b1,2,none⟩)),rv 35 (I d1),rv 36 (.string t54),rv 37 (.string ((((t40.getD ((w64 (a1 - 1)).toNat) ByteArray.empty++(⟨#[32]⟩:ByteArray))++t48)++(⟨#[32]⟩:ByteArray))++t54)),rv 2 (.string ((((t40.getD ((w64 (a1 - 1)).toNat) ByteArray.empty++(⟨#[32]⟩:ByteArray))++t48)++(⟨#[32]⟩:ByteArray))++t54))] b a∧St w0 w (Box b1 153 [I a1,I e1,I d1]::f1::L)∧(b 0=true→f1=Own Sn 9 A42 c43 uu t40)) ?_ ?_ ?_
  · exact fun a hs=>⟨none,0,Emp,hs.init Z,(HS.drew.emp.pk 2 [1,0] Z),fun h=>Bool.noConfusion h⟩
  ·
   intro j b a w hj
   refine exI fun A42=>exI fun c43=>exI fun f1=>anI fun hs=>fun hM q=>?_
   have HS:=hM.1
   match j,hj with
   | 0,_ =>
    refine (anI fun HS=>fun c1=>?_) hM
    refine hs.at q [] [] (fJ xP Z (Mh.calls HS  h41) (fun _ wd44 ⟨A42,c43,h45,HS⟩=>⟨_,h45,(hs.Tz q [0,4] (fun _ hs=>⟨A42,c43,Own Sn 9 A42 c43 uu t40,hs,HS.pk 3 [1,0] Z,fun _=>Z⟩) Z Z)⟩))
   | 1,_ =>
    refine hs.at q [] [] (fL b1 0 Ot Z (hs.fin q Z fun _ hs=>⟨_,_,_,hs,hM⟩))
   | 2,_ =>
    refine hs.at q [1] [] (lB 0 HS Z na2 Z (hs.fin q Z fun _ hs=>⟨_,_,_,hs,hM⟩))
   | 3,_ =>
    refine hs.at q [2] [] (GO.sub Z Z Z Z (hs.fin q Z fun _ hs=>⟨_,_,_,hs,hM⟩))
   | 4,_ =>
    refine (anI fun HS=>fun c1=>?_) hM
    have hb0:=q.on 0
    obtain rfl:=c1 hb0
    refine hs.at q [0,3] [] (iX Z Abd sz9 (rk (ro 1 Z) HS) c46 (hs.fin q Z fun _ hs=>⟨A42,c43,_,hs,HS,c1⟩))
   | 5,_ =>
    refine (anI fun HS=>fun c1=>?_) hM
    have hb0:=q.on 0
    obtain rfl:=c1 hb0
    refine hs.at q [4] [] (GO.Gb (T:=Sn) (n:=(w64 (a1 - 1)).toNat) (o:=0) HS (ro 1 Z) Z Z (getD_some (d:=ByteArray.empty) (ltN c46)) Z Z na9 Z (hs.fin q Z fun _ hs=>⟨A42,c43,_,hs,HS,c1⟩))
   | 6,_ =>
    refine hs.at q [5] [] (GO.Yq Z Z Z c47 Z (hs.fin q Z fun _ hs=>⟨_,_,_,hs,hM⟩))
   | 7,_ =>
    refine hs.at q [] [] (fL b1 1 Pi Z (hs.fin q Z fun _ hs=>⟨_,_,_,hs,hM⟩))
   | 8,_ =>
    refine hs.at q [7] [] (lB 0 HS Z na2 Z (hs.fin q Z fun _ hs=>⟨_,_,_,hs,hM⟩))
   | 9,_ =>
    refine hs.at q [8] [] (fJ kS Z (Km.calls HS  h49) (fun _ wd50 ⟨h51,HS⟩=>⟨_,h51,(hs.fin q Z fun _ hs=>⟨_,_,_,hs,HS,hM.2⟩)⟩))
   | 10,_ =>
    refine hs.at q [6,9] [] (GO.Yq Z Z Z c52 Z (hs.fin q Z fun _ hs=>⟨_,_,_,hs,hM⟩))
   | 11,_ =>
    refine hs.at q [10] [] (GO.Yq Z Z Z c53 Z (hs.fin q Z fun _ hs=>⟨_,_,_,hs,hM⟩))
   | 12,_ =>
    refine hs.at q [] [] (fL b1 2 Qp Z (hs.fin q Z fun _ hs=>⟨_,_,_,hs,hM⟩))
   | 13,_ =>
    refine hs.at q [12] [] (lB 0 HS Z na2 Z (hs.fin q Z fun _ hs=>⟨_,_,_,hs,hM⟩))
   | 14,_ =>
    refine hs.at q [13] [] (fJ kS Z (Km.calls HS  h55) (fun _ wd56 ⟨h57,HS⟩=>⟨_,h57,(hs.fin q Z fun _ hs=>⟨_,_,_,hs,HS,hM.2⟩)⟩))
   | 15,_ =>
    refine hs.at q [11,14] [] (GO.Yq Z Z Z c58 Z (hs.fin q Z fun _ hs=>⟨_,_,_,hs,hM⟩))
   | 16,_ =>
    refine hs.at q [15] [] (aS Z (hs.fin q Z fun _ hs=>⟨_,_,_,hs,hM⟩))
   | k+17,hj=>exact absurd hj (Nat.not_lt.2 (Nat.le_add_left 17 k))
  ·
   intro b a w hall
   refine exI fun A42=>exI fun c43=>exI fun f1=>anI fun hs=>anI fun HS=>fun c1=>?_
   obtain rfl:=c1 (hall 0 (by decide))
   refine G.at (hs.all hall) ?_
   obtain rfl:=sI H
   exact rT _ func146 Z Z ⟨Z,(HS.pk 2 [] Z)⟩
theorem Bq.calls {g1 e1:Int} {c1:List Cc} {a1 d1:List Int} {r1:Bool} (HS:St w0 w (L)) (r_a:Av w0 L Ci A_a c_a uu c1) (r_b:Av w0 L (Bi .i64) A_b c_b uu a1) (r_c:Av w0 L (Bi .i64) A_c c_c uu d1) (H:Bq.f K g1 e1 c1 a1 d1=some r1) :
    Calls prog 99 #[.agg [I g1,I e1,sV A_a c1 c_a,sV A_b a1 c_b,sV A_c d1 c_c].toArray] w (Bq.post w0 L r1):=by
  unfold Bq.f at H
  refine cG func99 Z ?_
  refine sQ (rG (bA HS Z fun b1 wd2 HS=>aS Z (nL (rN 2 Z ?_))))
  obtain ⟨t15,h16,H⟩:=bI H
  rcases iS H with ⟨c19,H⟩ | ⟨c19,H⟩
  ·
   refine rG (fL b1 0 Nz Z (lB 0 HS Z na2 Z (fJ Xv Z (L6.calls HS  h16) (fun _ wd17 ⟨h18,HS⟩=>⟨_,h18,(pS 2 Z (kN 9 Z (congrArg Bool.not (Bt c19)) (oF Z (oF Z (oF Z (oF Z (pS 2 Z (oF Z (oF Z (oF Z (oF Z ?_)))))))))))⟩))))
   refine pS 2 Z (oF Z (oF Z (oF Z (oF Z (oF Z (oF Z (oF Z (pS 2 Z (oF Z (oF Z (oF Z (oF Z (GO.Ii Z Z Z Z Z (nL ?_))))))))))))))
   refine rN 3 Z ?_
   obtain rfl:=sI H
   exact rT _ func99 Z Z ⟨Z,(HS.pk 1 [] Z)⟩
  obtain ⟨t20,h21,H⟩:=bI H
  rcases iS H with ⟨c24,H⟩ | ⟨c24,H⟩
  ·
   refine rG (fL b1 0 Nz Z (lB 0 HS Z na2 Z (fJ Xv Z (L6.calls HS  h16) (fun _ wd17 ⟨h18,HS⟩=>⟨_,h18,(pS 2 Z (kN 9 Z (congrArg Bool.not c19) (oN Z (fL b1 1 N7 Z (bK (oN Z (lB 0 HS Z na2 Z (bK (oN Z (fJ Q6 Z (Ef.calls HS  h21) (fun _ wd22 ⟨h23,HS⟩=>⟨_,h23,(bK ?_)⟩)))))))))))⟩))))
   refine oN Z (GO.not Z Z Z (bK (pS 2 Z (kN 15 Z (congrArg Bool.not (Bt c24)) (oF Z (oF Z (oF Z (oF Z (pS 2 Z (oF Z (oF Z (oF Z (oF Z (oF Z ?_))))))))))))))
   refine oF Z (oF Z (pS 2 Z (oF Z (oF Z (oF Z (oF Z (GO.Ii Z Z Z Z Z (nL (rN 3 Z ?_)))))))))
   obtain rfl:=sI H
   exact rT _ func99 Z Z ⟨Z,(HS.pk 1 [] Z)⟩
  rcases iE H with ⟨c25,H⟩ | ⟨c25,H⟩
  ·
   refine rG (fL b1 0 Nz Z (lB 0 HS Z na2 Z (fJ Xv Z (L6.calls HS  h16) (fun _ wd17 ⟨h18,HS⟩=>⟨_,h18,(pS 2 Z (kN 9 Z (congrArg Bool.not c19) (oN Z (fL b1 1 N7 Z (bK (oN Z (lB 0 HS Z na2 Z (bK (oN Z (fJ Q6 Z (Ef.calls HS  h21) (fun _ wd22 ⟨h23,HS⟩=>⟨_,h23,(bK ?_)⟩)))))))))))⟩))))
   refine oN Z (GO.not Z Z Z (bK (pS 2 Z (kN 15 Z (congrArg Bool.not c24) (oN Z (fL b1 2 Jp Z (bK (oN Z (lB 0 HS Z Om Z (bK (oN Z (lS Z Z U58 Z (bK (oN Z ?_))))))))))))))
   refine GO.gtr Z Z Z Z (bK (pS 2 Z (kN 21 Z (tT c25) (oF Z (oF Z (oF Z (oF Z (oF Z (oF Z (oF Z (pS 2 Z (oF Z (oF Z (oF Z ?_))))))))))))))
   refine oF Z (GO.Ii Z Z Z Z Z (nL (rN 3 Z ?_)))
   obtain rfl:=sI H
   exact rT _ func99 Z Z ⟨Z,(HS.pk 1 [] Z)⟩
  rcases iS H with ⟨c26,H⟩ | ⟨c26,H⟩
  ·
   refine rG (fL b1 0 Nz Z (lB 0 HS Z na2 Z (fJ Xv Z (L6.calls HS  h16) (fun _ wd17 ⟨h18,HS⟩=>⟨_,h18,(pS 2 Z (kN 9 Z (congrArg Bool.not c19) (oN Z (fL b1 1 N7 Z (bK (oN Z (lB 0 HS Z na2 Z (bK (oN Z (fJ Q6 Z (Ef.calls HS  h21) (fun _ wd22 ⟨h23,HS⟩=>⟨_,h23,(bK ?_)⟩)))))))))))⟩))))
   refine oN Z (GO.not Z Z Z (bK (pS 2 Z (kN 15 Z (congrArg Bool.not c24) (oN Z (fL b1 2 Jp Z (bK (oN Z (lB 0 HS Z Om Z (bK (oN Z (lS Z Z U58 Z (bK (oN Z ?_))))))))))))))
   refine GO.gtr Z Z Z Z (bK (pS 2 Z (kN 21 Z (tF c25) (oN Z (fL b1 3 Kb Z (bK (oN Z (lB 0 HS Z Jb Z (bK (oN Z (lS Z Z U32 Z (bK (oN Z (fL b1 4 M6 Z ?_))))))))))))))
   refine bK (oN Z (lB 0 HS Z Jb Z (bK (oN Z (lS Z Z U32 Z (bK (oN Z (GO.neq Z Z Z Z (bK (pS 2 Z (kN 30 Z (nF c26) (oF Z (oF Z (oF Z ?_))))))))))))))
   refine oF Z (GO.Ii Z Z Z Z Z (nL (rN 3 Z ?_)))
   obtain rfl:=sI H
   exact rT _ func99 Z Z ⟨Z,(HS.pk 1 [] Z)⟩
  refine rG (fL b1 0 Nz Z (lB 0 HS Z na2 Z (fJ Xv Z (L6.calls HS  h16) (fun _ wd17 ⟨h18,HS⟩=>⟨_,h18,(pS 2 Z (kN 9 Z (congrArg Bool.not c19) (oN Z (fL b1 1 N7 Z (bK (oN Z (lB 0 HS Z na2 Z (bK (oN Z (fJ Q6 Z (Ef.calls HS  h21) (fun _ wd22 ⟨h23,HS⟩=>⟨_,h23,(bK ?_)⟩)))))))))))⟩))))
  refine oN Z (GO.not Z Z Z (bK (pS 2 Z (kN 15 Z (congrArg Bool.not c24) (oN Z (fL b1 2 Jp Z (bK (oN Z (lB 0 HS Z Om Z (bK (oN Z (lS Z Z U58 Z (bK (oN Z ?_))))))))))))))
  refine GO.gtr Z Z Z Z (bK (pS 2 Z (kN 21 Z (tF c25) (oN Z (fL b1 3 Kb Z (bK (oN Z (lB 0 HS Z Jb Z (bK (oN Z (lS Z Z U32 Z (bK (oN Z (fL b1 4 M6 Z ?_))))))))))))))
  refine bK (oN Z (lB 0 HS Z Jb Z (bK (oN Z (lS Z Z U32 Z (bK (oN Z (GO.neq Z Z Z Z (bK (pS 2 Z (kN 30 Z (nT c26) (oN Z (fL b1 3 Kb Z (bK ?_))))))))))))))
  refine oN Z (lB 0 HS Z Jb Z (bK (oN Z (lS Z Z U32 Z (bK (oN Z (GO.gtr Z Z Z Z (bK (GO.Ki Z Z Z Z Z (nL ?_))))))))))
  rcases iE H with ⟨c27,H⟩ | ⟨c27,H⟩
  ·
   refine yB Z (tT c27) (rN 2 Z ?_)
   obtain rfl:=sI H
   exact rT _ func99 Z Z ⟨Z,(HS.pk 1 [] Z)⟩
  refine nB Z (tF c27) (rN 6 Z ?_)
  refine G.name (fun q1 u1=>?_)
  have v1:∀ k1,k1≤K→∀ (h1:Int) (w:World),Bq.l1 K k1 e1 c1 a1 d1 h1=some r1→St w0 w (Box b1 60 [I g1,I e1,sV A_a c1 c_a,sV A_b a1 c_b,sV A_c d1 c_c]::L)→G prog 99 86 [(1,pT b1),(3,I h1)] q1 w (Bq.post w0 L r1):=by
   refine lp (fun _ w H _=>by rw [Bq.l1] at H; cases H) fun i1 z1 x1 h1 w H HS=>?_
   rw [Bq.l1] at H
   subst u1
   refine rN 2 Z (rG (mV Z (fL b1 2 Jp Z (lB 0 HS Z Om Z (lS Z Z U58 Z (GO.lss Z Z Z Z (nL ?_)))))))
   rcases iE H with ⟨c133,H⟩ | ⟨c133,H⟩
   ·
    refine yB Z (tT c133) (rN 4 Z ?_)
    obtain ⟨c134,H⟩:=iN H
    obtain ⟨e135,h136,H⟩:=Cr H
    obtain ⟨t137,h138,H⟩:=bI H
    refine rG (fL b1 2 Jp Z (lB 0 HS Z Om Z (mV Z (iX Z U58 Sr (rk (rD 1 r_a) HS) c134 (GO.J4 (T:=Ci) (n:=h1.toNat) HS (rD 1 r_a) Z Z (Ba (ltN c134) h136) U6 Z (fJ xZ Z (Kl.calls HS  h138) (fun _ wd139 ⟨h140,HS⟩=>⟨_,h140,(GO.R5 Z Z Z Z (nL ?_))⟩)))))))
    rcases iE H with ⟨c141,H⟩ | ⟨c141,H⟩
    ·
     refine yB Z c141 (rN 2 Z ?_)
     obtain rfl:=sI H
     exact rT _ func99 Z Z ⟨Z,(HS.pk 1 [] Z)⟩
    refine nB Z (Bt c141) (rN 4 Z (gW (x1 i1 (lR _) _ _ H HS) Z))
   refine nB Z (tF c133) (rN 6 Z ?_)
   refine G.name (fun t1 p1=>?_)
   have n1:∀ m1,m1≤i1→∀ (f1:Int) (w:World),Bq.l4 K m1 e1 c1 a1 d1 f1=some r1→St w0 w (Box b1 60 [I g1,I e1,sV A_a c1 c_a,sV A_b a1 c_b,sV A_c d1 c_c]::L)→G prog 99 86 [(1,pT b1),(4,I f1)] t1 w (Bq.post w0 L r1):=by
    refine lp (fun _ w H _=>by rw [Bq.l4] at H; cases H) fun o1 y1 s1 f1 w H HS=>?_
    rw [Bq.l4] at H
    subst p1
    refine rN 2 Z (rG (mV Z (fL b1 3 Kb Z (lB 0 HS Z Jb Z (lS Z Z U32 Z (GO.lss Z Z Z Z (nL ?_)))))))
    rcases iS H with ⟨c171,H⟩ | ⟨c171,H⟩
    ·
     refine nB Z (tF c171) (rN 2 Z ?_)
     rcases iE H with ⟨c184,H⟩ | ⟨c184,H⟩
     ·
      refine rG (fL b1 1 N7 Z (lB 0 HS Z na2 Z (pS 2 Z (kN 76 Z (tT c184) (oF Z (oF Z (oF Z (oF Z (oF Z (oF Z (oF Z (oF Z (pS 2 Z (nL ?_))))))))))))))
      obtain rfl:=sI H
      exact rT _ func99 Z Z ⟨Z,(HS.pk 1 [] Z)⟩
     refine rG (fL b1 1 N7 Z (lB 0 HS Z na2 Z (pS 2 Z (kN 76 Z (tF c184) (oN Z (fL b1 2 Jp Z (bK (oN Z (lB 0 HS Z Om Z (bK (oN Z (lS Z Z U58 Z (bK (oN Z ?_))))))))))))))
     refine fL b1 3 Kb Z (bK (oN Z (lB 0 HS Z Jb Z (bK (oN Z (lS Z Z U32 Z (bK (oN Z (GO.add Z Z Z Z (bK (oN Z (GO.eql Z Z Z Z (bK (pS 2 Z ?_))))))))))))))
     refine nL ?_
     obtain rfl:=sI H
     exact rT _ func99 Z Z ⟨Z,(HS.pk 1 [] Z)⟩
    refine yB Z (tT c171) (rN 4 Z ?_)
    obtain ⟨c172,H⟩:=iN H
    obtain ⟨t173,h174,H⟩:=bI H
    rcases iS H with ⟨c177,H⟩ | ⟨c177,H⟩
    ·
     refine rG (fL b1 3 Kb Z (lB 0 HS Z Jb Z (mV Z (iX Z U32 sz2 (rk (rD 1 r_b) HS) c172 (GO.Gb (T:=(Bi .i64)) (n:=f1.toNat) (o:=0) HS (rD 1 r_b) Z Z (getD_some (d:=0) (ltN c172)) Z Z na2 Z (fJ Q6 Z (Ef.calls HS  h174) (fun _ wd175 ⟨h176,HS⟩=>⟨_,h176,(pS 2 Z (kN 64 Z (congrArg Bool.not (Bt c177)) (oF Z (oF Z (oF Z (oF Z (oF Z (oF Z ?_))))))))⟩)))))))
     refine oF Z (GO.Ii Z Z Z Z Z (nL (rN 3 Z ?_)))
     obtain rfl:=sI H
     exact rT _ func99 Z Z ⟨Z,(HS.pk 1 [] Z)⟩
    obtain ⟨c178,H⟩:=iN H
    obtain ⟨t179,h180,H⟩:=bI H
    refine rG (fL b1 3 Kb Z (lB 0 HS Z Jb Z (mV Z (iX Z U32 sz2 (rk (rD 1 r_b) HS) c172 (GO.Gb (T:=(Bi .i64)) (n:=f1.toNat) (o:=0) HS (rD 1 r_b) Z Z (getD_some (d:=0) (ltN c172)) Z Z na2 Z (fJ Q6 Z (Ef.calls HS  h174) (fun _ wd175 ⟨h176,HS⟩=>⟨_,h176,(pS 2 Z (kN 64 Z (congrArg Bool.not c177) (oN Z (fL b1 4 M6 Z (bK (oN Z (lB 0 HS Z Jb Z (bK ?_))))))))⟩)))))))
    refine oN Z (mV Z (bK (oN Z (iX Z U32 sz2 (rk (rD 1 r_c) HS) c178 (bK (oN Z (GO.Gb (T:=(Bi .i64)) (n:=f1.toNat) (o:=0) HS (rD 1 r_c) Z Z (getD_some (d:=0) (ltN c178)) Z Z na2 Z (bK (oN Z (fJ lK Z (I9.calls HS  h180) (fun _ wd181 ⟨h182,HS⟩=>⟨_,h182,(bK (oN Z (GO.not Z Z Z (bK ?_))))⟩)))))))))))
    refine GO.Ki Z Z Z Z Z (nL ?_)
    rcases iS H with ⟨c183,H⟩ | ⟨c183,H⟩
    ·
     refine yB Z (congrArg Bool.not (Bt c183)) (rN 2 Z ?_)
     obtain rfl:=sI H
     exact rT _ func99 Z Z ⟨Z,(HS.pk 1 [] Z)⟩
    refine nB Z (congrArg Bool.not c183) (rN 4 Z (gW (s1 o1 (lR _) _ _ H HS) Z))
   exact gW (n1 i1 (lR _) _ _ H HS) Z
  exact gW (v1 K (lR _) _ _ H HS) Z
theorem Co.calls {n1:ByteArray} {o1:Int} {e1:List (List Br)} {c1:List Ah} {i1 h1:Int} {a1:List Int} {k1 m1:Int} {f1:List Cc} {g1 d1:List Int} {y_a:Nat→(Ty.slice 168 Az).Lay} {r1:Bool} (HS:St w0 w (L)) (r_a:Av w0 L (Ty.slice 168 Az) A_a c_a y_a e1) (r_b:Av w0 L Au A_b c_b uu c1) (r_c:Av w0 L (Bi .i64) A_c c_c uu a1) (r_d:Av w0 L Ci A_d c_d uu f1) (r_e:Av w0 L (Bi .i64) A_e c_e uu g1) (r_f:Av w0 L (Bi .i64) A_f c_f uu d1) (H:Co.f K n1 o1 e1 c1 i1 h1 a1 k1 m1 f1 g1 d1=some r1) :
    Calls prog 47 #[.agg [.string n1,I o1,sV A_a e1 c_a,sV A_b c1 c_b,I i1,I h1,sV A_c a1 c_c,I k1,I m1,sV A_d f1 c_d,sV A_e g1 c_e,sV A_f d1 c_f].toArray] w (Co.post w0 L r1):=by
  unfold Co.f at H
  refine cG func47 Z ?_
  refine sQ (rG (bA HS Z fun b1 wd2 HS=>aS Z (nL (rN 2 Z ?_))))
  obtain ⟨t12,h13,H⟩:=bI H
  rcases iS H with ⟨c16,H⟩ | ⟨c16,H⟩
  ·
   refine rG (fL b1 0 Jz Z (lB 0 HS Z na9 Z (fJ iO Z (Fw.calls HS  h13) (fun _ wd14 ⟨h15,HS⟩=>⟨_,h15,(pS 2 Z (kN 8 Z (congrArg Bool.not (Bt c16)) (oF Z (oF Z (oF Z (oF Z (GO.Ii Z Z Z Z Z (nL (rN 3 Z ?_)))))))))⟩))))
   obtain rfl:=sI H
   exact rT _ func47 Z Z ⟨Z,(HS.pk 1 [] Z)⟩
  obtain ⟨t17,h18,H⟩:=bI H
  refine rG (fL b1 0 Jz Z (lB 0 HS Z na9 Z (fJ iO Z (Fw.calls HS  h13) (fun _ wd14 ⟨h15,HS⟩=>⟨_,h15,(pS 2 Z (kN 8 Z (congrArg Bool.not c16) (oN Z (fL b1 1 Lf Z (bK (oN Z (lB 0 HS Z na2 Z (bK (oN Z (fJ Q6 Z (Ef.calls HS  h18) (fun _ wd19 ⟨h20,HS⟩=>⟨_,h20,(bK ?_)⟩)))))))))))⟩))))
  refine oN Z (GO.not Z Z Z (bK (GO.Ki Z Z Z Z Z (nL ?_))))
  rcases iS H with ⟨c21,H⟩ | ⟨c21,H⟩
  ·
   refine yB Z (congrArg Bool.not (Bt c21)) (rN 2 Z ?_)
   obtain rfl:=sI H
   exact rT _ func47 Z Z ⟨Z,(HS.pk 1 [] Z)⟩
  refine nB Z (congrArg Bool.not c21) (rN 6 Z ?_)
  refine G.name (fun u1 v1=>?_)
  have x1:∀ q1,q1≤K→∀ (p1:Int) (w:World),Co.l1 K q1 n1 o1 e1 c1 i1 h1 a1 k1 m1 f1 g1 d1 p1=some r1→St w0 w (Box b1 62 [.string n1,I o1,sV A_a e1 c_a,sV A_b c1 c_b,I i1,I h1,sV A_c a1 c_c,I k1,I m1,sV A_d f1 c_d,sV A_e g1 c_e,sV A_f d1 c_f]::L)→G prog 47 48 [(1,pT b1),(3,I p1)] u1 w (Co.post w0 L r1):=by
   refine lp (fun _ w H _=>by rw [Co.l1] at H; cases H) fun s1 y1 t1 p1 w H HS=>?_
   rw [Co.l1] at H
   subst v1
   refine rN 3 Z ?_
   rcases iE H with ⟨c55,H⟩ | ⟨c55,H⟩
   ·
    refine yB Z (tT c55) (rN 4 Z ?_)
    rcases iE H with ⟨c56,H⟩ | ⟨c56,H⟩
    ·
     refine rG (mV Z (fL b1 1 Lf Z (lB 0 HS Z na2 Z (pS 2 Z (kN 22 Z (nT c56) (oF Z (oF Z (oF Z (oF Z (GO.Ki Z Z Z Z Z (nL (rN 5 Z (gW (t1 s1 (lR _) _ _ H HS) Z)))))))))))))
    obtain ⟨t57,h58,H⟩:=bI H
    refine rG (mV Z (fL b1 1 Lf Z (lB 0 HS Z na2 Z (pS 2 Z (kN 22 Z (nF c56) (oN Z (lW 0 HS Z Mf (bK (oN Z (mV Z (bK (oN Z (fJ zV Z (Mg.calls HS (rD 1 r_a) (rD 1 r_b) (rD 1 r_c) (rD 1 r_d) (rD 1 r_e) (rD 1 r_f) h58) (fun _ wd59 ⟨h60,HS⟩=>⟨_,h60,(bK ?_)⟩))))))))))))))
    refine oN Z (GO.not Z Z Z (bK (GO.Ii Z Z Z Z Z (nL ?_))))
    rcases iS H with ⟨c61,H⟩ | ⟨c61,H⟩
    ·
     refine yB Z (congrArg Bool.not (Bt c61)) (rN 2 Z ?_)
     obtain rfl:=sI H
     exact rT _ func47 Z Z ⟨Z,(HS.pk 1 [] Z)⟩
    refine nB Z (congrArg Bool.not c61) (rN 4 Z (gW (t1 s1 (lR _) _ _ H HS) Z))
   refine nB Z (tF c55) (rN 3 Z (rG (fL b1 1 Lf Z (lB 0 HS Z na2 Z (nL (rN 3 Z ?_))))))
   rcases iE H with ⟨c62,H⟩ | ⟨c62,H⟩
   ·
    refine yB Z (tT c62) (sQ ?_)
    obtain ⟨t63,h64,H⟩:=bI H
    refine rG (fL b1 2 M9 Z (GO.Du (j:=0) ([sV A_a e1 c_a]) HS Z Z Z Z O0 Z (fJ Aa7 Z (Aq.calls HS (rD 1 r_a) h64) (fun _ wd65 ⟨h66,HS⟩=>⟨_,h66,(aS Z (nL ?_))⟩))))
    obtain rfl:=sI H
    exact rT _ func47 Z Z ⟨Z,(HS.pk 1 [] Z)⟩
   refine nB Z (tF c62) (rN 2 Z ?_)
   rcases iE H with ⟨c67,H⟩ | ⟨c67,H⟩
   ·
    refine yB Z (tT c67) (sQ ?_)
    obtain ⟨t68,h69,H⟩:=bI H
    refine rG (fL b1 3 Mm Z (GO.Du (j:=0) ([sV A_b c1 c_b,I i1]) HS Z Z Z Z Oe Z (fJ Aab Z (Jf.calls HS (rD 1 r_b) h69) (fun _ wd70 ⟨h71,HS⟩=>⟨_,h71,(aS Z (nL ?_))⟩))))
    obtain rfl:=sI H
    exact rT _ func47 Z Z ⟨Z,(HS.pk 1 [] Z)⟩
   refine nB Z (tF c67) (rN 2 Z ?_)
   rcases iE H with ⟨c72,H⟩ | ⟨c72,H⟩
   ·
    refine yB Z (tT c72) (sQ ?_)
    obtain ⟨t73,h74,H⟩:=bI H
    refine rG (fL b1 5 M7 Z (GO.Du (j:=0) ([I h1,sV A_c a1 c_c]) HS Z Z Z Z R9 Z (fJ AaP Z (D6.calls HS (rD 1 r_c) h74) (fun _ wd75 ⟨h76,HS⟩=>⟨_,h76,(aS Z (nL ?_))⟩))))
    obtain rfl:=sI H
    exact rT _ func47 Z Z ⟨Z,(HS.pk 1 [] Z)⟩
   refine nB Z (tF c72) (rN 3 Z ?_)
   obtain ⟨t77,h78,H⟩:=bI H
   refine rG (fL b1 7 Mc Z (GO.Du (j:=0) ([I k1,I m1,sV A_d f1 c_d,sV A_e g1 c_e,sV A_f d1 c_f]) HS Z Z Z Z Rw Z (fJ zN Z (Bq.calls HS (rD 1 r_d) (rD 1 r_e) (rD 1 r_f) h78) (fun _ wd79 ⟨h80,HS⟩=>⟨_,h80,(aS Z (nL ?_))⟩))))
   obtain rfl:=sI H
   exact rT _ func47 Z Z ⟨Z,(HS.pk 1 [] Z)⟩
  exact gW (x1 K (lR _) _ _ H HS) Z
theorem Es.calls {list:List Af} {y_a:Nat→Aa.Lay} {r1:Bool} (HS:St w0 w (L)) (r_a:Av w0 L Aa A_a c_a y_a list) (H:Es.f K list=some r1) :
    Calls prog 45 #[sV A_a list c_a] w (Es.post w0 L r1):=by
  unfold Es.f at H
  refine cG func45 Z ?_
  refine rN 7 Z ?_
  refine G.name (fun g1 e1=>?_)
  have f1:∀ c1,c1≤K→∀ (a1:Int) (w:World),Es.l1 K c1 list a1=some r1→St w0 w (L)→G prog 45 37 [(0,sV A_a list c_a),(3,I a1)] g1 w (Es.post w0 L r1):=by
   refine lp (fun _ w H _=>by rw [Es.l1] at H; cases H) fun b1 h1 d1 a1 w H HS=>?_
   rw [Es.l1] at H
   subst e1
   refine rN 2 Z (rG (pS 2 Z (lS Z Z U44 Z (GO.lss Z Z Z Z (nL ?_)))))
   rcases iS H with ⟨c25,H⟩ | ⟨c25,H⟩
   ·
    refine nB Z (tF c25) (rN 2 Z (rG (mV Z (lS Z Z U44 Z (pS 2 Z (nL ?_))))))
    obtain rfl:=sI H
    exact rT _ func45 Z Z ⟨Z,HS⟩
   refine yB Z (tT c25) (rN 4 Z ?_)
   obtain ⟨c26,H⟩:=iN H
   obtain ⟨e27,h28,H⟩:=Cr H
   obtain ⟨t29,h30,H⟩:=bI H
   rcases iS H with ⟨c33,H⟩ | ⟨c33,H⟩
   ·
    refine G.lex mixed [0,1,2,3,4,5,6,7,8,9,10,11,12,13,14,16,17,18,19,15,20,21,22,23] (by kernel_rfl) ?_
    replace HS:=HS.drew
    refine GX.ps 2 Z (qL Z Z (fun _ _ g=>iX Z U44 J7 (rk r_a HS) c26 g) Z (GX.l1 Z Z Z (fun _ g=>GO.J4 (T:=Aa) (n:=a1.toNat) HS r_a Z Z (Ba (ltN c26) h28) Mf Z g) Z (GX.l2 Z (fJ cK Z (Co.calls HS (Av.fld r_a (Ba (ltN c26) h28) (fun _ h=>h.2.2.1)) (Av.fld r_a (Ba (ltN c26) h28) (fun _ h=>h.2.2.2.1)) (Av.fld r_a (Ba (ltN c26) h28) (fun _ h=>h.2.2.2.2.2.2.1)) (Av.fld r_a (Ba (ltN c26) h28) (fun _ h=>h.2.2.2.2.2.2.2.2.2.1)) (Av.fld r_a (Ba (ltN c26) h28) (fun _ h=>h.2.2.2.2.2.2.2.2.2.2.1)) (Av.fld r_a (Ba (ltN c26) h28) (fun _ h=>h.2.2.2.2.2.2.2.2.2.2.2)) h30) (fun _ wd31 ⟨h32,HS⟩=>⟨_,h32,(GX.fin tv (GX.ps 1 Z (qL Z Z (fun _ _ g=>mV Z (kN 16 Z (congrArg Bool.not (Bt c33)) g)) Z (qL Z Z (fun _ _ g=>oF Z g) Z (qL Z Z (fun _ _ g=>oF Z g) Z (qL Z Z (fun _ _ g=>oF Z g) Z (qL Z Z (fun _ _ g=>GO.Od Z Z Z Z Z Z g) Z (qL Z Z (fun _ _ g=>GO.Od Z Z Z Z Z Z g) Z (qL Z Z (fun _ _ g=>GO.Od Z Z Z Z Z Z g) Z (qL Z Z (fun _ _ g=>GO.Od Z Z Z Z Z Z g) Z ?_))))))))))⟩)))))
    refine qL Z Z (fun _ _ g=>GO.Od Z Z Z Z Z Z g) Z (qL Z Z (fun _ _ g=>GO.Od Z Z Z Z Z Z g) Z (qL Z Z (fun _ _ g=>GO.Od Z Z Z Z Z Z g) Z (qL Z Z (fun _ _ g=>GO.Od Z Z Z Z Z Z g) Z (qL Z Z (fun _ _ g=>GO.Od Z Z Z Z Z Z g) Z (GX.l1 Z Z Z (fun _ g=>GO.Od Z Z Z Z Z Z g) Z (GX.l1 Z Z Z (fun _ g=>GO.Od Z Z Z Z Z Z g) Z (qL Z Z (fun _ _ g=>GO.Od Z Z Z Z Z Z g) Z (qL Z Z (fun _ _ g=>oF Z g) Z (GX.ps 1 Z (GX.nil (rN 3 Z ?_)))))))))))
    obtain rfl:=sI H
    exact rT _ func45 Z Z ⟨Z,HS⟩
   rcases iS H with ⟨c34,H⟩ | ⟨c34,H⟩
   ·
    refine G.lex mixed [0,1,2,3,4,5,6,7,8,9,10,11,12,13,14,16,17,18,19,15,20,21,22,23] (by kernel_rfl) ?_
    replace HS:=HS.drew
    refine GX.ps 2 Z (qL Z Z (fun _ _ g=>iX Z U44 J7 (rk r_a HS) c26 g) Z (GX.l1 Z Z Z (fun _ g=>GO.J4 (T:=Aa) (n:=a1.toNat) HS r_a Z Z (Ba (ltN c26) h28) Mf Z g) Z (GX.l2 Z (fJ cK Z (Co.calls HS (Av.fld r_a (Ba (ltN c26) h28) (fun _ h=>h.2.2.1)) (Av.fld r_a (Ba (ltN c26) h28) (fun _ h=>h.2.2.2.1)) (Av.fld r_a (Ba (ltN c26) h28) (fun _ h=>h.2.2.2.2.2.2.1)) (Av.fld r_a (Ba (ltN c26) h28) (fun _ h=>h.2.2.2.2.2.2.2.2.2.1)) (Av.fld r_a (Ba (ltN c26) h28) (fun _ h=>h.2.2.2.2.2.2.2.2.2.2.1)) (Av.fld r_a (Ba (ltN c26) h28) (fun _ h=>h.2.2.2.2.2.2.2.2.2.2.2)) h30) (fun _ wd31 ⟨h32,HS⟩=>⟨_,h32,(GX.fin tv (GX.ps 1 Z (qL Z Z (fun _ _ g=>mV Z (kN 16 Z (congrArg Bool.not c33) g)) Z (qL Z Z (fun _ _ g=>oN Z (mV Z (bK g))) Z (qL Z Z (fun _ _ g=>oN Z (GO.gtr Z Z Z Z (bK g))) Z (qL Z Z (fun _ _ g=>oN Z (mV Z (bK (kN 19 Z (tF c34) g)))) Z (qL Z Z (fun _ _ g=>oF Z g) Z (qL Z Z (fun _ _ g=>oF Z g) Z (qL Z Z (fun _ _ g=>oF Z g) Z (qL Z Z (fun _ _ g=>oF Z g) Z ?_))))))))))⟩)))))
    refine qL Z Z (fun _ _ g=>oF Z g) Z (qL Z Z (fun _ _ g=>oF Z g) Z (qL Z Z (fun _ _ g=>oF Z g) Z (qL Z Z (fun _ _ g=>oF Z g) Z (qL Z Z (fun _ _ g=>oF Z g) Z (GX.l1 Z Z Z (fun _ g=>oF Z g) Z (GX.l1 Z Z Z (fun _ g=>oF Z g) Z (qL Z Z (fun _ _ g=>oF Z g) Z (qL Z Z (fun _ _ g=>oN Z (GO.Ki Z Z Z Z Z (bK g))) Z (GX.ps 1 Z (GX.nil (rN 5 Z (gW (d1 b1 (lR _) _ _ H HS) Z))))))))))))
   obtain ⟨c35,H⟩:=iN H
   obtain ⟨e36,h37,H⟩:=Cr H
   refine G.lex mixed [0,1,2,3,4,5,6,7,8,9,10,11,12,13,14,16,17,18,19,15,20,21,22,23] (by kernel_rfl) ?_
   replace HS:=HS.drew
   refine GX.ps 2 Z (qL Z Z (fun _ _ g=>iX Z U44 J7 (rk r_a HS) c26 g) Z (GX.l1 Z Z Z (fun _ g=>GO.J4 (T:=Aa) (n:=a1.toNat) HS r_a Z Z (Ba (ltN c26) h28) Mf Z g) Z (GX.l2 Z (fJ cK Z (Co.calls HS (Av.fld r_a (Ba (ltN c26) h28) (fun _ h=>h.2.2.1)) (Av.fld r_a (Ba (ltN c26) h28) (fun _ h=>h.2.2.2.1)) (Av.fld r_a (Ba (ltN c26) h28) (fun _ h=>h.2.2.2.2.2.2.1)) (Av.fld r_a (Ba (ltN c26) h28) (fun _ h=>h.2.2.2.2.2.2.2.2.2.1)) (Av.fld r_a (Ba (ltN c26) h28) (fun _ h=>h.2.2.2.2.2.2.2.2.2.2.1)) (Av.fld r_a (Ba (ltN c26) h28) (fun _ h=>h.2.2.2.2.2.2.2.2.2.2.2)) h30) (fun _ wd31 ⟨h32,HS⟩=>⟨_,h32,(GX.fin tv (GX.ps 1 Z (qL Z Z (fun _ _ g=>mV Z (kN 16 Z (congrArg Bool.not c33) g)) Z (qL Z Z (fun _ _ g=>oN Z (mV Z (bK g))) Z (qL Z Z (fun _ _ g=>oN Z (GO.gtr Z Z Z Z (bK g))) Z (qL Z Z (fun _ _ g=>oN Z (mV Z (bK (kN 19 Z (tT c34) g)))) Z (qL Z Z (fun _ _ g=>oN Z (mV Z (bK g))) Z (qL Z Z (fun _ _ g=>oN Z (mV Z (bK g))) Z (qL Z Z (fun _ _ g=>oN Z (GO.sub Z Z Z Z (bK g))) Z (qL Z Z (fun _ _ g=>oN Z (iX Z U44 J7 (rk r_a HS) c35 (bK g))) Z ?_))))))))))⟩)))))
   refine qL Z Z (fun _ _ g=>oN Z (GO.fld (ea A_a (((w64 (a1 - 1)).toNat) * 12)) Z Z Jz Z Z (bK g))) Z (qL Z Z (fun _ _ g=>oN Z (mV Z (bK g))) Z (qL Z Z (fun _ _ g=>oN Z (mV Z (bK g))) Z (qL Z Z (fun _ _ g=>oN Z (iX Z U44 J7 (rk r_a HS) c26 (bK g))) Z (qL Z Z (fun _ _ g=>oN Z (GO.fld (ea A_a (a1.toNat * 12)) Z Z Jz Z Z (bK g))) Z (GX.l1 Z Z Z (fun _ g=>oN Z (GO.Gb (T:=Aa) (n:=(w64 (a1 - 1)).toNat) (o:=0) HS r_a Z Z (Ba (ltN c35) h37) Z Z na9 Z (bK g))) Z (GX.l1 Z Z Z (fun _ g=>oN Z (GO.Gb (T:=Aa) (n:=a1.toNat) (o:=0) HS r_a Z Z (Ba (ltN c26) h28) Z Z na9 Z (bK g))) Z (qL Z Z (fun _ _ g=>oN Z (GO.vL Z Z Z Z (bK g))) Z (qL Z Z (fun _ _ g=>oN Z (GO.Ii Z Z Z Z Z (bK g))) Z (GX.ps 1 Z (GX.nil ?_))))))))))
   rcases iS H with ⟨c38,H⟩ | ⟨c38,H⟩
   ·
    refine yB Z (congrArg Bool.not (Bt c38)) (rN 2 Z ?_)
    obtain rfl:=sI H
    exact rT _ func45 Z Z ⟨Z,HS⟩
   refine nB Z (congrArg Bool.not c38) (rN 4 Z (gW (d1 b1 (lR _) _ _ H HS) Z))
  exact gW (f1 K (lR _) _ _ H HS) Z
theorem D5.calls {list:List (List Af)} {y_a:Nat→(Ty.slice 62 Aa).Lay} {r1:Bool} (HS:St w0 w (L)) (r_a:Av w0 L (Ty.slice 62 Aa) A_a c_a y_a list) (H:D5.f K list=some r1) :
    Calls prog 46 #[sV A_a list c_a] w (D5.post w0 L r1):=by
  unfold D5.f at H
  refine cG func46 Z ?_
  refine rN 7 Z ?_
  refine G.name (fun e1 c1=>?_)
  have d1:∀ a1,a1≤K→∀ (i_8:Int) (w:World),D5.l1 K a1 list i_8=some r1→St w0 w (L)→G prog 46 19 [(0,sV A_a list c_a),(3,I i_8)] e1 w (D5.post w0 L r1):=by
   refine lp (fun _ w H _=>by rw [D5.l1] at H; cases H) fun b1 g1 f1 i_8 w H HS=>?_
   rw [D5.l1] at H
   subst c1
   refine rN 2 Z (rG (pS 2 Z (lS Z Z U45 Z (GO.lss Z Z Z Z (nL ?_)))))
   rcases iS H with ⟨c16,H⟩ | ⟨c16,H⟩
   ·
    refine nB Z (tF c16) (rN 2 Z (rG (mV Z (lS Z Z U45 Z (pS 2 Z (nL ?_))))))
    obtain rfl:=sI H
    exact rT _ func46 Z Z ⟨Z,HS⟩
   refine yB Z (tT c16) (rN 4 Z ?_)
   obtain ⟨c17,H⟩:=iN H
   obtain ⟨t18,h19,H⟩:=bI H
   refine rG (pS 2 Z (iX Z U45 Sm (rk r_a HS) c17 (GO.Gb (T:=(Ty.slice 62 Aa)) (n:=i_8.toNat) (o:=0) HS r_a Z Z (getD_some (d:=[]) (ltN c17)) Z Z Mr Z (fJ gT Z (Es.calls HS (Av.elem r_a c17.1 c17.2) h19) (fun _ wd20 ⟨h21,HS⟩=>⟨_,h21,(GO.not Z Z Z (nL ?_))⟩)))))
   rcases iS H with ⟨c22,H⟩ | ⟨c22,H⟩
   ·
    refine yB Z (congrArg Bool.not (Bt c22)) (rN 2 Z ?_)
    obtain rfl:=sI H
    exact rT _ func46 Z Z ⟨Z,HS⟩
   refine nB Z (congrArg Bool.not c22) (rN 4 Z (gW (f1 b1 (lR _) _ _ H HS) Z))
  exact gW (d1 K (lR _) _ _ H HS) Z
theorem Et.calls {d1:List Af} {c1 a1:List (List Af)} {y_a:Nat→Aa.Lay} {y_b:Nat→(Ty.slice 62 Aa).Lay} {y_c:Nat→(Ty.slice 62 Aa).Lay} {r1:Bool} (HS:St w0 w (L)) (r_a:Av w0 L Aa A_a c_a y_a d1) (r_b:Av w0 L (Ty.slice 62 Aa) A_b c_b y_b c1) (r_c:Av w0 L (Ty.slice 62 Aa) A_c c_c y_c a1) (H:Et.f K d1 c1 a1=some r1) :
    Calls prog 18 #[.agg [sV A_a d1 c_a,sV A_b c1 c_b,sV A_c a1 c_c].toArray] w (Et.post w0 L r1):=by
  unfold Et.f at H
  refine cG func18 Z ?_
  refine sQ (rG (bA HS Z fun b1 wd2 HS=>aS Z (nL (sQ ?_))))
  obtain ⟨t3,h4,H⟩:=bI H
  rcases iS H with ⟨c7,H⟩ | ⟨c7,H⟩
  ·
   refine rG (fL b1 0 Ju Z (lB 0 HS Z Mr Z (fJ gT Z (Es.calls HS (rD 1 r_a) h4) (fun _ wd5 ⟨h6,HS⟩=>⟨_,h6,(mV Z (kN 6 Z (Bt c7) (oF Z (oF Z (oF Z (pS 2 Z (oF Z (oF Z (oF Z (pS 2 Z (nL ?_)))))))))))⟩))))
   obtain rfl:=sI H
   exact rT _ func18 Z Z ⟨Z,(HS.pk 1 [] Z)⟩
  obtain ⟨t8,h9,H⟩:=bI H
  rcases iS H with ⟨c12,H⟩ | ⟨c12,H⟩
  ·
   refine rG (fL b1 0 Ju Z (lB 0 HS Z Mr Z (fJ gT Z (Es.calls HS (rD 1 r_a) h4) (fun _ wd5 ⟨h6,HS⟩=>⟨_,h6,(mV Z (kN 6 Z c7 (oN Z (fL b1 1 Mq Z (bK (oN Z (lB 0 HS Z Nr Z (bK (oN Z (fJ oV Z (D5.calls HS (rD 1 r_b) h9) (fun _ wd10 ⟨h11,HS⟩=>⟨_,h11,(bK ?_)⟩)))))))))))⟩))))
   refine pS 2 Z (kN 11 Z (Bt c12) (oF Z (oF Z (oF Z (pS 2 Z (nL ?_))))))
   obtain rfl:=sI H
   exact rT _ func18 Z Z ⟨Z,(HS.pk 1 [] Z)⟩
  obtain ⟨t13,h14,H⟩:=bI H
  refine rG (fL b1 0 Ju Z (lB 0 HS Z Mr Z (fJ gT Z (Es.calls HS (rD 1 r_a) h4) (fun _ wd5 ⟨h6,HS⟩=>⟨_,h6,(mV Z (kN 6 Z c7 (oN Z (fL b1 1 Mq Z (bK (oN Z (lB 0 HS Z Nr Z (bK (oN Z (fJ oV Z (D5.calls HS (rD 1 r_b) h9) (fun _ wd10 ⟨h11,HS⟩=>⟨_,h11,(bK ?_)⟩)))))))))))⟩))))
  refine pS 2 Z (kN 11 Z c12 (oN Z (fL b1 2 O6 Z (bK (oN Z (lB 0 HS Z Nr Z (bK (oN Z (fJ oV Z (D5.calls HS (rD 1 r_c) h14) (fun _ wd15 ⟨h16,HS⟩=>⟨_,h16,(bK (pS 2 Z (nL ?_)))⟩))))))))))
  obtain rfl:=sI H
  exact rT _ func18 Z Z ⟨Z,(HS.pk 1 [] Z)⟩
theorem Jj.calls {n1:ByteArray} {o1:Int} {a1:List (List Br)} {c1:List Ah} {d1 f1:Int} {e1:List Int} {k1 m1:Int} {g1:List Cc} {i1 h1:List Int} {y_a:Nat→(Ty.slice 168 Az).Lay} {r1:Bool} (HS:St w0 w (L)) (r_a:Av w0 L (Ty.slice 168 Az) A_a c_a y_a a1) (r_b:Av w0 L Au A_b c_b uu c1) (r_c:Av w0 L (Bi .i64) A_c c_c uu e1) (r_d:Av w0 L Ci A_d c_d uu g1) (r_e:Av w0 L (Bi .i64) A_e c_e uu i1) (r_f:Av w0 L (Bi .i64) A_f c_f uu h1) (H:Jj.f n1 o1 a1 c1 d1 f1 e1 k1 m1 g1 i1 h1=some r1) :
    Calls prog 49 #[.agg [.string n1,I o1,sV A_a a1 c_a,sV A_b c1 c_b,I d1,I f1,sV A_c e1 c_c,I k1,I m1,sV A_d g1 c_d,sV A_e i1 c_e,sV A_f h1 c_f].toArray] w (Jj.post w0 L r1):=by
  unfold Jj.f at H
  refine cG func49 Z ?_
  refine sQ (rG (bA HS Z fun b1 wd2 HS=>aS Z (nL (sQ ?_))))
  rcases iS H with ⟨c3,H⟩ | ⟨c3,H⟩
  ·
   refine rG (fL b1 0 Jz Z (lB 0 HS Z na9 Z (GO.R5 Z Z Z Z (mV Z (kN 6 Z (Bt c3) (oF Z (oF Z (oF Z (pS 2 Z (oF Z (oF Z (oF Z (pS 2 Z (oF Z ?_))))))))))))))
   refine oF Z (oF Z (pS 2 Z (oF Z (oF Z (oF Z (pS 2 Z (oF Z (oF Z (oF Z (pS 2 Z (nL ?_)))))))))))
   obtain rfl:=sI H
   exact rT _ func49 Z Z ⟨Z,(HS.pk 1 [] Z)⟩
  rcases iS H with ⟨c4,H⟩ | ⟨c4,H⟩
  ·
   refine rG (fL b1 0 Jz Z (lB 0 HS Z na9 Z (GO.R5 Z Z Z Z (mV Z (kN 6 Z c3 (oN Z (fL b1 1 Lf Z (bK (oN Z (lB 0 HS Z na2 Z (bK (oN Z (GO.eql Z Z Z Z (bK ?_))))))))))))))
   refine pS 2 Z (kN 11 Z (tF c4) (oF Z (oF Z (oF Z (pS 2 Z (oF Z (oF Z (oF Z (pS 2 Z (oF Z (oF Z (oF Z (pS 2 Z (oF Z ?_))))))))))))))
   refine oF Z (oF Z (pS 2 Z (nL ?_)))
   obtain rfl:=sI H
   exact rT _ func49 Z Z ⟨Z,(HS.pk 1 [] Z)⟩
  obtain ⟨t5,h6,H⟩:=bI H
  rcases iS H with ⟨c9,H⟩ | ⟨c9,H⟩
  ·
   refine rG (fL b1 0 Jz Z (lB 0 HS Z na9 Z (GO.R5 Z Z Z Z (mV Z (kN 6 Z c3 (oN Z (fL b1 1 Lf Z (bK (oN Z (lB 0 HS Z na2 Z (bK (oN Z (GO.eql Z Z Z Z (bK ?_))))))))))))))
   refine pS 2 Z (kN 11 Z (tT c4) (oN Z (fL b1 2 M9 Z (bK (oN Z (GO.Du (j:=0) ([sV A_a a1 c_a]) HS Z Z Z Z O0 Z (bK (oN Z (fJ X5 Z (H5.calls HS (rD 1 r_a) h6) (fun _ wd7 ⟨h8,HS⟩=>⟨_,h8,(bK (pS 2 Z (kN 16 Z (Bt c9) (oF Z (oF Z ?_)))))⟩))))))))))
   refine oF Z (pS 2 Z (oF Z (oF Z (oF Z (pS 2 Z (oF Z (oF Z (oF Z (pS 2 Z (nL ?_))))))))))
   obtain rfl:=sI H
   exact rT _ func49 Z Z ⟨Z,(HS.pk 1 [] Z)⟩
  obtain ⟨t10,h11,H⟩:=bI H
  rcases iS H with ⟨c14,H⟩ | ⟨c14,H⟩
  ·
   refine rG (fL b1 0 Jz Z (lB 0 HS Z na9 Z (GO.R5 Z Z Z Z (mV Z (kN 6 Z c3 (oN Z (fL b1 1 Lf Z (bK (oN Z (lB 0 HS Z na2 Z (bK (oN Z (GO.eql Z Z Z Z (bK ?_))))))))))))))
   refine pS 2 Z (kN 11 Z (tT c4) (oN Z (fL b1 2 M9 Z (bK (oN Z (GO.Du (j:=0) ([sV A_a a1 c_a]) HS Z Z Z Z O0 Z (bK (oN Z (fJ X5 Z (H5.calls HS (rD 1 r_a) h6) (fun _ wd7 ⟨h8,HS⟩=>⟨_,h8,(bK (pS 2 Z (kN 16 Z c9 (oN Z (fL b1 3 Mm Z ?_)))))⟩))))))))))
   refine bK (oN Z (GO.Du (j:=0) ([sV A_b c1 c_b,I d1]) HS Z Z Z Z Oe Z (bK (oN Z (fJ bL Z (F7.calls HS (rD 1 r_b) h11) (fun _ wd12 ⟨h13,HS⟩=>⟨_,h13,(bK (pS 2 Z (kN 21 Z (Bt c14) (oF Z (oF Z (oF Z (pS 2 Z (oF Z (oF Z ?_)))))))))⟩))))))
   refine oF Z (pS 2 Z (nL ?_))
   obtain rfl:=sI H
   exact rT _ func49 Z Z ⟨Z,(HS.pk 1 [] Z)⟩
  obtain ⟨t15,h16,H⟩:=bI H
  rcases iS H with ⟨c19,H⟩ | ⟨c19,H⟩
  ·
   refine rG (fL b1 0 Jz Z (lB 0 HS Z na9 Z (GO.R5 Z Z Z Z (mV Z (kN 6 Z c3 (oN Z (fL b1 1 Lf Z (bK (oN Z (lB 0 HS Z na2 Z (bK (oN Z (GO.eql Z Z Z Z (bK ?_))))))))))))))
   refine pS 2 Z (kN 11 Z (tT c4) (oN Z (fL b1 2 M9 Z (bK (oN Z (GO.Du (j:=0) ([sV A_a a1 c_a]) HS Z Z Z Z O0 Z (bK (oN Z (fJ X5 Z (H5.calls HS (rD 1 r_a) h6) (fun _ wd7 ⟨h8,HS⟩=>⟨_,h8,(bK (pS 2 Z (kN 16 Z c9 (oN Z (fL b1 3 Mm Z ?_)))))⟩))))))))))
   refine bK (oN Z (GO.Du (j:=0) ([sV A_b c1 c_b,I d1]) HS Z Z Z Z Oe Z (bK (oN Z (fJ bL Z (F7.calls HS (rD 1 r_b) h11) (fun _ wd12 ⟨h13,HS⟩=>⟨_,h13,(bK (pS 2 Z (kN 21 Z c14 (oN Z (fL b1 5 M7 Z (bK (oN Z (GO.Du (j:=0) ([I f1,sV A_c e1 c_c]) HS Z Z Z Z R9 Z (bK ?_)))))))))⟩))))))
   refine oN Z (fJ fK Z (Ho.calls HS (rD 1 r_c) h16) (fun _ wd17 ⟨h18,HS⟩=>⟨_,h18,(bK (pS 2 Z (kN 26 Z (Bt c19) (oF Z (oF Z (oF Z (pS 2 Z (nL ?_))))))))⟩))
   obtain rfl:=sI H
   exact rT _ func49 Z Z ⟨Z,(HS.pk 1 [] Z)⟩
  obtain ⟨t20,h21,H⟩:=bI H
  refine rG (fL b1 0 Jz Z (lB 0 HS Z na9 Z (GO.R5 Z Z Z Z (mV Z (kN 6 Z c3 (oN Z (fL b1 1 Lf Z (bK (oN Z (lB 0 HS Z na2 Z (bK (oN Z (GO.eql Z Z Z Z (bK ?_))))))))))))))
  refine pS 2 Z (kN 11 Z (tT c4) (oN Z (fL b1 2 M9 Z (bK (oN Z (GO.Du (j:=0) ([sV A_a a1 c_a]) HS Z Z Z Z O0 Z (bK (oN Z (fJ X5 Z (H5.calls HS (rD 1 r_a) h6) (fun _ wd7 ⟨h8,HS⟩=>⟨_,h8,(bK (pS 2 Z (kN 16 Z c9 (oN Z (fL b1 3 Mm Z ?_)))))⟩))))))))))
  refine bK (oN Z (GO.Du (j:=0) ([sV A_b c1 c_b,I d1]) HS Z Z Z Z Oe Z (bK (oN Z (fJ bL Z (F7.calls HS (rD 1 r_b) h11) (fun _ wd12 ⟨h13,HS⟩=>⟨_,h13,(bK (pS 2 Z (kN 21 Z c14 (oN Z (fL b1 5 M7 Z (bK (oN Z (GO.Du (j:=0) ([I f1,sV A_c e1 c_c]) HS Z Z Z Z R9 Z (bK ?_)))))))))⟩))))))
  refine oN Z (fJ fK Z (Ho.calls HS (rD 1 r_c) h16) (fun _ wd17 ⟨h18,HS⟩=>⟨_,h18,(bK (pS 2 Z (kN 26 Z c19 (oN Z (fL b1 7 Mc Z (bK (oN Z (GO.Du (j:=0) ([I k1,I m1,sV A_d g1 c_d,sV A_e i1 c_e,sV A_f h1 c_f]) HS Z Z Z Z Rw Z (bK (oN Z (fJ mY Z (Fg.calls HS (rD 1 r_d) (rD 1 r_e) (rD 1 r_f) h21) (fun _ wd22 ⟨h23,HS⟩=>⟨_,h23,(bK (pS 2 Z ?_))⟩))))))))))))⟩))
  refine nL ?_
  obtain rfl:=sI H
  exact rT _ func49 Z Z ⟨Z,(HS.pk 1 [] Z)⟩
theorem Dx.calls {q1:Int} {p1 i1:ByteArray} {h1:Int} {d1:List (List Br)} {f1:List Ah} {k1 o1:Int} {a1:List Int} {n1 m1:Int} {e1:List Cc} {c1 g1:List Int} {y_a:Nat→(Ty.slice 168 Az).Lay} {r1:Bool} (HS:St w0 w (L)) (r_a:Av w0 L (Ty.slice 168 Az) A_a c_a y_a d1) (r_b:Av w0 L Au A_b c_b uu f1) (r_c:Av w0 L (Bi .i64) A_c c_c uu a1) (r_d:Av w0 L Ci A_d c_d uu e1) (r_e:Av w0 L (Bi .i64) A_e c_e uu c1) (r_f:Av w0 L (Bi .i64) A_f c_f uu g1) (H:Dx.f K q1 p1 i1 h1 d1 f1 k1 o1 a1 n1 m1 e1 c1 g1=some r1) :
    Calls prog 19 #[.agg [I q1,.string p1,.string i1,I h1,sV A_a d1 c_a,sV A_b f1 c_b,I k1,I o1,sV A_c a1 c_c,I n1,I m1,sV A_d e1 c_d,sV A_e c1 c_e,sV A_f g1 c_f].toArray] w (Dx.post w0 L r1):=by
  unfold Dx.f at H
  refine cG func19 Z ?_
  refine sQ (rG (bA HS Z fun b1 wd2 HS=>aS Z (nL (rN 2 Z (rG (fL b1 0 Uj Z (lB 0 HS Z na2 Z (nL (rN 3 Z ?_)))))))))
  rcases iE H with ⟨c3,H⟩ | ⟨c3,H⟩
  ·
   refine yB Z (tT c3) (sQ ?_)
   rcases iS H with ⟨c4,H⟩ | ⟨c4,H⟩
   ·
    refine rG (fL b1 1 Ow Z (lB 0 HS Z na9 Z (GO.R5 Z Z Z Z (mV Z (kN 10 Z (Bt c4) (oF Z (oF Z (oF Z (pS 2 Z (nL ?_))))))))))
    obtain rfl:=sI H
    exact rT _ func19 Z Z ⟨Z,(HS.pk 1 [] Z)⟩
   obtain ⟨t5,h6,H⟩:=bI H
   refine rG (fL b1 1 Ow Z (lB 0 HS Z na9 Z (GO.R5 Z Z Z Z (mV Z (kN 10 Z c4 (oN Z (fL b1 2 Pv Z (bK (oN Z (GO.Du (j:=0) ([.string i1,I h1,sV A_a d1 c_a,sV A_b f1 c_b,I k1,I o1,sV A_c a1 c_c,I n1,I m1,sV A_d e1 c_d,sV A_e c1 c_e,sV A_f g1 c_f]) HS Z Z Z Z Mf Z (bK (oN Z (fJ cK Z (Co.calls HS (rD 1 r_a) (rD 1 r_b) (rD 1 r_c) (rD 1 r_d) (rD 1 r_e) (rD 1 r_f) h6) (fun _ wd7 ⟨h8,HS⟩=>⟨_,h8,(bK ?_)⟩))))))))))))))
   refine pS 2 Z (nL ?_)
   obtain rfl:=sI H
   exact rT _ func19 Z Z ⟨Z,(HS.pk 1 [] Z)⟩
  refine nB Z (tF c3) (rN 2 Z ?_)
  rcases iE H with ⟨c9,H⟩ | ⟨c9,H⟩
  ·
   refine yB Z (tT c9) (sQ ?_)
   obtain ⟨t10,h11,H⟩:=bI H
   rcases iS H with ⟨c14,H⟩ | ⟨c14,H⟩
   ·
    refine rG (fL b1 1 Ow Z (lB 0 HS Z na9 Z (fJ iO Z (Fw.calls HS  h11) (fun _ wd12 ⟨h13,HS⟩=>⟨_,h13,(mV Z (kN 20 Z (Bt c14) (oF Z (oF Z (oF Z (pS 2 Z (nL ?_)))))))⟩))))
    obtain rfl:=sI H
    exact rT _ func19 Z Z ⟨Z,(HS.pk 1 [] Z)⟩
   obtain ⟨t15,h16,H⟩:=bI H
   refine rG (fL b1 1 Ow Z (lB 0 HS Z na9 Z (fJ iO Z (Fw.calls HS  h11) (fun _ wd12 ⟨h13,HS⟩=>⟨_,h13,(mV Z (kN 20 Z c14 (oN Z (fL b1 2 Pv Z (bK (oN Z (GO.Du (j:=0) ([.string i1,I h1,sV A_a d1 c_a,sV A_b f1 c_b,I k1,I o1,sV A_c a1 c_c,I n1,I m1,sV A_d e1 c_d,sV A_e c1 c_e,sV A_f g1 c_f]) HS Z Z Z Z Mf Z (bK (oN Z (fJ uV Z (Jj.calls HS (rD 1 r_a) (rD 1 r_b) (rD 1 r_c) (rD 1 r_d) (rD 1 r_e) (rD 1 r_f) h16) (fun _ wd17 ⟨h18,HS⟩=>⟨_,h18,(bK ?_)⟩)))))))))))⟩))))
   refine pS 2 Z (nL ?_)
   obtain rfl:=sI H
   exact rT _ func19 Z Z ⟨Z,(HS.pk 1 [] Z)⟩
  refine nB Z (tF c9) (rN 3 Z ?_)
  refine G.Qj (fun u1 v1=>?_)
  have t1:∀ s1,s1≤K→∀ (x20:Bool) (w:World),Dx.j1 K s1 p1 i1 h1 d1 f1 k1 o1 a1 n1 m1 e1 c1 g1 x20=some r1→St w0 w (Box b1 64 [I q1,.string p1,.string i1,I h1,sV A_a d1 c_a,sV A_b f1 c_b,I k1,I o1,sV A_c a1 c_c,I n1,I m1,sV A_d e1 c_d,sV A_e c1 c_e,sV A_f g1 c_f]::L)→G prog 19 36 [(1,pT b1),(25,.bool x20)] u1 w (Dx.post w0 L r1):=by
   refine jp (fun _ w H _=>by rw [Dx.j1] at H; cases H) fun x1 y1 x20 w H HS=>?_
   rw [Dx.j1] at H
   subst v1
   rcases iS H with ⟨c21,H⟩ | ⟨c21,H⟩
   ·
    refine nB Z (Bt c21) (rN 4 Z ?_)
    obtain rfl:=sI H
    exact rT _ func19 Z Z ⟨Z,(HS.pk 1 [] Z)⟩
   refine yB Z c21 (sQ ?_)
   rcases iS H with ⟨c22,H⟩ | ⟨c22,H⟩
   ·
    refine rG (fL b1 1 Ow Z (lB 0 HS Z na9 Z (GO.R5 Z Z Z Z (mV Z (kN 31 Z (Bt c22) (oF Z (oF Z (oF Z (pS 2 Z (nL ?_))))))))))
    obtain rfl:=sI H
    exact rT _ func19 Z Z ⟨Z,(HS.pk 1 [] Z)⟩
   obtain ⟨t23,h24,H⟩:=bI H
   refine rG (fL b1 1 Ow Z (lB 0 HS Z na9 Z (GO.R5 Z Z Z Z (mV Z (kN 31 Z c22 (oN Z (fL b1 2 Pv Z (bK (oN Z (GO.Du (j:=0) ([.string i1,I h1,sV A_a d1 c_a,sV A_b f1 c_b,I k1,I o1,sV A_c a1 c_c,I n1,I m1,sV A_d e1 c_d,sV A_e c1 c_e,sV A_f g1 c_f]) HS Z Z Z Z Mf Z (bK (oN Z (fJ uV Z (Jj.calls HS (rD 1 r_a) (rD 1 r_b) (rD 1 r_c) (rD 1 r_d) (rD 1 r_e) (rD 1 r_f) h24) (fun _ wd25 ⟨h26,HS⟩=>⟨_,h26,(bK ?_)⟩))))))))))))))
   refine pS 2 Z (nL ?_)
   obtain rfl:=sI H
   exact rT _ func19 Z Z ⟨Z,(HS.pk 1 [] Z)⟩
  rcases iE H with ⟨c27,H⟩ | ⟨c27,H⟩
  ·
   refine yB Z (tT c27) (G.skip (gW (t1 K (lR _) _ _ H HS) Z))
  refine nB Z (tF c27) (rN 1 Z (gW (t1 K (lR _) _ _ H HS) Z))
theorem Eh.calls {list:List Af} {name:ByteArray} {y_a:Nat→Aa.Lay} {r1:Int} (HS:St w0 w (L)) (r_a:Av w0 L Aa A_a c_a y_a list) (H:Eh.f K list name=some r1) :
    Calls prog 50 #[sV A_a list c_a,.string name] w (Eh.post w0 L r1):=by
  unfold Eh.f at H
  refine cG func50 Z ?_
  refine rN 7 Z ?_
  refine G.name (fun e1 c1=>?_)
  have d1:∀ a1,a1≤K→∀ (i_6:Int) (w:World),Eh.l1 K a1 list name i_6=some r1→St w0 w (L)→G prog 50 20 [(0,sV A_a list c_a),(1,.string name),(5,I i_6)] e1 w (Eh.post w0 L r1):=by
   refine lp (fun _ w H _=>by rw [Eh.l1] at H; cases H) fun b1 g1 f1 i_6 w H HS=>?_
   rw [Eh.l1] at H
   subst c1
   refine rN 2 Z (rG (pS 2 Z (lS Z Z U44 Z (GO.lss Z Z Z Z (nL ?_)))))
   rcases iS H with ⟨c12,H⟩ | ⟨c12,H⟩
   ·
    refine nB Z (tF c12) (rN 3 Z ?_)
    obtain rfl:=sI H
    exact rT _ func50 Z Z ⟨Z,HS⟩
   refine yB Z (tT c12) (rN 4 Z ?_)
   obtain ⟨c13,H⟩:=iN H
   obtain ⟨e14,h15,H⟩:=Cr H
   refine rG (pS 2 Z (iX Z U44 J7 (rk r_a HS) c13 (GO.fld (ea A_a (i_6.toNat * 12)) Z Z Jz Z Z (GO.Gb (T:=Aa) (n:=i_6.toNat) (o:=0) HS r_a Z Z (Ba (ltN c13) h15) Z Z na9 Z (mV Z (GO.R5 Z Z Z Z (nL ?_)))))))
   rcases iE H with ⟨c16,H⟩ | ⟨c16,H⟩
   ·
    refine yB Z c16 (rN 2 Z ?_)
    obtain rfl:=sI H
    exact rT _ func50 Z Z ⟨Z,HS⟩
   refine nB Z (Bt c16) (rN 4 Z (gW (f1 b1 (lR _) _ _ H HS) Z))
  exact gW (d1 K (lR _) _ _ H HS) Z
theorem Ie.calls {a1:List (List Br)} {y_a:Nat→(Ty.slice 168 Az).Lay} {r1:List (List Br)} (HS:St w0 w (L)) (r_a:Av w0 L (Ty.slice 168 Az) A_a c_a y_a a1) (H:Ie.f K a1=some r1) :
    Calls prog 104 #[.agg [sV A_a a1 c_a].toArray] w (Ie.post w0 L r1):=by
  unfold Ie.f at H
  refine cG func104 Z ?_
  refine sQ (rG (bA HS Z fun b1 wd2 HS=>GO.alloc HS Z jC Z Z fun b3 wd4 HS=>nL (sQ (rG (GO.Gj (.agg [.slice none 0 0].toArray) Z Z (fun _=>by kernel_rfl) Z (GO.alloc HS Z jC Z Z fun b5 wd6 HS=>sW 0 HS Z O0 Z fun wd7 HS=>nL (rN 5 Z ?_)))))))
  refine G.name (fun i1 g1=>?_)
  have h1:∀ e1,e1≤K→∀ (A25:Option Addr) (c26:Nat) (c1:List (List Br)) (y28:Nat→(Ty.slice 168 Az).Lay) (d1:Int) (w:World),Ie.l1 K e1 a1 c1 d1=some r1→St w0 w (Box b1 53 [sV A_a a1 c_a]::Box b3 53 [.slice none 0 0]::Box b5 53 [sV A25 c1 c26]::Own (Ty.slice 168 Az) 161 A25 c26 y28 c1::L)→G prog 104 26 [(1,pT b1),(2,pT b3),(3,pT b5),(4,I d1)] i1 w (Ie.post w0 L r1):=by
   refine lp (fun _ _ _ _ _ w H _=>by rw [Ie.l1] at H; cases H) fun f1 m1 k1 A25 c26 c1 y28 d1 w H HS=>?_
   rw [Ie.l1] at H
   subst g1
   refine rN 2 Z (rG (mV Z (fL b1 0 J2 Z (lB 0 HS Z O1 Z (lS Z Z U51 Z (GO.lss Z Z Z Z (nL ?_)))))))
   rcases iS H with ⟨c47,H⟩ | ⟨c47,H⟩
   ·
    refine nB Z (tF c47) (rN 2 Z (rG (lW 2 HS Z O0 (sW 1 HS Z O0 Z fun wd63 HS=>nL ?_))))
    obtain rfl:=sI H
    exact rT _ func104 Z (Iq.Ji (j:=1) (vs:=[sV A25 c1 c26]) HS Z Z Z O0) ⟨_,_,_,Z,(HS.pk 4 [3] Z)⟩
   refine yB Z (tT c47) (rN 3 Z ?_)
   obtain ⟨c50,H⟩:=iN H
   obtain ⟨c54,H⟩:=iN H
   obtain ⟨c60,H⟩:=iN H
   refine G.O7 mixed (fun w=>St w0 w (Box b1 53 [sV A_a a1 c_a]::Box b5 53 [sV A25 c1 c26]::L)) [1,4,7] [0,3,5,1,4,6,7,2,8,9,10,11,12] [12] (by kernel_rfl) (by kernel_rfl) (HS.drew.pk 4 [0,2] Z) ?_
   replace HS:=HS.drew
   refine qL Z Z (fun _ _ g=>fL b5 0 J2 Z g) Z (qL Z Z (fun _ _ g=>fL b1 0 J2 Z g) Z (GX.ps 1 Z (GX.ls Z Z Z (HS.pk 4 [0,2] Z) (fun _ HS _ g=>lB 1 HS Z O1 Z g) Z (GX.ls Z Z Z (HS.pk 4 [0,2] Z) (fun _ HS _ g=>lB 0 HS Z O1 Z g) Z (qL Z Z (fun _ _ g=>iX Z U51 P7 (rk (rD 4 r_a) HS) c50 g) Z (GX.ls Z Z Z (HS.pk 4 [0,2] Z) (fun _ HS _ g=>GO.Gb (T:=(Ty.slice 168 Az)) (n:=d1.toNat) (o:=0) HS (rD 2 r_a) Z Z (getD_some (d:=[]) (ltN c50)) Z Z Qc Z g) Z (GX.l2 Z (GO.Gr (el:=168) ([]) HS Z Z (fun _=>by kernel_rfl) Z fun b48 wd49 HS=>GX.fin (HS.pk 5 [1,3] Z) (GX.l2 Z ?_)))))))))
   replace HS:=HS.Le (T:=Az) (j:=0) Z Bw uu ([]:List Br) Z (Qd Z)
   refine GO.Oj (t:=15) (m:=([]:List Br).length) (c':=([]:List Br).length) Z Z Z (GO.Wh (T:=Az) (j:=0) HS Z (Av.elem (rD 5 r_a) c50.1 c50.2) Bw Z Z Z P8 eO Z Z Z c54 Z (fun _=>Z) fun A52 c53 wd51 HS=>GX.fin (HS.pk 5 [1,3] Z) (GX.l2 Z (GO.Gr (el:=161) ([sV A52 (([]:List Br)++(a1.getD d1.toNat [])) c53]) HS Z Z (fun _=>by kernel_rfl) Z fun b55 wd56 HS=>GX.fin (HS.pk 6 [2,4] Z) (GX.l2 Z ?_))))
   replace HS:=HS.pk 6 [5,0,1,2,3,4] Z
   refine GO.dW (S:=Az) (u:=168) HS Z Z Z U51 gK Z Z c60 Z fun A58 c59 y61 wd57 HS=>GX.fin (HS.pk 5 [2,4] Z) (qL Z Z (fun _ _ g=>fL b5 0 J2 Z g) Z (GX.l2 Z (GO.H9 (j:=4) (vs:=[sV A58 (c1++[(([]:List Br)++(a1.getD d1.toNat []))]) c59]) ([sV A58 (c1++[(([]:List Br)++(a1.getD d1.toNat []))]) c59]) HS Z Z Z Z Z (htN O1 Z) Z Z Z fun wd62 HS=>GX.kX Z (GX.nil (rN 3 Z (gW (k1 f1 (lR _) _ _ _ _ _ _ H (HS.pk 5 [2,3,4,0] Z)) Z))))))
  replace HS:=HS.Da (Ty.slice 168 Az) 161 (fun _=>⟨none,0,uu⟩)
  exact gW (h1 K (lR _) _ _ _ _ _ _ H (HS.pk 4 [3,2,1,0] Z)) Z
theorem Nf.calls {c1:Int} {a1:List Int} {r1:Int} {r2:List Int} (HS:St w0 w (L)) (r_a:Av w0 L (Bi .i64) A_a c_a uu a1) (H:Nf.f c1 a1=some (r1,r2)) :
    Calls prog 105 #[.agg [I c1,sV A_a a1 c_a].toArray] w (Nf.post w0 L r1 r2):=by
  unfold Nf.f at H
  refine cG func105 Z ?_
  refine sQ (rG (bA HS Z fun b1 wd2 HS=>GO.alloc HS Z xR Z Z fun b3 wd4 HS=>nL (sQ ?_)))
  obtain ⟨c10,H⟩:=iN H
  refine G.O7 mixed (fun w=>St w0 w (Box b1 57 [I c1,sV A_a a1 c_a]::L)) [1,4] [0,3,1,4,2,5,6,7] [] (by kernel_rfl) (by kernel_rfl) (HS.drew.pk 2 [1] Z) ?_
  replace HS:=HS.drew
  refine qL Z Z (fun _ _ g=>fL b1 0 Ou Z g) Z (qL Z Z (fun _ _ g=>fL b1 1 Oi Z g) Z (GX.ls Z Z Z (HS.pk 2 [1] Z) (fun _ HS _ g=>lB 0 HS Z na2 Z g) Z (GX.ls Z Z Z (HS.pk 2 [1] Z) (fun _ HS _ g=>lB 0 HS Z Jb Z g) Z (GX.l2 Z (GO.Gr (el:=2) ([]) HS Z Z (fun _=>by kernel_rfl) Z fun b5 wd6 HS=>GX.fin (HS.pk 3 [2] Z) (GX.l2 Z ?_))))))
  replace HS:=HS.Le (T:=(Bi .i64)) (j:=0) Z Bw uu ([]:List Int) Z (Qd Z)
  refine GO.Oj (t:=5) (m:=([]:List Int).length) (c':=([]:List Int).length) Z Z Z (GO.Wh (T:=(Bi .i64)) (j:=0) HS Z (rD 3 r_a) Bw Z Z Z U32 Va Z Z Z c10 Z (fun _=>Z) fun A8 c9 wd7 HS=>GX.fin (HS.pk 3 [2] Z) (qL Z Z (fun _ _ g=>GO.Gj (.agg [I c1,sV A8 (([]:List Int)++a1) c9].toArray) Z Z (fun _=>by kernel_rfl) Z g) Z (GX.l2 Z (sW 1 HS Z R9 Z fun wd11 HS=>GX.fin (HS.pk 3 [2] Z) (GX.nil ?_)))))
  obtain ⟨rfl,rfl⟩:=Nq H
  exact rT _ func105 Z (Iq.Ji (j:=1) (vs:=[I c1,sV A8 (([]:List Int)++a1) c9]) HS Z Z Z R9) ⟨_,_,Z,(HS.pk 3 [0] Z)⟩
theorem Ee.calls {o1:ByteArray} {p1:Int} {s1:List (List Br)} {a1:List Ah} {f1 u1:Int} {q1:List Int} {g1 h1:Int} {c1:List Cc} {e1 d1:List Int} {y_a:Nat→(Ty.slice 168 Az).Lay} {r1:ByteArray} {r2:Int} {r3:List (List Br)} {r4:List Ah} {r5 r6:Int} {r7:List Int} {r8 r9:Int} {r10:List Cc} {r11 r12:List Int} (HS:St w0 w (L)) (r_a:Av w0 L (Ty.slice 168 Az) A_a c_a y_a s1) (r_b:Av w0 L Au A_b c_b uu a1) (r_c:Av w0 L (Bi .i64) A_c c_c uu q1) (r_d:Av w0 L Ci A_d c_d uu c1) (r_e:Av w0 L (Bi .i64) A_e c_e uu e1) (r_f:Av w0 L (Bi .i64) A_f c_f uu d1) (H:Ee.f K o1 p1 s1 a1 f1 u1 q1 g1 h1 c1 e1 d1=some (r1,r2,r3,r4,r5,r6,r7,r8,r9,r10,r11,r12)) :
    Calls prog 51 #[.agg [.string o1,I p1,sV A_a s1 c_a,sV A_b a1 c_b,I f1,I u1,sV A_c q1 c_c,I g1,I h1,sV A_d c1 c_d,sV A_e e1 c_e,sV A_f d1 c_f].toArray] w (Ee.post w0 L r1 r2 r3 r4 r5 r6 r7 r8 r9 r10 r11 r12):=by
  unfold Ee.f at H
  refine cG func51 Z ?_
  refine sQ (rG (bA HS Z fun b1 wd2 HS=>GO.alloc HS Z fI Z Z fun b3 wd4 HS=>nL (sQ (rG (fL b1 7 Mc Z (GO.Du (j:=1) ([I g1,I h1,sV A_d c1 c_d,sV A_e e1 c_e,sV A_f d1 c_f]) HS Z Z Z Z Rw Z (GO.alloc HS Z rY Z Z fun b5 wd6 HS=>sW 0 HS Z Rw Z fun wd7 HS=>nL (sQ ?_))))))))
  obtain ⟨c13,H⟩:=iN H
  refine rG (GO.Gr (el:=153) ([]) HS Z Z (fun _=>by kernel_rfl) Z fun b8 wd9 HS=>fL b5 2 Jp Z (lB 1 HS Z Om Z ?_))
  replace HS:=HS.Le (T:=Ci) (j:=0) Z Bw uu ([]:List Cc) Z (Qd Z)
  refine GO.Oj (t:=7) (m:=([]:List Cc).length) (c':=([]:List Cc).length) Z Z Z (GO.Wh (T:=Ci) (j:=0) HS Z (rD 4 r_d) Bw Z Z Z U58 gH Z Z Z c13 Z (fun _=>Z) fun A11 c12 wd10 HS=>fL b5 2 Jp Z (GO.H9 (j:=1) (vs:=[sV A11 (([]:List Cc)++c1) c12]) ([I g1,I h1,sV A11 (([]:List Cc)++c1) c12,sV A_e e1 c_e,sV A_f d1 c_f]) HS Z Z Z Z Z (htN Om Z) Z Z Z fun wd14 HS=>nL (sQ ?_)))
  obtain ⟨c20,H⟩:=iN H
  refine rG (GO.Gr (el:=2) ([]) HS Z Z (fun _=>by kernel_rfl) Z fun b15 wd16 HS=>fL b5 3 Kb Z (lB 2 HS Z Jb Z ?_))
  replace HS:=HS.Le (T:=(Bi .i64)) (j:=0) Z Bw uu ([]:List Int) Z (Qd Z)
  refine GO.Oj (t:=12) (m:=([]:List Int).length) (c':=([]:List Int).length) Z Z Z (GO.Wh (T:=(Bi .i64)) (j:=0) HS Z (rD 5 r_e) Bw Z Z Z U32 Va Z Z Z c20 Z (fun _=>Z) fun A18 c19 wd17 HS=>fL b5 3 Kb Z (GO.H9 (j:=2) (vs:=[sV A18 (([]:List Int)++e1) c19]) ([I g1,I h1,sV A11 (([]:List Cc)++c1) c12,sV A18 (([]:List Int)++e1) c19,sV A_f d1 c_f]) HS Z Z Z Z Z (htN Jb Z) Z Z Z fun wd21 HS=>nL (sQ ?_)))
  obtain ⟨c27,H⟩:=iN H
  refine rG (GO.Gr (el:=2) ([]) HS Z Z (fun _=>by kernel_rfl) Z fun b22 wd23 HS=>fL b5 4 M6 Z (lB 3 HS Z Jb Z ?_))
  replace HS:=HS.Le (T:=(Bi .i64)) (j:=0) Z Bw uu ([]:List Int) Z (Qd Z)
  refine GO.Oj (t:=17) (m:=([]:List Int).length) (c':=([]:List Int).length) Z Z Z (GO.Wh (T:=(Bi .i64)) (j:=0) HS Z (rD 6 r_f) Bw Z Z Z U32 Va Z Z Z c27 Z (fun _=>Z) fun A25 c26 wd24 HS=>fL b5 4 M6 Z (GO.H9 (j:=3) (vs:=[sV A25 (([]:List Int)++d1) c26]) ([I g1,I h1,sV A11 (([]:List Cc)++c1) c12,sV A18 (([]:List Int)++e1) c19,sV A25 (([]:List Int)++d1) c26]) HS Z Z Z Z Z (htN Jb Z) Z Z Z fun wd28 HS=>nL (sQ ?_)))
  obtain ⟨c34,H⟩:=iN H
  refine G.Rp mixed (by decide) (fun b a w=>∃ (b29:Nat) (A32:Option Addr) (c33:Nat) (b35:Nat) (v1:Cn) (t1:Cn),RS 44 [(1,pT b1),(2,pT b3),(3,pT b5)] [rv 22 (.slice (sb b29) 0 0),rv 23 (.pointer (some ⟨b1,3,none⟩)),rv 24 (.pointer (some ⟨b1,3,none⟩)),rv 25 (sV A_b a1 c_b),rv 26 (sV A32 (([]:List Ah)++a1) c33),rv 27 (.pointer (some ⟨b1,3,none⟩)),rv 28 (.pointer (some ⟨b1,4,none⟩)),rv 29 (I f1),rv 30 (.agg [sV A32 (([]:List Ah)++a1) c33,I f1].toArray),rv 4 (pT b35),none] b a∧St w0 w (Own (Bi .i64) 2 A25 c26 uu (([]:List Int)++d1)::Own (Bi .i64) 2 A18 c19 uu (([]:List Int)++e1)::Own Ci 153 A11 c12 uu (([]:List Cc)++c1)::Box b5 60 [I g1,I h1,sV A11 (([]:List Cc)++c1) c12,sV A18 (([]:List Int)++e1) c19,sV A25 (([]:List Int)++d1) c26]::Box b3 62 [.string ByteArray.empty,I 0,.slice none 0 0,.slice none 0 0,I 0,I 0,.slice none 0 0,I 0,I 0,.slice none 0 0,.slice none 0 0,.slice none 0 0]::Box b1 62 [.string o1,I p1,sV A_a s1 c_a,sV A_b a1 c_b,I f1,I u1,sV A_c q1 c_c,I g1,I h1,sV A_d c1 c_d,sV A_e e1 c_e,sV A_f d1 c_f]::v1::t1::L)∧(b 0=true→b 4=false→v1=Box b29 163 [])∧(b 4=true→v1=Own Au 163 A32 c33 uu (([]:List Ah)++a1))∧(b 9=true→b 10=false→t1=Box b35 56 [.slice none 0 0,I 0])∧(b 10=true→t1=Box b35 56 [sV A32 (([]:List Ah)++a1) c33,I f1])) ?_ ?_ ?_
  · exact fun a hs=>⟨0,none,0,0,Emp,Emp,hs.init Z,(HS.drew.emp.emp.pk 8 [2,3,4,5,6,7,1,0] Z),fun h=>Bool.noConfusion h,fun h=>Bool.noConfusion h,fun h=>Bool.noConfusion h,fun h=>Bool.noConfusion h⟩
  ·
   intro j b a w hj
   refine exI fun b29=>exI fun A32=>exI fun c33=>exI fun b35=>exI fun v1=>exI fun t1=>anI fun hs=>fun hM q=>?_
   have HS:=hM.1
   match j,hj with
   | 0,_ =>
    refine (anI fun HS=>anI fun i1=>anI fun m1=>anI fun k1=>fun n1=>?_) hM
    refine hs.at q [] [] (GO.Gr (el:=163) ([]) HS Z Z (fun _=>by kernel_rfl) Z fun b29 wd30 HS=>hs.Tz q [0] (fun _ hs=>⟨b29,A32,c33,b35,Box b29 163 [],_,hs,HS.pk 9 [1,2,3,4,5,6,0,8] Z,fun _ _=>Z,fun hh=>(q.no 4 hh).elim,k1,n1⟩) Z Z)
   | 1,_ =>
    refine hs.at q [] [] (fL b1 3 Mm Z (hs.fin q Z fun _ hs=>⟨_,_,_,_,_,_,hs,hM⟩))
   | 2,_ =>
    refine hs.at q [1] [] (fL b1 3 Jr Z (hs.fin q Z fun _ hs=>⟨_,_,_,_,_,_,hs,hM⟩))
   | 3,_ =>
    refine hs.at q [2] [] (lB 5 HS Z Ol Z (hs.fin q Z fun _ hs=>⟨_,_,_,_,_,_,hs,hM⟩))
   | 4,_ =>
    refine (anI fun HS=>anI fun i1=>anI fun m1=>anI fun k1=>fun n1=>?_) hM
    have hb0:=q.on 0
    obtain rfl:=i1 hb0 q.hb
    refine hs.at q [0,3] [] ?_
    replace HS:=HS.Le (T:=Au) (j:=6) Z Bw uu ([]:List Ah) Z (Qd Z)
    refine GO.Oj (t:=22) (m:=([]:List Ah).length) (c':=([]:List Ah).length) Z Z Z (GO.Wh (T:=Au) (j:=6) HS Z (rD 8 r_b) Bw Z Z Z U54 eU Z Z Z c34 Z (fun _=>Z) fun A32 c33 wd31 HS=>hs.Tz q [4,8] (fun _ hs=>⟨b29,A32,c33,b35,Own Au 163 A32 c33 uu (([]:List Ah)++a1),_,hs,HS,fun _ h=>Bool.noConfusion h,fun _=>Z,k1,fun hh=>(q.no 10 hh).elim⟩) Z Z)
   | 5,_ =>
    refine hs.at q [] [] (fL b1 3 Mm Z (hs.fin q Z fun _ hs=>⟨_,_,_,_,_,_,hs,hM⟩))
   | 6,_ =>
    refine hs.at q [5] [] (fL b1 4 Qi Z (hs.fin q Z fun _ hs=>⟨_,_,_,_,_,_,hs,hM⟩))
   | 7,_ =>
    refine hs.at q [6] [] (lB 5 HS Z na2 Z (hs.fin q Z fun _ hs=>⟨_,_,_,_,_,_,hs,hM⟩))
   | 8,_ =>
    refine hs.at q [4,7] [] (GO.Gj (.agg [sV A32 (([]:List Ah)++a1) c33,I f1].toArray) Z Z (fun _=>by kernel_rfl) Z (hs.fin q Z fun _ hs=>⟨_,_,_,_,_,_,hs,hM⟩))
   | 9,_ =>
    refine (anI fun HS=>anI fun i1=>anI fun m1=>anI fun k1=>fun n1=>?_) hM
    refine hs.at q [] [] (GO.alloc HS Z qB Z Z fun b35 wd36 HS=>hs.Tz q [9] (fun _ hs=>⟨b29,A32,c33,b35,_,Box b35 56 [.slice none 0 0,I 0],hs,HS.pk 9 [1,2,3,4,5,6,7,0] Z,i1,m1,fun _ _=>Z,fun hh=>(q.no 10 hh).elim⟩) Z Z)
   | 10,_ =>
    refine (anI fun HS=>anI fun i1=>anI fun m1=>anI fun k1=>fun n1=>?_) hM
    have hb9:=q.on 9
    obtain rfl:=k1 hb9 q.hb
    refine hs.at q [9,8] [] (sW 7 HS Z Oe Z fun wd37 HS=>hs.qO q Z fun _ hs=>⟨b29,A32,c33,b35,_,Box b35 56 [sV A32 (([]:List Ah)++a1) c33,I f1],hs,HS,i1,m1,fun _ h=>Bool.noConfusion h,fun _=>Z⟩)
   | k+11,hj=>exact absurd hj (Nat.not_lt.2 (Nat.le_add_left 11 k))
  ·
   intro b a w hall
   refine exI fun b29=>exI fun A32=>exI fun c33=>exI fun b35=>exI fun v1=>exI fun t1=>anI fun hs=>anI fun HS=>anI fun i1=>anI fun m1=>anI fun k1=>fun n1=>?_
   obtain rfl:=m1 (hall 4 (by decide))
   obtain rfl:=n1 (hall 10 (by decide))
   refine G.at (hs.all hall) (sQ ?_)
   obtain ⟨t38,h39,H⟩:=bI H
   obtain ⟨t45,t46,h47,H⟩:=Dt H
   refine G.O7 mixed (fun w=>St w0 w (Box b5 60 [I g1,I h1,sV A11 (([]:List Cc)++c1) c12,sV A18 (([]:List Int)++e1) c19,sV A25 (([]:List Int)++d1) c26]::Box b1 62 [.string o1,I p1,sV A_a s1 c_a,sV A_b a1 c_b,I f1,I u1,sV A_c q1 c_c,I g1,I h1,sV A_d c1 c_d,sV A_e e1 c_e,sV A_f d1 c_f]::Box b35 56 [sV A32 (([]:List Ah)++a1) c33,I f1]::L)) [1,3,5,7,9,11] [0,2,4,8,1,3,5,7,9,11,6,10,12,13] [] (by kernel_rfl) (by kernel_rfl) (HS.drew.pk 8 [3,5,7] Z) ?_
   replace HS:=HS.drew
   refine qL Z Z (fun _ _ g=>fL b1 0 Jz Z g) Z (qL Z Z (fun _ _ g=>fL b1 1 Lf Z g) Z (qL Z Z (fun _ _ g=>fL b1 2 M9 Z g) Z (qL Z Z (fun _ _ g=>fL b1 5 M7 Z g) Z (GX.ls Z Z Z (HS.pk 8 [3,5,7] Z) (fun _ HS _ g=>lB 1 HS Z na9 Z g) Z (GX.ls Z Z Z (HS.pk 8 [3,5,7] Z) (fun _ HS _ g=>lB 1 HS Z na2 Z g) Z (GX.ls Z Z Z (HS.pk 8 [3,5,7] Z) (fun _ HS _ g=>GO.Du (j:=1) ([sV A_a s1 c_a]) HS Z Z Z Z O0 Z g) Z (GX.ls Z Z Z (HS.pk 8 [3,5,7] Z) (fun _ HS _ g=>lW 2 HS Z Oe g) Z (GX.ls Z Z Z (HS.pk 8 [3,5,7] Z) (fun _ HS _ g=>GO.Du (j:=1) ([I u1,sV A_c q1 c_c]) HS Z Z Z Z R9 Z g) Z (GX.ls Z Z Z (HS.pk 8 [3,5,7] Z) (fun _ HS _ g=>lW 0 HS Z Rw g) Z (GX.l2 Z (fJ vN Z (Ie.calls HS (rD 8 r_a) h39) (fun _ wd43 ⟨A40,c41,y42,h44,HS⟩=>⟨_,h44,(GX.fin (HS.pk 9 [4,6,8] Z) (GX.l2 Z (fJ wE Z (Nf.calls HS (rD 9 r_c) h47) (fun _ wd50 ⟨A48,c49,h51,HS⟩=>⟨_,h51,?_⟩))))⟩))))))))))))
   refine GX.fin (HS.pk 10 [5,7,9] Z) (qL Z Z (fun _ _ g=>GO.Gj (.agg [.string o1,I p1,sV A40 t38 c41,sV A32 (([]:List Ah)++a1) c33,I f1,I t45,sV A48 t46 c49,I g1,I h1,sV A11 (([]:List Cc)++c1) c12,sV A18 (([]:List Int)++e1) c19,sV A25 (([]:List Int)++d1) c26].toArray) Z Z (fun _=>by kernel_rfl) Z g) Z (GX.l2 Z (sW 6 HS Z Mf Z fun wd52 HS=>GX.fin (HS.pk 10 [5,7,9] Z) (GX.nil ?_))))
   obtain ⟨rfl,rfl,rfl,rfl,rfl,rfl,rfl,rfl,rfl,rfl,rfl,rfl⟩:=fQ H
   exact rT _ func51 Z (Iq.Ji (j:=6) (vs:=[.string o1,I p1,sV A40 t38 c41,sV A32 (([]:List Ah)++a1) c33,I f1,I t45,sV A48 t46 c49,I g1,I h1,sV A11 (([]:List Cc)++c1) c12,sV A18 (([]:List Int)++e1) c19,sV A25 (([]:List Int)++d1) c26]) HS Z Z Z Mf) ⟨_,_,_,_,_,_,_,_,_,_,_,_,_,Z,(HS.pk 10 [1,8,0,4,3,2] Z)⟩
theorem Fa.calls {list:List Af} {y_a:Nat→Aa.Lay} {r1:List Af} (HS:St w0 w (L)) (r_a:Av w0 L Aa A_a c_a y_a list) (H:Fa.f K list=some r1) :
    Calls prog 53 #[sV A_a list c_a] w (Fa.post w0 L r1):=by
  unfold Fa.f at H
  refine cG func53 Z ?_
  refine rN 3 Z (rG (GO.Gr (el:=62) ([]) HS Z Z (fun _=>by kernel_rfl) Z fun b1 wd2 HS=>?_))
  replace HS:=HS.aH (T:=Aa) (j:=0) Z (fun _=>Bh)
  refine GO.Oj (t:=5) (m:=([]:List Af).length) (c':=0) Z Z Z (aS Z (nL (rN 5 Z ?_)))
  refine G.name (fun i1 f1=>?_)
  have g1:∀ d1,d1≤K→∀ (A42:Option Addr) (c43:Nat) (a1:List Af) (y45:Nat→Aa.Lay) (c1:Int) (w:World),Fa.l1 K d1 list a1 c1=some r1→St w0 w (Own Aa 62 A42 c43 y45 a1::L)→G prog 53 21 [(0,sV A_a list c_a),(3,sV A42 a1 c43),(4,I c1)] i1 w (Fa.post w0 L r1):=by
   refine lp (fun _ _ _ _ _ w H _=>by rw [Fa.l1] at H; cases H) fun e1 k1 h1 A42 c43 a1 y45 c1 w H HS=>?_
   rw [Fa.l1] at H
   subst f1
   refine rN 2 Z (rG (pS 2 Z (lS Z Z U44 Z (GO.lss Z Z Z Z (nL ?_)))))
   rcases iS H with ⟨c86,H⟩ | ⟨c86,H⟩
   ·
    refine nB Z (tF c86) (rN 3 Z ?_)
    obtain rfl:=sI H
    exact rT _ func53 Z Z ⟨_,_,_,Z,HS⟩
   refine yB Z (tT c86) (rN 3 Z ?_)
   obtain ⟨c87,H⟩:=iN H
   obtain ⟨e88,h89,H⟩:=Cr H
   obtain ⟨t90,t91,t92,t93,t94,t95,t96,t97,t98,t99,t100,t101,h102,H⟩:=M3 H
   obtain ⟨c123,H⟩:=iN H
   refine rG (pS 3 Z (iX Z U44 J7 (rk (rD 1 r_a) HS) c87 (GO.J4 (T:=Aa) (n:=c1.toNat) HS (rD 1 r_a) Z Z (Ba (ltN c87) h89) Mf Z (fJ iP Z (Ee.calls HS (Av.fld (rD 1 r_a) (Ba (ltN c87) h89) (fun _ h=>h.2.2.1)) (Av.fld (rD 1 r_a) (Ba (ltN c87) h89) (fun _ h=>h.2.2.2.1)) (Av.fld (rD 1 r_a) (Ba (ltN c87) h89) (fun _ h=>h.2.2.2.2.2.2.1)) (Av.fld (rD 1 r_a) (Ba (ltN c87) h89) (fun _ h=>h.2.2.2.2.2.2.2.2.2.1)) (Av.fld (rD 1 r_a) (Ba (ltN c87) h89) (fun _ h=>h.2.2.2.2.2.2.2.2.2.2.1)) (Av.fld (rD 1 r_a) (Ba (ltN c87) h89) (fun _ h=>h.2.2.2.2.2.2.2.2.2.2.2)) h102) (fun _ wd116 ⟨A103,c104,y105,A106,c107,A108,c109,A110,c111,A112,c113,A114,c115,h117,HS⟩=>⟨_,h117,(GO.Gr (el:=62) ([.string t90,I t91,sV A103 t92 c104,sV A106 t93 c107,I t94,I t95,sV A108 t96 c109,I t97,I t98,sV A110 t99 c111,sV A112 t100 c113,sV A114 t101 c115]) HS Z Z (fun _=>by kernel_rfl) Z fun b118 wd119 HS=>?_)⟩)))))
   replace HS:=HS.pk 8 [6,5,4,3,2,1,7,0] Z
   replace HS:=Np (Name:=t90) (Kind:=t91) (Al:=t94) (Ao:=t95) (Am:=t97) (Aj:=t98) HS
   replace HS:=HS.pk 3 [1,2,0] Z
   refine GO.jK (T:=Aa) ((),(),⟨A103,c104,y105⟩,⟨A106,c107,uu⟩,(),(),⟨A108,c109,uu⟩,(),(),⟨A110,c111,uu⟩,⟨A112,c113,uu⟩,⟨A114,c115,uu⟩) (⟨t90,t91,t92,t93,t94,t95,t96,t97,t98,t99,t100,t101⟩:Af) HS Z Z Z U44 T9 Z Z Z c123 Z fun A121 c122 y124 wd120 HS=>aS Z (nL (rN 3 Z (gW (h1 e1 (lR _) _ _ _ _ _ _ H (HS.pk 2 [0] Z)) Z)))
  exact gW (g1 K (lR _) _ _ _ _ _ _ H HS) Z
theorem Df.calls {list:List (List Af)} {y_a:Nat→(Ty.slice 62 Aa).Lay} {r1:List (List Af)} (HS:St w0 w (L)) (r_a:Av w0 L (Ty.slice 62 Aa) A_a c_a y_a list) (H:Df.f K list=some r1) :
    Calls prog 54 #[sV A_a list c_a] w (Df.post w0 L r1):=by
  unfold Df.f at H
  refine cG func54 Z ?_
  refine rN 3 Z (rG (GO.Gr (el:=44) ([]) HS Z Z (fun _=>by kernel_rfl) Z fun b1 wd2 HS=>?_))
  replace HS:=HS.aH (T:=(Ty.slice 62 Aa)) (j:=0) Z (fun _=>⟨none,0,(fun _=>Bh)⟩)
  refine GO.Oj (t:=5) (m:=([]:List (List Af)).length) (c':=0) Z Z Z (aS Z (nL (rN 5 Z ?_)))
  refine G.name (fun h1 f1=>?_)
  have g1:∀ d1,d1≤K→∀ (A19:Option Addr) (c20:Nat) (a1:List (List Af)) (y22:Nat→(Ty.slice 62 Aa).Lay) (c1:Int) (w:World),Df.l1 K d1 list a1 c1=some r1→St w0 w (Own (Ty.slice 62 Aa) 44 A19 c20 y22 a1::L)→G prog 54 21 [(0,sV A_a list c_a),(3,sV A19 a1 c20),(4,I c1)] h1 w (Df.post w0 L r1):=by
   refine lp (fun _ _ _ _ _ w H _=>by rw [Df.l1] at H; cases H) fun e1 k1 i1 A19 c20 a1 y22 c1 w H HS=>?_
   rw [Df.l1] at H
   subst f1
   refine rN 2 Z (rG (pS 2 Z (lS Z Z U45 Z (GO.lss Z Z Z Z (nL ?_)))))
   rcases iS H with ⟨c40,H⟩ | ⟨c40,H⟩
   ·
    refine nB Z (tF c40) (rN 3 Z ?_)
    obtain rfl:=sI H
    exact rT _ func54 Z Z ⟨_,_,_,Z,HS⟩
   refine yB Z (tT c40) (rN 3 Z ?_)
   obtain ⟨c41,H⟩:=iN H
   obtain ⟨t42,h43,H⟩:=bI H
   obtain ⟨c54,H⟩:=iN H
   refine rG (pS 3 Z (iX Z U45 Sm (rk (rD 1 r_a) HS) c41 (GO.Gb (T:=(Ty.slice 62 Aa)) (n:=c1.toNat) (o:=0) HS (rD 1 r_a) Z Z (getD_some (d:=[]) (ltN c41)) Z Z Mr Z (fJ dL Z (Fa.calls HS (Av.elem (rD 1 r_a) c41.1 c41.2) h43) (fun _ wd47 ⟨A44,c45,y46,h48,HS⟩=>⟨_,h48,(GO.Gr (el:=44) ([sV A44 t42 c45]) HS Z Z (fun _=>by kernel_rfl) Z fun b49 wd50 HS=>?_)⟩)))))
   replace HS:=HS.pk 3 [2,0,1] Z
   refine GO.dW (S:=Aa) (u:=62) HS Z Z Z U45 dS Z Z c54 Z fun A52 c53 y55 wd51 HS=>aS Z (nL (rN 3 Z (gW (i1 e1 (lR _) _ _ _ _ _ _ H (HS.pk 2 [0] Z)) Z)))
  exact gW (g1 K (lR _) _ _ _ _ _ _ H HS) Z
theorem Iz.calls {stack:List (List Af)} {list:List Af} {y_a:Nat→(Ty.slice 62 Aa).Lay} {y_b:Nat→Aa.Lay} {r1:List (List Af)} (HS:St w0 w (L)) (r_a:Av w0 L (Ty.slice 62 Aa) A_a c_a y_a stack) (r_b:Av w0 L Aa A_b c_b y_b list) (H:Iz.f K stack list=some r1) :
    Calls prog 52 #[sV A_a stack c_a,sV A_b list c_b] w (Iz.post w0 L r1):=by
  unfold Iz.f at H
  refine cG func52 Z ?_
  refine rN 3 Z ?_
  obtain ⟨t1,h2,H⟩:=bI H
  obtain ⟨t8,h9,H⟩:=bI H
  obtain ⟨c20,H⟩:=iN H
  refine rG (mV Z (fJ nU Z (Df.calls HS r_a h2) (fun _ wd6 ⟨A3,c4,y5,h7,HS⟩=>⟨_,h7,(mV Z (fJ dL Z (Fa.calls HS (rD 1 r_b) h9) (fun _ wd13 ⟨A10,c11,y12,h14,HS⟩=>⟨_,h14,(GO.Gr (el:=44) ([sV A10 t8 c11]) HS Z Z (fun _=>by kernel_rfl) Z fun b15 wd16 HS=>?_)⟩)))⟩)))
  replace HS:=HS.pk 3 [2,0,1] Z
  refine GO.dW (S:=Aa) (u:=62) HS Z Z Z U45 dS Z Z c20 Z fun A18 c19 y21 wd17 HS=>aS Z (nL (rN 2 Z (rG (mV Z (lS Z Z U45 Z (GO.gtr Z Z Z Z (nL ?_)))))))
  rcases iS H with ⟨c22,H⟩ | ⟨c22,H⟩
  ·
   refine nB Z (tF c22) (rN 3 Z ?_)
   obtain rfl:=sI H
   exact rT _ func52 Z Z ⟨_,_,_,Z,(HS.pk 2 [0] Z)⟩
  refine yB Z (tT c22) ?_
  obtain ⟨c23,H⟩:=iN H
  refine rG (mV Z (GO.slL (T:=(Ty.slice 62 Aa)) HS (ro 0 Z) Z Z Z U45 Sm c23.1 c23.2 Z (aS Z (nL (rN 2 Z ?_)))))
  replace HS:=HS.Xl (A':=(Ja A18 1 c19 1)) (c':=(c19 - 1)) (j:=0) (l:=1) (h:=(t1++[t8]).length) (m:=c19) Z (leN c23) (lR _) (Nat.le_trans (lR _) ((ro 0 Z) _ HS).1) (lR _) Z Z
  obtain rfl:=sI H
  exact rT _ func52 Z Z ⟨_,_,_,Z,(HS.pk 2 [0] Z)⟩
theorem Bf.calls {c1:List Af} {a1 t1:List (List Af)} {o1:ByteArray} {p1:Int} {h1:List (List Br)} {f1:List Ah} {n1 m1:Int} {e1:List Int} {q1 s1:Int} {i1:List Cc} {k1 g1:List Int} {y_a:Nat→Aa.Lay} {y_b:Nat→(Ty.slice 62 Aa).Lay} {y_c:Nat→(Ty.slice 62 Aa).Lay} {y_d:Nat→(Ty.slice 168 Az).Lay} {r1:List Af} {r2 r3:List (List Af)} {r4:Int} (HS:St w0 w (L)) (r_a:Av w0 L Aa A_a c_a y_a c1) (r_b:Av w0 L (Ty.slice 62 Aa) A_b c_b y_b a1) (r_c:Av w0 L (Ty.slice 62 Aa) A_c c_c y_c t1) (r_d:Av w0 L (Ty.slice 168 Az) A_d c_d y_d h1) (r_e:Av w0 L Au A_e c_e uu f1) (r_f:Av w0 L (Bi .i64) A_f c_f uu e1) (r_g:Av w0 L Ci A_g c_g uu i1) (r_h:Av w0 L (Bi .i64) A_h c_h uu k1) (r_i:Av w0 L (Bi .i64) A_i c_i uu g1) (H:Bf.f K c1 a1 t1 o1 p1 h1 f1 n1 m1 e1 q1 s1 i1 k1 g1=some (r1,r2,r3,r4)) :
    Calls prog 20 #[.agg [sV A_a c1 c_a,sV A_b a1 c_b,sV A_c t1 c_c].toArray,.agg [.string o1,I p1,sV A_d h1 c_d,sV A_e f1 c_e,I n1,I m1,sV A_f e1 c_f,I q1,I s1,sV A_g i1 c_g,sV A_h k1 c_h,sV A_i g1 c_i].toArray] w (Bf.post w0 L r1 r2 r3 r4):=by
  unfold Bf.f at H
  refine cG func20 Z ?_
  refine sQ (rG (bA HS Z fun b1 wd2 HS=>bA HS Z fun b3 wd4 HS=>GO.alloc HS Z Rs Z Z fun b5 wd6 HS=>aS Z (nL (rN 2 Z ?_))))
  obtain ⟨t16,h17,H⟩:=bI H
  rcases iS H with ⟨c20,H⟩ | ⟨c20,H⟩
  ·
   refine rG (lW 2 HS Z Eu (fJ Ww Z (Et.calls HS (rD 3 r_a) (rD 3 r_b) (rD 3 r_c) h17) (fun _ wd18 ⟨h19,HS⟩=>⟨_,h19,(pS 2 Z (kN 12 Z (congrArg Bool.not (Bt c20)) (oF Z (oF Z (oF Z (GO.Ii Z Z Z Z Z (nL (rN 2 Z (rG (GO.Gj (.agg [.slice none 0 0,.slice none 0 0,.slice none 0 0].toArray) Z Z (fun _=>by kernel_rfl) Z (sW 0 HS Z Eu Z fun wd644 HS=>aS Z ?_)))))))))))⟩)))
   refine nL ?_
   replace HS:=HS.Da Aa 62 (fun _=>Bh)
   replace HS:=HS.Da (Ty.slice 62 Aa) 44 (fun _=>⟨none,0,(fun _=>Bh)⟩)
   replace HS:=HS.Da (Ty.slice 62 Aa) 44 (fun _=>⟨none,0,(fun _=>Bh)⟩)
   obtain ⟨rfl,rfl,rfl,rfl⟩:=Kc H
   exact G.Lb _ _ func20 Z (Iq.Ji (j:=3) (vs:=[.slice none 0 0,.slice none 0 0,.slice none 0 0]) HS Z Z Z Eu) Z ⟨_,_,_,_,_,_,_,_,_,Z,(HS.pk 6 [2,1,0] Z)⟩
  obtain ⟨t21,h22,H⟩:=bI H
  refine rG (lW 2 HS Z Eu (fJ Ww Z (Et.calls HS (rD 3 r_a) (rD 3 r_b) (rD 3 r_c) h17) (fun _ wd18 ⟨h19,HS⟩=>⟨_,h19,(pS 2 Z (kN 12 Z (congrArg Bool.not c20) (oN Z (lW 1 HS Z Mf (bK (oN Z (fJ cK Z (Co.calls HS (rD 3 r_d) (rD 3 r_e) (rD 3 r_f) (rD 3 r_g) (rD 3 r_h) (rD 3 r_i) h22) (fun _ wd23 ⟨h24,HS⟩=>⟨_,h24,(bK (oN Z (GO.not Z Z Z (bK (GO.Ki Z Z Z Z Z ?_)))))⟩))))))))⟩)))
  refine nL ?_
  rcases iS H with ⟨c25,H⟩ | ⟨c25,H⟩
  ·
   refine yB Z (congrArg Bool.not (Bt c25)) (sQ (rG (GO.Gj (.agg [.slice none 0 0,.slice none 0 0,.slice none 0 0].toArray) Z Z (fun _=>by kernel_rfl) Z (sW 0 HS Z Eu Z fun wd643 HS=>aS Z (nL ?_)))))
   replace HS:=HS.Da Aa 62 (fun _=>Bh)
   replace HS:=HS.Da (Ty.slice 62 Aa) 44 (fun _=>⟨none,0,(fun _=>Bh)⟩)
   replace HS:=HS.Da (Ty.slice 62 Aa) 44 (fun _=>⟨none,0,(fun _=>Bh)⟩)
   obtain ⟨rfl,rfl,rfl,rfl⟩:=Kc H
   exact G.Lb _ _ func20 Z (Iq.Ji (j:=3) (vs:=[.slice none 0 0,.slice none 0 0,.slice none 0 0]) HS Z Z Z Eu) Z ⟨_,_,_,_,_,_,_,_,_,Z,(HS.pk 6 [2,1,0] Z)⟩
  refine nB Z (congrArg Bool.not c25) (rN 3 Z ?_)
  refine G.Qj (fun v2 a3=>?_)
  have s2:∀ i2,i2≤K→∀ (x36:Bool) (w:World),Bf.j1 K i2 c1 a1 o1 p1 h1 f1 n1 m1 e1 q1 s1 i1 k1 g1 x36=some (r1,r2,r3,r4)→St w0 w (Box b1 47 [sV A_a c1 c_a,sV A_b a1 c_b,sV A_c t1 c_c]::Box b3 62 [.string o1,I p1,sV A_d h1 c_d,sV A_e f1 c_e,I n1,I m1,sV A_f e1 c_f,I q1,I s1,sV A_g i1 c_g,sV A_h k1 c_h,sV A_i g1 c_i]::Box b5 47 [.slice none 0 0,.slice none 0 0,.slice none 0 0]::L)→G prog 20 89 [(2,pT b1),(3,pT b3),(4,pT b5),(29,.bool x36)] v2 w (Bf.post w0 L r1 r2 r3 r4):=by
   refine jp (fun _ w H _=>by rw [Bf.j1] at H; cases H) fun g2 i3 x36 w H HS=>?_
   rw [Bf.j1] at H
   subst a3
   rcases iE H with ⟨c37,H⟩ | ⟨c37,H⟩
   ·
    refine yB Z c37 (sQ (rG (GO.Gj (.agg [.slice none 0 0,.slice none 0 0,.slice none 0 0].toArray) Z Z (fun _=>by kernel_rfl) Z (sW 2 HS Z Eu Z fun wd38 HS=>aS Z (nL ?_)))))
    replace HS:=HS.Da Aa 62 (fun _=>Bh)
    replace HS:=HS.Da (Ty.slice 62 Aa) 44 (fun _=>⟨none,0,(fun _=>Bh)⟩)
    replace HS:=HS.Da (Ty.slice 62 Aa) 44 (fun _=>⟨none,0,(fun _=>Bh)⟩)
    obtain ⟨rfl,rfl,rfl,rfl⟩:=Kc H
    exact G.Lb _ _ func20 Z (Iq.Ji (j:=5) (vs:=[.slice none 0 0,.slice none 0 0,.slice none 0 0]) HS Z Z Z Eu) Z ⟨_,_,_,_,_,_,_,_,_,Z,(HS.pk 6 [2,1,0] Z)⟩
   refine nB Z (Bt c37) (rN 2 Z (rG (GO.Gr (el:=62) ([]) HS Z Z (fun _=>by kernel_rfl) Z fun b39 wd40 HS=>?_)))
   replace HS:=HS.aH (T:=Aa) (j:=0) Z (fun _=>Bh)
   refine GO.Oj (t:=31) (m:=([]:List Af).length) (c':=0) Z Z Z (aS Z (nL (rN 7 Z ?_)))
   refine G.name (fun e3 d3=>?_)
   have x2:∀ h2,h2≤g2→∀ (A204:Option Addr) (c205:Nat) (u1:List Af) (y207:Nat→Aa.Lay) (y1:Bool) (d1:Int) (w:World),Bf.l2 K h2 c1 a1 o1 p1 h1 f1 n1 m1 e1 q1 s1 i1 k1 g1 u1 y1 d1=some (r1,r2,r3,r4)→St w0 w (Box b1 47 [sV A_a c1 c_a,sV A_b a1 c_b,sV A_c t1 c_c]::Box b3 62 [.string o1,I p1,sV A_d h1 c_d,sV A_e f1 c_e,I n1,I m1,sV A_f e1 c_f,I q1,I s1,sV A_g i1 c_g,sV A_h k1 c_h,sV A_i g1 c_i]::Box b5 47 [.slice none 0 0,.slice none 0 0,.slice none 0 0]::Own Aa 62 A204 c205 y207 u1::L)→G prog 20 89 [(2,pT b1),(3,pT b3),(4,pT b5),(6,sV A204 u1 c205),(7,.bool y1),(8,I d1)] e3 w (Bf.post w0 L r1 r2 r3 r4):=by
    refine lp (fun _ _ _ _ _ _ w H _=>by rw [Bf.l2] at H; cases H) fun v1 j3 d2 A204 c205 u1 y207 y1 d1 w H HS=>?_
    rw [Bf.l2] at H
    subst d3
    refine rN 2 Z (rG (mV Z (fL b1 0 Ju Z (lB 0 HS Z Mr Z (lS Z Z U44 Z (GO.lss Z Z Z Z (nL ?_)))))))
    rcases iS H with ⟨c424,H⟩ | ⟨c424,H⟩
    ·
     refine nB Z (tF c424) (rN 4 Z ?_)
     refine G.Qj (fun y2 u2=>?_)
     have p2:∀ m2,m2≤v1→∀ (A590:Option Addr) (c591:Nat) (x1:List Af) (y593:Nat→Aa.Lay) (w:World),Bf.j9 K m2 c1 a1 x1=some (r1,r2,r3,r4)→St w0 w (Box b1 47 [sV A_a c1 c_a,sV A_b a1 c_b,sV A_c t1 c_c]::Box b5 47 [.slice none 0 0,.slice none 0 0,.slice none 0 0]::Own Aa 62 A590 c591 y593 x1::L)→G prog 20 89 [(2,pT b1),(4,pT b5),(6,sV A590 x1 c591)] y2 w (Bf.post w0 L r1 r2 r3 r4):=by
      refine jp (fun _ _ _ _ w H _=>by rw [Bf.j9] at H; cases H) fun h3 g3 A590 c591 x1 y593 w H HS=>?_
      rw [Bf.j9] at H
      subst u2
      refine sQ ?_
      obtain ⟨t594,h595,H⟩:=bI H
      refine rG (mV Z (fL b1 1 Mq Z (lB 0 HS Z Nr Z (fL b1 0 Ju Z (lB 0 HS Z Mr Z (fJ gP Z (Iz.calls HS (rD 3 r_b) (rD 3 r_a) h595) (fun _ wd599 ⟨A596,c597,y598,h600,HS⟩=>⟨_,h600,(GO.Gj (.agg [sV A590 x1 c591,sV A596 t594 c597,.slice none 0 0].toArray) Z Z (fun _=>by kernel_rfl) Z (sW 2 HS Z Eu Z fun wd601 HS=>aS Z (nL ?_)))⟩)))))))
      replace HS:=HS.Da (Ty.slice 62 Aa) 44 (fun _=>⟨none,0,(fun _=>Bh)⟩)
      obtain ⟨rfl,rfl,rfl,rfl⟩:=Kc H
      exact G.Lb _ _ func20 Z (Iq.Ji (j:=3) (vs:=[sV A590 x1 c591,sV A596 t594 c597,.slice none 0 0]) HS Z Z Z Eu) Z ⟨_,_,_,_,_,_,_,_,_,Z,(HS.pk 5 [4,1,0] Z)⟩
     rcases iE H with ⟨c602,H⟩ | ⟨c602,H⟩
     ·
      refine nB Z (congrArg Bool.not c602) (G.skip (gW (p2 v1 (lR _) _ _ _ _ _ H (HS.pk 4 [0,2,3] Z)) Z))
     refine yB Z (congrArg Bool.not (Bt c602)) ?_
     obtain ⟨t603,t604,t605,t606,t607,t608,t609,t610,t611,t612,t613,t614,h615,H⟩:=M3 H
     obtain ⟨c636,H⟩:=iN H
     refine rG (mV Z (lW 1 HS Z Mf (fJ iP Z (Ee.calls HS (rD 4 r_d) (rD 4 r_e) (rD 4 r_f) (rD 4 r_g) (rD 4 r_h) (rD 4 r_i) h615) (fun _ wd629 ⟨A616,c617,y618,A619,c620,A621,c622,A623,c624,A625,c626,A627,c628,h630,HS⟩=>⟨_,h630,(GO.Gr (el:=62) ([.string t603,I t604,sV A616 t605 c617,sV A619 t606 c620,I t607,I t608,sV A621 t609 c622,I t610,I t611,sV A623 t612 c624,sV A625 t613 c626,sV A627 t614 c628]) HS Z Z (fun _=>by kernel_rfl) Z fun b631 wd632 HS=>?_)⟩))))
     replace HS:=HS.pk 11 [6,5,4,3,2,1,10,0,7,8,9] Z
     replace HS:=Np (Name:=t603) (Kind:=t604) (Al:=t607) (Ao:=t608) (Am:=t610) (Aj:=t611) HS
     replace HS:=HS.pk 6 [1,2,0,3,4,5] Z
     refine GO.jK (T:=Aa) ((),(),⟨A616,c617,y618⟩,⟨A619,c620,uu⟩,(),(),⟨A621,c622,uu⟩,(),(),⟨A623,c624,uu⟩,⟨A625,c626,uu⟩,⟨A627,c628,uu⟩) (⟨t603,t604,t605,t606,t607,t608,t609,t610,t611,t612,t613,t614⟩:Af) HS Z Z Z U44 T9 Z Z Z c636 Z fun A634 c635 y637 wd633 HS=>aS Z (nL (gW (p2 v1 (lR _) _ _ _ _ _ H (HS.pk 5 [2,4,0] Z)) Z))
    refine yB Z (tT c424) (rN 5 Z ?_)
    refine G.Qj (fun z2 c3=>?_)
    have f2:∀ q2,q2≤v1→∀ (x433:Bool) (w:World),Bf.j7 K q2 c1 a1 o1 p1 h1 f1 n1 m1 e1 q1 s1 i1 k1 g1 u1 y1 d1 x433=some (r1,r2,r3,r4)→St w0 w (Box b1 47 [sV A_a c1 c_a,sV A_b a1 c_b,sV A_c t1 c_c]::Box b3 62 [.string o1,I p1,sV A_d h1 c_d,sV A_e f1 c_e,I n1,I m1,sV A_f e1 c_f,I q1,I s1,sV A_g i1 c_g,sV A_h k1 c_h,sV A_i g1 c_i]::Box b5 47 [.slice none 0 0,.slice none 0 0,.slice none 0 0]::Own Aa 62 A204 c205 y207 u1::L)→G prog 20 89 [(2,pT b1),(3,pT b3),(4,pT b5),(6,sV A204 u1 c205),(7,.bool y1),(8,I d1),(51,.bool x433)] z2 w (Bf.post w0 L r1 r2 r3 r4):=by
     refine jp (fun _ w H _=>by rw [Bf.j7] at H; cases H) fun b2 n2 x433 w H HS=>?_
     rw [Bf.j7] at H
     subst c3
     refine G.Qj (fun f3 t2=>?_)
     have e2:∀ c2,c2≤b2→∀ (A470:Option Addr) (c471:Nat) (z1:List Af) (y473:Nat→Aa.Lay) (a2:Bool) (w:World),Bf.j8 K c2 c1 a1 o1 p1 h1 f1 n1 m1 e1 q1 s1 i1 k1 g1 d1 z1 a2=some (r1,r2,r3,r4)→St w0 w (Box b1 47 [sV A_a c1 c_a,sV A_b a1 c_b,sV A_c t1 c_c]::Box b3 62 [.string o1,I p1,sV A_d h1 c_d,sV A_e f1 c_e,I n1,I m1,sV A_f e1 c_f,I q1,I s1,sV A_g i1 c_g,sV A_h k1 c_h,sV A_i g1 c_i]::Box b5 47 [.slice none 0 0,.slice none 0 0,.slice none 0 0]::Own Aa 62 A470 c471 y473 z1::L)→G prog 20 89 [(2,pT b1),(3,pT b3),(4,pT b5),(6,sV A470 z1 c471),(7,.bool a2),(8,I d1)] f3 w (Bf.post w0 L r1 r2 r3 r4):=by
      refine jp (fun _ _ _ _ _ w H _=>by rw [Bf.j8] at H; cases H) fun o2 k2 A470 c471 z1 y473 a2 w H HS=>?_
      rw [Bf.j8] at H
      subst t2
      refine sQ ?_
      obtain ⟨c475,H⟩:=iN H
      obtain ⟨e476,h477,H⟩:=Cr H
      refine G.lex mixed [0,2,6,1,3,4,5,7,8] (by kernel_rfl) ?_
      replace HS:=HS.drew
      refine qL Z Z (fun _ _ g=>fL b1 0 Ju Z g) Z (GX.ps 1 Z (qL Z Z (fun _ _ g=>fL b3 0 Jz Z g) Z (GX.l1 Z Z Z (fun _ g=>lB 0 HS Z Mr Z g) Z (qL Z Z (fun _ _ g=>iX Z U44 J7 (rk (rD 4 r_a) HS) c475 g) Z (qL Z Z (fun _ _ g=>GO.fld (ea A_a (d1.toNat * 12)) Z Z Jz Z Z g) Z (GX.l1 Z Z Z (fun _ g=>GO.Gb (T:=Aa) (n:=d1.toNat) (o:=0) HS (rD 4 r_a) Z Z (Ba (ltN c475) h477) Z Z na9 Z g) Z (GX.l1 Z Z Z (fun _ g=>lB 1 HS Z na9 Z g) Z (qL Z Z (fun _ _ g=>GO.qW Z Z Z Z g) Z (GX.nil ?_)))))))))
      rcases iE H with ⟨c478,H⟩ | ⟨c478,H⟩
      ·
       refine nB Z (congrArg Bool.not c478) (rN 4 Z (gW (d2 o2 (Nat.le_trans (Nat.le_of_succ_le k2) (Nat.le_of_succ_le n2)) _ _ _ _ _ _ _ H HS) Z))
      refine yB Z (congrArg Bool.not (Bt c478)) ?_
      obtain ⟨t479,t480,t481,t482,t483,t484,t485,t486,t487,t488,t489,t490,h491,H⟩:=M3 H
      obtain ⟨c512,H⟩:=iN H
      refine rG (mV Z (fL b1 0 Ju Z (lB 0 HS Z Mr Z (mV Z (iX Z U44 J7 (rk (rD 4 r_a) HS) c475 (GO.J4 (T:=Aa) (n:=d1.toNat) HS (rD 4 r_a) Z Z (Ba (ltN c475) h477) Mf Z (fJ iP Z (Ee.calls HS (Av.fld (rD 4 r_a) (Ba (ltN c475) h477) (fun _ h=>h.2.2.1)) (Av.fld (rD 4 r_a) (Ba (ltN c475) h477) (fun _ h=>h.2.2.2.1)) (Av.fld (rD 4 r_a) (Ba (ltN c475) h477) (fun _ h=>h.2.2.2.2.2.2.1)) (Av.fld (rD 4 r_a) (Ba (ltN c475) h477) (fun _ h=>h.2.2.2.2.2.2.2.2.2.1)) (Av.fld (rD 4 r_a) (Ba (ltN c475) h477) (fun _ h=>h.2.2.2.2.2.2.2.2.2.2.1)) (Av.fld (rD 4 r_a) (Ba (ltN c475) h477) (fun _ h=>h.2.2.2.2.2.2.2.2.2.2.2)) h491) (fun _ wd505 ⟨A492,c493,y494,A495,c496,A497,c498,A499,c500,A501,c502,A503,c504,h506,HS⟩=>⟨_,h506,(GO.Gr (el:=62) ([.string t479,I t480,sV A492 t481 c493,sV A495 t482 c496,I t483,I t484,sV A497 t485 c498,I t486,I t487,sV A499 t488 c500,sV A501 t489 c502,sV A503 t490 c504]) HS Z Z (fun _=>by kernel_rfl) Z fun b507 wd508 HS=>?_)⟩))))))))
      replace HS:=HS.pk 11 [6,5,4,3,2,1,10,0,7,8,9] Z
      replace HS:=Np (Name:=t479) (Kind:=t480) (Al:=t483) (Ao:=t484) (Am:=t486) (Aj:=t487) HS
      replace HS:=HS.pk 6 [1,2,0,3,4,5] Z
      refine GO.jK (T:=Aa) ((),(),⟨A492,c493,y494⟩,⟨A495,c496,uu⟩,(),(),⟨A497,c498,uu⟩,(),(),⟨A499,c500,uu⟩,⟨A501,c502,uu⟩,⟨A503,c504,uu⟩) (⟨t479,t480,t481,t482,t483,t484,t485,t486,t487,t488,t489,t490⟩:Af) HS Z Z Z U44 T9 Z Z Z c512 Z fun A510 c511 y513 wd509 HS=>aS Z (nL (rN 3 Z (gW (d2 o2 (Nat.le_trans (Nat.le_of_succ_le k2) (Nat.le_of_succ_le n2)) _ _ _ _ _ _ _ H (HS.pk 5 [2,3,4,0] Z)) Z)))
     rcases iS H with ⟨c514,H⟩ | ⟨c514,H⟩
     ·
      refine nB Z (Bt c514) (G.skip (gW (e2 b2 (lR _) _ _ _ _ _ _ H HS) Z))
     refine yB Z c514 (sQ ?_)
     obtain ⟨t515,t516,t517,t518,t519,t520,t521,t522,t523,t524,t525,t526,h527,H⟩:=M3 H
     obtain ⟨c548,H⟩:=iN H
     refine rG (mV Z (lW 1 HS Z Mf (fJ iP Z (Ee.calls HS (rD 4 r_d) (rD 4 r_e) (rD 4 r_f) (rD 4 r_g) (rD 4 r_h) (rD 4 r_i) h527) (fun _ wd541 ⟨A528,c529,y530,A531,c532,A533,c534,A535,c536,A537,c538,A539,c540,h542,HS⟩=>⟨_,h542,(GO.Gr (el:=62) ([.string t515,I t516,sV A528 t517 c529,sV A531 t518 c532,I t519,I t520,sV A533 t521 c534,I t522,I t523,sV A535 t524 c536,sV A537 t525 c538,sV A539 t526 c540]) HS Z Z (fun _=>by kernel_rfl) Z fun b543 wd544 HS=>?_)⟩))))
     replace HS:=HS.pk 11 [6,5,4,3,2,1,10,0,7,8,9] Z
     replace HS:=Np (Name:=t515) (Kind:=t516) (Al:=t519) (Ao:=t520) (Am:=t522) (Aj:=t523) HS
     replace HS:=HS.pk 6 [1,2,0,3,4,5] Z
     refine GO.jK (T:=Aa) ((),(),⟨A528,c529,y530⟩,⟨A531,c532,uu⟩,(),(),⟨A533,c534,uu⟩,(),(),⟨A535,c536,uu⟩,⟨A537,c538,uu⟩,⟨A539,c540,uu⟩) (⟨t515,t516,t517,t518,t519,t520,t521,t522,t523,t524,t525,t526⟩:Af) HS Z Z Z U44 T9 Z Z Z c548 Z fun A546 c547 y549 wd545 HS=>aS Z (nL (rN 1 Z (gW (e2 b2 (lR _) _ _ _ _ _ _ H (HS.pk 5 [2,3,4,0] Z)) Z)))
    rcases iE H with ⟨c550,H⟩ | ⟨c550,H⟩
    ·
     refine G.lex mixed [0,1,2,3,5,9,4,6,7,8,10,11,12] (by kernel_rfl) ?_
     replace HS:=HS.drew
     refine GX.ps 2 Z (qL Z Z (fun _ _ g=>mV Z (kN 41 Z (congrArg Bool.not c550) g)) Z (qL Z Z (fun _ _ g=>oF Z g) Z (qL Z Z (fun _ _ g=>oF Z g) Z (qL Z Z (fun _ _ g=>oF Z g) Z (GX.l1 Z Z Z (fun _ g=>oF Z g) Z (qL Z Z (fun _ _ g=>oF Z g) Z (qL Z Z (fun _ _ g=>oF Z g) Z (GX.l1 Z Z Z (fun _ g=>oF Z g) Z (GX.l1 Z Z Z (fun _ g=>oF Z g) Z (qL Z Z (fun _ _ g=>oF Z g) Z (GX.ps 1 Z (GX.nil (gW (f2 v1 (lR _) _ _ H HS) Z)))))))))))))
    obtain ⟨c551,H⟩:=iN H
    obtain ⟨e552,h553,H⟩:=Cr H
    refine G.lex mixed [0,1,2,3,5,9,4,6,7,8,10,11,12] (by kernel_rfl) ?_
    replace HS:=HS.drew
    refine GX.ps 2 Z (qL Z Z (fun _ _ g=>mV Z (kN 41 Z (congrArg Bool.not (Bt c550)) g)) Z (qL Z Z (fun _ _ g=>oN Z (fL b1 0 Ju Z (bK g))) Z (qL Z Z (fun _ _ g=>oN Z (mV Z (bK g))) Z (qL Z Z (fun _ _ g=>oN Z (fL b3 0 Jz Z (bK g))) Z (GX.l1 Z Z Z (fun _ g=>oN Z (lB 0 HS Z Mr Z (bK g))) Z (qL Z Z (fun _ _ g=>oN Z (iX Z U44 J7 (rk (rD 4 r_a) HS) c551 (bK g))) Z (qL Z Z (fun _ _ g=>oN Z (GO.fld (ea A_a (d1.toNat * 12)) Z Z Jz Z Z (bK g))) Z (GX.l1 Z Z Z (fun _ g=>oN Z (GO.Gb (T:=Aa) (n:=d1.toNat) (o:=0) HS (rD 4 r_a) Z Z (Ba (ltN c551) h553) Z Z na9 Z (bK g))) Z (GX.l1 Z Z Z (fun _ g=>oN Z (lB 1 HS Z na9 Z (bK g))) Z (qL Z Z (fun _ _ g=>oN Z (GO.vL Z Z Z Z (bK g))) Z (GX.ps 1 Z (GX.nil (gW (f2 v1 (lR _) _ _ H HS) Z)))))))))))))
   exact gW (x2 g2 (lR _) _ _ _ _ _ _ _ H (HS.pk 4 [1,2,3,0] Z)) Z
  obtain ⟨t638,h639,H⟩:=bI H
  rcases iS H with ⟨c642,H⟩ | ⟨c642,H⟩
  ·
   refine rG (fL b1 0 Ju Z (lB 2 HS Z Mr Z (fL b3 0 Jz Z (lB 1 HS Z na9 Z (fJ lG Z (Eh.calls HS (rD 3 r_a) h639) (fun _ wd640 ⟨h641,HS⟩=>⟨_,h641,(pS 2 Z (kN 24 Z (tF c642) (oF Z (oF Z (oF Z (oF Z (GO.Ki Z Z Z Z Z (nL (gW (s2 K (lR _) _ _ H (HS.pk 3 [2,1,0] Z)) Z)))))))))⟩))))))
  refine rG (fL b1 0 Ju Z (lB 2 HS Z Mr Z (fL b3 0 Jz Z (lB 1 HS Z na9 Z (fJ lG Z (Eh.calls HS (rD 3 r_a) h639) (fun _ wd640 ⟨h641,HS⟩=>⟨_,h641,(pS 2 Z (kN 24 Z (tT c642) (oN Z (fL b1 0 Ju Z (bK (oN Z (lB 2 HS Z Mr Z (bK (oN Z ?_)))))))))⟩))))))
  refine lS Z Z U44 Z (bK (oN Z (GO.eql Z Z Z Z (bK (GO.Ii Z Z Z Z Z (nL (gW (s2 K (lR _) _ _ H (HS.pk 3 [2,1,0] Z)) Z)))))))
theorem Lc.calls {n1:List Af} {m1 o1:List (List Af)} {name:ByteArray} {y_a:Nat→Aa.Lay} {y_b:Nat→(Ty.slice 62 Aa).Lay} {y_c:Nat→(Ty.slice 62 Aa).Lay} {r1:List Af} {r2 r3:List (List Af)} {r4:Int} (HS:St w0 w (L)) (r_a:Av w0 L Aa A_a c_a y_a n1) (r_b:Av w0 L (Ty.slice 62 Aa) A_b c_b y_b m1) (r_c:Av w0 L (Ty.slice 62 Aa) A_c c_c y_c o1) (H:Lc.f K n1 m1 o1 name=some (r1,r2,r3,r4)) :
    Calls prog 21 #[.agg [sV A_a n1 c_a,sV A_b m1 c_b,sV A_c o1 c_c].toArray,.string name] w (Lc.post w0 L r1 r2 r3 r4):=by
  unfold Lc.f at H
  refine cG func21 Z ?_
  refine sQ (rG (bA HS Z fun b1 wd2 HS=>GO.alloc HS Z Rs Z Z fun b3 wd4 HS=>aS Z (nL (rN 2 Z ?_))))
  obtain ⟨t5,h6,H⟩:=bI H
  refine rG (lW 1 HS Z Eu (fJ Ww Z (Et.calls HS (rD 2 r_a) (rD 2 r_b) (rD 2 r_c) h6) (fun _ wd7 ⟨h8,HS⟩=>⟨_,h8,(GO.not Z Z Z (nL ?_))⟩)))
  rcases iS H with ⟨c9,H⟩ | ⟨c9,H⟩
  ·
   refine yB Z (congrArg Bool.not (Bt c9)) (sQ (rG (GO.Gj (.agg [.slice none 0 0,.slice none 0 0,.slice none 0 0].toArray) Z Z (fun _=>by kernel_rfl) Z (sW 0 HS Z Eu Z fun wd41 HS=>aS Z (nL ?_)))))
   replace HS:=HS.Da Aa 62 (fun _=>Bh)
   replace HS:=HS.Da (Ty.slice 62 Aa) 44 (fun _=>⟨none,0,(fun _=>Bh)⟩)
   replace HS:=HS.Da (Ty.slice 62 Aa) 44 (fun _=>⟨none,0,(fun _=>Bh)⟩)
   obtain ⟨rfl,rfl,rfl,rfl⟩:=Kc H
   exact G.Lb _ _ func21 Z (Iq.Ji (j:=3) (vs:=[.slice none 0 0,.slice none 0 0,.slice none 0 0]) HS Z Z Z Eu) Z ⟨_,_,_,_,_,_,_,_,_,Z,(HS.pk 5 [2,1,0] Z)⟩
  refine nB Z (congrArg Bool.not c9) (rN 2 Z ?_)
  obtain ⟨t10,h11,H⟩:=bI H
  refine rG (fL b1 0 Ju Z (lB 1 HS Z Mr Z (mV Z (fJ lG Z (Eh.calls HS (rD 2 r_a) h11) (fun _ wd12 ⟨h13,HS⟩=>⟨_,h13,(aS Z (nL (rN 3 Z ?_)))⟩)))))
  rcases iE H with ⟨c14,H⟩ | ⟨c14,H⟩
  ·
   refine yB Z (tT c14) (sQ (rG (GO.Gj (.agg [.slice none 0 0,.slice none 0 0,.slice none 0 0].toArray) Z Z (fun _=>by kernel_rfl) Z (sW 0 HS Z Eu Z fun wd15 HS=>aS Z (nL ?_)))))
   replace HS:=HS.Da Aa 62 (fun _=>Bh)
   replace HS:=HS.Da (Ty.slice 62 Aa) 44 (fun _=>⟨none,0,(fun _=>Bh)⟩)
   replace HS:=HS.Da (Ty.slice 62 Aa) 44 (fun _=>⟨none,0,(fun _=>Bh)⟩)
   obtain ⟨rfl,rfl,rfl,rfl⟩:=Kc H
   exact G.Lb _ _ func21 Z (Iq.Ji (j:=3) (vs:=[.slice none 0 0,.slice none 0 0,.slice none 0 0]) HS Z Z Z Eu) Z ⟨_,_,_,_,_,_,_,_,_,Z,(HS.pk 5 [2,1,0] Z)⟩
  refine nB Z (tF c14) (rN 2 Z ?_)
  obtain ⟨t16,h17,H⟩:=bI H
  refine rG (fL b1 0 Ju Z (lB 1 HS Z Mr Z (fJ dL Z (Fa.calls HS (rD 2 r_a) h17) (fun _ wd21 ⟨A18,c19,y20,h22,HS⟩=>⟨_,h22,(aS Z (nL (sQ ?_)))⟩))))
  obtain ⟨c23,H⟩:=iN H
  obtain ⟨c24,H⟩:=iN H
  obtain ⟨c26,H⟩:=iN H
  have h27:=Tx (xs:=allRows t16.length) c26 (Nat.le_trans (leN c24) (Nat.le_of_eq (I6 _).symm))
  obtain ⟨t28,h29,H⟩:=bI H
  refine G.Rp mixed (by decide) (fun b a w=>∃ (A30:Option Addr) (c31:Nat) (y32:Nat→(Ty.slice 62 Aa).Lay) (h1:Cn) (k1:Cn) (q1:Cn) (p1:Cn),RS 36 [(2,pT b1),(4,pT b3),(6,I t10),(7,sV A18 t16 c19)] [rv 22 (sV A18 t16 c19),rv 23 (I t10),rv 24 (sV (Ja A18 0 c19 12) ((t16.take t10.toNat).drop 0) (c19 - 0)),rv 25 (sV A18 t16 c19),rv 26 (I t10),rv 27 (I (w64 (t10+1))),rv 28 (sV (Ja A18 ((w64 (t10+1)).toNat) c19 12) ((t16.take t16.length).drop ((w64 (t10+1)).toNat)) (c19 - (w64 (t10+1)).toNat)),rv 29 (sV (Ja A18 0 c19 12) (((over (allRows t16.length) t10.toNat ((allRows t16.length).drop ((w64 (t10+1)).toNat))).take (t10.toNat+((allRows t16.length).length - (w64 (t10+1)).toNat))).drop 0) (c19 - 0)),rv 30 (.pointer (some ⟨b1,1,none⟩)),rv 31 (sV A_b m1 c_b),rv 32 (pT b1),rv 33 (sV A_a n1 c_a),rv 34 (sV A30 t28 c31),rv 35 (.agg [sV (Ja A18 0 c19 12) (((over (allRows t16.length) t10.toNat ((allRows t16.length).drop ((w64 (t10+1)).toNat))).take (t10.toNat+((allRows t16.length).length - (w64 (t10+1)).toNat))).drop 0) (c19 - 0),sV A30 t28 c31,.slice none 0 0].toArray),none,rv 5 (I 0)] b a∧St w0 w (h1::k1::Box b1 47 [sV A_a n1 c_a,sV A_b m1 c_b,sV A_c o1 c_c]::q1::p1::L)∧(b 7=false→h1=Own Aa 62 A18 c19 y20 t16)∧(b 7=true→h1=Own (TIx Aa y20 t16 Bj Bh) 62 A18 c19 uu (over (allRows t16.length) t10.toNat ((allRows t16.length).drop ((w64 (t10+1)).toNat))))∧(b 14=false→k1=Box b3 47 [.slice none 0 0,.slice none 0 0,.slice none 0 0])∧(b 14=true→k1=Box b3 47 [sV (Ja A18 0 c19 12) (((over (allRows t16.length) t10.toNat ((allRows t16.length).drop ((w64 (t10+1)).toNat))).take (t10.toNat+((allRows t16.length).length - (w64 (t10+1)).toNat))).drop 0) (c19 - 0),sV A30 t28 c31,.slice none 0 0])∧(b 7=true→q1=Q7 Aa y20 t16)∧(b 12=true→p1=Own (Ty.slice 62 Aa) 44 A30 c31 y32 t28)) ?_ ?_ ?_
  · exact fun a hs=>⟨none,0,(fun _=>⟨none,0,(fun _=>Bh)⟩),Own Aa 62 A18 c19 y20 t16,Box b3 47 [.slice none 0 0,.slice none 0 0,.slice none 0 0],Emp,Emp,hs.init Z,(HS.drew.emp.emp.pk 5 [2,3,4,1,0] Z),fun _=>Z,fun h=>Bool.noConfusion h,fun _=>Z,fun h=>Bool.noConfusion h,fun h=>Bool.noConfusion h,fun h=>Bool.noConfusion h⟩
  ·
   intro j b a w hj
   refine exI fun A30=>exI fun c31=>exI fun y32=>exI fun h1=>exI fun k1=>exI fun q1=>exI fun p1=>anI fun hs=>fun hM q=>?_
   have HS:=hM.1
   match j,hj with
   | 0,_ =>
    refine hs.at q [] [] (mV Z (hs.fin q Z fun _ hs=>⟨_,_,_,_,_,_,_,hs,hM⟩))
   | 1,_ =>
    refine hs.at q [] [] (mV Z (hs.fin q Z fun _ hs=>⟨_,_,_,_,_,_,_,hs,hM⟩))
   | 2,_ =>
    refine (anI fun HS=>anI fun a1=>anI fun f1=>anI fun e1=>anI fun g1=>anI fun c1=>fun d1=>?_) hM
    have d7:=q.off 7
    obtain rfl:=a1 d7
    refine hs.at q [0,1] [] (GO.slH (T:=Aa) HS (ro 0 Z) Z Z Z U44 J7 c23.1 c23.2 Z (hs.fin q Z fun _ hs=>⟨A30,c31,y32,_,_,_,_,hs,HS,a1,f1,e1,g1,c1,d1⟩))
   | 3,_ =>
    refine hs.at q [] [] (mV Z (hs.fin q Z fun _ hs=>⟨_,_,_,_,_,_,_,hs,hM⟩))
   | 4,_ =>
    refine hs.at q [] [] (mV Z (hs.fin q Z fun _ hs=>⟨_,_,_,_,_,_,_,hs,hM⟩))
   | 5,_ =>
    refine hs.at q [4] [] (GO.add Z Z Z Z (hs.fin q Z fun _ hs=>⟨_,_,_,_,_,_,_,hs,hM⟩))
   | 6,_ =>
    refine (anI fun HS=>anI fun a1=>anI fun f1=>anI fun e1=>anI fun g1=>anI fun c1=>fun d1=>?_) hM
    have d7:=q.off 7
    obtain rfl:=a1 d7
    refine hs.at q [3,5] [] (GO.slL (T:=Aa) HS (ro 0 Z) Z Z Z U44 J7 c24.1 c24.2 Z (hs.fin q Z fun _ hs=>⟨A30,c31,y32,_,_,_,_,hs,HS,a1,f1,e1,g1,c1,d1⟩))
   | 7,_ =>
    refine (anI fun HS=>anI fun a1=>anI fun f1=>anI fun e1=>anI fun g1=>anI fun c1=>fun d1=>?_) hM
    obtain rfl:=a1 q.hb
    refine hs.at q [2,6] [] ?_
    replace HS:=HS.mQ Bj Bh
    refine GO.fH (T:=(TIx Aa y20 t16 Bj Bh)) (j:=0) (i1:=t10.toNat) (l1:=(w64 (t10+1)).toNat) HS Z Bw (fun _ _=>Z) Z Z Z (by rw [List.drop_zero,List.length_take]; exact Nat.min_eq_left (leN c23)) (by rw [List.length_drop,List.take_length,I6]) U44 T9 c26 (Nat.le_trans (leN c24) (Nat.le_of_eq (I6 _).symm)) Z fun wd25 HS=>hs.fin q Z fun _ hs=>⟨A30,c31,y32,Own (TIx Aa y20 t16 Bj Bh) 62 A18 c19 uu (over (allRows t16.length) t10.toNat ((allRows t16.length).drop ((w64 (t10+1)).toNat))),_,Q7 Aa y20 t16,_,hs,HS.pk 6 [0,2,3,1,5] Z,fun h=>Bool.noConfusion h,fun _=>Z,e1,g1,fun _=>Z,d1⟩
   | 8,_ =>
    refine hs.at q [] [] (fL b1 1 Mq Z (hs.fin q Z fun _ hs=>⟨_,_,_,_,_,_,_,hs,hM⟩))
   | 9,_ =>
    refine hs.at q [8] [] (lB 2 HS Z Nr Z (hs.fin q Z fun _ hs=>⟨_,_,_,_,_,_,_,hs,hM⟩))
   | 10,_ =>
    refine hs.at q [] [] (fL b1 0 Ju Z (hs.fin q Z fun _ hs=>⟨_,_,_,_,_,_,_,hs,hM⟩))
   | 11,_ =>
    refine hs.at q [10] [] (lB 2 HS Z Mr Z (hs.fin q Z fun _ hs=>⟨_,_,_,_,_,_,_,hs,hM⟩))
   | 12,_ =>
    refine (anI fun HS=>anI fun a1=>anI fun f1=>anI fun e1=>anI fun g1=>anI fun c1=>fun d1=>?_) hM
    refine hs.at q [9,11] [] (fJ gP Z (Iz.calls HS (rD 5 r_b) (rD 5 r_a) h29) (fun _ wd33 ⟨A30,c31,y32,h34,HS⟩=>⟨_,h34,(hs.Tz q [12,13] (fun _ hs=>⟨A30,c31,y32,_,_,_,Own (Ty.slice 62 Aa) 44 A30 c31 y32 t28,hs,HS.pk 6 [1,2,3,4,0] Z,a1,f1,e1,fun hh=>(q.no 14 hh).elim,c1,fun _=>Z⟩) Z Z)⟩))
   | 13,_ =>
    refine hs.at q [7,12] [] (GO.Gj (.agg [sV (Ja A18 0 c19 12) (((over (allRows t16.length) t10.toNat ((allRows t16.length).drop ((w64 (t10+1)).toNat))).take (t10.toNat+((allRows t16.length).length - (w64 (t10+1)).toNat))).drop 0) (c19 - 0),sV A30 t28 c31,.slice none 0 0].toArray) Z Z (fun _=>by kernel_rfl) Z (hs.fin q Z fun _ hs=>⟨_,_,_,_,_,_,_,hs,hM⟩))
   | 14,_ =>
    refine (anI fun HS=>anI fun a1=>anI fun f1=>anI fun e1=>anI fun g1=>anI fun c1=>fun d1=>?_) hM
    obtain rfl:=e1 q.hb
    refine hs.at q [13] [] (sW 1 HS Z Eu Z fun wd35 HS=>hs.qO q Z fun _ hs=>⟨A30,c31,y32,_,Box b3 47 [sV (Ja A18 0 c19 12) (((over (allRows t16.length) t10.toNat ((allRows t16.length).drop ((w64 (t10+1)).toNat))).take (t10.toNat+((allRows t16.length).length - (w64 (t10+1)).toNat))).drop 0) (c19 - 0),sV A30 t28 c31,.slice none 0 0],_,_,hs,HS,a1,f1,fun h=>Bool.noConfusion h,fun _=>Z,c1,d1⟩)
   | 15,_ =>
    refine hs.at q [] [] (aS Z (hs.fin q Z fun _ hs=>⟨_,_,_,_,_,_,_,hs,hM⟩))
   | k+16,hj=>exact absurd hj (Nat.not_lt.2 (Nat.le_add_left 16 k))
  ·
   intro b a w hall
   refine exI fun A30=>exI fun c31=>exI fun y32=>exI fun h1=>exI fun k1=>exI fun q1=>exI fun p1=>anI fun hs=>anI fun HS=>anI fun a1=>anI fun f1=>anI fun e1=>anI fun g1=>anI fun c1=>fun d1=>?_
   obtain rfl:=f1 (hall 7 (by decide))
   obtain rfl:=g1 (hall 14 (by decide))
   obtain rfl:=c1 (hall 7 (by decide))
   obtain rfl:=d1 (hall 12 (by decide))
   refine G.at (hs.all hall) ?_
   replace HS:=HS.pk 5 [0,3,1,2,4] Z
   obtain ⟨r36,h37,H⟩:=bI H
   obtain ⟨y38,h39,HS⟩:=St.dE (A':=(Ja A18 0 c19 12)) (c':=(c19 - 0)) HS (kR c26 (Nat.le_trans (leN c24) (Nat.le_of_eq (I6 _).symm))) h37 (Ps _ _ _) Z
   have h40:r36.length=((((over (allRows t16.length) t10.toNat ((allRows t16.length).drop ((w64 (t10+1)).toNat))).take (t10.toNat+((allRows t16.length).length - (w64 (t10+1)).toNat))).drop 0)).length:=by rw [h39,List.drop_zero,List.length_take]; exact (Nat.min_eq_left (kR c26 (Nat.le_trans (leN c24) (Nat.le_of_eq (I6 _).symm)))).symm
   replace HS:=HS.Da (Ty.slice 62 Aa) 44 (fun _=>⟨none,0,(fun _=>Bh)⟩)
   obtain ⟨rfl,rfl,rfl,rfl⟩:=Kc H
   exact G.Lb _ _ func21 Z (Iq.Ji (j:=2) (vs:=[sV (Ja A18 0 c19 12) (((over (allRows t16.length) t10.toNat ((allRows t16.length).drop ((w64 (t10+1)).toNat))).take (t10.toNat+((allRows t16.length).length - (w64 (t10+1)).toNat))).drop 0) (c19 - 0),sV A30 t28 c31,.slice none 0 0]) HS Z Z Z Eu) Z ⟨_,_,_,_,_,_,_,_,_,(by rw [h40]; try exact Z),(HS.pk 5 [1,4,0] Z)⟩
theorem Kr.calls {d1:List Af} {a1 c1:List (List Af)} {y_a:Nat→Aa.Lay} {y_b:Nat→(Ty.slice 62 Aa).Lay} {y_c:Nat→(Ty.slice 62 Aa).Lay} {r1:List Af} {r2 r3:List (List Af)} {r4:Int} (HS:St w0 w (L)) (r_a:Av w0 L Aa A_a c_a y_a d1) (r_b:Av w0 L (Ty.slice 62 Aa) A_b c_b y_b a1) (r_c:Av w0 L (Ty.slice 62 Aa) A_c c_c y_c c1) (H:Kr.f K d1 a1 c1=some (r1,r2,r3,r4)) :
    Calls prog 22 #[.agg [sV A_a d1 c_a,sV A_b a1 c_b,sV A_c c1 c_c].toArray] w (Kr.post w0 L r1 r2 r3 r4):=by
  unfold Kr.f at H
  refine cG func22 Z ?_
  refine sQ (rG (bA HS Z fun b1 wd2 HS=>GO.alloc HS Z Rs Z Z fun b3 wd4 HS=>aS Z (nL (rN 2 Z ?_))))
  obtain ⟨t5,h6,H⟩:=bI H
  refine rG (lW 1 HS Z Eu (fJ Ww Z (Et.calls HS (rD 2 r_a) (rD 2 r_b) (rD 2 r_c) h6) (fun _ wd7 ⟨h8,HS⟩=>⟨_,h8,(GO.not Z Z Z (nL ?_))⟩)))
  rcases iS H with ⟨c9,H⟩ | ⟨c9,H⟩
  ·
   refine yB Z (congrArg Bool.not (Bt c9)) (sQ (rG (GO.Gj (.agg [.slice none 0 0,.slice none 0 0,.slice none 0 0].toArray) Z Z (fun _=>by kernel_rfl) Z (sW 0 HS Z Eu Z fun wd36 HS=>aS Z (nL ?_)))))
   replace HS:=HS.Da Aa 62 (fun _=>Bh)
   replace HS:=HS.Da (Ty.slice 62 Aa) 44 (fun _=>⟨none,0,(fun _=>Bh)⟩)
   replace HS:=HS.Da (Ty.slice 62 Aa) 44 (fun _=>⟨none,0,(fun _=>Bh)⟩)
   obtain ⟨rfl,rfl,rfl,rfl⟩:=Kc H
   exact G.Lb _ _ func22 Z (Iq.Ji (j:=3) (vs:=[.slice none 0 0,.slice none 0 0,.slice none 0 0]) HS Z Z Z Eu) Z ⟨_,_,_,_,_,_,_,_,_,Z,(HS.pk 5 [2,1,0] Z)⟩
  refine nB Z (congrArg Bool.not c9) (rN 2 Z (rG (fL b1 1 Mq Z (lB 1 HS Z Nr Z (lS Z Z U45 Z (aS Z (nL (rN 3 Z ?_))))))))
  rcases iE H with ⟨c10,H⟩ | ⟨c10,H⟩
  ·
   refine yB Z (tT c10) (sQ (rG (GO.Gj (.agg [.slice none 0 0,.slice none 0 0,.slice none 0 0].toArray) Z Z (fun _=>by kernel_rfl) Z (sW 0 HS Z Eu Z fun wd11 HS=>aS Z (nL ?_)))))
   replace HS:=HS.Da Aa 62 (fun _=>Bh)
   replace HS:=HS.Da (Ty.slice 62 Aa) 44 (fun _=>⟨none,0,(fun _=>Bh)⟩)
   replace HS:=HS.Da (Ty.slice 62 Aa) 44 (fun _=>⟨none,0,(fun _=>Bh)⟩)
   obtain ⟨rfl,rfl,rfl,rfl⟩:=Kc H
   exact G.Lb _ _ func22 Z (Iq.Ji (j:=3) (vs:=[.slice none 0 0,.slice none 0 0,.slice none 0 0]) HS Z Z Z Eu) Z ⟨_,_,_,_,_,_,_,_,_,Z,(HS.pk 5 [2,1,0] Z)⟩
  refine nB Z (tF c10) (rN 2 Z ?_)
  obtain ⟨c12,H⟩:=iN H
  obtain ⟨t13,h14,H⟩:=bI H
  obtain ⟨c20,H⟩:=iN H
  obtain ⟨t21,h22,H⟩:=bI H
  obtain ⟨t28,h29,H⟩:=bI H
  refine G.O7 mixed (fun w=>St w0 w (Box b1 47 [sV A_a d1 c_a,sV A_b a1 c_b,sV A_c c1 c_c]::L)) [1,5,8,11,14,16] [0,2,3,7,9,10,13,15,1,4,5,8,11,14,16,6,12,17,18,19,20] [] (by kernel_rfl) (by kernel_rfl) (HS.drew.pk 2 [1] Z) ?_
  replace HS:=HS.drew
  refine qL Z Z (fun _ _ g=>fL b1 1 Mq Z g) Z (GX.ps 2 Z (qL Z Z (fun _ _ g=>fL b1 1 Mq Z g) Z (GX.ps 2 Z (qL Z Z (fun _ _ g=>fL b1 2 O6 Z g) Z (qL Z Z (fun _ _ g=>fL b1 0 Ju Z g) Z (GX.ls Z Z Z (HS.pk 2 [1] Z) (fun _ HS _ g=>lB 0 HS Z Nr Z g) Z (qL Z Z (fun _ _ g=>iX Z U45 Sm (rk (rD 2 r_b) HS) c12 g) Z (GX.ls Z Z Z (HS.pk 2 [1] Z) (fun _ HS _ g=>GO.Gb (T:=(Ty.slice 62 Aa)) (n:=(w64 ((a1.length:Int) - 1)).toNat) (o:=0) HS (rD 1 r_b) Z Z (getD_some (d:=[]) (ltN c12)) Z Z Mr Z g) Z (GX.ls Z Z Z (HS.pk 2 [1] Z) (fun _ HS _ g=>lB 0 HS Z Nr Z g) Z (GX.ls Z Z Z (HS.pk 2 [1] Z) (fun _ HS _ g=>GO.slH (T:=(Ty.slice 62 Aa)) HS (rD 1 r_b) Z Z Z U45 Sm c20.1 c20.2 Z g) Z (GX.ls Z Z Z (HS.pk 2 [1] Z) (fun _ HS _ g=>lB 0 HS Z Nr Z g) Z (GX.ls Z Z Z (HS.pk 2 [1] Z) (fun _ HS _ g=>lB 0 HS Z Mr Z g) Z (GX.l2 Z (fJ dL Z (Fa.calls HS (Av.elem (rD 2 r_b) c12.1 c12.2) h14) (fun _ wd18 ⟨A15,c16,y17,h19,HS⟩=>⟨_,h19,?_⟩)))))))))))))))
  refine GX.fin (HS.pk 3 [2] Z) (GX.l2 Z (fJ nU Z (Df.calls HS (Av.cut (rD 3 r_b) (Nat.zero_le _) (leN c20)) h22) (fun _ wd26 ⟨A23,c24,y25,h27,HS⟩=>⟨_,h27,(GX.fin (HS.pk 4 [3] Z) (GX.l2 Z (fJ gP Z (Iz.calls HS (rD 4 r_c) (rD 4 r_a) h29) (fun _ wd33 ⟨A30,c31,y32,h34,HS⟩=>⟨_,h34,(GX.fin (HS.pk 5 [4] Z) (qL Z Z (fun _ _ g=>GO.Gj (.agg [sV A15 t13 c16,sV A23 t21 c24,sV A30 t28 c31].toArray) Z Z (fun _=>by kernel_rfl) Z g) Z (GX.l2 Z (sW 3 HS Z Eu Z fun wd35 HS=>GX.fin (HS.pk 5 [4] Z) (GX.ps 1 Z (GX.nil ?_))))))⟩))))⟩)))
  obtain ⟨rfl,rfl,rfl,rfl⟩:=Kc H
  exact G.Lb _ _ func22 Z (Iq.Ji (j:=3) (vs:=[sV A15 t13 c16,sV A23 t21 c24,sV A30 t28 c31]) HS Z Z Z Eu) Z ⟨_,_,_,_,_,_,_,_,_,Z,(HS.pk 5 [2,1,0] Z)⟩
theorem Ko.calls {d1:List Af} {c1 a1:List (List Af)} {y_a:Nat→Aa.Lay} {y_b:Nat→(Ty.slice 62 Aa).Lay} {y_c:Nat→(Ty.slice 62 Aa).Lay} {r1:List Af} {r2 r3:List (List Af)} {r4:Int} (HS:St w0 w (L)) (r_a:Av w0 L Aa A_a c_a y_a d1) (r_b:Av w0 L (Ty.slice 62 Aa) A_b c_b y_b c1) (r_c:Av w0 L (Ty.slice 62 Aa) A_c c_c y_c a1) (H:Ko.f K d1 c1 a1=some (r1,r2,r3,r4)) :
    Calls prog 23 #[.agg [sV A_a d1 c_a,sV A_b c1 c_b,sV A_c a1 c_c].toArray] w (Ko.post w0 L r1 r2 r3 r4):=by
  unfold Ko.f at H
  refine cG func23 Z ?_
  refine sQ (rG (bA HS Z fun b1 wd2 HS=>GO.alloc HS Z Rs Z Z fun b3 wd4 HS=>aS Z (nL (rN 2 Z ?_))))
  obtain ⟨t5,h6,H⟩:=bI H
  refine rG (lW 1 HS Z Eu (fJ Ww Z (Et.calls HS (rD 2 r_a) (rD 2 r_b) (rD 2 r_c) h6) (fun _ wd7 ⟨h8,HS⟩=>⟨_,h8,(GO.not Z Z Z (nL ?_))⟩)))
  rcases iS H with ⟨c9,H⟩ | ⟨c9,H⟩
  ·
   refine yB Z (congrArg Bool.not (Bt c9)) (sQ (rG (GO.Gj (.agg [.slice none 0 0,.slice none 0 0,.slice none 0 0].toArray) Z Z (fun _=>by kernel_rfl) Z (sW 0 HS Z Eu Z fun wd36 HS=>aS Z (nL ?_)))))
   replace HS:=HS.Da Aa 62 (fun _=>Bh)
   replace HS:=HS.Da (Ty.slice 62 Aa) 44 (fun _=>⟨none,0,(fun _=>Bh)⟩)
   replace HS:=HS.Da (Ty.slice 62 Aa) 44 (fun _=>⟨none,0,(fun _=>Bh)⟩)
   obtain ⟨rfl,rfl,rfl,rfl⟩:=Kc H
   exact G.Lb _ _ func23 Z (Iq.Ji (j:=3) (vs:=[.slice none 0 0,.slice none 0 0,.slice none 0 0]) HS Z Z Z Eu) Z ⟨_,_,_,_,_,_,_,_,_,Z,(HS.pk 5 [2,1,0] Z)⟩
  refine nB Z (congrArg Bool.not c9) (rN 2 Z (rG (fL b1 2 O6 Z (lB 1 HS Z Nr Z (lS Z Z U45 Z (aS Z (nL (rN 3 Z ?_))))))))
  rcases iE H with ⟨c10,H⟩ | ⟨c10,H⟩
  ·
   refine yB Z (tT c10) (sQ (rG (GO.Gj (.agg [.slice none 0 0,.slice none 0 0,.slice none 0 0].toArray) Z Z (fun _=>by kernel_rfl) Z (sW 0 HS Z Eu Z fun wd11 HS=>aS Z (nL ?_)))))
   replace HS:=HS.Da Aa 62 (fun _=>Bh)
   replace HS:=HS.Da (Ty.slice 62 Aa) 44 (fun _=>⟨none,0,(fun _=>Bh)⟩)
   replace HS:=HS.Da (Ty.slice 62 Aa) 44 (fun _=>⟨none,0,(fun _=>Bh)⟩)
   obtain ⟨rfl,rfl,rfl,rfl⟩:=Kc H
   exact G.Lb _ _ func23 Z (Iq.Ji (j:=3) (vs:=[.slice none 0 0,.slice none 0 0,.slice none 0 0]) HS Z Z Z Eu) Z ⟨_,_,_,_,_,_,_,_,_,Z,(HS.pk 5 [2,1,0] Z)⟩
  refine nB Z (tF c10) (rN 2 Z ?_)
  obtain ⟨c12,H⟩:=iN H
  obtain ⟨t13,h14,H⟩:=bI H
  obtain ⟨t20,h21,H⟩:=bI H
  obtain ⟨c27,H⟩:=iN H
  obtain ⟨t28,h29,H⟩:=bI H
  refine G.O7 mixed (fun w=>St w0 w (Box b1 47 [sV A_a d1 c_a,sV A_b c1 c_b,sV A_c a1 c_c]::L)) [1,5,8,10,13,16] [0,2,3,7,9,12,14,15,1,4,5,8,10,13,16,6,11,17,18,19,20] [] (by kernel_rfl) (by kernel_rfl) (HS.drew.pk 2 [1] Z) ?_
  replace HS:=HS.drew
  refine qL Z Z (fun _ _ g=>fL b1 2 O6 Z g) Z (GX.ps 2 Z (qL Z Z (fun _ _ g=>fL b1 1 Mq Z g) Z (qL Z Z (fun _ _ g=>fL b1 0 Ju Z g) Z (qL Z Z (fun _ _ g=>fL b1 2 O6 Z g) Z (GX.ps 2 Z (GX.ls Z Z Z (HS.pk 2 [1] Z) (fun _ HS _ g=>lB 0 HS Z Nr Z g) Z (qL Z Z (fun _ _ g=>iX Z U45 Sm (rk (rD 2 r_c) HS) c12 g) Z (GX.ls Z Z Z (HS.pk 2 [1] Z) (fun _ HS _ g=>GO.Gb (T:=(Ty.slice 62 Aa)) (n:=(w64 ((a1.length:Int) - 1)).toNat) (o:=0) HS (rD 1 r_c) Z Z (getD_some (d:=[]) (ltN c12)) Z Z Mr Z g) Z (GX.ls Z Z Z (HS.pk 2 [1] Z) (fun _ HS _ g=>lB 0 HS Z Nr Z g) Z (GX.ls Z Z Z (HS.pk 2 [1] Z) (fun _ HS _ g=>lB 0 HS Z Mr Z g) Z (GX.ls Z Z Z (HS.pk 2 [1] Z) (fun _ HS _ g=>lB 0 HS Z Nr Z g) Z (GX.ls Z Z Z (HS.pk 2 [1] Z) (fun _ HS _ g=>GO.slH (T:=(Ty.slice 62 Aa)) HS (rD 1 r_c) Z Z Z U45 Sm c27.1 c27.2 Z g) Z (GX.l2 Z (fJ dL Z (Fa.calls HS (Av.elem (rD 2 r_c) c12.1 c12.2) h14) (fun _ wd18 ⟨A15,c16,y17,h19,HS⟩=>⟨_,h19,?_⟩)))))))))))))))
  refine GX.fin (HS.pk 3 [2] Z) (GX.l2 Z (fJ gP Z (Iz.calls HS (rD 3 r_b) (rD 3 r_a) h21) (fun _ wd25 ⟨A22,c23,y24,h26,HS⟩=>⟨_,h26,(GX.fin (HS.pk 4 [3] Z) (GX.l2 Z (fJ nU Z (Df.calls HS (Av.cut (rD 4 r_c) (Nat.zero_le _) (leN c27)) h29) (fun _ wd33 ⟨A30,c31,y32,h34,HS⟩=>⟨_,h34,(GX.fin (HS.pk 5 [4] Z) (qL Z Z (fun _ _ g=>GO.Gj (.agg [sV A15 t13 c16,sV A22 t20 c23,sV A30 t28 c31].toArray) Z Z (fun _=>by kernel_rfl) Z g) Z (GX.l2 Z (sW 3 HS Z Eu Z fun wd35 HS=>GX.fin (HS.pk 5 [4] Z) (GX.ps 1 Z (GX.nil ?_))))))⟩))))⟩)))
  obtain ⟨rfl,rfl,rfl,rfl⟩:=Kc H
  exact G.Lb _ _ func23 Z (Iq.Ji (j:=3) (vs:=[sV A15 t13 c16,sV A22 t20 c23,sV A30 t28 c31]) HS Z Z Z Eu) Z ⟨_,_,_,_,_,_,_,_,_,Z,(HS.pk 5 [2,1,0] Z)⟩
theorem Jn.calls {s1:List Af} {o1 m1:List (List Af)} {u1:Int} {t1 i1:ByteArray} {h1:Int} {g1:List (List Br)} {f1:List Ah} {p1 q1:Int} {d1:List Int} {n1 k1:Int} {e1:List Cc} {a1 c1:List Int} {y_a:Nat→Aa.Lay} {y_b:Nat→(Ty.slice 62 Aa).Lay} {y_c:Nat→(Ty.slice 62 Aa).Lay} {y_d:Nat→(Ty.slice 168 Az).Lay} {r1:List Af} {r2 r3:List (List Af)} {r4:Int} (HS:St w0 w (L)) (r_a:Av w0 L Aa A_a c_a y_a s1) (r_b:Av w0 L (Ty.slice 62 Aa) A_b c_b y_b o1) (r_c:Av w0 L (Ty.slice 62 Aa) A_c c_c y_c m1) (r_d:Av w0 L (Ty.slice 168 Az) A_d c_d y_d g1) (r_e:Av w0 L Au A_e c_e uu f1) (r_f:Av w0 L (Bi .i64) A_f c_f uu d1) (r_g:Av w0 L Ci A_g c_g uu e1) (r_h:Av w0 L (Bi .i64) A_h c_h uu a1) (r_i:Av w0 L (Bi .i64) A_i c_i uu c1) (H:Jn.f K s1 o1 m1 u1 t1 i1 h1 g1 f1 p1 q1 d1 n1 k1 e1 a1 c1=some (r1,r2,r3,r4)) :
    Calls prog 6 #[.agg [sV A_a s1 c_a,sV A_b o1 c_b,sV A_c m1 c_c].toArray,.agg [I u1,.string t1,.string i1,I h1,sV A_d g1 c_d,sV A_e f1 c_e,I p1,I q1,sV A_f d1 c_f,I n1,I k1,sV A_g e1 c_g,sV A_h a1 c_h,sV A_i c1 c_i].toArray] w (Jn.post w0 L r1 r2 r3 r4):=by
  unfold Jn.f at H
  refine cG func6 Z ?_
  refine sQ (rG (bA HS Z fun b1 wd2 HS=>bA HS Z fun b3 wd4 HS=>GO.alloc HS Z Rs Z Z fun b5 wd6 HS=>aS Z (nL (rN 2 Z ?_))))
  obtain ⟨t16,h17,H⟩:=bI H
  rcases iS H with ⟨c20,H⟩ | ⟨c20,H⟩
  ·
   refine rG (lW 2 HS Z Eu (fJ Ww Z (Et.calls HS (rD 3 r_a) (rD 3 r_b) (rD 3 r_c) h17) (fun _ wd18 ⟨h19,HS⟩=>⟨_,h19,(pS 2 Z (kN 9 Z (congrArg Bool.not (Bt c20)) (oF Z (oF Z (oF Z (GO.Ii Z Z Z Z Z (nL (rN 2 Z (rG (GO.Gj (.agg [.slice none 0 0,.slice none 0 0,.slice none 0 0].toArray) Z Z (fun _=>by kernel_rfl) Z (sW 0 HS Z Eu Z fun wd98 HS=>aS Z ?_)))))))))))⟩)))
   refine nL ?_
   replace HS:=HS.Da Aa 62 (fun _=>Bh)
   replace HS:=HS.Da (Ty.slice 62 Aa) 44 (fun _=>⟨none,0,(fun _=>Bh)⟩)
   replace HS:=HS.Da (Ty.slice 62 Aa) 44 (fun _=>⟨none,0,(fun _=>Bh)⟩)
   obtain ⟨rfl,rfl,rfl,rfl⟩:=Kc H
   exact G.Lb _ _ func6 Z (Iq.Ji (j:=3) (vs:=[.slice none 0 0,.slice none 0 0,.slice none 0 0]) HS Z Z Z Eu) Z ⟨_,_,_,_,_,_,_,_,_,Z,(HS.pk 6 [2,1,0] Z)⟩
  obtain ⟨t21,h22,H⟩:=bI H
  refine rG (lW 2 HS Z Eu (fJ Ww Z (Et.calls HS (rD 3 r_a) (rD 3 r_b) (rD 3 r_c) h17) (fun _ wd18 ⟨h19,HS⟩=>⟨_,h19,(pS 2 Z (kN 9 Z (congrArg Bool.not c20) (oN Z (lW 1 HS Z bN (bK (oN Z (fJ AaL Z (Dx.calls HS (rD 3 r_d) (rD 3 r_e) (rD 3 r_f) (rD 3 r_g) (rD 3 r_h) (rD 3 r_i) h22) (fun _ wd23 ⟨h24,HS⟩=>⟨_,h24,(bK (oN Z (GO.not Z Z Z (bK (GO.Ki Z Z Z Z Z ?_)))))⟩))))))))⟩)))
  refine nL ?_
  rcases iS H with ⟨c25,H⟩ | ⟨c25,H⟩
  ·
   refine yB Z (congrArg Bool.not (Bt c25)) (sQ (rG (GO.Gj (.agg [.slice none 0 0,.slice none 0 0,.slice none 0 0].toArray) Z Z (fun _=>by kernel_rfl) Z (sW 0 HS Z Eu Z fun wd97 HS=>aS Z (nL ?_)))))
   replace HS:=HS.Da Aa 62 (fun _=>Bh)
   replace HS:=HS.Da (Ty.slice 62 Aa) 44 (fun _=>⟨none,0,(fun _=>Bh)⟩)
   replace HS:=HS.Da (Ty.slice 62 Aa) 44 (fun _=>⟨none,0,(fun _=>Bh)⟩)
   obtain ⟨rfl,rfl,rfl,rfl⟩:=Kc H
   exact G.Lb _ _ func6 Z (Iq.Ji (j:=3) (vs:=[.slice none 0 0,.slice none 0 0,.slice none 0 0]) HS Z Z Z Eu) Z ⟨_,_,_,_,_,_,_,_,_,Z,(HS.pk 6 [2,1,0] Z)⟩
  refine nB Z (congrArg Bool.not c25) (rN 3 Z (rG (fL b3 0 Uj Z (lB 1 HS Z na2 Z (nL (rN 3 Z ?_))))))
  rcases iE H with ⟨c26,H⟩ | ⟨c26,H⟩
  ·
   refine yB Z (tT c26) (sQ ?_)
   obtain ⟨t27,t28,t29,t30,h31,H⟩:=Hz H
   refine rG (lW 2 HS Z Eu (fL b3 2 Pv Z (GO.Du (j:=1) ([.string i1,I h1,sV A_d g1 c_d,sV A_e f1 c_e,I p1,I q1,sV A_f d1 c_f,I n1,I k1,sV A_g e1 c_g,sV A_h a1 c_h,sV A_i c1 c_i]) HS Z Z Z Z Mf Z (fJ AaB Z (Bf.calls HS (rD 3 r_a) (rD 3 r_b) (rD 3 r_c) (rD 3 r_d) (rD 3 r_e) (rD 3 r_f) (rD 3 r_g) (rD 3 r_h) (rD 3 r_i) h31) (fun _ wd41 ⟨A32,c33,y34,A35,c36,y37,A38,c39,y40,h42,HS⟩=>⟨_,h42,(pS 2 Z (sW 3 HS Z Eu Z fun wd43 HS=>aS Z (nL ?_)))⟩)))))
   obtain ⟨rfl,rfl,rfl,rfl⟩:=Kc H
   exact G.Lb _ _ func6 Z (Iq.Ji (j:=3) (vs:=[sV A32 t27 c33,sV A35 t28 c36,sV A38 t29 c39]) HS Z Z Z Eu) Z ⟨_,_,_,_,_,_,_,_,_,Z,(HS.pk 6 [0,1,2] Z)⟩
  refine nB Z (tF c26) (rN 2 Z ?_)
  rcases iE H with ⟨c44,H⟩ | ⟨c44,H⟩
  ·
   refine yB Z (tT c44) (sQ ?_)
   obtain ⟨t45,t46,t47,t48,h49,H⟩:=Hz H
   refine rG (lW 2 HS Z Eu (fL b3 1 Ow Z (lB 1 HS Z na9 Z (fJ AaG Z (Lc.calls HS (rD 3 r_a) (rD 3 r_b) (rD 3 r_c) h49) (fun _ wd59 ⟨A50,c51,y52,A53,c54,y55,A56,c57,y58,h60,HS⟩=>⟨_,h60,(pS 2 Z (sW 3 HS Z Eu Z fun wd61 HS=>aS Z (nL ?_)))⟩)))))
   obtain ⟨rfl,rfl,rfl,rfl⟩:=Kc H
   exact G.Lb _ _ func6 Z (Iq.Ji (j:=3) (vs:=[sV A50 t45 c51,sV A53 t46 c54,sV A56 t47 c57]) HS Z Z Z Eu) Z ⟨_,_,_,_,_,_,_,_,_,Z,(HS.pk 6 [0,1,2] Z)⟩
  refine nB Z (tF c44) (rN 2 Z ?_)
  rcases iE H with ⟨c62,H⟩ | ⟨c62,H⟩
  ·
   refine yB Z (tT c62) (sQ ?_)
   obtain ⟨t63,t64,t65,t66,h67,H⟩:=Hz H
   refine rG (lW 2 HS Z Eu (fJ AaH Z (Kr.calls HS (rD 3 r_a) (rD 3 r_b) (rD 3 r_c) h67) (fun _ wd77 ⟨A68,c69,y70,A71,c72,y73,A74,c75,y76,h78,HS⟩=>⟨_,h78,(pS 2 Z (sW 3 HS Z Eu Z fun wd79 HS=>aS Z (nL ?_)))⟩)))
   obtain ⟨rfl,rfl,rfl,rfl⟩:=Kc H
   exact G.Lb _ _ func6 Z (Iq.Ji (j:=3) (vs:=[sV A68 t63 c69,sV A71 t64 c72,sV A74 t65 c75]) HS Z Z Z Eu) Z ⟨_,_,_,_,_,_,_,_,_,Z,(HS.pk 6 [0,1,2] Z)⟩
  refine nB Z (tF c62) (rN 3 Z ?_)
  obtain ⟨t80,t81,t82,t83,h84,H⟩:=Hz H
  refine rG (lW 2 HS Z Eu (fJ zU Z (Ko.calls HS (rD 3 r_a) (rD 3 r_b) (rD 3 r_c) h84) (fun _ wd94 ⟨A85,c86,y87,A88,c89,y90,A91,c92,y93,h95,HS⟩=>⟨_,h95,(pS 2 Z (sW 3 HS Z Eu Z fun wd96 HS=>aS Z (nL ?_)))⟩)))
  obtain ⟨rfl,rfl,rfl,rfl⟩:=Kc H
  exact G.Lb _ _ func6 Z (Iq.Ji (j:=3) (vs:=[sV A85 t80 c86,sV A88 t81 c89,sV A91 t82 c92]) HS Z Z Z Eu) Z ⟨_,_,_,_,_,_,_,_,_,Z,(HS.pk 6 [0,1,2] Z)⟩
theorem Hg.calls {c:Int} {r1:Bool} (HS:St w0 w (L)) (H:Hg.f c=some r1) :
    Calls prog 118 #[.int .i32 c] w (Hg.post w0 L r1):=by
  unfold Hg.f at H
  refine cG func118 Z ?_
  refine rN 3 Z ?_
  rcases iE H with ⟨c1,H⟩ | ⟨c1,H⟩
  ·
   refine rG (pS 3 Z (kN 5 Z (tT c1) (oF Z (oF Z (pS 2 Z (nL ?_))))))
   obtain rfl:=sI H
   exact rT _ func118 Z Z ⟨Z,HS⟩
  refine rG (pS 3 Z (kN 5 Z (tF c1) (oN Z (mV Z (bK (oN Z (GO.gtr Z Z Z Z (bK (pS 2 Z (nL ?_))))))))))
  obtain rfl:=sI H
  exact rT _ func118 Z Z ⟨Z,HS⟩
theorem Cb.calls {s:ByteArray} {truth:Bool} {r1:Int} (HS:St w0 w (L)) (H:Cb.f K s truth=some r1) :
    Calls prog 199 #[.string s,.func (.func 118) #[] #[],.bool truth] w (Cb.post w0 L r1):=by
  unfold Cb.f at H
  refine cG func199 Z ?_
  refine rN 4 Z (rG (mV Z (GO.zF HS Z Z U9 Z fun b1 wd2 HS=>nL (rN 2 Z ?_))))
  refine G.name (fun f1 d1=>?_)
  have e1:∀ a1,a1≤K→∀ (at12:Ix) (w:World),Cb.l1 K a1 s truth at12=some r1→St w0 w (Iter b1 s at12::L)→G prog 199 21 [(1,.func (.func 118) #[] #[]),(2,.bool truth),(10,pT b1)] f1 w (Cb.post w0 L r1):=by
   refine lp (fun _ w H _=>by rw [Cb.l1] at H; cases H) fun c1 h1 g1 at12 w H HS=>?_
   rw [Cb.l1] at H
   subst d1
   refine sQ ?_
   rcases iS H with ⟨c23,H⟩ | ⟨c23,H⟩
   ·
    refine rG (GO.AaT (j:=0) HS Z Z Z c23 Z (GO.extract Z Z Z Z (nL (rN 5 Z ?_))))
    obtain rfl:=sI H
    exact rT _ func199 Z Z ⟨Z,(HS.pk 1 [] Z)⟩
   refine rG (GO.Aak (j:=0) HS Z Z Z c23 Z fun wd24 HS=>GO.extract Z Z Z Z (nL (rN 7 Z ?_)))
   obtain ⟨t25,h26,H⟩:=bI H
   refine rG (pS 2 Z (GO.clo Z Z func118 oK.2.1 oK.2.2 Z Z (Hg.calls HS  h26) (fun _ wd27 ⟨h28,HS⟩=>⟨_,h28,(mV Z (GO.Aa3 Z Z Z U4 Z (nL ?_)))⟩)))
   rcases iS H with ⟨c29,H⟩ | ⟨c29,H⟩
   ·
    refine nB Z (Bt c29) (rN 3 Z (gW (g1 c1 (lR _) _ _ H HS) Z))
   refine yB Z c29 (rN 2 Z ?_)
   obtain rfl:=sI H
   exact rT _ func199 Z Z ⟨Z,(HS.pk 1 [] Z)⟩
  exact gW (e1 K (lR _) _ _ H HS) Z
theorem Ei.calls {s:ByteArray} {r1:Int} (HS:St w0 w (L)) (H:Ei.f K s=some r1) :
    Calls prog 165 #[.string s,.func (.func 118) #[] #[]] w (Ei.post w0 L r1):=by
  unfold Ei.f at H
  refine cG func165 Z ?_
  refine rN 3 Z ?_
  obtain ⟨t1,h2,H⟩:=bI H
  refine rG (pS 2 Z (fJ vJ Z (Cb.calls HS  h2) (fun _ wd3 ⟨h4,HS⟩=>⟨_,h4,(aS Z (nL ?_))⟩)))
  obtain rfl:=sI H
  exact rT _ func165 Z Z ⟨Z,HS⟩
theorem Dw.calls {s:ByteArray} {r1:Bool} (HS:St w0 w (L)) (H:Dw.f K s=some r1) :
    Calls prog 117 #[.string s,.func (.func 118) #[] #[]] w (Dw.post w0 L r1):=by
  unfold Dw.f at H
  refine cG func117 Z ?_
  refine rN 3 Z ?_
  obtain ⟨t1,h2,H⟩:=bI H
  refine rG (pS 2 Z (fJ vM Z (Ei.calls HS  h2) (fun _ wd3 ⟨h4,HS⟩=>⟨_,h4,(pS 2 Z (nL ?_))⟩)))
  obtain rfl:=sI H
  exact rT _ func117 Z Z ⟨Z,HS⟩
theorem Hm.calls {s:ByteArray} {r1:Bool} (HS:St w0 w (L)) (H:Hm.f K s=some r1) :
    Calls prog 63 #[.string s] w (Hm.post w0 L r1):=by
  unfold Hm.f at H
  refine cG func63 Z ?_
  refine rN 3 Z ?_
  rcases iS H with ⟨c1,H⟩ | ⟨c1,H⟩
  ·
   refine rG (mV Z (GO.Qz Z Z U9 Z (pS 2 Z (kN 6 Z (tF c1) (oF Z (oF Z (oF Z (pS 2 Z (oF Z (oF Z (oF Z (pS 2 Z (nL ?_)))))))))))))
   obtain rfl:=sI H
   exact rT _ func63 Z Z ⟨Z,HS⟩
  rcases iS H with ⟨c2,H⟩ | ⟨c2,H⟩
  ·
   refine rG (mV Z (GO.Qz Z Z U9 Z (pS 2 Z (kN 6 Z (tT c1) (oN Z (mV Z (bK (oN Z (GO.Qz Z Z U9 Z (bK (oN Z (GO.leq Z Z Z Z (bK (pS 2 Z ?_))))))))))))))
   refine kN 11 Z (tF c2) (oF Z (oF Z (oF Z (pS 2 Z (nL ?_)))))
   obtain rfl:=sI H
   exact rT _ func63 Z Z ⟨Z,HS⟩
  obtain ⟨t3,h4,H⟩:=bI H
  refine rG (mV Z (GO.Qz Z Z U9 Z (pS 2 Z (kN 6 Z (tT c1) (oN Z (mV Z (bK (oN Z (GO.Qz Z Z U9 Z (bK (oN Z (GO.leq Z Z Z Z (bK (pS 2 Z ?_))))))))))))))
  refine kN 11 Z (tT c2) (oN Z (mV Z (bK (oN Z (fJ vI Z (Dw.calls HS  h4) (fun _ wd5 ⟨h6,HS⟩=>⟨_,h6,(bK (oN Z (GO.not Z Z Z (bK (pS 2 Z (nL ?_))))))⟩))))))
  obtain rfl:=sI H
  exact rT _ func63 Z Z ⟨Z,HS⟩
theorem Cu.calls {x low high:Int} {r1:Bool} (HS:St w0 w (L)) (H:Cu.f x low high=some r1) :
    Calls prog 111 #[I x,I low,I high] w (Cu.post w0 L r1):=by
  unfold Cu.f at H
  refine cG func111 Z ?_
  refine rN 3 Z ?_
  rcases iS H with ⟨c1,H⟩ | ⟨c1,H⟩
  ·
   refine rG (pS 4 Z (kN 10 Z (tF c1) (oF Z (oF Z (oF Z (pS 2 Z (nL ?_)))))))
   obtain rfl:=sI H
   exact rT _ func111 Z Z ⟨Z,HS⟩
  refine rG (pS 4 Z (kN 10 Z (tT c1) (oN Z (mV Z (bK (oN Z (mV Z (bK (oN Z (GO.leq Z Z Z Z (bK (pS 2 Z (nL ?_)))))))))))))
  obtain rfl:=sI H
  exact rT _ func111 Z Z ⟨Z,HS⟩
end Go.Proofs.YtjopfecenllmgaaGreatDoor
