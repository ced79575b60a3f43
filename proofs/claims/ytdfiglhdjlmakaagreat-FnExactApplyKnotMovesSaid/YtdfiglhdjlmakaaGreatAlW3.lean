/-
  The walks through the functions: a call comes to what its list function says.
-/
import Derived.Test.YtdfiglhdjlmakaaGreatAlF
import Derived.Test.YtdfiglhdjlmakaaGreatAlW2
set_option linter.unusedVariables false
set_option linter.unusedSimpArgs false
namespace Go.Proofs.YtdfiglhdjlmakaaGreat
open Go.RowKit
open Tryz
set_option maxRecDepth 20000
set_option maxHeartbeats 40000000
theorem impl_AddKink.calls {w0 w : World} {L : List HObj} {K : Nat} {d_Crossings : List GCrossing} {d_Circles a_ v : Int} {A_a : Option Addr} {c_a : Nat} {r1 : List GCrossing} {r2 r3 : Int} (HS : St w0 w (L)) (r_a : RdIn w0 L T_GCrossing A_a c_a (fun _ => ()) d_Crossings) (H : impl_AddKink.f K d_Crossings d_Circles a_ v = some (r1, r2, r3)) :
    Calls prog 39 #[.agg [.slice A_a d_Crossings.length c_a, .int .i64 d_Circles].toArray, .int .i64 a_, .int .i64 v] w (impl_AddKink.post w0 L r1 r2 r3) := by
  unfold impl_AddKink.f at H
  refine Calls.of_G func39 rfl rfl rfl ?_
  refine G.seq (G.region (GO.box (cs := [.slice A_a d_Crossings.length c_a, .int .i64 d_Circles]) HS rfl rfl rfl rfl fun b1 wd2 HS => GO.alloc HS rfl zr30 rfl rfl fun b3 wd4 HS => GO.assign rfl rfl rfl (GO.nil (G.seq ?_))))
  obtain ⟨t5, t6, t7, h8, H⟩ := bind3_elim H
  refine G.region (GO.ldBoxA (j := 1) ([.slice A_a d_Crossings.length c_a, .int .i64 d_Circles]) HS rfl rfl rfl rfl ag30 rfl (GO.fn rfl func37 fok37.1 fok37.2 rfl rfl (impl_Diagram_drawing.calls HS (RdIn.drop 2 r_a) h8) (fun _ wd13 ⟨A9, c10, A11, c12, h14, HS⟩ => ⟨_, h14, (GO.ps 3 rfl (GO.alloc HS rfl zr66 rfl rfl fun b15 wd16 HS => GO.stBox (j := 0) (vs := [.slice A9 t5.length c10, .slice A11 t6.length c12]) ([.slice A9 t5.length c10, .slice A11 t6.length c12]) HS rfl rfl rfl rfl rfl (htA ag66) rfl rfl rfl fun wd17 HS => GO.assign rfl rfl rfl (GO.nil (G.run 4 rfl ?_))))⟩)))
  rcases ite_elim H with ⟨c18, H⟩ | ⟨c18, H⟩
  ·
   refine G.noB rfl (congrArg Bool.not c18) (G.seq ?_)
   obtain ⟨t19, h20, H⟩ := Option.bind_eq_some_iff.1 H
   refine G.region (GO.fld (⟨b15, 1, none⟩) rfl rfl fl66_1 rfl rfl (GO.ldBox (j := 0) HS rfl rfl rfl rfl na64 rfl (GO.move rfl rfl rfl (GO.fn rfl func67 fok67.1 fok67.2 rfl rfl (impl_hasIndex_impl_end.calls HS (RdIn.own (j := 2) rfl) h20) (fun _ wd21 ⟨h22, HS⟩ => ⟨_, h22, (GO.ps 2 rfl (GO.nil ?_))⟩)))))
   rcases ite_elim H with ⟨c23, H⟩ | ⟨c23, H⟩
   ·
    refine G.noB rfl (congrArg Bool.not c23) (G.seq ?_)
    obtain ⟨t24, h25, H⟩ := Option.bind_eq_some_iff.1 H
    refine G.region (GO.move rfl rfl rfl (GO.fn rfl func59 fok59.1 fok59.2 rfl rfl (impl_inRange.calls HS  h25) (fun _ wd26 ⟨h27, HS⟩ => ⟨_, h27, (GO.ps 2 rfl (GO.nil ?_))⟩)))
    rcases ite_elim H with ⟨c28, H⟩ | ⟨c28, H⟩
    ·
     refine G.noB rfl (congrArg Bool.not c28) (G.seq (G.region (GO.fld (⟨b1, 0, none⟩) rfl rfl fl30_0 rfl rfl (GO.ldBox (j := 4) HS rfl rfl rfl rfl na28 rfl (GO.lenS rfl rfl underlying28 rfl (GO.ps 2 rfl (GO.nil ?_)))))))
     rcases ite_elim H with ⟨c29, H⟩ | ⟨c29, H⟩
     ·
      refine G.yesB rfl (decide_eq_true c29) (G.seq (G.region (GO.buildV (.agg [.slice none 0 0, .int .i64 0].toArray) rfl rfl (fun _ => by kernel_rfl) rfl (GO.stBox (j := 3) (vs := [.slice none 0 0, .int .i64 0]) ([.slice none 0 0, .int .i64 0]) HS rfl rfl rfl rfl rfl (htA ag30) rfl rfl rfl fun wd30 HS => GO.assign rfl rfl rfl (GO.nil ?_)))))
      replace HS := HS.nilRow T_GCrossing 61 (fun _ => ())
      obtain ⟨rfl, rfl, rfl⟩ := some3 H
      exact G.ret2 _ _ func39 rfl (Res1.boxA (j := 4) (vs := [.slice none 0 0, .int .i64 0]) HS rfl rfl rfl ag30) rfl ⟨_, _, rfl, (HS.pk 6 [0] rfl)⟩
     refine G.noB rfl (decide_eq_false c29) (G.run 3 rfl ?_)
     obtain ⟨t31, h32, H⟩ := Option.bind_eq_some_iff.1 H
     refine G.region (GO.fld (⟨b15, 1, none⟩) rfl rfl fl66_1 rfl rfl (GO.ldBox (j := 0) HS rfl rfl rfl rfl na64 rfl (GO.fn rfl func68 fok68.1 fok68.2 rfl rfl (impl_size_impl_end.calls HS (RdIn.own (j := 2) rfl) h32) (fun _ wd33 ⟨h34, HS⟩ => ⟨_, h34, (GO.assign rfl rfl rfl (GO.nil (G.run 3 rfl ?_)))⟩))))
     obtain ⟨t35, t36, h37, H⟩ := bind2_elim H
     refine G.region (GO.ldBoxA (j := 4) ([.slice A_a d_Crossings.length c_a, .int .i64 d_Circles]) HS rfl rfl rfl rfl ag30 rfl (GO.fn rfl func21 fok21.1 fok21.2 rfl rfl (impl_copyDiagram.calls HS (RdIn.drop 5 r_a) h37) (fun _ wd40 ⟨A38, c39, h41, HS⟩ => ⟨_, h41, (GO.alloc HS rfl zr30 rfl rfl fun b42 wd43 HS => GO.stBox (j := 0) (vs := [.slice A38 t35.length c39, .int .i64 t36]) ([.slice A38 t35.length c39, .int .i64 t36]) HS rfl rfl rfl rfl rfl (htA ag30) rfl rfl rfl fun wd44 HS => GO.nil (G.seq ?_))⟩)))
     obtain ⟨c45, H⟩ := ite_none H
     have h46 := ((RdIn.own (j := 4) rfl) _ HS).2.2.1
     obtain ⟨e47, h48, H⟩ := bnd_elim H
     obtain ⟨t49, h50, H⟩ := Option.bind_eq_some_iff.1 H
     obtain ⟨c51, H⟩ := ite_none H
     refine G.lex mixed [1, 3, 6, 0, 2, 4, 5, 7] (by kernel_rfl) ?_
     replace HS := HS.drew
     refine GX.l0 rfl rfl (fun _ _ g => GO.fld (⟨b15, 1, none⟩) rfl rfl fl66_1 rfl rfl g) rfl (GX.ps 2 rfl (GX.l1 rfl rfl rfl (fun _ g => GO.ldBoxA (j := 0) ([.slice A38 t35.length c39, .int .i64 t36]) HS rfl rfl rfl rfl ag30 rfl g) rfl (GX.l1 rfl rfl rfl (fun _ g => GO.ldBox (j := 2) HS rfl rfl rfl rfl na64 rfl g) rfl (GX.l0 rfl rfl (fun _ _ g => GO.ix rfl rfl rfl underlying64 sz94 h46 c45.1 c45.2 rfl g) rfl (GX.l1 rfl rfl rfl (fun _ g => GO.ldRdA (T := T_GEnd) (n := a_.toNat) HS (RdIn.own (j := 4) rfl) rfl rfl (getD_eq (ltN c45) h48) ag94 rfl g) rfl (GX.l2 rfl ?_))))))
     replace HS := HS.pk 7 [1, 0, 2, 3, 4, 5, 6] rfl
     refine GO.fn rfl func69 fok69.1 fok69.2 rfl rfl (impl_Diagram_set.calls HS  h50) (fun _ wd52 ⟨h53, HS⟩ => ⟨_, h53, (GX.fin trivial (GX.nil ?_))⟩)
     replace HS := HS.boxEq (j := 1) (cs' := [.slice A38 t49.length c39, .int .i64 t36]) rfl (by simp only [List.length_set, c51] <;> rfl)
     refine G.seq (G.region (GO.ps 4 rfl (GO.buildV (.agg [.int .i64 a_, .int .i64 (w64 (t31 + 1)), .int .i64 t31, .int .i64 t31, .int .i64 1].toArray) rfl rfl (fun _ => by kernel_rfl) rfl (GO.ps 4 rfl (GO.buildV (.agg [.int .i64 a_, .int .i64 t31, .int .i64 t31, .int .i64 (w64 (t31 + 1)), .int .i64 (-1)].toArray) rfl rfl (fun _ => by kernel_rfl) rfl (GO.ps 4 rfl (GO.buildV (.agg [.int .i64 t31, .int .i64 t31, .int .i64 (w64 (t31 + 1)), .int .i64 a_, .int .i64 1].toArray) rfl rfl (fun _ => by kernel_rfl) rfl (GO.ps 4 rfl (GO.buildV (.agg [.int .i64 t31, .int .i64 a_, .int .i64 (w64 (t31 + 1)), .int .i64 t31, .int .i64 (-1)].toArray) rfl rfl (fun _ => by kernel_rfl) rfl (GO.buildV (.agg [.int .i64 a_, .int .i64 (w64 (t31 + 1)), .int .i64 t31, .int .i64 t31, .int .i64 1, .int .i64 a_, .int .i64 t31, .int .i64 t31, .int .i64 (w64 (t31 + 1)), .int .i64 (-1), .int .i64 t31, .int .i64 t31, .int .i64 (w64 (t31 + 1)), .int .i64 a_, .int .i64 1, .int .i64 t31, .int .i64 a_, .int .i64 (w64 (t31 + 1)), .int .i64 t31, .int .i64 (-1)].toArray) rfl rfl (fun _ => by kernel_rfl) rfl (GO.alloc HS rfl zr97 rfl rfl fun b54 wd55 HS => GO.stBox (j := 0) (vs := [.int .i64 a_, .int .i64 (w64 (t31 + 1)), .int .i64 t31, .int .i64 t31, .int .i64 1, .int .i64 a_, .int .i64 t31, .int .i64 t31, .int .i64 (w64 (t31 + 1)), .int .i64 (-1), .int .i64 t31, .int .i64 t31, .int .i64 (w64 (t31 + 1)), .int .i64 a_, .int .i64 1, .int .i64 t31, .int .i64 a_, .int .i64 (w64 (t31 + 1)), .int .i64 t31, .int .i64 (-1)]) ([.int .i64 a_, .int .i64 (w64 (t31 + 1)), .int .i64 t31, .int .i64 t31, .int .i64 1, .int .i64 a_, .int .i64 t31, .int .i64 t31, .int .i64 (w64 (t31 + 1)), .int .i64 (-1), .int .i64 t31, .int .i64 t31, .int .i64 (w64 (t31 + 1)), .int .i64 a_, .int .i64 1, .int .i64 t31, .int .i64 a_, .int .i64 (w64 (t31 + 1)), .int .i64 t31, .int .i64 (-1)]) HS rfl rfl rfl rfl rfl (htA ag97) rfl rfl rfl fun wd56 HS => GO.nil (G.seq ?_))))))))))))
     rcases ite_elim H with ⟨c57, H⟩ | ⟨c57, H⟩
     ·
      obtain ⟨c63, H⟩ := ite_none H
      refine G.lexS mixed (fun w => St w0 w (Box b54 97 [.int .i64 a_, .int .i64 (w64 (t31 + 1)), .int .i64 t31, .int .i64 t31, .int .i64 1, .int .i64 a_, .int .i64 t31, .int .i64 t31, .int .i64 (w64 (t31 + 1)), .int .i64 (-1), .int .i64 t31, .int .i64 t31, .int .i64 (w64 (t31 + 1)), .int .i64 a_, .int .i64 1, .int .i64 t31, .int .i64 a_, .int .i64 (w64 (t31 + 1)), .int .i64 t31, .int .i64 (-1)] :: Box b42 30 [.slice A38 t49.length c39, .int .i64 t36] :: L)) [1, 4] [0, 2, 3, 1, 4, 5, 6, 7, 8] 8 (by kernel_rfl) (by kernel_rfl) (HS.drew.pk 8 [0, 2] rfl) ?_
      replace HS := HS.drew
      refine GX.l0 rfl rfl (fun _ _ g => GO.fld (⟨b42, 0, none⟩) rfl rfl fl30_0 rfl rfl g) rfl (GX.ps 1 rfl (GX.l0 rfl rfl (fun _ _ g => GO.ixP 0 rfl rfl rfl c57 underlying97 sz61 rfl rfl g) rfl (GX.ls rfl rfl rfl (HS.pk 8 [0, 2] rfl) (fun _ HS _ g => GO.ldBox (j := 1) HS rfl rfl rfl rfl na28 rfl g) rfl (GX.ls rfl rfl rfl (HS.pk 8 [0, 2] rfl) (fun _ HS _ g => GO.ldBoxA (j := 0) ([.int .i64 a_, .int .i64 (w64 (t31 + 1)), .int .i64 t31, .int .i64 t31, .int .i64 1]) HS rfl rfl rfl rfl ag61 rfl g) rfl (GX.l2 rfl (GO.buildS (el := 61) ([.int .i64 a_, .int .i64 (w64 (t31 + 1)), .int .i64 t31, .int .i64 t31, .int .i64 1]) HS rfl rfl (fun _ => by kernel_rfl) rfl fun b58 wd59 HS => GX.fin (HS.pk 9 [1, 3] rfl) (GX.l2 rfl (GO.app1 (T := T_GCrossing) (j := 2) (jb := 0) (⟨a_, w64 (t31 + 1), t31, t31, 1⟩ : GCrossing) HS rfl rfl flat_flat rfl rfl rfl underlying28 inf61 rfl rfl rfl c63 rfl fun A61 c62 wd60 HS => GX.fin (HS.pk 9 [1, 3] rfl) (GX.l0 rfl rfl (fun _ _ g => GO.fld (⟨b42, 0, none⟩) rfl rfl fl30_0 rfl rfl g) rfl (GX.l2 rfl (GO.stBox (j := 3) (vs := [.slice A61 (t49 ++ [(⟨a_, w64 (t31 + 1), t31, t31, 1⟩ : GCrossing)]).length c62]) ([.slice A61 (t49 ++ [(⟨a_, w64 (t31 + 1), t31, t31, 1⟩ : GCrossing)]).length c62, .int .i64 t36]) HS rfl rfl rfl rfl rfl (htN na28 rfl) rfl rfl rfl fun wd64 HS => GX.finZ ?_)))))))))))
      refine GX.nil (G.seq (G.region (GO.ldBoxA (j := 3) ([.slice A61 (t49 ++ [(⟨a_, w64 (t31 + 1), t31, t31, 1⟩ : GCrossing)]).length c62, .int .i64 t36]) HS rfl rfl rfl rfl ag30 rfl (GO.stBox (j := 7) (vs := [.slice A61 (t49 ++ [(⟨a_, w64 (t31 + 1), t31, t31, 1⟩ : GCrossing)]).length c62, .int .i64 t36]) ([.slice A61 (t49 ++ [(⟨a_, w64 (t31 + 1), t31, t31, 1⟩ : GCrossing)]).length c62, .int .i64 t36]) HS rfl rfl rfl rfl rfl (htA ag30) rfl rfl rfl fun wd65 HS => GO.assign rfl rfl rfl (GO.nil ?_)))))
      obtain ⟨rfl, rfl, rfl⟩ := some3 H
      exact G.ret2 _ _ func39 rfl (Res1.boxA (j := 7) (vs := [.slice A61 (t49 ++ [(⟨a_, w64 (t31 + 1), t31, t31, 1⟩ : GCrossing)]).length c62, .int .i64 t36]) HS rfl rfl rfl ag30) rfl ⟨_, _, rfl, (HS.pk 9 [2] rfl)⟩
     rcases ite_elim H with ⟨c66, H⟩ | ⟨c66, H⟩
     ·
      obtain ⟨c72, H⟩ := ite_none H
      refine G.lexS mixed (fun w => St w0 w (Box b54 97 [.int .i64 a_, .int .i64 (w64 (t31 + 1)), .int .i64 t31, .int .i64 t31, .int .i64 1, .int .i64 a_, .int .i64 t31, .int .i64 t31, .int .i64 (w64 (t31 + 1)), .int .i64 (-1), .int .i64 t31, .int .i64 t31, .int .i64 (w64 (t31 + 1)), .int .i64 a_, .int .i64 1, .int .i64 t31, .int .i64 a_, .int .i64 (w64 (t31 + 1)), .int .i64 t31, .int .i64 (-1)] :: Box b42 30 [.slice A38 t49.length c39, .int .i64 t36] :: L)) [1, 4] [0, 2, 3, 1, 4, 5, 6, 7, 8] 8 (by kernel_rfl) (by kernel_rfl) (HS.drew.pk 8 [0, 2] rfl) ?_
      replace HS := HS.drew
      refine GX.l0 rfl rfl (fun _ _ g => GO.fld (⟨b42, 0, none⟩) rfl rfl fl30_0 rfl rfl g) rfl (GX.ps 1 rfl (GX.l0 rfl rfl (fun _ _ g => GO.ixP 1 rfl rfl rfl c66 underlying97 sz61 rfl rfl g) rfl (GX.ls rfl rfl rfl (HS.pk 8 [0, 2] rfl) (fun _ HS _ g => GO.ldBox (j := 1) HS rfl rfl rfl rfl na28 rfl g) rfl (GX.ls rfl rfl rfl (HS.pk 8 [0, 2] rfl) (fun _ HS _ g => GO.ldBoxA (j := 0) ([.int .i64 a_, .int .i64 t31, .int .i64 t31, .int .i64 (w64 (t31 + 1)), .int .i64 (-1)]) HS rfl rfl rfl rfl ag61 rfl g) rfl (GX.l2 rfl (GO.buildS (el := 61) ([.int .i64 a_, .int .i64 t31, .int .i64 t31, .int .i64 (w64 (t31 + 1)), .int .i64 (-1)]) HS rfl rfl (fun _ => by kernel_rfl) rfl fun b67 wd68 HS => GX.fin (HS.pk 9 [1, 3] rfl) (GX.l2 rfl (GO.app1 (T := T_GCrossing) (j := 2) (jb := 0) (⟨a_, t31, t31, w64 (t31 + 1), (-1)⟩ : GCrossing) HS rfl rfl flat_flat rfl rfl rfl underlying28 inf61 rfl rfl rfl c72 rfl fun A70 c71 wd69 HS => GX.fin (HS.pk 9 [1, 3] rfl) (GX.l0 rfl rfl (fun _ _ g => GO.fld (⟨b42, 0, none⟩) rfl rfl fl30_0 rfl rfl g) rfl (GX.l2 rfl (GO.stBox (j := 3) (vs := [.slice A70 (t49 ++ [(⟨a_, t31, t31, w64 (t31 + 1), (-1)⟩ : GCrossing)]).length c71]) ([.slice A70 (t49 ++ [(⟨a_, t31, t31, w64 (t31 + 1), (-1)⟩ : GCrossing)]).length c71, .int .i64 t36]) HS rfl rfl rfl rfl rfl (htN na28 rfl) rfl rfl rfl fun wd73 HS => GX.finZ ?_)))))))))))
      refine GX.nil (G.seq (G.region (GO.ldBoxA (j := 3) ([.slice A70 (t49 ++ [(⟨a_, t31, t31, w64 (t31 + 1), (-1)⟩ : GCrossing)]).length c71, .int .i64 t36]) HS rfl rfl rfl rfl ag30 rfl (GO.stBox (j := 7) (vs := [.slice A70 (t49 ++ [(⟨a_, t31, t31, w64 (t31 + 1), (-1)⟩ : GCrossing)]).length c71, .int .i64 t36]) ([.slice A70 (t49 ++ [(⟨a_, t31, t31, w64 (t31 + 1), (-1)⟩ : GCrossing)]).length c71, .int .i64 t36]) HS rfl rfl rfl rfl rfl (htA ag30) rfl rfl rfl fun wd74 HS => GO.assign rfl rfl rfl (GO.nil ?_)))))
      obtain ⟨rfl, rfl, rfl⟩ := some3 H
      exact G.ret2 _ _ func39 rfl (Res1.boxA (j := 7) (vs := [.slice A70 (t49 ++ [(⟨a_, t31, t31, w64 (t31 + 1), (-1)⟩ : GCrossing)]).length c71, .int .i64 t36]) HS rfl rfl rfl ag30) rfl ⟨_, _, rfl, (HS.pk 9 [2] rfl)⟩
     rcases ite_elim H with ⟨c75, H⟩ | ⟨c75, H⟩
     ·
      obtain ⟨c81, H⟩ := ite_none H
      refine G.lexS mixed (fun w => St w0 w (Box b54 97 [.int .i64 a_, .int .i64 (w64 (t31 + 1)), .int .i64 t31, .int .i64 t31, .int .i64 1, .int .i64 a_, .int .i64 t31, .int .i64 t31, .int .i64 (w64 (t31 + 1)), .int .i64 (-1), .int .i64 t31, .int .i64 t31, .int .i64 (w64 (t31 + 1)), .int .i64 a_, .int .i64 1, .int .i64 t31, .int .i64 a_, .int .i64 (w64 (t31 + 1)), .int .i64 t31, .int .i64 (-1)] :: Box b42 30 [.slice A38 t49.length c39, .int .i64 t36] :: L)) [1, 4] [0, 2, 3, 1, 4, 5, 6, 7, 8] 8 (by kernel_rfl) (by kernel_rfl) (HS.drew.pk 8 [0, 2] rfl) ?_
      replace HS := HS.drew
      refine GX.l0 rfl rfl (fun _ _ g => GO.fld (⟨b42, 0, none⟩) rfl rfl fl30_0 rfl rfl g) rfl (GX.ps 1 rfl (GX.l0 rfl rfl (fun _ _ g => GO.ixP 2 rfl rfl rfl c75 underlying97 sz61 rfl rfl g) rfl (GX.ls rfl rfl rfl (HS.pk 8 [0, 2] rfl) (fun _ HS _ g => GO.ldBox (j := 1) HS rfl rfl rfl rfl na28 rfl g) rfl (GX.ls rfl rfl rfl (HS.pk 8 [0, 2] rfl) (fun _ HS _ g => GO.ldBoxA (j := 0) ([.int .i64 t31, .int .i64 t31, .int .i64 (w64 (t31 + 1)), .int .i64 a_, .int .i64 1]) HS rfl rfl rfl rfl ag61 rfl g) rfl (GX.l2 rfl (GO.buildS (el := 61) ([.int .i64 t31, .int .i64 t31, .int .i64 (w64 (t31 + 1)), .int .i64 a_, .int .i64 1]) HS rfl rfl (fun _ => by kernel_rfl) rfl fun b76 wd77 HS => GX.fin (HS.pk 9 [1, 3] rfl) (GX.l2 rfl (GO.app1 (T := T_GCrossing) (j := 2) (jb := 0) (⟨t31, t31, w64 (t31 + 1), a_, 1⟩ : GCrossing) HS rfl rfl flat_flat rfl rfl rfl underlying28 inf61 rfl rfl rfl c81 rfl fun A79 c80 wd78 HS => GX.fin (HS.pk 9 [1, 3] rfl) (GX.l0 rfl rfl (fun _ _ g => GO.fld (⟨b42, 0, none⟩) rfl rfl fl30_0 rfl rfl g) rfl (GX.l2 rfl (GO.stBox (j := 3) (vs := [.slice A79 (t49 ++ [(⟨t31, t31, w64 (t31 + 1), a_, 1⟩ : GCrossing)]).length c80]) ([.slice A79 (t49 ++ [(⟨t31, t31, w64 (t31 + 1), a_, 1⟩ : GCrossing)]).length c80, .int .i64 t36]) HS rfl rfl rfl rfl rfl (htN na28 rfl) rfl rfl rfl fun wd82 HS => GX.finZ ?_)))))))))))
      refine GX.nil (G.seq (G.region (GO.ldBoxA (j := 3) ([.slice A79 (t49 ++ [(⟨t31, t31, w64 (t31 + 1), a_, 1⟩ : GCrossing)]).length c80, .int .i64 t36]) HS rfl rfl rfl rfl ag30 rfl (GO.stBox (j := 7) (vs := [.slice A79 (t49 ++ [(⟨t31, t31, w64 (t31 + 1), a_, 1⟩ : GCrossing)]).length c80, .int .i64 t36]) ([.slice A79 (t49 ++ [(⟨t31, t31, w64 (t31 + 1), a_, 1⟩ : GCrossing)]).length c80, .int .i64 t36]) HS rfl rfl rfl rfl rfl (htA ag30) rfl rfl rfl fun wd83 HS => GO.assign rfl rfl rfl (GO.nil ?_)))))
      obtain ⟨rfl, rfl, rfl⟩ := some3 H
      exact G.ret2 _ _ func39 rfl (Res1.boxA (j := 7) (vs := [.slice A79 (t49 ++ [(⟨t31, t31, w64 (t31 + 1), a_, 1⟩ : GCrossing)]).length c80, .int .i64 t36]) HS rfl rfl rfl ag30) rfl ⟨_, _, rfl, (HS.pk 9 [2] rfl)⟩
     rcases ite_elim H with ⟨c84, H⟩ | ⟨c84, H⟩
     ·
      obtain ⟨c90, H⟩ := ite_none H
      refine G.lexS mixed (fun w => St w0 w (Box b54 97 [.int .i64 a_, .int .i64 (w64 (t31 + 1)), .int .i64 t31, .int .i64 t31, .int .i64 1, .int .i64 a_, .int .i64 t31, .int .i64 t31, .int .i64 (w64 (t31 + 1)), .int .i64 (-1), .int .i64 t31, .int .i64 t31, .int .i64 (w64 (t31 + 1)), .int .i64 a_, .int .i64 1, .int .i64 t31, .int .i64 a_, .int .i64 (w64 (t31 + 1)), .int .i64 t31, .int .i64 (-1)] :: Box b42 30 [.slice A38 t49.length c39, .int .i64 t36] :: L)) [1, 4] [0, 2, 3, 1, 4, 5, 6, 7, 8] 8 (by kernel_rfl) (by kernel_rfl) (HS.drew.pk 8 [0, 2] rfl) ?_
      replace HS := HS.drew
      refine GX.l0 rfl rfl (fun _ _ g => GO.fld (⟨b42, 0, none⟩) rfl rfl fl30_0 rfl rfl g) rfl (GX.ps 1 rfl (GX.l0 rfl rfl (fun _ _ g => GO.ixP 3 rfl rfl rfl c84 underlying97 sz61 rfl rfl g) rfl (GX.ls rfl rfl rfl (HS.pk 8 [0, 2] rfl) (fun _ HS _ g => GO.ldBox (j := 1) HS rfl rfl rfl rfl na28 rfl g) rfl (GX.ls rfl rfl rfl (HS.pk 8 [0, 2] rfl) (fun _ HS _ g => GO.ldBoxA (j := 0) ([.int .i64 t31, .int .i64 a_, .int .i64 (w64 (t31 + 1)), .int .i64 t31, .int .i64 (-1)]) HS rfl rfl rfl rfl ag61 rfl g) rfl (GX.l2 rfl (GO.buildS (el := 61) ([.int .i64 t31, .int .i64 a_, .int .i64 (w64 (t31 + 1)), .int .i64 t31, .int .i64 (-1)]) HS rfl rfl (fun _ => by kernel_rfl) rfl fun b85 wd86 HS => GX.fin (HS.pk 9 [1, 3] rfl) (GX.l2 rfl (GO.app1 (T := T_GCrossing) (j := 2) (jb := 0) (⟨t31, a_, w64 (t31 + 1), t31, (-1)⟩ : GCrossing) HS rfl rfl flat_flat rfl rfl rfl underlying28 inf61 rfl rfl rfl c90 rfl fun A88 c89 wd87 HS => GX.fin (HS.pk 9 [1, 3] rfl) (GX.l0 rfl rfl (fun _ _ g => GO.fld (⟨b42, 0, none⟩) rfl rfl fl30_0 rfl rfl g) rfl (GX.l2 rfl (GO.stBox (j := 3) (vs := [.slice A88 (t49 ++ [(⟨t31, a_, w64 (t31 + 1), t31, (-1)⟩ : GCrossing)]).length c89]) ([.slice A88 (t49 ++ [(⟨t31, a_, w64 (t31 + 1), t31, (-1)⟩ : GCrossing)]).length c89, .int .i64 t36]) HS rfl rfl rfl rfl rfl (htN na28 rfl) rfl rfl rfl fun wd91 HS => GX.finZ ?_)))))))))))
      refine GX.nil (G.seq (G.region (GO.ldBoxA (j := 3) ([.slice A88 (t49 ++ [(⟨t31, a_, w64 (t31 + 1), t31, (-1)⟩ : GCrossing)]).length c89, .int .i64 t36]) HS rfl rfl rfl rfl ag30 rfl (GO.stBox (j := 7) (vs := [.slice A88 (t49 ++ [(⟨t31, a_, w64 (t31 + 1), t31, (-1)⟩ : GCrossing)]).length c89, .int .i64 t36]) ([.slice A88 (t49 ++ [(⟨t31, a_, w64 (t31 + 1), t31, (-1)⟩ : GCrossing)]).length c89, .int .i64 t36]) HS rfl rfl rfl rfl rfl (htA ag30) rfl rfl rfl fun wd92 HS => GO.assign rfl rfl rfl (GO.nil ?_)))))
      obtain ⟨rfl, rfl, rfl⟩ := some3 H
      exact G.ret2 _ _ func39 rfl (Res1.boxA (j := 7) (vs := [.slice A88 (t49 ++ [(⟨t31, a_, w64 (t31 + 1), t31, (-1)⟩ : GCrossing)]).length c89, .int .i64 t36]) HS rfl rfl rfl ag30) rfl ⟨_, _, rfl, (HS.pk 9 [2] rfl)⟩
     cases H
    refine G.yesB rfl (congrArg Bool.not (bnot_of c28)) (G.seq (G.region (GO.buildV (.agg [.slice none 0 0, .int .i64 0].toArray) rfl rfl (fun _ => by kernel_rfl) rfl (GO.stBox (j := 3) (vs := [.slice none 0 0, .int .i64 0]) ([.slice none 0 0, .int .i64 0]) HS rfl rfl rfl rfl rfl (htA ag30) rfl rfl rfl fun wd93 HS => GO.assign rfl rfl rfl (GO.nil ?_)))))
    replace HS := HS.nilRow T_GCrossing 61 (fun _ => ())
    obtain ⟨rfl, rfl, rfl⟩ := some3 H
    exact G.ret2 _ _ func39 rfl (Res1.boxA (j := 4) (vs := [.slice none 0 0, .int .i64 0]) HS rfl rfl rfl ag30) rfl ⟨_, _, rfl, (HS.pk 6 [0] rfl)⟩
   refine G.yesB rfl (congrArg Bool.not (bnot_of c23)) (G.seq (G.region (GO.buildV (.agg [.slice none 0 0, .int .i64 0].toArray) rfl rfl (fun _ => by kernel_rfl) rfl (GO.stBox (j := 3) (vs := [.slice none 0 0, .int .i64 0]) ([.slice none 0 0, .int .i64 0]) HS rfl rfl rfl rfl rfl (htA ag30) rfl rfl rfl fun wd94 HS => GO.assign rfl rfl rfl (GO.nil ?_)))))
   replace HS := HS.nilRow T_GCrossing 61 (fun _ => ())
   obtain ⟨rfl, rfl, rfl⟩ := some3 H
   exact G.ret2 _ _ func39 rfl (Res1.boxA (j := 4) (vs := [.slice none 0 0, .int .i64 0]) HS rfl rfl rfl ag30) rfl ⟨_, _, rfl, (HS.pk 6 [0] rfl)⟩
  refine G.yesB rfl (congrArg Bool.not (bnot_of c18)) (G.seq (G.region (GO.buildV (.agg [.slice none 0 0, .int .i64 0].toArray) rfl rfl (fun _ => by kernel_rfl) rfl (GO.stBox (j := 3) (vs := [.slice none 0 0, .int .i64 0]) ([.slice none 0 0, .int .i64 0]) HS rfl rfl rfl rfl rfl (htA ag30) rfl rfl rfl fun wd95 HS => GO.assign rfl rfl rfl (GO.nil ?_)))))
  replace HS := HS.nilRow T_GCrossing 61 (fun _ => ())
  obtain ⟨rfl, rfl, rfl⟩ := some3 H
  exact G.ret2 _ _ func39 rfl (Res1.boxA (j := 4) (vs := [.slice none 0 0, .int .i64 0]) HS rfl rfl rfl ag30) rfl ⟨_, _, rfl, (HS.pk 6 [0] rfl)⟩
theorem impl_hasIndex_impl_Crossing.calls {w0 w : World} {L : List HObj} {list : List GCrossing} {i : Int} {A_a : Option Addr} {c_a : Nat} {r1 : Bool} (HS : St w0 w (L)) (r_a : RdIn w0 L T_GCrossing A_a c_a (fun _ => ()) list) (H : impl_hasIndex_impl_Crossing.f list i = some r1) :
    Calls prog 70 #[.slice A_a list.length c_a, .int .i64 i] w (impl_hasIndex_impl_Crossing.post w0 L r1) := by
  unfold impl_hasIndex_impl_Crossing.f at H
  refine Calls.of_G func70 rfl rfl rfl ?_
  refine G.run 3 rfl ?_
  obtain ⟨t1, h2, H⟩ := Option.bind_eq_some_iff.1 H
  obtain ⟨t5, h6, H⟩ := Option.bind_eq_some_iff.1 H
  refine G.region (GO.ps 2 rfl (GO.fn rfl func58 fok58.1 fok58.2 rfl rfl (impl_size_impl_Crossing.calls HS r_a h2) (fun _ wd3 ⟨h4, HS⟩ => ⟨_, h4, (GO.sub rfl rfl rfl rfl (GO.fn rfl func59 fok59.1 fok59.2 rfl rfl (impl_inRange.calls HS  h6) (fun _ wd7 ⟨h8, HS⟩ => ⟨_, h8, (GO.assign rfl rfl rfl (GO.nil ?_))⟩)))⟩)))
  obtain rfl := Option.some.inj H
  exact G.ret1 _ func70 rfl rfl ⟨rfl, HS⟩
theorem math_bits_Len64.calls {w0 w : World} {L : List HObj} {K : Nat} {x r1 : Int} (HS : St w0 w (L)) (H : math_bits_Len64.f K x = some r1) :
    Calls prog 132 #[.int .u64 x] w (math_bits_Len64.post w0 L r1) := by
  unfold math_bits_Len64.f at H
  refine Calls.of_G func132 rfl rfl rfl ?_
  refine G.run 5 rfl ?_
  refine G.nameT (fun k_j1 hk_j1 => ?_)
  have at_j1 : ∀ m_j1, m_j1 ≤ K → ∀ (x_2 n_3 : Int) (w : World), math_bits_Len64.j1 K m_j1 x_2 n_3 = some r1 → St w0 w (L) → G prog 132 25 [(0, .int .u64 x_2), (2, .int .i64 n_3)] k_j1 w (math_bits_Len64.post w0 L r1) := by
   intro m_j1 hm_j1 x_2 n_3 w H HS
   cases m_j1 with
   | zero => rw [math_bits_Len64.j1] at H; cases H
   | succ n_j1 =>
    rw [math_bits_Len64.j1] at H
    subst hk_j1
    refine G.run 3 rfl ?_
    refine G.nameT (fun k_j2 hk_j2 => ?_)
    have at_j2 : ∀ m_j2, m_j2 ≤ n_j1 → ∀ (x_5 n_6 : Int) (w : World), math_bits_Len64.j2 K m_j2 x_5 n_6 = some r1 → St w0 w (L) → G prog 132 25 [(0, .int .u64 x_5), (2, .int .i64 n_6)] k_j2 w (math_bits_Len64.post w0 L r1) := by
     intro m_j2 hm_j2 x_5 n_6 w H HS
     cases m_j2 with
     | zero => rw [math_bits_Len64.j2] at H; cases H
     | succ n_j2 =>
      rw [math_bits_Len64.j2] at H
      subst hk_j2
      refine G.run 3 rfl ?_
      refine G.nameT (fun k_j3 hk_j3 => ?_)
      have at_j3 : ∀ m_j3, m_j3 ≤ n_j2 → ∀ (x_8 n_9 : Int) (w : World), math_bits_Len64.j3 K m_j3 x_8 n_9 = some r1 → St w0 w (L) → G prog 132 25 [(0, .int .u64 x_8), (2, .int .i64 n_9)] k_j3 w (math_bits_Len64.post w0 L r1) := by
       intro m_j3 hm_j3 x_8 n_9 w H HS
       cases m_j3 with
       | zero => rw [math_bits_Len64.j3] at H; cases H
       | succ n_j3 =>
        rw [math_bits_Len64.j3] at H
        subst hk_j3
        refine G.seq ?_
        obtain ⟨c10, H⟩ := ite_none H
        refine G.region (GO.ps 2 rfl (GO.conv rfl rfl underlying139 underlying5 rfl (GO.ixStr ([0, 1, 2, 2, 3, 3, 3, 3, 4, 4, 4, 4, 4, 4, 4, 4, 5, 5, 5, 5, 5, 5, 5, 5, 5, 5, 5, 5, 5, 5, 5, 5, 6, 6, 6, 6, 6, 6, 6, 6, 6, 6, 6, 6, 6, 6, 6, 6, 6, 6, 6, 6, 6, 6, 6, 6, 6, 6, 6, 6, 6, 6, 6, 6, 7, 7, 7, 7, 7, 7, 7, 7, 7, 7, 7, 7, 7, 7, 7, 7, 7, 7, 7, 7, 7, 7, 7, 7, 7, 7, 7, 7, 7, 7, 7, 7, 7, 7, 7, 7, 7, 7, 7, 7, 7, 7, 7, 7, 7, 7, 7, 7, 7, 7, 7, 7, 7, 7, 7, 7, 7, 7, 7, 7, 7, 7, 7, 7, 8, 8, 8, 8, 8, 8, 8, 8, 8, 8, 8, 8, 8, 8, 8, 8, 8, 8, 8, 8, 8, 8, 8, 8, 8, 8, 8, 8, 8, 8, 8, 8, 8, 8, 8, 8, 8, 8, 8, 8, 8, 8, 8, 8, 8, 8, 8, 8, 8, 8, 8, 8, 8, 8, 8, 8, 8, 8, 8, 8, 8, 8, 8, 8, 8, 8, 8, 8, 8, 8, 8, 8, 8, 8, 8, 8, 8, 8, 8, 8, 8, 8, 8, 8, 8, 8, 8, 8, 8, 8, 8, 8, 8, 8, 8, 8, 8, 8, 8, 8, 8, 8, 8, 8, 8, 8, 8, 8, 8, 8, 8, 8, 8, 8, 8, 8, 8, 8, 8, 8, 8, 8, 8, 8, 8, 8, 8, 8] : List Int) rfl rfl (by kernel_rfl) rfl underlying9 c10.1 c10.2 rfl (GO.conv rfl rfl underlying5 underlying3 rfl (GO.ps 2 rfl (GO.nil ?_))))))
        obtain rfl := Option.some.inj H
        exact G.ret1 _ func132 rfl rfl ⟨rfl, HS⟩
      rcases ite_elim H with ⟨c11, H⟩ | ⟨c11, H⟩
      ·
       refine G.yesB rfl (decide_eq_true c11) (G.seq (G.region (GO.move rfl rfl rfl (GO.shr rfl rfl rfl (by decide) (by decide) rfl (GO.assign rfl rfl rfl (GO.nil (G.run 1 rfl (G.weak ?_ (at_j3 n_j2 (Nat.le_refl _) _ _ _ H HS)))))))))
       exact ⟨rfl, rfl, trivial⟩
      refine G.noB rfl (decide_eq_false c11) (G.skip (G.weak ?_ (at_j3 n_j2 (Nat.le_refl _) _ _ _ H HS)))
      exact ⟨rfl, rfl, trivial⟩
    rcases ite_elim H with ⟨c12, H⟩ | ⟨c12, H⟩
    ·
     refine G.yesB rfl (decide_eq_true c12) (G.seq (G.region (GO.move rfl rfl rfl (GO.shr rfl rfl rfl (by decide) (by decide) rfl (GO.assign rfl rfl rfl (GO.nil (G.run 1 rfl (G.weak ?_ (at_j2 n_j1 (Nat.le_refl _) _ _ _ H HS)))))))))
     exact ⟨rfl, rfl, trivial⟩
    refine G.noB rfl (decide_eq_false c12) (G.skip (G.weak ?_ (at_j2 n_j1 (Nat.le_refl _) _ _ _ H HS)))
    exact ⟨rfl, rfl, trivial⟩
  rcases ite_elim H with ⟨c13, H⟩ | ⟨c13, H⟩
  ·
   refine G.yesB rfl (decide_eq_true c13) (G.seq (G.region (GO.move rfl rfl rfl (GO.shr rfl rfl rfl (by decide) (by decide) rfl (GO.assign rfl rfl rfl (GO.nil (G.run 1 rfl (G.weak ?_ (at_j1 K (Nat.le_refl _) _ _ _ H HS)))))))))
   exact ⟨rfl, rfl, trivial⟩
  refine G.noB rfl (decide_eq_false c13) (G.skip (G.weak ?_ (at_j1 K (Nat.le_refl _) _ _ _ H HS)))
  exact ⟨rfl, rfl, trivial⟩
theorem math_bits_Len.calls {w0 w : World} {L : List HObj} {K : Nat} {x r1 : Int} (HS : St w0 w (L)) (H : math_bits_Len.f K x = some r1) :
    Calls prog 117 #[.int .u64 x] w (math_bits_Len.post w0 L r1) := by
  unfold math_bits_Len.f at H
  refine Calls.of_G func117 rfl rfl rfl ?_
  refine G.run 6 rfl ?_
  obtain ⟨t1, h2, H⟩ := Option.bind_eq_some_iff.1 H
  refine G.region (GO.move rfl rfl rfl (GO.fn rfl func132 fok132.1 fok132.2 rfl rfl (math_bits_Len64.calls HS  h2) (fun _ wd3 ⟨h4, HS⟩ => ⟨_, h4, (GO.assign rfl rfl rfl (GO.nil ?_))⟩)))
  obtain rfl := Option.some.inj H
  exact G.ret1 _ func117 rfl rfl ⟨rfl, HS⟩
theorem cmp_isNaN_int64.calls {w0 w : World} {L : List HObj} {x : Int} {r1 : Bool} (HS : St w0 w (L)) (H : cmp_isNaN_int64.f x = some r1) :
    Calls prog 138 #[.int .i64 x] w (cmp_isNaN_int64.post w0 L r1) := by
  unfold cmp_isNaN_int64.f at H
  refine Calls.of_G func138 rfl rfl rfl ?_
  refine G.run 4 rfl ?_
  obtain rfl := Option.some.inj H
  exact G.ret1 _ func138 rfl rfl ⟨rfl, HS⟩
theorem cmp_Less_int64.calls {w0 w : World} {L : List HObj} {x y : Int} {r1 : Bool} (HS : St w0 w (L)) (H : cmp_Less_int64.f x y = some r1) :
    Calls prog 128 #[.int .i64 x, .int .i64 y] w (cmp_Less_int64.post w0 L r1) := by
  unfold cmp_Less_int64.f at H
  refine Calls.of_G func128 rfl rfl rfl ?_
  refine G.run 3 rfl ?_
  obtain ⟨t1, h2, H⟩ := Option.bind_eq_some_iff.1 H
  rcases ite_elim H with ⟨c5, H⟩ | ⟨c5, H⟩
  ·
   obtain ⟨t6, h7, H⟩ := Option.bind_eq_some_iff.1 H
   rcases ite_elim H with ⟨c10, H⟩ | ⟨c10, H⟩
   ·
    refine G.region (GO.move rfl rfl rfl (GO.fn rfl func138 fok138.1 fok138.2 rfl rfl (cmp_isNaN_int64.calls HS  h2) (fun _ wd3 ⟨h4, HS⟩ => ⟨_, h4, (GO.move rfl rfl rfl (GO.known (t := 7) rfl c5 (GO.on rfl rfl rfl rfl (GO.move rfl rfl rfl (GO.back (GO.on rfl rfl rfl rfl (GO.fn rfl func138 fok138.1 fok138.2 rfl rfl (cmp_isNaN_int64.calls HS  h7) (fun _ wd8 ⟨h9, HS⟩ => ⟨_, h9, (GO.back (GO.on rfl rfl rfl rfl (GO.not rfl rfl rfl (GO.back (GO.ps 2 rfl ?_)))))⟩))))))))⟩)))
    refine GO.known (t := 12) rfl (congrArg Bool.not c10) (GO.on rfl rfl rfl rfl (GO.move rfl rfl rfl (GO.back (GO.on rfl rfl rfl rfl (GO.move rfl rfl rfl (GO.back (GO.on rfl rfl rfl rfl (GO.lss rfl rfl rfl rfl (GO.back (GO.ps 2 rfl (GO.nil ?_)))))))))))
    obtain rfl := Option.some.inj H
    exact G.ret1 _ func128 rfl rfl ⟨rfl, HS⟩
   refine G.region (GO.move rfl rfl rfl (GO.fn rfl func138 fok138.1 fok138.2 rfl rfl (cmp_isNaN_int64.calls HS  h2) (fun _ wd3 ⟨h4, HS⟩ => ⟨_, h4, (GO.move rfl rfl rfl (GO.known (t := 7) rfl c5 (GO.on rfl rfl rfl rfl (GO.move rfl rfl rfl (GO.back (GO.on rfl rfl rfl rfl (GO.fn rfl func138 fok138.1 fok138.2 rfl rfl (cmp_isNaN_int64.calls HS  h7) (fun _ wd8 ⟨h9, HS⟩ => ⟨_, h9, (GO.back (GO.on rfl rfl rfl rfl (GO.not rfl rfl rfl (GO.back (GO.ps 2 rfl ?_)))))⟩))))))))⟩)))
   refine GO.known (t := 12) rfl (congrArg Bool.not (bnot_of c10)) (GO.off rfl rfl rfl rfl rfl rfl (GO.off rfl rfl rfl rfl rfl rfl (GO.off rfl rfl rfl rfl rfl rfl (GO.ps 2 rfl (GO.nil ?_)))))
   obtain rfl := Option.some.inj H
   exact G.ret1 _ func128 rfl rfl ⟨rfl, HS⟩
  refine G.region (GO.move rfl rfl rfl (GO.fn rfl func138 fok138.1 fok138.2 rfl rfl (cmp_isNaN_int64.calls HS  h2) (fun _ wd3 ⟨h4, HS⟩ => ⟨_, h4, (GO.move rfl rfl rfl (GO.known (t := 7) rfl (bnot_of c5) (GO.off rfl rfl rfl rfl rfl rfl (GO.off rfl rfl rfl rfl rfl rfl (GO.off rfl rfl rfl rfl rfl rfl (GO.ps 2 rfl (GO.on rfl rfl rfl rfl (GO.move rfl rfl rfl (GO.back (GO.on rfl rfl rfl rfl (GO.move rfl rfl rfl (GO.back ?_))))))))))))⟩)))
  refine GO.on rfl rfl rfl rfl (GO.lss rfl rfl rfl rfl (GO.back (GO.ps 2 rfl (GO.nil ?_))))
  obtain rfl := Option.some.inj H
  exact G.ret1 _ func128 rfl rfl ⟨rfl, HS⟩
theorem slices_insertionSortOrdered_int64.calls {w0 w : World} {L : List HObj} {K : Nat} {data : List Int} {a_ b_ : Int} {A_a : Option Addr} {c_a : Nat} {u_a : TypeId} {r1 : List Int} (HS : St w0 w (Own (TInt .i64) u_a A_a c_a (fun _ => ()) data :: L)) (H : slices_insertionSortOrdered_int64.f K data a_ b_ = some r1) :
    Calls prog 122 #[.slice A_a data.length c_a, .int .i64 a_, .int .i64 b_] w (slices_insertionSortOrdered_int64.post w0 L A_a c_a u_a r1) := by
  unfold slices_insertionSortOrdered_int64.f at H
  refine Calls.of_G func122 rfl rfl rfl ?_
  refine G.run 4 rfl ?_
  refine G.name (fun k_l1 hk_l1 => ?_)
  have at_l1 : ∀ m_l1, m_l1 ≤ K → ∀ (x76 : List Int) (i_77 : Int) (w : World), slices_insertionSortOrdered_int64.l1 K m_l1 a_ b_ x76 i_77 = some r1 → St w0 w (Own (TInt .i64) u_a A_a c_a (fun _ => ()) x76 :: L) → G prog 122 49 [(0, .slice A_a x76.length c_a), (1, .int .i64 a_), (2, .int .i64 b_), (6, .int .i64 i_77)] k_l1 w (slices_insertionSortOrdered_int64.post w0 L A_a c_a u_a r1) := by
   intro m_l1
   induction m_l1 using Nat.strongRecOn with
   | _ m_l1 ih_l1 =>
    intro hm_l1 x76 i_77 w H HS
    cases m_l1 with
    | zero => rw [slices_insertionSortOrdered_int64.l1] at H; cases H
    | succ n_l1 =>
     rw [slices_insertionSortOrdered_int64.l1] at H
     subst hk_l1
     refine G.run 3 rfl ?_
     rcases ite_elim H with ⟨c153, H⟩ | ⟨c153, H⟩
     ·
      refine G.yesB rfl (decide_eq_true c153) (G.run 7 rfl ?_)
      refine G.name (fun k_l4 hk_l4 => ?_)
      have at_l4 : ∀ m_l4, m_l4 ≤ n_l1 → ∀ (x178 : List Int) (j_179 : Int) (w : World), slices_insertionSortOrdered_int64.l4 K m_l4 a_ b_ i_77 x178 j_179 = some r1 → St w0 w (Own (TInt .i64) u_a A_a c_a (fun _ => ()) x178 :: L) → G prog 122 49 [(0, .slice A_a x178.length c_a), (1, .int .i64 a_), (2, .int .i64 b_), (6, .int .i64 i_77), (7, .int .i64 j_179)] k_l4 w (slices_insertionSortOrdered_int64.post w0 L A_a c_a u_a r1) := by
       intro m_l4
       induction m_l4 using Nat.strongRecOn with
       | _ m_l4 ih_l4 =>
        intro hm_l4 x178 j_179 w H HS
        cases m_l4 with
        | zero => rw [slices_insertionSortOrdered_int64.l4] at H; cases H
        | succ n_l4 =>
         rw [slices_insertionSortOrdered_int64.l4] at H
         subst hk_l4
         refine G.run 2 rfl ?_
         rcases ite_elim H with ⟨c211, H⟩ | ⟨c211, H⟩
         ·
          obtain ⟨c212, H⟩ := ite_none H
          have h213 := ((RdIn.own (j := 0) rfl) _ HS).2.2.1
          obtain ⟨c214, H⟩ := ite_none H
          have h215 := ((RdIn.own (j := 0) rfl) _ HS).2.2.1
          obtain ⟨t216, h217, H⟩ := Option.bind_eq_some_iff.1 H
          refine G.lex mixed [0, 1, 2, 3, 4, 5, 6, 8, 9, 10, 11, 7, 12, 13, 14] (by kernel_rfl) ?_
          replace HS := HS.drew
          refine GX.ps 3 rfl (GX.l0 rfl rfl (fun _ _ g => GO.move rfl rfl rfl (GO.known (t := 19) rfl (decide_eq_true c211) g)) rfl (GX.l0 rfl rfl (fun _ _ g => GO.on rfl rfl rfl rfl (GO.move rfl rfl rfl (GO.back g))) rfl (GX.l0 rfl rfl (fun _ _ g => GO.on rfl rfl rfl rfl (GO.move rfl rfl rfl (GO.back g))) rfl (GX.l0 rfl rfl (fun _ _ g => GO.on rfl rfl rfl rfl (GO.ix rfl rfl rfl underlying74 sz2 h213 c212.1 c212.2 rfl (GO.back g))) rfl (GX.l0 rfl rfl (fun _ _ g => GO.on rfl rfl rfl rfl (GO.move rfl rfl rfl (GO.back g))) rfl (GX.l0 rfl rfl (fun _ _ g => GO.on rfl rfl rfl rfl (GO.move rfl rfl rfl (GO.back g))) rfl (GX.l0 rfl rfl (fun _ _ g => GO.on rfl rfl rfl rfl (GO.sub rfl rfl rfl rfl (GO.back g))) rfl (GX.l0 rfl rfl (fun _ _ g => GO.on rfl rfl rfl rfl (GO.ix rfl rfl rfl underlying74 sz2 h215 c214.1 c214.2 rfl (GO.back g))) rfl (GX.l1 rfl rfl rfl (fun _ g => GO.on rfl rfl rfl rfl (GO.ldRd (T := (TInt .i64)) (n := j_179.toNat) (o := 0) HS (RdIn.own (j := 0) rfl) rfl rfl (getD_some (d := 0) (ltN c212)) rfl rfl na2 rfl (GO.back g))) rfl (GX.l1 rfl rfl rfl (fun _ g => GO.on rfl rfl rfl rfl (GO.ldRd (T := (TInt .i64)) (n := (w64 (j_179 - 1)).toNat) (o := 0) HS (RdIn.own (j := 0) rfl) rfl rfl (getD_some (d := 0) (ltN c214)) rfl rfl na2 rfl (GO.back g))) rfl (GX.l2 rfl (GO.on rfl rfl rfl rfl (GO.fn rfl func128 fok128.1 fok128.2 rfl rfl (cmp_Less_int64.calls HS  h217) (fun _ wd218 ⟨h219, HS⟩ => ⟨_, h219, (GO.back ?_)⟩))))))))))))))
          refine GX.fin trivial (GX.ps 1 rfl (GX.nil ?_))
          rcases ite_elim H with ⟨c220, H⟩ | ⟨c220, H⟩
          ·
           refine G.yesB rfl c220 (G.run 3 rfl ?_)
           have h221 := ((RdIn.own (j := 0) rfl) _ HS).2.2.1
           have h222 := ((RdIn.own (j := 0) rfl) _ HS).2.2.1
           have h223 := ((RdIn.own (j := 0) rfl) _ HS).2.2.1
           have h225 := ((RdIn.own (j := 0) rfl) _ HS).2.2.1
           obtain ⟨c227, H⟩ := ite_none H
           refine G.lex mixed [0, 1, 2, 3, 4, 5, 6, 7, 8, 10, 11, 12, 9, 13, 14, 15, 16, 17] (by kernel_rfl) ?_
           replace HS := HS.drew
           refine GX.ps 8 rfl (GX.l0 rfl rfl (fun _ _ g => GO.ix rfl rfl rfl underlying74 sz2 h221 c214.1 c214.2 rfl g) rfl (GX.ps 2 rfl (GX.l0 rfl rfl (fun _ _ g => GO.ix rfl rfl rfl underlying74 sz2 h222 c212.1 c212.2 rfl g) rfl (GX.l1 rfl rfl rfl (fun _ g => GO.ldRd (T := (TInt .i64)) (n := (w64 (j_179 - 1)).toNat) (o := 0) HS (RdIn.own (j := 0) rfl) rfl rfl (getD_some (d := 0) (ltN c214)) rfl rfl na2 rfl g) rfl (GX.l1 rfl rfl rfl (fun _ g => GO.ldRd (T := (TInt .i64)) (n := j_179.toNat) (o := 0) HS (RdIn.own (j := 0) rfl) rfl rfl (getD_some (d := 0) (ltN c212)) rfl rfl na2 rfl g) rfl (GX.l0 rfl rfl (fun _ _ g => GO.ix rfl rfl rfl underlying74 sz2 h223 c212.1 c212.2 rfl g) rfl (GX.l2 rfl (GO.stRow (T := (TInt .i64)) (j := 0) (n := j_179.toNat) (o := 0) (vs := [.int .i64 (x178.getD ((w64 (j_179 - 1)).toNat) 0)]) (x178.getD ((w64 (j_179 - 1)).toNat) 0) HS rfl flat_flat rfl rfl rfl rfl (htN na2 rfl) rfl (getD_some (d := 0) (ltN c212)) rfl rfl fun wd224 HS => GX.fin trivial (GX.l0 rfl rfl (fun _ _ g => GO.ix rfl rfl rfl underlying74 sz2 h225 c214.1 c214.2 rfl g) rfl (GX.l2 rfl (GO.stRow (T := (TInt .i64)) (j := 0) (n := (w64 (j_179 - 1)).toNat) (o := 0) (vs := [.int .i64 (x178.getD j_179.toNat 0)]) (x178.getD j_179.toNat 0) HS rfl flat_flat rfl rfl rfl rfl (htN na2 rfl) rfl (getD_some (d := 0) (ltN c227)) rfl rfl fun wd226 HS => GX.fin trivial (GX.nil ?_))))))))))))
           refine G.len (t := 0) (m := ((x178.set j_179.toNat (x178.getD ((w64 (j_179 - 1)).toNat) 0)).set ((w64 (j_179 - 1)).toNat) (x178.getD j_179.toNat 0)).length) rfl (by simp only [List.length_set] <;> rfl) (G.len (t := 20) (m := ((x178.set j_179.toNat (x178.getD ((w64 (j_179 - 1)).toNat) 0)).set ((w64 (j_179 - 1)).toNat) (x178.getD j_179.toNat 0)).length) rfl (by simp only [List.length_set] <;> rfl) (G.len (t := 24) (m := ((x178.set j_179.toNat (x178.getD ((w64 (j_179 - 1)).toNat) 0)).set ((w64 (j_179 - 1)).toNat) (x178.getD j_179.toNat 0)).length) rfl (by simp only [List.length_set] <;> rfl) (G.run 3 rfl (G.weak ?_ (ih_l4 n_l4 (Nat.lt_succ_of_le (Nat.le_refl _)) (Nat.le_of_succ_le hm_l4) _ _ _ H HS)))))
           exact ⟨rfl, rfl, rfl, rfl, rfl, trivial⟩
          refine G.noB rfl (bnot_of c220) (G.run 4 rfl (G.weak ?_ (ih_l1 n_l4 (by omega) (by omega) _ _ _ H HS)))
          exact ⟨rfl, rfl, rfl, rfl, trivial⟩
         refine G.lex mixed [0, 1, 2, 3, 4, 5, 6, 8, 9, 10, 11, 7, 12, 13, 14] (by kernel_rfl) ?_
         replace HS := HS.drew
         refine GX.ps 3 rfl (GX.l0 rfl rfl (fun _ _ g => GO.move rfl rfl rfl (GO.known (t := 19) rfl (decide_eq_false c211) g)) rfl (GX.l0 rfl rfl (fun _ _ g => GO.off rfl rfl rfl rfl rfl rfl g) rfl (GX.l0 rfl rfl (fun _ _ g => GO.off rfl rfl rfl rfl rfl rfl g) rfl (GX.l0 rfl rfl (fun _ _ g => GO.off rfl rfl rfl rfl rfl rfl g) rfl (GX.l0 rfl rfl (fun _ _ g => GO.off rfl rfl rfl rfl rfl rfl g) rfl (GX.l0 rfl rfl (fun _ _ g => GO.off rfl rfl rfl rfl rfl rfl g) rfl (GX.l0 rfl rfl (fun _ _ g => GO.off rfl rfl rfl rfl rfl rfl g) rfl (GX.l0 rfl rfl (fun _ _ g => GO.off rfl rfl rfl rfl rfl rfl g) rfl (GX.l1 rfl rfl rfl (fun _ g => GO.off rfl rfl rfl rfl rfl rfl g) rfl (GX.l1 rfl rfl rfl (fun _ g => GO.off rfl rfl rfl rfl rfl rfl g) rfl (GX.l2 rfl (GO.off rfl rfl rfl rfl rfl rfl (GX.fin trivial (GX.ps 1 rfl ?_))))))))))))))
         refine GX.nil (G.run 5 rfl (G.weak ?_ (ih_l1 n_l4 (by omega) (by omega) _ _ _ H HS)))
         exact ⟨rfl, rfl, rfl, rfl, trivial⟩
      refine G.weak ?_ (at_l4 n_l1 (Nat.le_refl _) _ _ _ H HS)
      exact ⟨rfl, rfl, rfl, rfl, rfl, trivial⟩
     refine G.noB rfl (decide_eq_false c153) (G.exit rfl ?_)
     obtain rfl := Option.some.inj H
     exact G.end0 func122 rfl ⟨rfl, HS⟩
  refine G.weak ?_ (at_l1 K (Nat.le_refl _) _ _ _ H HS)
  exact ⟨rfl, rfl, rfl, rfl, trivial⟩
theorem slices_pdqsortOrdered_int64.calls {w0 w : World} {L : List HObj} {K : Nat} {t : List Int} {o A r : Int} {A_a : Option Addr} {c_a : Nat} {u_a : TypeId} {r1 : List Int} (HS : St w0 w (Own (TInt .i64) u_a A_a c_a (fun _ => ()) t :: L)) (H : slices_pdqsortOrdered_int64.f K t o A r = some r1) :
    Calls prog 116 #[.slice A_a t.length c_a, .int .i64 o, .int .i64 A, .int .i64 r] w (slices_pdqsortOrdered_int64.post w0 L A_a c_a u_a r1) := by
  unfold slices_pdqsortOrdered_int64.f at H
  refine Calls.of_G func116 rfl rfl rfl ?_
  refine G.run 6 rfl ?_
  refine G.name (fun k_l1 hk_l1 => ?_)
  have at_l1 : ∀ m_l1, m_l1 ≤ K → ∀ (w : World), slices_pdqsortOrdered_int64.l1 K m_l1 t o A r = some r1 → St w0 w (Own (TInt .i64) u_a A_a c_a (fun _ => ()) t :: L) → G prog 116 134 [(0, .slice A_a t.length c_a), (1, .int .i64 o), (2, .int .i64 A), (3, .int .i64 r), (8, .bool true), (9, .bool true)] k_l1 w (slices_pdqsortOrdered_int64.post w0 L A_a c_a u_a r1) := by
   intro m_l1
   induction m_l1 using Nat.strongRecOn with
   | _ m_l1 ih_l1 =>
    intro hm_l1 w H HS
    cases m_l1 with
    | zero => rw [slices_pdqsortOrdered_int64.l1] at H; cases H
    | succ n_l1 =>
     rw [slices_pdqsortOrdered_int64.l1] at H
     subst hk_l1
     refine G.run 6 rfl ?_
     rcases ite_elim H with ⟨c8, H⟩ | ⟨c8, H⟩
     ·
      refine G.yesB rfl (decide_eq_true c8) (G.seq ?_)
      obtain ⟨t9, h10, H⟩ := Option.bind_eq_some_iff.1 H
      obtain ⟨c11, H⟩ := ite_none H
      refine G.region (GO.ps 3 rfl ?_)
      replace HS := HS.pk 1 [0] rfl
      refine GO.fn rfl func122 fok122.1 fok122.2 rfl rfl (slices_insertionSortOrdered_int64.calls HS  h10) (fun _ wd12 ⟨h13, HS⟩ => ⟨_, h13, (GO.nil ?_)⟩)
      obtain rfl := Option.some.inj H
      exact G.ret0 func116 rfl ⟨rfl, HS⟩
     refine G.noB rfl (decide_eq_false c8) (G.run 4 rfl ?_)
     rcases ite_elim H with ⟨c14, H⟩ | ⟨c14, H⟩
     ·
      refine G.yesB rfl (decide_eq_true c14) (G.seq ?_)
      cases H
     refine G.noB rfl (decide_eq_false c14) (G.run 7 rfl ?_)
     cases H
  refine G.weak ?_ (at_l1 K (Nat.le_refl _)  _ H HS)
  exact ⟨rfl, rfl, rfl, rfl, rfl, rfl, trivial⟩
theorem slices_Sort_int64_int64.calls {w0 w : World} {L : List HObj} {K : Nat} {x : List Int} {A_a : Option Addr} {c_a : Nat} {u_a : TypeId} {r1 : List Int} (HS : St w0 w (Own (TInt .i64) u_a A_a c_a (fun _ => ()) x :: L)) (H : slices_Sort_int64_int64.f K x = some r1) :
    Calls prog 97 #[.slice A_a x.length c_a] w (slices_Sort_int64_int64.post w0 L A_a c_a u_a r1) := by
  unfold slices_Sort_int64_int64.f at H
  refine Calls.of_G func97 rfl rfl rfl ?_
  refine G.seq (G.region (GO.move rfl rfl rfl (GO.lenS rfl rfl underlying74 rfl (GO.assign rfl rfl rfl (GO.nil ?_)))))
  obtain ⟨t1, h2, H⟩ := Option.bind_eq_some_iff.1 H
  obtain ⟨t5, h6, H⟩ := Option.bind_eq_some_iff.1 H
  obtain ⟨c7, H⟩ := ite_none H
  refine G.region (GO.ps 3 rfl (GO.conv rfl rfl underlying3 underlying127 rfl (GO.fn rfl func117 fok117.1 fok117.2 rfl rfl (math_bits_Len.calls HS  h2) (fun _ wd3 ⟨h4, HS⟩ => ⟨_, h4, ?_⟩))))
  replace HS := HS.pk 1 [0] rfl
  refine GO.fn rfl func116 fok116.1 fok116.2 rfl rfl (slices_pdqsortOrdered_int64.calls HS  h6) (fun _ wd8 ⟨h9, HS⟩ => ⟨_, h9, (GO.nil ?_)⟩)
  obtain rfl := Option.some.inj H
  exact G.end0 func97 rfl ⟨rfl, HS⟩
theorem slices_Compact_int64_int64.calls {w0 w : World} {L : List HObj} {K : Nat} {s : List Int} {A_a : Option Addr} {c_a : Nat} {u_a : TypeId} {r1 : List Int} (HS : St w0 w (Own (TInt .i64) u_a A_a c_a (fun _ => ()) s :: L)) (H : slices_Compact_int64_int64.f K s = some r1) :
    Calls prog 98 #[.slice A_a s.length c_a] w (slices_Compact_int64_int64.post w0 L u_a r1) := by
  unfold slices_Compact_int64_int64.f at H
  refine Calls.of_G func98 rfl rfl rfl ?_
  refine G.run 4 rfl (G.region (GO.move rfl rfl rfl (GO.lenS rfl rfl underlying74 rfl (GO.lss rfl rfl rfl rfl (GO.nil ?_)))))
  rcases ite_elim H with ⟨c1, H⟩ | ⟨c1, H⟩
  ·
   refine G.yesB rfl (decide_eq_true c1) (G.run 2 rfl ?_)
   obtain rfl := Option.some.inj H
   exact G.ret1 _ func98 rfl rfl ⟨_, _, rfl, HS⟩
  refine G.noB rfl (decide_eq_false c1) (G.run 6 rfl ?_)
  refine G.name (fun k_l1 hk_l1 => ?_)
  have at_l1 : ∀ m_l1, m_l1 ≤ K → ∀ (k_45 : Int) (w : World), slices_Compact_int64_int64.l1 K m_l1 s k_45 = some r1 → St w0 w (Own (TInt .i64) u_a A_a c_a (fun _ => ()) s :: L) → G prog 98 61 [(0, .slice A_a s.length c_a), (3, .int .i64 k_45)] k_l1 w (slices_Compact_int64_int64.post w0 L u_a r1) := by
   intro m_l1
   induction m_l1 using Nat.strongRecOn with
   | _ m_l1 ih_l1 =>
    intro hm_l1 k_45 w H HS
    cases m_l1 with
    | zero => rw [slices_Compact_int64_int64.l1] at H; cases H
    | succ n_l1 =>
     rw [slices_Compact_int64_int64.l1] at H
     subst hk_l1
     refine G.run 2 rfl (G.region (GO.ps 2 rfl (GO.lenS rfl rfl underlying74 rfl (GO.lss rfl rfl rfl rfl (GO.nil ?_)))))
     rcases ite_elim H with ⟨c89, H⟩ | ⟨c89, H⟩
     ·
      refine G.yesB rfl (decide_eq_true c89) (G.run 4 rfl ?_)
      obtain ⟨c90, H⟩ := ite_none H
      have h91 := ((RdIn.own (j := 0) rfl) _ HS).2.2.1
      obtain ⟨c92, H⟩ := ite_none H
      have h93 := ((RdIn.own (j := 0) rfl) _ HS).2.2.1
      refine G.lex mixed [0, 1, 2, 4, 5, 6, 7, 3, 8, 9] (by kernel_rfl) ?_
      replace HS := HS.drew
      refine GX.ps 2 rfl (GX.l0 rfl rfl (fun _ _ g => GO.ix rfl rfl rfl underlying74 sz2 h91 c90.1 c90.2 rfl g) rfl (GX.ps 3 rfl (GX.l0 rfl rfl (fun _ _ g => GO.ix rfl rfl rfl underlying74 sz2 h93 c92.1 c92.2 rfl g) rfl (GX.l1 rfl rfl rfl (fun _ g => GO.ldRd (T := (TInt .i64)) (n := k_45.toNat) (o := 0) HS (RdIn.own (j := 0) rfl) rfl rfl (getD_some (d := 0) (ltN c90)) rfl rfl na2 rfl g) rfl (GX.l1 rfl rfl rfl (fun _ g => GO.ldRd (T := (TInt .i64)) (n := (w64 (k_45 - 1)).toNat) (o := 0) HS (RdIn.own (j := 0) rfl) rfl rfl (getD_some (d := 0) (ltN c92)) rfl rfl na2 rfl g) rfl (GX.ps 1 rfl (GX.nil ?_)))))))
      rcases ite_elim H with ⟨c94, H⟩ | ⟨c94, H⟩
      ·
       refine G.yesB rfl (decide_eq_true c94) (G.seq ?_)
       obtain ⟨c95, H⟩ := ite_none H
       refine G.region (GO.ps 2 rfl (GO.slL (T := (TInt .i64)) HS (RdIn.own (j := 0) rfl) rfl rfl rfl underlying74 sz2 c95.1 c95.2 rfl (GO.assign rfl rfl rfl (GO.nil (G.run 5 rfl ?_)))))
       refine G.name (fun k_l4 hk_l4 => ?_)
       have at_l4 : ∀ m_l4, m_l4 ≤ n_l1 → ∀ (x105 : List Int) (k_106 k2_107 : Int) (w : World), slices_Compact_int64_int64.l4 K m_l4 k_45 x105 k_106 k2_107 = some r1 → St w0 w (Own (TInt .i64) u_a A_a c_a (fun _ => ()) x105 :: L) → G prog 98 61 [(0, .slice A_a x105.length c_a), (3, .int .i64 k_106), (4, .slice (cutA A_a k_45.toNat c_a 1) ((x105.take x105.length).drop k_45.toNat).length (c_a - k_45.toNat)), (5, .int .i64 k2_107)] k_l4 w (slices_Compact_int64_int64.post w0 L u_a r1) := by
        intro m_l4
        induction m_l4 using Nat.strongRecOn with
        | _ m_l4 ih_l4 =>
         intro hm_l4 x105 k_106 k2_107 w H HS
         cases m_l4 with
         | zero => rw [slices_Compact_int64_int64.l4] at H; cases H
         | succ n_l4 =>
          rw [slices_Compact_int64_int64.l4] at H
          subst hk_l4
          obtain ⟨c120, H⟩ := ite_none H
          refine G.run 2 rfl (G.region (GO.ps 2 rfl (GO.lenS rfl rfl underlying74 rfl (GO.lss rfl rfl rfl rfl (GO.nil ?_)))))
          rcases ite_elim H with ⟨c121, H⟩ | ⟨c121, H⟩
          ·
           refine G.yesB rfl (decide_eq_true c121) (G.run 4 rfl ?_)
           obtain ⟨c122, H⟩ := ite_none H
           obtain ⟨c123, H⟩ := ite_none H
           refine G.lex mixed [0, 1, 2, 4, 5, 6, 7, 3, 8, 9] (by kernel_rfl) ?_
           replace HS := HS.drew
           refine GX.ps 2 rfl (GX.l0 rfl rfl (fun _ _ g => GO.ix rfl rfl rfl underlying74 sz2 ((RdIn.cut (RdIn.own (j := 0) rfl) (leN c120) (Nat.le_refl _)) _ HS).2.2.1 c122.1 c122.2 rfl g) rfl (GX.ps 3 rfl (GX.l0 rfl rfl (fun _ _ g => GO.ix rfl rfl rfl underlying74 sz2 ((RdIn.cut (RdIn.own (j := 0) rfl) (leN c120) (Nat.le_refl _)) _ HS).2.2.1 c123.1 c123.2 rfl g) rfl (GX.l1 rfl rfl rfl (fun _ g => GO.ldRd (T := (TInt .i64)) (n := k2_107.toNat) (o := 0) HS (RdIn.cut (RdIn.own (j := 0) rfl) (leN c120) (Nat.le_refl _)) rfl rfl (getD_some (d := 0) (ltN c122)) rfl rfl na2 rfl g) rfl (GX.l1 rfl rfl rfl (fun _ g => GO.ldRd (T := (TInt .i64)) (n := (w64 (k2_107 - 1)).toNat) (o := 0) HS (RdIn.cut (RdIn.own (j := 0) rfl) (leN c120) (Nat.le_refl _)) rfl rfl (getD_some (d := 0) (ltN c123)) rfl rfl na2 rfl g) rfl (GX.ps 1 rfl (GX.nil ?_)))))))
           rcases ite_elim H with ⟨c124, H⟩ | ⟨c124, H⟩
           ·
            refine G.noB rfl (congrArg Bool.not (decide_eq_true c124)) (G.run 4 rfl (G.weak ?_ (ih_l4 n_l4 (Nat.lt_succ_of_le (Nat.le_refl _)) (Nat.le_of_succ_le hm_l4) _ _ _ _ H HS)))
            exact ⟨rfl, rfl, rfl, rfl, trivial⟩
           refine G.yesB rfl (congrArg Bool.not (decide_eq_false c124)) (G.seq ?_)
           obtain ⟨c125, H⟩ := ite_none H
           refine G.region (GO.ps 4 rfl (GO.ix rfl rfl rfl underlying74 sz2 ((RdIn.cut (RdIn.own (j := 0) rfl) (leN c120) (Nat.le_refl _)) _ HS).2.2.1 c122.1 c122.2 rfl (GO.ldRd (T := (TInt .i64)) (n := k2_107.toNat) (o := 0) HS (RdIn.cut (RdIn.own (j := 0) rfl) (leN c120) (Nat.le_refl _)) rfl rfl (getD_some (d := 0) (ltN c122)) rfl rfl na2 rfl (GO.ix rfl rfl rfl underlying74 sz2 ((RdIn.own (j := 0) rfl) _ HS).2.2.1 c125.1 c125.2 rfl (GO.stRow (T := (TInt .i64)) (j := 0) (n := k_106.toNat) (o := 0) (vs := [.int .i64 (((x105.take x105.length).drop k_45.toNat).getD k2_107.toNat 0)]) (((x105.take x105.length).drop k_45.toNat).getD k2_107.toNat 0) HS rfl flat_flat rfl rfl rfl rfl (htN na2 rfl) rfl (getD_some (d := 0) (ltN c125)) rfl rfl fun wd126 HS => GO.nil (G.len (t := 0) (m := (x105.set k_106.toNat (((x105.take x105.length).drop k_45.toNat).getD k2_107.toNat 0)).length) rfl (by simp only [List.length_set] <;> rfl) ?_))))))
           obtain ⟨c127, H⟩ := ite_none H
           refine G.len (t := 4) (m := (((x105.set k_106.toNat (((x105.take x105.length).drop k_45.toNat).getD k2_107.toNat 0)).take ((x105.set k_106.toNat (((x105.take x105.length).drop k_45.toNat).getD k2_107.toNat 0)).length)).drop k_45.toNat).length) rfl (by simp only [List.length_drop, List.length_take, Nat.min_self, List.length_set]) (G.run 4 rfl (G.weak ?_ (ih_l4 n_l4 (Nat.lt_succ_of_le (Nat.le_refl _)) (Nat.le_of_succ_le hm_l4) _ _ _ _ H HS)))
           exact ⟨rfl, rfl, rfl, rfl, trivial⟩
          refine G.noB rfl (decide_eq_false c121) (G.run 2 rfl ?_)
          obtain ⟨c128, H⟩ := ite_none H
          have h130 := over_lenR (xs := x105) (z := 0) (cutN (leN c128) (Nat.le_refl _))
          refine G.region (GO.ps 2 rfl (GO.slL (T := (TInt .i64)) HS (RdIn.own (j := 0) rfl) rfl rfl rfl underlying74 sz2 c128.1 c128.2 rfl (GO.clearC (T := (TInt .i64)) (j := 0) (l := k_106.toNat) 0 () HS rfl flat_flat rfl rfl underlying74 zr2 rfl rfl (cutC (Nat.le_refl _) ((RdIn.own (j := 0) rfl) _ HS).1) (cutN (leN c128) (Nat.le_refl _)) (fun _ => rfl) fun wd129 HS => GO.nil (G.len (t := 0) (m := (over x105 k_106.toNat (List.replicate ((x105.take x105.length).drop k_106.toNat).length 0)).length) rfl (by simp only [List.length_set, h130] <;> rfl) (G.seq ?_)))))
          obtain ⟨c131, H⟩ := ite_none H
          refine G.region (GO.ps 2 rfl (GO.slH (T := (TInt .i64)) HS (RdIn.own (j := 0) rfl) rfl rfl rfl underlying74 sz2 c131.1 c131.2 rfl (GO.assign rfl rfl rfl (GO.nil ?_))))
          replace HS := HS.shrink (A' := (cutA A_a 0 c_a 1)) (c' := (c_a - 0)) (j := 0) (m := k_106.toNat) rfl flat_flat (leN c131) (cutA_zero _ _ _) rfl
          obtain rfl := Option.some.inj H
          exact G.ret1 _ func98 rfl rfl ⟨_, _, rfl, HS⟩
       refine G.weak ?_ (at_l4 n_l1 (Nat.le_refl _) _ _ _ _ H HS)
       exact ⟨rfl, rfl, rfl, rfl, trivial⟩
      refine G.noB rfl (decide_eq_false c94) (G.run 4 rfl (G.weak ?_ (ih_l1 n_l1 (Nat.lt_succ_of_le (Nat.le_refl _)) (Nat.le_of_succ_le hm_l1) _ _ H HS)))
      exact ⟨rfl, rfl, trivial⟩
     refine G.noB rfl (decide_eq_false c89) (G.run 3 rfl ?_)
     obtain rfl := Option.some.inj H
     exact G.ret1 _ func98 rfl rfl ⟨_, _, rfl, HS⟩
  refine G.weak ?_ (at_l1 K (Nat.le_refl _) _ _ H HS)
  exact ⟨rfl, rfl, trivial⟩
theorem impl_isKink.calls {w0 w : World} {L : List HObj} {K : Nat} {c_A c_B : Int} {c_C c_D c_Sign : Int} {r1 : Bool} (HS : St w0 w (L)) (H : impl_isKink.f K c_A c_B c_C c_D c_Sign = some r1) :
    Calls prog 71 #[.agg [.int .i64 c_A, .int .i64 c_B, .int .i64 c_C, .int .i64 c_D, .int .i64 c_Sign].toArray] w (impl_isKink.post w0 L r1) := by
  unfold impl_isKink.f at H
  refine Calls.of_G func71 rfl rfl rfl ?_
  refine G.seq (G.region (GO.box (cs := [.int .i64 c_A, .int .i64 c_B, .int .i64 c_C, .int .i64 c_D, .int .i64 c_Sign]) HS rfl rfl rfl rfl fun b1 wd2 HS => GO.assign rfl rfl rfl (GO.nil (G.seq ?_))))
  obtain ⟨t3, t4, t5, t6, h7, H⟩ := bind4_elim H
  refine G.region (GO.ldBoxA (j := 0) ([.int .i64 c_A, .int .i64 c_B, .int .i64 c_C, .int .i64 c_D, .int .i64 c_Sign]) HS rfl rfl rfl rfl ag61 rfl (GO.fn rfl func81 fok81.1 fok81.2 rfl rfl (impl_Crossing_ends.calls HS  h7) (fun _ wd8 ⟨h9, HS⟩ => ⟨_, h9, (GO.alloc HS rfl zr104 rfl rfl fun b10 wd11 HS => GO.stBox (j := 0) (vs := [.int .i64 t3, .int .i64 t4, .int .i64 t5, .int .i64 t6]) ([.int .i64 t3, .int .i64 t4, .int .i64 t5, .int .i64 t6]) HS rfl rfl rfl rfl rfl (htA ag104) rfl rfl rfl fun wd12 HS => GO.nil (G.seq ?_))⟩)))
  obtain ⟨t13, h14, H⟩ := Option.bind_eq_some_iff.1 H
  obtain ⟨c15, H⟩ := ite_none H
  refine G.region ?_
  replace HS := HS.boxRow (T := (TInt .i64)) (j := 0) rfl flat_flat (fun _ => ()) ([t3, t4, t5, t6] : List Int) rfl (bndL rfl)
  refine GO.slArr (c := ([t3, t4, t5, t6] : List Int).length) (xs := ([t3, t4, t5, t6] : List Int)) rfl rfl underlying104 sz2 rfl rfl rfl ?_
  replace HS := HS.pk 2 [0, 1] rfl
  refine GO.fn rfl func97 fok97.1 fok97.2 rfl rfl (slices_Sort_int64_int64.calls HS  h14) (fun _ wd16 ⟨h17, HS⟩ => ⟨_, h17, (GO.nil (G.seq ?_))⟩)
  obtain ⟨t18, h19, H⟩ := Option.bind_eq_some_iff.1 H
  refine G.region (GO.slArr (c := ([t3, t4, t5, t6] : List Int).length) (xs := t13) rfl rfl underlying104 sz2 (c15.trans rfl) rfl rfl ?_)
  replace HS := HS.pk 2 [0, 1] rfl
  refine GO.fn rfl func98 fok98.1 fok98.2 rfl rfl (slices_Compact_int64_int64.calls HS  h19) (fun _ wd22 ⟨A20, c21, h23, HS⟩ => ⟨_, h23, (GO.lenS rfl rfl underlying74 rfl (GO.ps 2 rfl (GO.nil ?_)))⟩)
  obtain rfl := Option.some.inj H
  exact G.ret1 _ func71 rfl rfl ⟨rfl, (HS.pk 2 [] rfl)⟩
theorem slices_Repeat_int64_int64.calls {w0 w : World} {L : List HObj} {K : Nat} {x : List Int} {count : Int} {A_a : Option Addr} {c_a : Nat} {r1 : List Int} (HS : St w0 w (L)) (r_a : RdIn w0 L (TInt .i64) A_a c_a (fun _ => ()) x) (H : slices_Repeat_int64_int64.f K x count = some r1) :
    Calls prog 101 #[.slice A_a x.length c_a, .int .i64 count] w (slices_Repeat_int64_int64.post w0 L r1) := by
  unfold slices_Repeat_int64_int64.f at H
  refine Calls.of_G func101 rfl rfl rfl ?_
  refine G.run 5 rfl ?_
  rcases ite_elim H with ⟨c2, H⟩ | ⟨c2, H⟩
  ·
   refine G.yesB rfl (decide_eq_true c2) ?_
   cases H
  refine G.noB rfl (decide_eq_false c2) (G.run 2 rfl ?_)
  obtain ⟨t3, t4, h5, H⟩ := bind2_elim H
  refine G.region (GO.move rfl rfl rfl (GO.lenS rfl rfl underlying74 rfl (GO.conv rfl rfl underlying3 underlying127 rfl (GO.move rfl rfl rfl (GO.conv rfl rfl underlying3 underlying127 rfl (GO.fn rfl func115 fok115.1 fok115.2 rfl rfl (math_bits_Mul.calls HS  h5) (fun _ wd6 ⟨h7, HS⟩ => ⟨_, h7, (GO.ps 5 rfl (GO.nil (G.run 2 rfl ?_)))⟩)))))))
  refine G.nameT (fun k_j2 hk_j2 => ?_)
  have at_j2 : ∀ m_j2, m_j2 ≤ K → ∀ (x10 : Bool) (w : World), slices_Repeat_int64_int64.j2 K m_j2 x t4 x10 = some r1 → St w0 w (L) → G prog 101 48 [(0, .slice A_a x.length c_a), (6, .int .u64 t4), (26, .bool x10)] k_j2 w (slices_Repeat_int64_int64.post w0 L r1) := by
   intro m_j2 hm_j2 x10 w H HS
   cases m_j2 with
   | zero => rw [slices_Repeat_int64_int64.j2] at H; cases H
   | succ n_j2 =>
    rw [slices_Repeat_int64_int64.j2] at H
    subst hk_j2
    rcases ite_elim H with ⟨c12, H⟩ | ⟨c12, H⟩
    ·
     refine G.yesB rfl c12 ?_
     cases H
    refine G.noB rfl (bnot_of c12) (G.run 2 rfl ?_)
    obtain ⟨c13, H⟩ := ite_none H
    obtain ⟨c14, H⟩ := ite_none H
    refine G.region (GO.move rfl rfl rfl (GO.conv rfl rfl underlying127 underlying3 rfl (GO.make (T := (TInt .i64)) 0 () HS flat_flat rfl rfl rfl underlying74 inf2 rfl rfl rfl c13 c14 rfl fun b15 wd16 HS => GO.assign rfl rfl rfl (GO.nil (G.seq ?_)))))
    have h18 := over_len (xs := (List.replicate (w64 (t4)).toNat (0 : Int))) (ys := x) (Nat.le_of_eq (Nat.zero_add _))
    refine G.region (GO.ps 2 rfl (GO.copyP (T := (TInt .i64)) (j := 0) (l := 0) HS rfl (RdIn.drop 1 r_a) flat_flat rfl rfl rfl underlying74 sz2 rfl wholeC (Nat.le_of_eq (Nat.zero_add _)) (fun _ _ => rfl) (fun _ => rfl) fun wd17 HS => GO.assign rfl rfl rfl (GO.nil (G.len (t := 7) (m := (over (List.replicate (w64 (t4)).toNat (0 : Int)) 0 (x.take ((List.replicate (w64 (t4)).toNat (0 : Int)).length))).length) rfl (by simp only [List.length_set, h18] <;> rfl) (G.run 3 rfl ?_)))))
    refine G.name (fun k_l4 hk_l4 => ?_)
    have at_l4 : ∀ m_l4, m_l4 ≤ n_j2 → ∀ (newslice_23 : List Int) (n_24 : Int) (w : World), slices_Repeat_int64_int64.l4 K m_l4 newslice_23 n_24 = some r1 → St w0 w (Own (TInt .i64) 2 (some ⟨b15, 0, none⟩) ((w64 (t4)).toNat) (fun _ => ()) newslice_23 :: L) → G prog 101 48 [(7, .slice (some ⟨b15, 0, none⟩) newslice_23.length ((w64 (t4)).toNat)), (8, .int .i64 n_24)] k_l4 w (slices_Repeat_int64_int64.post w0 L r1) := by
     intro m_l4
     induction m_l4 using Nat.strongRecOn with
     | _ m_l4 ih_l4 =>
      intro hm_l4 newslice_23 n_24 w H HS
      cases m_l4 with
      | zero => rw [slices_Repeat_int64_int64.l4] at H; cases H
      | succ n_l4 =>
       rw [slices_Repeat_int64_int64.l4] at H
       subst hk_l4
       refine G.run 2 rfl (G.region (GO.ps 2 rfl (GO.lenS rfl rfl underlying74 rfl (GO.lss rfl rfl rfl rfl (GO.nil ?_)))))
       rcases ite_elim H with ⟨c29, H⟩ | ⟨c29, H⟩
       ·
        refine G.yesB rfl (decide_eq_true c29) (G.run 2 rfl ?_)
        obtain ⟨c30, H⟩ := ite_none H
        have h32 := over_len (xs := newslice_23) (ys := ((newslice_23.take n_24.toNat).drop 0)) (cutN (leN c30) (Nat.le_refl _))
        refine G.lex mixed [0, 1, 2, 4, 5, 3, 6, 7, 8, 9] (by kernel_rfl) ?_
        replace HS := HS.drew
        refine GX.ps 5 rfl (GX.l1 rfl rfl rfl (fun _ g => GO.slL (T := (TInt .i64)) HS (RdIn.own (j := 0) rfl) rfl rfl rfl underlying74 sz2 c30.1 c30.2 rfl g) rfl (GX.l1 rfl rfl rfl (fun _ g => GO.slH (T := (TInt .i64)) HS (RdIn.own (j := 0) rfl) rfl rfl rfl underlying74 sz2 c30.1 c30.2 rfl g) rfl (GX.l2 rfl (GO.copyP (T := (TInt .i64)) (j := 0) (l := n_24.toNat) HS rfl (RdIn.cut (RdIn.own (j := 0) rfl) (Nat.zero_le _) (leN c30)) flat_flat rfl rfl rfl underlying74 sz2 rfl (cutC (Nat.le_refl _) ((RdIn.own (j := 0) rfl) _ HS).1) (cutN (leN c30) (Nat.le_refl _)) (fun _ _ => rfl) (fun _ => rfl) fun wd31 HS => GX.fin trivial (GX.ps 2 rfl (GX.nil (G.len (t := 7) (m := (over newslice_23 n_24.toNat (((newslice_23.take n_24.toNat).drop 0).take (((newslice_23.take newslice_23.length).drop n_24.toNat).length))).length) rfl (by simp only [List.length_set, h32] <;> rfl) (G.run 2 rfl (G.weak ?_ (ih_l4 n_l4 (Nat.lt_succ_of_le (Nat.le_refl _)) (Nat.le_of_succ_le hm_l4) _ _ _ H HS))))))))))
        exact ⟨rfl, rfl, trivial⟩
       refine G.noB rfl (decide_eq_false c29) (G.run 3 rfl ?_)
       obtain rfl := Option.some.inj H
       exact G.ret1 _ func101 rfl rfl ⟨_, _, rfl, HS⟩
    refine G.weak ?_ (at_l4 n_j2 (Nat.le_refl _) _ _ _ H HS)
    exact ⟨rfl, rfl, trivial⟩
  rcases ite_elim H with ⟨c33, H⟩ | ⟨c33, H⟩
  ·
   refine G.region (GO.ps 3 rfl (GO.known (t := 23) rfl (decide_eq_true c33) (GO.off rfl rfl rfl rfl rfl rfl (GO.off rfl rfl rfl rfl rfl rfl (GO.pickT rfl rfl rfl rfl rfl (GO.nil (G.weak ?_ (at_j2 K (Nat.le_refl _) _ _ H HS))))))))
   exact ⟨rfl, rfl, rfl, trivial⟩
  refine G.region (GO.ps 3 rfl (GO.known (t := 23) rfl (decide_eq_false c33) (GO.on rfl rfl rfl rfl (GO.move rfl rfl rfl (GO.back (GO.on rfl rfl rfl rfl (GO.gtr rfl rfl rfl rfl (GO.back (GO.pickF rfl rfl rfl rfl rfl (GO.nil (G.weak ?_ (at_j2 K (Nat.le_refl _) _ _ H HS))))))))))))
  exact ⟨rfl, rfl, rfl, trivial⟩
theorem slices_Index_int64_int64.calls {w0 w : World} {L : List HObj} {K : Nat} {s : List Int} {v : Int} {A_a : Option Addr} {c_a : Nat} {r1 : Int} (HS : St w0 w (L)) (r_a : RdIn w0 L (TInt .i64) A_a c_a (fun _ => ()) s) (H : slices_Index_int64_int64.f K s v = some r1) :
    Calls prog 118 #[.slice A_a s.length c_a, .int .i64 v] w (slices_Index_int64_int64.post w0 L r1) := by
  unfold slices_Index_int64_int64.f at H
  refine Calls.of_G func118 rfl rfl rfl ?_
  refine G.run 4 rfl (G.region (GO.move rfl rfl rfl (GO.lenS rfl rfl underlying74 rfl (GO.move rfl rfl rfl (GO.nil (G.run 2 rfl ?_))))))
  refine G.name (fun k_l1 hk_l1 => ?_)
  have at_l1 : ∀ m_l1, m_l1 ≤ K → ∀ (x4 : Int) (w : World), slices_Index_int64_int64.l1 K m_l1 s v x4 = some r1 → St w0 w (L) → G prog 118 19 [(0, .slice A_a s.length c_a), (1, .int .i64 v), (7, .int .i64 (s.length : Int)), (8, .int .i64 x4)] k_l1 w (slices_Index_int64_int64.post w0 L r1) := by
   intro m_l1
   induction m_l1 using Nat.strongRecOn with
   | _ m_l1 ih_l1 =>
    intro hm_l1 x4 w H HS
    cases m_l1 with
    | zero => rw [slices_Index_int64_int64.l1] at H; cases H
    | succ n_l1 =>
     rw [slices_Index_int64_int64.l1] at H
     subst hk_l1
     refine G.run 3 rfl ?_
     rcases ite_elim H with ⟨c8, H⟩ | ⟨c8, H⟩
     ·
      refine G.yesB rfl (decide_eq_true c8) (G.run 6 rfl ?_)
      obtain ⟨c9, H⟩ := ite_none H
      refine G.region (GO.ps 3 rfl (GO.ix rfl rfl rfl underlying74 sz2 (r_a _ HS).2.2.1 c9.1 c9.2 rfl (GO.ldRd (T := (TInt .i64)) (n := x4.toNat) (o := 0) HS r_a rfl rfl (getD_some (d := 0) (ltN c9)) rfl rfl na2 rfl (GO.eql rfl rfl rfl rfl (GO.nil ?_)))))
      rcases ite_elim H with ⟨c10, H⟩ | ⟨c10, H⟩
      ·
       refine G.yesB rfl (decide_eq_true c10) (G.run 2 rfl ?_)
       obtain rfl := Option.some.inj H
       exact G.ret1 _ func118 rfl rfl ⟨rfl, HS⟩
      refine G.noB rfl (decide_eq_false c10) (G.run 4 rfl (G.weak ?_ (ih_l1 n_l1 (Nat.lt_succ_of_le (Nat.le_refl _)) (Nat.le_of_succ_le hm_l1) _ _ H HS)))
      exact ⟨rfl, rfl, rfl, rfl, trivial⟩
     refine G.noB rfl (decide_eq_false c8) (G.run 3 rfl ?_)
     obtain rfl := Option.some.inj H
     exact G.ret1 _ func118 rfl rfl ⟨rfl, HS⟩
  refine G.weak ?_ (at_l1 K (Nat.le_refl _) _ _ H HS)
  exact ⟨rfl, rfl, rfl, rfl, trivial⟩
theorem slices_Contains_int64_int64.calls {w0 w : World} {L : List HObj} {K : Nat} {s : List Int} {v : Int} {A_a : Option Addr} {c_a : Nat} {r1 : Bool} (HS : St w0 w (L)) (r_a : RdIn w0 L (TInt .i64) A_a c_a (fun _ => ()) s) (H : slices_Contains_int64_int64.f K s v = some r1) :
    Calls prog 100 #[.slice A_a s.length c_a, .int .i64 v] w (slices_Contains_int64_int64.post w0 L r1) := by
  unfold slices_Contains_int64_int64.f at H
  refine Calls.of_G func100 rfl rfl rfl ?_
  refine G.run 3 rfl ?_
  obtain ⟨t1, h2, H⟩ := Option.bind_eq_some_iff.1 H
  refine G.region (GO.ps 2 rfl (GO.fn rfl func118 fok118.1 fok118.2 rfl rfl (slices_Index_int64_int64.calls HS r_a h2) (fun _ wd3 ⟨h4, HS⟩ => ⟨_, h4, (GO.ps 2 rfl (GO.nil ?_))⟩)))
  obtain rfl := Option.some.inj H
  exact G.ret1 _ func100 rfl rfl ⟨rfl, HS⟩
theorem impl_Diagram_without_fn1_free.calls {w0 w : World} {L : List HObj} {K : Nat} {e_crossing e_position : Int} {v0_2 : List Int} {b_v0 : Nat} {A_a : Option Addr} {c_a : Nat} {r1 : Bool} (HS : St w0 w (Box b_v0 74 [.slice A_a v0_2.length c_a] :: L)) (r_a : RdIn w0 L (TInt .i64) A_a c_a (fun _ => ()) v0_2) (H : impl_Diagram_without_fn1_free.f K e_crossing e_position v0_2 = some r1) :
    Calls prog 99 #[.agg [.int .i64 e_crossing, .int .i64 e_position].toArray, .pointer (some ⟨b_v0, 0, none⟩)] w (impl_Diagram_without_fn1_free.post w0 L v0_2 b_v0 A_a c_a r1) := by
  unfold impl_Diagram_without_fn1_free.f at H
  refine Calls.of_G func99 rfl rfl rfl ?_
  refine G.seq (G.region (GO.box (cs := [.int .i64 e_crossing, .int .i64 e_position]) HS rfl rfl rfl rfl fun b1 wd2 HS => GO.assign rfl rfl rfl (GO.nil (G.seq ?_))))
  obtain ⟨t3, h4, H⟩ := Option.bind_eq_some_iff.1 H
  refine G.region (GO.ldBox (j := 1) HS rfl rfl rfl rfl na74 rfl (GO.fld (⟨b1, 0, none⟩) rfl rfl fl94_0 rfl rfl (GO.ldBox (j := 0) HS rfl rfl rfl rfl na2 rfl (GO.fn rfl func100 fok100.1 fok100.2 rfl rfl (slices_Contains_int64_int64.calls HS (RdIn.drop 2 r_a) h4) (fun _ wd5 ⟨h6, HS⟩ => ⟨_, h6, (GO.assign rfl rfl rfl (GO.nil ?_))⟩)))))
  obtain rfl := Option.some.inj H
  exact G.ret1 _ func99 rfl rfl ⟨rfl, (HS.pk 2 [1] rfl)⟩
theorem impl_Diagram_next.calls {w0 w : World} {L : List HObj} {d_Crossings : List GCrossing} {d_Circles : Int} {a_from a_to : List GEnd} {arc : Int} {A_a : Option Addr} {c_a : Nat} {A_b : Option Addr} {c_b : Nat} {A_c : Option Addr} {c_c : Nat} {r1 : Int} (HS : St w0 w (L)) (r_a : RdIn w0 L T_GCrossing A_a c_a (fun _ => ()) d_Crossings) (r_b : RdIn w0 L T_GEnd A_b c_b (fun _ => ()) a_from) (r_c : RdIn w0 L T_GEnd A_c c_c (fun _ => ()) a_to) (H : impl_Diagram_next.f d_Crossings d_Circles a_from a_to arc = some r1) :
    Calls prog 102 #[.agg [.slice A_a d_Crossings.length c_a, .int .i64 d_Circles].toArray, .agg [.slice A_b a_from.length c_b, .slice A_c a_to.length c_c].toArray, .int .i64 arc] w (impl_Diagram_next.post w0 L r1) := by
  unfold impl_Diagram_next.f at H
  refine Calls.of_G func102 rfl rfl rfl ?_
  refine G.seq (G.region (GO.box (cs := [.slice A_a d_Crossings.length c_a, .int .i64 d_Circles]) HS rfl rfl rfl rfl fun b1 wd2 HS => GO.box (cs := [.slice A_b a_from.length c_b, .slice A_c a_to.length c_c]) HS rfl rfl rfl rfl fun b3 wd4 HS => GO.assign rfl rfl rfl (GO.nil (G.seq ?_))))
  obtain ⟨c5, H⟩ := ite_none H
  obtain ⟨e6, h7, H⟩ := bnd_elim H
  refine G.region (GO.fld (⟨b3, 1, none⟩) rfl rfl fl66_1 rfl rfl (GO.ldBox (j := 0) HS rfl rfl rfl rfl na64 rfl (GO.move rfl rfl rfl (GO.ix rfl rfl rfl underlying64 sz94 ((RdIn.drop 2 r_c) _ HS).2.2.1 c5.1 c5.2 rfl (GO.ldRdA (T := T_GEnd) (n := arc.toNat) HS (RdIn.drop 2 r_c) rfl rfl (getD_eq (ltN c5) h7) ag94 rfl (GO.alloc HS rfl zr94 rfl rfl fun b8 wd9 HS => GO.stBox (j := 0) (vs := [.int .i64 e6.crossing, .int .i64 e6.position]) ([.int .i64 e6.crossing, .int .i64 e6.position]) HS rfl rfl rfl rfl rfl (htA ag94) rfl rfl rfl fun wd10 HS => GO.nil (G.seq ?_)))))))
  obtain ⟨c11, H⟩ := ite_none H
  obtain ⟨e12, h13, H⟩ := bnd_elim H
  obtain ⟨t14, t15, t16, t17, h18, H⟩ := bind4_elim H
  obtain ⟨c21, H⟩ := ite_none H
  refine G.lexS mixed (fun w => St w0 w (Box b8 94 [.int .i64 e6.crossing, .int .i64 e6.position] :: Box b1 30 [.slice A_a d_Crossings.length c_a, .int .i64 d_Circles] :: L)) [1, 3, 5, 8] [0, 2, 7, 1, 3, 4, 5, 8, 9, 10, 6, 11, 12] 13 (by kernel_rfl) (by kernel_rfl) (HS.drew.pk 3 [0, 2] rfl) ?_
  replace HS := HS.drew
  refine GX.l0 rfl rfl (fun _ _ g => GO.fld (⟨b1, 0, none⟩) rfl rfl fl30_0 rfl rfl g) rfl (GX.l0 rfl rfl (fun _ _ g => GO.fld (⟨b8, 0, none⟩) rfl rfl fl94_0 rfl rfl g) rfl (GX.l0 rfl rfl (fun _ _ g => GO.fld (⟨b8, 1, none⟩) rfl rfl fl94_1 rfl rfl g) rfl (GX.ls rfl rfl rfl (HS.pk 3 [0, 2] rfl) (fun _ HS _ g => GO.ldBox (j := 1) HS rfl rfl rfl rfl na28 rfl g) rfl (GX.ls rfl rfl rfl (HS.pk 3 [0, 2] rfl) (fun _ HS _ g => GO.ldBox (j := 0) HS rfl rfl rfl rfl na2 rfl g) rfl (GX.l0 rfl rfl (fun _ _ g => GO.ix rfl rfl rfl underlying28 sz61 ((RdIn.drop 3 r_a) _ HS).2.2.1 c11.1 c11.2 rfl g) rfl (GX.ls rfl rfl rfl (HS.pk 3 [0, 2] rfl) (fun _ HS _ g => GO.ldRdA (T := T_GCrossing) (n := e6.crossing.toNat) HS (RdIn.drop 2 r_a) rfl rfl (getD_eq (ltN c11) h13) ag61 rfl g) rfl (GX.ls rfl rfl rfl (HS.pk 3 [0, 2] rfl) (fun _ HS _ g => GO.ldBox (j := 0) HS rfl rfl rfl rfl na2 rfl g) rfl (GX.ps 1 rfl (GX.l0 rfl rfl (fun _ _ g => GO.rem rfl rfl rfl (by decide) rfl g) rfl (GX.l2 rfl (GO.fn rfl func81 fok81.1 fok81.2 rfl rfl (impl_Crossing_ends.calls HS  h18) (fun _ wd19 ⟨h20, HS⟩ => ⟨_, h20, (GX.fin (HS.pk 3 [0, 2] rfl) (GX.l0 rfl rfl (fun _ _ g => GO.ixArr ([t14, t15, t16, t17] : List Int) rfl rfl rfl underlying104 underlying2 sz2 rfl c21.1 c21.2 rfl g) rfl (GX.ps 1 rfl ?_)))⟩))))))))))))
  refine GX.nil ?_
  obtain rfl := Option.some.inj H
  exact G.ret1 _ func102 rfl rfl ⟨rfl, (HS.pk 3 [] rfl)⟩
theorem impl_Diagram_strands.calls {w0 w : World} {L : List HObj} {K : Nat} {d_Crossings : List GCrossing} {d_Circles : Int} {a_from a_to : List GEnd} {A_a : Option Addr} {c_a : Nat} {A_b : Option Addr} {c_b : Nat} {A_c : Option Addr} {c_c : Nat} {r1 : List (List Int)} (HS : St w0 w (L)) (r_a : RdIn w0 L T_GCrossing A_a c_a (fun _ => ()) d_Crossings) (r_b : RdIn w0 L T_GEnd A_b c_b (fun _ => ()) a_from) (r_c : RdIn w0 L T_GEnd A_c c_c (fun _ => ()) a_to) (H : impl_Diagram_strands.f K d_Crossings d_Circles a_from a_to = some r1) :
    Calls prog 103 #[.agg [.slice A_a d_Crossings.length c_a, .int .i64 d_Circles].toArray, .agg [.slice A_b a_from.length c_b, .slice A_c a_to.length c_c].toArray] w (impl_Diagram_strands.post w0 L r1) := by
  unfold impl_Diagram_strands.f at H
  refine Calls.of_G func103 rfl rfl rfl ?_
  refine G.seq (G.region (GO.box (cs := [.slice A_a d_Crossings.length c_a, .int .i64 d_Circles]) HS rfl rfl rfl rfl fun b1 wd2 HS => GO.box (cs := [.slice A_b a_from.length c_b, .slice A_c a_to.length c_c]) HS rfl rfl rfl rfl fun b3 wd4 HS => GO.assign rfl rfl rfl (GO.nil (G.run 3 rfl ?_))))
  obtain ⟨c5, H⟩ := ite_none H
  obtain ⟨c6, H⟩ := ite_none H
  refine G.region (GO.fld (⟨b3, 1, none⟩) rfl rfl fl66_1 rfl rfl (GO.ldBox (j := 0) HS rfl rfl rfl rfl na64 rfl (GO.lenS rfl rfl underlying64 rfl (GO.make (T := TBool) false () HS flat_flat rfl rfl rfl underlying71 inf4 rfl rfl rfl c5 c6 rfl fun b7 wd8 HS => GO.assign rfl rfl rfl (GO.nil (G.run 2 rfl (G.region (GO.move rfl rfl rfl (GO.lenS rfl rfl underlying71 rfl (GO.move rfl rfl rfl (GO.nil (G.run 2 rfl ?_))))))))))))
  refine G.name (fun k_l1 hk_l1 => ?_)
  have at_l1 : ∀ m_l1, m_l1 ≤ K → ∀ (A70 : Option Addr) (c71 : Nat) (out_72 : List (List Int)) (y73 : Nat → (Ty.slice 2 (TInt .i64)).Lay) (seen_74 : List Bool) (x75 : Int) (w : World), impl_Diagram_strands.l1 K m_l1 d_Crossings d_Circles a_from a_to out_72 seen_74 x75 = some r1 → St w0 w (Box b1 30 [.slice A_a d_Crossings.length c_a, .int .i64 d_Circles] :: Box b3 66 [.slice A_b a_from.length c_b, .slice A_c a_to.length c_c] :: Own (Ty.slice 2 (TInt .i64)) 74 A70 c71 y73 out_72 :: Own TBool 4 (some ⟨b7, 0, none⟩) ((a_to.length : Int).toNat) (fun _ => ()) seen_74 :: L) → G prog 103 45 [(2, .pointer (some ⟨b1, 0, none⟩)), (3, .pointer (some ⟨b3, 0, none⟩)), (5, .slice A70 out_72.length c71), (6, .slice (some ⟨b7, 0, none⟩) seen_74.length ((a_to.length : Int).toNat)), (15, .int .i64 ((List.replicate (a_to.length : Int).toNat false).length : Int)), (16, .int .i64 x75)] k_l1 w (impl_Diagram_strands.post w0 L r1) := by
   intro m_l1
   induction m_l1 using Nat.strongRecOn with
   | _ m_l1 ih_l1 =>
    intro hm_l1 A70 c71 out_72 y73 seen_74 x75 w H HS
    cases m_l1 with
    | zero => rw [impl_Diagram_strands.l1] at H; cases H
    | succ n_l1 =>
     rw [impl_Diagram_strands.l1] at H
     subst hk_l1
     refine G.run 3 rfl ?_
     rcases ite_elim H with ⟨c137, H⟩ | ⟨c137, H⟩
     ·
      refine G.yesB rfl (decide_eq_true c137) (G.run 12 rfl ?_)
      refine G.name (fun k_l4 hk_l4 => ?_)
      have at_l4 : ∀ m_l4, m_l4 ≤ n_l1 → ∀ (seen_151 : List Bool) (A152 : Option Addr) (c153 : Nat) (list_154 : List Int) (arc_155 : Int) (w : World), impl_Diagram_strands.l4 K m_l4 d_Crossings d_Circles a_from a_to out_72 x75 seen_151 list_154 arc_155 = some r1 → St w0 w (Box b1 30 [.slice A_a d_Crossings.length c_a, .int .i64 d_Circles] :: Box b3 66 [.slice A_b a_from.length c_b, .slice A_c a_to.length c_c] :: Own (Ty.slice 2 (TInt .i64)) 74 A70 c71 y73 out_72 :: Own TBool 4 (some ⟨b7, 0, none⟩) ((a_to.length : Int).toNat) (fun _ => ()) seen_151 :: Own (TInt .i64) 2 A152 c153 (fun _ => ()) list_154 :: L) → G prog 103 45 [(2, .pointer (some ⟨b1, 0, none⟩)), (3, .pointer (some ⟨b3, 0, none⟩)), (5, .slice A70 out_72.length c71), (6, .slice (some ⟨b7, 0, none⟩) seen_151.length ((a_to.length : Int).toNat)), (8, .slice A152 list_154.length c153), (9, .int .i64 arc_155), (15, .int .i64 ((List.replicate (a_to.length : Int).toNat false).length : Int)), (16, .int .i64 x75)] k_l4 w (impl_Diagram_strands.post w0 L r1) := by
       intro m_l4
       induction m_l4 using Nat.strongRecOn with
       | _ m_l4 ih_l4 =>
        intro hm_l4 seen_151 A152 c153 list_154 arc_155 w H HS
        cases m_l4 with
        | zero => rw [impl_Diagram_strands.l4] at H; cases H
        | succ n_l4 =>
         rw [impl_Diagram_strands.l4] at H
         subst hk_l4
         refine G.run 2 rfl ?_
         obtain ⟨c177, H⟩ := ite_none H
         refine G.region (GO.ps 2 rfl (GO.ix rfl rfl rfl underlying71 sz4 (fun _ => ⟨_, _, rfl⟩) c177.1 c177.2 rfl (GO.ldRd (T := TBool) (n := arc_155.toNat) (o := 0) HS (RdIn.own (j := 3) rfl) rfl rfl (getD_some (d := false) (ltN c177)) rfl rfl na4 rfl (GO.not rfl rfl rfl (GO.nil ?_)))))
         rcases ite_elim H with ⟨c178, H⟩ | ⟨c178, H⟩
         ·
          refine G.noB rfl (congrArg Bool.not c178) (G.run 2 rfl (G.region (GO.move rfl rfl rfl (GO.lenS rfl rfl underlying74 rfl (GO.gtr rfl rfl rfl rfl (GO.nil ?_))))))
          rcases ite_elim H with ⟨c179, H⟩ | ⟨c179, H⟩
          ·
           refine G.yesB rfl (decide_eq_true c179) ?_
           obtain ⟨c185, H⟩ := ite_none H
           refine G.region (GO.ps 2 rfl (GO.buildS (el := 74) ([.slice A152 list_154.length c153]) HS rfl rfl (fun _ => by kernel_rfl) rfl fun b180 wd181 HS => ?_))
           replace HS := HS.pk 6 [3, 0, 5, 1, 2, 4] rfl
           refine GO.appR (S := (TInt .i64)) (u := 2) HS rfl rfl rfl underlying55 inf74 rfl rfl c185 rfl fun A183 c184 y186 wd182 HS => GO.assign rfl rfl rfl (GO.nil (G.run 3 rfl (G.weak ?_ (ih_l1 n_l4 (by omega) (by omega) _ _ _ _ _ _ _ H (HS.pk 5 [2, 3, 0, 4] rfl)))))
           exact ⟨rfl, rfl, rfl, rfl, rfl, rfl, trivial⟩
          refine G.noB rfl (decide_eq_false c179) (G.run 4 rfl (G.weak ?_ (ih_l1 n_l4 (by omega) (by omega) _ _ _ _ _ _ _ H (HS.pk 5 [0, 1, 2, 3] rfl))))
          exact ⟨rfl, rfl, rfl, rfl, rfl, rfl, trivial⟩
         refine G.yesB rfl (congrArg Bool.not (bnot_of c178)) (G.run 4 rfl (G.region (GO.ps 2 rfl (GO.ix rfl rfl rfl underlying71 sz4 (fun _ => ⟨_, _, rfl⟩) c177.1 c177.2 rfl (GO.stRow (T := TBool) (j := 3) (n := arc_155.toNat) (o := 0) (vs := [.bool true]) true HS rfl flat_flat rfl rfl rfl rfl (htN na4 rfl) rfl (getD_some (d := false) (ltN c177)) rfl rfl fun wd187 HS => GO.nil (G.len (t := 6) (m := (seen_151.set arc_155.toNat true).length) rfl (by simp only [List.length_set] <;> rfl) ?_))))))
         obtain ⟨c193, H⟩ := ite_none H
         refine G.region (GO.ps 2 rfl (GO.buildS (el := 2) ([.int .i64 arc_155]) HS rfl rfl (fun _ => by kernel_rfl) rfl fun b188 wd189 HS => GO.app1 (T := (TInt .i64)) (j := 5) (jb := 0) arc_155 HS rfl rfl flat_flat rfl rfl rfl underlying74 inf2 rfl rfl rfl c193 rfl fun A191 c192 wd190 HS => GO.assign rfl rfl rfl (GO.nil (G.blockEnd ?_))))
         obtain ⟨t194, h195, H⟩ := Option.bind_eq_some_iff.1 H
         refine G.region (GO.ldBoxA (j := 1) ([.slice A_a d_Crossings.length c_a, .int .i64 d_Circles]) HS rfl rfl rfl rfl ag30 rfl (GO.ldBoxA (j := 2) ([.slice A_b a_from.length c_b, .slice A_c a_to.length c_c]) HS rfl rfl rfl rfl ag66 rfl (GO.move rfl rfl rfl (GO.fn rfl func102 fok102.1 fok102.2 rfl rfl (impl_Diagram_next.calls HS (RdIn.drop 6 r_a) (RdIn.drop 6 r_b) (RdIn.drop 6 r_c) h195) (fun _ wd196 ⟨h197, HS⟩ => ⟨_, h197, (GO.assign rfl rfl rfl (GO.nil (G.again (G.weak ?_ (ih_l4 n_l4 (Nat.lt_succ_of_le (Nat.le_refl _)) (Nat.le_of_succ_le hm_l4) _ _ _ _ _ _ H (HS.pk 6 [1, 2, 3, 4, 5] rfl))))))⟩)))))
         exact ⟨rfl, rfl, rfl, rfl, rfl, rfl, rfl, rfl, trivial⟩
      replace HS := HS.nilRow (TInt .i64) 2 (fun _ => ())
      refine G.weak ?_ (at_l4 n_l1 (Nat.le_refl _) _ _ _ _ _ _ H (HS.pk 5 [1, 2, 3, 4, 0] rfl))
      exact ⟨rfl, rfl, rfl, rfl, rfl, rfl, rfl, rfl, trivial⟩
     refine G.noB rfl (decide_eq_false c137) (G.run 3 rfl ?_)
     obtain rfl := Option.some.inj H
     exact G.ret1 _ func103 rfl rfl ⟨_, _, _, rfl, (HS.pk 4 [2] rfl)⟩
  replace HS := HS.nilRow (Ty.slice 2 (TInt .i64)) 74 (fun _ => ⟨none, 0, (fun _ => ())⟩)
  refine G.weak ?_ (at_l1 K (Nat.le_refl _) _ _ _ _ _ _ _ H (HS.pk 4 [3, 2, 0, 1] rfl))
  exact ⟨rfl, rfl, rfl, rfl, rfl, rfl, trivial⟩
theorem impl_Diagram_without_fn2_free.calls {w0 w : World} {L : List HObj} {K : Nat} {arc : Int} {v0_4 : List Int} {v1_from v1_to : List GEnd} {b_v0 b_v0_3 : Nat} {A_a : Option Addr} {c_a b_v1 : Nat} {A_b : Option Addr} {c_b : Nat} {A_c : Option Addr} {c_c : Nat} {r1 : Bool} (HS : St w0 w (Box b_v0 120 [.func (.func 99) #[] #[.pointer (some ⟨b_v0_3, 0, none⟩)]] :: Box b_v0_3 74 [.slice A_a v0_4.length c_a] :: Box b_v1 66 [.slice A_b v1_from.length c_b, .slice A_c v1_to.length c_c] :: L)) (r_a : RdIn w0 L (TInt .i64) A_a c_a (fun _ => ()) v0_4) (r_b : RdIn w0 L T_GEnd A_b c_b (fun _ => ()) v1_from) (r_c : RdIn w0 L T_GEnd A_c c_c (fun _ => ()) v1_to) (H : impl_Diagram_without_fn2_free.f K arc v0_4 v1_from v1_to = some r1) :
    Calls prog 105 #[.int .i64 arc, .pointer (some ⟨b_v0, 0, none⟩), .pointer (some ⟨b_v1, 0, none⟩)] w (impl_Diagram_without_fn2_free.post w0 L v0_4 v1_from v1_to b_v0 b_v0_3 A_a c_a b_v1 A_b c_b A_c c_c r1) := by
  unfold impl_Diagram_without_fn2_free.f at H
  refine Calls.of_G func105 rfl rfl rfl ?_
  refine G.run 3 rfl ?_
  obtain ⟨c1, H⟩ := ite_none H
  obtain ⟨e2, h3, H⟩ := bnd_elim H
  obtain ⟨t4, h5, H⟩ := Option.bind_eq_some_iff.1 H
  refine G.lex mixed [1, 3, 0, 2, 4, 5, 6, 7, 8] (by kernel_rfl) ?_
  replace HS := HS.drew
  refine GX.l0 rfl rfl (fun _ _ g => GO.fld (⟨b_v1, 0, none⟩) rfl rfl fl66_0 rfl rfl g) rfl (GX.ps 1 rfl (GX.l1 rfl rfl rfl (fun _ g => GO.ldBox (j := 0) HS rfl rfl rfl rfl na120 rfl g) rfl (GX.l1 rfl rfl rfl (fun _ g => GO.ldBox (j := 2) HS rfl rfl rfl rfl na64 rfl g) rfl (GX.l0 rfl rfl (fun _ _ g => GO.ix rfl rfl rfl underlying64 sz94 ((RdIn.drop 3 r_b) _ HS).2.2.1 c1.1 c1.2 rfl g) rfl (GX.l1 rfl rfl rfl (fun _ g => GO.ldRdA (T := T_GEnd) (n := arc.toNat) HS (RdIn.drop 3 r_b) rfl rfl (getD_eq (ltN c1) h3) ag94 rfl g) rfl (GX.l2 rfl ?_))))))
  replace HS := HS.pk 3 [1, 0, 2] rfl
  refine GO.clo rfl rfl func99 fok99.1 fok99.2 rfl rfl (impl_Diagram_without_fn1_free.calls HS (RdIn.drop 2 r_a) h5) (fun _ wd6 ⟨h7, HS⟩ => ⟨_, h7, (GX.fin trivial (GX.ps 2 rfl (GX.nil ?_)))⟩)
  obtain rfl := Option.some.inj H
  exact G.ret1 _ func105 rfl rfl ⟨rfl, (HS.pk 3 [1, 0, 2] rfl)⟩
theorem slices_IndexFunc_int64_int64_135.calls {w0 w : World} {L : List HObj} {K : Nat} {s cap_4 : List Int} {cap_from cap_to : List GEnd} {A_a : Option Addr} {c_a b_cap b_cap_3 : Nat} {A_b : Option Addr} {c_b b_cap_5 : Nat} {A_c : Option Addr} {c_c : Nat} {A_d : Option Addr} {c_d : Nat} {r1 : Int} (HS : St w0 w (Box b_cap 120 [.func (.func 99) #[] #[.pointer (some ⟨b_cap_3, 0, none⟩)]] :: Box b_cap_3 74 [.slice A_b cap_4.length c_b] :: Box b_cap_5 66 [.slice A_c cap_from.length c_c, .slice A_d cap_to.length c_d] :: L)) (r_a : RdIn w0 L (TInt .i64) A_a c_a (fun _ => ()) s) (r_b : RdIn w0 L (TInt .i64) A_b c_b (fun _ => ()) cap_4) (r_c : RdIn w0 L T_GEnd A_c c_c (fun _ => ()) cap_from) (r_d : RdIn w0 L T_GEnd A_d c_d (fun _ => ()) cap_to) (H : slices_IndexFunc_int64_int64_135.f K s cap_4 cap_from cap_to = some r1) :
    Calls prog 119 #[.slice A_a s.length c_a, .func (.func 105) #[] #[.pointer (some ⟨b_cap, 0, none⟩), .pointer (some ⟨b_cap_5, 0, none⟩)]] w (slices_IndexFunc_int64_int64_135.post w0 L cap_4 cap_from cap_to b_cap b_cap_3 A_b c_b b_cap_5 A_c c_c A_d c_d r1) := by
  unfold slices_IndexFunc_int64_int64_135.f at H
  refine Calls.of_G func119 rfl rfl rfl ?_
  refine G.run 4 rfl (G.region (GO.move rfl rfl rfl (GO.lenS rfl rfl underlying74 rfl (GO.move rfl rfl rfl (GO.nil (G.run 2 rfl ?_))))))
  refine G.name (fun k_l1 hk_l1 => ?_)
  have at_l1 : ∀ m_l1, m_l1 ≤ K → ∀ (x8 : Int) (w : World), slices_IndexFunc_int64_int64_135.l1 K m_l1 s cap_4 cap_from cap_to x8 = some r1 → St w0 w (Box b_cap 120 [.func (.func 99) #[] #[.pointer (some ⟨b_cap_3, 0, none⟩)]] :: Box b_cap_3 74 [.slice A_b cap_4.length c_b] :: Box b_cap_5 66 [.slice A_c cap_from.length c_c, .slice A_d cap_to.length c_d] :: L) → G prog 119 19 [(0, .slice A_a s.length c_a), (1, .func (.func 105) #[] #[.pointer (some ⟨b_cap, 0, none⟩), .pointer (some ⟨b_cap_5, 0, none⟩)]), (7, .int .i64 (s.length : Int)), (8, .int .i64 x8)] k_l1 w (slices_IndexFunc_int64_int64_135.post w0 L cap_4 cap_from cap_to b_cap b_cap_3 A_b c_b b_cap_5 A_c c_c A_d c_d r1) := by
   intro m_l1
   induction m_l1 using Nat.strongRecOn with
   | _ m_l1 ih_l1 =>
    intro hm_l1 x8 w H HS
    cases m_l1 with
    | zero => rw [slices_IndexFunc_int64_int64_135.l1] at H; cases H
    | succ n_l1 =>
     rw [slices_IndexFunc_int64_int64_135.l1] at H
     subst hk_l1
     refine G.run 3 rfl ?_
     rcases ite_elim H with ⟨c16, H⟩ | ⟨c16, H⟩
     ·
      refine G.yesB rfl (decide_eq_true c16) (G.run 6 rfl ?_)
      obtain ⟨c17, H⟩ := ite_none H
      obtain ⟨t18, h19, H⟩ := Option.bind_eq_some_iff.1 H
      refine G.region (GO.ps 3 rfl (GO.ix rfl rfl rfl underlying74 sz2 ((RdIn.drop 3 r_a) _ HS).2.2.1 c17.1 c17.2 rfl (GO.ldRd (T := (TInt .i64)) (n := x8.toNat) (o := 0) HS (RdIn.drop 3 r_a) rfl rfl (getD_some (d := 0) (ltN c17)) rfl rfl na2 rfl ?_)))
      replace HS := HS.pk 3 [0, 1, 2] rfl
      refine GO.clo rfl rfl func105 fok105.1 fok105.2 rfl rfl (impl_Diagram_without_fn2_free.calls HS r_b r_c r_d h19) (fun _ wd20 ⟨h21, HS⟩ => ⟨_, h21, (GO.nil ?_)⟩)
      rcases ite_elim H with ⟨c22, H⟩ | ⟨c22, H⟩
      ·
       refine G.yesB rfl c22 (G.run 2 rfl ?_)
       obtain rfl := Option.some.inj H
       exact G.ret1 _ func119 rfl rfl ⟨rfl, HS⟩
      refine G.noB rfl (bnot_of c22) (G.run 4 rfl (G.weak ?_ (ih_l1 n_l1 (Nat.lt_succ_of_le (Nat.le_refl _)) (Nat.le_of_succ_le hm_l1) _ _ H HS)))
      exact ⟨rfl, rfl, rfl, rfl, trivial⟩
     refine G.noB rfl (decide_eq_false c16) (G.run 3 rfl ?_)
     obtain rfl := Option.some.inj H
     exact G.ret1 _ func119 rfl rfl ⟨rfl, HS⟩
  refine G.weak ?_ (at_l1 K (Nat.le_refl _) _ _ H HS)
  exact ⟨rfl, rfl, rfl, rfl, trivial⟩
theorem slices_ContainsFunc_int64_int64_135.calls {w0 w : World} {L : List HObj} {K : Nat} {s cap_4 : List Int} {cap_from cap_to : List GEnd} {A_a : Option Addr} {c_a b_cap b_cap_3 : Nat} {A_b : Option Addr} {c_b b_cap_5 : Nat} {A_c : Option Addr} {c_c : Nat} {A_d : Option Addr} {c_d : Nat} {r1 : Bool} (HS : St w0 w (Box b_cap 120 [.func (.func 99) #[] #[.pointer (some ⟨b_cap_3, 0, none⟩)]] :: Box b_cap_3 74 [.slice A_b cap_4.length c_b] :: Box b_cap_5 66 [.slice A_c cap_from.length c_c, .slice A_d cap_to.length c_d] :: L)) (r_a : RdIn w0 L (TInt .i64) A_a c_a (fun _ => ()) s) (r_b : RdIn w0 L (TInt .i64) A_b c_b (fun _ => ()) cap_4) (r_c : RdIn w0 L T_GEnd A_c c_c (fun _ => ()) cap_from) (r_d : RdIn w0 L T_GEnd A_d c_d (fun _ => ()) cap_to) (H : slices_ContainsFunc_int64_int64_135.f K s cap_4 cap_from cap_to = some r1) :
    Calls prog 104 #[.slice A_a s.length c_a, .func (.func 105) #[] #[.pointer (some ⟨b_cap, 0, none⟩), .pointer (some ⟨b_cap_5, 0, none⟩)]] w (slices_ContainsFunc_int64_int64_135.post w0 L cap_4 cap_from cap_to b_cap b_cap_3 A_b c_b b_cap_5 A_c c_c A_d c_d r1) := by
  unfold slices_ContainsFunc_int64_int64_135.f at H
  refine Calls.of_G func104 rfl rfl rfl ?_
  refine G.run 3 rfl ?_
  obtain ⟨t1, h2, H⟩ := Option.bind_eq_some_iff.1 H
  refine G.region (GO.ps 2 rfl ?_)
  replace HS := HS.pk 3 [0, 1, 2] rfl
  refine GO.fn rfl func119 fok119.1 fok119.2 rfl rfl (slices_IndexFunc_int64_int64_135.calls HS r_a r_b r_c r_d h2) (fun _ wd3 ⟨h4, HS⟩ => ⟨_, h4, (GO.ps 2 rfl (GO.nil ?_))⟩)
  obtain rfl := Option.some.inj H
  exact G.ret1 _ func104 rfl rfl ⟨rfl, HS⟩
theorem impl_Diagram_without.calls {w0 w : World} {L : List HObj} {K : Nat} {d_Crossings : List GCrossing} {d_Circles : Int} {a_from a_to : List GEnd} {crossings : List Int} {A_a : Option Addr} {c_a : Nat} {A_b : Option Addr} {c_b : Nat} {A_c : Option Addr} {c_c : Nat} {A_d : Option Addr} {c_d : Nat} {r1 : List GCrossing} {r2 : Int} (HS : St w0 w (L)) (r_a : RdIn w0 L T_GCrossing A_a c_a (fun _ => ()) d_Crossings) (r_b : RdIn w0 L T_GEnd A_b c_b (fun _ => ()) a_from) (r_c : RdIn w0 L T_GEnd A_c c_c (fun _ => ()) a_to) (r_d : RdIn w0 L (TInt .i64) A_d c_d (fun _ => ()) crossings) (H : impl_Diagram_without.f K d_Crossings d_Circles a_from a_to crossings = some (r1, r2)) :
    Calls prog 73 #[.agg [.slice A_a d_Crossings.length c_a, .int .i64 d_Circles].toArray, .agg [.slice A_b a_from.length c_b, .slice A_c a_to.length c_c].toArray, .slice A_d crossings.length c_d] w (impl_Diagram_without.post w0 L r1 r2) := by
  unfold impl_Diagram_without.f at H
  refine Calls.of_G func73 rfl rfl rfl ?_
  refine G.seq (G.region (GO.box (cs := [.slice A_a d_Crossings.length c_a, .int .i64 d_Circles]) HS rfl rfl rfl rfl fun b1 wd2 HS => GO.box (cs := [.slice A_b a_from.length c_b, .slice A_c a_to.length c_c]) HS rfl rfl rfl rfl fun b3 wd4 HS => GO.box (cs := [.slice A_d crossings.length c_d]) HS rfl rfl rfl rfl fun b5 wd6 HS => GO.alloc HS rfl zr30 rfl rfl fun b7 wd8 HS => GO.nil (G.seq (G.region (GO.mkFunc rfl rfl rfl rfl (GO.alloc HS rfl zr120 rfl rfl fun b9 wd10 HS => GO.stBox (j := 0) (vs := [.func (.func 99) #[] #[.pointer (some ⟨b5, 0, none⟩)]]) ([.func (.func 99) #[] #[.pointer (some ⟨b5, 0, none⟩)]]) HS rfl rfl rfl rfl rfl (htN na120 rfl) rfl rfl rfl fun wd11 HS => GO.nil (G.seq ?_)))))))
  obtain ⟨t12, t13, h14, H⟩ := bind2_elim H
  refine G.region (GO.ldBoxA (j := 4) ([.slice A_a d_Crossings.length c_a, .int .i64 d_Circles]) HS rfl rfl rfl rfl ag30 rfl (GO.fn rfl func21 fok21.1 fok21.2 rfl rfl (impl_copyDiagram.calls HS (RdIn.drop 5 r_a) h14) (fun _ wd17 ⟨A15, c16, h18, HS⟩ => ⟨_, h18, (GO.alloc HS rfl zr30 rfl rfl fun b19 wd20 HS => GO.stBox (j := 0) (vs := [.slice A15 t12.length c16, .int .i64 t13]) ([.slice A15 t12.length c16, .int .i64 t13]) HS rfl rfl rfl rfl rfl (htA ag30) rfl rfl rfl fun wd21 HS => GO.nil (G.seq ?_))⟩)))
  obtain ⟨t24, h25, H⟩ := Option.bind_eq_some_iff.1 H
  refine G.region (GO.buildS (el := 2) ([.int .i64 (-1)]) HS rfl rfl (fun _ => by kernel_rfl) rfl fun b22 wd23 HS => GO.fld (⟨b3, 0, none⟩) rfl rfl fl66_0 rfl rfl (GO.ldBox (j := 6) HS rfl rfl rfl rfl na64 rfl (GO.lenS rfl rfl underlying64 rfl ?_)))
  replace HS := HS.boxRow (T := (TInt .i64)) (j := 0) rfl flat_flat (fun _ => ()) ([(-1)] : List Int) rfl (bndL rfl)
  refine GO.lenC (t := 21) (m := ([(-1)] : List Int).length) (c' := ([(-1)] : List Int).length) rfl rfl rfl (GO.fn rfl func101 fok101.1 fok101.2 rfl rfl (slices_Repeat_int64_int64.calls HS (RdIn.own (j := 0) rfl) h25) (fun _ wd28 ⟨A26, c27, h29, HS⟩ => ⟨_, h29, (GO.assign rfl rfl rfl (GO.nil (G.run 4 rfl ?_)))⟩))
  obtain ⟨t30, h31, H⟩ := Option.bind_eq_some_iff.1 H
  refine G.region (GO.fld (⟨b3, 0, none⟩) rfl rfl fl66_0 rfl rfl (GO.ldBox (j := 7) HS rfl rfl rfl rfl na64 rfl (GO.fn rfl func68 fok68.1 fok68.2 rfl rfl (impl_size_impl_end.calls HS (RdIn.drop 9 r_b) h31) (fun _ wd32 ⟨h33, HS⟩ => ⟨_, h33, (GO.move rfl rfl rfl (GO.nil (G.run 2 rfl ?_)))⟩))))
  refine G.name (fun k_l1 hk_l1 => ?_)
  have at_l1 : ∀ m_l1, m_l1 ≤ K → ∀ (work_293 : List GCrossing) (numbers_294 : List Int) (count_295 x296 : Int) (w : World), impl_Diagram_without.l1 K m_l1 d_Crossings d_Circles a_from a_to crossings t13 t30 work_293 numbers_294 count_295 x296 = some (r1, r2) → St w0 w (Box b1 30 [.slice A_a d_Crossings.length c_a, .int .i64 d_Circles] :: Box b3 66 [.slice A_b a_from.length c_b, .slice A_c a_to.length c_c] :: Box b5 74 [.slice A_d crossings.length c_d] :: Box b7 30 [.slice none 0 0, .int .i64 0] :: Box b9 120 [.func (.func 99) #[] #[.pointer (some ⟨b5, 0, none⟩)]] :: Box b19 30 [.slice A15 work_293.length c16, .int .i64 t13] :: Own T_GCrossing 61 A15 c16 (fun _ => ()) work_293 :: Own (TInt .i64) 2 A26 c27 (fun _ => ()) numbers_294 :: L) → G prog 73 128 [(3, .pointer (some ⟨b1, 0, none⟩)), (4, .pointer (some ⟨b3, 0, none⟩)), (5, .pointer (some ⟨b5, 0, none⟩)), (6, .pointer (some ⟨b7, 0, none⟩)), (7, .pointer (some ⟨b9, 0, none⟩)), (8, .pointer (some ⟨b19, 0, none⟩)), (9, .slice A26 numbers_294.length c27), (10, .int .i64 count_295), (28, .int .i64 t30), (29, .int .i64 x296)] k_l1 w (impl_Diagram_without.post w0 L r1 r2) := by
   intro m_l1
   induction m_l1 using Nat.strongRecOn with
   | _ m_l1 ih_l1 =>
    intro hm_l1 work_293 numbers_294 count_295 x296 w H HS
    cases m_l1 with
    | zero => rw [impl_Diagram_without.l1] at H; cases H
    | succ n_l1 =>
     rw [impl_Diagram_without.l1] at H
     subst hk_l1
     refine G.run 3 rfl ?_
     rcases ite_elim H with ⟨c556, H⟩ | ⟨c556, H⟩
     ·
      refine G.yesB rfl (decide_eq_true c556) (G.run 7 rfl ?_)
      obtain ⟨c557, H⟩ := ite_none H
      obtain ⟨e558, h559, H⟩ := bnd_elim H
      obtain ⟨t560, h561, H⟩ := Option.bind_eq_some_iff.1 H
      refine G.lex mixed [1, 3, 0, 2, 4, 5, 6] (by kernel_rfl) ?_
      replace HS := HS.drew
      refine GX.l0 rfl rfl (fun _ _ g => GO.fld (⟨b3, 0, none⟩) rfl rfl fl66_0 rfl rfl g) rfl (GX.ps 1 rfl (GX.l1 rfl rfl rfl (fun _ g => GO.ldBox (j := 4) HS rfl rfl rfl rfl na120 rfl g) rfl (GX.l1 rfl rfl rfl (fun _ g => GO.ldBox (j := 1) HS rfl rfl rfl rfl na64 rfl g) rfl (GX.l0 rfl rfl (fun _ _ g => GO.ix rfl rfl rfl underlying64 sz94 ((RdIn.drop 8 r_b) _ HS).2.2.1 c557.1 c557.2 rfl g) rfl (GX.l1 rfl rfl rfl (fun _ g => GO.ldRdA (T := T_GEnd) (n := x296.toNat) HS (RdIn.drop 8 r_b) rfl rfl (getD_eq (ltN c557) h559) ag94 rfl g) rfl (GX.l2 rfl ?_))))))
      replace HS := HS.pk 8 [2, 0, 1, 3, 4, 5, 6, 7] rfl
      refine GO.clo rfl rfl func99 fok99.1 fok99.2 rfl rfl (impl_Diagram_without_fn1_free.calls HS (RdIn.drop 7 r_d) h561) (fun _ wd562 ⟨h563, HS⟩ => ⟨_, h563, (GX.fin trivial (GX.nil ?_))⟩)
      rcases ite_elim H with ⟨c564, H⟩ | ⟨c564, H⟩
      ·
       refine G.yesB rfl c564 (G.run 3 rfl (G.weak ?_ (ih_l1 n_l1 (Nat.lt_succ_of_le (Nat.le_refl _)) (Nat.le_of_succ_le hm_l1) _ _ _ _ _ H (HS.pk 8 [1, 2, 0, 3, 4, 5, 6, 7] rfl))))
       exact ⟨rfl, rfl, rfl, rfl, rfl, rfl, rfl, rfl, rfl, rfl, trivial⟩
      refine G.noB rfl (bnot_of c564) (G.run 2 rfl ?_)
      obtain ⟨c565, H⟩ := ite_none H
      refine G.region (GO.ps 3 rfl (GO.ix rfl rfl rfl underlying74 sz2 ((RdIn.own (j := 7) rfl) _ HS).2.2.1 c565.1 c565.2 rfl (GO.stRow (T := (TInt .i64)) (j := 7) (n := x296.toNat) (o := 0) (vs := [.int .i64 count_295]) count_295 HS rfl flat_flat rfl rfl rfl rfl (htN na2 rfl) rfl (getD_some (d := 0) (ltN c565)) rfl rfl fun wd566 HS => GO.nil (G.len (t := 9) (m := (numbers_294.set x296.toNat count_295).length) rfl (by simp only [List.length_set] <;> rfl) (G.run 7 rfl ?_)))))
      refine G.name (fun k_l12 hk_l12 => ?_)
      have at_l12 : ∀ m_l12, m_l12 ≤ n_l1 → ∀ (last_584 : Int) (w : World), impl_Diagram_without.l12 K m_l12 d_Crossings d_Circles a_from a_to crossings t13 t30 work_293 numbers_294 count_295 x296 last_584 = some (r1, r2) → St w0 w (Box b1 30 [.slice A_a d_Crossings.length c_a, .int .i64 d_Circles] :: Box b3 66 [.slice A_b a_from.length c_b, .slice A_c a_to.length c_c] :: Box b5 74 [.slice A_d crossings.length c_d] :: Box b7 30 [.slice none 0 0, .int .i64 0] :: Box b9 120 [.func (.func 99) #[] #[.pointer (some ⟨b5, 0, none⟩)]] :: Box b19 30 [.slice A15 work_293.length c16, .int .i64 t13] :: Own T_GCrossing 61 A15 c16 (fun _ => ()) work_293 :: Own (TInt .i64) 2 A26 c27 (fun _ => ()) (numbers_294.set x296.toNat count_295) :: L) → G prog 73 128 [(3, .pointer (some ⟨b1, 0, none⟩)), (4, .pointer (some ⟨b3, 0, none⟩)), (5, .pointer (some ⟨b5, 0, none⟩)), (6, .pointer (some ⟨b7, 0, none⟩)), (7, .pointer (some ⟨b9, 0, none⟩)), (8, .pointer (some ⟨b19, 0, none⟩)), (9, .slice A26 (numbers_294.set x296.toNat count_295).length c27), (10, .int .i64 (w64 (count_295 + 1))), (11, .int .i64 x296), (12, .int .i64 last_584), (28, .int .i64 t30), (29, .int .i64 x296)] k_l12 w (impl_Diagram_without.post w0 L r1 r2) := by
       intro m_l12
       induction m_l12 using Nat.strongRecOn with
       | _ m_l12 ih_l12 =>
        intro hm_l12 last_584 w H HS
        cases m_l12 with
        | zero => rw [impl_Diagram_without.l12] at H; cases H
        | succ n_l12 =>
         rw [impl_Diagram_without.l12] at H
         subst hk_l12
         refine G.run 2 rfl ?_
         obtain ⟨c602, H⟩ := ite_none H
         obtain ⟨e603, h604, H⟩ := bnd_elim H
         obtain ⟨t605, h606, H⟩ := Option.bind_eq_some_iff.1 H
         refine G.lex mixed [1, 3, 0, 2, 4, 5, 6] (by kernel_rfl) ?_
         replace HS := HS.drew
         refine GX.l0 rfl rfl (fun _ _ g => GO.fld (⟨b3, 1, none⟩) rfl rfl fl66_1 rfl rfl g) rfl (GX.ps 1 rfl (GX.l1 rfl rfl rfl (fun _ g => GO.ldBox (j := 4) HS rfl rfl rfl rfl na120 rfl g) rfl (GX.l1 rfl rfl rfl (fun _ g => GO.ldBox (j := 1) HS rfl rfl rfl rfl na64 rfl g) rfl (GX.l0 rfl rfl (fun _ _ g => GO.ix rfl rfl rfl underlying64 sz94 ((RdIn.drop 8 r_c) _ HS).2.2.1 c602.1 c602.2 rfl g) rfl (GX.l1 rfl rfl rfl (fun _ g => GO.ldRdA (T := T_GEnd) (n := last_584.toNat) HS (RdIn.drop 8 r_c) rfl rfl (getD_eq (ltN c602) h604) ag94 rfl g) rfl (GX.l2 rfl ?_))))))
         replace HS := HS.pk 8 [2, 0, 1, 3, 4, 5, 6, 7] rfl
         refine GO.clo rfl rfl func99 fok99.1 fok99.2 rfl rfl (impl_Diagram_without_fn1_free.calls HS (RdIn.drop 7 r_d) h606) (fun _ wd607 ⟨h608, HS⟩ => ⟨_, h608, (GX.fin trivial (GX.nil ?_))⟩)
         rcases ite_elim H with ⟨c609, H⟩ | ⟨c609, H⟩
         ·
          refine G.yesB rfl c609 (G.run 2 rfl ?_)
          obtain ⟨t610, h611, H⟩ := Option.bind_eq_some_iff.1 H
          refine G.region (GO.ldBoxA (j := 1) ([.slice A_a d_Crossings.length c_a, .int .i64 d_Circles]) HS rfl rfl rfl rfl ag30 rfl (GO.ldBoxA (j := 2) ([.slice A_b a_from.length c_b, .slice A_c a_to.length c_c]) HS rfl rfl rfl rfl ag66 rfl (GO.move rfl rfl rfl (GO.fn rfl func102 fok102.1 fok102.2 rfl rfl (impl_Diagram_next.calls HS (RdIn.drop 8 r_a) (RdIn.drop 8 r_b) (RdIn.drop 8 r_c) h611) (fun _ wd612 ⟨h613, HS⟩ => ⟨_, h613, (GO.assign rfl rfl rfl (GO.nil (G.run 2 rfl (G.weak ?_ (ih_l12 n_l12 (Nat.lt_succ_of_le (Nat.le_refl _)) (Nat.le_of_succ_le hm_l12) _ _ H (HS.pk 8 [1, 2, 0, 3, 4, 5, 6, 7] rfl))))))⟩)))))
          exact ⟨rfl, rfl, rfl, rfl, rfl, rfl, rfl, rfl, rfl, rfl, rfl, rfl, trivial⟩
         refine G.noB rfl (bnot_of c609) (G.exit rfl ?_)
         obtain ⟨t614, h615, H⟩ := Option.bind_eq_some_iff.1 H
         obtain ⟨c616, H⟩ := ite_none H
         refine G.lex mixed [1, 3, 6, 0, 2, 4, 5, 7] (by kernel_rfl) ?_
         replace HS := HS.drew
         refine GX.l0 rfl rfl (fun _ _ g => GO.fld (⟨b3, 1, none⟩) rfl rfl fl66_1 rfl rfl g) rfl (GX.ps 2 rfl (GX.l1 rfl rfl rfl (fun _ g => GO.ldBoxA (j := 5) ([.slice A15 work_293.length c16, .int .i64 t13]) HS rfl rfl rfl rfl ag30 rfl g) rfl (GX.l1 rfl rfl rfl (fun _ g => GO.ldBox (j := 2) HS rfl rfl rfl rfl na64 rfl g) rfl (GX.l0 rfl rfl (fun _ _ g => GO.ix rfl rfl rfl underlying64 sz94 ((RdIn.drop 8 r_c) _ HS).2.2.1 c602.1 c602.2 rfl g) rfl (GX.l1 rfl rfl rfl (fun _ g => GO.ldRdA (T := T_GEnd) (n := last_584.toNat) HS (RdIn.drop 8 r_c) rfl rfl (getD_eq (ltN c602) h604) ag94 rfl g) rfl (GX.l2 rfl ?_))))))
         replace HS := HS.pk 8 [6, 0, 1, 2, 3, 4, 5, 7] rfl
         refine GO.fn rfl func69 fok69.1 fok69.2 rfl rfl (impl_Diagram_set.calls HS  h615) (fun _ wd617 ⟨h618, HS⟩ => ⟨_, h618, (GX.fin trivial (GX.nil ?_))⟩)
         replace HS := HS.boxEq (j := 6) (cs' := [.slice A15 t614.length c16, .int .i64 t13]) rfl (by simp only [List.length_set, c616] <;> rfl)
         refine G.run 3 rfl (G.weak ?_ (ih_l1 n_l12 (by omega) (by omega) _ _ _ _ _ H (HS.pk 8 [2, 3, 1, 4, 5, 6, 0, 7] rfl)))
         exact ⟨rfl, rfl, rfl, rfl, rfl, rfl, rfl, rfl, rfl, rfl, trivial⟩
      refine G.weak ?_ (at_l12 n_l1 (Nat.le_refl _) _ _ H (HS.pk 8 [1, 2, 0, 3, 4, 5, 6, 7] rfl))
      exact ⟨rfl, rfl, rfl, rfl, rfl, rfl, rfl, rfl, rfl, rfl, rfl, rfl, trivial⟩
     refine G.noB rfl (decide_eq_false c556) (G.run 2 rfl (G.region (GO.fld (⟨b1, 1, none⟩) rfl rfl fl30_1 rfl rfl (GO.ldBox (j := 0) HS rfl rfl rfl rfl na2 rfl (GO.buildV (.agg [.slice none 0 0, .int .i64 d_Circles].toArray) rfl rfl (fun _ => by kernel_rfl) rfl (GO.alloc HS rfl zr30 rfl rfl fun b619 wd620 HS => GO.stBox (j := 0) (vs := [.slice none 0 0, .int .i64 d_Circles]) ([.slice none 0 0, .int .i64 d_Circles]) HS rfl rfl rfl rfl rfl (htA ag30) rfl rfl rfl fun wd621 HS => GO.nil (G.run 2 rfl (G.region (GO.fld (⟨b19, 0, none⟩) rfl rfl fl30_0 rfl rfl (GO.ldBox (j := 6) HS rfl rfl rfl rfl na28 rfl (GO.lenS rfl rfl underlying28 rfl (GO.move rfl rfl rfl ?_))))))))))))
     refine GO.nil (G.run 2 rfl ?_)
     refine G.name (fun k_l13 hk_l13 => ?_)
     have at_l13 : ∀ m_l13, m_l13 ≤ n_l1 → ∀ (A685 : Option Addr) (c686 : Nat) (out_687 : List GCrossing) (x688 : Int) (w : World), impl_Diagram_without.l13 K m_l13 d_Crossings d_Circles a_from a_to crossings work_293 numbers_294 out_687 x688 = some (r1, r2) → St w0 w (Box b1 30 [.slice A_a d_Crossings.length c_a, .int .i64 d_Circles] :: Box b3 66 [.slice A_b a_from.length c_b, .slice A_c a_to.length c_c] :: Box b5 74 [.slice A_d crossings.length c_d] :: Box b7 30 [.slice none 0 0, .int .i64 0] :: Box b9 120 [.func (.func 99) #[] #[.pointer (some ⟨b5, 0, none⟩)]] :: Own (TInt .i64) 2 A26 c27 (fun _ => ()) numbers_294 :: Box b619 30 [.slice A685 out_687.length c686, .int .i64 d_Circles] :: Own T_GCrossing 61 A685 c686 (fun _ => ()) out_687 :: Own T_GCrossing 61 A15 c16 (fun _ => ()) work_293 :: L) → G prog 73 128 [(3, .pointer (some ⟨b1, 0, none⟩)), (4, .pointer (some ⟨b3, 0, none⟩)), (5, .pointer (some ⟨b5, 0, none⟩)), (6, .pointer (some ⟨b7, 0, none⟩)), (7, .pointer (some ⟨b9, 0, none⟩)), (9, .slice A26 numbers_294.length c27), (13, .pointer (some ⟨b619, 0, none⟩)), (70, .slice A15 work_293.length c16), (71, .int .i64 (work_293.length : Int)), (72, .int .i64 x688)] k_l13 w (impl_Diagram_without.post w0 L r1 r2) := by
      intro m_l13
      induction m_l13 using Nat.strongRecOn with
      | _ m_l13 ih_l13 =>
       intro hm_l13 A685 c686 out_687 x688 w H HS
       cases m_l13 with
       | zero => rw [impl_Diagram_without.l13] at H; cases H
       | succ n_l13 =>
        rw [impl_Diagram_without.l13] at H
        subst hk_l13
        refine G.run 3 rfl ?_
        rcases ite_elim H with ⟨c752, H⟩ | ⟨c752, H⟩
        ·
         refine G.yesB rfl (decide_eq_true c752) (G.run 4 rfl ?_)
         obtain ⟨c753, H⟩ := ite_none H
         obtain ⟨e754, h755, H⟩ := bnd_elim H
         refine G.region (GO.move rfl rfl rfl (GO.ix rfl rfl rfl underlying28 sz61 ((RdIn.own (j := 8) rfl) _ HS).2.2.1 c753.1 c753.2 rfl (GO.ldRdA (T := T_GCrossing) (n := x688.toNat) HS (RdIn.own (j := 8) rfl) rfl rfl (getD_eq (ltN c753) h755) ag61 rfl (GO.alloc HS rfl zr61 rfl rfl fun b756 wd757 HS => GO.assign rfl rfl rfl (GO.stBox (j := 0) (vs := [.int .i64 e754.A, .int .i64 e754.B, .int .i64 e754.C, .int .i64 e754.D, .int .i64 e754.Sign]) ([.int .i64 e754.A, .int .i64 e754.B, .int .i64 e754.C, .int .i64 e754.D, .int .i64 e754.Sign]) HS rfl rfl rfl rfl rfl (htA ag61) rfl rfl rfl fun wd758 HS => GO.nil (G.seq ?_))))))
         obtain ⟨t759, h760, H⟩ := Option.bind_eq_some_iff.1 H
         refine G.region (GO.ldBox (j := 3) HS rfl rfl rfl rfl na74 rfl (GO.move rfl rfl rfl (GO.fn rfl func100 fok100.1 fok100.2 rfl rfl (slices_Contains_int64_int64.calls HS (RdIn.drop 10 r_d) h760) (fun _ wd761 ⟨h762, HS⟩ => ⟨_, h762, (GO.not rfl rfl rfl (GO.nil ?_))⟩))))
         rcases ite_elim H with ⟨c763, H⟩ | ⟨c763, H⟩
         ·
          refine G.noB rfl (congrArg Bool.not c763) (G.run 4 rfl (G.weak ?_ (ih_l13 n_l13 (Nat.lt_succ_of_le (Nat.le_refl _)) (Nat.le_of_succ_le hm_l13) _ _ _ _ _ H (HS.pk 10 [1, 2, 3, 4, 5, 6, 7, 8, 9] rfl))))
          exact ⟨rfl, rfl, rfl, rfl, rfl, rfl, rfl, rfl, rfl, rfl, trivial⟩
         refine G.yesB rfl (congrArg Bool.not (bnot_of c763)) ?_
         obtain ⟨c764, H⟩ := ite_none H
         have h765 := ((RdIn.own (j := 6) rfl) _ HS).2.2.1
         obtain ⟨c766, H⟩ := ite_none H
         have h767 := ((RdIn.own (j := 6) rfl) _ HS).2.2.1
         obtain ⟨c768, H⟩ := ite_none H
         have h769 := ((RdIn.own (j := 6) rfl) _ HS).2.2.1
         obtain ⟨c770, H⟩ := ite_none H
         have h771 := ((RdIn.own (j := 6) rfl) _ HS).2.2.1
         obtain ⟨c777, H⟩ := ite_none H
         refine G.lexS mixed (fun w => St w0 w (Box b756 61 [.int .i64 e754.A, .int .i64 e754.B, .int .i64 e754.C, .int .i64 e754.D, .int .i64 e754.Sign] :: Own (TInt .i64) 2 A26 c27 (fun _ => ()) numbers_294 :: Box b619 30 [.slice A685 out_687.length c686, .int .i64 d_Circles] :: L)) [1, 4, 6, 9, 11, 14, 16, 19, 21, 23] [0, 2, 3, 7, 8, 12, 13, 17, 18, 22, 1, 4, 5, 6, 9, 10, 11, 14, 15, 16, 19, 20, 21, 23, 24, 25, 26, 27, 28] 28 (by kernel_rfl) (by kernel_rfl) (HS.drew.pk 10 [0, 6, 7] rfl) ?_
         replace HS := HS.drew
         refine GX.l0 rfl rfl (fun _ _ g => GO.fld (⟨b619, 0, none⟩) rfl rfl fl30_0 rfl rfl g) rfl (GX.ps 1 rfl (GX.l0 rfl rfl (fun _ _ g => GO.fld (⟨b756, 0, none⟩) rfl rfl fl61_0 rfl rfl g) rfl (GX.ps 1 rfl (GX.l0 rfl rfl (fun _ _ g => GO.fld (⟨b756, 1, none⟩) rfl rfl fl61_1 rfl rfl g) rfl (GX.ps 1 rfl (GX.l0 rfl rfl (fun _ _ g => GO.fld (⟨b756, 2, none⟩) rfl rfl fl61_2 rfl rfl g) rfl (GX.ps 1 rfl (GX.l0 rfl rfl (fun _ _ g => GO.fld (⟨b756, 3, none⟩) rfl rfl fl61_3 rfl rfl g) rfl (GX.l0 rfl rfl (fun _ _ g => GO.fld (⟨b756, 4, none⟩) rfl rfl fl61_4 rfl rfl g) rfl (GX.ls rfl rfl rfl (HS.pk 10 [0, 6, 7] rfl) (fun _ HS _ g => GO.ldBox (j := 2) HS rfl rfl rfl rfl na28 rfl g) rfl (GX.ls rfl rfl rfl (HS.pk 10 [0, 6, 7] rfl) (fun _ HS _ g => GO.ldBox (j := 0) HS rfl rfl rfl rfl na2 rfl g) rfl (GX.l0 rfl rfl (fun _ _ g => GO.ix rfl rfl rfl underlying74 sz2 h765 c764.1 c764.2 rfl g) rfl (GX.ls rfl rfl rfl (HS.pk 10 [0, 6, 7] rfl) (fun _ HS _ g => GO.ldRd (T := (TInt .i64)) (n := e754.A.toNat) (o := 0) HS (RdIn.own (j := 1) rfl) rfl rfl (getD_some (d := 0) (ltN c764)) rfl rfl na2 rfl g) rfl (GX.ls rfl rfl rfl (HS.pk 10 [0, 6, 7] rfl) (fun _ HS _ g => GO.ldBox (j := 0) HS rfl rfl rfl rfl na2 rfl g) rfl ?_))))))))))))))
         refine GX.l0 rfl rfl (fun _ _ g => GO.ix rfl rfl rfl underlying74 sz2 h767 c766.1 c766.2 rfl g) rfl (GX.ls rfl rfl rfl (HS.pk 10 [0, 6, 7] rfl) (fun _ HS _ g => GO.ldRd (T := (TInt .i64)) (n := e754.B.toNat) (o := 0) HS (RdIn.own (j := 1) rfl) rfl rfl (getD_some (d := 0) (ltN c766)) rfl rfl na2 rfl g) rfl (GX.ls rfl rfl rfl (HS.pk 10 [0, 6, 7] rfl) (fun _ HS _ g => GO.ldBox (j := 0) HS rfl rfl rfl rfl na2 rfl g) rfl (GX.l0 rfl rfl (fun _ _ g => GO.ix rfl rfl rfl underlying74 sz2 h769 c768.1 c768.2 rfl g) rfl (GX.ls rfl rfl rfl (HS.pk 10 [0, 6, 7] rfl) (fun _ HS _ g => GO.ldRd (T := (TInt .i64)) (n := e754.C.toNat) (o := 0) HS (RdIn.own (j := 1) rfl) rfl rfl (getD_some (d := 0) (ltN c768)) rfl rfl na2 rfl g) rfl (GX.ls rfl rfl rfl (HS.pk 10 [0, 6, 7] rfl) (fun _ HS _ g => GO.ldBox (j := 0) HS rfl rfl rfl rfl na2 rfl g) rfl (GX.l0 rfl rfl (fun _ _ g => GO.ix rfl rfl rfl underlying74 sz2 h771 c770.1 c770.2 rfl g) rfl (GX.ls rfl rfl rfl (HS.pk 10 [0, 6, 7] rfl) (fun _ HS _ g => GO.ldRd (T := (TInt .i64)) (n := e754.D.toNat) (o := 0) HS (RdIn.own (j := 1) rfl) rfl rfl (getD_some (d := 0) (ltN c770)) rfl rfl na2 rfl g) rfl (GX.ls rfl rfl rfl (HS.pk 10 [0, 6, 7] rfl) (fun _ HS _ g => GO.ldBox (j := 0) HS rfl rfl rfl rfl na2 rfl g) rfl (GX.l0 rfl rfl (fun _ _ g => GO.buildV (.agg [.int .i64 (numbers_294.getD e754.A.toNat 0), .int .i64 (numbers_294.getD e754.B.toNat 0), .int .i64 (numbers_294.getD e754.C.toNat 0), .int .i64 (numbers_294.getD e754.D.toNat 0), .int .i64 e754.Sign].toArray) rfl rfl (fun _ => by kernel_rfl) rfl g) rfl (GX.l2 rfl (GO.buildS (el := 61) ([.int .i64 (numbers_294.getD e754.A.toNat 0), .int .i64 (numbers_294.getD e754.B.toNat 0), .int .i64 (numbers_294.getD e754.C.toNat 0), .int .i64 (numbers_294.getD e754.D.toNat 0), .int .i64 e754.Sign]) HS rfl rfl (fun _ => by kernel_rfl) rfl fun b772 wd773 HS => GX.fin (HS.pk 11 [1, 7, 8] rfl) (GX.l2 rfl (GO.app1 (T := T_GCrossing) (j := 9) (jb := 0) (⟨numbers_294.getD e754.A.toNat 0, numbers_294.getD e754.B.toNat 0, numbers_294.getD e754.C.toNat 0, numbers_294.getD e754.D.toNat 0, e754.Sign⟩ : GCrossing) HS rfl rfl flat_flat rfl rfl rfl underlying28 inf61 rfl rfl rfl c777 rfl fun A775 c776 wd774 HS => ?_)))))))))))))
         refine GX.fin (HS.pk 11 [1, 7, 8] rfl) (GX.l0 rfl rfl (fun _ _ g => GO.fld (⟨b619, 0, none⟩) rfl rfl fl30_0 rfl rfl g) rfl (GX.l2 rfl (GO.stBox (j := 8) (vs := [.slice A775 (out_687 ++ [(⟨numbers_294.getD e754.A.toNat 0, numbers_294.getD e754.B.toNat 0, numbers_294.getD e754.C.toNat 0, numbers_294.getD e754.D.toNat 0, e754.Sign⟩ : GCrossing)]).length c776]) ([.slice A775 (out_687 ++ [(⟨numbers_294.getD e754.A.toNat 0, numbers_294.getD e754.B.toNat 0, numbers_294.getD e754.C.toNat 0, numbers_294.getD e754.D.toNat 0, e754.Sign⟩ : GCrossing)]).length c776, .int .i64 d_Circles]) HS rfl rfl rfl rfl rfl (htN na28 rfl) rfl rfl rfl fun wd778 HS => GX.finZ (GX.nil (G.run 3 rfl (G.weak ?_ (ih_l13 n_l13 (Nat.lt_succ_of_le (Nat.le_refl _)) (Nat.le_of_succ_le hm_l13) _ _ _ _ _ H (HS.pk 11 [2, 3, 4, 5, 6, 7, 8, 9, 10] rfl))))))))
         exact ⟨rfl, rfl, rfl, rfl, rfl, rfl, rfl, rfl, rfl, rfl, trivial⟩
        refine G.noB rfl (decide_eq_false c752) (G.run 3 rfl ?_)
        obtain ⟨t779, h780, H⟩ := Option.bind_eq_some_iff.1 H
        refine G.region (GO.ldBoxA (j := 0) ([.slice A_a d_Crossings.length c_a, .int .i64 d_Circles]) HS rfl rfl rfl rfl ag30 rfl (GO.ldBoxA (j := 1) ([.slice A_b a_from.length c_b, .slice A_c a_to.length c_c]) HS rfl rfl rfl rfl ag66 rfl (GO.fn rfl func103 fok103.1 fok103.2 rfl rfl (impl_Diagram_strands.calls HS (RdIn.drop 9 r_a) (RdIn.drop 9 r_b) (RdIn.drop 9 r_c) h780) (fun _ wd784 ⟨A781, c782, y783, h785, HS⟩ => ⟨_, h785, (GO.lenS rfl rfl underlying55 rfl (GO.move rfl rfl rfl (GO.nil (G.run 2 rfl ?_))))⟩))))
        refine G.name (fun k_l16 hk_l16 => ?_)
        have at_l16 : ∀ m_l16, m_l16 ≤ n_l13 → ∀ (out_795 x796 : Int) (w : World), impl_Diagram_without.l16 K m_l16 a_from a_to crossings out_687 t779 out_795 x796 = some (r1, r2) → St w0 w (Box b3 66 [.slice A_b a_from.length c_b, .slice A_c a_to.length c_c] :: Box b7 30 [.slice none 0 0, .int .i64 0] :: Box b9 120 [.func (.func 99) #[] #[.pointer (some ⟨b5, 0, none⟩)]] :: Box b5 74 [.slice A_d crossings.length c_d] :: Box b619 30 [.slice A685 out_687.length c686, .int .i64 out_795] :: Own T_GCrossing 61 A685 c686 (fun _ => ()) out_687 :: Own (Ty.slice 2 (TInt .i64)) 74 A781 c782 y783 t779 :: L) → G prog 73 128 [(4, .pointer (some ⟨b3, 0, none⟩)), (6, .pointer (some ⟨b7, 0, none⟩)), (7, .pointer (some ⟨b9, 0, none⟩)), (13, .pointer (some ⟨b619, 0, none⟩)), (112, .slice A781 t779.length c782), (113, .int .i64 (t779.length : Int)), (114, .int .i64 x796)] k_l16 w (impl_Diagram_without.post w0 L r1 r2) := by
         intro m_l16
         induction m_l16 using Nat.strongRecOn with
         | _ m_l16 ih_l16 =>
          intro hm_l16 out_795 x796 w H HS
          cases m_l16 with
          | zero => rw [impl_Diagram_without.l16] at H; cases H
          | succ n_l16 =>
           rw [impl_Diagram_without.l16] at H
           subst hk_l16
           refine G.run 3 rfl ?_
           rcases ite_elim H with ⟨c806, H⟩ | ⟨c806, H⟩
           ·
            refine G.yesB rfl (decide_eq_true c806) (G.run 4 rfl ?_)
            obtain ⟨c807, H⟩ := ite_none H
            refine G.region (GO.ix rfl rfl rfl underlying55 sz74 ((RdIn.own (j := 6) rfl) _ HS).2.2.1 c807.1 c807.2 rfl (GO.ldRd (T := (Ty.slice 2 (TInt .i64))) (n := x796.toNat) (o := 0) HS (RdIn.own (j := 6) rfl) rfl rfl (getD_some (d := []) (ltN c807)) rfl rfl na74 rfl (GO.assign rfl rfl rfl (GO.nil (G.seq ?_)))))
            obtain ⟨t808, h809, H⟩ := Option.bind_eq_some_iff.1 H
            refine G.region (GO.move rfl rfl rfl (GO.mkFunc rfl rfl rfl rfl ?_))
            replace HS := HS.pk 7 [2, 3, 0, 1, 4, 5, 6] rfl
            refine GO.fn rfl func104 fok104.1 fok104.2 rfl rfl (slices_ContainsFunc_int64_int64_135.calls HS (RdIn.elem (RdIn.own (j := 3) rfl) c807.1 c807.2) (RdIn.drop 4 r_d) (RdIn.drop 4 r_b) (RdIn.drop 4 r_c) h809) (fun _ wd810 ⟨h811, HS⟩ => ⟨_, h811, (GO.not rfl rfl rfl (GO.nil ?_))⟩)
            rcases ite_elim H with ⟨c812, H⟩ | ⟨c812, H⟩
            ·
             refine G.noB rfl (congrArg Bool.not c812) (G.run 4 rfl (G.weak ?_ (ih_l16 n_l16 (Nat.lt_succ_of_le (Nat.le_refl _)) (Nat.le_of_succ_le hm_l16) _ _ _ H (HS.pk 7 [2, 3, 0, 1, 4, 5, 6] rfl))))
             exact ⟨rfl, rfl, rfl, rfl, rfl, rfl, rfl, trivial⟩
            refine G.yesB rfl (congrArg Bool.not (bnot_of c812)) (G.region (GO.fld (⟨b619, 1, none⟩) rfl rfl fl30_1 rfl rfl (GO.ldBox (j := 4) HS rfl rfl rfl rfl na2 rfl (GO.add rfl rfl rfl rfl (GO.fld (⟨b619, 1, none⟩) rfl rfl fl30_1 rfl rfl (GO.stBox (j := 4) (vs := [.int .i64 (w64 (out_795 + 1))]) ([.slice A685 out_687.length c686, .int .i64 (w64 (out_795 + 1))]) HS rfl rfl rfl rfl rfl (htN na2 rfl) rfl rfl rfl fun wd813 HS => GO.nil (G.run 3 rfl (G.weak ?_ (ih_l16 n_l16 (Nat.lt_succ_of_le (Nat.le_refl _)) (Nat.le_of_succ_le hm_l16) _ _ _ H (HS.pk 7 [2, 3, 0, 1, 4, 5, 6] rfl))))))))))
            exact ⟨rfl, rfl, rfl, rfl, rfl, rfl, rfl, trivial⟩
           refine G.noB rfl (decide_eq_false c806) (G.run 2 rfl (G.region (GO.ldBoxA (j := 4) ([.slice A685 out_687.length c686, .int .i64 out_795]) HS rfl rfl rfl rfl ag30 rfl (GO.stBox (j := 1) (vs := [.slice A685 out_687.length c686, .int .i64 out_795]) ([.slice A685 out_687.length c686, .int .i64 out_795]) HS rfl rfl rfl rfl rfl (htA ag30) rfl rfl rfl fun wd814 HS => GO.nil ?_))))
           obtain ⟨rfl, rfl⟩ := some2 H
           exact G.ret1 _ func73 rfl (Res1.boxA (j := 1) (vs := [.slice A685 out_687.length c686, .int .i64 out_795]) HS rfl rfl rfl ag30) ⟨_, _, rfl, (HS.pk 7 [5] rfl)⟩
        refine G.weak ?_ (at_l16 n_l13 (Nat.le_refl _) _ _ _ H (HS.pk 10 [2, 4, 5, 3, 7, 8, 0] rfl))
        exact ⟨rfl, rfl, rfl, rfl, rfl, rfl, rfl, trivial⟩
     replace HS := HS.nilRow T_GCrossing 61 (fun _ => ())
     refine G.weak ?_ (at_l13 n_l1 (Nat.le_refl _) _ _ _ _ _ H (HS.pk 10 [2, 3, 4, 5, 6, 9, 1, 0, 8] rfl))
     exact ⟨rfl, rfl, rfl, rfl, rfl, rfl, rfl, rfl, rfl, rfl, trivial⟩
  refine G.weak ?_ (at_l1 K (Nat.le_refl _) _ _ _ _ _ H (HS.pk 9 [8, 7, 6, 5, 4, 2, 3, 0] rfl))
  exact ⟨rfl, rfl, rfl, rfl, rfl, rfl, rfl, rfl, rfl, rfl, trivial⟩
theorem impl_limitedCircles.calls {w0 w : World} {L : List HObj} {d_Crossings : List GCrossing} {d_Circles : Int} {A_a : Option Addr} {c_a : Nat} {r1 : List GCrossing} {r2 r3 : Int} (HS : St w0 w (Own T_GCrossing 61 A_a c_a (fun _ => ()) d_Crossings :: L)) (H : impl_limitedCircles.f d_Crossings d_Circles = some (r1, r2, r3)) :
    Calls prog 72 #[.agg [.slice A_a d_Crossings.length c_a, .int .i64 d_Circles].toArray] w (impl_limitedCircles.post w0 L r1 r2 r3) := by
  unfold impl_limitedCircles.f at H
  refine Calls.of_G func72 rfl rfl rfl ?_
  refine G.seq (G.region (GO.box (cs := [.slice A_a d_Crossings.length c_a, .int .i64 d_Circles]) HS rfl rfl rfl rfl fun b1 wd2 HS => GO.alloc HS rfl zr30 rfl rfl fun b3 wd4 HS => GO.assign rfl rfl rfl (GO.nil (G.run 2 rfl (G.region (GO.fld (⟨b1, 1, none⟩) rfl rfl fl30_1 rfl rfl (GO.ldBox (j := 1) HS rfl rfl rfl rfl na2 rfl (GO.gtr rfl rfl rfl rfl (GO.nil ?_)))))))))
  rcases ite_elim H with ⟨c5, H⟩ | ⟨c5, H⟩
  ·
   refine G.yesB rfl (decide_eq_true c5) (G.seq (G.region (GO.buildV (.agg [.slice none 0 0, .int .i64 0].toArray) rfl rfl (fun _ => by kernel_rfl) rfl (GO.stBox (j := 0) (vs := [.slice none 0 0, .int .i64 0]) ([.slice none 0 0, .int .i64 0]) HS rfl rfl rfl rfl rfl (htA ag30) rfl rfl rfl fun wd6 HS => GO.assign rfl rfl rfl (GO.nil ?_)))))
   replace HS := HS.nilRow T_GCrossing 61 (fun _ => ())
   obtain ⟨rfl, rfl, rfl⟩ := some3 H
   exact G.ret2 _ _ func72 rfl (Res1.boxA (j := 1) (vs := [.slice none 0 0, .int .i64 0]) HS rfl rfl rfl ag30) rfl ⟨_, _, rfl, (HS.pk 4 [0] rfl)⟩
  refine G.noB rfl (decide_eq_false c5) (G.run 2 rfl (G.region (GO.ldBoxA (j := 1) ([.slice A_a d_Crossings.length c_a, .int .i64 d_Circles]) HS rfl rfl rfl rfl ag30 rfl (GO.stBox (j := 0) (vs := [.slice A_a d_Crossings.length c_a, .int .i64 d_Circles]) ([.slice A_a d_Crossings.length c_a, .int .i64 d_Circles]) HS rfl rfl rfl rfl rfl (htA ag30) rfl rfl rfl fun wd7 HS => GO.assign rfl rfl rfl (GO.nil ?_)))))
  obtain ⟨rfl, rfl, rfl⟩ := some3 H
  exact G.ret2 _ _ func72 rfl (Res1.boxA (j := 0) (vs := [.slice A_a d_Crossings.length c_a, .int .i64 d_Circles]) HS rfl rfl rfl ag30) rfl ⟨_, _, rfl, (HS.pk 3 [2] rfl)⟩
theorem impl_RemoveKink.calls {w0 w : World} {L : List HObj} {K : Nat} {d_Crossings : List GCrossing} {d_Circles c : Int} {A_a : Option Addr} {c_a : Nat} {r1 : List GCrossing} {r2 r3 : Int} (HS : St w0 w (L)) (r_a : RdIn w0 L T_GCrossing A_a c_a (fun _ => ()) d_Crossings) (H : impl_RemoveKink.f K d_Crossings d_Circles c = some (r1, r2, r3)) :
    Calls prog 40 #[.agg [.slice A_a d_Crossings.length c_a, .int .i64 d_Circles].toArray, .int .i64 c] w (impl_RemoveKink.post w0 L r1 r2 r3) := by
  unfold impl_RemoveKink.f at H
  refine Calls.of_G func40 rfl rfl rfl ?_
  refine G.seq (G.region (GO.box (cs := [.slice A_a d_Crossings.length c_a, .int .i64 d_Circles]) HS rfl rfl rfl rfl fun b1 wd2 HS => GO.alloc HS rfl zr30 rfl rfl fun b3 wd4 HS => GO.assign rfl rfl rfl (GO.nil (G.seq ?_))))
  obtain ⟨t5, t6, t7, h8, H⟩ := bind3_elim H
  refine G.region (GO.ldBoxA (j := 1) ([.slice A_a d_Crossings.length c_a, .int .i64 d_Circles]) HS rfl rfl rfl rfl ag30 rfl (GO.fn rfl func37 fok37.1 fok37.2 rfl rfl (impl_Diagram_drawing.calls HS (RdIn.drop 2 r_a) h8) (fun _ wd13 ⟨A9, c10, A11, c12, h14, HS⟩ => ⟨_, h14, (GO.ps 3 rfl (GO.alloc HS rfl zr66 rfl rfl fun b15 wd16 HS => GO.stBox (j := 0) (vs := [.slice A9 t5.length c10, .slice A11 t6.length c12]) ([.slice A9 t5.length c10, .slice A11 t6.length c12]) HS rfl rfl rfl rfl rfl (htA ag66) rfl rfl rfl fun wd17 HS => GO.assign rfl rfl rfl (GO.nil (G.run 4 rfl ?_))))⟩)))
  rcases ite_elim H with ⟨c18, H⟩ | ⟨c18, H⟩
  ·
   refine G.noB rfl (congrArg Bool.not c18) (G.seq ?_)
   obtain ⟨t19, h20, H⟩ := Option.bind_eq_some_iff.1 H
   refine G.region (GO.fld (⟨b1, 0, none⟩) rfl rfl fl30_0 rfl rfl (GO.ldBox (j := 4) HS rfl rfl rfl rfl na28 rfl (GO.move rfl rfl rfl (GO.fn rfl func70 fok70.1 fok70.2 rfl rfl (impl_hasIndex_impl_Crossing.calls HS (RdIn.drop 5 r_a) h20) (fun _ wd21 ⟨h22, HS⟩ => ⟨_, h22, (GO.ps 2 rfl (GO.nil ?_))⟩)))))
   rcases ite_elim H with ⟨c23, H⟩ | ⟨c23, H⟩
   ·
    refine G.noB rfl (congrArg Bool.not c23) (G.seq ?_)
    obtain ⟨c24, H⟩ := ite_none H
    obtain ⟨e25, h26, H⟩ := bnd_elim H
    obtain ⟨t27, h28, H⟩ := Option.bind_eq_some_iff.1 H
    refine G.region (GO.fld (⟨b1, 0, none⟩) rfl rfl fl30_0 rfl rfl (GO.ldBox (j := 4) HS rfl rfl rfl rfl na28 rfl (GO.move rfl rfl rfl (GO.ix rfl rfl rfl underlying28 sz61 ((RdIn.drop 5 r_a) _ HS).2.2.1 c24.1 c24.2 rfl (GO.ldRdA (T := T_GCrossing) (n := c.toNat) HS (RdIn.drop 5 r_a) rfl rfl (getD_eq (ltN c24) h26) ag61 rfl (GO.fn rfl func71 fok71.1 fok71.2 rfl rfl (impl_isKink.calls HS  h28) (fun _ wd29 ⟨h30, HS⟩ => ⟨_, h30, (GO.ps 2 rfl (GO.nil ?_))⟩)))))))
    rcases ite_elim H with ⟨c31, H⟩ | ⟨c31, H⟩
    ·
     refine G.noB rfl (congrArg Bool.not c31) (G.run 3 rfl ?_)
     obtain ⟨t34, t35, h36, H⟩ := bind2_elim H
     obtain ⟨t41, t42, t43, h44, H⟩ := bind3_elim H
     refine G.region (GO.ldBoxA (j := 4) ([.slice A_a d_Crossings.length c_a, .int .i64 d_Circles]) HS rfl rfl rfl rfl ag30 rfl (GO.ldBoxA (j := 0) ([.slice A9 t5.length c10, .slice A11 t6.length c12]) HS rfl rfl rfl rfl ag66 rfl (GO.move rfl rfl rfl (GO.buildS (el := 2) ([.int .i64 c]) HS rfl rfl (fun _ => by kernel_rfl) rfl fun b32 wd33 HS => ?_))))
     replace HS := HS.boxRow (T := (TInt .i64)) (j := 0) rfl flat_flat (fun _ => ()) ([c] : List Int) rfl (bndL rfl)
     refine GO.lenC (t := 36) (m := ([c] : List Int).length) (c' := ([c] : List Int).length) rfl rfl rfl (GO.fn rfl func73 fok73.1 fok73.2 rfl rfl (impl_Diagram_without.calls HS (RdIn.drop 6 r_a) (RdIn.own (j := 2) rfl) (RdIn.own (j := 3) rfl) (RdIn.own (j := 0) rfl) h36) (fun _ wd39 ⟨A37, c38, h40, HS⟩ => ⟨_, h40, ?_⟩))
     replace HS := HS.pk 7 [0, 1, 2, 3, 4, 5, 6] rfl
     refine GO.fn rfl func72 fok72.1 fok72.2 rfl rfl (impl_limitedCircles.calls HS  h44) (fun _ wd47 ⟨A45, c46, h48, HS⟩ => ⟨_, h48, (GO.ps 2 rfl (GO.stBox (j := 5) (vs := [.slice A45 t41.length c46, .int .i64 t42]) ([.slice A45 t41.length c46, .int .i64 t42]) HS rfl rfl rfl rfl rfl (htA ag30) rfl rfl rfl fun wd49 HS => GO.assign rfl rfl rfl (GO.nil ?_)))⟩)
     obtain ⟨rfl, rfl, rfl⟩ := some3 H
     exact G.ret2 _ _ func40 rfl (Res1.boxA (j := 5) (vs := [.slice A45 t41.length c46, .int .i64 t42]) HS rfl rfl rfl ag30) rfl ⟨_, _, rfl, (HS.pk 7 [0] rfl)⟩
    refine G.yesB rfl (congrArg Bool.not (bnot_of c31)) (G.seq (G.region (GO.buildV (.agg [.slice none 0 0, .int .i64 0].toArray) rfl rfl (fun _ => by kernel_rfl) rfl (GO.stBox (j := 3) (vs := [.slice none 0 0, .int .i64 0]) ([.slice none 0 0, .int .i64 0]) HS rfl rfl rfl rfl rfl (htA ag30) rfl rfl rfl fun wd50 HS => GO.assign rfl rfl rfl (GO.nil ?_)))))
    replace HS := HS.nilRow T_GCrossing 61 (fun _ => ())
    obtain ⟨rfl, rfl, rfl⟩ := some3 H
    exact G.ret2 _ _ func40 rfl (Res1.boxA (j := 4) (vs := [.slice none 0 0, .int .i64 0]) HS rfl rfl rfl ag30) rfl ⟨_, _, rfl, (HS.pk 6 [0] rfl)⟩
   refine G.yesB rfl (congrArg Bool.not (bnot_of c23)) (G.seq (G.region (GO.buildV (.agg [.slice none 0 0, .int .i64 0].toArray) rfl rfl (fun _ => by kernel_rfl) rfl (GO.stBox (j := 3) (vs := [.slice none 0 0, .int .i64 0]) ([.slice none 0 0, .int .i64 0]) HS rfl rfl rfl rfl rfl (htA ag30) rfl rfl rfl fun wd51 HS => GO.assign rfl rfl rfl (GO.nil ?_)))))
   replace HS := HS.nilRow T_GCrossing 61 (fun _ => ())
   obtain ⟨rfl, rfl, rfl⟩ := some3 H
   exact G.ret2 _ _ func40 rfl (Res1.boxA (j := 4) (vs := [.slice none 0 0, .int .i64 0]) HS rfl rfl rfl ag30) rfl ⟨_, _, rfl, (HS.pk 6 [0] rfl)⟩
  refine G.yesB rfl (congrArg Bool.not (bnot_of c18)) (G.seq (G.region (GO.buildV (.agg [.slice none 0 0, .int .i64 0].toArray) rfl rfl (fun _ => by kernel_rfl) rfl (GO.stBox (j := 3) (vs := [.slice none 0 0, .int .i64 0]) ([.slice none 0 0, .int .i64 0]) HS rfl rfl rfl rfl rfl (htA ag30) rfl rfl rfl fun wd52 HS => GO.assign rfl rfl rfl (GO.nil ?_)))))
  replace HS := HS.nilRow T_GCrossing 61 (fun _ => ())
  obtain ⟨rfl, rfl, rfl⟩ := some3 H
  exact G.ret2 _ _ func40 rfl (Res1.boxA (j := 4) (vs := [.slice none 0 0, .int .i64 0]) HS rfl rfl rfl ag30) rfl ⟨_, _, rfl, (HS.pk 6 [0] rfl)⟩
theorem impl_Diagram_sides.calls {w0 w : World} {L : List HObj} {K : Nat} {d_Crossings : List GCrossing} {d_Circles : Int} {a_from a_to : List GEnd} {A_a : Option Addr} {c_a : Nat} {A_b : Option Addr} {c_b : Nat} {A_c : Option Addr} {c_c : Nat} {r1 : List Int} (HS : St w0 w (L)) (r_a : RdIn w0 L T_GCrossing A_a c_a (fun _ => ()) d_Crossings) (r_b : RdIn w0 L T_GEnd A_b c_b (fun _ => ()) a_from) (r_c : RdIn w0 L T_GEnd A_c c_c (fun _ => ()) a_to) (H : impl_Diagram_sides.f K d_Crossings d_Circles a_from a_to = some r1) :
    Calls prog 74 #[.agg [.slice A_a d_Crossings.length c_a, .int .i64 d_Circles].toArray, .agg [.slice A_b a_from.length c_b, .slice A_c a_to.length c_c].toArray] w (impl_Diagram_sides.post w0 L r1) := by
  unfold impl_Diagram_sides.f at H
  refine Calls.of_G func74 rfl rfl rfl ?_
  refine G.seq (G.region (GO.box (cs := [.slice A_a d_Crossings.length c_a, .int .i64 d_Circles]) HS rfl rfl rfl rfl fun b1 wd2 HS => GO.box (cs := [.slice A_b a_from.length c_b, .slice A_c a_to.length c_c]) HS rfl rfl rfl rfl fun b3 wd4 HS => GO.assign rfl rfl rfl (GO.nil (G.seq ?_))))
  obtain ⟨c5, H⟩ := ite_none H
  obtain ⟨c6, H⟩ := ite_none H
  refine G.region (GO.fld (⟨b3, 1, none⟩) rfl rfl fl66_1 rfl rfl (GO.ldBox (j := 0) HS rfl rfl rfl rfl na64 rfl (GO.lenS rfl rfl underlying64 rfl (GO.mul rfl rfl rfl rfl (GO.make (T := (TInt .i64)) 0 () HS flat_flat rfl rfl rfl underlying74 inf2 rfl rfl rfl c5 c6 rfl fun b7 wd8 HS => GO.assign rfl rfl rfl (GO.nil (G.run 2 rfl ?_)))))))
  obtain ⟨t9, h10, H⟩ := Option.bind_eq_some_iff.1 H
  refine G.region (GO.ldBoxA (j := 2) ([.slice A_a d_Crossings.length c_a, .int .i64 d_Circles]) HS rfl rfl rfl rfl ag30 rfl (GO.ldBoxA (j := 1) ([.slice A_b a_from.length c_b, .slice A_c a_to.length c_c]) HS rfl rfl rfl rfl ag66 rfl (GO.fn rfl func64 fok64.1 fok64.2 rfl rfl (impl_Diagram_regions.calls HS (RdIn.drop 3 r_a) (RdIn.drop 3 r_b) (RdIn.drop 3 r_c) h10) (fun _ wd14 ⟨A11, c12, y13, h15, HS⟩ => ⟨_, h15, (GO.lenS rfl rfl underlying55 rfl (GO.move rfl rfl rfl (GO.nil (G.run 2 rfl ?_))))⟩))))
  refine G.name (fun k_l1 hk_l1 => ?_)
  have at_l1 : ∀ m_l1, m_l1 ≤ K → ∀ (out_95 : List Int) (x96 : Int) (w : World), impl_Diagram_sides.l1 K m_l1 d_Crossings t9 out_95 x96 = some r1 → St w0 w (Box b1 30 [.slice A_a d_Crossings.length c_a, .int .i64 d_Circles] :: Own (TInt .i64) 2 (some ⟨b7, 0, none⟩) ((w64 (2 * (a_to.length : Int))).toNat) (fun _ => ()) out_95 :: Own (Ty.slice 2 (TInt .i64)) 74 A11 c12 y13 t9 :: L) → G prog 74 60 [(2, .pointer (some ⟨b1, 0, none⟩)), (5, .slice (some ⟨b7, 0, none⟩) out_95.length ((w64 (2 * (a_to.length : Int))).toNat)), (20, .slice A11 t9.length c12), (21, .int .i64 (t9.length : Int)), (22, .int .i64 x96)] k_l1 w (impl_Diagram_sides.post w0 L r1) := by
   intro m_l1
   induction m_l1 using Nat.strongRecOn with
   | _ m_l1 ih_l1 =>
    intro hm_l1 out_95 x96 w H HS
    cases m_l1 with
    | zero => rw [impl_Diagram_sides.l1] at H; cases H
    | succ n_l1 =>
     rw [impl_Diagram_sides.l1] at H
     subst hk_l1
     refine G.run 3 rfl ?_
     rcases ite_elim H with ⟨c176, H⟩ | ⟨c176, H⟩
     ·
      refine G.yesB rfl (decide_eq_true c176) (G.run 4 rfl ?_)
      obtain ⟨c177, H⟩ := ite_none H
      refine G.region (GO.move rfl rfl rfl (GO.ix rfl rfl rfl underlying55 sz74 ((RdIn.own (j := 2) rfl) _ HS).2.2.1 c177.1 c177.2 rfl (GO.ldRd (T := (Ty.slice 2 (TInt .i64))) (n := x96.toNat) (o := 0) HS (RdIn.own (j := 2) rfl) rfl rfl (getD_some (d := []) (ltN c177)) rfl rfl na74 rfl (GO.ps 2 rfl (GO.nil (G.seq (G.region (GO.move rfl rfl rfl (GO.lenS rfl rfl underlying74 rfl (GO.move rfl rfl rfl (GO.nil (G.run 2 rfl ?_))))))))))))
      refine G.name (fun k_l10 hk_l10 => ?_)
      have at_l10 : ∀ m_l10, m_l10 ≤ n_l1 → ∀ (out_203 : List Int) (x204 : Int) (w : World), impl_Diagram_sides.l10 K m_l10 d_Crossings t9 x96 out_203 x204 = some r1 → St w0 w (Box b1 30 [.slice A_a d_Crossings.length c_a, .int .i64 d_Circles] :: Own (TInt .i64) 2 (some ⟨b7, 0, none⟩) ((w64 (2 * (a_to.length : Int))).toNat) (fun _ => ()) out_203 :: Own (Ty.slice 2 (TInt .i64)) 74 A11 c12 y13 t9 :: L) → G prog 74 60 [(2, .pointer (some ⟨b1, 0, none⟩)), (5, .slice (some ⟨b7, 0, none⟩) out_203.length ((w64 (2 * (a_to.length : Int))).toNat)), (6, .int .i64 x96), (20, .slice A11 t9.length c12), (21, .int .i64 (t9.length : Int)), (22, .int .i64 x96), (27, .slice ((y13 x96.toNat).A) (t9.getD x96.toNat []).length ((y13 x96.toNat).c)), (28, .int .i64 ((t9.getD x96.toNat []).length : Int)), (29, .int .i64 x204)] k_l10 w (impl_Diagram_sides.post w0 L r1) := by
       intro m_l10
       induction m_l10 using Nat.strongRecOn with
       | _ m_l10 ih_l10 =>
        intro hm_l10 out_203 x204 w H HS
        cases m_l10 with
        | zero => rw [impl_Diagram_sides.l10] at H; cases H
        | succ n_l10 =>
         rw [impl_Diagram_sides.l10] at H
         subst hk_l10
         refine G.run 3 rfl ?_
         rcases ite_elim H with ⟨c230, H⟩ | ⟨c230, H⟩
         ·
          refine G.yesB rfl (decide_eq_true c230) (G.run 4 rfl ?_)
          obtain ⟨c231, H⟩ := ite_none H
          refine G.region (GO.ix rfl rfl rfl underlying74 sz2 ((RdIn.elem (RdIn.own (j := 2) rfl) c177.1 c177.2) _ HS).2.2.1 c231.1 c231.2 rfl (GO.ldRd (T := (TInt .i64)) (n := x204.toNat) (o := 0) HS (RdIn.elem (RdIn.own (j := 2) rfl) c177.1 c177.2) rfl rfl (getD_some (d := 0) (ltN c231)) rfl rfl na2 rfl (GO.assign rfl rfl rfl (GO.nil (G.seq ?_)))))
          obtain ⟨c232, H⟩ := ite_none H
          obtain ⟨e233, h234, H⟩ := bnd_elim H
          refine G.region (GO.fld (⟨b1, 0, none⟩) rfl rfl fl30_0 rfl rfl (GO.ldBox (j := 0) HS rfl rfl rfl rfl na28 rfl (GO.move rfl rfl rfl (GO.quo rfl rfl rfl (by decide) rfl (GO.ix rfl rfl rfl underlying28 sz61 ((RdIn.drop 3 r_a) _ HS).2.2.1 c232.1 c232.2 rfl (GO.ldRdA (T := T_GCrossing) (n := (w64 (((t9.getD x96.toNat []).getD x204.toNat 0).tdiv 4)).toNat) HS (RdIn.drop 3 r_a) rfl rfl (getD_eq (ltN c232) h234) ag61 rfl (GO.ps 2 rfl (GO.rem rfl rfl rfl (by decide) rfl (GO.alloc HS rfl zr61 rfl rfl fun b235 wd236 HS => GO.stBox (j := 0) (vs := [.int .i64 e233.A, .int .i64 e233.B, .int .i64 e233.C, .int .i64 e233.D, .int .i64 e233.Sign]) ([.int .i64 e233.A, .int .i64 e233.B, .int .i64 e233.C, .int .i64 e233.D, .int .i64 e233.Sign]) HS rfl rfl rfl rfl rfl (htA ag61) rfl rfl rfl fun wd237 HS => GO.assign rfl rfl rfl (GO.nil (G.seq ?_)))))))))))
          obtain ⟨t238, t239, t240, t241, h242, H⟩ := bind4_elim H
          obtain ⟨c245, H⟩ := ite_none H
          refine G.region (GO.ldBoxA (j := 0) ([.int .i64 e233.A, .int .i64 e233.B, .int .i64 e233.C, .int .i64 e233.D, .int .i64 e233.Sign]) HS rfl rfl rfl rfl ag61 rfl (GO.fn rfl func81 fok81.1 fok81.2 rfl rfl (impl_Crossing_ends.calls HS  h242) (fun _ wd243 ⟨h244, HS⟩ => ⟨_, h244, (GO.move rfl rfl rfl (GO.ixArr ([t238, t239, t240, t241] : List Int) rfl rfl rfl underlying104 underlying2 sz2 rfl c245.1 c245.2 rfl (GO.ps 2 rfl (GO.nil (G.run 2 rfl ?_)))))⟩)))
          obtain ⟨t246, h247, H⟩ := Option.bind_eq_some_iff.1 H
          refine G.region (GO.ldBoxA (j := 0) ([.int .i64 e233.A, .int .i64 e233.B, .int .i64 e233.C, .int .i64 e233.D, .int .i64 e233.Sign]) HS rfl rfl rfl rfl ag61 rfl (GO.move rfl rfl rfl (GO.fn rfl func90 fok90.1 fok90.2 rfl rfl (impl_Crossing_enters.calls HS  h247) (fun _ wd248 ⟨h249, HS⟩ => ⟨_, h249, (GO.not rfl rfl rfl (GO.nil ?_))⟩))))
          refine G.nameT (fun k_j13 hk_j13 => ?_)
          have at_j13 : ∀ m_j13, m_j13 ≤ n_l10 → ∀ (side_251 : Int) (w : World), impl_Diagram_sides.j13 K m_j13 d_Crossings t9 x96 out_203 x204 side_251 = some r1 → St w0 w (Box b1 30 [.slice A_a d_Crossings.length c_a, .int .i64 d_Circles] :: Own (TInt .i64) 2 (some ⟨b7, 0, none⟩) ((w64 (2 * (a_to.length : Int))).toNat) (fun _ => ()) out_203 :: Own (Ty.slice 2 (TInt .i64)) 74 A11 c12 y13 t9 :: L) → G prog 74 60 [(2, .pointer (some ⟨b1, 0, none⟩)), (5, .slice (some ⟨b7, 0, none⟩) out_203.length ((w64 (2 * (a_to.length : Int))).toNat)), (6, .int .i64 x96), (12, .int .i64 side_251), (20, .slice A11 t9.length c12), (21, .int .i64 (t9.length : Int)), (22, .int .i64 x96), (27, .slice ((y13 x96.toNat).A) (t9.getD x96.toNat []).length ((y13 x96.toNat).c)), (28, .int .i64 ((t9.getD x96.toNat []).length : Int)), (29, .int .i64 x204)] k_j13 w (impl_Diagram_sides.post w0 L r1) := by
           intro m_j13 hm_j13 side_251 w H HS
           cases m_j13 with
           | zero => rw [impl_Diagram_sides.j13] at H; cases H
           | succ n_j13 =>
            rw [impl_Diagram_sides.j13] at H
            subst hk_j13
            obtain ⟨c252, H⟩ := ite_none H
            refine G.region (GO.ps 3 rfl (GO.ix rfl rfl rfl underlying74 sz2 (fun _ => ⟨_, _, rfl⟩) c252.1 c252.2 rfl (GO.stRow (T := (TInt .i64)) (j := 1) (n := side_251.toNat) (o := 0) (vs := [.int .i64 x96]) x96 HS rfl flat_flat rfl rfl rfl rfl (htN na2 rfl) rfl (getD_some (d := 0) (ltN c252)) rfl rfl fun wd253 HS => GO.nil (G.len (t := 5) (m := (out_203.set side_251.toNat x96).length) rfl (by simp only [List.length_set] <;> rfl) (G.run 3 rfl (G.weak ?_ (ih_l10 n_j13 (by omega) (by omega) _ _ _ H HS)))))))
            exact ⟨rfl, rfl, rfl, rfl, rfl, rfl, rfl, rfl, rfl, trivial⟩
          rcases ite_elim H with ⟨c254, H⟩ | ⟨c254, H⟩
          ·
           refine G.noB rfl (congrArg Bool.not c254) (G.skip (G.weak ?_ (at_j13 n_l10 (Nat.le_refl _) _ _ H (HS.pk 4 [1, 2, 3] rfl))))
           exact ⟨rfl, rfl, rfl, rfl, rfl, rfl, rfl, rfl, rfl, rfl, trivial⟩
          refine G.yesB rfl (congrArg Bool.not (bnot_of c254)) (G.run 1 rfl (G.weak ?_ (at_j13 n_l10 (Nat.le_refl _) _ _ H (HS.pk 4 [1, 2, 3] rfl))))
          exact ⟨rfl, rfl, rfl, rfl, rfl, rfl, rfl, rfl, rfl, rfl, trivial⟩
         refine G.noB rfl (decide_eq_false c230) (G.run 4 rfl (G.weak ?_ (ih_l1 n_l10 (by omega) (by omega) _ _ _ H HS)))
         exact ⟨rfl, rfl, rfl, rfl, rfl, trivial⟩
      refine G.weak ?_ (at_l10 n_l1 (Nat.le_refl _) _ _ _ H HS)
      exact ⟨rfl, rfl, rfl, rfl, rfl, rfl, rfl, rfl, rfl, trivial⟩
     refine G.noB rfl (decide_eq_false c176) (G.run 3 rfl ?_)
     obtain rfl := Option.some.inj H
     exact G.ret1 _ func74 rfl rfl ⟨_, _, rfl, (HS.pk 3 [1] rfl)⟩
  refine G.weak ?_ (at_l1 K (Nat.le_refl _) _ _ _ H (HS.pk 4 [3, 1, 0] rfl))
  exact ⟨rfl, rfl, rfl, rfl, rfl, trivial⟩
theorem impl_size_int64_97.calls {w0 w : World} {L : List HObj} {list : List Int} {A_a : Option Addr} {c_a : Nat} {r1 : Int} (HS : St w0 w (L)) (r_a : RdIn w0 L (TInt .i64) A_a c_a (fun _ => ()) list) (H : impl_size_int64_97.f list = some r1) :
    Calls prog 106 #[.slice A_a list.length c_a] w (impl_size_int64_97.post w0 L r1) := by
  unfold impl_size_int64_97.f at H
  refine Calls.of_G func106 rfl rfl rfl ?_
  refine G.run 3 rfl (G.region (GO.move rfl rfl rfl (GO.lenS rfl rfl underlying74 rfl (GO.assign rfl rfl rfl (GO.nil ?_)))))
  obtain rfl := Option.some.inj H
  exact G.ret1 _ func106 rfl rfl ⟨rfl, HS⟩
theorem impl_hasIndex_int64.calls {w0 w : World} {L : List HObj} {list : List Int} {i : Int} {A_a : Option Addr} {c_a : Nat} {r1 : Bool} (HS : St w0 w (L)) (r_a : RdIn w0 L (TInt .i64) A_a c_a (fun _ => ()) list) (H : impl_hasIndex_int64.f list i = some r1) :
    Calls prog 75 #[.slice A_a list.length c_a, .int .i64 i] w (impl_hasIndex_int64.post w0 L r1) := by
  unfold impl_hasIndex_int64.f at H
  refine Calls.of_G func75 rfl rfl rfl ?_
  refine G.run 3 rfl ?_
  obtain ⟨t1, h2, H⟩ := Option.bind_eq_some_iff.1 H
  obtain ⟨t5, h6, H⟩ := Option.bind_eq_some_iff.1 H
  refine G.region (GO.ps 2 rfl (GO.fn rfl func106 fok106.1 fok106.2 rfl rfl (impl_size_int64_97.calls HS r_a h2) (fun _ wd3 ⟨h4, HS⟩ => ⟨_, h4, (GO.sub rfl rfl rfl rfl (GO.fn rfl func59 fok59.1 fok59.2 rfl rfl (impl_inRange.calls HS  h6) (fun _ wd7 ⟨h8, HS⟩ => ⟨_, h8, (GO.assign rfl rfl rfl (GO.nil ?_))⟩)))⟩)))
  obtain rfl := Option.some.inj H
  exact G.ret1 _ func75 rfl rfl ⟨rfl, HS⟩
theorem impl_crossed.calls {w0 w : World} {L : List HObj} {low lowOut : Int} {up upOut : Int} {sign r1 : Int} {r2 r3 : Int} {r4 r5 : Int} (HS : St w0 w (L)) (H : impl_crossed.f low lowOut up upOut sign = some (r1, r2, r3, r4, r5)) :
    Calls prog 76 #[.int .i64 low, .int .i64 lowOut, .int .i64 up, .int .i64 upOut, .int .i64 sign] w (impl_crossed.post w0 L r1 r2 r3 r4 r5) := by
  unfold impl_crossed.f at H
  refine Calls.of_G func76 rfl rfl rfl ?_
  refine G.seq (G.region (GO.alloc HS rfl zr61 rfl rfl fun b1 wd2 HS => GO.nil (G.run 3 rfl ?_)))
  rcases ite_elim H with ⟨c3, H⟩ | ⟨c3, H⟩
  ·
   refine G.yesB rfl (decide_eq_true c3) (G.seq (G.region (GO.ps 4 rfl (GO.buildV (.agg [.int .i64 low, .int .i64 upOut, .int .i64 lowOut, .int .i64 up, .int .i64 1].toArray) rfl rfl (fun _ => by kernel_rfl) rfl (GO.stBox (j := 0) (vs := [.int .i64 low, .int .i64 upOut, .int .i64 lowOut, .int .i64 up, .int .i64 1]) ([.int .i64 low, .int .i64 upOut, .int .i64 lowOut, .int .i64 up, .int .i64 1]) HS rfl rfl rfl rfl rfl (htA ag61) rfl rfl rfl fun wd4 HS => GO.nil ?_)))))
   obtain ⟨rfl, rfl, rfl, rfl, rfl⟩ := some5 H
   exact G.ret1 _ func76 rfl (Res1.boxA (j := 0) (vs := [.int .i64 low, .int .i64 upOut, .int .i64 lowOut, .int .i64 up, .int .i64 1]) HS rfl rfl rfl ag61) ⟨rfl, (HS.pk 1 [] rfl)⟩
  refine G.noB rfl (decide_eq_false c3) (G.run 2 rfl (G.region (GO.ps 4 rfl (GO.buildV (.agg [.int .i64 low, .int .i64 up, .int .i64 lowOut, .int .i64 upOut, .int .i64 (-1)].toArray) rfl rfl (fun _ => by kernel_rfl) rfl (GO.stBox (j := 0) (vs := [.int .i64 low, .int .i64 up, .int .i64 lowOut, .int .i64 upOut, .int .i64 (-1)]) ([.int .i64 low, .int .i64 up, .int .i64 lowOut, .int .i64 upOut, .int .i64 (-1)]) HS rfl rfl rfl rfl rfl (htA ag61) rfl rfl rfl fun wd5 HS => GO.nil ?_)))))
  obtain ⟨rfl, rfl, rfl, rfl, rfl⟩ := some5 H
  exact G.ret1 _ func76 rfl (Res1.boxA (j := 0) (vs := [.int .i64 low, .int .i64 up, .int .i64 lowOut, .int .i64 upOut, .int .i64 (-1)]) HS rfl rfl rfl ag61) ⟨rfl, (HS.pk 1 [] rfl)⟩
theorem impl_AddBigon.calls {w0 w : World} {L : List HObj} {K : Nat} {t_Crossings : List GCrossing} {t_Circles o A : Int} {A_a : Option Addr} {c_a : Nat} {r1 : List GCrossing} {r2 r3 : Int} (HS : St w0 w (L)) (r_a : RdIn w0 L T_GCrossing A_a c_a (fun _ => ()) t_Crossings) (H : impl_AddBigon.f K t_Crossings t_Circles o A = some (r1, r2, r3)) :
    Calls prog 41 #[.agg [.slice A_a t_Crossings.length c_a, .int .i64 t_Circles].toArray, .int .i64 o, .int .i64 A] w (impl_AddBigon.post w0 L r1 r2 r3) := by
  unfold impl_AddBigon.f at H
  refine Calls.of_G func41 rfl rfl rfl ?_
  refine G.seq (G.region (GO.box (cs := [.slice A_a t_Crossings.length c_a, .int .i64 t_Circles]) HS rfl rfl rfl rfl fun b1 wd2 HS => GO.alloc HS rfl zr30 rfl rfl fun b3 wd4 HS => GO.assign rfl rfl rfl (GO.nil (G.seq ?_))))
  obtain ⟨t5, t6, t7, h8, H⟩ := bind3_elim H
  refine G.region (GO.ldBoxA (j := 1) ([.slice A_a t_Crossings.length c_a, .int .i64 t_Circles]) HS rfl rfl rfl rfl ag30 rfl (GO.fn rfl func37 fok37.1 fok37.2 rfl rfl (impl_Diagram_drawing.calls HS (RdIn.drop 2 r_a) h8) (fun _ wd13 ⟨A9, c10, A11, c12, h14, HS⟩ => ⟨_, h14, (GO.ps 3 rfl (GO.alloc HS rfl zr66 rfl rfl fun b15 wd16 HS => GO.stBox (j := 0) (vs := [.slice A9 t5.length c10, .slice A11 t6.length c12]) ([.slice A9 t5.length c10, .slice A11 t6.length c12]) HS rfl rfl rfl rfl rfl (htA ag66) rfl rfl rfl fun wd17 HS => GO.assign rfl rfl rfl (GO.nil (G.run 3 rfl ?_))))⟩)))
  rcases ite_elim H with ⟨c18, H⟩ | ⟨c18, H⟩
  ·
   refine G.noB rfl (congrArg Bool.not c18) (G.run 2 rfl ?_)
   obtain ⟨t19, h20, H⟩ := Option.bind_eq_some_iff.1 H
   refine G.region (GO.ldBoxA (j := 4) ([.slice A_a t_Crossings.length c_a, .int .i64 t_Circles]) HS rfl rfl rfl rfl ag30 rfl (GO.ldBoxA (j := 0) ([.slice A9 t5.length c10, .slice A11 t6.length c12]) HS rfl rfl rfl rfl ag66 rfl (GO.fn rfl func74 fok74.1 fok74.2 rfl rfl (impl_Diagram_sides.calls HS (RdIn.drop 5 r_a) (RdIn.own (j := 1) rfl) (RdIn.own (j := 2) rfl) h20) (fun _ wd23 ⟨A21, c22, h24, HS⟩ => ⟨_, h24, (GO.assign rfl rfl rfl (GO.nil (G.run 3 rfl ?_)))⟩))))
   obtain ⟨t34, h35, H⟩ := Option.bind_eq_some_iff.1 H
   rcases ite_elim H with ⟨c38, H⟩ | ⟨c38, H⟩
   ·
    obtain ⟨t39, h40, H⟩ := Option.bind_eq_some_iff.1 H
    refine G.region (GO.ps 2 rfl (GO.fn rfl func75 fok75.1 fok75.2 rfl rfl (impl_hasIndex_int64.calls HS (RdIn.own (j := 0) rfl) h35) (fun _ wd36 ⟨h37, HS⟩ => ⟨_, h37, (GO.ps 2 rfl (GO.known (t := 32) rfl (congrArg Bool.not c38) (GO.on rfl rfl rfl rfl (GO.move rfl rfl rfl (GO.back (GO.on rfl rfl rfl rfl (GO.move rfl rfl rfl (GO.back (GO.on rfl rfl rfl rfl (GO.fn rfl func75 fok75.1 fok75.2 rfl rfl (impl_hasIndex_int64.calls HS (RdIn.own (j := 0) rfl) h40) (fun _ wd41 ⟨h42, HS⟩ => ⟨_, h42, (GO.back (GO.on rfl rfl rfl rfl ?_))⟩)))))))))))⟩)))
    refine GO.not rfl rfl rfl (GO.back (GO.ps 2 rfl (GO.nil ?_)))
    rcases ite_elim H with ⟨c43, H⟩ | ⟨c43, H⟩
    ·
     refine G.noB rfl (congrArg Bool.not c43) (G.seq ?_)
     rcases ite_elim H with ⟨c47, H⟩ | ⟨c47, H⟩
     ·
      refine G.lex mixed [0, 1, 2, 3, 4, 5, 6, 7, 8, 10, 11, 12, 9, 13, 14, 15, 16] (by kernel_rfl) ?_
      replace HS := HS.drew
      refine GX.ps 1 rfl (GX.l0 rfl rfl (fun _ _ g => GO.quo rfl rfl rfl (by decide) rfl g) rfl (GX.ps 1 rfl (GX.l0 rfl rfl (fun _ _ g => GO.quo rfl rfl rfl (by decide) rfl g) rfl (GX.ps 1 rfl (GX.l0 rfl rfl (fun _ _ g => GO.move rfl rfl rfl (GO.known (t := 45) rfl (decide_eq_true c47) g)) rfl (GX.l0 rfl rfl (fun _ _ g => GO.off rfl rfl rfl rfl rfl rfl g) rfl (GX.l0 rfl rfl (fun _ _ g => GO.off rfl rfl rfl rfl rfl rfl g) rfl (GX.l0 rfl rfl (fun _ _ g => GO.off rfl rfl rfl rfl rfl rfl g) rfl (GX.l0 rfl rfl (fun _ _ g => GO.off rfl rfl rfl rfl rfl rfl g) rfl (GX.l0 rfl rfl (fun _ _ g => GO.off rfl rfl rfl rfl rfl rfl g) rfl (GX.l0 rfl rfl (fun _ _ g => GO.off rfl rfl rfl rfl rfl rfl g) rfl (GX.l1 rfl rfl rfl (fun _ g => GO.off rfl rfl rfl rfl rfl rfl g) rfl (GX.l1 rfl rfl rfl (fun _ g => GO.off rfl rfl rfl rfl rfl rfl g) rfl (GX.l0 rfl rfl (fun _ _ g => GO.off rfl rfl rfl rfl rfl rfl g) rfl ?_))))))))))))))
      refine GX.ps 2 rfl (GX.nil (G.run 2 rfl (G.region (GO.buildV (.agg [.slice none 0 0, .int .i64 0].toArray) rfl rfl (fun _ => by kernel_rfl) rfl (GO.stBox (j := 4) (vs := [.slice none 0 0, .int .i64 0]) ([.slice none 0 0, .int .i64 0]) HS rfl rfl rfl rfl rfl (htA ag30) rfl rfl rfl fun wd48 HS => GO.assign rfl rfl rfl (GO.nil ?_))))))
      replace HS := HS.nilRow T_GCrossing 61 (fun _ => ())
      obtain ⟨rfl, rfl, rfl⟩ := some3 H
      exact G.ret2 _ _ func41 rfl (Res1.boxA (j := 5) (vs := [.slice none 0 0, .int .i64 0]) HS rfl rfl rfl ag30) rfl ⟨_, _, rfl, (HS.pk 7 [0] rfl)⟩
     obtain ⟨c49, H⟩ := ite_none H
     obtain ⟨c50, H⟩ := ite_none H
     refine G.lex mixed [0, 1, 2, 3, 4, 5, 6, 7, 8, 10, 11, 12, 9, 13, 14, 15, 16] (by kernel_rfl) ?_
     replace HS := HS.drew
     refine GX.ps 1 rfl (GX.l0 rfl rfl (fun _ _ g => GO.quo rfl rfl rfl (by decide) rfl g) rfl (GX.ps 1 rfl (GX.l0 rfl rfl (fun _ _ g => GO.quo rfl rfl rfl (by decide) rfl g) rfl (GX.ps 1 rfl (GX.l0 rfl rfl (fun _ _ g => GO.move rfl rfl rfl (GO.known (t := 45) rfl (decide_eq_false c47) g)) rfl (GX.l0 rfl rfl (fun _ _ g => GO.on rfl rfl rfl rfl (GO.move rfl rfl rfl (GO.back g))) rfl (GX.l0 rfl rfl (fun _ _ g => GO.on rfl rfl rfl rfl (GO.move rfl rfl rfl (GO.back g))) rfl (GX.l0 rfl rfl (fun _ _ g => GO.on rfl rfl rfl rfl (GO.ix rfl rfl rfl underlying74 sz2 ((RdIn.own (j := 0) rfl) _ HS).2.2.1 c49.1 c49.2 rfl (GO.back g))) rfl (GX.l0 rfl rfl (fun _ _ g => GO.on rfl rfl rfl rfl (GO.move rfl rfl rfl (GO.back g))) rfl (GX.l0 rfl rfl (fun _ _ g => GO.on rfl rfl rfl rfl (GO.move rfl rfl rfl (GO.back g))) rfl (GX.l0 rfl rfl (fun _ _ g => GO.on rfl rfl rfl rfl (GO.ix rfl rfl rfl underlying74 sz2 ((RdIn.own (j := 0) rfl) _ HS).2.2.1 c50.1 c50.2 rfl (GO.back g))) rfl (GX.l1 rfl rfl rfl (fun _ g => GO.on rfl rfl rfl rfl (GO.ldRd (T := (TInt .i64)) (n := o.toNat) (o := 0) HS (RdIn.own (j := 0) rfl) rfl rfl (getD_some (d := 0) (ltN c49)) rfl rfl na2 rfl (GO.back g))) rfl (GX.l1 rfl rfl rfl (fun _ g => GO.on rfl rfl rfl rfl (GO.ldRd (T := (TInt .i64)) (n := A.toNat) (o := 0) HS (RdIn.own (j := 0) rfl) rfl rfl (getD_some (d := 0) (ltN c50)) rfl rfl na2 rfl (GO.back g))) rfl (GX.l0 rfl rfl (fun _ _ g => GO.on rfl rfl rfl rfl (GO.neq rfl rfl rfl rfl (GO.back g))) rfl ?_))))))))))))))
     refine GX.ps 2 rfl (GX.nil ?_)
     rcases ite_elim H with ⟨c51, H⟩ | ⟨c51, H⟩
     ·
      refine G.noB rfl (congrArg Bool.not (decide_eq_true c51)) (G.seq (G.region (GO.fld (⟨b1, 0, none⟩) rfl rfl fl30_0 rfl rfl (GO.ldBox (j := 5) HS rfl rfl rfl rfl na28 rfl (GO.lenS rfl rfl underlying28 rfl (GO.ps 2 rfl (GO.nil ?_)))))))
      rcases ite_elim H with ⟨c52, H⟩ | ⟨c52, H⟩
      ·
       refine G.yesB rfl (decide_eq_true c52) (G.seq (G.region (GO.buildV (.agg [.slice none 0 0, .int .i64 0].toArray) rfl rfl (fun _ => by kernel_rfl) rfl (GO.stBox (j := 4) (vs := [.slice none 0 0, .int .i64 0]) ([.slice none 0 0, .int .i64 0]) HS rfl rfl rfl rfl rfl (htA ag30) rfl rfl rfl fun wd53 HS => GO.assign rfl rfl rfl (GO.nil ?_)))))
       replace HS := HS.nilRow T_GCrossing 61 (fun _ => ())
       obtain ⟨rfl, rfl, rfl⟩ := some3 H
       exact G.ret2 _ _ func41 rfl (Res1.boxA (j := 5) (vs := [.slice none 0 0, .int .i64 0]) HS rfl rfl rfl ag30) rfl ⟨_, _, rfl, (HS.pk 7 [0] rfl)⟩
      refine G.noB rfl (decide_eq_false c52) (G.run 3 rfl ?_)
      obtain ⟨t54, h55, H⟩ := Option.bind_eq_some_iff.1 H
      refine G.region (GO.move rfl rfl rfl (GO.quo rfl rfl rfl (by decide) rfl (GO.move rfl rfl rfl (GO.quo rfl rfl rfl (by decide) rfl (GO.fld (⟨b15, 1, none⟩) rfl rfl fl66_1 rfl rfl (GO.ldBox (j := 1) HS rfl rfl rfl rfl na64 rfl (GO.fn rfl func68 fok68.1 fok68.2 rfl rfl (impl_size_impl_end.calls HS (RdIn.own (j := 3) rfl) h55) (fun _ wd56 ⟨h57, HS⟩ => ⟨_, h57, (GO.ps 3 rfl (GO.nil (G.seq ?_)))⟩))))))))
      obtain ⟨t58, t59, h60, H⟩ := bind2_elim H
      refine G.region (GO.ldBoxA (j := 5) ([.slice A_a t_Crossings.length c_a, .int .i64 t_Circles]) HS rfl rfl rfl rfl ag30 rfl (GO.fn rfl func21 fok21.1 fok21.2 rfl rfl (impl_copyDiagram.calls HS (RdIn.drop 6 r_a) h60) (fun _ wd63 ⟨A61, c62, h64, HS⟩ => ⟨_, h64, (GO.alloc HS rfl zr30 rfl rfl fun b65 wd66 HS => GO.stBox (j := 0) (vs := [.slice A61 t58.length c62, .int .i64 t59]) ([.slice A61 t58.length c62, .int .i64 t59]) HS rfl rfl rfl rfl rfl (htA ag30) rfl rfl rfl fun wd67 HS => GO.nil (G.seq ?_))⟩)))
      obtain ⟨c68, H⟩ := ite_none H
      have h69 := ((RdIn.own (j := 5) rfl) _ HS).2.2.1
      obtain ⟨e70, h71, H⟩ := bnd_elim H
      obtain ⟨t72, h73, H⟩ := Option.bind_eq_some_iff.1 H
      obtain ⟨c74, H⟩ := ite_none H
      refine G.lex mixed [1, 3, 6, 7, 0, 2, 4, 5, 8] (by kernel_rfl) ?_
      replace HS := HS.drew
      refine GX.l0 rfl rfl (fun _ _ g => GO.fld (⟨b15, 1, none⟩) rfl rfl fl66_1 rfl rfl g) rfl (GX.ps 3 rfl (GX.l1 rfl rfl rfl (fun _ g => GO.ldBoxA (j := 0) ([.slice A61 t58.length c62, .int .i64 t59]) HS rfl rfl rfl rfl ag30 rfl g) rfl (GX.l1 rfl rfl rfl (fun _ g => GO.ldBox (j := 3) HS rfl rfl rfl rfl na64 rfl g) rfl (GX.l0 rfl rfl (fun _ _ g => GO.ix rfl rfl rfl underlying64 sz94 h69 c68.1 c68.2 rfl g) rfl (GX.l1 rfl rfl rfl (fun _ g => GO.ldRdA (T := T_GEnd) (n := (w64 (o.tdiv 2)).toNat) HS (RdIn.own (j := 5) rfl) rfl rfl (getD_eq (ltN c68) h71) ag94 rfl g) rfl (GX.l2 rfl ?_))))))
      replace HS := HS.pk 8 [1, 0, 2, 3, 4, 5, 6, 7] rfl
      refine GO.fn rfl func69 fok69.1 fok69.2 rfl rfl (impl_Diagram_set.calls HS  h73) (fun _ wd75 ⟨h76, HS⟩ => ⟨_, h76, (GX.fin trivial (GX.nil ?_))⟩)
      replace HS := HS.boxEq (j := 1) (cs' := [.slice A61 t72.length c62, .int .i64 t59]) rfl (by simp only [List.length_set, c74] <;> rfl)
      refine G.seq ?_
      obtain ⟨c77, H⟩ := ite_none H
      have h78 := ((RdIn.own (j := 5) rfl) _ HS).2.2.1
      obtain ⟨e79, h80, H⟩ := bnd_elim H
      obtain ⟨t81, h82, H⟩ := Option.bind_eq_some_iff.1 H
      obtain ⟨c83, H⟩ := ite_none H
      refine G.lex mixed [1, 3, 6, 7, 0, 2, 4, 5, 8] (by kernel_rfl) ?_
      replace HS := HS.drew
      refine GX.l0 rfl rfl (fun _ _ g => GO.fld (⟨b15, 1, none⟩) rfl rfl fl66_1 rfl rfl g) rfl (GX.ps 3 rfl (GX.l1 rfl rfl rfl (fun _ g => GO.ldBoxA (j := 1) ([.slice A61 t72.length c62, .int .i64 t59]) HS rfl rfl rfl rfl ag30 rfl g) rfl (GX.l1 rfl rfl rfl (fun _ g => GO.ldBox (j := 3) HS rfl rfl rfl rfl na64 rfl g) rfl (GX.l0 rfl rfl (fun _ _ g => GO.ix rfl rfl rfl underlying64 sz94 h78 c77.1 c77.2 rfl g) rfl (GX.l1 rfl rfl rfl (fun _ g => GO.ldRdA (T := T_GEnd) (n := (w64 (A.tdiv 2)).toNat) HS (RdIn.own (j := 5) rfl) rfl rfl (getD_eq (ltN c77) h80) ag94 rfl g) rfl (GX.l2 rfl ?_))))))
      replace HS := HS.pk 8 [0, 1, 2, 3, 4, 5, 6, 7] rfl
      refine GO.fn rfl func69 fok69.1 fok69.2 rfl rfl (impl_Diagram_set.calls HS  h82) (fun _ wd84 ⟨h85, HS⟩ => ⟨_, h85, (GX.fin trivial (GX.nil ?_))⟩)
      replace HS := HS.boxEq (j := 1) (cs' := [.slice A61 t81.length c62, .int .i64 t59]) rfl (by simp only [List.length_set, c83] <;> rfl)
      refine G.seq (G.region (GO.move rfl rfl rfl (GO.rem rfl rfl rfl (by decide) rfl (GO.ps 3 rfl (GO.nil (G.run 2 rfl (G.region (GO.move rfl rfl rfl (GO.rem rfl rfl rfl (by decide) rfl (GO.move rfl rfl rfl (GO.rem rfl rfl rfl (by decide) rfl (GO.neq rfl rfl rfl rfl (GO.nil ?_)))))))))))))
      rcases ite_elim H with ⟨c86, H⟩ | ⟨c86, H⟩
      ·
       refine G.noB rfl (congrArg Bool.not (decide_eq_true c86)) ?_
       obtain ⟨t87, t88, t89, t90, t91, h92, H⟩ := bind5_elim H
       obtain ⟨t95, t96, t97, t98, t99, h100, H⟩ := bind5_elim H
       obtain ⟨c108, H⟩ := ite_none H
       refine G.lexS mixed (fun w => St w0 w (Box b65 30 [.slice A61 t81.length c62, .int .i64 t59] :: L)) [1] [0, 2, 3, 4, 5, 6, 7, 8, 10, 11, 12, 13, 14, 15, 16, 17, 1, 9, 18, 19, 20, 21, 22] 22 (by kernel_rfl) (by kernel_rfl) (HS.drew.pk 8 [1] rfl) ?_
       replace HS := HS.drew
       refine GX.l0 rfl rfl (fun _ _ g => GO.fld (⟨b65, 0, none⟩) rfl rfl fl30_0 rfl rfl g) rfl (GX.ps 14 rfl (GX.l0 rfl rfl (fun _ _ g => GO.neg rfl rfl rfl g) rfl (GX.ls rfl rfl rfl (HS.pk 8 [1] rfl) (fun _ HS _ g => GO.ldBox (j := 0) HS rfl rfl rfl rfl na28 rfl g) rfl (GX.l2 rfl (GO.fn rfl func76 fok76.1 fok76.2 rfl rfl (impl_crossed.calls HS  h92) (fun _ wd93 ⟨h94, HS⟩ => ⟨_, h94, (GX.fin (HS.pk 8 [1] rfl) (GX.l2 rfl (GO.fn rfl func76 fok76.1 fok76.2 rfl rfl (impl_crossed.calls HS  h100) (fun _ wd101 ⟨h102, HS⟩ => ⟨_, h102, (GX.fin (HS.pk 8 [1] rfl) (GX.l2 rfl (GO.buildS (el := 61) ([.int .i64 t87, .int .i64 t88, .int .i64 t89, .int .i64 t90, .int .i64 t91, .int .i64 t95, .int .i64 t96, .int .i64 t97, .int .i64 t98, .int .i64 t99]) HS rfl rfl (fun _ => by kernel_rfl) rfl fun b103 wd104 HS => GX.fin (HS.pk 9 [2] rfl) (GX.l2 rfl ?_))))⟩))))⟩))))))
       replace HS := HS.boxRow (T := T_GCrossing) (j := 0) rfl flat_flat (fun _ => ()) ([(⟨t87, t88, t89, t90, t91⟩ : GCrossing), (⟨t95, t96, t97, t98, t99⟩ : GCrossing)] : List GCrossing) rfl (bndL rfl)
       refine GO.lenC (t := 140) (m := ([(⟨t87, t88, t89, t90, t91⟩ : GCrossing), (⟨t95, t96, t97, t98, t99⟩ : GCrossing)] : List GCrossing).length) (c' := ([(⟨t87, t88, t89, t90, t91⟩ : GCrossing), (⟨t95, t96, t97, t98, t99⟩ : GCrossing)] : List GCrossing).length) rfl rfl rfl (GO.appS (T := T_GCrossing) (j := 1) HS rfl (RdIn.own (j := 0) rfl) flat_flat rfl rfl rfl underlying28 inf61 rfl rfl rfl c108 rfl (fun _ => rfl) fun A106 c107 wd105 HS => GX.fin (HS.pk 9 [2] rfl) (GX.l0 rfl rfl (fun _ _ g => GO.fld (⟨b65, 0, none⟩) rfl rfl fl30_0 rfl rfl g) rfl (GX.l2 rfl (GO.stBox (j := 2) (vs := [.slice A106 (t81 ++ ([(⟨t87, t88, t89, t90, t91⟩ : GCrossing), (⟨t95, t96, t97, t98, t99⟩ : GCrossing)] : List GCrossing)).length c107]) ([.slice A106 (t81 ++ ([(⟨t87, t88, t89, t90, t91⟩ : GCrossing), (⟨t95, t96, t97, t98, t99⟩ : GCrossing)] : List GCrossing)).length c107, .int .i64 t59]) HS rfl rfl rfl rfl rfl (htN na28 rfl) rfl rfl rfl fun wd109 HS => GX.finZ (GX.nil (G.seq (G.region (GO.ldBoxA (j := 2) ([.slice A106 (t81 ++ ([(⟨t87, t88, t89, t90, t91⟩ : GCrossing), (⟨t95, t96, t97, t98, t99⟩ : GCrossing)] : List GCrossing)).length c107, .int .i64 t59]) HS rfl rfl rfl rfl ag30 rfl (GO.stBox (j := 7) (vs := [.slice A106 (t81 ++ ([(⟨t87, t88, t89, t90, t91⟩ : GCrossing), (⟨t95, t96, t97, t98, t99⟩ : GCrossing)] : List GCrossing)).length c107, .int .i64 t59]) ([.slice A106 (t81 ++ ([(⟨t87, t88, t89, t90, t91⟩ : GCrossing), (⟨t95, t96, t97, t98, t99⟩ : GCrossing)] : List GCrossing)).length c107, .int .i64 t59]) HS rfl rfl rfl rfl rfl (htA ag30) rfl rfl rfl fun wd110 HS => GO.assign rfl rfl rfl (GO.nil ?_))))))))))
       obtain ⟨rfl, rfl, rfl⟩ := some3 H
       exact G.ret2 _ _ func41 rfl (Res1.boxA (j := 7) (vs := [.slice A106 (t81 ++ ([(⟨t87, t88, t89, t90, t91⟩ : GCrossing), (⟨t95, t96, t97, t98, t99⟩ : GCrossing)] : List GCrossing)).length c107, .int .i64 t59]) HS rfl rfl rfl ag30) rfl ⟨_, _, rfl, (HS.pk 9 [1] rfl)⟩
      refine G.yesB rfl (congrArg Bool.not (decide_eq_false c86)) ?_
      obtain ⟨t111, t112, t113, t114, t115, h116, H⟩ := bind5_elim H
      obtain ⟨t119, t120, t121, t122, t123, h124, H⟩ := bind5_elim H
      obtain ⟨c132, H⟩ := ite_none H
      refine G.lexS mixed (fun w => St w0 w (Box b65 30 [.slice A61 t81.length c62, .int .i64 t59] :: L)) [1] [0, 2, 3, 4, 5, 6, 7, 9, 10, 11, 12, 13, 14, 15, 16, 17, 1, 8, 18, 19, 20, 21, 22] 22 (by kernel_rfl) (by kernel_rfl) (HS.drew.pk 8 [1] rfl) ?_
      replace HS := HS.drew
      refine GX.l0 rfl rfl (fun _ _ g => GO.fld (⟨b65, 0, none⟩) rfl rfl fl30_0 rfl rfl g) rfl (GX.ps 14 rfl (GX.l0 rfl rfl (fun _ _ g => GO.neg rfl rfl rfl g) rfl (GX.ls rfl rfl rfl (HS.pk 8 [1] rfl) (fun _ HS _ g => GO.ldBox (j := 0) HS rfl rfl rfl rfl na28 rfl g) rfl (GX.l2 rfl (GO.fn rfl func76 fok76.1 fok76.2 rfl rfl (impl_crossed.calls HS  h116) (fun _ wd117 ⟨h118, HS⟩ => ⟨_, h118, (GX.fin (HS.pk 8 [1] rfl) (GX.l2 rfl (GO.fn rfl func76 fok76.1 fok76.2 rfl rfl (impl_crossed.calls HS  h124) (fun _ wd125 ⟨h126, HS⟩ => ⟨_, h126, (GX.fin (HS.pk 8 [1] rfl) (GX.l2 rfl (GO.buildS (el := 61) ([.int .i64 t111, .int .i64 t112, .int .i64 t113, .int .i64 t114, .int .i64 t115, .int .i64 t119, .int .i64 t120, .int .i64 t121, .int .i64 t122, .int .i64 t123]) HS rfl rfl (fun _ => by kernel_rfl) rfl fun b127 wd128 HS => GX.fin (HS.pk 9 [2] rfl) (GX.l2 rfl ?_))))⟩))))⟩))))))
      replace HS := HS.boxRow (T := T_GCrossing) (j := 0) rfl flat_flat (fun _ => ()) ([(⟨t111, t112, t113, t114, t115⟩ : GCrossing), (⟨t119, t120, t121, t122, t123⟩ : GCrossing)] : List GCrossing) rfl (bndL rfl)
      refine GO.lenC (t := 118) (m := ([(⟨t111, t112, t113, t114, t115⟩ : GCrossing), (⟨t119, t120, t121, t122, t123⟩ : GCrossing)] : List GCrossing).length) (c' := ([(⟨t111, t112, t113, t114, t115⟩ : GCrossing), (⟨t119, t120, t121, t122, t123⟩ : GCrossing)] : List GCrossing).length) rfl rfl rfl (GO.appS (T := T_GCrossing) (j := 1) HS rfl (RdIn.own (j := 0) rfl) flat_flat rfl rfl rfl underlying28 inf61 rfl rfl rfl c132 rfl (fun _ => rfl) fun A130 c131 wd129 HS => GX.fin (HS.pk 9 [2] rfl) (GX.l0 rfl rfl (fun _ _ g => GO.fld (⟨b65, 0, none⟩) rfl rfl fl30_0 rfl rfl g) rfl (GX.l2 rfl (GO.stBox (j := 2) (vs := [.slice A130 (t81 ++ ([(⟨t111, t112, t113, t114, t115⟩ : GCrossing), (⟨t119, t120, t121, t122, t123⟩ : GCrossing)] : List GCrossing)).length c131]) ([.slice A130 (t81 ++ ([(⟨t111, t112, t113, t114, t115⟩ : GCrossing), (⟨t119, t120, t121, t122, t123⟩ : GCrossing)] : List GCrossing)).length c131, .int .i64 t59]) HS rfl rfl rfl rfl rfl (htN na28 rfl) rfl rfl rfl fun wd133 HS => GX.finZ (GX.nil (G.seq (G.region (GO.ldBoxA (j := 2) ([.slice A130 (t81 ++ ([(⟨t111, t112, t113, t114, t115⟩ : GCrossing), (⟨t119, t120, t121, t122, t123⟩ : GCrossing)] : List GCrossing)).length c131, .int .i64 t59]) HS rfl rfl rfl rfl ag30 rfl (GO.stBox (j := 7) (vs := [.slice A130 (t81 ++ ([(⟨t111, t112, t113, t114, t115⟩ : GCrossing), (⟨t119, t120, t121, t122, t123⟩ : GCrossing)] : List GCrossing)).length c131, .int .i64 t59]) ([.slice A130 (t81 ++ ([(⟨t111, t112, t113, t114, t115⟩ : GCrossing), (⟨t119, t120, t121, t122, t123⟩ : GCrossing)] : List GCrossing)).length c131, .int .i64 t59]) HS rfl rfl rfl rfl rfl (htA ag30) rfl rfl rfl fun wd134 HS => GO.assign rfl rfl rfl (GO.nil ?_))))))))))
      obtain ⟨rfl, rfl, rfl⟩ := some3 H
      exact G.ret2 _ _ func41 rfl (Res1.boxA (j := 7) (vs := [.slice A130 (t81 ++ ([(⟨t111, t112, t113, t114, t115⟩ : GCrossing), (⟨t119, t120, t121, t122, t123⟩ : GCrossing)] : List GCrossing)).length c131, .int .i64 t59]) HS rfl rfl rfl ag30) rfl ⟨_, _, rfl, (HS.pk 9 [1] rfl)⟩
     refine G.yesB rfl (congrArg Bool.not (decide_eq_false c51)) (G.seq (G.region (GO.buildV (.agg [.slice none 0 0, .int .i64 0].toArray) rfl rfl (fun _ => by kernel_rfl) rfl (GO.stBox (j := 4) (vs := [.slice none 0 0, .int .i64 0]) ([.slice none 0 0, .int .i64 0]) HS rfl rfl rfl rfl rfl (htA ag30) rfl rfl rfl fun wd135 HS => GO.assign rfl rfl rfl (GO.nil ?_)))))
     replace HS := HS.nilRow T_GCrossing 61 (fun _ => ())
     obtain ⟨rfl, rfl, rfl⟩ := some3 H
     exact G.ret2 _ _ func41 rfl (Res1.boxA (j := 5) (vs := [.slice none 0 0, .int .i64 0]) HS rfl rfl rfl ag30) rfl ⟨_, _, rfl, (HS.pk 7 [0] rfl)⟩
    refine G.yesB rfl (congrArg Bool.not (bnot_of c43)) (G.seq (G.region (GO.buildV (.agg [.slice none 0 0, .int .i64 0].toArray) rfl rfl (fun _ => by kernel_rfl) rfl (GO.stBox (j := 4) (vs := [.slice none 0 0, .int .i64 0]) ([.slice none 0 0, .int .i64 0]) HS rfl rfl rfl rfl rfl (htA ag30) rfl rfl rfl fun wd136 HS => GO.assign rfl rfl rfl (GO.nil ?_)))))
    replace HS := HS.nilRow T_GCrossing 61 (fun _ => ())
    obtain ⟨rfl, rfl, rfl⟩ := some3 H
    exact G.ret2 _ _ func41 rfl (Res1.boxA (j := 5) (vs := [.slice none 0 0, .int .i64 0]) HS rfl rfl rfl ag30) rfl ⟨_, _, rfl, (HS.pk 7 [0] rfl)⟩
   refine G.region (GO.ps 2 rfl (GO.fn rfl func75 fok75.1 fok75.2 rfl rfl (impl_hasIndex_int64.calls HS (RdIn.own (j := 0) rfl) h35) (fun _ wd36 ⟨h37, HS⟩ => ⟨_, h37, (GO.ps 2 rfl (GO.known (t := 32) rfl (congrArg Bool.not (bnot_of c38)) (GO.off rfl rfl rfl rfl rfl rfl (GO.off rfl rfl rfl rfl rfl rfl (GO.off rfl rfl rfl rfl rfl rfl (GO.off rfl rfl rfl rfl rfl rfl (GO.ps 2 rfl (GO.nil (G.run 2 rfl (G.region (GO.buildV (.agg [.slice none 0 0, .int .i64 0].toArray) rfl rfl (fun _ => by kernel_rfl) rfl (GO.stBox (j := 4) (vs := [.slice none 0 0, .int .i64 0]) ([.slice none 0 0, .int .i64 0]) HS rfl rfl rfl rfl rfl (htA ag30) rfl rfl rfl fun wd137 HS => ?_))))))))))))⟩)))
   refine GO.assign rfl rfl rfl (GO.nil ?_)
   replace HS := HS.nilRow T_GCrossing 61 (fun _ => ())
   obtain ⟨rfl, rfl, rfl⟩ := some3 H
   exact G.ret2 _ _ func41 rfl (Res1.boxA (j := 5) (vs := [.slice none 0 0, .int .i64 0]) HS rfl rfl rfl ag30) rfl ⟨_, _, rfl, (HS.pk 7 [0] rfl)⟩
  refine G.yesB rfl (congrArg Bool.not (bnot_of c18)) (G.seq (G.region (GO.buildV (.agg [.slice none 0 0, .int .i64 0].toArray) rfl rfl (fun _ => by kernel_rfl) rfl (GO.stBox (j := 3) (vs := [.slice none 0 0, .int .i64 0]) ([.slice none 0 0, .int .i64 0]) HS rfl rfl rfl rfl rfl (htA ag30) rfl rfl rfl fun wd138 HS => GO.assign rfl rfl rfl (GO.nil ?_)))))
  replace HS := HS.nilRow T_GCrossing 61 (fun _ => ())
  obtain ⟨rfl, rfl, rfl⟩ := some3 H
  exact G.ret2 _ _ func41 rfl (Res1.boxA (j := 4) (vs := [.slice none 0 0, .int .i64 0]) HS rfl rfl rfl ag30) rfl ⟨_, _, rfl, (HS.pk 6 [0] rfl)⟩
theorem impl_isUpper.calls {w0 w : World} {L : List HObj} {position : Int} {r1 : Bool} (HS : St w0 w (L)) (H : impl_isUpper.f position = some r1) :
    Calls prog 109 #[.int .i64 position] w (impl_isUpper.post w0 L r1) := by
  unfold impl_isUpper.f at H
  refine Calls.of_G func109 rfl rfl rfl ?_
  refine G.run 3 rfl (G.region (GO.move rfl rfl rfl (GO.rem rfl rfl rfl (by decide) rfl (GO.ps 2 rfl (GO.nil ?_)))))
  obtain rfl := Option.some.inj H
  exact G.ret1 _ func109 rfl rfl ⟨rfl, HS⟩
theorem impl_Diagram_isBigon_fn1_free.calls {w0 w : World} {L : List HObj} {region : List Int} {v0_2 v1_2 : Int} {A_a : Option Addr} {c_a b_v0 b_v1 : Nat} {r1 : Bool} (HS : St w0 w (Box b_v0 2 [.int .i64 v0_2] :: Box b_v1 2 [.int .i64 v1_2] :: L)) (r_a : RdIn w0 L (TInt .i64) A_a c_a (fun _ => ()) region) (H : impl_Diagram_isBigon_fn1_free.f region v0_2 v1_2 = some r1) :
    Calls prog 108 #[.slice A_a region.length c_a, .pointer (some ⟨b_v0, 0, none⟩), .pointer (some ⟨b_v1, 0, none⟩)] w (impl_Diagram_isBigon_fn1_free.post w0 L v0_2 v1_2 b_v0 b_v1 r1) := by
  unfold impl_Diagram_isBigon_fn1_free.f at H
  refine Calls.of_G func108 rfl rfl rfl ?_
  refine G.run 4 rfl (G.region (GO.move rfl rfl rfl (GO.lenS rfl rfl underlying74 rfl (GO.neq rfl rfl rfl rfl (GO.nil ?_)))))
  rcases ite_elim H with ⟨c1, H⟩ | ⟨c1, H⟩
  ·
   refine G.noB rfl (congrArg Bool.not (decide_eq_true c1)) (G.run 2 rfl ?_)
   obtain ⟨c2, H⟩ := ite_none H
   obtain ⟨c3, H⟩ := ite_none H
   refine G.lex mixed [0, 1, 3, 4, 2, 5, 6, 7] (by kernel_rfl) ?_
   replace HS := HS.drew
   refine GX.ps 1 rfl (GX.l0 rfl rfl (fun _ _ g => GO.ix rfl rfl rfl underlying74 sz2 ((RdIn.drop 2 r_a) _ HS).2.2.1 c2.1 c2.2 rfl g) rfl (GX.ps 1 rfl (GX.l0 rfl rfl (fun _ _ g => GO.ix rfl rfl rfl underlying74 sz2 ((RdIn.drop 2 r_a) _ HS).2.2.1 c3.1 c3.2 rfl g) rfl (GX.l1 rfl rfl rfl (fun _ g => GO.ldRd (T := (TInt .i64)) (n := 0) (o := 0) HS (RdIn.drop 2 r_a) rfl rfl (getD_some (d := 0) (ltN c2)) rfl rfl na2 rfl g) rfl (GX.l1 rfl rfl rfl (fun _ g => GO.ldRd (T := (TInt .i64)) (n := 1) (o := 0) HS (RdIn.drop 2 r_a) rfl rfl (getD_some (d := 0) (ltN c3)) rfl rfl na2 rfl g) rfl (GX.ps 2 rfl (GX.nil (G.seq ?_))))))))
   rcases ite_elim H with ⟨c4, H⟩ | ⟨c4, H⟩
   ·
    rcases ite_elim H with ⟨c5, H⟩ | ⟨c5, H⟩
    ·
     obtain ⟨t6, h7, H⟩ := Option.bind_eq_some_iff.1 H
     obtain ⟨t10, h11, H⟩ := Option.bind_eq_some_iff.1 H
     refine G.region (GO.move rfl rfl rfl (GO.quo rfl rfl rfl (by decide) rfl (GO.ldBox (j := 0) HS rfl rfl rfl rfl na2 rfl (GO.ps 2 rfl (GO.known (t := 20) rfl (decide_eq_true c4) (GO.on rfl rfl rfl rfl (GO.move rfl rfl rfl (GO.back (GO.on rfl rfl rfl rfl (GO.quo rfl rfl rfl (by decide) rfl (GO.back (GO.on rfl rfl rfl rfl (GO.ldBox (j := 1) HS rfl rfl rfl rfl na2 rfl (GO.back ?_))))))))))))))
     refine GO.on rfl rfl rfl rfl (GO.eql rfl rfl rfl rfl (GO.back (GO.ps 2 rfl (GO.known (t := 26) rfl (decide_eq_true c5) (GO.off rfl rfl rfl rfl rfl rfl (GO.off rfl rfl rfl rfl rfl rfl (GO.off rfl rfl rfl rfl rfl rfl (GO.off rfl rfl rfl rfl rfl rfl (GO.off rfl rfl rfl rfl rfl rfl (GO.offU rfl rfl rfl rfl rfl rfl (GO.offU rfl rfl rfl rfl rfl rfl (GO.offU rfl rfl rfl rfl rfl rfl (GO.offU rfl rfl rfl rfl rfl rfl (GO.off rfl rfl rfl rfl rfl rfl ?_))))))))))))))
     refine GO.ps 2 rfl (GO.on rfl rfl rfl rfl (GO.move rfl rfl rfl (GO.back (GO.on rfl rfl rfl rfl (GO.add rfl rfl rfl rfl (GO.back (GO.on rfl rfl rfl rfl (GO.rem rfl rfl rfl (by decide) rfl (GO.back (GO.on rfl rfl rfl rfl (GO.fn rfl func109 fok109.1 fok109.2 rfl rfl (impl_isUpper.calls HS  h7) (fun _ wd8 ⟨h9, HS⟩ => ⟨_, h9, (GO.back (GO.on rfl rfl rfl rfl (GO.move rfl rfl rfl ?_)))⟩))))))))))))
     refine GO.back (GO.on rfl rfl rfl rfl (GO.rem rfl rfl rfl (by decide) rfl (GO.back (GO.on rfl rfl rfl rfl (GO.fn rfl func109 fok109.1 fok109.2 rfl rfl (impl_isUpper.calls HS  h11) (fun _ wd12 ⟨h13, HS⟩ => ⟨_, h13, (GO.back (GO.on rfl rfl rfl rfl (GO.eqlB rfl rfl rfl underlying4 rfl (GO.back (GO.ps 2 rfl (GO.nil ?_))))))⟩))))))
     obtain rfl := Option.some.inj H
     exact G.ret1 _ func108 rfl rfl ⟨rfl, HS⟩
    rcases ite_elim H with ⟨c14, H⟩ | ⟨c14, H⟩
    ·
     rcases ite_elim H with ⟨c15, H⟩ | ⟨c15, H⟩
     ·
      obtain ⟨t16, h17, H⟩ := Option.bind_eq_some_iff.1 H
      obtain ⟨t20, h21, H⟩ := Option.bind_eq_some_iff.1 H
      refine G.region (GO.move rfl rfl rfl (GO.quo rfl rfl rfl (by decide) rfl (GO.ldBox (j := 0) HS rfl rfl rfl rfl na2 rfl (GO.ps 2 rfl (GO.known (t := 20) rfl (decide_eq_true c4) (GO.on rfl rfl rfl rfl (GO.move rfl rfl rfl (GO.back (GO.on rfl rfl rfl rfl (GO.quo rfl rfl rfl (by decide) rfl (GO.back (GO.on rfl rfl rfl rfl (GO.ldBox (j := 1) HS rfl rfl rfl rfl na2 rfl (GO.back ?_))))))))))))))
      refine GO.on rfl rfl rfl rfl (GO.eql rfl rfl rfl rfl (GO.back (GO.ps 2 rfl (GO.known (t := 26) rfl (decide_eq_false c5) (GO.on rfl rfl rfl rfl (GO.move rfl rfl rfl (GO.back (GO.on rfl rfl rfl rfl (GO.quo rfl rfl rfl (by decide) rfl (GO.back (GO.on rfl rfl rfl rfl (GO.ldBox (j := 1) HS rfl rfl rfl rfl na2 rfl (GO.back (GO.on rfl rfl rfl rfl ?_))))))))))))))
      refine GO.eql rfl rfl rfl rfl (GO.back (GO.on rfl rfl rfl rfl (GO.move rfl rfl rfl (GO.back (GO.known (t := 31) rfl (decide_eq_true c14) (GO.on rfl rfl rfl rfl (GO.move rfl rfl rfl (GO.back (GO.on rfl rfl rfl rfl (GO.quo rfl rfl rfl (by decide) rfl (GO.back (GO.on rfl rfl rfl rfl (GO.ldBox (j := 0) HS rfl rfl rfl rfl na2 rfl (GO.back ?_))))))))))))))
      refine GO.on rfl rfl rfl rfl (GO.eql rfl rfl rfl rfl (GO.back (GO.on rfl rfl rfl rfl (GO.pickT rfl rfl rfl rfl rfl (GO.back (GO.ps 2 rfl (GO.known (t := 38) rfl (decide_eq_true c15) (GO.on rfl rfl rfl rfl (GO.move rfl rfl rfl (GO.back (GO.on rfl rfl rfl rfl (GO.add rfl rfl rfl rfl (GO.back (GO.on rfl rfl rfl rfl ?_))))))))))))))
      refine GO.rem rfl rfl rfl (by decide) rfl (GO.back (GO.on rfl rfl rfl rfl (GO.fn rfl func109 fok109.1 fok109.2 rfl rfl (impl_isUpper.calls HS  h17) (fun _ wd18 ⟨h19, HS⟩ => ⟨_, h19, (GO.back (GO.on rfl rfl rfl rfl (GO.move rfl rfl rfl (GO.back (GO.on rfl rfl rfl rfl (GO.rem rfl rfl rfl (by decide) rfl (GO.back (GO.on rfl rfl rfl rfl (GO.fn rfl func109 fok109.1 fok109.2 rfl rfl (impl_isUpper.calls HS  h21) (fun _ wd22 ⟨h23, HS⟩ => ⟨_, h23, (GO.back (GO.on rfl rfl rfl rfl ?_))⟩))))))))))⟩))))
      refine GO.eqlB rfl rfl rfl underlying4 rfl (GO.back (GO.ps 2 rfl (GO.nil ?_)))
      obtain rfl := Option.some.inj H
      exact G.ret1 _ func108 rfl rfl ⟨rfl, HS⟩
     refine G.region (GO.move rfl rfl rfl (GO.quo rfl rfl rfl (by decide) rfl (GO.ldBox (j := 0) HS rfl rfl rfl rfl na2 rfl (GO.ps 2 rfl (GO.known (t := 20) rfl (decide_eq_true c4) (GO.on rfl rfl rfl rfl (GO.move rfl rfl rfl (GO.back (GO.on rfl rfl rfl rfl (GO.quo rfl rfl rfl (by decide) rfl (GO.back (GO.on rfl rfl rfl rfl (GO.ldBox (j := 1) HS rfl rfl rfl rfl na2 rfl (GO.back ?_))))))))))))))
     refine GO.on rfl rfl rfl rfl (GO.eql rfl rfl rfl rfl (GO.back (GO.ps 2 rfl (GO.known (t := 26) rfl (decide_eq_false c5) (GO.on rfl rfl rfl rfl (GO.move rfl rfl rfl (GO.back (GO.on rfl rfl rfl rfl (GO.quo rfl rfl rfl (by decide) rfl (GO.back (GO.on rfl rfl rfl rfl (GO.ldBox (j := 1) HS rfl rfl rfl rfl na2 rfl (GO.back (GO.on rfl rfl rfl rfl ?_))))))))))))))
     refine GO.eql rfl rfl rfl rfl (GO.back (GO.on rfl rfl rfl rfl (GO.move rfl rfl rfl (GO.back (GO.known (t := 31) rfl (decide_eq_true c14) (GO.on rfl rfl rfl rfl (GO.move rfl rfl rfl (GO.back (GO.on rfl rfl rfl rfl (GO.quo rfl rfl rfl (by decide) rfl (GO.back (GO.on rfl rfl rfl rfl (GO.ldBox (j := 0) HS rfl rfl rfl rfl na2 rfl (GO.back ?_))))))))))))))
     refine GO.on rfl rfl rfl rfl (GO.eql rfl rfl rfl rfl (GO.back (GO.on rfl rfl rfl rfl (GO.pickT rfl rfl rfl rfl rfl (GO.back (GO.ps 2 rfl (GO.known (t := 38) rfl (decide_eq_false c15) (GO.off rfl rfl rfl rfl rfl rfl (GO.off rfl rfl rfl rfl rfl rfl (GO.off rfl rfl rfl rfl rfl rfl (GO.off rfl rfl rfl rfl rfl rfl (GO.off rfl rfl rfl rfl rfl rfl (GO.off rfl rfl rfl rfl rfl rfl (GO.off rfl rfl rfl rfl rfl rfl ?_))))))))))))))
     refine GO.off rfl rfl rfl rfl rfl rfl (GO.ps 2 rfl (GO.nil ?_))
     obtain rfl := Option.some.inj H
     exact G.ret1 _ func108 rfl rfl ⟨rfl, HS⟩
    refine G.region (GO.move rfl rfl rfl (GO.quo rfl rfl rfl (by decide) rfl (GO.ldBox (j := 0) HS rfl rfl rfl rfl na2 rfl (GO.ps 2 rfl (GO.known (t := 20) rfl (decide_eq_true c4) (GO.on rfl rfl rfl rfl (GO.move rfl rfl rfl (GO.back (GO.on rfl rfl rfl rfl (GO.quo rfl rfl rfl (by decide) rfl (GO.back (GO.on rfl rfl rfl rfl (GO.ldBox (j := 1) HS rfl rfl rfl rfl na2 rfl (GO.back ?_))))))))))))))
    refine GO.on rfl rfl rfl rfl (GO.eql rfl rfl rfl rfl (GO.back (GO.ps 2 rfl (GO.known (t := 26) rfl (decide_eq_false c5) (GO.on rfl rfl rfl rfl (GO.move rfl rfl rfl (GO.back (GO.on rfl rfl rfl rfl (GO.quo rfl rfl rfl (by decide) rfl (GO.back (GO.on rfl rfl rfl rfl (GO.ldBox (j := 1) HS rfl rfl rfl rfl na2 rfl (GO.back (GO.on rfl rfl rfl rfl ?_))))))))))))))
    refine GO.eql rfl rfl rfl rfl (GO.back (GO.on rfl rfl rfl rfl (GO.move rfl rfl rfl (GO.back (GO.known (t := 31) rfl (decide_eq_false c14) (GO.off rfl rfl rfl rfl rfl rfl (GO.off rfl rfl rfl rfl rfl rfl (GO.off rfl rfl rfl rfl rfl rfl (GO.off rfl rfl rfl rfl rfl rfl (GO.on rfl rfl rfl rfl (GO.pickF rfl rfl rfl rfl rfl (GO.back (GO.ps 2 rfl (GO.off rfl rfl rfl rfl rfl rfl ?_))))))))))))))
    refine GO.off rfl rfl rfl rfl rfl rfl (GO.off rfl rfl rfl rfl rfl rfl (GO.off rfl rfl rfl rfl rfl rfl (GO.off rfl rfl rfl rfl rfl rfl (GO.off rfl rfl rfl rfl rfl rfl (GO.off rfl rfl rfl rfl rfl rfl (GO.off rfl rfl rfl rfl rfl rfl (GO.ps 2 rfl (GO.nil ?_))))))))
    obtain rfl := Option.some.inj H
    exact G.ret1 _ func108 rfl rfl ⟨rfl, HS⟩
   rcases ite_elim H with ⟨c24, H⟩ | ⟨c24, H⟩
   ·
    rcases ite_elim H with ⟨c25, H⟩ | ⟨c25, H⟩
    ·
     obtain ⟨t26, h27, H⟩ := Option.bind_eq_some_iff.1 H
     obtain ⟨t30, h31, H⟩ := Option.bind_eq_some_iff.1 H
     refine G.region (GO.move rfl rfl rfl (GO.quo rfl rfl rfl (by decide) rfl (GO.ldBox (j := 0) HS rfl rfl rfl rfl na2 rfl (GO.ps 2 rfl (GO.known (t := 20) rfl (decide_eq_false c4) (GO.off rfl rfl rfl rfl rfl rfl (GO.off rfl rfl rfl rfl rfl rfl (GO.off rfl rfl rfl rfl rfl rfl (GO.off rfl rfl rfl rfl rfl rfl (GO.ps 2 rfl (GO.on rfl rfl rfl rfl (GO.move rfl rfl rfl (GO.back (GO.on rfl rfl rfl rfl ?_))))))))))))))
     refine GO.quo rfl rfl rfl (by decide) rfl (GO.back (GO.on rfl rfl rfl rfl (GO.ldBox (j := 1) HS rfl rfl rfl rfl na2 rfl (GO.back (GO.on rfl rfl rfl rfl (GO.eql rfl rfl rfl rfl (GO.back (GO.on rfl rfl rfl rfl (GO.move rfl rfl rfl (GO.back (GO.known (t := 31) rfl (decide_eq_true c24) (GO.on rfl rfl rfl rfl (GO.move rfl rfl rfl (GO.back ?_))))))))))))))
     refine GO.on rfl rfl rfl rfl (GO.quo rfl rfl rfl (by decide) rfl (GO.back (GO.on rfl rfl rfl rfl (GO.ldBox (j := 0) HS rfl rfl rfl rfl na2 rfl (GO.back (GO.on rfl rfl rfl rfl (GO.eql rfl rfl rfl rfl (GO.back (GO.on rfl rfl rfl rfl (GO.pickT rfl rfl rfl rfl rfl (GO.back (GO.ps 2 rfl (GO.known (t := 38) rfl (decide_eq_true c25) (GO.on rfl rfl rfl rfl ?_))))))))))))))
     refine GO.move rfl rfl rfl (GO.back (GO.on rfl rfl rfl rfl (GO.add rfl rfl rfl rfl (GO.back (GO.on rfl rfl rfl rfl (GO.rem rfl rfl rfl (by decide) rfl (GO.back (GO.on rfl rfl rfl rfl (GO.fn rfl func109 fok109.1 fok109.2 rfl rfl (impl_isUpper.calls HS  h27) (fun _ wd28 ⟨h29, HS⟩ => ⟨_, h29, (GO.back (GO.on rfl rfl rfl rfl (GO.move rfl rfl rfl (GO.back (GO.on rfl rfl rfl rfl ?_)))))⟩))))))))))
     refine GO.rem rfl rfl rfl (by decide) rfl (GO.back (GO.on rfl rfl rfl rfl (GO.fn rfl func109 fok109.1 fok109.2 rfl rfl (impl_isUpper.calls HS  h31) (fun _ wd32 ⟨h33, HS⟩ => ⟨_, h33, (GO.back (GO.on rfl rfl rfl rfl (GO.eqlB rfl rfl rfl underlying4 rfl (GO.back (GO.ps 2 rfl (GO.nil ?_))))))⟩))))
     obtain rfl := Option.some.inj H
     exact G.ret1 _ func108 rfl rfl ⟨rfl, HS⟩
    refine G.region (GO.move rfl rfl rfl (GO.quo rfl rfl rfl (by decide) rfl (GO.ldBox (j := 0) HS rfl rfl rfl rfl na2 rfl (GO.ps 2 rfl (GO.known (t := 20) rfl (decide_eq_false c4) (GO.off rfl rfl rfl rfl rfl rfl (GO.off rfl rfl rfl rfl rfl rfl (GO.off rfl rfl rfl rfl rfl rfl (GO.off rfl rfl rfl rfl rfl rfl (GO.ps 2 rfl (GO.on rfl rfl rfl rfl (GO.move rfl rfl rfl (GO.back (GO.on rfl rfl rfl rfl ?_))))))))))))))
    refine GO.quo rfl rfl rfl (by decide) rfl (GO.back (GO.on rfl rfl rfl rfl (GO.ldBox (j := 1) HS rfl rfl rfl rfl na2 rfl (GO.back (GO.on rfl rfl rfl rfl (GO.eql rfl rfl rfl rfl (GO.back (GO.on rfl rfl rfl rfl (GO.move rfl rfl rfl (GO.back (GO.known (t := 31) rfl (decide_eq_true c24) (GO.on rfl rfl rfl rfl (GO.move rfl rfl rfl (GO.back ?_))))))))))))))
    refine GO.on rfl rfl rfl rfl (GO.quo rfl rfl rfl (by decide) rfl (GO.back (GO.on rfl rfl rfl rfl (GO.ldBox (j := 0) HS rfl rfl rfl rfl na2 rfl (GO.back (GO.on rfl rfl rfl rfl (GO.eql rfl rfl rfl rfl (GO.back (GO.on rfl rfl rfl rfl (GO.pickT rfl rfl rfl rfl rfl (GO.back (GO.ps 2 rfl (GO.known (t := 38) rfl (decide_eq_false c25) (GO.off rfl rfl rfl rfl rfl rfl ?_))))))))))))))
    refine GO.off rfl rfl rfl rfl rfl rfl (GO.off rfl rfl rfl rfl rfl rfl (GO.off rfl rfl rfl rfl rfl rfl (GO.off rfl rfl rfl rfl rfl rfl (GO.off rfl rfl rfl rfl rfl rfl (GO.off rfl rfl rfl rfl rfl rfl (GO.off rfl rfl rfl rfl rfl rfl (GO.ps 2 rfl (GO.nil ?_))))))))
    obtain rfl := Option.some.inj H
    exact G.ret1 _ func108 rfl rfl ⟨rfl, HS⟩
   refine G.region (GO.move rfl rfl rfl (GO.quo rfl rfl rfl (by decide) rfl (GO.ldBox (j := 0) HS rfl rfl rfl rfl na2 rfl (GO.ps 2 rfl (GO.known (t := 20) rfl (decide_eq_false c4) (GO.off rfl rfl rfl rfl rfl rfl (GO.off rfl rfl rfl rfl rfl rfl (GO.off rfl rfl rfl rfl rfl rfl (GO.off rfl rfl rfl rfl rfl rfl (GO.ps 2 rfl (GO.on rfl rfl rfl rfl (GO.move rfl rfl rfl (GO.back (GO.on rfl rfl rfl rfl ?_))))))))))))))
   refine GO.quo rfl rfl rfl (by decide) rfl (GO.back (GO.on rfl rfl rfl rfl (GO.ldBox (j := 1) HS rfl rfl rfl rfl na2 rfl (GO.back (GO.on rfl rfl rfl rfl (GO.eql rfl rfl rfl rfl (GO.back (GO.on rfl rfl rfl rfl (GO.move rfl rfl rfl (GO.back (GO.known (t := 31) rfl (decide_eq_false c24) (GO.off rfl rfl rfl rfl rfl rfl (GO.off rfl rfl rfl rfl rfl rfl (GO.off rfl rfl rfl rfl rfl rfl ?_))))))))))))))
   refine GO.off rfl rfl rfl rfl rfl rfl (GO.on rfl rfl rfl rfl (GO.pickF rfl rfl rfl rfl rfl (GO.back (GO.ps 2 rfl (GO.off rfl rfl rfl rfl rfl rfl (GO.off rfl rfl rfl rfl rfl rfl (GO.off rfl rfl rfl rfl rfl rfl (GO.off rfl rfl rfl rfl rfl rfl (GO.off rfl rfl rfl rfl rfl rfl (GO.off rfl rfl rfl rfl rfl rfl (GO.off rfl rfl rfl rfl rfl rfl (GO.off rfl rfl rfl rfl rfl rfl (GO.ps 2 rfl (GO.nil ?_))))))))))))))
   obtain rfl := Option.some.inj H
   exact G.ret1 _ func108 rfl rfl ⟨rfl, HS⟩
  refine G.yesB rfl (congrArg Bool.not (decide_eq_false c1)) (G.run 2 rfl ?_)
  obtain rfl := Option.some.inj H
  exact G.ret1 _ func108 rfl rfl ⟨rfl, HS⟩
theorem slices_IndexFunc_int64_int64_129.calls {w0 w : World} {L : List HObj} {K : Nat} {s : List (List Int)} {cap_2 cap_4 : Int} {A_a : Option Addr} {c_a : Nat} {y_a : Nat → (Ty.slice 2 (TInt .i64)).Lay} {b_cap b_cap_3 : Nat} {r1 : Int} (HS : St w0 w (Box b_cap 2 [.int .i64 cap_2] :: Box b_cap_3 2 [.int .i64 cap_4] :: L)) (r_a : RdIn w0 L (Ty.slice 2 (TInt .i64)) A_a c_a y_a s) (H : slices_IndexFunc_int64_int64_129.f K s cap_2 cap_4 = some r1) :
    Calls prog 79 #[.slice A_a s.length c_a, .func (.func 108) #[] #[.pointer (some ⟨b_cap, 0, none⟩), .pointer (some ⟨b_cap_3, 0, none⟩)]] w (slices_IndexFunc_int64_int64_129.post w0 L cap_2 cap_4 b_cap b_cap_3 r1) := by
  unfold slices_IndexFunc_int64_int64_129.f at H
  refine Calls.of_G func79 rfl rfl rfl ?_
  refine G.run 4 rfl (G.region (GO.move rfl rfl rfl (GO.lenS rfl rfl underlying55 rfl (GO.move rfl rfl rfl (GO.nil (G.run 2 rfl ?_))))))
  refine G.name (fun k_l1 hk_l1 => ?_)
  have at_l1 : ∀ m_l1, m_l1 ≤ K → ∀ (x8 : Int) (w : World), slices_IndexFunc_int64_int64_129.l1 K m_l1 s cap_2 cap_4 x8 = some r1 → St w0 w (Box b_cap 2 [.int .i64 cap_2] :: Box b_cap_3 2 [.int .i64 cap_4] :: L) → G prog 79 19 [(0, .slice A_a s.length c_a), (1, .func (.func 108) #[] #[.pointer (some ⟨b_cap, 0, none⟩), .pointer (some ⟨b_cap_3, 0, none⟩)]), (7, .int .i64 (s.length : Int)), (8, .int .i64 x8)] k_l1 w (slices_IndexFunc_int64_int64_129.post w0 L cap_2 cap_4 b_cap b_cap_3 r1) := by
   intro m_l1
   induction m_l1 using Nat.strongRecOn with
   | _ m_l1 ih_l1 =>
    intro hm_l1 x8 w H HS
    cases m_l1 with
    | zero => rw [slices_IndexFunc_int64_int64_129.l1] at H; cases H
    | succ n_l1 =>
     rw [slices_IndexFunc_int64_int64_129.l1] at H
     subst hk_l1
     refine G.run 3 rfl ?_
     rcases ite_elim H with ⟨c16, H⟩ | ⟨c16, H⟩
     ·
      refine G.yesB rfl (decide_eq_true c16) (G.run 6 rfl ?_)
      obtain ⟨c17, H⟩ := ite_none H
      obtain ⟨t18, h19, H⟩ := Option.bind_eq_some_iff.1 H
      refine G.region (GO.ps 3 rfl (GO.ix rfl rfl rfl underlying55 sz74 ((RdIn.drop 2 r_a) _ HS).2.2.1 c17.1 c17.2 rfl (GO.ldRd (T := (Ty.slice 2 (TInt .i64))) (n := x8.toNat) (o := 0) HS (RdIn.drop 2 r_a) rfl rfl (getD_some (d := []) (ltN c17)) rfl rfl na74 rfl ?_)))
      replace HS := HS.pk 2 [0, 1] rfl
      refine GO.clo rfl rfl func108 fok108.1 fok108.2 rfl rfl (impl_Diagram_isBigon_fn1_free.calls HS (RdIn.elem r_a c17.1 c17.2) h19) (fun _ wd20 ⟨h21, HS⟩ => ⟨_, h21, (GO.nil ?_)⟩)
      rcases ite_elim H with ⟨c22, H⟩ | ⟨c22, H⟩
      ·
       refine G.yesB rfl c22 (G.run 2 rfl ?_)
       obtain rfl := Option.some.inj H
       exact G.ret1 _ func79 rfl rfl ⟨rfl, HS⟩
      refine G.noB rfl (bnot_of c22) (G.run 4 rfl (G.weak ?_ (ih_l1 n_l1 (Nat.lt_succ_of_le (Nat.le_refl _)) (Nat.le_of_succ_le hm_l1) _ _ H HS)))
      exact ⟨rfl, rfl, rfl, rfl, trivial⟩
     refine G.noB rfl (decide_eq_false c16) (G.run 3 rfl ?_)
     obtain rfl := Option.some.inj H
     exact G.ret1 _ func79 rfl rfl ⟨rfl, HS⟩
  refine G.weak ?_ (at_l1 K (Nat.le_refl _) _ _ H HS)
  exact ⟨rfl, rfl, rfl, rfl, trivial⟩
theorem slices_ContainsFunc_int64_int64_129.calls {w0 w : World} {L : List HObj} {K : Nat} {s : List (List Int)} {cap_2 cap_4 : Int} {A_a : Option Addr} {c_a : Nat} {y_a : Nat → (Ty.slice 2 (TInt .i64)).Lay} {b_cap b_cap_3 : Nat} {r1 : Bool} (HS : St w0 w (Box b_cap 2 [.int .i64 cap_2] :: Box b_cap_3 2 [.int .i64 cap_4] :: L)) (r_a : RdIn w0 L (Ty.slice 2 (TInt .i64)) A_a c_a y_a s) (H : slices_ContainsFunc_int64_int64_129.f K s cap_2 cap_4 = some r1) :
    Calls prog 107 #[.slice A_a s.length c_a, .func (.func 108) #[] #[.pointer (some ⟨b_cap, 0, none⟩), .pointer (some ⟨b_cap_3, 0, none⟩)]] w (slices_ContainsFunc_int64_int64_129.post w0 L cap_2 cap_4 b_cap b_cap_3 r1) := by
  unfold slices_ContainsFunc_int64_int64_129.f at H
  refine Calls.of_G func107 rfl rfl rfl ?_
  refine G.run 3 rfl ?_
  obtain ⟨t1, h2, H⟩ := Option.bind_eq_some_iff.1 H
  refine G.region (GO.ps 2 rfl ?_)
  replace HS := HS.pk 2 [0, 1] rfl
  refine GO.fn rfl func79 fok79.1 fok79.2 rfl rfl (slices_IndexFunc_int64_int64_129.calls HS r_a h2) (fun _ wd3 ⟨h4, HS⟩ => ⟨_, h4, (GO.ps 2 rfl (GO.nil ?_))⟩)
  obtain rfl := Option.some.inj H
  exact G.ret1 _ func107 rfl rfl ⟨rfl, HS⟩
theorem impl_Diagram_isBigon.calls {w0 w : World} {L : List HObj} {K : Nat} {d_Crossings : List GCrossing} {d_Circles : Int} {a_from a_to : List GEnd} {c e_ : Int} {A_a : Option Addr} {c_a : Nat} {A_b : Option Addr} {c_b : Nat} {A_c : Option Addr} {c_c : Nat} {r1 : Bool} (HS : St w0 w (L)) (r_a : RdIn w0 L T_GCrossing A_a c_a (fun _ => ()) d_Crossings) (r_b : RdIn w0 L T_GEnd A_b c_b (fun _ => ()) a_from) (r_c : RdIn w0 L T_GEnd A_c c_c (fun _ => ()) a_to) (H : impl_Diagram_isBigon.f K d_Crossings d_Circles a_from a_to c e_ = some r1) :
    Calls prog 77 #[.agg [.slice A_a d_Crossings.length c_a, .int .i64 d_Circles].toArray, .agg [.slice A_b a_from.length c_b, .slice A_c a_to.length c_c].toArray, .int .i64 c, .int .i64 e_] w (impl_Diagram_isBigon.post w0 L r1) := by
  unfold impl_Diagram_isBigon.f at H
  refine Calls.of_G func77 rfl rfl rfl ?_
  refine G.seq (G.region (GO.box (cs := [.slice A_a d_Crossings.length c_a, .int .i64 d_Circles]) HS rfl rfl rfl rfl fun b1 wd2 HS => GO.box (cs := [.slice A_b a_from.length c_b, .slice A_c a_to.length c_c]) HS rfl rfl rfl rfl fun b3 wd4 HS => GO.box (cs := [.int .i64 c]) HS rfl rfl rfl rfl fun b5 wd6 HS => GO.box (cs := [.int .i64 e_]) HS rfl rfl rfl rfl fun b7 wd8 HS => GO.assign rfl rfl rfl (GO.nil (G.seq ?_))))
  rcases ite_elim H with ⟨c9, H⟩ | ⟨c9, H⟩
  ·
   refine G.region (GO.ldBox (j := 1) HS rfl rfl rfl rfl na2 rfl (GO.ldBox (j := 0) HS rfl rfl rfl rfl na2 rfl (GO.ps 2 rfl (GO.known (t := 12) rfl (congrArg Bool.not (decide_eq_true c9)) (GO.off rfl rfl rfl rfl rfl rfl (GO.off rfl rfl rfl rfl rfl rfl (GO.off rfl rfl rfl rfl rfl rfl (GO.off rfl rfl rfl rfl rfl rfl (GO.off rfl rfl rfl rfl rfl rfl (GO.ps 2 rfl (GO.nil ?_)))))))))))
   obtain rfl := Option.some.inj H
   exact G.ret1 _ func77 rfl rfl ⟨rfl, (HS.pk 4 [] rfl)⟩
  obtain ⟨t10, h11, H⟩ := Option.bind_eq_some_iff.1 H
  obtain ⟨t17, h18, H⟩ := Option.bind_eq_some_iff.1 H
  refine G.region (GO.ldBox (j := 1) HS rfl rfl rfl rfl na2 rfl (GO.ldBox (j := 0) HS rfl rfl rfl rfl na2 rfl (GO.ps 2 rfl (GO.known (t := 12) rfl (congrArg Bool.not (decide_eq_false c9)) (GO.on rfl rfl rfl rfl (GO.ldBoxA (j := 3) ([.slice A_a d_Crossings.length c_a, .int .i64 d_Circles]) HS rfl rfl rfl rfl ag30 rfl (GO.back (GO.on rfl rfl rfl rfl (GO.ldBoxA (j := 2) ([.slice A_b a_from.length c_b, .slice A_c a_to.length c_c]) HS rfl rfl rfl rfl ag66 rfl (GO.back (GO.on rfl rfl rfl rfl (GO.fn rfl func64 fok64.1 fok64.2 rfl rfl (impl_Diagram_regions.calls HS (RdIn.drop 4 r_a) (RdIn.drop 4 r_b) (RdIn.drop 4 r_c) h11) (fun _ wd15 ⟨A12, c13, y14, h16, HS⟩ => ⟨_, h16, (GO.back (GO.on rfl rfl rfl rfl ?_))⟩)))))))))))))
  refine GO.mkFunc rfl rfl rfl rfl (GO.back (GO.on rfl rfl rfl rfl ?_))
  replace HS := HS.pk 5 [2, 1, 0, 3, 4] rfl
  refine GO.fn rfl func107 fok107.1 fok107.2 rfl rfl (slices_ContainsFunc_int64_int64_129.calls HS (RdIn.own (j := 0) rfl) h18) (fun _ wd19 ⟨h20, HS⟩ => ⟨_, h20, (GO.back (GO.ps 2 rfl (GO.nil ?_)))⟩)
  obtain rfl := Option.some.inj H
  exact G.ret1 _ func77 rfl rfl ⟨rfl, (HS.pk 5 [] rfl)⟩
theorem impl_RemoveBigon.calls {w0 w : World} {L : List HObj} {K : Nat} {d_Crossings : List GCrossing} {d_Circles c e_ : Int} {A_a : Option Addr} {c_a : Nat} {r1 : List GCrossing} {r2 r3 : Int} (HS : St w0 w (L)) (r_a : RdIn w0 L T_GCrossing A_a c_a (fun _ => ()) d_Crossings) (H : impl_RemoveBigon.f K d_Crossings d_Circles c e_ = some (r1, r2, r3)) :
    Calls prog 42 #[.agg [.slice A_a d_Crossings.length c_a, .int .i64 d_Circles].toArray, .int .i64 c, .int .i64 e_] w (impl_RemoveBigon.post w0 L r1 r2 r3) := by
  unfold impl_RemoveBigon.f at H
  refine Calls.of_G func42 rfl rfl rfl ?_
  refine G.seq (G.region (GO.box (cs := [.slice A_a d_Crossings.length c_a, .int .i64 d_Circles]) HS rfl rfl rfl rfl fun b1 wd2 HS => GO.alloc HS rfl zr30 rfl rfl fun b3 wd4 HS => GO.assign rfl rfl rfl (GO.nil (G.seq ?_))))
  obtain ⟨t5, t6, t7, h8, H⟩ := bind3_elim H
  refine G.region (GO.ldBoxA (j := 1) ([.slice A_a d_Crossings.length c_a, .int .i64 d_Circles]) HS rfl rfl rfl rfl ag30 rfl (GO.fn rfl func37 fok37.1 fok37.2 rfl rfl (impl_Diagram_drawing.calls HS (RdIn.drop 2 r_a) h8) (fun _ wd13 ⟨A9, c10, A11, c12, h14, HS⟩ => ⟨_, h14, (GO.ps 3 rfl (GO.alloc HS rfl zr66 rfl rfl fun b15 wd16 HS => GO.stBox (j := 0) (vs := [.slice A9 t5.length c10, .slice A11 t6.length c12]) ([.slice A9 t5.length c10, .slice A11 t6.length c12]) HS rfl rfl rfl rfl rfl (htA ag66) rfl rfl rfl fun wd17 HS => GO.assign rfl rfl rfl (GO.nil (G.run 4 rfl ?_))))⟩)))
  rcases ite_elim H with ⟨c18, H⟩ | ⟨c18, H⟩
  ·
   refine G.noB rfl (congrArg Bool.not c18) (G.seq ?_)
   obtain ⟨t28, h29, H⟩ := Option.bind_eq_some_iff.1 H
   rcases ite_elim H with ⟨c32, H⟩ | ⟨c32, H⟩
   ·
    obtain ⟨t33, h34, H⟩ := Option.bind_eq_some_iff.1 H
    refine G.region (GO.fld (⟨b1, 0, none⟩) rfl rfl fl30_0 rfl rfl (GO.ldBox (j := 4) HS rfl rfl rfl rfl na28 rfl (GO.move rfl rfl rfl (GO.fn rfl func70 fok70.1 fok70.2 rfl rfl (impl_hasIndex_impl_Crossing.calls HS (RdIn.drop 5 r_a) h29) (fun _ wd30 ⟨h31, HS⟩ => ⟨_, h31, (GO.ps 2 rfl (GO.known (t := 25) rfl (congrArg Bool.not c32) (GO.on rfl rfl rfl rfl (GO.fld (⟨b1, 0, none⟩) rfl rfl fl30_0 rfl rfl (GO.back (GO.on rfl rfl rfl rfl (GO.ldBox (j := 4) HS rfl rfl rfl rfl na28 rfl (GO.back (GO.on rfl rfl rfl rfl (GO.move rfl rfl rfl ?_))))))))))⟩)))))
    refine GO.back (GO.on rfl rfl rfl rfl (GO.fn rfl func70 fok70.1 fok70.2 rfl rfl (impl_hasIndex_impl_Crossing.calls HS (RdIn.drop 5 r_a) h34) (fun _ wd35 ⟨h36, HS⟩ => ⟨_, h36, (GO.back (GO.on rfl rfl rfl rfl (GO.not rfl rfl rfl (GO.back (GO.ps 2 rfl (GO.nil ?_))))))⟩)))
    rcases ite_elim H with ⟨c37, H⟩ | ⟨c37, H⟩
    ·
     refine G.noB rfl (congrArg Bool.not c37) (G.seq ?_)
     obtain ⟨t38, h39, H⟩ := Option.bind_eq_some_iff.1 H
     refine G.region (GO.ldBoxA (j := 4) ([.slice A_a d_Crossings.length c_a, .int .i64 d_Circles]) HS rfl rfl rfl rfl ag30 rfl (GO.ldBoxA (j := 0) ([.slice A9 t5.length c10, .slice A11 t6.length c12]) HS rfl rfl rfl rfl ag66 rfl (GO.ps 2 rfl (GO.fn rfl func77 fok77.1 fok77.2 rfl rfl (impl_Diagram_isBigon.calls HS (RdIn.drop 5 r_a) (RdIn.own (j := 1) rfl) (RdIn.own (j := 2) rfl) h39) (fun _ wd40 ⟨h41, HS⟩ => ⟨_, h41, (GO.ps 2 rfl (GO.nil ?_))⟩)))))
     rcases ite_elim H with ⟨c42, H⟩ | ⟨c42, H⟩
     ·
      refine G.noB rfl (congrArg Bool.not c42) (G.run 3 rfl ?_)
      obtain ⟨t45, t46, h47, H⟩ := bind2_elim H
      obtain ⟨t52, t53, t54, h55, H⟩ := bind3_elim H
      refine G.region (GO.ldBoxA (j := 4) ([.slice A_a d_Crossings.length c_a, .int .i64 d_Circles]) HS rfl rfl rfl rfl ag30 rfl (GO.ldBoxA (j := 0) ([.slice A9 t5.length c10, .slice A11 t6.length c12]) HS rfl rfl rfl rfl ag66 rfl (GO.ps 2 rfl (GO.buildS (el := 2) ([.int .i64 c, .int .i64 e_]) HS rfl rfl (fun _ => by kernel_rfl) rfl fun b43 wd44 HS => ?_))))
      replace HS := HS.boxRow (T := (TInt .i64)) (j := 0) rfl flat_flat (fun _ => ()) ([c, e_] : List Int) rfl (bndL rfl)
      refine GO.lenC (t := 45) (m := ([c, e_] : List Int).length) (c' := ([c, e_] : List Int).length) rfl rfl rfl (GO.fn rfl func73 fok73.1 fok73.2 rfl rfl (impl_Diagram_without.calls HS (RdIn.drop 6 r_a) (RdIn.own (j := 2) rfl) (RdIn.own (j := 3) rfl) (RdIn.own (j := 0) rfl) h47) (fun _ wd50 ⟨A48, c49, h51, HS⟩ => ⟨_, h51, ?_⟩))
      replace HS := HS.pk 7 [0, 1, 2, 3, 4, 5, 6] rfl
      refine GO.fn rfl func72 fok72.1 fok72.2 rfl rfl (impl_limitedCircles.calls HS  h55) (fun _ wd58 ⟨A56, c57, h59, HS⟩ => ⟨_, h59, (GO.ps 2 rfl (GO.stBox (j := 5) (vs := [.slice A56 t52.length c57, .int .i64 t53]) ([.slice A56 t52.length c57, .int .i64 t53]) HS rfl rfl rfl rfl rfl (htA ag30) rfl rfl rfl fun wd60 HS => GO.assign rfl rfl rfl (GO.nil ?_)))⟩)
      obtain ⟨rfl, rfl, rfl⟩ := some3 H
      exact G.ret2 _ _ func42 rfl (Res1.boxA (j := 5) (vs := [.slice A56 t52.length c57, .int .i64 t53]) HS rfl rfl rfl ag30) rfl ⟨_, _, rfl, (HS.pk 7 [0] rfl)⟩
     refine G.yesB rfl (congrArg Bool.not (bnot_of c42)) (G.seq (G.region (GO.buildV (.agg [.slice none 0 0, .int .i64 0].toArray) rfl rfl (fun _ => by kernel_rfl) rfl (GO.stBox (j := 3) (vs := [.slice none 0 0, .int .i64 0]) ([.slice none 0 0, .int .i64 0]) HS rfl rfl rfl rfl rfl (htA ag30) rfl rfl rfl fun wd61 HS => GO.assign rfl rfl rfl (GO.nil ?_)))))
     replace HS := HS.nilRow T_GCrossing 61 (fun _ => ())
     obtain ⟨rfl, rfl, rfl⟩ := some3 H
     exact G.ret2 _ _ func42 rfl (Res1.boxA (j := 4) (vs := [.slice none 0 0, .int .i64 0]) HS rfl rfl rfl ag30) rfl ⟨_, _, rfl, (HS.pk 6 [0] rfl)⟩
    refine G.yesB rfl (congrArg Bool.not (bnot_of c37)) (G.seq (G.region (GO.buildV (.agg [.slice none 0 0, .int .i64 0].toArray) rfl rfl (fun _ => by kernel_rfl) rfl (GO.stBox (j := 3) (vs := [.slice none 0 0, .int .i64 0]) ([.slice none 0 0, .int .i64 0]) HS rfl rfl rfl rfl rfl (htA ag30) rfl rfl rfl fun wd62 HS => GO.assign rfl rfl rfl (GO.nil ?_)))))
    replace HS := HS.nilRow T_GCrossing 61 (fun _ => ())
    obtain ⟨rfl, rfl, rfl⟩ := some3 H
    exact G.ret2 _ _ func42 rfl (Res1.boxA (j := 4) (vs := [.slice none 0 0, .int .i64 0]) HS rfl rfl rfl ag30) rfl ⟨_, _, rfl, (HS.pk 6 [0] rfl)⟩
   refine G.region (GO.fld (⟨b1, 0, none⟩) rfl rfl fl30_0 rfl rfl (GO.ldBox (j := 4) HS rfl rfl rfl rfl na28 rfl (GO.move rfl rfl rfl (GO.fn rfl func70 fok70.1 fok70.2 rfl rfl (impl_hasIndex_impl_Crossing.calls HS (RdIn.drop 5 r_a) h29) (fun _ wd30 ⟨h31, HS⟩ => ⟨_, h31, (GO.ps 2 rfl (GO.known (t := 25) rfl (congrArg Bool.not (bnot_of c32)) (GO.off rfl rfl rfl rfl rfl rfl (GO.off rfl rfl rfl rfl rfl rfl (GO.off rfl rfl rfl rfl rfl rfl (GO.off rfl rfl rfl rfl rfl rfl (GO.off rfl rfl rfl rfl rfl rfl (GO.ps 2 rfl (GO.nil (G.run 2 rfl ?_))))))))))⟩)))))
   refine G.region (GO.buildV (.agg [.slice none 0 0, .int .i64 0].toArray) rfl rfl (fun _ => by kernel_rfl) rfl (GO.stBox (j := 3) (vs := [.slice none 0 0, .int .i64 0]) ([.slice none 0 0, .int .i64 0]) HS rfl rfl rfl rfl rfl (htA ag30) rfl rfl rfl fun wd63 HS => GO.assign rfl rfl rfl (GO.nil ?_)))
   replace HS := HS.nilRow T_GCrossing 61 (fun _ => ())
   obtain ⟨rfl, rfl, rfl⟩ := some3 H
   exact G.ret2 _ _ func42 rfl (Res1.boxA (j := 4) (vs := [.slice none 0 0, .int .i64 0]) HS rfl rfl rfl ag30) rfl ⟨_, _, rfl, (HS.pk 6 [0] rfl)⟩
  refine G.yesB rfl (congrArg Bool.not (bnot_of c18)) (G.seq (G.region (GO.buildV (.agg [.slice none 0 0, .int .i64 0].toArray) rfl rfl (fun _ => by kernel_rfl) rfl (GO.stBox (j := 3) (vs := [.slice none 0 0, .int .i64 0]) ([.slice none 0 0, .int .i64 0]) HS rfl rfl rfl rfl rfl (htA ag30) rfl rfl rfl fun wd64 HS => GO.assign rfl rfl rfl (GO.nil ?_)))))
  replace HS := HS.nilRow T_GCrossing 61 (fun _ => ())
  obtain ⟨rfl, rfl, rfl⟩ := some3 H
  exact G.ret2 _ _ func42 rfl (Res1.boxA (j := 4) (vs := [.slice none 0 0, .int .i64 0]) HS rfl rfl rfl ag30) rfl ⟨_, _, rfl, (HS.pk 6 [0] rfl)⟩
end Go.Proofs.YtdfiglhdjlmakaaGreat
