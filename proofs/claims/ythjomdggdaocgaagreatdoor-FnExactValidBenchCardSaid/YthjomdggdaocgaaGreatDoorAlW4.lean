/-
  The walks through the functions: a call comes to what its list function says.
-/
import Derived.Test.YthjomdggdaocgaaGreatDoorAlF
import Derived.Test.YthjomdggdaocgaaGreatDoorAlW1
import Derived.Test.YthjomdggdaocgaaGreatDoorAlW2
import Derived.Test.YthjomdggdaocgaaGreatDoorAlW3
set_option linter.unusedVariables false
set_option linter.unusedSimpArgs false
namespace Go.Proofs.YthjomdggdaocgaaGreatDoor
open Go.RowKit
open Tryz
set_option maxRecDepth 20000
set_option maxHeartbeats 40000000
theorem impl_isItem.calls {w0 w : World} {L : List HObj} {K : Nat} {e_Name : ByteArray} {e_Kind : Int} {e_Triangulation_Tets : List (List GFace)} {e_Diagram_Crossings : List GCrossing} {e_Diagram_Circles e_Braid_Strands : Int} {e_Braid_Word : List Int} {e_Certificate_Name e_Certificate_Trait : Int} {e_Certificate_Moves : List GMove} {e_Certificate_Tets e_Certificate_Perms : List Int} {A_a : Option Addr} {c_a : Nat} {y_a : Nat → (Ty.slice 140 T_GFace).Lay} {A_b : Option Addr} {c_b : Nat} {A_c : Option Addr} {c_c : Nat} {A_d : Option Addr} {c_d : Nat} {A_e : Option Addr} {c_e : Nat} {A_f : Option Addr} {c_f : Nat} {r1 : Bool} (HS : St w0 w (L)) (r_a : RdIn w0 L (Ty.slice 140 T_GFace) A_a c_a y_a e_Triangulation_Tets) (r_b : RdIn w0 L T_GCrossing A_b c_b (fun _ => ()) e_Diagram_Crossings) (r_c : RdIn w0 L (TInt .i64) A_c c_c (fun _ => ()) e_Braid_Word) (r_d : RdIn w0 L T_GMove A_d c_d (fun _ => ()) e_Certificate_Moves) (r_e : RdIn w0 L (TInt .i64) A_e c_e (fun _ => ()) e_Certificate_Tets) (r_f : RdIn w0 L (TInt .i64) A_f c_f (fun _ => ()) e_Certificate_Perms) (H : impl_isItem.f K e_Name e_Kind e_Triangulation_Tets e_Diagram_Crossings e_Diagram_Circles e_Braid_Strands e_Braid_Word e_Certificate_Name e_Certificate_Trait e_Certificate_Moves e_Certificate_Tets e_Certificate_Perms = some r1) :
    Calls prog 103 #[.agg [.string e_Name, .int .i64 e_Kind, .slice A_a e_Triangulation_Tets.length c_a, .slice A_b e_Diagram_Crossings.length c_b, .int .i64 e_Diagram_Circles, .int .i64 e_Braid_Strands, .slice A_c e_Braid_Word.length c_c, .int .i64 e_Certificate_Name, .int .i64 e_Certificate_Trait, .slice A_d e_Certificate_Moves.length c_d, .slice A_e e_Certificate_Tets.length c_e, .slice A_f e_Certificate_Perms.length c_f].toArray] w (impl_isItem.post w0 L r1) := by
  unfold impl_isItem.f at H
  refine Calls.of_G func103 rfl rfl rfl ?_
  refine G.seq ?_
  refine G.region ?_
  refine GO.box (cs := [.string e_Name, .int .i64 e_Kind, .slice A_a e_Triangulation_Tets.length c_a, .slice A_b e_Diagram_Crossings.length c_b, .int .i64 e_Diagram_Circles, .int .i64 e_Braid_Strands, .slice A_c e_Braid_Word.length c_c, .int .i64 e_Certificate_Name, .int .i64 e_Certificate_Trait, .slice A_d e_Certificate_Moves.length c_d, .slice A_e e_Certificate_Tets.length c_e, .slice A_f e_Certificate_Perms.length c_f]) HS rfl rfl rfl rfl ?_; intro b1 wd2 HS
  refine GO.assign rfl rfl rfl ?_
  refine GO.nil ?_
  refine G.run 2 rfl ?_
  obtain ⟨t12, h13, H⟩ := Option.bind_eq_some_iff.1 H
  rcases ite_elim H with ⟨c16, H⟩ | ⟨c16, H⟩
  ·
   obtain ⟨t17, h18, H⟩ := Option.bind_eq_some_iff.1 H
   refine G.region ?_
   refine GO.fld (⟨b1, 0, none⟩) rfl rfl fl48_0 rfl rfl ?_
   refine GO.ldBox (j := 0) HS rfl rfl rfl rfl na9 rfl ?_
   refine GO.fn rfl func135 fok135.1 fok135.2 rfl rfl (impl_isItemName.calls HS  h13) (fun _ wd14 ⟨h15, HS⟩ => ⟨_, h15, ?_⟩)
   refine GO.ps 2 rfl ?_
   refine GO.known (t := 8) rfl (congrArg Bool.not c16) ?_
   refine GO.on rfl rfl rfl rfl ?_
   refine GO.fld (⟨b1, 1, none⟩) rfl rfl fl48_1 rfl rfl ?_
   refine GO.back ?_
   refine GO.on rfl rfl rfl rfl ?_
   refine GO.ldBox (j := 0) HS rfl rfl rfl rfl na2 rfl ?_
   refine GO.back ?_
   refine GO.on rfl rfl rfl rfl ?_
   refine GO.fn rfl func136 fok136.1 fok136.2 rfl rfl (impl_inRange.calls HS  h18) (fun _ wd19 ⟨h20, HS⟩ => ⟨_, h20, ?_⟩)
   refine GO.back ?_
   refine GO.on rfl rfl rfl rfl ?_
   refine GO.not rfl rfl rfl ?_
   refine GO.back ?_
   refine GO.pickF rfl rfl rfl rfl rfl ?_
   refine GO.nil ?_
   rcases ite_elim H with ⟨c21, H⟩ | ⟨c21, H⟩
   ·
    refine G.noB rfl (congrArg Bool.not c21) ?_
    refine G.run 2 rfl ?_
    obtain ⟨t22, t23, t24, t25, h26, H⟩ := bind4_elim H
    refine G.region ?_
    refine GO.ldBoxA (j := 0) ([.string e_Name, .int .i64 e_Kind, .slice A_a e_Triangulation_Tets.length c_a, .slice A_b e_Diagram_Crossings.length c_b, .int .i64 e_Diagram_Circles, .int .i64 e_Braid_Strands, .slice A_c e_Braid_Word.length c_c, .int .i64 e_Certificate_Name, .int .i64 e_Certificate_Trait, .slice A_d e_Certificate_Moves.length c_d, .slice A_e e_Certificate_Tets.length c_e, .slice A_f e_Certificate_Perms.length c_f]) HS rfl rfl rfl rfl ag48 rfl ?_
    refine GO.fn rfl func137 fok137.1 fok137.2 rfl rfl (impl_fields.calls HS (RdIn.drop 1 r_a) (RdIn.drop 1 r_b) (RdIn.drop 1 r_c) (RdIn.drop 1 r_d) (RdIn.drop 1 r_e) (RdIn.drop 1 r_f) h26) (fun _ wd27 ⟨h28, HS⟩ => ⟨_, h28, ?_⟩)
    refine GO.alloc HS rfl zr164 rfl rfl ?_; intro b29 wd30 HS
    refine GO.stBox (j := 0) (vs := [.bool t22, .bool t23, .bool t24, .bool t25]) ([.bool t22, .bool t23, .bool t24, .bool t25]) HS rfl rfl rfl rfl rfl (htA ag164) rfl rfl rfl ?_; intro wd31 HS
    refine GO.nil ?_
    refine G.seq ?_
    rcases ite_elim H with ⟨c32, H⟩ | ⟨c32, H⟩
    ·
     refine G.region ?_
     refine GO.fld (⟨b1, 1, none⟩) rfl rfl fl48_1 rfl rfl ?_
     refine GO.ldBox (j := 1) HS rfl rfl rfl rfl na2 rfl ?_
     refine GO.sub rfl rfl rfl rfl ?_
     refine GO.ixP 0 rfl rfl rfl c32 underlying164 sz4 rfl rfl ?_
     refine GO.stBox (j := 0) (vs := [.bool false]) ([.bool false, .bool t23, .bool t24, .bool t25]) HS rfl rfl rfl rfl rfl (htN na4 rfl) rfl rfl rfl ?_; intro wd33 HS
     refine GO.nil ?_
     refine G.run 2 rfl ?_
     refine G.region ?_
     refine GO.ldBoxA (j := 0) ([.bool false, .bool t23, .bool t24, .bool t25]) HS rfl rfl rfl rfl ag164 rfl ?_
     refine GO.buildV (.agg [.bool false, .bool false, .bool false, .bool false].toArray) rfl rfl (fun _ => by kernel_rfl) rfl ?_
     refine GO.neqA rfl rfl rfl ng164 (fun _ => eq164) rfl ?_
     refine GO.nil ?_
     rcases ite_elim H with ⟨c34, H⟩ | ⟨c34, H⟩
     ·
      refine G.noB rfl (congrArg Bool.not (decide_eq_true c34)) ?_
      refine G.run 3 rfl ?_
      refine G.region ?_
      refine GO.fld (⟨b1, 1, none⟩) rfl rfl fl48_1 rfl rfl ?_
      refine GO.ldBox (j := 1) HS rfl rfl rfl rfl na2 rfl ?_
      refine GO.nil ?_
      refine G.run 3 rfl ?_
      rcases ite_elim H with ⟨c35, H⟩ | ⟨c35, H⟩
      ·
       refine G.yesB rfl (decide_eq_true c35) ?_
       refine G.seq ?_
       obtain ⟨t36, h37, H⟩ := Option.bind_eq_some_iff.1 H
       refine G.region ?_
       refine GO.fld (⟨b1, 2, none⟩) rfl rfl fl48_2 rfl rfl ?_
       refine GO.ldBoxA (j := 1) ([.slice A_a e_Triangulation_Tets.length c_a]) HS rfl rfl rfl rfl ag37 rfl ?_
       refine GO.fn rfl func138 fok138.1 fok138.2 rfl rfl (impl_isTriangulation.calls HS (RdIn.drop 2 r_a) h37) (fun _ wd38 ⟨h39, HS⟩ => ⟨_, h39, ?_⟩)
       refine GO.assign rfl rfl rfl ?_
       refine GO.nil ?_
       obtain rfl := Option.some.inj H
       exact G.ret1 _ func103 rfl rfl ⟨rfl, (HS.pk 2 [] rfl)⟩
      refine G.noB rfl (decide_eq_false c35) ?_
      refine G.run 2 rfl ?_
      rcases ite_elim H with ⟨c40, H⟩ | ⟨c40, H⟩
      ·
       refine G.yesB rfl (decide_eq_true c40) ?_
       refine G.seq ?_
       obtain ⟨t41, h42, H⟩ := Option.bind_eq_some_iff.1 H
       refine G.region ?_
       refine GO.fld (⟨b1, 3, none⟩) rfl rfl fl48_3 rfl rfl ?_
       refine GO.ldBoxA (j := 1) ([.slice A_b e_Diagram_Crossings.length c_b, .int .i64 e_Diagram_Circles]) HS rfl rfl rfl rfl ag40 rfl ?_
       refine GO.fn rfl func139 fok139.1 fok139.2 rfl rfl (impl_isDiagram.calls HS (RdIn.drop 2 r_b) h42) (fun _ wd43 ⟨h44, HS⟩ => ⟨_, h44, ?_⟩)
       refine GO.assign rfl rfl rfl ?_
       refine GO.nil ?_
       obtain rfl := Option.some.inj H
       exact G.ret1 _ func103 rfl rfl ⟨rfl, (HS.pk 2 [] rfl)⟩
      refine G.noB rfl (decide_eq_false c40) ?_
      refine G.run 2 rfl ?_
      rcases ite_elim H with ⟨c45, H⟩ | ⟨c45, H⟩
      ·
       refine G.yesB rfl (decide_eq_true c45) ?_
       refine G.seq ?_
       obtain ⟨t46, h47, H⟩ := Option.bind_eq_some_iff.1 H
       refine G.region ?_
       refine GO.fld (⟨b1, 5, none⟩) rfl rfl fl48_4 rfl rfl ?_
       refine GO.ldBoxA (j := 1) ([.int .i64 e_Braid_Strands, .slice A_c e_Braid_Word.length c_c]) HS rfl rfl rfl rfl ag43 rfl ?_
       refine GO.fn rfl func140 fok140.1 fok140.2 rfl rfl (impl_isBraid.calls HS (RdIn.drop 2 r_c) h47) (fun _ wd48 ⟨h49, HS⟩ => ⟨_, h49, ?_⟩)
       refine GO.assign rfl rfl rfl ?_
       refine GO.nil ?_
       obtain rfl := Option.some.inj H
       exact G.ret1 _ func103 rfl rfl ⟨rfl, (HS.pk 2 [] rfl)⟩
      refine G.noB rfl (decide_eq_false c45) ?_
      refine G.run 3 rfl ?_
      obtain ⟨t50, h51, H⟩ := Option.bind_eq_some_iff.1 H
      refine G.region ?_
      refine GO.fld (⟨b1, 7, none⟩) rfl rfl fl48_5 rfl rfl ?_
      refine GO.ldBoxA (j := 1) ([.int .i64 e_Certificate_Name, .int .i64 e_Certificate_Trait, .slice A_d e_Certificate_Moves.length c_d, .slice A_e e_Certificate_Tets.length c_e, .slice A_f e_Certificate_Perms.length c_f]) HS rfl rfl rfl rfl ag46 rfl ?_
      refine GO.fn rfl func141 fok141.1 fok141.2 rfl rfl (impl_isPlain.calls HS (RdIn.drop 2 r_d) (RdIn.drop 2 r_e) (RdIn.drop 2 r_f) h51) (fun _ wd52 ⟨h53, HS⟩ => ⟨_, h53, ?_⟩)
      refine GO.assign rfl rfl rfl ?_
      refine GO.nil ?_
      obtain rfl := Option.some.inj H
      exact G.ret1 _ func103 rfl rfl ⟨rfl, (HS.pk 2 [] rfl)⟩
     refine G.yesB rfl (congrArg Bool.not (decide_eq_false c34)) ?_
     refine G.run 2 rfl ?_
     obtain rfl := Option.some.inj H
     exact G.ret1 _ func103 rfl rfl ⟨rfl, (HS.pk 2 [] rfl)⟩
    rcases ite_elim H with ⟨c54, H⟩ | ⟨c54, H⟩
    ·
     refine G.region ?_
     refine GO.fld (⟨b1, 1, none⟩) rfl rfl fl48_1 rfl rfl ?_
     refine GO.ldBox (j := 1) HS rfl rfl rfl rfl na2 rfl ?_
     refine GO.sub rfl rfl rfl rfl ?_
     refine GO.ixP 1 rfl rfl rfl c54 underlying164 sz4 rfl rfl ?_
     refine GO.stBox (j := 0) (vs := [.bool false]) ([.bool t22, .bool false, .bool t24, .bool t25]) HS rfl rfl rfl rfl rfl (htN na4 rfl) rfl rfl rfl ?_; intro wd55 HS
     refine GO.nil ?_
     refine G.run 2 rfl ?_
     refine G.region ?_
     refine GO.ldBoxA (j := 0) ([.bool t22, .bool false, .bool t24, .bool t25]) HS rfl rfl rfl rfl ag164 rfl ?_
     refine GO.buildV (.agg [.bool false, .bool false, .bool false, .bool false].toArray) rfl rfl (fun _ => by kernel_rfl) rfl ?_
     refine GO.neqA rfl rfl rfl ng164 (fun _ => eq164) rfl ?_
     refine GO.nil ?_
     rcases ite_elim H with ⟨c56, H⟩ | ⟨c56, H⟩
     ·
      refine G.noB rfl (congrArg Bool.not (decide_eq_true c56)) ?_
      refine G.run 3 rfl ?_
      refine G.region ?_
      refine GO.fld (⟨b1, 1, none⟩) rfl rfl fl48_1 rfl rfl ?_
      refine GO.ldBox (j := 1) HS rfl rfl rfl rfl na2 rfl ?_
      refine GO.nil ?_
      refine G.run 3 rfl ?_
      rcases ite_elim H with ⟨c57, H⟩ | ⟨c57, H⟩
      ·
       refine G.yesB rfl (decide_eq_true c57) ?_
       refine G.seq ?_
       obtain ⟨t58, h59, H⟩ := Option.bind_eq_some_iff.1 H
       refine G.region ?_
       refine GO.fld (⟨b1, 2, none⟩) rfl rfl fl48_2 rfl rfl ?_
       refine GO.ldBoxA (j := 1) ([.slice A_a e_Triangulation_Tets.length c_a]) HS rfl rfl rfl rfl ag37 rfl ?_
       refine GO.fn rfl func138 fok138.1 fok138.2 rfl rfl (impl_isTriangulation.calls HS (RdIn.drop 2 r_a) h59) (fun _ wd60 ⟨h61, HS⟩ => ⟨_, h61, ?_⟩)
       refine GO.assign rfl rfl rfl ?_
       refine GO.nil ?_
       obtain rfl := Option.some.inj H
       exact G.ret1 _ func103 rfl rfl ⟨rfl, (HS.pk 2 [] rfl)⟩
      refine G.noB rfl (decide_eq_false c57) ?_
      refine G.run 2 rfl ?_
      rcases ite_elim H with ⟨c62, H⟩ | ⟨c62, H⟩
      ·
       refine G.yesB rfl (decide_eq_true c62) ?_
       refine G.seq ?_
       obtain ⟨t63, h64, H⟩ := Option.bind_eq_some_iff.1 H
       refine G.region ?_
       refine GO.fld (⟨b1, 3, none⟩) rfl rfl fl48_3 rfl rfl ?_
       refine GO.ldBoxA (j := 1) ([.slice A_b e_Diagram_Crossings.length c_b, .int .i64 e_Diagram_Circles]) HS rfl rfl rfl rfl ag40 rfl ?_
       refine GO.fn rfl func139 fok139.1 fok139.2 rfl rfl (impl_isDiagram.calls HS (RdIn.drop 2 r_b) h64) (fun _ wd65 ⟨h66, HS⟩ => ⟨_, h66, ?_⟩)
       refine GO.assign rfl rfl rfl ?_
       refine GO.nil ?_
       obtain rfl := Option.some.inj H
       exact G.ret1 _ func103 rfl rfl ⟨rfl, (HS.pk 2 [] rfl)⟩
      refine G.noB rfl (decide_eq_false c62) ?_
      refine G.run 2 rfl ?_
      rcases ite_elim H with ⟨c67, H⟩ | ⟨c67, H⟩
      ·
       refine G.yesB rfl (decide_eq_true c67) ?_
       refine G.seq ?_
       obtain ⟨t68, h69, H⟩ := Option.bind_eq_some_iff.1 H
       refine G.region ?_
       refine GO.fld (⟨b1, 5, none⟩) rfl rfl fl48_4 rfl rfl ?_
       refine GO.ldBoxA (j := 1) ([.int .i64 e_Braid_Strands, .slice A_c e_Braid_Word.length c_c]) HS rfl rfl rfl rfl ag43 rfl ?_
       refine GO.fn rfl func140 fok140.1 fok140.2 rfl rfl (impl_isBraid.calls HS (RdIn.drop 2 r_c) h69) (fun _ wd70 ⟨h71, HS⟩ => ⟨_, h71, ?_⟩)
       refine GO.assign rfl rfl rfl ?_
       refine GO.nil ?_
       obtain rfl := Option.some.inj H
       exact G.ret1 _ func103 rfl rfl ⟨rfl, (HS.pk 2 [] rfl)⟩
      refine G.noB rfl (decide_eq_false c67) ?_
      refine G.run 3 rfl ?_
      obtain ⟨t72, h73, H⟩ := Option.bind_eq_some_iff.1 H
      refine G.region ?_
      refine GO.fld (⟨b1, 7, none⟩) rfl rfl fl48_5 rfl rfl ?_
      refine GO.ldBoxA (j := 1) ([.int .i64 e_Certificate_Name, .int .i64 e_Certificate_Trait, .slice A_d e_Certificate_Moves.length c_d, .slice A_e e_Certificate_Tets.length c_e, .slice A_f e_Certificate_Perms.length c_f]) HS rfl rfl rfl rfl ag46 rfl ?_
      refine GO.fn rfl func141 fok141.1 fok141.2 rfl rfl (impl_isPlain.calls HS (RdIn.drop 2 r_d) (RdIn.drop 2 r_e) (RdIn.drop 2 r_f) h73) (fun _ wd74 ⟨h75, HS⟩ => ⟨_, h75, ?_⟩)
      refine GO.assign rfl rfl rfl ?_
      refine GO.nil ?_
      obtain rfl := Option.some.inj H
      exact G.ret1 _ func103 rfl rfl ⟨rfl, (HS.pk 2 [] rfl)⟩
     refine G.yesB rfl (congrArg Bool.not (decide_eq_false c56)) ?_
     refine G.run 2 rfl ?_
     obtain rfl := Option.some.inj H
     exact G.ret1 _ func103 rfl rfl ⟨rfl, (HS.pk 2 [] rfl)⟩
    rcases ite_elim H with ⟨c76, H⟩ | ⟨c76, H⟩
    ·
     refine G.region ?_
     refine GO.fld (⟨b1, 1, none⟩) rfl rfl fl48_1 rfl rfl ?_
     refine GO.ldBox (j := 1) HS rfl rfl rfl rfl na2 rfl ?_
     refine GO.sub rfl rfl rfl rfl ?_
     refine GO.ixP 2 rfl rfl rfl c76 underlying164 sz4 rfl rfl ?_
     refine GO.stBox (j := 0) (vs := [.bool false]) ([.bool t22, .bool t23, .bool false, .bool t25]) HS rfl rfl rfl rfl rfl (htN na4 rfl) rfl rfl rfl ?_; intro wd77 HS
     refine GO.nil ?_
     refine G.run 2 rfl ?_
     refine G.region ?_
     refine GO.ldBoxA (j := 0) ([.bool t22, .bool t23, .bool false, .bool t25]) HS rfl rfl rfl rfl ag164 rfl ?_
     refine GO.buildV (.agg [.bool false, .bool false, .bool false, .bool false].toArray) rfl rfl (fun _ => by kernel_rfl) rfl ?_
     refine GO.neqA rfl rfl rfl ng164 (fun _ => eq164) rfl ?_
     refine GO.nil ?_
     rcases ite_elim H with ⟨c78, H⟩ | ⟨c78, H⟩
     ·
      refine G.noB rfl (congrArg Bool.not (decide_eq_true c78)) ?_
      refine G.run 3 rfl ?_
      refine G.region ?_
      refine GO.fld (⟨b1, 1, none⟩) rfl rfl fl48_1 rfl rfl ?_
      refine GO.ldBox (j := 1) HS rfl rfl rfl rfl na2 rfl ?_
      refine GO.nil ?_
      refine G.run 3 rfl ?_
      rcases ite_elim H with ⟨c79, H⟩ | ⟨c79, H⟩
      ·
       refine G.yesB rfl (decide_eq_true c79) ?_
       refine G.seq ?_
       obtain ⟨t80, h81, H⟩ := Option.bind_eq_some_iff.1 H
       refine G.region ?_
       refine GO.fld (⟨b1, 2, none⟩) rfl rfl fl48_2 rfl rfl ?_
       refine GO.ldBoxA (j := 1) ([.slice A_a e_Triangulation_Tets.length c_a]) HS rfl rfl rfl rfl ag37 rfl ?_
       refine GO.fn rfl func138 fok138.1 fok138.2 rfl rfl (impl_isTriangulation.calls HS (RdIn.drop 2 r_a) h81) (fun _ wd82 ⟨h83, HS⟩ => ⟨_, h83, ?_⟩)
       refine GO.assign rfl rfl rfl ?_
       refine GO.nil ?_
       obtain rfl := Option.some.inj H
       exact G.ret1 _ func103 rfl rfl ⟨rfl, (HS.pk 2 [] rfl)⟩
      refine G.noB rfl (decide_eq_false c79) ?_
      refine G.run 2 rfl ?_
      rcases ite_elim H with ⟨c84, H⟩ | ⟨c84, H⟩
      ·
       refine G.yesB rfl (decide_eq_true c84) ?_
       refine G.seq ?_
       obtain ⟨t85, h86, H⟩ := Option.bind_eq_some_iff.1 H
       refine G.region ?_
       refine GO.fld (⟨b1, 3, none⟩) rfl rfl fl48_3 rfl rfl ?_
       refine GO.ldBoxA (j := 1) ([.slice A_b e_Diagram_Crossings.length c_b, .int .i64 e_Diagram_Circles]) HS rfl rfl rfl rfl ag40 rfl ?_
       refine GO.fn rfl func139 fok139.1 fok139.2 rfl rfl (impl_isDiagram.calls HS (RdIn.drop 2 r_b) h86) (fun _ wd87 ⟨h88, HS⟩ => ⟨_, h88, ?_⟩)
       refine GO.assign rfl rfl rfl ?_
       refine GO.nil ?_
       obtain rfl := Option.some.inj H
       exact G.ret1 _ func103 rfl rfl ⟨rfl, (HS.pk 2 [] rfl)⟩
      refine G.noB rfl (decide_eq_false c84) ?_
      refine G.run 2 rfl ?_
      rcases ite_elim H with ⟨c89, H⟩ | ⟨c89, H⟩
      ·
       refine G.yesB rfl (decide_eq_true c89) ?_
       refine G.seq ?_
       obtain ⟨t90, h91, H⟩ := Option.bind_eq_some_iff.1 H
       refine G.region ?_
       refine GO.fld (⟨b1, 5, none⟩) rfl rfl fl48_4 rfl rfl ?_
       refine GO.ldBoxA (j := 1) ([.int .i64 e_Braid_Strands, .slice A_c e_Braid_Word.length c_c]) HS rfl rfl rfl rfl ag43 rfl ?_
       refine GO.fn rfl func140 fok140.1 fok140.2 rfl rfl (impl_isBraid.calls HS (RdIn.drop 2 r_c) h91) (fun _ wd92 ⟨h93, HS⟩ => ⟨_, h93, ?_⟩)
       refine GO.assign rfl rfl rfl ?_
       refine GO.nil ?_
       obtain rfl := Option.some.inj H
       exact G.ret1 _ func103 rfl rfl ⟨rfl, (HS.pk 2 [] rfl)⟩
      refine G.noB rfl (decide_eq_false c89) ?_
      refine G.run 3 rfl ?_
      obtain ⟨t94, h95, H⟩ := Option.bind_eq_some_iff.1 H
      refine G.region ?_
      refine GO.fld (⟨b1, 7, none⟩) rfl rfl fl48_5 rfl rfl ?_
      refine GO.ldBoxA (j := 1) ([.int .i64 e_Certificate_Name, .int .i64 e_Certificate_Trait, .slice A_d e_Certificate_Moves.length c_d, .slice A_e e_Certificate_Tets.length c_e, .slice A_f e_Certificate_Perms.length c_f]) HS rfl rfl rfl rfl ag46 rfl ?_
      refine GO.fn rfl func141 fok141.1 fok141.2 rfl rfl (impl_isPlain.calls HS (RdIn.drop 2 r_d) (RdIn.drop 2 r_e) (RdIn.drop 2 r_f) h95) (fun _ wd96 ⟨h97, HS⟩ => ⟨_, h97, ?_⟩)
      refine GO.assign rfl rfl rfl ?_
      refine GO.nil ?_
      obtain rfl := Option.some.inj H
      exact G.ret1 _ func103 rfl rfl ⟨rfl, (HS.pk 2 [] rfl)⟩
     refine G.yesB rfl (congrArg Bool.not (decide_eq_false c78)) ?_
     refine G.run 2 rfl ?_
     obtain rfl := Option.some.inj H
     exact G.ret1 _ func103 rfl rfl ⟨rfl, (HS.pk 2 [] rfl)⟩
    rcases ite_elim H with ⟨c98, H⟩ | ⟨c98, H⟩
    ·
     refine G.region ?_
     refine GO.fld (⟨b1, 1, none⟩) rfl rfl fl48_1 rfl rfl ?_
     refine GO.ldBox (j := 1) HS rfl rfl rfl rfl na2 rfl ?_
     refine GO.sub rfl rfl rfl rfl ?_
     refine GO.ixP 3 rfl rfl rfl c98 underlying164 sz4 rfl rfl ?_
     refine GO.stBox (j := 0) (vs := [.bool false]) ([.bool t22, .bool t23, .bool t24, .bool false]) HS rfl rfl rfl rfl rfl (htN na4 rfl) rfl rfl rfl ?_; intro wd99 HS
     refine GO.nil ?_
     refine G.run 2 rfl ?_
     refine G.region ?_
     refine GO.ldBoxA (j := 0) ([.bool t22, .bool t23, .bool t24, .bool false]) HS rfl rfl rfl rfl ag164 rfl ?_
     refine GO.buildV (.agg [.bool false, .bool false, .bool false, .bool false].toArray) rfl rfl (fun _ => by kernel_rfl) rfl ?_
     refine GO.neqA rfl rfl rfl ng164 (fun _ => eq164) rfl ?_
     refine GO.nil ?_
     rcases ite_elim H with ⟨c100, H⟩ | ⟨c100, H⟩
     ·
      refine G.noB rfl (congrArg Bool.not (decide_eq_true c100)) ?_
      refine G.run 3 rfl ?_
      refine G.region ?_
      refine GO.fld (⟨b1, 1, none⟩) rfl rfl fl48_1 rfl rfl ?_
      refine GO.ldBox (j := 1) HS rfl rfl rfl rfl na2 rfl ?_
      refine GO.nil ?_
      refine G.run 3 rfl ?_
      rcases ite_elim H with ⟨c101, H⟩ | ⟨c101, H⟩
      ·
       refine G.yesB rfl (decide_eq_true c101) ?_
       refine G.seq ?_
       obtain ⟨t102, h103, H⟩ := Option.bind_eq_some_iff.1 H
       refine G.region ?_
       refine GO.fld (⟨b1, 2, none⟩) rfl rfl fl48_2 rfl rfl ?_
       refine GO.ldBoxA (j := 1) ([.slice A_a e_Triangulation_Tets.length c_a]) HS rfl rfl rfl rfl ag37 rfl ?_
       refine GO.fn rfl func138 fok138.1 fok138.2 rfl rfl (impl_isTriangulation.calls HS (RdIn.drop 2 r_a) h103) (fun _ wd104 ⟨h105, HS⟩ => ⟨_, h105, ?_⟩)
       refine GO.assign rfl rfl rfl ?_
       refine GO.nil ?_
       obtain rfl := Option.some.inj H
       exact G.ret1 _ func103 rfl rfl ⟨rfl, (HS.pk 2 [] rfl)⟩
      refine G.noB rfl (decide_eq_false c101) ?_
      refine G.run 2 rfl ?_
      rcases ite_elim H with ⟨c106, H⟩ | ⟨c106, H⟩
      ·
       refine G.yesB rfl (decide_eq_true c106) ?_
       refine G.seq ?_
       obtain ⟨t107, h108, H⟩ := Option.bind_eq_some_iff.1 H
       refine G.region ?_
       refine GO.fld (⟨b1, 3, none⟩) rfl rfl fl48_3 rfl rfl ?_
       refine GO.ldBoxA (j := 1) ([.slice A_b e_Diagram_Crossings.length c_b, .int .i64 e_Diagram_Circles]) HS rfl rfl rfl rfl ag40 rfl ?_
       refine GO.fn rfl func139 fok139.1 fok139.2 rfl rfl (impl_isDiagram.calls HS (RdIn.drop 2 r_b) h108) (fun _ wd109 ⟨h110, HS⟩ => ⟨_, h110, ?_⟩)
       refine GO.assign rfl rfl rfl ?_
       refine GO.nil ?_
       obtain rfl := Option.some.inj H
       exact G.ret1 _ func103 rfl rfl ⟨rfl, (HS.pk 2 [] rfl)⟩
      refine G.noB rfl (decide_eq_false c106) ?_
      refine G.run 2 rfl ?_
      rcases ite_elim H with ⟨c111, H⟩ | ⟨c111, H⟩
      ·
       refine G.yesB rfl (decide_eq_true c111) ?_
       refine G.seq ?_
       obtain ⟨t112, h113, H⟩ := Option.bind_eq_some_iff.1 H
       refine G.region ?_
       refine GO.fld (⟨b1, 5, none⟩) rfl rfl fl48_4 rfl rfl ?_
       refine GO.ldBoxA (j := 1) ([.int .i64 e_Braid_Strands, .slice A_c e_Braid_Word.length c_c]) HS rfl rfl rfl rfl ag43 rfl ?_
       refine GO.fn rfl func140 fok140.1 fok140.2 rfl rfl (impl_isBraid.calls HS (RdIn.drop 2 r_c) h113) (fun _ wd114 ⟨h115, HS⟩ => ⟨_, h115, ?_⟩)
       refine GO.assign rfl rfl rfl ?_
       refine GO.nil ?_
       obtain rfl := Option.some.inj H
       exact G.ret1 _ func103 rfl rfl ⟨rfl, (HS.pk 2 [] rfl)⟩
      refine G.noB rfl (decide_eq_false c111) ?_
      refine G.run 3 rfl ?_
      obtain ⟨t116, h117, H⟩ := Option.bind_eq_some_iff.1 H
      refine G.region ?_
      refine GO.fld (⟨b1, 7, none⟩) rfl rfl fl48_5 rfl rfl ?_
      refine GO.ldBoxA (j := 1) ([.int .i64 e_Certificate_Name, .int .i64 e_Certificate_Trait, .slice A_d e_Certificate_Moves.length c_d, .slice A_e e_Certificate_Tets.length c_e, .slice A_f e_Certificate_Perms.length c_f]) HS rfl rfl rfl rfl ag46 rfl ?_
      refine GO.fn rfl func141 fok141.1 fok141.2 rfl rfl (impl_isPlain.calls HS (RdIn.drop 2 r_d) (RdIn.drop 2 r_e) (RdIn.drop 2 r_f) h117) (fun _ wd118 ⟨h119, HS⟩ => ⟨_, h119, ?_⟩)
      refine GO.assign rfl rfl rfl ?_
      refine GO.nil ?_
      obtain rfl := Option.some.inj H
      exact G.ret1 _ func103 rfl rfl ⟨rfl, (HS.pk 2 [] rfl)⟩
     refine G.yesB rfl (congrArg Bool.not (decide_eq_false c100)) ?_
     refine G.run 2 rfl ?_
     obtain rfl := Option.some.inj H
     exact G.ret1 _ func103 rfl rfl ⟨rfl, (HS.pk 2 [] rfl)⟩
    cases H
   refine G.yesB rfl (congrArg Bool.not (bnot_of c21)) ?_
   refine G.run 2 rfl ?_
   obtain rfl := Option.some.inj H
   exact G.ret1 _ func103 rfl rfl ⟨rfl, (HS.pk 1 [] rfl)⟩
  refine G.region ?_
  refine GO.fld (⟨b1, 0, none⟩) rfl rfl fl48_0 rfl rfl ?_
  refine GO.ldBox (j := 0) HS rfl rfl rfl rfl na9 rfl ?_
  refine GO.fn rfl func135 fok135.1 fok135.2 rfl rfl (impl_isItemName.calls HS  h13) (fun _ wd14 ⟨h15, HS⟩ => ⟨_, h15, ?_⟩)
  refine GO.ps 2 rfl ?_
  refine GO.known (t := 8) rfl (congrArg Bool.not (bnot_of c16)) ?_
  refine GO.off rfl rfl rfl rfl rfl rfl ?_
  refine GO.off rfl rfl rfl rfl rfl rfl ?_
  refine GO.off rfl rfl rfl rfl rfl rfl ?_
  refine GO.off rfl rfl rfl rfl rfl rfl ?_
  refine GO.pickT rfl rfl rfl rfl rfl ?_
  refine GO.nil ?_
  refine G.run 3 rfl ?_
  obtain rfl := Option.some.inj H
  exact G.ret1 _ func103 rfl rfl ⟨rfl, (HS.pk 1 [] rfl)⟩
theorem impl_areItems.calls {w0 w : World} {L : List HObj} {K : Nat} {items : List GItem} {A_a : Option Addr} {c_a : Nat} {y_a : Nat → T_GItem_47.Lay} {r1 : Bool} (HS : St w0 w (L)) (r_a : RdIn w0 L T_GItem_47 A_a c_a y_a items) (H : impl_areItems.f K items = some r1) :
    Calls prog 62 #[.slice A_a items.length c_a] w (impl_areItems.post w0 L r1) := by
  unfold impl_areItems.f at H
  refine Calls.of_G func62 rfl rfl rfl ?_
  refine G.run 4 rfl (G.region (GO.move rfl rfl rfl (GO.lenS rfl rfl underlying28 rfl (GO.move rfl rfl rfl (GO.nil (G.run 2 rfl ?_))))))
  refine G.name (fun k_l1 hk_l1 => ?_)
  have at_l1 : ∀ m_l1, m_l1 ≤ K → ∀ (x13 : Int) (w : World), impl_areItems.l1 K m_l1 items x13 = some r1 → St w0 w (L) → G prog 62 34 [(0, .slice A_a items.length c_a), (5, .slice A_a items.length c_a), (6, .int .i64 (items.length : Int)), (7, .int .i64 x13)] k_l1 w (impl_areItems.post w0 L r1) := by
   intro m_l1
   induction m_l1 using Nat.strongRecOn with
   | _ m_l1 ih_l1 =>
    intro hm_l1 x13 w H HS
    cases m_l1 with
    | zero => rw [impl_areItems.l1] at H; cases H
    | succ n_l1 =>
     rw [impl_areItems.l1] at H
     subst hk_l1
     refine G.run 3 rfl ?_
     rcases ite_elim H with ⟨c31, H⟩ | ⟨c31, H⟩
     ·
      refine G.yesB rfl (decide_eq_true c31) (G.run 4 rfl ?_)
      obtain ⟨c32, H⟩ := ite_none H
      obtain ⟨e33, h34, H⟩ := bnd_elim H
      refine G.region (GO.move rfl rfl rfl (GO.ix rfl rfl rfl underlying28 sz48 (r_a _ HS).2.2.1 c32.1 c32.2 rfl (GO.ldRdA (T := T_GItem_47) (n := x13.toNat) HS r_a rfl rfl (getD_eq (ltN c32) h34) ag48 rfl (GO.alloc HS rfl zr48 rfl rfl fun b35 wd36 HS => GO.assign rfl rfl rfl (GO.stBox (j := 0) (vs := [.string e33.Name, .int .i64 e33.Kind, .slice ((y_a x13.toNat).2.2.1.A) e33.Triangulation_Tets.length ((y_a x13.toNat).2.2.1.c), .slice ((y_a x13.toNat).2.2.2.1.A) e33.Diagram_Crossings.length ((y_a x13.toNat).2.2.2.1.c), .int .i64 e33.Diagram_Circles, .int .i64 e33.Braid_Strands, .slice ((y_a x13.toNat).2.2.2.2.2.2.1.A) e33.Braid_Word.length ((y_a x13.toNat).2.2.2.2.2.2.1.c), .int .i64 e33.Certificate_Name, .int .i64 e33.Certificate_Trait, .slice ((y_a x13.toNat).2.2.2.2.2.2.2.2.2.1.A) e33.Certificate_Moves.length ((y_a x13.toNat).2.2.2.2.2.2.2.2.2.1.c), .slice ((y_a x13.toNat).2.2.2.2.2.2.2.2.2.2.1.A) e33.Certificate_Tets.length ((y_a x13.toNat).2.2.2.2.2.2.2.2.2.2.1.c), .slice ((y_a x13.toNat).2.2.2.2.2.2.2.2.2.2.2.A) e33.Certificate_Perms.length ((y_a x13.toNat).2.2.2.2.2.2.2.2.2.2.2.c)]) ([.string e33.Name, .int .i64 e33.Kind, .slice ((y_a x13.toNat).2.2.1.A) e33.Triangulation_Tets.length ((y_a x13.toNat).2.2.1.c), .slice ((y_a x13.toNat).2.2.2.1.A) e33.Diagram_Crossings.length ((y_a x13.toNat).2.2.2.1.c), .int .i64 e33.Diagram_Circles, .int .i64 e33.Braid_Strands, .slice ((y_a x13.toNat).2.2.2.2.2.2.1.A) e33.Braid_Word.length ((y_a x13.toNat).2.2.2.2.2.2.1.c), .int .i64 e33.Certificate_Name, .int .i64 e33.Certificate_Trait, .slice ((y_a x13.toNat).2.2.2.2.2.2.2.2.2.1.A) e33.Certificate_Moves.length ((y_a x13.toNat).2.2.2.2.2.2.2.2.2.1.c), .slice ((y_a x13.toNat).2.2.2.2.2.2.2.2.2.2.1.A) e33.Certificate_Tets.length ((y_a x13.toNat).2.2.2.2.2.2.2.2.2.2.1.c), .slice ((y_a x13.toNat).2.2.2.2.2.2.2.2.2.2.2.A) e33.Certificate_Perms.length ((y_a x13.toNat).2.2.2.2.2.2.2.2.2.2.2.c)]) HS rfl rfl rfl rfl rfl (htA ag48) rfl rfl rfl fun wd37 HS => GO.nil (G.seq ?_))))))
      obtain ⟨t38, h39, H⟩ := Option.bind_eq_some_iff.1 H
      rcases ite_elim H with ⟨c42, H⟩ | ⟨c42, H⟩
      ·
       rcases ite_elim H with ⟨c43, H⟩ | ⟨c43, H⟩
       ·
        obtain ⟨c44, H⟩ := ite_none H
        obtain ⟨e45, h46, H⟩ := bnd_elim H
        refine G.lex mixed [0, 1, 2, 3, 4, 5, 6, 7, 8, 9, 10, 11, 13, 12, 14, 15, 16, 17] (by kernel_rfl) ?_
        replace HS := HS.drew
        refine GX.l1 rfl rfl rfl (fun _ g => GO.ldBoxA (j := 0) ([.string e33.Name, .int .i64 e33.Kind, .slice ((y_a x13.toNat).2.2.1.A) e33.Triangulation_Tets.length ((y_a x13.toNat).2.2.1.c), .slice ((y_a x13.toNat).2.2.2.1.A) e33.Diagram_Crossings.length ((y_a x13.toNat).2.2.2.1.c), .int .i64 e33.Diagram_Circles, .int .i64 e33.Braid_Strands, .slice ((y_a x13.toNat).2.2.2.2.2.2.1.A) e33.Braid_Word.length ((y_a x13.toNat).2.2.2.2.2.2.1.c), .int .i64 e33.Certificate_Name, .int .i64 e33.Certificate_Trait, .slice ((y_a x13.toNat).2.2.2.2.2.2.2.2.2.1.A) e33.Certificate_Moves.length ((y_a x13.toNat).2.2.2.2.2.2.2.2.2.1.c), .slice ((y_a x13.toNat).2.2.2.2.2.2.2.2.2.2.1.A) e33.Certificate_Tets.length ((y_a x13.toNat).2.2.2.2.2.2.2.2.2.2.1.c), .slice ((y_a x13.toNat).2.2.2.2.2.2.2.2.2.2.2.A) e33.Certificate_Perms.length ((y_a x13.toNat).2.2.2.2.2.2.2.2.2.2.2.c)]) HS rfl rfl rfl rfl ag48 rfl g) rfl (GX.l2 rfl (GO.fn rfl func103 fok103.1 fok103.2 rfl rfl (impl_isItem.calls HS (RdIn.fld (RdIn.drop 1 r_a) (getD_eq (ltN c32) h34) (fun _ h => h.2.2.1)) (RdIn.fld (RdIn.drop 1 r_a) (getD_eq (ltN c32) h34) (fun _ h => h.2.2.2.1)) (RdIn.fld (RdIn.drop 1 r_a) (getD_eq (ltN c32) h34) (fun _ h => h.2.2.2.2.2.2.1)) (RdIn.fld (RdIn.drop 1 r_a) (getD_eq (ltN c32) h34) (fun _ h => h.2.2.2.2.2.2.2.2.2.1)) (RdIn.fld (RdIn.drop 1 r_a) (getD_eq (ltN c32) h34) (fun _ h => h.2.2.2.2.2.2.2.2.2.2.1)) (RdIn.fld (RdIn.drop 1 r_a) (getD_eq (ltN c32) h34) (fun _ h => h.2.2.2.2.2.2.2.2.2.2.2)) h39) (fun _ wd40 ⟨h41, HS⟩ => ⟨_, h41, (GX.fin trivial (GX.ps 1 rfl (GX.l0 rfl rfl (fun _ _ g => GO.move rfl rfl rfl (GO.known (t := 15) rfl (congrArg Bool.not c42) g)) rfl (GX.l0 rfl rfl (fun _ _ g => GO.on rfl rfl rfl rfl (GO.move rfl rfl rfl (GO.back g))) rfl (GX.l0 rfl rfl (fun _ _ g => GO.on rfl rfl rfl rfl (GO.gtr rfl rfl rfl rfl (GO.back g))) rfl (GX.l0 rfl rfl (fun _ _ g => GO.on rfl rfl rfl rfl (GO.move rfl rfl rfl (GO.back (GO.known (t := 18) rfl (decide_eq_true c43) g)))) rfl (GX.l0 rfl rfl (fun _ _ g => GO.on rfl rfl rfl rfl (GO.move rfl rfl rfl (GO.back g))) rfl (GX.l0 rfl rfl (fun _ _ g => GO.on rfl rfl rfl rfl (GO.move rfl rfl rfl (GO.back g))) rfl (GX.l0 rfl rfl (fun _ _ g => GO.on rfl rfl rfl rfl (GO.sub rfl rfl rfl rfl (GO.back g))) rfl (GX.l0 rfl rfl (fun _ _ g => GO.on rfl rfl rfl rfl (GO.ix rfl rfl rfl underlying28 sz48 ((RdIn.drop 1 r_a) _ HS).2.2.1 c44.1 c44.2 rfl (GO.back g))) rfl (GX.l0 rfl rfl (fun _ _ g => GO.on rfl rfl rfl rfl (GO.fld (ea A_a (((w64 (x13 - 1)).toNat) * 12)) rfl rfl fl48_0 rfl rfl (GO.back g))) rfl (GX.l0 rfl rfl (fun _ _ g => GO.on rfl rfl rfl rfl (GO.fld (⟨b35, 0, none⟩) rfl rfl fl48_0 rfl rfl (GO.back g))) rfl ?_))))))))))))⟩)))
        refine GX.l1 rfl rfl rfl (fun _ g => GO.on rfl rfl rfl rfl (GO.ldRd (T := T_GItem_47) (n := (w64 (x13 - 1)).toNat) (o := 0) HS (RdIn.drop 1 r_a) rfl rfl (getD_eq (ltN c44) h46) rfl rfl na9 rfl (GO.back g))) rfl (GX.l1 rfl rfl rfl (fun _ g => GO.on rfl rfl rfl rfl (GO.ldBox (j := 0) HS rfl rfl rfl rfl na9 rfl (GO.back g))) rfl (GX.l0 rfl rfl (fun _ _ g => GO.on rfl rfl rfl rfl (GO.geqS rfl rfl rfl rfl (GO.back g))) rfl (GX.l0 rfl rfl (fun _ _ g => GO.on rfl rfl rfl rfl (GO.pickT rfl rfl rfl rfl rfl (GO.back g))) rfl (GX.ps 1 rfl (GX.nil ?_)))))
        rcases ite_elim H with ⟨c47, H⟩ | ⟨c47, H⟩
        ·
         refine G.noB rfl (congrArg Bool.not c47) (G.run 4 rfl (G.weak ?_ (ih_l1 n_l1 (Nat.lt_succ_of_le (Nat.le_refl _)) (Nat.le_of_succ_le hm_l1) _ _ H (HS.pk 1 [] rfl))))
         exact ⟨rfl, rfl, rfl, rfl, trivial⟩
        refine G.yesB rfl (congrArg Bool.not (bnot_of c47)) (G.run 2 rfl ?_)
        obtain rfl := Option.some.inj H
        exact G.ret1 _ func62 rfl rfl ⟨rfl, (HS.pk 1 [] rfl)⟩
       refine G.lex mixed [0, 1, 2, 3, 4, 5, 6, 7, 8, 9, 10, 11, 13, 12, 14, 15, 16, 17] (by kernel_rfl) ?_
       replace HS := HS.drew
       refine GX.l1 rfl rfl rfl (fun _ g => GO.ldBoxA (j := 0) ([.string e33.Name, .int .i64 e33.Kind, .slice ((y_a x13.toNat).2.2.1.A) e33.Triangulation_Tets.length ((y_a x13.toNat).2.2.1.c), .slice ((y_a x13.toNat).2.2.2.1.A) e33.Diagram_Crossings.length ((y_a x13.toNat).2.2.2.1.c), .int .i64 e33.Diagram_Circles, .int .i64 e33.Braid_Strands, .slice ((y_a x13.toNat).2.2.2.2.2.2.1.A) e33.Braid_Word.length ((y_a x13.toNat).2.2.2.2.2.2.1.c), .int .i64 e33.Certificate_Name, .int .i64 e33.Certificate_Trait, .slice ((y_a x13.toNat).2.2.2.2.2.2.2.2.2.1.A) e33.Certificate_Moves.length ((y_a x13.toNat).2.2.2.2.2.2.2.2.2.1.c), .slice ((y_a x13.toNat).2.2.2.2.2.2.2.2.2.2.1.A) e33.Certificate_Tets.length ((y_a x13.toNat).2.2.2.2.2.2.2.2.2.2.1.c), .slice ((y_a x13.toNat).2.2.2.2.2.2.2.2.2.2.2.A) e33.Certificate_Perms.length ((y_a x13.toNat).2.2.2.2.2.2.2.2.2.2.2.c)]) HS rfl rfl rfl rfl ag48 rfl g) rfl (GX.l2 rfl (GO.fn rfl func103 fok103.1 fok103.2 rfl rfl (impl_isItem.calls HS (RdIn.fld (RdIn.drop 1 r_a) (getD_eq (ltN c32) h34) (fun _ h => h.2.2.1)) (RdIn.fld (RdIn.drop 1 r_a) (getD_eq (ltN c32) h34) (fun _ h => h.2.2.2.1)) (RdIn.fld (RdIn.drop 1 r_a) (getD_eq (ltN c32) h34) (fun _ h => h.2.2.2.2.2.2.1)) (RdIn.fld (RdIn.drop 1 r_a) (getD_eq (ltN c32) h34) (fun _ h => h.2.2.2.2.2.2.2.2.2.1)) (RdIn.fld (RdIn.drop 1 r_a) (getD_eq (ltN c32) h34) (fun _ h => h.2.2.2.2.2.2.2.2.2.2.1)) (RdIn.fld (RdIn.drop 1 r_a) (getD_eq (ltN c32) h34) (fun _ h => h.2.2.2.2.2.2.2.2.2.2.2)) h39) (fun _ wd40 ⟨h41, HS⟩ => ⟨_, h41, (GX.fin trivial (GX.ps 1 rfl (GX.l0 rfl rfl (fun _ _ g => GO.move rfl rfl rfl (GO.known (t := 15) rfl (congrArg Bool.not c42) g)) rfl (GX.l0 rfl rfl (fun _ _ g => GO.on rfl rfl rfl rfl (GO.move rfl rfl rfl (GO.back g))) rfl (GX.l0 rfl rfl (fun _ _ g => GO.on rfl rfl rfl rfl (GO.gtr rfl rfl rfl rfl (GO.back g))) rfl (GX.l0 rfl rfl (fun _ _ g => GO.on rfl rfl rfl rfl (GO.move rfl rfl rfl (GO.back (GO.known (t := 18) rfl (decide_eq_false c43) g)))) rfl (GX.l0 rfl rfl (fun _ _ g => GO.off rfl rfl rfl rfl rfl rfl g) rfl (GX.l0 rfl rfl (fun _ _ g => GO.off rfl rfl rfl rfl rfl rfl g) rfl (GX.l0 rfl rfl (fun _ _ g => GO.off rfl rfl rfl rfl rfl rfl g) rfl (GX.l0 rfl rfl (fun _ _ g => GO.off rfl rfl rfl rfl rfl rfl g) rfl (GX.l0 rfl rfl (fun _ _ g => GO.off rfl rfl rfl rfl rfl rfl g) rfl (GX.l0 rfl rfl (fun _ _ g => GO.off rfl rfl rfl rfl rfl rfl g) rfl ?_))))))))))))⟩)))
       refine GX.l1 rfl rfl rfl (fun _ g => GO.off rfl rfl rfl rfl rfl rfl g) rfl (GX.l1 rfl rfl rfl (fun _ g => GO.off rfl rfl rfl rfl rfl rfl g) rfl (GX.l0 rfl rfl (fun _ _ g => GO.off rfl rfl rfl rfl rfl rfl g) rfl (GX.l0 rfl rfl (fun _ _ g => GO.on rfl rfl rfl rfl (GO.pickF rfl rfl rfl rfl rfl (GO.back g))) rfl (GX.ps 1 rfl (GX.nil (G.run 5 rfl (G.weak ?_ (ih_l1 n_l1 (Nat.lt_succ_of_le (Nat.le_refl _)) (Nat.le_of_succ_le hm_l1) _ _ H (HS.pk 1 [] rfl)))))))))
       exact ⟨rfl, rfl, rfl, rfl, trivial⟩
      refine G.lex mixed [0, 1, 2, 3, 4, 5, 6, 7, 8, 9, 10, 11, 13, 12, 14, 15, 16, 17] (by kernel_rfl) ?_
      replace HS := HS.drew
      refine GX.l1 rfl rfl rfl (fun _ g => GO.ldBoxA (j := 0) ([.string e33.Name, .int .i64 e33.Kind, .slice ((y_a x13.toNat).2.2.1.A) e33.Triangulation_Tets.length ((y_a x13.toNat).2.2.1.c), .slice ((y_a x13.toNat).2.2.2.1.A) e33.Diagram_Crossings.length ((y_a x13.toNat).2.2.2.1.c), .int .i64 e33.Diagram_Circles, .int .i64 e33.Braid_Strands, .slice ((y_a x13.toNat).2.2.2.2.2.2.1.A) e33.Braid_Word.length ((y_a x13.toNat).2.2.2.2.2.2.1.c), .int .i64 e33.Certificate_Name, .int .i64 e33.Certificate_Trait, .slice ((y_a x13.toNat).2.2.2.2.2.2.2.2.2.1.A) e33.Certificate_Moves.length ((y_a x13.toNat).2.2.2.2.2.2.2.2.2.1.c), .slice ((y_a x13.toNat).2.2.2.2.2.2.2.2.2.2.1.A) e33.Certificate_Tets.length ((y_a x13.toNat).2.2.2.2.2.2.2.2.2.2.1.c), .slice ((y_a x13.toNat).2.2.2.2.2.2.2.2.2.2.2.A) e33.Certificate_Perms.length ((y_a x13.toNat).2.2.2.2.2.2.2.2.2.2.2.c)]) HS rfl rfl rfl rfl ag48 rfl g) rfl (GX.l2 rfl (GO.fn rfl func103 fok103.1 fok103.2 rfl rfl (impl_isItem.calls HS (RdIn.fld (RdIn.drop 1 r_a) (getD_eq (ltN c32) h34) (fun _ h => h.2.2.1)) (RdIn.fld (RdIn.drop 1 r_a) (getD_eq (ltN c32) h34) (fun _ h => h.2.2.2.1)) (RdIn.fld (RdIn.drop 1 r_a) (getD_eq (ltN c32) h34) (fun _ h => h.2.2.2.2.2.2.1)) (RdIn.fld (RdIn.drop 1 r_a) (getD_eq (ltN c32) h34) (fun _ h => h.2.2.2.2.2.2.2.2.2.1)) (RdIn.fld (RdIn.drop 1 r_a) (getD_eq (ltN c32) h34) (fun _ h => h.2.2.2.2.2.2.2.2.2.2.1)) (RdIn.fld (RdIn.drop 1 r_a) (getD_eq (ltN c32) h34) (fun _ h => h.2.2.2.2.2.2.2.2.2.2.2)) h39) (fun _ wd40 ⟨h41, HS⟩ => ⟨_, h41, (GX.fin trivial (GX.ps 1 rfl (GX.l0 rfl rfl (fun _ _ g => GO.move rfl rfl rfl (GO.known (t := 15) rfl (congrArg Bool.not (bnot_of c42)) g)) rfl (GX.l0 rfl rfl (fun _ _ g => GO.off rfl rfl rfl rfl rfl rfl g) rfl (GX.l0 rfl rfl (fun _ _ g => GO.off rfl rfl rfl rfl rfl rfl g) rfl (GX.l0 rfl rfl (fun _ _ g => GO.off rfl rfl rfl rfl rfl rfl g) rfl (GX.l0 rfl rfl (fun _ _ g => GO.offU rfl rfl rfl rfl rfl rfl g) rfl (GX.l0 rfl rfl (fun _ _ g => GO.offU rfl rfl rfl rfl rfl rfl g) rfl (GX.l0 rfl rfl (fun _ _ g => GO.offU rfl rfl rfl rfl rfl rfl g) rfl (GX.l0 rfl rfl (fun _ _ g => GO.offU rfl rfl rfl rfl rfl rfl g) rfl (GX.l0 rfl rfl (fun _ _ g => GO.offU rfl rfl rfl rfl rfl rfl g) rfl (GX.l0 rfl rfl (fun _ _ g => GO.offU rfl rfl rfl rfl rfl rfl g) rfl ?_))))))))))))⟩)))
      refine GX.l1 rfl rfl rfl (fun _ g => GO.offU rfl rfl rfl rfl rfl rfl g) rfl (GX.l1 rfl rfl rfl (fun _ g => GO.offU rfl rfl rfl rfl rfl rfl g) rfl (GX.l0 rfl rfl (fun _ _ g => GO.offU rfl rfl rfl rfl rfl rfl g) rfl (GX.l0 rfl rfl (fun _ _ g => GO.off rfl rfl rfl rfl rfl rfl g) rfl (GX.ps 1 rfl (GX.nil (G.run 3 rfl ?_))))))
      obtain rfl := Option.some.inj H
      exact G.ret1 _ func62 rfl rfl ⟨rfl, (HS.pk 1 [] rfl)⟩
     refine G.noB rfl (decide_eq_false c31) (G.run 2 rfl (G.region (GO.move rfl rfl rfl (GO.lenS rfl rfl underlying28 rfl (GO.ps 2 rfl (GO.nil ?_))))))
     obtain rfl := Option.some.inj H
     exact G.ret1 _ func62 rfl rfl ⟨rfl, HS⟩
  refine G.weak ?_ (at_l1 K (Nat.le_refl _) _ _ H HS)
  exact ⟨rfl, rfl, rfl, rfl, trivial⟩
theorem impl_isBench_fn1.calls {w0 w : World} {L : List HObj} {K : Nat} {items : List GItem} {A_a : Option Addr} {c_a : Nat} {y_a : Nat → T_GItem_47.Lay} {r1 : Bool} (HS : St w0 w (L)) (r_a : RdIn w0 L T_GItem_47 A_a c_a y_a items) (H : impl_isBench_fn1.f K items = some r1) :
    Calls prog 61 #[.slice A_a items.length c_a] w (impl_isBench_fn1.post w0 L r1) := by
  unfold impl_isBench_fn1.f at H
  refine Calls.of_G func61 rfl rfl rfl ?_
  refine G.run 3 rfl ?_
  obtain ⟨t1, h2, H⟩ := Option.bind_eq_some_iff.1 H
  refine G.region (GO.move rfl rfl rfl (GO.fn rfl func62 fok62.1 fok62.2 rfl rfl (impl_areItems.calls HS r_a h2) (fun _ wd3 ⟨h4, HS⟩ => ⟨_, h4, (GO.ps 2 rfl (GO.nil ?_))⟩)))
  obtain rfl := Option.some.inj H
  exact G.ret1 _ func61 rfl rfl ⟨rfl, HS⟩
theorem slices_IndexFunc_impl_Item_impl_Item_isBench_fn1.calls {w0 w : World} {L : List HObj} {K : Nat} {s : List (List GItem)} {A_a : Option Addr} {c_a : Nat} {y_a : Nat → (Ty.slice 48 T_GItem_47).Lay} {r1 : Int} (HS : St w0 w (L)) (r_a : RdIn w0 L (Ty.slice 48 T_GItem_47) A_a c_a y_a s) (H : slices_IndexFunc_impl_Item_impl_Item_isBench_fn1.f K s = some r1) :
    Calls prog 102 #[.slice A_a s.length c_a, .func (.func 61) #[] #[]] w (slices_IndexFunc_impl_Item_impl_Item_isBench_fn1.post w0 L r1) := by
  unfold slices_IndexFunc_impl_Item_impl_Item_isBench_fn1.f at H
  refine Calls.of_G func102 rfl rfl rfl ?_
  refine G.run 4 rfl (G.region (GO.move rfl rfl rfl (GO.lenS rfl rfl underlying29 rfl (GO.move rfl rfl rfl (GO.nil (G.run 2 rfl ?_))))))
  refine G.name (fun k_l1 hk_l1 => ?_)
  have at_l1 : ∀ m_l1, m_l1 ≤ K → ∀ (x8 : Int) (w : World), slices_IndexFunc_impl_Item_impl_Item_isBench_fn1.l1 K m_l1 s x8 = some r1 → St w0 w (L) → G prog 102 19 [(0, .slice A_a s.length c_a), (1, .func (.func 61) #[] #[]), (7, .int .i64 (s.length : Int)), (8, .int .i64 x8)] k_l1 w (slices_IndexFunc_impl_Item_impl_Item_isBench_fn1.post w0 L r1) := by
   intro m_l1
   induction m_l1 using Nat.strongRecOn with
   | _ m_l1 ih_l1 =>
    intro hm_l1 x8 w H HS
    cases m_l1 with
    | zero => rw [slices_IndexFunc_impl_Item_impl_Item_isBench_fn1.l1] at H; cases H
    | succ n_l1 =>
     rw [slices_IndexFunc_impl_Item_impl_Item_isBench_fn1.l1] at H
     subst hk_l1
     refine G.run 3 rfl ?_
     rcases ite_elim H with ⟨c16, H⟩ | ⟨c16, H⟩
     ·
      refine G.yesB rfl (decide_eq_true c16) (G.run 6 rfl ?_)
      obtain ⟨c17, H⟩ := ite_none H
      obtain ⟨t18, h19, H⟩ := Option.bind_eq_some_iff.1 H
      refine G.region (GO.ps 3 rfl (GO.ix rfl rfl rfl underlying29 sz28 (r_a _ HS).2.2.1 c17.1 c17.2 rfl (GO.ldRd (T := (Ty.slice 48 T_GItem_47)) (n := x8.toNat) (o := 0) HS r_a rfl rfl (getD_some (d := []) (ltN c17)) rfl rfl na28 rfl (GO.clo rfl rfl func61 fok61.1 fok61.2 rfl rfl (impl_isBench_fn1.calls HS (RdIn.elem r_a c17.1 c17.2) h19) (fun _ wd20 ⟨h21, HS⟩ => ⟨_, h21, (GO.nil ?_)⟩)))))
      rcases ite_elim H with ⟨c22, H⟩ | ⟨c22, H⟩
      ·
       refine G.yesB rfl c22 (G.run 2 rfl ?_)
       obtain rfl := Option.some.inj H
       exact G.ret1 _ func102 rfl rfl ⟨rfl, HS⟩
      refine G.noB rfl (bnot_of c22) (G.run 4 rfl (G.weak ?_ (ih_l1 n_l1 (Nat.lt_succ_of_le (Nat.le_refl _)) (Nat.le_of_succ_le hm_l1) _ _ H HS)))
      exact ⟨rfl, rfl, rfl, rfl, trivial⟩
     refine G.noB rfl (decide_eq_false c16) (G.run 3 rfl ?_)
     obtain rfl := Option.some.inj H
     exact G.ret1 _ func102 rfl rfl ⟨rfl, HS⟩
  refine G.weak ?_ (at_l1 K (Nat.le_refl _) _ _ H HS)
  exact ⟨rfl, rfl, rfl, rfl, trivial⟩
theorem slices_ContainsFunc_impl_Item_impl_Item_isBench_fn1.calls {w0 w : World} {L : List HObj} {K : Nat} {s : List (List GItem)} {A_a : Option Addr} {c_a : Nat} {y_a : Nat → (Ty.slice 48 T_GItem_47).Lay} {r1 : Bool} (HS : St w0 w (L)) (r_a : RdIn w0 L (Ty.slice 48 T_GItem_47) A_a c_a y_a s) (H : slices_ContainsFunc_impl_Item_impl_Item_isBench_fn1.f K s = some r1) :
    Calls prog 60 #[.slice A_a s.length c_a, .func (.func 61) #[] #[]] w (slices_ContainsFunc_impl_Item_impl_Item_isBench_fn1.post w0 L r1) := by
  unfold slices_ContainsFunc_impl_Item_impl_Item_isBench_fn1.f at H
  refine Calls.of_G func60 rfl rfl rfl ?_
  refine G.run 3 rfl ?_
  obtain ⟨t1, h2, H⟩ := Option.bind_eq_some_iff.1 H
  refine G.region (GO.ps 2 rfl (GO.fn rfl func102 fok102.1 fok102.2 rfl rfl (slices_IndexFunc_impl_Item_impl_Item_isBench_fn1.calls HS r_a h2) (fun _ wd3 ⟨h4, HS⟩ => ⟨_, h4, (GO.ps 2 rfl (GO.nil ?_))⟩)))
  obtain rfl := Option.some.inj H
  exact G.ret1 _ func60 rfl rfl ⟨rfl, HS⟩
theorem impl_isBench.calls {w0 w : World} {L : List HObj} {K : Nat} {b_Items : List GItem} {b_Undos b_Redos : List (List GItem)} {A_a : Option Addr} {c_a : Nat} {y_a : Nat → T_GItem_47.Lay} {A_b : Option Addr} {c_b : Nat} {y_b : Nat → (Ty.slice 48 T_GItem_47).Lay} {A_c : Option Addr} {c_c : Nat} {y_c : Nat → (Ty.slice 48 T_GItem_47).Lay} {r1 : Bool} (HS : St w0 w (L)) (r_a : RdIn w0 L T_GItem_47 A_a c_a y_a b_Items) (r_b : RdIn w0 L (Ty.slice 48 T_GItem_47) A_b c_b y_b b_Undos) (r_c : RdIn w0 L (Ty.slice 48 T_GItem_47) A_c c_c y_c b_Redos) (H : impl_isBench.f K b_Items b_Undos b_Redos = some r1) :
    Calls prog 29 #[.agg [.slice A_a b_Items.length c_a, .slice A_b b_Undos.length c_b, .slice A_c b_Redos.length c_c].toArray] w (impl_isBench.post w0 L r1) := by
  unfold impl_isBench.f at H
  refine Calls.of_G func29 rfl rfl rfl ?_
  refine G.seq (G.region (GO.box (cs := [.slice A_a b_Items.length c_a, .slice A_b b_Undos.length c_b, .slice A_c b_Redos.length c_c]) HS rfl rfl rfl rfl fun b1 wd2 HS => GO.assign rfl rfl rfl (GO.nil (G.run 2 rfl (G.region (GO.fld (⟨b1, 0, none⟩) rfl rfl fl31_0 rfl rfl (GO.ldBox (j := 0) HS rfl rfl rfl rfl na28 rfl (GO.buildS (el := 28) ([.slice A_a b_Items.length c_a]) HS rfl rfl (fun _ => by kernel_rfl) rfl fun b3 wd4 HS => GO.fld (⟨b1, 1, none⟩) rfl rfl fl31_1 rfl rfl (GO.ldBox (j := 1) HS rfl rfl rfl rfl na29 rfl (GO.fld (⟨b1, 2, none⟩) rfl rfl fl31_2 rfl rfl (GO.ldBox (j := 1) HS rfl rfl rfl rfl na29 rfl (GO.lenC (t := 7) (m := ([b_Items] : List (List GItem)).length) (c' := 1) rfl rfl rfl ?_))))))))))))
  refine GO.buildS (el := 29) ([.slice (some ⟨b3, 0, none⟩) ([b_Items] : List (List GItem)).length 1, .slice A_b b_Undos.length c_b, .slice A_c b_Redos.length c_c]) HS rfl rfl (fun _ => by kernel_rfl) rfl fun b5 wd6 HS => GO.lenS rfl rfl underlying98 rfl (GO.move rfl rfl rfl (GO.nil (G.run 2 rfl (G.lenC (t := 12) (m := ([([b_Items] : List (List GItem)), b_Undos, b_Redos] : List (List (List GItem))).length) (c' := 3) rfl rfl rfl ?_))))
  refine G.name (fun k_l1 hk_l1 => ?_)
  have at_l1 : ∀ m_l1, m_l1 ≤ K → ∀ (x14 : Int) (w : World), impl_isBench.l1 K m_l1 b_Items b_Undos b_Redos x14 = some r1 → St w0 w (Box b5 29 [.slice (some ⟨b3, 0, none⟩) ([b_Items] : List (List GItem)).length 1, .slice A_b b_Undos.length c_b, .slice A_c b_Redos.length c_c] :: Box b3 28 [.slice A_a b_Items.length c_a] :: L) → G prog 29 26 [(12, .slice (some ⟨b5, 0, none⟩) ([([b_Items] : List (List GItem)), b_Undos, b_Redos] : List (List (List GItem))).length 3), (13, .int .i64 3), (14, .int .i64 x14)] k_l1 w (impl_isBench.post w0 L r1) := by
   intro m_l1
   induction m_l1 using Nat.strongRecOn with
   | _ m_l1 ih_l1 =>
    intro hm_l1 x14 w H HS
    cases m_l1 with
    | zero => rw [impl_isBench.l1] at H; cases H
    | succ n_l1 =>
     rw [impl_isBench.l1] at H
     subst hk_l1
     refine G.run 3 rfl ?_
     rcases ite_elim H with ⟨c23, H⟩ | ⟨c23, H⟩
     ·
      refine G.yesB rfl (decide_eq_true c23) (G.run 4 rfl ?_)
      obtain ⟨c24, H⟩ := ite_none H
      refine G.region (GO.ix rfl rfl rfl underlying98 sz29 (fun _ => ⟨_, _, rfl⟩) c24.1 c24.2 rfl (GO.ldRd (T := (Ty.slice 28 (Ty.slice 48 T_GItem_47))) (n := x14.toNat) (o := 0) HS (RdIn.box (T := (Ty.slice 28 (Ty.slice 48 T_GItem_47))) (j := 0) (fun k => match k with | 0 => ⟨(some ⟨b3, 0, none⟩), 1, (fun _ => ⟨A_a, c_a, y_a⟩)⟩ | 1 => ⟨A_b, c_b, y_b⟩ | _ => ⟨A_c, c_c, y_c⟩) ([([b_Items] : List (List GItem)), b_Undos, b_Redos] : List (List (List GItem))) rfl rfl rfl rfl (kCons (fun w hs => (RdIn.box (T := (Ty.slice 48 T_GItem_47)) (j := 1) (fun _ => ⟨A_a, c_a, y_a⟩) ([b_Items] : List (List GItem)) rfl rfl rfl rfl (kCons (fun w hs => (RdIn.drop 2 r_a) w hs) kNil)) w hs) (kCons (fun w hs => (RdIn.drop 2 r_b) w hs) (kCons (fun w hs => (RdIn.drop 2 r_c) w hs) kNil)))) rfl rfl (getD_some (d := []) (ltN c24)) rfl rfl na29 rfl (GO.assign rfl rfl rfl (GO.nil (G.seq ?_)))))
      rcases ite_elim H with ⟨c25, H⟩ | ⟨c25, H⟩
      ·
       refine G.region (GO.move rfl rfl rfl (GO.lenS rfl rfl underlying29 rfl (GO.ps 2 rfl (GO.known (t := 21) rfl (decide_eq_true c25) (GO.off rfl rfl rfl rfl rfl rfl (GO.off rfl rfl rfl rfl rfl rfl (GO.pickT rfl rfl rfl rfl rfl (GO.nil (G.run 3 rfl ?_)))))))))
       obtain rfl := Option.some.inj H
       exact G.ret1 _ func29 rfl rfl ⟨rfl, (HS.pk 2 [] rfl)⟩
      obtain ⟨t26, h27, H⟩ := Option.bind_eq_some_iff.1 H
      refine G.region (GO.move rfl rfl rfl (GO.lenS rfl rfl underlying29 rfl (GO.ps 2 rfl (GO.known (t := 21) rfl (decide_eq_false c25) (GO.on rfl rfl rfl rfl (GO.move rfl rfl rfl (GO.back (GO.on rfl rfl rfl rfl (GO.fn rfl func60 fok60.1 fok60.2 rfl rfl (slices_ContainsFunc_impl_Item_impl_Item_isBench_fn1.calls HS (RdIn.elem (RdIn.box (T := (Ty.slice 28 (Ty.slice 48 T_GItem_47))) (j := 0) (fun k => match k with | 0 => ⟨(some ⟨b3, 0, none⟩), 1, (fun _ => ⟨A_a, c_a, y_a⟩)⟩ | 1 => ⟨A_b, c_b, y_b⟩ | _ => ⟨A_c, c_c, y_c⟩) ([([b_Items] : List (List GItem)), b_Undos, b_Redos] : List (List (List GItem))) rfl rfl rfl rfl (kCons (fun w hs => (RdIn.box (T := (Ty.slice 48 T_GItem_47)) (j := 1) (fun _ => ⟨A_a, c_a, y_a⟩) ([b_Items] : List (List GItem)) rfl rfl rfl rfl (kCons (fun w hs => (RdIn.drop 2 r_a) w hs) kNil)) w hs) (kCons (fun w hs => (RdIn.drop 2 r_b) w hs) (kCons (fun w hs => (RdIn.drop 2 r_c) w hs) kNil)))) c24.1 c24.2) h27) (fun _ wd28 ⟨h29, HS⟩ => ⟨_, h29, (GO.back (GO.pickF rfl rfl rfl rfl rfl (GO.nil ?_)))⟩))))))))))
      rcases ite_elim H with ⟨c30, H⟩ | ⟨c30, H⟩
      ·
       refine G.yesB rfl c30 (G.run 2 rfl ?_)
       obtain rfl := Option.some.inj H
       exact G.ret1 _ func29 rfl rfl ⟨rfl, (HS.pk 2 [] rfl)⟩
      refine G.noB rfl (bnot_of c30) (G.run 4 rfl (G.weak ?_ (ih_l1 n_l1 (Nat.lt_succ_of_le (Nat.le_refl _)) (Nat.le_of_succ_le hm_l1) _ _ H HS)))
      exact ⟨rfl, rfl, rfl, trivial⟩
     refine G.noB rfl (decide_eq_false c23) (G.run 3 rfl ?_)
     obtain rfl := Option.some.inj H
     exact G.ret1 _ func29 rfl rfl ⟨rfl, (HS.pk 2 [] rfl)⟩
  refine G.weak ?_ (at_l1 K (Nat.le_refl _) _ _ H (HS.pk 3 [0, 1] rfl))
  exact ⟨rfl, rfl, rfl, trivial⟩
theorem impl_ValidBench.calls {w0 w : World} {L : List HObj} {K : Nat} {b_Items : List GItem} {b_Undos b_Redos : List (List GItem)} {A_a : Option Addr} {c_a : Nat} {y_a : Nat → T_GItem_47.Lay} {A_b : Option Addr} {c_b : Nat} {y_b : Nat → (Ty.slice 48 T_GItem_47).Lay} {A_c : Option Addr} {c_c : Nat} {y_c : Nat → (Ty.slice 48 T_GItem_47).Lay} {r1 : Bool} (HS : St w0 w (L)) (r_a : RdIn w0 L T_GItem_47 A_a c_a y_a b_Items) (r_b : RdIn w0 L (Ty.slice 48 T_GItem_47) A_b c_b y_b b_Undos) (r_c : RdIn w0 L (Ty.slice 48 T_GItem_47) A_c c_c y_c b_Redos) (H : impl_ValidBench.f K b_Items b_Undos b_Redos = some r1) :
    Calls prog 10 #[.agg [.slice A_a b_Items.length c_a, .slice A_b b_Undos.length c_b, .slice A_c b_Redos.length c_c].toArray] w (impl_ValidBench.post w0 L r1) := by
  unfold impl_ValidBench.f at H
  refine Calls.of_G func10 rfl rfl rfl ?_
  refine G.seq (G.region (GO.box (cs := [.slice A_a b_Items.length c_a, .slice A_b b_Undos.length c_b, .slice A_c b_Redos.length c_c]) HS rfl rfl rfl rfl fun b1 wd2 HS => GO.assign rfl rfl rfl (GO.nil (G.seq ?_))))
  obtain ⟨t3, h4, H⟩ := Option.bind_eq_some_iff.1 H
  refine G.region (GO.ldBoxA (j := 0) ([.slice A_a b_Items.length c_a, .slice A_b b_Undos.length c_b, .slice A_c b_Redos.length c_c]) HS rfl rfl rfl rfl ag31 rfl (GO.fn rfl func29 fok29.1 fok29.2 rfl rfl (impl_isBench.calls HS (RdIn.drop 1 r_a) (RdIn.drop 1 r_b) (RdIn.drop 1 r_c) h4) (fun _ wd5 ⟨h6, HS⟩ => ⟨_, h6, (GO.assign rfl rfl rfl (GO.nil ?_))⟩)))
  obtain rfl := Option.some.inj H
  exact G.ret1 _ func10 rfl rfl ⟨rfl, (HS.pk 1 [] rfl)⟩
theorem laws_eqFace.calls {w0 w : World} {L : List HObj} {a_Tet a_Perm : Int} {b_Tet b_Perm : Int} {r1 : Bool} (HS : St w0 w (L)) (H : laws_eqFace.f a_Tet a_Perm b_Tet b_Perm = some r1) :
    Calls prog 143 #[.agg [.int .i64 a_Tet, .int .i64 a_Perm].toArray, .agg [.int .i64 b_Tet, .int .i64 b_Perm].toArray] w (laws_eqFace.post w0 L r1) := by
  unfold laws_eqFace.f at H
  refine Calls.of_G func143 rfl rfl rfl ?_
  refine G.seq (G.region (GO.box (cs := [.int .i64 a_Tet, .int .i64 a_Perm]) HS rfl rfl rfl rfl fun b1 wd2 HS => GO.box (cs := [.int .i64 b_Tet, .int .i64 b_Perm]) HS rfl rfl rfl rfl fun b3 wd4 HS => GO.assign rfl rfl rfl (GO.nil (G.run 2 rfl (G.region (GO.fld (⟨b1, 0, none⟩) rfl rfl fl140_0 rfl rfl (GO.ldBox (j := 1) HS rfl rfl rfl rfl na2 rfl (GO.fld (⟨b3, 0, none⟩) rfl rfl fl140_0 rfl rfl (GO.ldBox (j := 0) HS rfl rfl rfl rfl na2 rfl (GO.neq rfl rfl rfl rfl (GO.nil ?_)))))))))))
  rcases ite_elim H with ⟨c5, H⟩ | ⟨c5, H⟩
  ·
   refine G.noB rfl (congrArg Bool.not (decide_eq_true c5)) (G.run 3 rfl (G.region (GO.fld (⟨b1, 1, none⟩) rfl rfl fl140_1 rfl rfl (GO.ldBox (j := 1) HS rfl rfl rfl rfl na2 rfl (GO.fld (⟨b3, 1, none⟩) rfl rfl fl140_1 rfl rfl (GO.ldBox (j := 0) HS rfl rfl rfl rfl na2 rfl (GO.neq rfl rfl rfl rfl (GO.nil ?_))))))))
   rcases ite_elim H with ⟨c6, H⟩ | ⟨c6, H⟩
   ·
    refine G.noB rfl (congrArg Bool.not (decide_eq_true c6)) (G.run 3 rfl ?_)
    obtain rfl := Option.some.inj H
    exact G.ret1 _ func143 rfl rfl ⟨rfl, (HS.pk 2 [] rfl)⟩
   refine G.yesB rfl (congrArg Bool.not (decide_eq_false c6)) (G.run 2 rfl ?_)
   obtain rfl := Option.some.inj H
   exact G.ret1 _ func143 rfl rfl ⟨rfl, (HS.pk 2 [] rfl)⟩
  refine G.yesB rfl (congrArg Bool.not (decide_eq_false c5)) (G.run 2 rfl ?_)
  obtain rfl := Option.some.inj H
  exact G.ret1 _ func143 rfl rfl ⟨rfl, (HS.pk 2 [] rfl)⟩
theorem laws_eqFaceS.calls {w0 w : World} {L : List HObj} {K : Nat} {a_ b_ : List GFace} {A_a : Option Addr} {c_a : Nat} {A_b : Option Addr} {c_b : Nat} {r1 : Bool} (HS : St w0 w (L)) (r_a : RdIn w0 L T_GFace A_a c_a (fun _ => ()) a_) (r_b : RdIn w0 L T_GFace A_b c_b (fun _ => ()) b_) (H : laws_eqFaceS.f K a_ b_ = some r1) :
    Calls prog 107 #[.slice A_a a_.length c_a, .slice A_b b_.length c_b] w (laws_eqFaceS.post w0 L r1) := by
  unfold laws_eqFaceS.f at H
  refine Calls.of_G func107 rfl rfl rfl ?_
  refine G.run 4 rfl (G.region (GO.move rfl rfl rfl (GO.lenS rfl rfl underlying136 rfl (GO.move rfl rfl rfl (GO.lenS rfl rfl underlying136 rfl (GO.neq rfl rfl rfl rfl (GO.nil ?_)))))))
  rcases ite_elim H with ⟨c1, H⟩ | ⟨c1, H⟩
  ·
   refine G.noB rfl (congrArg Bool.not (decide_eq_true c1)) (G.run 6 rfl ?_)
   refine G.name (fun k_l1 hk_l1 => ?_)
   have at_l1 : ∀ m_l1, m_l1 ≤ K → ∀ (i_14 : Int) (w : World), laws_eqFaceS.l1 K m_l1 a_ b_ i_14 = some r1 → St w0 w (L) → G prog 107 27 [(0, .slice A_a a_.length c_a), (1, .slice A_b b_.length c_b), (5, .int .i64 i_14)] k_l1 w (laws_eqFaceS.post w0 L r1) := by
    intro m_l1
    induction m_l1 using Nat.strongRecOn with
    | _ m_l1 ih_l1 =>
     intro hm_l1 i_14 w H HS
     cases m_l1 with
     | zero => rw [laws_eqFaceS.l1] at H; cases H
     | succ n_l1 =>
      rw [laws_eqFaceS.l1] at H
      subst hk_l1
      refine G.run 2 rfl (G.region (GO.ps 2 rfl (GO.lenS rfl rfl underlying136 rfl (GO.lss rfl rfl rfl rfl (GO.nil ?_)))))
      rcases ite_elim H with ⟨c27, H⟩ | ⟨c27, H⟩
      ·
       refine G.yesB rfl (decide_eq_true c27) (G.run 4 rfl ?_)
       obtain ⟨c28, H⟩ := ite_none H
       obtain ⟨e29, h30, H⟩ := bnd_elim H
       obtain ⟨c31, H⟩ := ite_none H
       obtain ⟨e32, h33, H⟩ := bnd_elim H
       obtain ⟨t34, h35, H⟩ := Option.bind_eq_some_iff.1 H
       refine G.lex mixed [0, 1, 2, 4, 5, 6, 3, 7, 8, 9] (by kernel_rfl) ?_
       replace HS := HS.drew
       refine GX.ps 2 rfl (GX.l0 rfl rfl (fun _ _ g => GO.ix rfl rfl rfl underlying136 sz140 (r_a _ HS).2.2.1 c28.1 c28.2 rfl g) rfl (GX.ps 2 rfl (GX.l0 rfl rfl (fun _ _ g => GO.ix rfl rfl rfl underlying136 sz140 (r_b _ HS).2.2.1 c31.1 c31.2 rfl g) rfl (GX.l1 rfl rfl rfl (fun _ g => GO.ldRdA (T := T_GFace) (n := i_14.toNat) HS r_a rfl rfl (getD_eq (ltN c28) h30) ag140 rfl g) rfl (GX.l1 rfl rfl rfl (fun _ g => GO.ldRdA (T := T_GFace) (n := i_14.toNat) HS r_b rfl rfl (getD_eq (ltN c31) h33) ag140 rfl g) rfl (GX.l2 rfl (GO.fn rfl func143 fok143.1 fok143.2 rfl rfl (laws_eqFace.calls HS  h35) (fun _ wd36 ⟨h37, HS⟩ => ⟨_, h37, (GX.fin trivial (GX.ps 1 rfl (GX.nil ?_)))⟩))))))))
       rcases ite_elim H with ⟨c38, H⟩ | ⟨c38, H⟩
       ·
        refine G.noB rfl (congrArg Bool.not c38) (G.run 4 rfl (G.weak ?_ (ih_l1 n_l1 (Nat.lt_succ_of_le (Nat.le_refl _)) (Nat.le_of_succ_le hm_l1) _ _ H HS)))
        exact ⟨rfl, rfl, rfl, trivial⟩
       refine G.yesB rfl (congrArg Bool.not (bnot_of c38)) (G.run 2 rfl ?_)
       obtain rfl := Option.some.inj H
       exact G.ret1 _ func107 rfl rfl ⟨rfl, HS⟩
      refine G.noB rfl (decide_eq_false c27) (G.run 3 rfl ?_)
      obtain rfl := Option.some.inj H
      exact G.ret1 _ func107 rfl rfl ⟨rfl, HS⟩
   refine G.weak ?_ (at_l1 K (Nat.le_refl _) _ _ H HS)
   exact ⟨rfl, rfl, rfl, trivial⟩
  refine G.yesB rfl (congrArg Bool.not (decide_eq_false c1)) (G.run 2 rfl ?_)
  obtain rfl := Option.some.inj H
  exact G.ret1 _ func107 rfl rfl ⟨rfl, HS⟩
theorem laws_eqFaceSS.calls {w0 w : World} {L : List HObj} {K : Nat} {a_ b_ : List (List GFace)} {A_a : Option Addr} {c_a : Nat} {y_a : Nat → (Ty.slice 140 T_GFace).Lay} {A_b : Option Addr} {c_b : Nat} {y_b : Nat → (Ty.slice 140 T_GFace).Lay} {r1 : Bool} (HS : St w0 w (L)) (r_a : RdIn w0 L (Ty.slice 140 T_GFace) A_a c_a y_a a_) (r_b : RdIn w0 L (Ty.slice 140 T_GFace) A_b c_b y_b b_) (H : laws_eqFaceSS.f K a_ b_ = some r1) :
    Calls prog 72 #[.slice A_a a_.length c_a, .slice A_b b_.length c_b] w (laws_eqFaceSS.post w0 L r1) := by
  unfold laws_eqFaceSS.f at H
  refine Calls.of_G func72 rfl rfl rfl ?_
  refine G.run 4 rfl (G.region (GO.move rfl rfl rfl (GO.lenS rfl rfl underlying35 rfl (GO.move rfl rfl rfl (GO.lenS rfl rfl underlying35 rfl (GO.neq rfl rfl rfl rfl (GO.nil ?_)))))))
  rcases ite_elim H with ⟨c1, H⟩ | ⟨c1, H⟩
  ·
   refine G.noB rfl (congrArg Bool.not (decide_eq_true c1)) (G.run 6 rfl ?_)
   refine G.name (fun k_l1 hk_l1 => ?_)
   have at_l1 : ∀ m_l1, m_l1 ≤ K → ∀ (i_10 : Int) (w : World), laws_eqFaceSS.l1 K m_l1 a_ b_ i_10 = some r1 → St w0 w (L) → G prog 72 27 [(0, .slice A_a a_.length c_a), (1, .slice A_b b_.length c_b), (5, .int .i64 i_10)] k_l1 w (laws_eqFaceSS.post w0 L r1) := by
    intro m_l1
    induction m_l1 using Nat.strongRecOn with
    | _ m_l1 ih_l1 =>
     intro hm_l1 i_10 w H HS
     cases m_l1 with
     | zero => rw [laws_eqFaceSS.l1] at H; cases H
     | succ n_l1 =>
      rw [laws_eqFaceSS.l1] at H
      subst hk_l1
      refine G.run 2 rfl (G.region (GO.ps 2 rfl (GO.lenS rfl rfl underlying35 rfl (GO.lss rfl rfl rfl rfl (GO.nil ?_)))))
      rcases ite_elim H with ⟨c19, H⟩ | ⟨c19, H⟩
      ·
       refine G.yesB rfl (decide_eq_true c19) (G.run 4 rfl ?_)
       obtain ⟨c20, H⟩ := ite_none H
       obtain ⟨c21, H⟩ := ite_none H
       obtain ⟨t22, h23, H⟩ := Option.bind_eq_some_iff.1 H
       refine G.lex mixed [0, 1, 2, 4, 5, 6, 3, 7, 8, 9] (by kernel_rfl) ?_
       replace HS := HS.drew
       refine GX.ps 2 rfl (GX.l0 rfl rfl (fun _ _ g => GO.ix rfl rfl rfl underlying35 sz136 (r_a _ HS).2.2.1 c20.1 c20.2 rfl g) rfl (GX.ps 2 rfl (GX.l0 rfl rfl (fun _ _ g => GO.ix rfl rfl rfl underlying35 sz136 (r_b _ HS).2.2.1 c21.1 c21.2 rfl g) rfl (GX.l1 rfl rfl rfl (fun _ g => GO.ldRd (T := (Ty.slice 140 T_GFace)) (n := i_10.toNat) (o := 0) HS r_a rfl rfl (getD_some (d := []) (ltN c20)) rfl rfl na136 rfl g) rfl (GX.l1 rfl rfl rfl (fun _ g => GO.ldRd (T := (Ty.slice 140 T_GFace)) (n := i_10.toNat) (o := 0) HS r_b rfl rfl (getD_some (d := []) (ltN c21)) rfl rfl na136 rfl g) rfl (GX.l2 rfl (GO.fn rfl func107 fok107.1 fok107.2 rfl rfl (laws_eqFaceS.calls HS (RdIn.elem r_a c20.1 c20.2) (RdIn.elem r_b c21.1 c21.2) h23) (fun _ wd24 ⟨h25, HS⟩ => ⟨_, h25, (GX.fin trivial (GX.ps 1 rfl (GX.nil ?_)))⟩))))))))
       rcases ite_elim H with ⟨c26, H⟩ | ⟨c26, H⟩
       ·
        refine G.noB rfl (congrArg Bool.not c26) (G.run 4 rfl (G.weak ?_ (ih_l1 n_l1 (Nat.lt_succ_of_le (Nat.le_refl _)) (Nat.le_of_succ_le hm_l1) _ _ H HS)))
        exact ⟨rfl, rfl, rfl, trivial⟩
       refine G.yesB rfl (congrArg Bool.not (bnot_of c26)) (G.run 2 rfl ?_)
       obtain rfl := Option.some.inj H
       exact G.ret1 _ func72 rfl rfl ⟨rfl, HS⟩
      refine G.noB rfl (decide_eq_false c19) (G.run 3 rfl ?_)
      obtain rfl := Option.some.inj H
      exact G.ret1 _ func72 rfl rfl ⟨rfl, HS⟩
   refine G.weak ?_ (at_l1 K (Nat.le_refl _) _ _ H HS)
   exact ⟨rfl, rfl, rfl, trivial⟩
  refine G.yesB rfl (congrArg Bool.not (decide_eq_false c1)) (G.run 2 rfl ?_)
  obtain rfl := Option.some.inj H
  exact G.ret1 _ func72 rfl rfl ⟨rfl, HS⟩
theorem laws_eqTriangulation.calls {w0 w : World} {L : List HObj} {K : Nat} {a_Tets b_Tets : List (List GFace)} {A_a : Option Addr} {c_a : Nat} {y_a : Nat → (Ty.slice 140 T_GFace).Lay} {A_b : Option Addr} {c_b : Nat} {y_b : Nat → (Ty.slice 140 T_GFace).Lay} {r1 : Bool} (HS : St w0 w (L)) (r_a : RdIn w0 L (Ty.slice 140 T_GFace) A_a c_a y_a a_Tets) (r_b : RdIn w0 L (Ty.slice 140 T_GFace) A_b c_b y_b b_Tets) (H : laws_eqTriangulation.f K a_Tets b_Tets = some r1) :
    Calls prog 36 #[.agg [.slice A_a a_Tets.length c_a].toArray, .agg [.slice A_b b_Tets.length c_b].toArray] w (laws_eqTriangulation.post w0 L r1) := by
  unfold laws_eqTriangulation.f at H
  refine Calls.of_G func36 rfl rfl rfl ?_
  refine G.seq (G.region (GO.box (cs := [.slice A_a a_Tets.length c_a]) HS rfl rfl rfl rfl fun b1 wd2 HS => GO.box (cs := [.slice A_b b_Tets.length c_b]) HS rfl rfl rfl rfl fun b3 wd4 HS => GO.assign rfl rfl rfl (GO.nil (G.run 2 rfl ?_))))
  obtain ⟨t5, h6, H⟩ := Option.bind_eq_some_iff.1 H
  refine G.region (GO.fld (⟨b1, 0, none⟩) rfl rfl fl37_0 rfl rfl (GO.ldBox (j := 1) HS rfl rfl rfl rfl na35 rfl (GO.fld (⟨b3, 0, none⟩) rfl rfl fl37_0 rfl rfl (GO.ldBox (j := 0) HS rfl rfl rfl rfl na35 rfl (GO.fn rfl func72 fok72.1 fok72.2 rfl rfl (laws_eqFaceSS.calls HS (RdIn.drop 2 r_a) (RdIn.drop 2 r_b) h6) (fun _ wd7 ⟨h8, HS⟩ => ⟨_, h8, (GO.not rfl rfl rfl (GO.nil ?_))⟩))))))
  rcases ite_elim H with ⟨c9, H⟩ | ⟨c9, H⟩
  ·
   refine G.noB rfl (congrArg Bool.not c9) (G.run 3 rfl ?_)
   obtain rfl := Option.some.inj H
   exact G.ret1 _ func36 rfl rfl ⟨rfl, (HS.pk 2 [] rfl)⟩
  refine G.yesB rfl (congrArg Bool.not (bnot_of c9)) (G.run 2 rfl ?_)
  obtain rfl := Option.some.inj H
  exact G.ret1 _ func36 rfl rfl ⟨rfl, (HS.pk 2 [] rfl)⟩
theorem laws_eqCrossing.calls {w0 w : World} {L : List HObj} {a_A a_B : Int} {a_C a_D : Int} {a_Sign b_A : Int} {b_B b_C : Int} {b_D b_Sign : Int} {r1 : Bool} (HS : St w0 w (L)) (H : laws_eqCrossing.f a_A a_B a_C a_D a_Sign b_A b_B b_C b_D b_Sign = some r1) :
    Calls prog 108 #[.agg [.int .i64 a_A, .int .i64 a_B, .int .i64 a_C, .int .i64 a_D, .int .i64 a_Sign].toArray, .agg [.int .i64 b_A, .int .i64 b_B, .int .i64 b_C, .int .i64 b_D, .int .i64 b_Sign].toArray] w (laws_eqCrossing.post w0 L r1) := by
  unfold laws_eqCrossing.f at H
  refine Calls.of_G func108 rfl rfl rfl ?_
  refine G.seq (G.region (GO.box (cs := [.int .i64 a_A, .int .i64 a_B, .int .i64 a_C, .int .i64 a_D, .int .i64 a_Sign]) HS rfl rfl rfl rfl fun b1 wd2 HS => GO.box (cs := [.int .i64 b_A, .int .i64 b_B, .int .i64 b_C, .int .i64 b_D, .int .i64 b_Sign]) HS rfl rfl rfl rfl fun b3 wd4 HS => GO.assign rfl rfl rfl (GO.nil (G.run 2 rfl (G.region (GO.fld (⟨b1, 0, none⟩) rfl rfl fl143_0 rfl rfl (GO.ldBox (j := 1) HS rfl rfl rfl rfl na2 rfl (GO.fld (⟨b3, 0, none⟩) rfl rfl fl143_0 rfl rfl (GO.ldBox (j := 0) HS rfl rfl rfl rfl na2 rfl (GO.neq rfl rfl rfl rfl (GO.nil ?_)))))))))))
  rcases ite_elim H with ⟨c5, H⟩ | ⟨c5, H⟩
  ·
   refine G.noB rfl (congrArg Bool.not (decide_eq_true c5)) (G.run 3 rfl (G.region (GO.fld (⟨b1, 1, none⟩) rfl rfl fl143_1 rfl rfl (GO.ldBox (j := 1) HS rfl rfl rfl rfl na2 rfl (GO.fld (⟨b3, 1, none⟩) rfl rfl fl143_1 rfl rfl (GO.ldBox (j := 0) HS rfl rfl rfl rfl na2 rfl (GO.neq rfl rfl rfl rfl (GO.nil ?_))))))))
   rcases ite_elim H with ⟨c6, H⟩ | ⟨c6, H⟩
   ·
    refine G.noB rfl (congrArg Bool.not (decide_eq_true c6)) (G.run 3 rfl (G.region (GO.fld (⟨b1, 2, none⟩) rfl rfl fl143_2 rfl rfl (GO.ldBox (j := 1) HS rfl rfl rfl rfl na2 rfl (GO.fld (⟨b3, 2, none⟩) rfl rfl fl143_2 rfl rfl (GO.ldBox (j := 0) HS rfl rfl rfl rfl na2 rfl (GO.neq rfl rfl rfl rfl (GO.nil ?_))))))))
    rcases ite_elim H with ⟨c7, H⟩ | ⟨c7, H⟩
    ·
     refine G.noB rfl (congrArg Bool.not (decide_eq_true c7)) (G.run 3 rfl (G.region (GO.fld (⟨b1, 3, none⟩) rfl rfl fl143_3 rfl rfl (GO.ldBox (j := 1) HS rfl rfl rfl rfl na2 rfl (GO.fld (⟨b3, 3, none⟩) rfl rfl fl143_3 rfl rfl (GO.ldBox (j := 0) HS rfl rfl rfl rfl na2 rfl (GO.neq rfl rfl rfl rfl (GO.nil ?_))))))))
     rcases ite_elim H with ⟨c8, H⟩ | ⟨c8, H⟩
     ·
      refine G.noB rfl (congrArg Bool.not (decide_eq_true c8)) (G.run 3 rfl (G.region (GO.fld (⟨b1, 4, none⟩) rfl rfl fl143_4 rfl rfl (GO.ldBox (j := 1) HS rfl rfl rfl rfl na2 rfl (GO.fld (⟨b3, 4, none⟩) rfl rfl fl143_4 rfl rfl (GO.ldBox (j := 0) HS rfl rfl rfl rfl na2 rfl (GO.neq rfl rfl rfl rfl (GO.nil ?_))))))))
      rcases ite_elim H with ⟨c9, H⟩ | ⟨c9, H⟩
      ·
       refine G.noB rfl (congrArg Bool.not (decide_eq_true c9)) (G.run 3 rfl ?_)
       obtain rfl := Option.some.inj H
       exact G.ret1 _ func108 rfl rfl ⟨rfl, (HS.pk 2 [] rfl)⟩
      refine G.yesB rfl (congrArg Bool.not (decide_eq_false c9)) (G.run 2 rfl ?_)
      obtain rfl := Option.some.inj H
      exact G.ret1 _ func108 rfl rfl ⟨rfl, (HS.pk 2 [] rfl)⟩
     refine G.yesB rfl (congrArg Bool.not (decide_eq_false c8)) (G.run 2 rfl ?_)
     obtain rfl := Option.some.inj H
     exact G.ret1 _ func108 rfl rfl ⟨rfl, (HS.pk 2 [] rfl)⟩
    refine G.yesB rfl (congrArg Bool.not (decide_eq_false c7)) (G.run 2 rfl ?_)
    obtain rfl := Option.some.inj H
    exact G.ret1 _ func108 rfl rfl ⟨rfl, (HS.pk 2 [] rfl)⟩
   refine G.yesB rfl (congrArg Bool.not (decide_eq_false c6)) (G.run 2 rfl ?_)
   obtain rfl := Option.some.inj H
   exact G.ret1 _ func108 rfl rfl ⟨rfl, (HS.pk 2 [] rfl)⟩
  refine G.yesB rfl (congrArg Bool.not (decide_eq_false c5)) (G.run 2 rfl ?_)
  obtain rfl := Option.some.inj H
  exact G.ret1 _ func108 rfl rfl ⟨rfl, (HS.pk 2 [] rfl)⟩
theorem laws_eqCrossingS.calls {w0 w : World} {L : List HObj} {K : Nat} {a_ b_ : List GCrossing} {A_a : Option Addr} {c_a : Nat} {A_b : Option Addr} {c_b : Nat} {r1 : Bool} (HS : St w0 w (L)) (r_a : RdIn w0 L T_GCrossing A_a c_a (fun _ => ()) a_) (r_b : RdIn w0 L T_GCrossing A_b c_b (fun _ => ()) b_) (H : laws_eqCrossingS.f K a_ b_ = some r1) :
    Calls prog 73 #[.slice A_a a_.length c_a, .slice A_b b_.length c_b] w (laws_eqCrossingS.post w0 L r1) := by
  unfold laws_eqCrossingS.f at H
  refine Calls.of_G func73 rfl rfl rfl ?_
  refine G.run 4 rfl (G.region (GO.move rfl rfl rfl (GO.lenS rfl rfl underlying38 rfl (GO.move rfl rfl rfl (GO.lenS rfl rfl underlying38 rfl (GO.neq rfl rfl rfl rfl (GO.nil ?_)))))))
  rcases ite_elim H with ⟨c1, H⟩ | ⟨c1, H⟩
  ·
   refine G.noB rfl (congrArg Bool.not (decide_eq_true c1)) (G.run 6 rfl ?_)
   refine G.name (fun k_l1 hk_l1 => ?_)
   have at_l1 : ∀ m_l1, m_l1 ≤ K → ∀ (i_14 : Int) (w : World), laws_eqCrossingS.l1 K m_l1 a_ b_ i_14 = some r1 → St w0 w (L) → G prog 73 27 [(0, .slice A_a a_.length c_a), (1, .slice A_b b_.length c_b), (5, .int .i64 i_14)] k_l1 w (laws_eqCrossingS.post w0 L r1) := by
    intro m_l1
    induction m_l1 using Nat.strongRecOn with
    | _ m_l1 ih_l1 =>
     intro hm_l1 i_14 w H HS
     cases m_l1 with
     | zero => rw [laws_eqCrossingS.l1] at H; cases H
     | succ n_l1 =>
      rw [laws_eqCrossingS.l1] at H
      subst hk_l1
      refine G.run 2 rfl (G.region (GO.ps 2 rfl (GO.lenS rfl rfl underlying38 rfl (GO.lss rfl rfl rfl rfl (GO.nil ?_)))))
      rcases ite_elim H with ⟨c27, H⟩ | ⟨c27, H⟩
      ·
       refine G.yesB rfl (decide_eq_true c27) (G.run 4 rfl ?_)
       obtain ⟨c28, H⟩ := ite_none H
       obtain ⟨e29, h30, H⟩ := bnd_elim H
       obtain ⟨c31, H⟩ := ite_none H
       obtain ⟨e32, h33, H⟩ := bnd_elim H
       obtain ⟨t34, h35, H⟩ := Option.bind_eq_some_iff.1 H
       refine G.lex mixed [0, 1, 2, 4, 5, 6, 3, 7, 8, 9] (by kernel_rfl) ?_
       replace HS := HS.drew
       refine GX.ps 2 rfl (GX.l0 rfl rfl (fun _ _ g => GO.ix rfl rfl rfl underlying38 sz143 (r_a _ HS).2.2.1 c28.1 c28.2 rfl g) rfl (GX.ps 2 rfl (GX.l0 rfl rfl (fun _ _ g => GO.ix rfl rfl rfl underlying38 sz143 (r_b _ HS).2.2.1 c31.1 c31.2 rfl g) rfl (GX.l1 rfl rfl rfl (fun _ g => GO.ldRdA (T := T_GCrossing) (n := i_14.toNat) HS r_a rfl rfl (getD_eq (ltN c28) h30) ag143 rfl g) rfl (GX.l1 rfl rfl rfl (fun _ g => GO.ldRdA (T := T_GCrossing) (n := i_14.toNat) HS r_b rfl rfl (getD_eq (ltN c31) h33) ag143 rfl g) rfl (GX.l2 rfl (GO.fn rfl func108 fok108.1 fok108.2 rfl rfl (laws_eqCrossing.calls HS  h35) (fun _ wd36 ⟨h37, HS⟩ => ⟨_, h37, (GX.fin trivial (GX.ps 1 rfl (GX.nil ?_)))⟩))))))))
       rcases ite_elim H with ⟨c38, H⟩ | ⟨c38, H⟩
       ·
        refine G.noB rfl (congrArg Bool.not c38) (G.run 4 rfl (G.weak ?_ (ih_l1 n_l1 (Nat.lt_succ_of_le (Nat.le_refl _)) (Nat.le_of_succ_le hm_l1) _ _ H HS)))
        exact ⟨rfl, rfl, rfl, trivial⟩
       refine G.yesB rfl (congrArg Bool.not (bnot_of c38)) (G.run 2 rfl ?_)
       obtain rfl := Option.some.inj H
       exact G.ret1 _ func73 rfl rfl ⟨rfl, HS⟩
      refine G.noB rfl (decide_eq_false c27) (G.run 3 rfl ?_)
      obtain rfl := Option.some.inj H
      exact G.ret1 _ func73 rfl rfl ⟨rfl, HS⟩
   refine G.weak ?_ (at_l1 K (Nat.le_refl _) _ _ H HS)
   exact ⟨rfl, rfl, rfl, trivial⟩
  refine G.yesB rfl (congrArg Bool.not (decide_eq_false c1)) (G.run 2 rfl ?_)
  obtain rfl := Option.some.inj H
  exact G.ret1 _ func73 rfl rfl ⟨rfl, HS⟩
theorem laws_eqDiagram.calls {w0 w : World} {L : List HObj} {K : Nat} {a_Crossings : List GCrossing} {a_Circles : Int} {b_Crossings : List GCrossing} {b_Circles : Int} {A_a : Option Addr} {c_a : Nat} {A_b : Option Addr} {c_b : Nat} {r1 : Bool} (HS : St w0 w (L)) (r_a : RdIn w0 L T_GCrossing A_a c_a (fun _ => ()) a_Crossings) (r_b : RdIn w0 L T_GCrossing A_b c_b (fun _ => ()) b_Crossings) (H : laws_eqDiagram.f K a_Crossings a_Circles b_Crossings b_Circles = some r1) :
    Calls prog 37 #[.agg [.slice A_a a_Crossings.length c_a, .int .i64 a_Circles].toArray, .agg [.slice A_b b_Crossings.length c_b, .int .i64 b_Circles].toArray] w (laws_eqDiagram.post w0 L r1) := by
  unfold laws_eqDiagram.f at H
  refine Calls.of_G func37 rfl rfl rfl ?_
  refine G.seq (G.region (GO.box (cs := [.slice A_a a_Crossings.length c_a, .int .i64 a_Circles]) HS rfl rfl rfl rfl fun b1 wd2 HS => GO.box (cs := [.slice A_b b_Crossings.length c_b, .int .i64 b_Circles]) HS rfl rfl rfl rfl fun b3 wd4 HS => GO.assign rfl rfl rfl (GO.nil (G.run 2 rfl ?_))))
  obtain ⟨t5, h6, H⟩ := Option.bind_eq_some_iff.1 H
  refine G.region (GO.fld (⟨b1, 0, none⟩) rfl rfl fl40_0 rfl rfl (GO.ldBox (j := 1) HS rfl rfl rfl rfl na38 rfl (GO.fld (⟨b3, 0, none⟩) rfl rfl fl40_0 rfl rfl (GO.ldBox (j := 0) HS rfl rfl rfl rfl na38 rfl (GO.fn rfl func73 fok73.1 fok73.2 rfl rfl (laws_eqCrossingS.calls HS (RdIn.drop 2 r_a) (RdIn.drop 2 r_b) h6) (fun _ wd7 ⟨h8, HS⟩ => ⟨_, h8, (GO.not rfl rfl rfl (GO.nil ?_))⟩))))))
  rcases ite_elim H with ⟨c9, H⟩ | ⟨c9, H⟩
  ·
   refine G.noB rfl (congrArg Bool.not c9) (G.run 3 rfl (G.region (GO.fld (⟨b1, 1, none⟩) rfl rfl fl40_1 rfl rfl (GO.ldBox (j := 1) HS rfl rfl rfl rfl na2 rfl (GO.fld (⟨b3, 1, none⟩) rfl rfl fl40_1 rfl rfl (GO.ldBox (j := 0) HS rfl rfl rfl rfl na2 rfl (GO.neq rfl rfl rfl rfl (GO.nil ?_))))))))
   rcases ite_elim H with ⟨c10, H⟩ | ⟨c10, H⟩
   ·
    refine G.noB rfl (congrArg Bool.not (decide_eq_true c10)) (G.run 3 rfl ?_)
    obtain rfl := Option.some.inj H
    exact G.ret1 _ func37 rfl rfl ⟨rfl, (HS.pk 2 [] rfl)⟩
   refine G.yesB rfl (congrArg Bool.not (decide_eq_false c10)) (G.run 2 rfl ?_)
   obtain rfl := Option.some.inj H
   exact G.ret1 _ func37 rfl rfl ⟨rfl, (HS.pk 2 [] rfl)⟩
  refine G.yesB rfl (congrArg Bool.not (bnot_of c9)) (G.run 2 rfl ?_)
  obtain rfl := Option.some.inj H
  exact G.ret1 _ func37 rfl rfl ⟨rfl, (HS.pk 2 [] rfl)⟩
theorem laws_eqInt64S.calls {w0 w : World} {L : List HObj} {K : Nat} {a_ b_ : List Int} {A_a : Option Addr} {c_a : Nat} {A_b : Option Addr} {c_b : Nat} {r1 : Bool} (HS : St w0 w (L)) (r_a : RdIn w0 L (TInt .i64) A_a c_a (fun _ => ()) a_) (r_b : RdIn w0 L (TInt .i64) A_b c_b (fun _ => ()) b_) (H : laws_eqInt64S.f K a_ b_ = some r1) :
    Calls prog 74 #[.slice A_a a_.length c_a, .slice A_b b_.length c_b] w (laws_eqInt64S.post w0 L r1) := by
  unfold laws_eqInt64S.f at H
  refine Calls.of_G func74 rfl rfl rfl ?_
  refine G.run 4 rfl (G.region (GO.move rfl rfl rfl (GO.lenS rfl rfl underlying41 rfl (GO.move rfl rfl rfl (GO.lenS rfl rfl underlying41 rfl (GO.neq rfl rfl rfl rfl (GO.nil ?_)))))))
  rcases ite_elim H with ⟨c1, H⟩ | ⟨c1, H⟩
  ·
   refine G.noB rfl (congrArg Bool.not (decide_eq_true c1)) (G.run 6 rfl ?_)
   refine G.name (fun k_l1 hk_l1 => ?_)
   have at_l1 : ∀ m_l1, m_l1 ≤ K → ∀ (i_6 : Int) (w : World), laws_eqInt64S.l1 K m_l1 a_ b_ i_6 = some r1 → St w0 w (L) → G prog 74 26 [(0, .slice A_a a_.length c_a), (1, .slice A_b b_.length c_b), (5, .int .i64 i_6)] k_l1 w (laws_eqInt64S.post w0 L r1) := by
    intro m_l1
    induction m_l1 using Nat.strongRecOn with
    | _ m_l1 ih_l1 =>
     intro hm_l1 i_6 w H HS
     cases m_l1 with
     | zero => rw [laws_eqInt64S.l1] at H; cases H
     | succ n_l1 =>
      rw [laws_eqInt64S.l1] at H
      subst hk_l1
      refine G.run 2 rfl (G.region (GO.ps 2 rfl (GO.lenS rfl rfl underlying41 rfl (GO.lss rfl rfl rfl rfl (GO.nil ?_)))))
      rcases ite_elim H with ⟨c11, H⟩ | ⟨c11, H⟩
      ·
       refine G.yesB rfl (decide_eq_true c11) (G.run 4 rfl ?_)
       obtain ⟨c12, H⟩ := ite_none H
       obtain ⟨c13, H⟩ := ite_none H
       refine G.lex mixed [0, 1, 2, 4, 5, 6, 3, 7, 8] (by kernel_rfl) ?_
       replace HS := HS.drew
       refine GX.ps 2 rfl (GX.l0 rfl rfl (fun _ _ g => GO.ix rfl rfl rfl underlying41 sz2 (r_a _ HS).2.2.1 c12.1 c12.2 rfl g) rfl (GX.ps 2 rfl (GX.l0 rfl rfl (fun _ _ g => GO.ix rfl rfl rfl underlying41 sz2 (r_b _ HS).2.2.1 c13.1 c13.2 rfl g) rfl (GX.l1 rfl rfl rfl (fun _ g => GO.ldRd (T := (TInt .i64)) (n := i_6.toNat) (o := 0) HS r_a rfl rfl (getD_some (d := 0) (ltN c12)) rfl rfl na2 rfl g) rfl (GX.l1 rfl rfl rfl (fun _ g => GO.ldRd (T := (TInt .i64)) (n := i_6.toNat) (o := 0) HS r_b rfl rfl (getD_some (d := 0) (ltN c13)) rfl rfl na2 rfl g) rfl (GX.ps 1 rfl (GX.nil ?_)))))))
       rcases ite_elim H with ⟨c14, H⟩ | ⟨c14, H⟩
       ·
        refine G.noB rfl (congrArg Bool.not (decide_eq_true c14)) (G.run 4 rfl (G.weak ?_ (ih_l1 n_l1 (Nat.lt_succ_of_le (Nat.le_refl _)) (Nat.le_of_succ_le hm_l1) _ _ H HS)))
        exact ⟨rfl, rfl, rfl, trivial⟩
       refine G.yesB rfl (congrArg Bool.not (decide_eq_false c14)) (G.run 2 rfl ?_)
       obtain rfl := Option.some.inj H
       exact G.ret1 _ func74 rfl rfl ⟨rfl, HS⟩
      refine G.noB rfl (decide_eq_false c11) (G.run 3 rfl ?_)
      obtain rfl := Option.some.inj H
      exact G.ret1 _ func74 rfl rfl ⟨rfl, HS⟩
   refine G.weak ?_ (at_l1 K (Nat.le_refl _) _ _ H HS)
   exact ⟨rfl, rfl, rfl, trivial⟩
  refine G.yesB rfl (congrArg Bool.not (decide_eq_false c1)) (G.run 2 rfl ?_)
  obtain rfl := Option.some.inj H
  exact G.ret1 _ func74 rfl rfl ⟨rfl, HS⟩
theorem laws_eqBraid.calls {w0 w : World} {L : List HObj} {K : Nat} {a_Strands : Int} {a_Word : List Int} {b_Strands : Int} {b_Word : List Int} {A_a : Option Addr} {c_a : Nat} {A_b : Option Addr} {c_b : Nat} {r1 : Bool} (HS : St w0 w (L)) (r_a : RdIn w0 L (TInt .i64) A_a c_a (fun _ => ()) a_Word) (r_b : RdIn w0 L (TInt .i64) A_b c_b (fun _ => ()) b_Word) (H : laws_eqBraid.f K a_Strands a_Word b_Strands b_Word = some r1) :
    Calls prog 38 #[.agg [.int .i64 a_Strands, .slice A_a a_Word.length c_a].toArray, .agg [.int .i64 b_Strands, .slice A_b b_Word.length c_b].toArray] w (laws_eqBraid.post w0 L r1) := by
  unfold laws_eqBraid.f at H
  refine Calls.of_G func38 rfl rfl rfl ?_
  refine G.seq (G.region (GO.box (cs := [.int .i64 a_Strands, .slice A_a a_Word.length c_a]) HS rfl rfl rfl rfl fun b1 wd2 HS => GO.box (cs := [.int .i64 b_Strands, .slice A_b b_Word.length c_b]) HS rfl rfl rfl rfl fun b3 wd4 HS => GO.assign rfl rfl rfl (GO.nil (G.run 2 rfl (G.region (GO.fld (⟨b1, 0, none⟩) rfl rfl fl43_0 rfl rfl (GO.ldBox (j := 1) HS rfl rfl rfl rfl na2 rfl (GO.fld (⟨b3, 0, none⟩) rfl rfl fl43_0 rfl rfl (GO.ldBox (j := 0) HS rfl rfl rfl rfl na2 rfl (GO.neq rfl rfl rfl rfl (GO.nil ?_)))))))))))
  rcases ite_elim H with ⟨c5, H⟩ | ⟨c5, H⟩
  ·
   refine G.noB rfl (congrArg Bool.not (decide_eq_true c5)) (G.run 3 rfl ?_)
   obtain ⟨t6, h7, H⟩ := Option.bind_eq_some_iff.1 H
   refine G.region (GO.fld (⟨b1, 1, none⟩) rfl rfl fl43_1 rfl rfl (GO.ldBox (j := 1) HS rfl rfl rfl rfl na41 rfl (GO.fld (⟨b3, 1, none⟩) rfl rfl fl43_1 rfl rfl (GO.ldBox (j := 0) HS rfl rfl rfl rfl na41 rfl (GO.fn rfl func74 fok74.1 fok74.2 rfl rfl (laws_eqInt64S.calls HS (RdIn.drop 2 r_a) (RdIn.drop 2 r_b) h7) (fun _ wd8 ⟨h9, HS⟩ => ⟨_, h9, (GO.not rfl rfl rfl (GO.nil ?_))⟩))))))
   rcases ite_elim H with ⟨c10, H⟩ | ⟨c10, H⟩
   ·
    refine G.noB rfl (congrArg Bool.not c10) (G.run 3 rfl ?_)
    obtain rfl := Option.some.inj H
    exact G.ret1 _ func38 rfl rfl ⟨rfl, (HS.pk 2 [] rfl)⟩
   refine G.yesB rfl (congrArg Bool.not (bnot_of c10)) (G.run 2 rfl ?_)
   obtain rfl := Option.some.inj H
   exact G.ret1 _ func38 rfl rfl ⟨rfl, (HS.pk 2 [] rfl)⟩
  refine G.yesB rfl (congrArg Bool.not (decide_eq_false c5)) (G.run 2 rfl ?_)
  obtain rfl := Option.some.inj H
  exact G.ret1 _ func38 rfl rfl ⟨rfl, (HS.pk 2 [] rfl)⟩
theorem laws_eqMove.calls {w0 w : World} {L : List HObj} {a_Kind a_Tet : Int} {a_Index b_Kind : Int} {b_Tet b_Index : Int} {r1 : Bool} (HS : St w0 w (L)) (H : laws_eqMove.f a_Kind a_Tet a_Index b_Kind b_Tet b_Index = some r1) :
    Calls prog 109 #[.agg [.int .i64 a_Kind, .int .i64 a_Tet, .int .i64 a_Index].toArray, .agg [.int .i64 b_Kind, .int .i64 b_Tet, .int .i64 b_Index].toArray] w (laws_eqMove.post w0 L r1) := by
  unfold laws_eqMove.f at H
  refine Calls.of_G func109 rfl rfl rfl ?_
  refine G.seq (G.region (GO.box (cs := [.int .i64 a_Kind, .int .i64 a_Tet, .int .i64 a_Index]) HS rfl rfl rfl rfl fun b1 wd2 HS => GO.box (cs := [.int .i64 b_Kind, .int .i64 b_Tet, .int .i64 b_Index]) HS rfl rfl rfl rfl fun b3 wd4 HS => GO.assign rfl rfl rfl (GO.nil (G.run 2 rfl (G.region (GO.fld (⟨b1, 0, none⟩) rfl rfl fl110_0 rfl rfl (GO.ldBox (j := 1) HS rfl rfl rfl rfl na2 rfl (GO.fld (⟨b3, 0, none⟩) rfl rfl fl110_0 rfl rfl (GO.ldBox (j := 0) HS rfl rfl rfl rfl na2 rfl (GO.neq rfl rfl rfl rfl (GO.nil ?_)))))))))))
  rcases ite_elim H with ⟨c5, H⟩ | ⟨c5, H⟩
  ·
   refine G.noB rfl (congrArg Bool.not (decide_eq_true c5)) (G.run 3 rfl (G.region (GO.fld (⟨b1, 1, none⟩) rfl rfl fl110_1 rfl rfl (GO.ldBox (j := 1) HS rfl rfl rfl rfl na2 rfl (GO.fld (⟨b3, 1, none⟩) rfl rfl fl110_1 rfl rfl (GO.ldBox (j := 0) HS rfl rfl rfl rfl na2 rfl (GO.neq rfl rfl rfl rfl (GO.nil ?_))))))))
   rcases ite_elim H with ⟨c6, H⟩ | ⟨c6, H⟩
   ·
    refine G.noB rfl (congrArg Bool.not (decide_eq_true c6)) (G.run 3 rfl (G.region (GO.fld (⟨b1, 2, none⟩) rfl rfl fl110_2 rfl rfl (GO.ldBox (j := 1) HS rfl rfl rfl rfl na2 rfl (GO.fld (⟨b3, 2, none⟩) rfl rfl fl110_2 rfl rfl (GO.ldBox (j := 0) HS rfl rfl rfl rfl na2 rfl (GO.neq rfl rfl rfl rfl (GO.nil ?_))))))))
    rcases ite_elim H with ⟨c7, H⟩ | ⟨c7, H⟩
    ·
     refine G.noB rfl (congrArg Bool.not (decide_eq_true c7)) (G.run 3 rfl ?_)
     obtain rfl := Option.some.inj H
     exact G.ret1 _ func109 rfl rfl ⟨rfl, (HS.pk 2 [] rfl)⟩
    refine G.yesB rfl (congrArg Bool.not (decide_eq_false c7)) (G.run 2 rfl ?_)
    obtain rfl := Option.some.inj H
    exact G.ret1 _ func109 rfl rfl ⟨rfl, (HS.pk 2 [] rfl)⟩
   refine G.yesB rfl (congrArg Bool.not (decide_eq_false c6)) (G.run 2 rfl ?_)
   obtain rfl := Option.some.inj H
   exact G.ret1 _ func109 rfl rfl ⟨rfl, (HS.pk 2 [] rfl)⟩
  refine G.yesB rfl (congrArg Bool.not (decide_eq_false c5)) (G.run 2 rfl ?_)
  obtain rfl := Option.some.inj H
  exact G.ret1 _ func109 rfl rfl ⟨rfl, (HS.pk 2 [] rfl)⟩
theorem laws_eqMoveS.calls {w0 w : World} {L : List HObj} {K : Nat} {a_ b_ : List GMove} {A_a : Option Addr} {c_a : Nat} {A_b : Option Addr} {c_b : Nat} {r1 : Bool} (HS : St w0 w (L)) (r_a : RdIn w0 L T_GMove A_a c_a (fun _ => ()) a_) (r_b : RdIn w0 L T_GMove A_b c_b (fun _ => ()) b_) (H : laws_eqMoveS.f K a_ b_ = some r1) :
    Calls prog 75 #[.slice A_a a_.length c_a, .slice A_b b_.length c_b] w (laws_eqMoveS.post w0 L r1) := by
  unfold laws_eqMoveS.f at H
  refine Calls.of_G func75 rfl rfl rfl ?_
  refine G.run 4 rfl (G.region (GO.move rfl rfl rfl (GO.lenS rfl rfl underlying44 rfl (GO.move rfl rfl rfl (GO.lenS rfl rfl underlying44 rfl (GO.neq rfl rfl rfl rfl (GO.nil ?_)))))))
  rcases ite_elim H with ⟨c1, H⟩ | ⟨c1, H⟩
  ·
   refine G.noB rfl (congrArg Bool.not (decide_eq_true c1)) (G.run 6 rfl ?_)
   refine G.name (fun k_l1 hk_l1 => ?_)
   have at_l1 : ∀ m_l1, m_l1 ≤ K → ∀ (i_14 : Int) (w : World), laws_eqMoveS.l1 K m_l1 a_ b_ i_14 = some r1 → St w0 w (L) → G prog 75 27 [(0, .slice A_a a_.length c_a), (1, .slice A_b b_.length c_b), (5, .int .i64 i_14)] k_l1 w (laws_eqMoveS.post w0 L r1) := by
    intro m_l1
    induction m_l1 using Nat.strongRecOn with
    | _ m_l1 ih_l1 =>
     intro hm_l1 i_14 w H HS
     cases m_l1 with
     | zero => rw [laws_eqMoveS.l1] at H; cases H
     | succ n_l1 =>
      rw [laws_eqMoveS.l1] at H
      subst hk_l1
      refine G.run 2 rfl (G.region (GO.ps 2 rfl (GO.lenS rfl rfl underlying44 rfl (GO.lss rfl rfl rfl rfl (GO.nil ?_)))))
      rcases ite_elim H with ⟨c27, H⟩ | ⟨c27, H⟩
      ·
       refine G.yesB rfl (decide_eq_true c27) (G.run 4 rfl ?_)
       obtain ⟨c28, H⟩ := ite_none H
       obtain ⟨e29, h30, H⟩ := bnd_elim H
       obtain ⟨c31, H⟩ := ite_none H
       obtain ⟨e32, h33, H⟩ := bnd_elim H
       obtain ⟨t34, h35, H⟩ := Option.bind_eq_some_iff.1 H
       refine G.lex mixed [0, 1, 2, 4, 5, 6, 3, 7, 8, 9] (by kernel_rfl) ?_
       replace HS := HS.drew
       refine GX.ps 2 rfl (GX.l0 rfl rfl (fun _ _ g => GO.ix rfl rfl rfl underlying44 sz110 (r_a _ HS).2.2.1 c28.1 c28.2 rfl g) rfl (GX.ps 2 rfl (GX.l0 rfl rfl (fun _ _ g => GO.ix rfl rfl rfl underlying44 sz110 (r_b _ HS).2.2.1 c31.1 c31.2 rfl g) rfl (GX.l1 rfl rfl rfl (fun _ g => GO.ldRdA (T := T_GMove) (n := i_14.toNat) HS r_a rfl rfl (getD_eq (ltN c28) h30) ag110 rfl g) rfl (GX.l1 rfl rfl rfl (fun _ g => GO.ldRdA (T := T_GMove) (n := i_14.toNat) HS r_b rfl rfl (getD_eq (ltN c31) h33) ag110 rfl g) rfl (GX.l2 rfl (GO.fn rfl func109 fok109.1 fok109.2 rfl rfl (laws_eqMove.calls HS  h35) (fun _ wd36 ⟨h37, HS⟩ => ⟨_, h37, (GX.fin trivial (GX.ps 1 rfl (GX.nil ?_)))⟩))))))))
       rcases ite_elim H with ⟨c38, H⟩ | ⟨c38, H⟩
       ·
        refine G.noB rfl (congrArg Bool.not c38) (G.run 4 rfl (G.weak ?_ (ih_l1 n_l1 (Nat.lt_succ_of_le (Nat.le_refl _)) (Nat.le_of_succ_le hm_l1) _ _ H HS)))
        exact ⟨rfl, rfl, rfl, trivial⟩
       refine G.yesB rfl (congrArg Bool.not (bnot_of c38)) (G.run 2 rfl ?_)
       obtain rfl := Option.some.inj H
       exact G.ret1 _ func75 rfl rfl ⟨rfl, HS⟩
      refine G.noB rfl (decide_eq_false c27) (G.run 3 rfl ?_)
      obtain rfl := Option.some.inj H
      exact G.ret1 _ func75 rfl rfl ⟨rfl, HS⟩
   refine G.weak ?_ (at_l1 K (Nat.le_refl _) _ _ H HS)
   exact ⟨rfl, rfl, rfl, trivial⟩
  refine G.yesB rfl (congrArg Bool.not (decide_eq_false c1)) (G.run 2 rfl ?_)
  obtain rfl := Option.some.inj H
  exact G.ret1 _ func75 rfl rfl ⟨rfl, HS⟩
theorem laws_eqCertificate.calls {w0 w : World} {L : List HObj} {K : Nat} {a_Name a_Trait : Int} {a_Moves : List GMove} {a_Tets a_Perms : List Int} {b_Name b_Trait : Int} {b_Moves : List GMove} {b_Tets b_Perms : List Int} {A_a : Option Addr} {c_a : Nat} {A_b : Option Addr} {c_b : Nat} {A_c : Option Addr} {c_c : Nat} {A_d : Option Addr} {c_d : Nat} {A_e : Option Addr} {c_e : Nat} {A_f : Option Addr} {c_f : Nat} {r1 : Bool} (HS : St w0 w (L)) (r_a : RdIn w0 L T_GMove A_a c_a (fun _ => ()) a_Moves) (r_b : RdIn w0 L (TInt .i64) A_b c_b (fun _ => ()) a_Tets) (r_c : RdIn w0 L (TInt .i64) A_c c_c (fun _ => ()) a_Perms) (r_d : RdIn w0 L T_GMove A_d c_d (fun _ => ()) b_Moves) (r_e : RdIn w0 L (TInt .i64) A_e c_e (fun _ => ()) b_Tets) (r_f : RdIn w0 L (TInt .i64) A_f c_f (fun _ => ()) b_Perms) (H : laws_eqCertificate.f K a_Name a_Trait a_Moves a_Tets a_Perms b_Name b_Trait b_Moves b_Tets b_Perms = some r1) :
    Calls prog 39 #[.agg [.int .i64 a_Name, .int .i64 a_Trait, .slice A_a a_Moves.length c_a, .slice A_b a_Tets.length c_b, .slice A_c a_Perms.length c_c].toArray, .agg [.int .i64 b_Name, .int .i64 b_Trait, .slice A_d b_Moves.length c_d, .slice A_e b_Tets.length c_e, .slice A_f b_Perms.length c_f].toArray] w (laws_eqCertificate.post w0 L r1) := by
  unfold laws_eqCertificate.f at H
  refine Calls.of_G func39 rfl rfl rfl ?_
  refine G.seq (G.region (GO.box (cs := [.int .i64 a_Name, .int .i64 a_Trait, .slice A_a a_Moves.length c_a, .slice A_b a_Tets.length c_b, .slice A_c a_Perms.length c_c]) HS rfl rfl rfl rfl fun b1 wd2 HS => GO.box (cs := [.int .i64 b_Name, .int .i64 b_Trait, .slice A_d b_Moves.length c_d, .slice A_e b_Tets.length c_e, .slice A_f b_Perms.length c_f]) HS rfl rfl rfl rfl fun b3 wd4 HS => GO.assign rfl rfl rfl (GO.nil (G.run 2 rfl (G.region (GO.fld (⟨b1, 0, none⟩) rfl rfl fl46_0 rfl rfl (GO.ldBox (j := 1) HS rfl rfl rfl rfl na2 rfl (GO.fld (⟨b3, 0, none⟩) rfl rfl fl46_0 rfl rfl (GO.ldBox (j := 0) HS rfl rfl rfl rfl na2 rfl (GO.neq rfl rfl rfl rfl (GO.nil ?_)))))))))))
  rcases ite_elim H with ⟨c5, H⟩ | ⟨c5, H⟩
  ·
   refine G.noB rfl (congrArg Bool.not (decide_eq_true c5)) (G.run 3 rfl (G.region (GO.fld (⟨b1, 1, none⟩) rfl rfl fl46_1 rfl rfl (GO.ldBox (j := 1) HS rfl rfl rfl rfl na2 rfl (GO.fld (⟨b3, 1, none⟩) rfl rfl fl46_1 rfl rfl (GO.ldBox (j := 0) HS rfl rfl rfl rfl na2 rfl (GO.neq rfl rfl rfl rfl (GO.nil ?_))))))))
   rcases ite_elim H with ⟨c6, H⟩ | ⟨c6, H⟩
   ·
    refine G.noB rfl (congrArg Bool.not (decide_eq_true c6)) (G.run 3 rfl ?_)
    obtain ⟨t7, h8, H⟩ := Option.bind_eq_some_iff.1 H
    refine G.region (GO.fld (⟨b1, 2, none⟩) rfl rfl fl46_2 rfl rfl (GO.ldBox (j := 1) HS rfl rfl rfl rfl na44 rfl (GO.fld (⟨b3, 2, none⟩) rfl rfl fl46_2 rfl rfl (GO.ldBox (j := 0) HS rfl rfl rfl rfl na44 rfl (GO.fn rfl func75 fok75.1 fok75.2 rfl rfl (laws_eqMoveS.calls HS (RdIn.drop 2 r_a) (RdIn.drop 2 r_d) h8) (fun _ wd9 ⟨h10, HS⟩ => ⟨_, h10, (GO.not rfl rfl rfl (GO.nil ?_))⟩))))))
    rcases ite_elim H with ⟨c11, H⟩ | ⟨c11, H⟩
    ·
     refine G.noB rfl (congrArg Bool.not c11) (G.run 3 rfl ?_)
     obtain ⟨t12, h13, H⟩ := Option.bind_eq_some_iff.1 H
     refine G.region (GO.fld (⟨b1, 3, none⟩) rfl rfl fl46_3 rfl rfl (GO.ldBox (j := 1) HS rfl rfl rfl rfl na41 rfl (GO.fld (⟨b3, 3, none⟩) rfl rfl fl46_3 rfl rfl (GO.ldBox (j := 0) HS rfl rfl rfl rfl na41 rfl (GO.fn rfl func74 fok74.1 fok74.2 rfl rfl (laws_eqInt64S.calls HS (RdIn.drop 2 r_b) (RdIn.drop 2 r_e) h13) (fun _ wd14 ⟨h15, HS⟩ => ⟨_, h15, (GO.not rfl rfl rfl (GO.nil ?_))⟩))))))
     rcases ite_elim H with ⟨c16, H⟩ | ⟨c16, H⟩
     ·
      refine G.noB rfl (congrArg Bool.not c16) (G.run 3 rfl ?_)
      obtain ⟨t17, h18, H⟩ := Option.bind_eq_some_iff.1 H
      refine G.region (GO.fld (⟨b1, 4, none⟩) rfl rfl fl46_4 rfl rfl (GO.ldBox (j := 1) HS rfl rfl rfl rfl na41 rfl (GO.fld (⟨b3, 4, none⟩) rfl rfl fl46_4 rfl rfl (GO.ldBox (j := 0) HS rfl rfl rfl rfl na41 rfl (GO.fn rfl func74 fok74.1 fok74.2 rfl rfl (laws_eqInt64S.calls HS (RdIn.drop 2 r_c) (RdIn.drop 2 r_f) h18) (fun _ wd19 ⟨h20, HS⟩ => ⟨_, h20, (GO.not rfl rfl rfl (GO.nil ?_))⟩))))))
      rcases ite_elim H with ⟨c21, H⟩ | ⟨c21, H⟩
      ·
       refine G.noB rfl (congrArg Bool.not c21) (G.run 3 rfl ?_)
       obtain rfl := Option.some.inj H
       exact G.ret1 _ func39 rfl rfl ⟨rfl, (HS.pk 2 [] rfl)⟩
      refine G.yesB rfl (congrArg Bool.not (bnot_of c21)) (G.run 2 rfl ?_)
      obtain rfl := Option.some.inj H
      exact G.ret1 _ func39 rfl rfl ⟨rfl, (HS.pk 2 [] rfl)⟩
     refine G.yesB rfl (congrArg Bool.not (bnot_of c16)) (G.run 2 rfl ?_)
     obtain rfl := Option.some.inj H
     exact G.ret1 _ func39 rfl rfl ⟨rfl, (HS.pk 2 [] rfl)⟩
    refine G.yesB rfl (congrArg Bool.not (bnot_of c11)) (G.run 2 rfl ?_)
    obtain rfl := Option.some.inj H
    exact G.ret1 _ func39 rfl rfl ⟨rfl, (HS.pk 2 [] rfl)⟩
   refine G.yesB rfl (congrArg Bool.not (decide_eq_false c6)) (G.run 2 rfl ?_)
   obtain rfl := Option.some.inj H
   exact G.ret1 _ func39 rfl rfl ⟨rfl, (HS.pk 2 [] rfl)⟩
  refine G.yesB rfl (congrArg Bool.not (decide_eq_false c5)) (G.run 2 rfl ?_)
  obtain rfl := Option.some.inj H
  exact G.ret1 _ func39 rfl rfl ⟨rfl, (HS.pk 2 [] rfl)⟩
theorem laws_eqItem.calls {w0 w : World} {L : List HObj} {K : Nat} {a_Name : ByteArray} {a_Kind : Int} {a_Triangulation_Tets : List (List GFace)} {a_Diagram_Crossings : List GCrossing} {a_Diagram_Circles a_Braid_Strands : Int} {a_Braid_Word : List Int} {a_Certificate_Name a_Certificate_Trait : Int} {a_Certificate_Moves : List GMove} {a_Certificate_Tets a_Certificate_Perms : List Int} {b_Name : ByteArray} {b_Kind : Int} {b_Triangulation_Tets : List (List GFace)} {b_Diagram_Crossings : List GCrossing} {b_Diagram_Circles b_Braid_Strands : Int} {b_Braid_Word : List Int} {b_Certificate_Name b_Certificate_Trait : Int} {b_Certificate_Moves : List GMove} {b_Certificate_Tets b_Certificate_Perms : List Int} {A_a : Option Addr} {c_a : Nat} {y_a : Nat → (Ty.slice 140 T_GFace).Lay} {A_b : Option Addr} {c_b : Nat} {A_c : Option Addr} {c_c : Nat} {A_d : Option Addr} {c_d : Nat} {A_e : Option Addr} {c_e : Nat} {A_f : Option Addr} {c_f : Nat} {A_g : Option Addr} {c_g : Nat} {y_g : Nat → (Ty.slice 140 T_GFace).Lay} {A_h : Option Addr} {c_h : Nat} {A_i : Option Addr} {c_i : Nat} {A_j : Option Addr} {c_j : Nat} {A_k : Option Addr} {c_k : Nat} {A_l : Option Addr} {c_l : Nat} {r1 : Bool} (HS : St w0 w (L)) (r_a : RdIn w0 L (Ty.slice 140 T_GFace) A_a c_a y_a a_Triangulation_Tets) (r_b : RdIn w0 L T_GCrossing A_b c_b (fun _ => ()) a_Diagram_Crossings) (r_c : RdIn w0 L (TInt .i64) A_c c_c (fun _ => ()) a_Braid_Word) (r_d : RdIn w0 L T_GMove A_d c_d (fun _ => ()) a_Certificate_Moves) (r_e : RdIn w0 L (TInt .i64) A_e c_e (fun _ => ()) a_Certificate_Tets) (r_f : RdIn w0 L (TInt .i64) A_f c_f (fun _ => ()) a_Certificate_Perms) (r_g : RdIn w0 L (Ty.slice 140 T_GFace) A_g c_g y_g b_Triangulation_Tets) (r_h : RdIn w0 L T_GCrossing A_h c_h (fun _ => ()) b_Diagram_Crossings) (r_i : RdIn w0 L (TInt .i64) A_i c_i (fun _ => ()) b_Braid_Word) (r_j : RdIn w0 L T_GMove A_j c_j (fun _ => ()) b_Certificate_Moves) (r_k : RdIn w0 L (TInt .i64) A_k c_k (fun _ => ()) b_Certificate_Tets) (r_l : RdIn w0 L (TInt .i64) A_l c_l (fun _ => ()) b_Certificate_Perms) (H : laws_eqItem.f K a_Name a_Kind a_Triangulation_Tets a_Diagram_Crossings a_Diagram_Circles a_Braid_Strands a_Braid_Word a_Certificate_Name a_Certificate_Trait a_Certificate_Moves a_Certificate_Tets a_Certificate_Perms b_Name b_Kind b_Triangulation_Tets b_Diagram_Crossings b_Diagram_Circles b_Braid_Strands b_Braid_Word b_Certificate_Name b_Certificate_Trait b_Certificate_Moves b_Certificate_Tets b_Certificate_Perms = some r1) :
    Calls prog 14 #[.agg [.string a_Name, .int .i64 a_Kind, .slice A_a a_Triangulation_Tets.length c_a, .slice A_b a_Diagram_Crossings.length c_b, .int .i64 a_Diagram_Circles, .int .i64 a_Braid_Strands, .slice A_c a_Braid_Word.length c_c, .int .i64 a_Certificate_Name, .int .i64 a_Certificate_Trait, .slice A_d a_Certificate_Moves.length c_d, .slice A_e a_Certificate_Tets.length c_e, .slice A_f a_Certificate_Perms.length c_f].toArray, .agg [.string b_Name, .int .i64 b_Kind, .slice A_g b_Triangulation_Tets.length c_g, .slice A_h b_Diagram_Crossings.length c_h, .int .i64 b_Diagram_Circles, .int .i64 b_Braid_Strands, .slice A_i b_Braid_Word.length c_i, .int .i64 b_Certificate_Name, .int .i64 b_Certificate_Trait, .slice A_j b_Certificate_Moves.length c_j, .slice A_k b_Certificate_Tets.length c_k, .slice A_l b_Certificate_Perms.length c_l].toArray] w (laws_eqItem.post w0 L r1) := by
  unfold laws_eqItem.f at H
  refine Calls.of_G func14 rfl rfl rfl ?_
  refine G.seq (G.region (GO.box (cs := [.string a_Name, .int .i64 a_Kind, .slice A_a a_Triangulation_Tets.length c_a, .slice A_b a_Diagram_Crossings.length c_b, .int .i64 a_Diagram_Circles, .int .i64 a_Braid_Strands, .slice A_c a_Braid_Word.length c_c, .int .i64 a_Certificate_Name, .int .i64 a_Certificate_Trait, .slice A_d a_Certificate_Moves.length c_d, .slice A_e a_Certificate_Tets.length c_e, .slice A_f a_Certificate_Perms.length c_f]) HS rfl rfl rfl rfl fun b1 wd2 HS => GO.box (cs := [.string b_Name, .int .i64 b_Kind, .slice A_g b_Triangulation_Tets.length c_g, .slice A_h b_Diagram_Crossings.length c_h, .int .i64 b_Diagram_Circles, .int .i64 b_Braid_Strands, .slice A_i b_Braid_Word.length c_i, .int .i64 b_Certificate_Name, .int .i64 b_Certificate_Trait, .slice A_j b_Certificate_Moves.length c_j, .slice A_k b_Certificate_Tets.length c_k, .slice A_l b_Certificate_Perms.length c_l]) HS rfl rfl rfl rfl fun b3 wd4 HS => GO.assign rfl rfl rfl (GO.nil (G.run 2 rfl (G.region (GO.fld (⟨b1, 0, none⟩) rfl rfl fl48_0 rfl rfl (GO.ldBox (j := 1) HS rfl rfl rfl rfl na9 rfl (GO.fld (⟨b3, 0, none⟩) rfl rfl fl48_0 rfl rfl (GO.ldBox (j := 0) HS rfl rfl rfl rfl na9 rfl (GO.neqS rfl rfl rfl rfl (GO.nil ?_)))))))))))
  rcases ite_elim H with ⟨c5, H⟩ | ⟨c5, H⟩
  ·
   refine G.noB rfl (congrArg Bool.not c5) (G.run 3 rfl (G.region (GO.fld (⟨b1, 1, none⟩) rfl rfl fl48_1 rfl rfl (GO.ldBox (j := 1) HS rfl rfl rfl rfl na2 rfl (GO.fld (⟨b3, 1, none⟩) rfl rfl fl48_1 rfl rfl (GO.ldBox (j := 0) HS rfl rfl rfl rfl na2 rfl (GO.neq rfl rfl rfl rfl (GO.nil ?_))))))))
   rcases ite_elim H with ⟨c6, H⟩ | ⟨c6, H⟩
   ·
    refine G.noB rfl (congrArg Bool.not (decide_eq_true c6)) (G.run 3 rfl ?_)
    obtain ⟨t7, h8, H⟩ := Option.bind_eq_some_iff.1 H
    refine G.region (GO.fld (⟨b1, 2, none⟩) rfl rfl fl48_2 rfl rfl (GO.ldBoxA (j := 1) ([.slice A_a a_Triangulation_Tets.length c_a]) HS rfl rfl rfl rfl ag37 rfl (GO.fld (⟨b3, 2, none⟩) rfl rfl fl48_2 rfl rfl (GO.ldBoxA (j := 0) ([.slice A_g b_Triangulation_Tets.length c_g]) HS rfl rfl rfl rfl ag37 rfl (GO.fn rfl func36 fok36.1 fok36.2 rfl rfl (laws_eqTriangulation.calls HS (RdIn.drop 2 r_a) (RdIn.drop 2 r_g) h8) (fun _ wd9 ⟨h10, HS⟩ => ⟨_, h10, (GO.not rfl rfl rfl (GO.nil ?_))⟩))))))
    rcases ite_elim H with ⟨c11, H⟩ | ⟨c11, H⟩
    ·
     refine G.noB rfl (congrArg Bool.not c11) (G.run 3 rfl ?_)
     obtain ⟨t12, h13, H⟩ := Option.bind_eq_some_iff.1 H
     refine G.region (GO.fld (⟨b1, 3, none⟩) rfl rfl fl48_3 rfl rfl (GO.ldBoxA (j := 1) ([.slice A_b a_Diagram_Crossings.length c_b, .int .i64 a_Diagram_Circles]) HS rfl rfl rfl rfl ag40 rfl (GO.fld (⟨b3, 3, none⟩) rfl rfl fl48_3 rfl rfl (GO.ldBoxA (j := 0) ([.slice A_h b_Diagram_Crossings.length c_h, .int .i64 b_Diagram_Circles]) HS rfl rfl rfl rfl ag40 rfl (GO.fn rfl func37 fok37.1 fok37.2 rfl rfl (laws_eqDiagram.calls HS (RdIn.drop 2 r_b) (RdIn.drop 2 r_h) h13) (fun _ wd14 ⟨h15, HS⟩ => ⟨_, h15, (GO.not rfl rfl rfl (GO.nil ?_))⟩))))))
     rcases ite_elim H with ⟨c16, H⟩ | ⟨c16, H⟩
     ·
      refine G.noB rfl (congrArg Bool.not c16) (G.run 3 rfl ?_)
      obtain ⟨t17, h18, H⟩ := Option.bind_eq_some_iff.1 H
      refine G.region (GO.fld (⟨b1, 5, none⟩) rfl rfl fl48_4 rfl rfl (GO.ldBoxA (j := 1) ([.int .i64 a_Braid_Strands, .slice A_c a_Braid_Word.length c_c]) HS rfl rfl rfl rfl ag43 rfl (GO.fld (⟨b3, 5, none⟩) rfl rfl fl48_4 rfl rfl (GO.ldBoxA (j := 0) ([.int .i64 b_Braid_Strands, .slice A_i b_Braid_Word.length c_i]) HS rfl rfl rfl rfl ag43 rfl (GO.fn rfl func38 fok38.1 fok38.2 rfl rfl (laws_eqBraid.calls HS (RdIn.drop 2 r_c) (RdIn.drop 2 r_i) h18) (fun _ wd19 ⟨h20, HS⟩ => ⟨_, h20, (GO.not rfl rfl rfl (GO.nil ?_))⟩))))))
      rcases ite_elim H with ⟨c21, H⟩ | ⟨c21, H⟩
      ·
       refine G.noB rfl (congrArg Bool.not c21) (G.run 3 rfl ?_)
       obtain ⟨t22, h23, H⟩ := Option.bind_eq_some_iff.1 H
       refine G.region (GO.fld (⟨b1, 7, none⟩) rfl rfl fl48_5 rfl rfl (GO.ldBoxA (j := 1) ([.int .i64 a_Certificate_Name, .int .i64 a_Certificate_Trait, .slice A_d a_Certificate_Moves.length c_d, .slice A_e a_Certificate_Tets.length c_e, .slice A_f a_Certificate_Perms.length c_f]) HS rfl rfl rfl rfl ag46 rfl (GO.fld (⟨b3, 7, none⟩) rfl rfl fl48_5 rfl rfl (GO.ldBoxA (j := 0) ([.int .i64 b_Certificate_Name, .int .i64 b_Certificate_Trait, .slice A_j b_Certificate_Moves.length c_j, .slice A_k b_Certificate_Tets.length c_k, .slice A_l b_Certificate_Perms.length c_l]) HS rfl rfl rfl rfl ag46 rfl (GO.fn rfl func39 fok39.1 fok39.2 rfl rfl (laws_eqCertificate.calls HS (RdIn.drop 2 r_d) (RdIn.drop 2 r_e) (RdIn.drop 2 r_f) (RdIn.drop 2 r_j) (RdIn.drop 2 r_k) (RdIn.drop 2 r_l) h23) (fun _ wd24 ⟨h25, HS⟩ => ⟨_, h25, (GO.not rfl rfl rfl (GO.nil ?_))⟩))))))
       rcases ite_elim H with ⟨c26, H⟩ | ⟨c26, H⟩
       ·
        refine G.noB rfl (congrArg Bool.not c26) (G.run 3 rfl ?_)
        obtain rfl := Option.some.inj H
        exact G.ret1 _ func14 rfl rfl ⟨rfl, (HS.pk 2 [] rfl)⟩
       refine G.yesB rfl (congrArg Bool.not (bnot_of c26)) (G.run 2 rfl ?_)
       obtain rfl := Option.some.inj H
       exact G.ret1 _ func14 rfl rfl ⟨rfl, (HS.pk 2 [] rfl)⟩
      refine G.yesB rfl (congrArg Bool.not (bnot_of c21)) (G.run 2 rfl ?_)
      obtain rfl := Option.some.inj H
      exact G.ret1 _ func14 rfl rfl ⟨rfl, (HS.pk 2 [] rfl)⟩
     refine G.yesB rfl (congrArg Bool.not (bnot_of c16)) (G.run 2 rfl ?_)
     obtain rfl := Option.some.inj H
     exact G.ret1 _ func14 rfl rfl ⟨rfl, (HS.pk 2 [] rfl)⟩
    refine G.yesB rfl (congrArg Bool.not (bnot_of c11)) (G.run 2 rfl ?_)
    obtain rfl := Option.some.inj H
    exact G.ret1 _ func14 rfl rfl ⟨rfl, (HS.pk 2 [] rfl)⟩
   refine G.yesB rfl (congrArg Bool.not (decide_eq_false c6)) (G.run 2 rfl ?_)
   obtain rfl := Option.some.inj H
   exact G.ret1 _ func14 rfl rfl ⟨rfl, (HS.pk 2 [] rfl)⟩
  refine G.yesB rfl (congrArg Bool.not (bnot_of c5)) (G.run 2 rfl ?_)
  obtain rfl := Option.some.inj H
  exact G.ret1 _ func14 rfl rfl ⟨rfl, (HS.pk 2 [] rfl)⟩
theorem laws_eqItemS.calls {w0 w : World} {L : List HObj} {K : Nat} {a_ b_ : List GItem} {A_a : Option Addr} {c_a : Nat} {y_a : Nat → T_GItem_47.Lay} {A_b : Option Addr} {c_b : Nat} {y_b : Nat → T_GItem_47.Lay} {r1 : Bool} (HS : St w0 w (L)) (r_a : RdIn w0 L T_GItem_47 A_a c_a y_a a_) (r_b : RdIn w0 L T_GItem_47 A_b c_b y_b b_) (H : laws_eqItemS.f K a_ b_ = some r1) :
    Calls prog 30 #[.slice A_a a_.length c_a, .slice A_b b_.length c_b] w (laws_eqItemS.post w0 L r1) := by
  unfold laws_eqItemS.f at H
  refine Calls.of_G func30 rfl rfl rfl ?_
  refine G.run 4 rfl (G.region (GO.move rfl rfl rfl (GO.lenS rfl rfl underlying28 rfl (GO.move rfl rfl rfl (GO.lenS rfl rfl underlying28 rfl (GO.neq rfl rfl rfl rfl (GO.nil ?_)))))))
  rcases ite_elim H with ⟨c1, H⟩ | ⟨c1, H⟩
  ·
   refine G.noB rfl (congrArg Bool.not (decide_eq_true c1)) (G.run 6 rfl ?_)
   refine G.name (fun k_l1 hk_l1 => ?_)
   have at_l1 : ∀ m_l1, m_l1 ≤ K → ∀ (i_14 : Int) (w : World), laws_eqItemS.l1 K m_l1 a_ b_ i_14 = some r1 → St w0 w (L) → G prog 30 27 [(0, .slice A_a a_.length c_a), (1, .slice A_b b_.length c_b), (5, .int .i64 i_14)] k_l1 w (laws_eqItemS.post w0 L r1) := by
    intro m_l1
    induction m_l1 using Nat.strongRecOn with
    | _ m_l1 ih_l1 =>
     intro hm_l1 i_14 w H HS
     cases m_l1 with
     | zero => rw [laws_eqItemS.l1] at H; cases H
     | succ n_l1 =>
      rw [laws_eqItemS.l1] at H
      subst hk_l1
      refine G.run 2 rfl (G.region (GO.ps 2 rfl (GO.lenS rfl rfl underlying28 rfl (GO.lss rfl rfl rfl rfl (GO.nil ?_)))))
      rcases ite_elim H with ⟨c27, H⟩ | ⟨c27, H⟩
      ·
       refine G.yesB rfl (decide_eq_true c27) (G.run 4 rfl ?_)
       obtain ⟨c28, H⟩ := ite_none H
       obtain ⟨e29, h30, H⟩ := bnd_elim H
       obtain ⟨c31, H⟩ := ite_none H
       obtain ⟨e32, h33, H⟩ := bnd_elim H
       obtain ⟨t34, h35, H⟩ := Option.bind_eq_some_iff.1 H
       refine G.lex mixed [0, 1, 2, 4, 5, 6, 3, 7, 8, 9] (by kernel_rfl) ?_
       replace HS := HS.drew
       refine GX.ps 2 rfl (GX.l0 rfl rfl (fun _ _ g => GO.ix rfl rfl rfl underlying28 sz48 (r_a _ HS).2.2.1 c28.1 c28.2 rfl g) rfl (GX.ps 2 rfl (GX.l0 rfl rfl (fun _ _ g => GO.ix rfl rfl rfl underlying28 sz48 (r_b _ HS).2.2.1 c31.1 c31.2 rfl g) rfl (GX.l1 rfl rfl rfl (fun _ g => GO.ldRdA (T := T_GItem_47) (n := i_14.toNat) HS r_a rfl rfl (getD_eq (ltN c28) h30) ag48 rfl g) rfl (GX.l1 rfl rfl rfl (fun _ g => GO.ldRdA (T := T_GItem_47) (n := i_14.toNat) HS r_b rfl rfl (getD_eq (ltN c31) h33) ag48 rfl g) rfl (GX.l2 rfl (GO.fn rfl func14 fok14.1 fok14.2 rfl rfl (laws_eqItem.calls HS (RdIn.fld r_a (getD_eq (ltN c28) h30) (fun _ h => h.2.2.1)) (RdIn.fld r_a (getD_eq (ltN c28) h30) (fun _ h => h.2.2.2.1)) (RdIn.fld r_a (getD_eq (ltN c28) h30) (fun _ h => h.2.2.2.2.2.2.1)) (RdIn.fld r_a (getD_eq (ltN c28) h30) (fun _ h => h.2.2.2.2.2.2.2.2.2.1)) (RdIn.fld r_a (getD_eq (ltN c28) h30) (fun _ h => h.2.2.2.2.2.2.2.2.2.2.1)) (RdIn.fld r_a (getD_eq (ltN c28) h30) (fun _ h => h.2.2.2.2.2.2.2.2.2.2.2)) (RdIn.fld r_b (getD_eq (ltN c31) h33) (fun _ h => h.2.2.1)) (RdIn.fld r_b (getD_eq (ltN c31) h33) (fun _ h => h.2.2.2.1)) (RdIn.fld r_b (getD_eq (ltN c31) h33) (fun _ h => h.2.2.2.2.2.2.1)) (RdIn.fld r_b (getD_eq (ltN c31) h33) (fun _ h => h.2.2.2.2.2.2.2.2.2.1)) (RdIn.fld r_b (getD_eq (ltN c31) h33) (fun _ h => h.2.2.2.2.2.2.2.2.2.2.1)) (RdIn.fld r_b (getD_eq (ltN c31) h33) (fun _ h => h.2.2.2.2.2.2.2.2.2.2.2)) h35) (fun _ wd36 ⟨h37, HS⟩ => ⟨_, h37, (GX.fin trivial (GX.ps 1 rfl (GX.nil ?_)))⟩))))))))
       rcases ite_elim H with ⟨c38, H⟩ | ⟨c38, H⟩
       ·
        refine G.noB rfl (congrArg Bool.not c38) (G.run 4 rfl (G.weak ?_ (ih_l1 n_l1 (Nat.lt_succ_of_le (Nat.le_refl _)) (Nat.le_of_succ_le hm_l1) _ _ H HS)))
        exact ⟨rfl, rfl, rfl, trivial⟩
       refine G.yesB rfl (congrArg Bool.not (bnot_of c38)) (G.run 2 rfl ?_)
       obtain rfl := Option.some.inj H
       exact G.ret1 _ func30 rfl rfl ⟨rfl, HS⟩
      refine G.noB rfl (decide_eq_false c27) (G.run 3 rfl ?_)
      obtain rfl := Option.some.inj H
      exact G.ret1 _ func30 rfl rfl ⟨rfl, HS⟩
   refine G.weak ?_ (at_l1 K (Nat.le_refl _) _ _ H HS)
   exact ⟨rfl, rfl, rfl, trivial⟩
  refine G.yesB rfl (congrArg Bool.not (decide_eq_false c1)) (G.run 2 rfl ?_)
  obtain rfl := Option.some.inj H
  exact G.ret1 _ func30 rfl rfl ⟨rfl, HS⟩
theorem laws_eqItemSS.calls {w0 w : World} {L : List HObj} {K : Nat} {a_ b_ : List (List GItem)} {A_a : Option Addr} {c_a : Nat} {y_a : Nat → (Ty.slice 48 T_GItem_47).Lay} {A_b : Option Addr} {c_b : Nat} {y_b : Nat → (Ty.slice 48 T_GItem_47).Lay} {r1 : Bool} (HS : St w0 w (L)) (r_a : RdIn w0 L (Ty.slice 48 T_GItem_47) A_a c_a y_a a_) (r_b : RdIn w0 L (Ty.slice 48 T_GItem_47) A_b c_b y_b b_) (H : laws_eqItemSS.f K a_ b_ = some r1) :
    Calls prog 31 #[.slice A_a a_.length c_a, .slice A_b b_.length c_b] w (laws_eqItemSS.post w0 L r1) := by
  unfold laws_eqItemSS.f at H
  refine Calls.of_G func31 rfl rfl rfl ?_
  refine G.run 4 rfl (G.region (GO.move rfl rfl rfl (GO.lenS rfl rfl underlying29 rfl (GO.move rfl rfl rfl (GO.lenS rfl rfl underlying29 rfl (GO.neq rfl rfl rfl rfl (GO.nil ?_)))))))
  rcases ite_elim H with ⟨c1, H⟩ | ⟨c1, H⟩
  ·
   refine G.noB rfl (congrArg Bool.not (decide_eq_true c1)) (G.run 6 rfl ?_)
   refine G.name (fun k_l1 hk_l1 => ?_)
   have at_l1 : ∀ m_l1, m_l1 ≤ K → ∀ (i_10 : Int) (w : World), laws_eqItemSS.l1 K m_l1 a_ b_ i_10 = some r1 → St w0 w (L) → G prog 31 27 [(0, .slice A_a a_.length c_a), (1, .slice A_b b_.length c_b), (5, .int .i64 i_10)] k_l1 w (laws_eqItemSS.post w0 L r1) := by
    intro m_l1
    induction m_l1 using Nat.strongRecOn with
    | _ m_l1 ih_l1 =>
     intro hm_l1 i_10 w H HS
     cases m_l1 with
     | zero => rw [laws_eqItemSS.l1] at H; cases H
     | succ n_l1 =>
      rw [laws_eqItemSS.l1] at H
      subst hk_l1
      refine G.run 2 rfl (G.region (GO.ps 2 rfl (GO.lenS rfl rfl underlying29 rfl (GO.lss rfl rfl rfl rfl (GO.nil ?_)))))
      rcases ite_elim H with ⟨c19, H⟩ | ⟨c19, H⟩
      ·
       refine G.yesB rfl (decide_eq_true c19) (G.run 4 rfl ?_)
       obtain ⟨c20, H⟩ := ite_none H
       obtain ⟨c21, H⟩ := ite_none H
       obtain ⟨t22, h23, H⟩ := Option.bind_eq_some_iff.1 H
       refine G.lex mixed [0, 1, 2, 4, 5, 6, 3, 7, 8, 9] (by kernel_rfl) ?_
       replace HS := HS.drew
       refine GX.ps 2 rfl (GX.l0 rfl rfl (fun _ _ g => GO.ix rfl rfl rfl underlying29 sz28 (r_a _ HS).2.2.1 c20.1 c20.2 rfl g) rfl (GX.ps 2 rfl (GX.l0 rfl rfl (fun _ _ g => GO.ix rfl rfl rfl underlying29 sz28 (r_b _ HS).2.2.1 c21.1 c21.2 rfl g) rfl (GX.l1 rfl rfl rfl (fun _ g => GO.ldRd (T := (Ty.slice 48 T_GItem_47)) (n := i_10.toNat) (o := 0) HS r_a rfl rfl (getD_some (d := []) (ltN c20)) rfl rfl na28 rfl g) rfl (GX.l1 rfl rfl rfl (fun _ g => GO.ldRd (T := (Ty.slice 48 T_GItem_47)) (n := i_10.toNat) (o := 0) HS r_b rfl rfl (getD_some (d := []) (ltN c21)) rfl rfl na28 rfl g) rfl (GX.l2 rfl (GO.fn rfl func30 fok30.1 fok30.2 rfl rfl (laws_eqItemS.calls HS (RdIn.elem r_a c20.1 c20.2) (RdIn.elem r_b c21.1 c21.2) h23) (fun _ wd24 ⟨h25, HS⟩ => ⟨_, h25, (GX.fin trivial (GX.ps 1 rfl (GX.nil ?_)))⟩))))))))
       rcases ite_elim H with ⟨c26, H⟩ | ⟨c26, H⟩
       ·
        refine G.noB rfl (congrArg Bool.not c26) (G.run 4 rfl (G.weak ?_ (ih_l1 n_l1 (Nat.lt_succ_of_le (Nat.le_refl _)) (Nat.le_of_succ_le hm_l1) _ _ H HS)))
        exact ⟨rfl, rfl, rfl, trivial⟩
       refine G.yesB rfl (congrArg Bool.not (bnot_of c26)) (G.run 2 rfl ?_)
       obtain rfl := Option.some.inj H
       exact G.ret1 _ func31 rfl rfl ⟨rfl, HS⟩
      refine G.noB rfl (decide_eq_false c19) (G.run 3 rfl ?_)
      obtain rfl := Option.some.inj H
      exact G.ret1 _ func31 rfl rfl ⟨rfl, HS⟩
   refine G.weak ?_ (at_l1 K (Nat.le_refl _) _ _ H HS)
   exact ⟨rfl, rfl, rfl, trivial⟩
  refine G.yesB rfl (congrArg Bool.not (decide_eq_false c1)) (G.run 2 rfl ?_)
  obtain rfl := Option.some.inj H
  exact G.ret1 _ func31 rfl rfl ⟨rfl, HS⟩
theorem laws_eqBench.calls {w0 w : World} {L : List HObj} {K : Nat} {a_Items : List GItem} {a_Undos a_Redos : List (List GItem)} {b_Items : List GItem} {b_Undos b_Redos : List (List GItem)} {A_a : Option Addr} {c_a : Nat} {y_a : Nat → T_GItem_47.Lay} {A_b : Option Addr} {c_b : Nat} {y_b : Nat → (Ty.slice 48 T_GItem_47).Lay} {A_c : Option Addr} {c_c : Nat} {y_c : Nat → (Ty.slice 48 T_GItem_47).Lay} {A_d : Option Addr} {c_d : Nat} {y_d : Nat → T_GItem_47.Lay} {A_e : Option Addr} {c_e : Nat} {y_e : Nat → (Ty.slice 48 T_GItem_47).Lay} {A_f : Option Addr} {c_f : Nat} {y_f : Nat → (Ty.slice 48 T_GItem_47).Lay} {r1 : Bool} (HS : St w0 w (L)) (r_a : RdIn w0 L T_GItem_47 A_a c_a y_a a_Items) (r_b : RdIn w0 L (Ty.slice 48 T_GItem_47) A_b c_b y_b a_Undos) (r_c : RdIn w0 L (Ty.slice 48 T_GItem_47) A_c c_c y_c a_Redos) (r_d : RdIn w0 L T_GItem_47 A_d c_d y_d b_Items) (r_e : RdIn w0 L (Ty.slice 48 T_GItem_47) A_e c_e y_e b_Undos) (r_f : RdIn w0 L (Ty.slice 48 T_GItem_47) A_f c_f y_f b_Redos) (H : laws_eqBench.f K a_Items a_Undos a_Redos b_Items b_Undos b_Redos = some r1) :
    Calls prog 11 #[.agg [.slice A_a a_Items.length c_a, .slice A_b a_Undos.length c_b, .slice A_c a_Redos.length c_c].toArray, .agg [.slice A_d b_Items.length c_d, .slice A_e b_Undos.length c_e, .slice A_f b_Redos.length c_f].toArray] w (laws_eqBench.post w0 L r1) := by
  unfold laws_eqBench.f at H
  refine Calls.of_G func11 rfl rfl rfl ?_
  refine G.seq (G.region (GO.box (cs := [.slice A_a a_Items.length c_a, .slice A_b a_Undos.length c_b, .slice A_c a_Redos.length c_c]) HS rfl rfl rfl rfl fun b1 wd2 HS => GO.box (cs := [.slice A_d b_Items.length c_d, .slice A_e b_Undos.length c_e, .slice A_f b_Redos.length c_f]) HS rfl rfl rfl rfl fun b3 wd4 HS => GO.assign rfl rfl rfl (GO.nil (G.run 2 rfl ?_))))
  obtain ⟨t5, h6, H⟩ := Option.bind_eq_some_iff.1 H
  refine G.region (GO.fld (⟨b1, 0, none⟩) rfl rfl fl31_0 rfl rfl (GO.ldBox (j := 1) HS rfl rfl rfl rfl na28 rfl (GO.fld (⟨b3, 0, none⟩) rfl rfl fl31_0 rfl rfl (GO.ldBox (j := 0) HS rfl rfl rfl rfl na28 rfl (GO.fn rfl func30 fok30.1 fok30.2 rfl rfl (laws_eqItemS.calls HS (RdIn.drop 2 r_a) (RdIn.drop 2 r_d) h6) (fun _ wd7 ⟨h8, HS⟩ => ⟨_, h8, (GO.not rfl rfl rfl (GO.nil ?_))⟩))))))
  rcases ite_elim H with ⟨c9, H⟩ | ⟨c9, H⟩
  ·
   refine G.noB rfl (congrArg Bool.not c9) (G.run 3 rfl ?_)
   obtain ⟨t10, h11, H⟩ := Option.bind_eq_some_iff.1 H
   refine G.region (GO.fld (⟨b1, 1, none⟩) rfl rfl fl31_1 rfl rfl (GO.ldBox (j := 1) HS rfl rfl rfl rfl na29 rfl (GO.fld (⟨b3, 1, none⟩) rfl rfl fl31_1 rfl rfl (GO.ldBox (j := 0) HS rfl rfl rfl rfl na29 rfl (GO.fn rfl func31 fok31.1 fok31.2 rfl rfl (laws_eqItemSS.calls HS (RdIn.drop 2 r_b) (RdIn.drop 2 r_e) h11) (fun _ wd12 ⟨h13, HS⟩ => ⟨_, h13, (GO.not rfl rfl rfl (GO.nil ?_))⟩))))))
   rcases ite_elim H with ⟨c14, H⟩ | ⟨c14, H⟩
   ·
    refine G.noB rfl (congrArg Bool.not c14) (G.run 3 rfl ?_)
    obtain ⟨t15, h16, H⟩ := Option.bind_eq_some_iff.1 H
    refine G.region (GO.fld (⟨b1, 2, none⟩) rfl rfl fl31_2 rfl rfl (GO.ldBox (j := 1) HS rfl rfl rfl rfl na29 rfl (GO.fld (⟨b3, 2, none⟩) rfl rfl fl31_2 rfl rfl (GO.ldBox (j := 0) HS rfl rfl rfl rfl na29 rfl (GO.fn rfl func31 fok31.1 fok31.2 rfl rfl (laws_eqItemSS.calls HS (RdIn.drop 2 r_c) (RdIn.drop 2 r_f) h16) (fun _ wd17 ⟨h18, HS⟩ => ⟨_, h18, (GO.not rfl rfl rfl (GO.nil ?_))⟩))))))
    rcases ite_elim H with ⟨c19, H⟩ | ⟨c19, H⟩
    ·
     refine G.noB rfl (congrArg Bool.not c19) (G.run 3 rfl ?_)
     obtain rfl := Option.some.inj H
     exact G.ret1 _ func11 rfl rfl ⟨rfl, (HS.pk 2 [] rfl)⟩
    refine G.yesB rfl (congrArg Bool.not (bnot_of c19)) (G.run 2 rfl ?_)
    obtain rfl := Option.some.inj H
    exact G.ret1 _ func11 rfl rfl ⟨rfl, (HS.pk 2 [] rfl)⟩
   refine G.yesB rfl (congrArg Bool.not (bnot_of c14)) (G.run 2 rfl ?_)
   obtain rfl := Option.some.inj H
   exact G.ret1 _ func11 rfl rfl ⟨rfl, (HS.pk 2 [] rfl)⟩
  refine G.yesB rfl (congrArg Bool.not (bnot_of c9)) (G.run 2 rfl ?_)
  obtain rfl := Option.some.inj H
  exact G.ret1 _ func11 rfl rfl ⟨rfl, (HS.pk 2 [] rfl)⟩
theorem laws_FnExactValidBench.calls {w0 w : World} {L : List HObj} {K : Nat} {aB_Items : List GItem} {aB_Undos aB_Redos : List (List GItem)} {A_a : Option Addr} {c_a : Nat} {y_a : Nat → T_GItem.Lay} {A_b : Option Addr} {c_b : Nat} {y_b : Nat → (Ty.slice 95 T_GItem).Lay} {A_c : Option Addr} {c_c : Nat} {y_c : Nat → (Ty.slice 95 T_GItem).Lay} {r1 : Bool} (HS : St w0 w (L)) (r_a : RdIn w0 L T_GItem A_a c_a y_a aB_Items) (r_b : RdIn w0 L (Ty.slice 95 T_GItem) A_b c_b y_b aB_Undos) (r_c : RdIn w0 L (Ty.slice 95 T_GItem) A_c c_c y_c aB_Redos) (H : laws_FnExactValidBench.f K aB_Items aB_Undos aB_Redos = some r1) :
    Calls prog 3 #[.agg [.slice A_a aB_Items.length c_a, .slice A_b aB_Undos.length c_b, .slice A_c aB_Redos.length c_c].toArray] w (laws_FnExactValidBench.post w0 L r1) := by
  unfold laws_FnExactValidBench.f at H
  refine Calls.of_G func3 rfl rfl rfl ?_
  refine G.seq (G.region (GO.box (cs := [.slice A_a aB_Items.length c_a, .slice A_b aB_Undos.length c_b, .slice A_c aB_Redos.length c_c]) HS rfl rfl rfl rfl fun b1 wd2 HS => GO.assign rfl rfl rfl (GO.nil (G.run 3 rfl ?_))))
  obtain ⟨t3, h4, H⟩ := Option.bind_eq_some_iff.1 H
  refine G.region (GO.ldBoxA (j := 0) ([.slice A_a aB_Items.length c_a, .slice A_b aB_Undos.length c_b, .slice A_c aB_Redos.length c_c]) HS rfl rfl rfl rfl ag25 rfl (GO.move rfl rfl rfl (GO.fn rfl func7 fok7.1 fok7.2 rfl rfl (laws_szBench.calls HS (RdIn.drop 1 r_a) (RdIn.drop 1 r_b) (RdIn.drop 1 r_c) h4) (fun _ wd5 ⟨h6, HS⟩ => ⟨_, h6, (GO.assign rfl rfl rfl (GO.nil (G.run 3 rfl ?_)))⟩))))
  rcases ite_elim H with ⟨c7, H⟩ | ⟨c7, H⟩
  ·
   refine G.yesB rfl (decide_eq_true c7) (G.run 2 rfl ?_)
   obtain rfl := Option.some.inj H
   exact G.ret1 _ func3 rfl rfl ⟨rfl, (HS.pk 1 [] rfl)⟩
  refine G.noB rfl (decide_eq_false c7) (G.run 2 rfl ?_)
  obtain ⟨t8, t9, t10, h11, H⟩ := bind3_elim H
  obtain ⟨t23, h24, H⟩ := Option.bind_eq_some_iff.1 H
  refine G.region (GO.ldBoxA (j := 0) ([.slice A_a aB_Items.length c_a, .slice A_b aB_Undos.length c_b, .slice A_c aB_Redos.length c_c]) HS rfl rfl rfl rfl ag25 rfl (GO.fn rfl func9 fok9.1 fok9.2 rfl rfl (laws_toBench.calls HS (RdIn.drop 1 r_a) (RdIn.drop 1 r_b) (RdIn.drop 1 r_c) h11) (fun _ wd21 ⟨A12, c13, y14, A15, c16, y17, A18, c19, y20, h22, HS⟩ => ⟨_, h22, (GO.fn rfl func8 fok8.1 fok8.2 rfl rfl (spec_ValidBench.calls HS (RdIn.own (j := 0) rfl) (RdIn.own (j := 1) rfl) (RdIn.own (j := 2) rfl) h24) (fun _ wd25 ⟨h26, HS⟩ => ⟨_, h26, (GO.assign rfl rfl rfl (GO.nil (G.seq ?_)))⟩))⟩)))
  obtain ⟨t27, t28, t29, h30, H⟩ := bind3_elim H
  refine G.region (GO.ldBoxA (j := 3) ([.slice A_a aB_Items.length c_a, .slice A_b aB_Undos.length c_b, .slice A_c aB_Redos.length c_c]) HS rfl rfl rfl rfl ag25 rfl (GO.fn rfl func9 fok9.1 fok9.2 rfl rfl (laws_toBench.calls HS (RdIn.drop 4 r_a) (RdIn.drop 4 r_b) (RdIn.drop 4 r_c) h30) (fun _ wd40 ⟨A31, c32, y33, A34, c35, y36, A37, c38, y39, h41, HS⟩ => ⟨_, h41, (GO.alloc HS rfl zr31 rfl rfl fun b42 wd43 HS => GO.stBox (j := 0) (vs := [.slice A31 t27.length c32, .slice A34 t28.length c35, .slice A37 t29.length c38]) ([.slice A31 t27.length c32, .slice A34 t28.length c35, .slice A37 t29.length c38]) HS rfl rfl rfl rfl rfl (htA ag31) rfl rfl rfl fun wd44 HS => GO.nil (G.seq ?_))⟩)))
  obtain ⟨t45, h46, H⟩ := Option.bind_eq_some_iff.1 H
  refine G.region (GO.ldBoxA (j := 0) ([.slice A31 t27.length c32, .slice A34 t28.length c35, .slice A37 t29.length c38]) HS rfl rfl rfl rfl ag31 rfl (GO.fn rfl func10 fok10.1 fok10.2 rfl rfl (impl_ValidBench.calls HS (RdIn.own (j := 1) rfl) (RdIn.own (j := 2) rfl) (RdIn.own (j := 3) rfl) h46) (fun _ wd47 ⟨h48, HS⟩ => ⟨_, h48, (GO.assign rfl rfl rfl (GO.nil (G.run 2 rfl (G.region (GO.ps 2 rfl (GO.neqB rfl rfl rfl underlying4 rfl (GO.nil ?_)))))))⟩)))
  rcases ite_elim H with ⟨c49, H⟩ | ⟨c49, H⟩
  ·
   refine G.noB rfl (congrArg Bool.not c49) (G.run 3 rfl ?_)
   obtain ⟨t50, t51, t52, h53, H⟩ := bind3_elim H
   obtain ⟨t65, h66, H⟩ := Option.bind_eq_some_iff.1 H
   refine G.lexS mixed (fun w => St w0 w (Box b42 31 [.slice A31 t27.length c32, .slice A34 t28.length c35, .slice A37 t29.length c38] :: Box b1 25 [.slice A_a aB_Items.length c_a, .slice A_b aB_Undos.length c_b, .slice A_c aB_Redos.length c_c] :: L)) [0, 1] [0, 1, 2, 3, 4] 5 (by kernel_rfl) (by kernel_rfl) (HS.drew.pk 8 [0, 7] rfl) ?_
   replace HS := HS.drew
   refine GX.ls rfl rfl rfl (HS.pk 8 [0, 7] rfl) (fun _ HS _ g => GO.ldBoxA (j := 0) ([.slice A31 t27.length c32, .slice A34 t28.length c35, .slice A37 t29.length c38]) HS rfl rfl rfl rfl ag31 rfl g) rfl (GX.ls rfl rfl rfl (HS.pk 8 [0, 7] rfl) (fun _ HS _ g => GO.ldBoxA (j := 1) ([.slice A_a aB_Items.length c_a, .slice A_b aB_Undos.length c_b, .slice A_c aB_Redos.length c_c]) HS rfl rfl rfl rfl ag25 rfl g) rfl (GX.l2 rfl (GO.fn rfl func9 fok9.1 fok9.2 rfl rfl (laws_toBench.calls HS (RdIn.drop 8 r_a) (RdIn.drop 8 r_b) (RdIn.drop 8 r_c) h53) (fun _ wd63 ⟨A54, c55, y56, A57, c58, y59, A60, c61, y62, h64, HS⟩ => ⟨_, h64, (GX.fin (HS.pk 11 [3, 10] rfl) (GX.l2 rfl (GO.fn rfl func11 fok11.1 fok11.2 rfl rfl (laws_eqBench.calls HS (RdIn.own (j := 4) rfl) (RdIn.own (j := 5) rfl) (RdIn.own (j := 6) rfl) (RdIn.own (j := 0) rfl) (RdIn.own (j := 1) rfl) (RdIn.own (j := 2) rfl) h66) (fun _ wd67 ⟨h68, HS⟩ => ⟨_, h68, (GX.fin (HS.pk 11 [3, 10] rfl) (GX.ps 1 rfl (GX.nil ?_)))⟩))))⟩))))
   rcases ite_elim H with ⟨c69, H⟩ | ⟨c69, H⟩
   ·
    refine G.noB rfl (congrArg Bool.not c69) (G.run 3 rfl ?_)
    obtain rfl := Option.some.inj H
    exact G.ret1 _ func3 rfl rfl ⟨rfl, (HS.pk 11 [] rfl)⟩
   refine G.yesB rfl (congrArg Bool.not (bnot_of c69)) (G.run 2 rfl ?_)
   obtain rfl := Option.some.inj H
   exact G.ret1 _ func3 rfl rfl ⟨rfl, (HS.pk 11 [] rfl)⟩
  refine G.yesB rfl (congrArg Bool.not (bnot_of c49)) (G.run 2 rfl ?_)
  obtain rfl := Option.some.inj H
  exact G.ret1 _ func3 rfl rfl ⟨rfl, (HS.pk 8 [] rfl)⟩
end Go.Proofs.YthjomdggdaocgaaGreatDoor
