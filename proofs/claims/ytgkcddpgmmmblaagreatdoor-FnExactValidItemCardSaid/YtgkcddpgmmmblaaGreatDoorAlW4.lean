/-
  The walks through the functions: a call comes to what its list function says.
-/
import Derived.Test.YtgkcddpgmmmblaaGreatDoorAlF
import Derived.Test.YtgkcddpgmmmblaaGreatDoorAlW1
import Derived.Test.YtgkcddpgmmmblaaGreatDoorAlW2
import Derived.Test.YtgkcddpgmmmblaaGreatDoorAlW3
set_option linter.unusedVariables false
set_option linter.unusedSimpArgs false
namespace Go.Proofs.YtgkcddpgmmmblaaGreatDoor
open Go.RowKit
open Tryz
set_option maxRecDepth 20000
set_option maxHeartbeats 40000000
theorem laws_eqCertificate.calls {w0 w : World} {L : List HObj} {K : Nat} {a_Name a_Trait : Int} {a_Moves : List GMove} {a_Tets a_Perms : List Int} {b_Name b_Trait : Int} {b_Moves : List GMove} {b_Tets b_Perms : List Int} {A_a : Option Addr} {c_a : Nat} {A_b : Option Addr} {c_b : Nat} {A_c : Option Addr} {c_c : Nat} {A_d : Option Addr} {c_d : Nat} {A_e : Option Addr} {c_e : Nat} {A_f : Option Addr} {c_f : Nat} {r1 : Bool} (HS : St w0 w (L)) (r_a : RdIn w0 L T_GMove A_a c_a (fun _ => ()) a_Moves) (r_b : RdIn w0 L (TInt .i64) A_b c_b (fun _ => ()) a_Tets) (r_c : RdIn w0 L (TInt .i64) A_c c_c (fun _ => ()) a_Perms) (r_d : RdIn w0 L T_GMove A_d c_d (fun _ => ()) b_Moves) (r_e : RdIn w0 L (TInt .i64) A_e c_e (fun _ => ()) b_Tets) (r_f : RdIn w0 L (TInt .i64) A_f c_f (fun _ => ()) b_Perms) (H : laws_eqCertificate.f K a_Name a_Trait a_Moves a_Tets a_Perms b_Name b_Trait b_Moves b_Tets b_Perms = some r1) :
    Calls prog 72 #[.agg [.int .i64 a_Name, .int .i64 a_Trait, .slice A_a a_Moves.length c_a, .slice A_b a_Tets.length c_b, .slice A_c a_Perms.length c_c].toArray, .agg [.int .i64 b_Name, .int .i64 b_Trait, .slice A_d b_Moves.length c_d, .slice A_e b_Tets.length c_e, .slice A_f b_Perms.length c_f].toArray] w (laws_eqCertificate.post w0 L r1) := by
  unfold laws_eqCertificate.f at H
  refine Calls.of_G func72 rfl rfl rfl ?_
  refine G.seq (G.region (GO.box (cs := [.int .i64 a_Name, .int .i64 a_Trait, .slice A_a a_Moves.length c_a, .slice A_b a_Tets.length c_b, .slice A_c a_Perms.length c_c]) HS rfl rfl rfl rfl fun b1 wd2 HS => GO.box (cs := [.int .i64 b_Name, .int .i64 b_Trait, .slice A_d b_Moves.length c_d, .slice A_e b_Tets.length c_e, .slice A_f b_Perms.length c_f]) HS rfl rfl rfl rfl fun b3 wd4 HS => GO.assign rfl rfl rfl (GO.nil (G.run 2 rfl (G.region (GO.fld (⟨b1, 0, none⟩) rfl rfl fl47_0 rfl rfl (GO.ldBox (j := 1) HS rfl rfl rfl rfl na2 rfl (GO.fld (⟨b3, 0, none⟩) rfl rfl fl47_0 rfl rfl (GO.ldBox (j := 0) HS rfl rfl rfl rfl na2 rfl (GO.neq rfl rfl rfl rfl (GO.nil ?_)))))))))))
  rcases ite_elim H with ⟨c5, H⟩ | ⟨c5, H⟩
  ·
   refine G.noB rfl (congrArg Bool.not (decide_eq_true c5)) (G.run 3 rfl (G.region (GO.fld (⟨b1, 1, none⟩) rfl rfl fl47_1 rfl rfl (GO.ldBox (j := 1) HS rfl rfl rfl rfl na2 rfl (GO.fld (⟨b3, 1, none⟩) rfl rfl fl47_1 rfl rfl (GO.ldBox (j := 0) HS rfl rfl rfl rfl na2 rfl (GO.neq rfl rfl rfl rfl (GO.nil ?_))))))))
   rcases ite_elim H with ⟨c6, H⟩ | ⟨c6, H⟩
   ·
    refine G.noB rfl (congrArg Bool.not (decide_eq_true c6)) (G.run 3 rfl ?_)
    obtain ⟨t7, h8, H⟩ := Option.bind_eq_some_iff.1 H
    refine G.region (GO.fld (⟨b1, 2, none⟩) rfl rfl fl47_2 rfl rfl (GO.ldBox (j := 1) HS rfl rfl rfl rfl na45 rfl (GO.fld (⟨b3, 2, none⟩) rfl rfl fl47_2 rfl rfl (GO.ldBox (j := 0) HS rfl rfl rfl rfl na45 rfl (GO.fn rfl func155 fok155.1 fok155.2 rfl rfl (laws_eqMoveS.calls HS (RdIn.drop 2 r_a) (RdIn.drop 2 r_d) h8) (fun _ wd9 ⟨h10, HS⟩ => ⟨_, h10, (GO.not rfl rfl rfl (GO.nil ?_))⟩))))))
    rcases ite_elim H with ⟨c11, H⟩ | ⟨c11, H⟩
    ·
     refine G.noB rfl (congrArg Bool.not c11) (G.run 3 rfl ?_)
     obtain ⟨t12, h13, H⟩ := Option.bind_eq_some_iff.1 H
     refine G.region (GO.fld (⟨b1, 3, none⟩) rfl rfl fl47_3 rfl rfl (GO.ldBox (j := 1) HS rfl rfl rfl rfl na28 rfl (GO.fld (⟨b3, 3, none⟩) rfl rfl fl47_3 rfl rfl (GO.ldBox (j := 0) HS rfl rfl rfl rfl na28 rfl (GO.fn rfl func154 fok154.1 fok154.2 rfl rfl (laws_eqInt64S.calls HS (RdIn.drop 2 r_b) (RdIn.drop 2 r_e) h13) (fun _ wd14 ⟨h15, HS⟩ => ⟨_, h15, (GO.not rfl rfl rfl (GO.nil ?_))⟩))))))
     rcases ite_elim H with ⟨c16, H⟩ | ⟨c16, H⟩
     ·
      refine G.noB rfl (congrArg Bool.not c16) (G.run 3 rfl ?_)
      obtain ⟨t17, h18, H⟩ := Option.bind_eq_some_iff.1 H
      refine G.region (GO.fld (⟨b1, 4, none⟩) rfl rfl fl47_4 rfl rfl (GO.ldBox (j := 1) HS rfl rfl rfl rfl na28 rfl (GO.fld (⟨b3, 4, none⟩) rfl rfl fl47_4 rfl rfl (GO.ldBox (j := 0) HS rfl rfl rfl rfl na28 rfl (GO.fn rfl func154 fok154.1 fok154.2 rfl rfl (laws_eqInt64S.calls HS (RdIn.drop 2 r_c) (RdIn.drop 2 r_f) h18) (fun _ wd19 ⟨h20, HS⟩ => ⟨_, h20, (GO.not rfl rfl rfl (GO.nil ?_))⟩))))))
      rcases ite_elim H with ⟨c21, H⟩ | ⟨c21, H⟩
      ·
       refine G.noB rfl (congrArg Bool.not c21) (G.run 3 rfl ?_)
       obtain rfl := Option.some.inj H
       exact G.ret1 _ func72 rfl rfl ⟨rfl, (HS.pk 2 [] rfl)⟩
      refine G.yesB rfl (congrArg Bool.not (bnot_of c21)) (G.run 2 rfl ?_)
      obtain rfl := Option.some.inj H
      exact G.ret1 _ func72 rfl rfl ⟨rfl, (HS.pk 2 [] rfl)⟩
     refine G.yesB rfl (congrArg Bool.not (bnot_of c16)) (G.run 2 rfl ?_)
     obtain rfl := Option.some.inj H
     exact G.ret1 _ func72 rfl rfl ⟨rfl, (HS.pk 2 [] rfl)⟩
    refine G.yesB rfl (congrArg Bool.not (bnot_of c11)) (G.run 2 rfl ?_)
    obtain rfl := Option.some.inj H
    exact G.ret1 _ func72 rfl rfl ⟨rfl, (HS.pk 2 [] rfl)⟩
   refine G.yesB rfl (congrArg Bool.not (decide_eq_false c6)) (G.run 2 rfl ?_)
   obtain rfl := Option.some.inj H
   exact G.ret1 _ func72 rfl rfl ⟨rfl, (HS.pk 2 [] rfl)⟩
  refine G.yesB rfl (congrArg Bool.not (decide_eq_false c5)) (G.run 2 rfl ?_)
  obtain rfl := Option.some.inj H
  exact G.ret1 _ func72 rfl rfl ⟨rfl, (HS.pk 2 [] rfl)⟩
theorem laws_eqItem.calls {w0 w : World} {L : List HObj} {K : Nat} {a_Name : ByteArray} {a_Kind : Int} {a_Triangulation_Tets : List (List GFace)} {a_Diagram_Crossings : List GCrossing} {a_Diagram_Circles a_Braid_Strands : Int} {a_Braid_Word : List Int} {a_Certificate_Name a_Certificate_Trait : Int} {a_Certificate_Moves : List GMove} {a_Certificate_Tets a_Certificate_Perms : List Int} {b_Name : ByteArray} {b_Kind : Int} {b_Triangulation_Tets : List (List GFace)} {b_Diagram_Crossings : List GCrossing} {b_Diagram_Circles b_Braid_Strands : Int} {b_Braid_Word : List Int} {b_Certificate_Name b_Certificate_Trait : Int} {b_Certificate_Moves : List GMove} {b_Certificate_Tets b_Certificate_Perms : List Int} {A_a : Option Addr} {c_a : Nat} {y_a : Nat → (Ty.slice 166 T_GFace).Lay} {A_b : Option Addr} {c_b : Nat} {A_c : Option Addr} {c_c : Nat} {A_d : Option Addr} {c_d : Nat} {A_e : Option Addr} {c_e : Nat} {A_f : Option Addr} {c_f : Nat} {A_g : Option Addr} {c_g : Nat} {y_g : Nat → (Ty.slice 166 T_GFace).Lay} {A_h : Option Addr} {c_h : Nat} {A_i : Option Addr} {c_i : Nat} {A_j : Option Addr} {c_j : Nat} {A_k : Option Addr} {c_k : Nat} {A_l : Option Addr} {c_l : Nat} {r1 : Bool} (HS : St w0 w (L)) (r_a : RdIn w0 L (Ty.slice 166 T_GFace) A_a c_a y_a a_Triangulation_Tets) (r_b : RdIn w0 L T_GCrossing A_b c_b (fun _ => ()) a_Diagram_Crossings) (r_c : RdIn w0 L (TInt .i64) A_c c_c (fun _ => ()) a_Braid_Word) (r_d : RdIn w0 L T_GMove A_d c_d (fun _ => ()) a_Certificate_Moves) (r_e : RdIn w0 L (TInt .i64) A_e c_e (fun _ => ()) a_Certificate_Tets) (r_f : RdIn w0 L (TInt .i64) A_f c_f (fun _ => ()) a_Certificate_Perms) (r_g : RdIn w0 L (Ty.slice 166 T_GFace) A_g c_g y_g b_Triangulation_Tets) (r_h : RdIn w0 L T_GCrossing A_h c_h (fun _ => ()) b_Diagram_Crossings) (r_i : RdIn w0 L (TInt .i64) A_i c_i (fun _ => ()) b_Braid_Word) (r_j : RdIn w0 L T_GMove A_j c_j (fun _ => ()) b_Certificate_Moves) (r_k : RdIn w0 L (TInt .i64) A_k c_k (fun _ => ()) b_Certificate_Tets) (r_l : RdIn w0 L (TInt .i64) A_l c_l (fun _ => ()) b_Certificate_Perms) (H : laws_eqItem.f K a_Name a_Kind a_Triangulation_Tets a_Diagram_Crossings a_Diagram_Circles a_Braid_Strands a_Braid_Word a_Certificate_Name a_Certificate_Trait a_Certificate_Moves a_Certificate_Tets a_Certificate_Perms b_Name b_Kind b_Triangulation_Tets b_Diagram_Crossings b_Diagram_Circles b_Braid_Strands b_Braid_Word b_Certificate_Name b_Certificate_Trait b_Certificate_Moves b_Certificate_Tets b_Certificate_Perms = some r1) :
    Calls prog 19 #[.agg [.string a_Name, .int .i64 a_Kind, .slice A_a a_Triangulation_Tets.length c_a, .slice A_b a_Diagram_Crossings.length c_b, .int .i64 a_Diagram_Circles, .int .i64 a_Braid_Strands, .slice A_c a_Braid_Word.length c_c, .int .i64 a_Certificate_Name, .int .i64 a_Certificate_Trait, .slice A_d a_Certificate_Moves.length c_d, .slice A_e a_Certificate_Tets.length c_e, .slice A_f a_Certificate_Perms.length c_f].toArray, .agg [.string b_Name, .int .i64 b_Kind, .slice A_g b_Triangulation_Tets.length c_g, .slice A_h b_Diagram_Crossings.length c_h, .int .i64 b_Diagram_Circles, .int .i64 b_Braid_Strands, .slice A_i b_Braid_Word.length c_i, .int .i64 b_Certificate_Name, .int .i64 b_Certificate_Trait, .slice A_j b_Certificate_Moves.length c_j, .slice A_k b_Certificate_Tets.length c_k, .slice A_l b_Certificate_Perms.length c_l].toArray] w (laws_eqItem.post w0 L r1) := by
  unfold laws_eqItem.f at H
  refine Calls.of_G func19 rfl rfl rfl ?_
  refine G.seq (G.region (GO.box (cs := [.string a_Name, .int .i64 a_Kind, .slice A_a a_Triangulation_Tets.length c_a, .slice A_b a_Diagram_Crossings.length c_b, .int .i64 a_Diagram_Circles, .int .i64 a_Braid_Strands, .slice A_c a_Braid_Word.length c_c, .int .i64 a_Certificate_Name, .int .i64 a_Certificate_Trait, .slice A_d a_Certificate_Moves.length c_d, .slice A_e a_Certificate_Tets.length c_e, .slice A_f a_Certificate_Perms.length c_f]) HS rfl rfl rfl rfl fun b1 wd2 HS => GO.box (cs := [.string b_Name, .int .i64 b_Kind, .slice A_g b_Triangulation_Tets.length c_g, .slice A_h b_Diagram_Crossings.length c_h, .int .i64 b_Diagram_Circles, .int .i64 b_Braid_Strands, .slice A_i b_Braid_Word.length c_i, .int .i64 b_Certificate_Name, .int .i64 b_Certificate_Trait, .slice A_j b_Certificate_Moves.length c_j, .slice A_k b_Certificate_Tets.length c_k, .slice A_l b_Certificate_Perms.length c_l]) HS rfl rfl rfl rfl fun b3 wd4 HS => GO.assign rfl rfl rfl (GO.nil (G.run 2 rfl (G.region (GO.fld (⟨b1, 0, none⟩) rfl rfl fl49_0 rfl rfl (GO.ldBox (j := 1) HS rfl rfl rfl rfl na9 rfl (GO.fld (⟨b3, 0, none⟩) rfl rfl fl49_0 rfl rfl (GO.ldBox (j := 0) HS rfl rfl rfl rfl na9 rfl (GO.neqS rfl rfl rfl rfl (GO.nil ?_)))))))))))
  rcases ite_elim H with ⟨c5, H⟩ | ⟨c5, H⟩
  ·
   refine G.noB rfl (congrArg Bool.not c5) (G.run 3 rfl (G.region (GO.fld (⟨b1, 1, none⟩) rfl rfl fl49_1 rfl rfl (GO.ldBox (j := 1) HS rfl rfl rfl rfl na2 rfl (GO.fld (⟨b3, 1, none⟩) rfl rfl fl49_1 rfl rfl (GO.ldBox (j := 0) HS rfl rfl rfl rfl na2 rfl (GO.neq rfl rfl rfl rfl (GO.nil ?_))))))))
   rcases ite_elim H with ⟨c6, H⟩ | ⟨c6, H⟩
   ·
    refine G.noB rfl (congrArg Bool.not (decide_eq_true c6)) (G.run 3 rfl ?_)
    obtain ⟨t7, h8, H⟩ := Option.bind_eq_some_iff.1 H
    refine G.region (GO.fld (⟨b1, 2, none⟩) rfl rfl fl49_2 rfl rfl (GO.ldBoxA (j := 1) ([.slice A_a a_Triangulation_Tets.length c_a]) HS rfl rfl rfl rfl ag40 rfl (GO.fld (⟨b3, 2, none⟩) rfl rfl fl49_2 rfl rfl (GO.ldBoxA (j := 0) ([.slice A_g b_Triangulation_Tets.length c_g]) HS rfl rfl rfl rfl ag40 rfl (GO.fn rfl func69 fok69.1 fok69.2 rfl rfl (laws_eqTriangulation.calls HS (RdIn.drop 2 r_a) (RdIn.drop 2 r_g) h8) (fun _ wd9 ⟨h10, HS⟩ => ⟨_, h10, (GO.not rfl rfl rfl (GO.nil ?_))⟩))))))
    rcases ite_elim H with ⟨c11, H⟩ | ⟨c11, H⟩
    ·
     refine G.noB rfl (congrArg Bool.not c11) (G.run 3 rfl ?_)
     obtain ⟨t12, h13, H⟩ := Option.bind_eq_some_iff.1 H
     refine G.region (GO.fld (⟨b1, 3, none⟩) rfl rfl fl49_3 rfl rfl (GO.ldBoxA (j := 1) ([.slice A_b a_Diagram_Crossings.length c_b, .int .i64 a_Diagram_Circles]) HS rfl rfl rfl rfl ag43 rfl (GO.fld (⟨b3, 3, none⟩) rfl rfl fl49_3 rfl rfl (GO.ldBoxA (j := 0) ([.slice A_h b_Diagram_Crossings.length c_h, .int .i64 b_Diagram_Circles]) HS rfl rfl rfl rfl ag43 rfl (GO.fn rfl func70 fok70.1 fok70.2 rfl rfl (laws_eqDiagram.calls HS (RdIn.drop 2 r_b) (RdIn.drop 2 r_h) h13) (fun _ wd14 ⟨h15, HS⟩ => ⟨_, h15, (GO.not rfl rfl rfl (GO.nil ?_))⟩))))))
     rcases ite_elim H with ⟨c16, H⟩ | ⟨c16, H⟩
     ·
      refine G.noB rfl (congrArg Bool.not c16) (G.run 3 rfl ?_)
      obtain ⟨t17, h18, H⟩ := Option.bind_eq_some_iff.1 H
      refine G.region (GO.fld (⟨b1, 5, none⟩) rfl rfl fl49_4 rfl rfl (GO.ldBoxA (j := 1) ([.int .i64 a_Braid_Strands, .slice A_c a_Braid_Word.length c_c]) HS rfl rfl rfl rfl ag44 rfl (GO.fld (⟨b3, 5, none⟩) rfl rfl fl49_4 rfl rfl (GO.ldBoxA (j := 0) ([.int .i64 b_Braid_Strands, .slice A_i b_Braid_Word.length c_i]) HS rfl rfl rfl rfl ag44 rfl (GO.fn rfl func71 fok71.1 fok71.2 rfl rfl (laws_eqBraid.calls HS (RdIn.drop 2 r_c) (RdIn.drop 2 r_i) h18) (fun _ wd19 ⟨h20, HS⟩ => ⟨_, h20, (GO.not rfl rfl rfl (GO.nil ?_))⟩))))))
      rcases ite_elim H with ⟨c21, H⟩ | ⟨c21, H⟩
      ·
       refine G.noB rfl (congrArg Bool.not c21) (G.run 3 rfl ?_)
       obtain ⟨t22, h23, H⟩ := Option.bind_eq_some_iff.1 H
       refine G.region (GO.fld (⟨b1, 7, none⟩) rfl rfl fl49_5 rfl rfl (GO.ldBoxA (j := 1) ([.int .i64 a_Certificate_Name, .int .i64 a_Certificate_Trait, .slice A_d a_Certificate_Moves.length c_d, .slice A_e a_Certificate_Tets.length c_e, .slice A_f a_Certificate_Perms.length c_f]) HS rfl rfl rfl rfl ag47 rfl (GO.fld (⟨b3, 7, none⟩) rfl rfl fl49_5 rfl rfl (GO.ldBoxA (j := 0) ([.int .i64 b_Certificate_Name, .int .i64 b_Certificate_Trait, .slice A_j b_Certificate_Moves.length c_j, .slice A_k b_Certificate_Tets.length c_k, .slice A_l b_Certificate_Perms.length c_l]) HS rfl rfl rfl rfl ag47 rfl (GO.fn rfl func72 fok72.1 fok72.2 rfl rfl (laws_eqCertificate.calls HS (RdIn.drop 2 r_d) (RdIn.drop 2 r_e) (RdIn.drop 2 r_f) (RdIn.drop 2 r_j) (RdIn.drop 2 r_k) (RdIn.drop 2 r_l) h23) (fun _ wd24 ⟨h25, HS⟩ => ⟨_, h25, (GO.not rfl rfl rfl (GO.nil ?_))⟩))))))
       rcases ite_elim H with ⟨c26, H⟩ | ⟨c26, H⟩
       ·
        refine G.noB rfl (congrArg Bool.not c26) (G.run 3 rfl ?_)
        obtain rfl := Option.some.inj H
        exact G.ret1 _ func19 rfl rfl ⟨rfl, (HS.pk 2 [] rfl)⟩
       refine G.yesB rfl (congrArg Bool.not (bnot_of c26)) (G.run 2 rfl ?_)
       obtain rfl := Option.some.inj H
       exact G.ret1 _ func19 rfl rfl ⟨rfl, (HS.pk 2 [] rfl)⟩
      refine G.yesB rfl (congrArg Bool.not (bnot_of c21)) (G.run 2 rfl ?_)
      obtain rfl := Option.some.inj H
      exact G.ret1 _ func19 rfl rfl ⟨rfl, (HS.pk 2 [] rfl)⟩
     refine G.yesB rfl (congrArg Bool.not (bnot_of c16)) (G.run 2 rfl ?_)
     obtain rfl := Option.some.inj H
     exact G.ret1 _ func19 rfl rfl ⟨rfl, (HS.pk 2 [] rfl)⟩
    refine G.yesB rfl (congrArg Bool.not (bnot_of c11)) (G.run 2 rfl ?_)
    obtain rfl := Option.some.inj H
    exact G.ret1 _ func19 rfl rfl ⟨rfl, (HS.pk 2 [] rfl)⟩
   refine G.yesB rfl (congrArg Bool.not (decide_eq_false c6)) (G.run 2 rfl ?_)
   obtain rfl := Option.some.inj H
   exact G.ret1 _ func19 rfl rfl ⟨rfl, (HS.pk 2 [] rfl)⟩
  refine G.yesB rfl (congrArg Bool.not (bnot_of c5)) (G.run 2 rfl ?_)
  obtain rfl := Option.some.inj H
  exact G.ret1 _ func19 rfl rfl ⟨rfl, (HS.pk 2 [] rfl)⟩
theorem laws_FnExactValidItem.calls {w0 w : World} {L : List HObj} {K : Nat} {aE_Name : ByteArray} {aE_Kind : Int} {aE_Triangulation_Tets : List (List GFace)} {aE_Diagram_Crossings : List GCrossing} {aE_Diagram_Circles aE_Braid_Strands : Int} {aE_Braid_Word : List Int} {aE_Certificate_Name aE_Certificate_Trait : Int} {aE_Certificate_Moves : List GMove} {aE_Certificate_Tets aE_Certificate_Perms : List Int} {A_a : Option Addr} {c_a : Nat} {y_a : Nat → (Ty.slice 265 T_GFace).Lay} {A_b : Option Addr} {c_b : Nat} {A_c : Option Addr} {c_c : Nat} {A_d : Option Addr} {c_d : Nat} {A_e : Option Addr} {c_e : Nat} {A_f : Option Addr} {c_f : Nat} {r1 : Bool} (HS : St w0 w (L)) (r_a : RdIn w0 L (Ty.slice 265 T_GFace) A_a c_a y_a aE_Triangulation_Tets) (r_b : RdIn w0 L T_GCrossing A_b c_b (fun _ => ()) aE_Diagram_Crossings) (r_c : RdIn w0 L (TInt .i64) A_c c_c (fun _ => ()) aE_Braid_Word) (r_d : RdIn w0 L T_GMove A_d c_d (fun _ => ()) aE_Certificate_Moves) (r_e : RdIn w0 L (TInt .i64) A_e c_e (fun _ => ()) aE_Certificate_Tets) (r_f : RdIn w0 L (TInt .i64) A_f c_f (fun _ => ()) aE_Certificate_Perms) (H : laws_FnExactValidItem.f K aE_Name aE_Kind aE_Triangulation_Tets aE_Diagram_Crossings aE_Diagram_Circles aE_Braid_Strands aE_Braid_Word aE_Certificate_Name aE_Certificate_Trait aE_Certificate_Moves aE_Certificate_Tets aE_Certificate_Perms = some r1) :
    Calls prog 3 #[.agg [.string aE_Name, .int .i64 aE_Kind, .slice A_a aE_Triangulation_Tets.length c_a, .slice A_b aE_Diagram_Crossings.length c_b, .int .i64 aE_Diagram_Circles, .int .i64 aE_Braid_Strands, .slice A_c aE_Braid_Word.length c_c, .int .i64 aE_Certificate_Name, .int .i64 aE_Certificate_Trait, .slice A_d aE_Certificate_Moves.length c_d, .slice A_e aE_Certificate_Tets.length c_e, .slice A_f aE_Certificate_Perms.length c_f].toArray] w (laws_FnExactValidItem.post w0 L r1) := by
  unfold laws_FnExactValidItem.f at H
  refine Calls.of_G func3 rfl rfl rfl ?_
  refine G.seq (G.region (GO.box (cs := [.string aE_Name, .int .i64 aE_Kind, .slice A_a aE_Triangulation_Tets.length c_a, .slice A_b aE_Diagram_Crossings.length c_b, .int .i64 aE_Diagram_Circles, .int .i64 aE_Braid_Strands, .slice A_c aE_Braid_Word.length c_c, .int .i64 aE_Certificate_Name, .int .i64 aE_Certificate_Trait, .slice A_d aE_Certificate_Moves.length c_d, .slice A_e aE_Certificate_Tets.length c_e, .slice A_f aE_Certificate_Perms.length c_f]) HS rfl rfl rfl rfl fun b1 wd2 HS => GO.assign rfl rfl rfl (GO.nil (G.run 3 rfl ?_))))
  obtain ⟨t3, h4, H⟩ := Option.bind_eq_some_iff.1 H
  refine G.region (GO.ldBoxA (j := 0) ([.string aE_Name, .int .i64 aE_Kind, .slice A_a aE_Triangulation_Tets.length c_a, .slice A_b aE_Diagram_Crossings.length c_b, .int .i64 aE_Diagram_Circles, .int .i64 aE_Braid_Strands, .slice A_c aE_Braid_Word.length c_c, .int .i64 aE_Certificate_Name, .int .i64 aE_Certificate_Trait, .slice A_d aE_Certificate_Moves.length c_d, .slice A_e aE_Certificate_Tets.length c_e, .slice A_f aE_Certificate_Perms.length c_f]) HS rfl rfl rfl rfl ag35 rfl (GO.move rfl rfl rfl (GO.fn rfl func15 fok15.1 fok15.2 rfl rfl (laws_szItem.calls HS (RdIn.drop 1 r_a) (RdIn.drop 1 r_b) (RdIn.drop 1 r_c) (RdIn.drop 1 r_d) (RdIn.drop 1 r_e) (RdIn.drop 1 r_f) h4) (fun _ wd5 ⟨h6, HS⟩ => ⟨_, h6, (GO.assign rfl rfl rfl (GO.nil (G.run 3 rfl ?_)))⟩))))
  rcases ite_elim H with ⟨c7, H⟩ | ⟨c7, H⟩
  ·
   refine G.yesB rfl (decide_eq_true c7) (G.run 2 rfl ?_)
   obtain rfl := Option.some.inj H
   exact G.ret1 _ func3 rfl rfl ⟨rfl, (HS.pk 1 [] rfl)⟩
  refine G.noB rfl (decide_eq_false c7) (G.run 2 rfl ?_)
  obtain ⟨t8, t9, t10, t11, t12, t13, t14, t15, t16, t17, t18, t19, h20, H⟩ := bind12_elim H
  obtain ⟨t36, h37, H⟩ := Option.bind_eq_some_iff.1 H
  refine G.region (GO.ldBoxA (j := 0) ([.string aE_Name, .int .i64 aE_Kind, .slice A_a aE_Triangulation_Tets.length c_a, .slice A_b aE_Diagram_Crossings.length c_b, .int .i64 aE_Diagram_Circles, .int .i64 aE_Braid_Strands, .slice A_c aE_Braid_Word.length c_c, .int .i64 aE_Certificate_Name, .int .i64 aE_Certificate_Trait, .slice A_d aE_Certificate_Moves.length c_d, .slice A_e aE_Certificate_Tets.length c_e, .slice A_f aE_Certificate_Perms.length c_f]) HS rfl rfl rfl rfl ag35 rfl (GO.fn rfl func17 fok17.1 fok17.2 rfl rfl (laws_toItem.calls HS (RdIn.drop 1 r_a) (RdIn.drop 1 r_b) (RdIn.drop 1 r_c) (RdIn.drop 1 r_d) (RdIn.drop 1 r_e) (RdIn.drop 1 r_f) h20) (fun _ wd34 ⟨A21, c22, y23, A24, c25, A26, c27, A28, c29, A30, c31, A32, c33, h35, HS⟩ => ⟨_, h35, (GO.fn rfl func16 fok16.1 fok16.2 rfl rfl (spec_ValidItem.calls HS (RdIn.own (j := 0) rfl) (RdIn.own (j := 1) rfl) (RdIn.own (j := 2) rfl) (RdIn.own (j := 3) rfl) (RdIn.own (j := 4) rfl) (RdIn.own (j := 5) rfl) h37) (fun _ wd38 ⟨h39, HS⟩ => ⟨_, h39, (GO.assign rfl rfl rfl (GO.nil (G.seq ?_)))⟩))⟩)))
  obtain ⟨t40, t41, t42, t43, t44, t45, t46, t47, t48, t49, t50, t51, h52, H⟩ := bind12_elim H
  refine G.region (GO.ldBoxA (j := 6) ([.string aE_Name, .int .i64 aE_Kind, .slice A_a aE_Triangulation_Tets.length c_a, .slice A_b aE_Diagram_Crossings.length c_b, .int .i64 aE_Diagram_Circles, .int .i64 aE_Braid_Strands, .slice A_c aE_Braid_Word.length c_c, .int .i64 aE_Certificate_Name, .int .i64 aE_Certificate_Trait, .slice A_d aE_Certificate_Moves.length c_d, .slice A_e aE_Certificate_Tets.length c_e, .slice A_f aE_Certificate_Perms.length c_f]) HS rfl rfl rfl rfl ag35 rfl (GO.fn rfl func17 fok17.1 fok17.2 rfl rfl (laws_toItem.calls HS (RdIn.drop 7 r_a) (RdIn.drop 7 r_b) (RdIn.drop 7 r_c) (RdIn.drop 7 r_d) (RdIn.drop 7 r_e) (RdIn.drop 7 r_f) h52) (fun _ wd66 ⟨A53, c54, y55, A56, c57, A58, c59, A60, c61, A62, c63, A64, c65, h67, HS⟩ => ⟨_, h67, (GO.alloc HS rfl zr49 rfl rfl fun b68 wd69 HS => GO.stBox (j := 0) (vs := [.string t40, .int .i64 t41, .slice A53 t42.length c54, .slice A56 t43.length c57, .int .i64 t44, .int .i64 t45, .slice A58 t46.length c59, .int .i64 t47, .int .i64 t48, .slice A60 t49.length c61, .slice A62 t50.length c63, .slice A64 t51.length c65]) ([.string t40, .int .i64 t41, .slice A53 t42.length c54, .slice A56 t43.length c57, .int .i64 t44, .int .i64 t45, .slice A58 t46.length c59, .int .i64 t47, .int .i64 t48, .slice A60 t49.length c61, .slice A62 t50.length c63, .slice A64 t51.length c65]) HS rfl rfl rfl rfl rfl (htA ag49) rfl rfl rfl fun wd70 HS => GO.nil (G.seq ?_))⟩)))
  obtain ⟨t71, h72, H⟩ := Option.bind_eq_some_iff.1 H
  refine G.region (GO.ldBoxA (j := 0) ([.string t40, .int .i64 t41, .slice A53 t42.length c54, .slice A56 t43.length c57, .int .i64 t44, .int .i64 t45, .slice A58 t46.length c59, .int .i64 t47, .int .i64 t48, .slice A60 t49.length c61, .slice A62 t50.length c63, .slice A64 t51.length c65]) HS rfl rfl rfl rfl ag49 rfl (GO.fn rfl func18 fok18.1 fok18.2 rfl rfl (impl_ValidItem.calls HS (RdIn.own (j := 1) rfl) (RdIn.own (j := 2) rfl) (RdIn.own (j := 3) rfl) (RdIn.own (j := 4) rfl) (RdIn.own (j := 5) rfl) (RdIn.own (j := 6) rfl) h72) (fun _ wd73 ⟨h74, HS⟩ => ⟨_, h74, (GO.assign rfl rfl rfl (GO.nil (G.run 2 rfl (G.region (GO.ps 2 rfl (GO.neqB rfl rfl rfl underlying4 rfl (GO.nil ?_)))))))⟩)))
  rcases ite_elim H with ⟨c75, H⟩ | ⟨c75, H⟩
  ·
   refine G.noB rfl (congrArg Bool.not c75) (G.run 3 rfl ?_)
   obtain ⟨t76, t77, t78, t79, t80, t81, t82, t83, t84, t85, t86, t87, h88, H⟩ := bind12_elim H
   obtain ⟨t104, h105, H⟩ := Option.bind_eq_some_iff.1 H
   refine G.lexS mixed (fun w => St w0 w (Box b68 49 [.string t40, .int .i64 t41, .slice A53 t42.length c54, .slice A56 t43.length c57, .int .i64 t44, .int .i64 t45, .slice A58 t46.length c59, .int .i64 t47, .int .i64 t48, .slice A60 t49.length c61, .slice A62 t50.length c63, .slice A64 t51.length c65] :: Box b1 35 [.string aE_Name, .int .i64 aE_Kind, .slice A_a aE_Triangulation_Tets.length c_a, .slice A_b aE_Diagram_Crossings.length c_b, .int .i64 aE_Diagram_Circles, .int .i64 aE_Braid_Strands, .slice A_c aE_Braid_Word.length c_c, .int .i64 aE_Certificate_Name, .int .i64 aE_Certificate_Trait, .slice A_d aE_Certificate_Moves.length c_d, .slice A_e aE_Certificate_Tets.length c_e, .slice A_f aE_Certificate_Perms.length c_f] :: L)) [0, 1] [0, 1, 2, 3, 4] 5 (by kernel_rfl) (by kernel_rfl) (HS.drew.pk 14 [0, 13] rfl) ?_
   replace HS := HS.drew
   refine GX.ls rfl rfl rfl (HS.pk 14 [0, 13] rfl) (fun _ HS _ g => GO.ldBoxA (j := 0) ([.string t40, .int .i64 t41, .slice A53 t42.length c54, .slice A56 t43.length c57, .int .i64 t44, .int .i64 t45, .slice A58 t46.length c59, .int .i64 t47, .int .i64 t48, .slice A60 t49.length c61, .slice A62 t50.length c63, .slice A64 t51.length c65]) HS rfl rfl rfl rfl ag49 rfl g) rfl (GX.ls rfl rfl rfl (HS.pk 14 [0, 13] rfl) (fun _ HS _ g => GO.ldBoxA (j := 1) ([.string aE_Name, .int .i64 aE_Kind, .slice A_a aE_Triangulation_Tets.length c_a, .slice A_b aE_Diagram_Crossings.length c_b, .int .i64 aE_Diagram_Circles, .int .i64 aE_Braid_Strands, .slice A_c aE_Braid_Word.length c_c, .int .i64 aE_Certificate_Name, .int .i64 aE_Certificate_Trait, .slice A_d aE_Certificate_Moves.length c_d, .slice A_e aE_Certificate_Tets.length c_e, .slice A_f aE_Certificate_Perms.length c_f]) HS rfl rfl rfl rfl ag35 rfl g) rfl (GX.l2 rfl (GO.fn rfl func17 fok17.1 fok17.2 rfl rfl (laws_toItem.calls HS (RdIn.drop 14 r_a) (RdIn.drop 14 r_b) (RdIn.drop 14 r_c) (RdIn.drop 14 r_d) (RdIn.drop 14 r_e) (RdIn.drop 14 r_f) h88) (fun _ wd102 ⟨A89, c90, y91, A92, c93, A94, c95, A96, c97, A98, c99, A100, c101, h103, HS⟩ => ⟨_, h103, (GX.fin (HS.pk 20 [6, 19] rfl) (GX.l2 rfl (GO.fn rfl func19 fok19.1 fok19.2 rfl rfl (laws_eqItem.calls HS (RdIn.own (j := 7) rfl) (RdIn.own (j := 8) rfl) (RdIn.own (j := 9) rfl) (RdIn.own (j := 10) rfl) (RdIn.own (j := 11) rfl) (RdIn.own (j := 12) rfl) (RdIn.own (j := 0) rfl) (RdIn.own (j := 1) rfl) (RdIn.own (j := 2) rfl) (RdIn.own (j := 3) rfl) (RdIn.own (j := 4) rfl) (RdIn.own (j := 5) rfl) h105) (fun _ wd106 ⟨h107, HS⟩ => ⟨_, h107, (GX.fin (HS.pk 20 [6, 19] rfl) (GX.ps 1 rfl (GX.nil ?_)))⟩))))⟩))))
   rcases ite_elim H with ⟨c108, H⟩ | ⟨c108, H⟩
   ·
    refine G.noB rfl (congrArg Bool.not c108) (G.run 3 rfl ?_)
    obtain rfl := Option.some.inj H
    exact G.ret1 _ func3 rfl rfl ⟨rfl, (HS.pk 20 [] rfl)⟩
   refine G.yesB rfl (congrArg Bool.not (bnot_of c108)) (G.run 2 rfl ?_)
   obtain rfl := Option.some.inj H
   exact G.ret1 _ func3 rfl rfl ⟨rfl, (HS.pk 20 [] rfl)⟩
  refine G.yesB rfl (congrArg Bool.not (bnot_of c75)) (G.run 2 rfl ?_)
  obtain rfl := Option.some.inj H
  exact G.ret1 _ func3 rfl rfl ⟨rfl, (HS.pk 14 [] rfl)⟩
end Go.Proofs.YtgkcddpgmmmblaaGreatDoor
