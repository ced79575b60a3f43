/-
  The walks through the functions: a call comes to what its list function says.
-/
import Derived.Test.YthjomdggdaocgaaGreatDoorAlF
set_option linter.unusedVariables false
set_option linter.unusedSimpArgs false
namespace Go.Proofs.YthjomdggdaocgaaGreatDoor
open Go.RowKit
open Tryz
set_option maxRecDepth 20000
set_option maxHeartbeats 40000000
theorem laws_szFaceS.calls {w0 w : World} {L : List HObj} {a_ : List GFace} {left : Int} {A_a : Option Addr} {c_a : Nat} {r1 : Int} (HS : St w0 w (L)) (r_a : RdIn w0 L T_GFace A_a c_a (fun _ => ()) a_) (H : laws_szFaceS.f a_ left = some r1) :
    Calls prog 144 #[.slice A_a a_.length c_a, .int .i64 left] w (laws_szFaceS.post w0 L r1) := by
  unfold laws_szFaceS.f at H
  refine Calls.of_G func144 rfl rfl rfl ?_
  refine G.run 3 rfl (G.region (GO.ps 2 rfl (GO.lenS rfl rfl underlying168 rfl (GO.ps 2 rfl (GO.nil (G.run 3 rfl ?_))))))
  rcases ite_elim H with ⟨c1, H⟩ | ⟨c1, H⟩
  ·
   refine G.yesB rfl (decide_eq_true c1) (G.run 2 rfl ?_)
   obtain rfl := Option.some.inj H
   exact G.ret1 _ func144 rfl rfl ⟨rfl, HS⟩
  refine G.noB rfl (decide_eq_false c1) (G.run 3 rfl ?_)
  obtain rfl := Option.some.inj H
  exact G.ret1 _ func144 rfl rfl ⟨rfl, HS⟩
theorem laws_szFaceSS.calls {w0 w : World} {L : List HObj} {K : Nat} {a_ : List (List GFace)} {left : Int} {A_a : Option Addr} {c_a : Nat} {y_a : Nat → (Ty.slice 200 T_GFace).Lay} {r1 : Int} (HS : St w0 w (L)) (r_a : RdIn w0 L (Ty.slice 200 T_GFace) A_a c_a y_a a_) (H : laws_szFaceSS.f K a_ left = some r1) :
    Calls prog 112 #[.slice A_a a_.length c_a, .int .i64 left] w (laws_szFaceSS.post w0 L r1) := by
  unfold laws_szFaceSS.f at H
  refine Calls.of_G func112 rfl rfl rfl ?_
  refine G.run 3 rfl (G.region (GO.ps 2 rfl (GO.lenS rfl rfl underlying84 rfl (GO.ps 2 rfl (GO.nil (G.run 3 rfl ?_))))))
  rcases ite_elim H with ⟨c1, H⟩ | ⟨c1, H⟩
  ·
   refine G.yesB rfl (decide_eq_true c1) (G.run 2 rfl ?_)
   obtain rfl := Option.some.inj H
   exact G.ret1 _ func112 rfl rfl ⟨rfl, HS⟩
  refine G.noB rfl (decide_eq_false c1) (G.run 6 rfl ?_)
  refine G.name (fun k_l1 hk_l1 => ?_)
  have at_l1 : ∀ m_l1, m_l1 ≤ K → ∀ (left_9 i_10 : Int) (w : World), laws_szFaceSS.l1 K m_l1 a_ left_9 i_10 = some r1 → St w0 w (L) → G prog 112 27 [(0, .slice A_a a_.length c_a), (1, .int .i64 left_9), (5, .int .i64 i_10)] k_l1 w (laws_szFaceSS.post w0 L r1) := by
   intro m_l1
   induction m_l1 using Nat.strongRecOn with
   | _ m_l1 ih_l1 =>
    intro hm_l1 left_9 i_10 w H HS
    cases m_l1 with
    | zero => rw [laws_szFaceSS.l1] at H; cases H
    | succ n_l1 =>
     rw [laws_szFaceSS.l1] at H
     subst hk_l1
     refine G.run 2 rfl (G.region (GO.ps 2 rfl (GO.lenS rfl rfl underlying84 rfl (GO.lss rfl rfl rfl rfl (GO.nil ?_)))))
     rcases ite_elim H with ⟨c18, H⟩ | ⟨c18, H⟩
     ·
      refine G.yesB rfl (decide_eq_true c18) (G.run 4 rfl ?_)
      obtain ⟨c19, H⟩ := ite_none H
      obtain ⟨t20, h21, H⟩ := Option.bind_eq_some_iff.1 H
      refine G.region (GO.ps 2 rfl (GO.ix rfl rfl rfl underlying84 sz168 (r_a _ HS).2.2.1 c19.1 c19.2 rfl (GO.ldRd (T := (Ty.slice 200 T_GFace)) (n := i_10.toNat) (o := 0) HS r_a rfl rfl (getD_some (d := []) (ltN c19)) rfl rfl na168 rfl (GO.move rfl rfl rfl (GO.fn rfl func144 fok144.1 fok144.2 rfl rfl (laws_szFaceS.calls HS (RdIn.elem r_a c19.1 c19.2) h21) (fun _ wd22 ⟨h23, HS⟩ => ⟨_, h23, (GO.assign rfl rfl rfl (GO.nil (G.run 2 rfl ?_)))⟩))))))
      rcases ite_elim H with ⟨c24, H⟩ | ⟨c24, H⟩
      ·
       refine G.yesB rfl (decide_eq_true c24) (G.run 2 rfl ?_)
       obtain rfl := Option.some.inj H
       exact G.ret1 _ func112 rfl rfl ⟨rfl, HS⟩
      refine G.noB rfl (decide_eq_false c24) (G.run 4 rfl (G.weak ?_ (ih_l1 n_l1 (Nat.lt_succ_of_le (Nat.le_refl _)) (Nat.le_of_succ_le hm_l1) _ _ _ H HS)))
      exact ⟨rfl, rfl, rfl, trivial⟩
     refine G.noB rfl (decide_eq_false c18) (G.run 3 rfl ?_)
     obtain rfl := Option.some.inj H
     exact G.ret1 _ func112 rfl rfl ⟨rfl, HS⟩
  refine G.weak ?_ (at_l1 K (Nat.le_refl _) _ _ _ H HS)
  exact ⟨rfl, rfl, rfl, trivial⟩
theorem laws_szTriangulation.calls {w0 w : World} {L : List HObj} {K : Nat} {a_Tets : List (List GFace)} {left : Int} {A_a : Option Addr} {c_a : Nat} {y_a : Nat → (Ty.slice 200 T_GFace).Lay} {r1 : Int} (HS : St w0 w (L)) (r_a : RdIn w0 L (Ty.slice 200 T_GFace) A_a c_a y_a a_Tets) (H : laws_szTriangulation.f K a_Tets left = some r1) :
    Calls prog 87 #[.agg [.slice A_a a_Tets.length c_a].toArray, .int .i64 left] w (laws_szTriangulation.post w0 L r1) := by
  unfold laws_szTriangulation.f at H
  refine Calls.of_G func87 rfl rfl rfl ?_
  refine G.seq (G.region (GO.box (cs := [.slice A_a a_Tets.length c_a]) HS rfl rfl rfl rfl fun b1 wd2 HS => GO.assign rfl rfl rfl (GO.nil (G.seq ?_))))
  obtain ⟨t3, h4, H⟩ := Option.bind_eq_some_iff.1 H
  refine G.region (GO.fld (⟨b1, 0, none⟩) rfl rfl fl86_0 rfl rfl (GO.ldBox (j := 0) HS rfl rfl rfl rfl na84 rfl (GO.move rfl rfl rfl (GO.fn rfl func112 fok112.1 fok112.2 rfl rfl (laws_szFaceSS.calls HS (RdIn.drop 1 r_a) h4) (fun _ wd5 ⟨h6, HS⟩ => ⟨_, h6, (GO.assign rfl rfl rfl (GO.nil (G.run 3 rfl ?_)))⟩)))))
  rcases ite_elim H with ⟨c7, H⟩ | ⟨c7, H⟩
  ·
   refine G.yesB rfl (decide_eq_true c7) (G.run 2 rfl ?_)
   obtain rfl := Option.some.inj H
   exact G.ret1 _ func87 rfl rfl ⟨rfl, (HS.pk 1 [] rfl)⟩
  refine G.noB rfl (decide_eq_false c7) (G.run 3 rfl ?_)
  obtain rfl := Option.some.inj H
  exact G.ret1 _ func87 rfl rfl ⟨rfl, (HS.pk 1 [] rfl)⟩
theorem laws_szCrossingS.calls {w0 w : World} {L : List HObj} {a_ : List GCrossing} {left : Int} {A_a : Option Addr} {c_a : Nat} {r1 : Int} (HS : St w0 w (L)) (r_a : RdIn w0 L T_GCrossing A_a c_a (fun _ => ()) a_) (H : laws_szCrossingS.f a_ left = some r1) :
    Calls prog 113 #[.slice A_a a_.length c_a, .int .i64 left] w (laws_szCrossingS.post w0 L r1) := by
  unfold laws_szCrossingS.f at H
  refine Calls.of_G func113 rfl rfl rfl ?_
  refine G.run 3 rfl (G.region (GO.ps 2 rfl (GO.lenS rfl rfl underlying87 rfl (GO.ps 2 rfl (GO.nil (G.run 3 rfl ?_))))))
  rcases ite_elim H with ⟨c1, H⟩ | ⟨c1, H⟩
  ·
   refine G.yesB rfl (decide_eq_true c1) (G.run 2 rfl ?_)
   obtain rfl := Option.some.inj H
   exact G.ret1 _ func113 rfl rfl ⟨rfl, HS⟩
  refine G.noB rfl (decide_eq_false c1) (G.run 3 rfl ?_)
  obtain rfl := Option.some.inj H
  exact G.ret1 _ func113 rfl rfl ⟨rfl, HS⟩
theorem laws_szDiagram.calls {w0 w : World} {L : List HObj} {a_Crossings : List GCrossing} {a_Circles left : Int} {A_a : Option Addr} {c_a : Nat} {r1 : Int} (HS : St w0 w (L)) (r_a : RdIn w0 L T_GCrossing A_a c_a (fun _ => ()) a_Crossings) (H : laws_szDiagram.f a_Crossings a_Circles left = some r1) :
    Calls prog 88 #[.agg [.slice A_a a_Crossings.length c_a, .int .i64 a_Circles].toArray, .int .i64 left] w (laws_szDiagram.post w0 L r1) := by
  unfold laws_szDiagram.f at H
  refine Calls.of_G func88 rfl rfl rfl ?_
  refine G.seq (G.region (GO.box (cs := [.slice A_a a_Crossings.length c_a, .int .i64 a_Circles]) HS rfl rfl rfl rfl fun b1 wd2 HS => GO.assign rfl rfl rfl (GO.nil (G.seq ?_))))
  obtain ⟨t3, h4, H⟩ := Option.bind_eq_some_iff.1 H
  refine G.region (GO.fld (⟨b1, 0, none⟩) rfl rfl fl89_0 rfl rfl (GO.ldBox (j := 0) HS rfl rfl rfl rfl na87 rfl (GO.move rfl rfl rfl (GO.fn rfl func113 fok113.1 fok113.2 rfl rfl (laws_szCrossingS.calls HS (RdIn.drop 1 r_a) h4) (fun _ wd5 ⟨h6, HS⟩ => ⟨_, h6, (GO.assign rfl rfl rfl (GO.nil (G.run 3 rfl ?_)))⟩)))))
  rcases ite_elim H with ⟨c7, H⟩ | ⟨c7, H⟩
  ·
   refine G.yesB rfl (decide_eq_true c7) (G.run 2 rfl ?_)
   obtain rfl := Option.some.inj H
   exact G.ret1 _ func88 rfl rfl ⟨rfl, (HS.pk 1 [] rfl)⟩
  refine G.noB rfl (decide_eq_false c7) (G.run 3 rfl ?_)
  obtain rfl := Option.some.inj H
  exact G.ret1 _ func88 rfl rfl ⟨rfl, (HS.pk 1 [] rfl)⟩
theorem laws_szInt64S.calls {w0 w : World} {L : List HObj} {a_ : List Int} {left : Int} {A_a : Option Addr} {c_a : Nat} {r1 : Int} (HS : St w0 w (L)) (r_a : RdIn w0 L (TInt .i64) A_a c_a (fun _ => ()) a_) (H : laws_szInt64S.f a_ left = some r1) :
    Calls prog 114 #[.slice A_a a_.length c_a, .int .i64 left] w (laws_szInt64S.post w0 L r1) := by
  unfold laws_szInt64S.f at H
  refine Calls.of_G func114 rfl rfl rfl ?_
  refine G.run 3 rfl (G.region (GO.ps 2 rfl (GO.lenS rfl rfl underlying41 rfl (GO.ps 2 rfl (GO.nil (G.run 3 rfl ?_))))))
  rcases ite_elim H with ⟨c1, H⟩ | ⟨c1, H⟩
  ·
   refine G.yesB rfl (decide_eq_true c1) (G.run 2 rfl ?_)
   obtain rfl := Option.some.inj H
   exact G.ret1 _ func114 rfl rfl ⟨rfl, HS⟩
  refine G.noB rfl (decide_eq_false c1) (G.run 3 rfl ?_)
  obtain rfl := Option.some.inj H
  exact G.ret1 _ func114 rfl rfl ⟨rfl, HS⟩
theorem laws_szBraid.calls {w0 w : World} {L : List HObj} {a_Strands : Int} {a_Word : List Int} {left : Int} {A_a : Option Addr} {c_a : Nat} {r1 : Int} (HS : St w0 w (L)) (r_a : RdIn w0 L (TInt .i64) A_a c_a (fun _ => ()) a_Word) (H : laws_szBraid.f a_Strands a_Word left = some r1) :
    Calls prog 89 #[.agg [.int .i64 a_Strands, .slice A_a a_Word.length c_a].toArray, .int .i64 left] w (laws_szBraid.post w0 L r1) := by
  unfold laws_szBraid.f at H
  refine Calls.of_G func89 rfl rfl rfl ?_
  refine G.seq (G.region (GO.box (cs := [.int .i64 a_Strands, .slice A_a a_Word.length c_a]) HS rfl rfl rfl rfl fun b1 wd2 HS => GO.assign rfl rfl rfl (GO.nil (G.seq ?_))))
  obtain ⟨t3, h4, H⟩ := Option.bind_eq_some_iff.1 H
  refine G.region (GO.fld (⟨b1, 1, none⟩) rfl rfl fl90_1 rfl rfl (GO.ldBox (j := 0) HS rfl rfl rfl rfl na41 rfl (GO.move rfl rfl rfl (GO.fn rfl func114 fok114.1 fok114.2 rfl rfl (laws_szInt64S.calls HS (RdIn.drop 1 r_a) h4) (fun _ wd5 ⟨h6, HS⟩ => ⟨_, h6, (GO.assign rfl rfl rfl (GO.nil (G.run 3 rfl ?_)))⟩)))))
  rcases ite_elim H with ⟨c7, H⟩ | ⟨c7, H⟩
  ·
   refine G.yesB rfl (decide_eq_true c7) (G.run 2 rfl ?_)
   obtain rfl := Option.some.inj H
   exact G.ret1 _ func89 rfl rfl ⟨rfl, (HS.pk 1 [] rfl)⟩
  refine G.noB rfl (decide_eq_false c7) (G.run 3 rfl ?_)
  obtain rfl := Option.some.inj H
  exact G.ret1 _ func89 rfl rfl ⟨rfl, (HS.pk 1 [] rfl)⟩
theorem laws_szMoveS.calls {w0 w : World} {L : List HObj} {a_ : List GMove} {left : Int} {A_a : Option Addr} {c_a : Nat} {r1 : Int} (HS : St w0 w (L)) (r_a : RdIn w0 L T_GMove A_a c_a (fun _ => ()) a_) (H : laws_szMoveS.f a_ left = some r1) :
    Calls prog 115 #[.slice A_a a_.length c_a, .int .i64 left] w (laws_szMoveS.post w0 L r1) := by
  unfold laws_szMoveS.f at H
  refine Calls.of_G func115 rfl rfl rfl ?_
  refine G.run 3 rfl (G.region (GO.ps 2 rfl (GO.lenS rfl rfl underlying91 rfl (GO.ps 2 rfl (GO.nil (G.run 3 rfl ?_))))))
  rcases ite_elim H with ⟨c1, H⟩ | ⟨c1, H⟩
  ·
   refine G.yesB rfl (decide_eq_true c1) (G.run 2 rfl ?_)
   obtain rfl := Option.some.inj H
   exact G.ret1 _ func115 rfl rfl ⟨rfl, HS⟩
  refine G.noB rfl (decide_eq_false c1) (G.run 3 rfl ?_)
  obtain rfl := Option.some.inj H
  exact G.ret1 _ func115 rfl rfl ⟨rfl, HS⟩
theorem laws_szCertificate.calls {w0 w : World} {L : List HObj} {a_Name a_Trait : Int} {a_Moves : List GMove} {a_Tets a_Perms : List Int} {left : Int} {A_a : Option Addr} {c_a : Nat} {A_b : Option Addr} {c_b : Nat} {A_c : Option Addr} {c_c : Nat} {r1 : Int} (HS : St w0 w (L)) (r_a : RdIn w0 L T_GMove A_a c_a (fun _ => ()) a_Moves) (r_b : RdIn w0 L (TInt .i64) A_b c_b (fun _ => ()) a_Tets) (r_c : RdIn w0 L (TInt .i64) A_c c_c (fun _ => ()) a_Perms) (H : laws_szCertificate.f a_Name a_Trait a_Moves a_Tets a_Perms left = some r1) :
    Calls prog 90 #[.agg [.int .i64 a_Name, .int .i64 a_Trait, .slice A_a a_Moves.length c_a, .slice A_b a_Tets.length c_b, .slice A_c a_Perms.length c_c].toArray, .int .i64 left] w (laws_szCertificate.post w0 L r1) := by
  unfold laws_szCertificate.f at H
  refine Calls.of_G func90 rfl rfl rfl ?_
  refine G.seq (G.region (GO.box (cs := [.int .i64 a_Name, .int .i64 a_Trait, .slice A_a a_Moves.length c_a, .slice A_b a_Tets.length c_b, .slice A_c a_Perms.length c_c]) HS rfl rfl rfl rfl fun b1 wd2 HS => GO.assign rfl rfl rfl (GO.nil (G.seq ?_))))
  obtain ⟨t3, h4, H⟩ := Option.bind_eq_some_iff.1 H
  refine G.region (GO.fld (⟨b1, 2, none⟩) rfl rfl fl93_2 rfl rfl (GO.ldBox (j := 0) HS rfl rfl rfl rfl na91 rfl (GO.move rfl rfl rfl (GO.fn rfl func115 fok115.1 fok115.2 rfl rfl (laws_szMoveS.calls HS (RdIn.drop 1 r_a) h4) (fun _ wd5 ⟨h6, HS⟩ => ⟨_, h6, (GO.assign rfl rfl rfl (GO.nil (G.run 3 rfl ?_)))⟩)))))
  rcases ite_elim H with ⟨c7, H⟩ | ⟨c7, H⟩
  ·
   refine G.yesB rfl (decide_eq_true c7) (G.run 2 rfl ?_)
   obtain rfl := Option.some.inj H
   exact G.ret1 _ func90 rfl rfl ⟨rfl, (HS.pk 1 [] rfl)⟩
  refine G.noB rfl (decide_eq_false c7) (G.run 2 rfl ?_)
  obtain ⟨t8, h9, H⟩ := Option.bind_eq_some_iff.1 H
  refine G.region (GO.fld (⟨b1, 3, none⟩) rfl rfl fl93_3 rfl rfl (GO.ldBox (j := 0) HS rfl rfl rfl rfl na41 rfl (GO.move rfl rfl rfl (GO.fn rfl func114 fok114.1 fok114.2 rfl rfl (laws_szInt64S.calls HS (RdIn.drop 1 r_b) h9) (fun _ wd10 ⟨h11, HS⟩ => ⟨_, h11, (GO.assign rfl rfl rfl (GO.nil (G.run 3 rfl ?_)))⟩)))))
  rcases ite_elim H with ⟨c12, H⟩ | ⟨c12, H⟩
  ·
   refine G.yesB rfl (decide_eq_true c12) (G.run 2 rfl ?_)
   obtain rfl := Option.some.inj H
   exact G.ret1 _ func90 rfl rfl ⟨rfl, (HS.pk 1 [] rfl)⟩
  refine G.noB rfl (decide_eq_false c12) (G.run 2 rfl ?_)
  obtain ⟨t13, h14, H⟩ := Option.bind_eq_some_iff.1 H
  refine G.region (GO.fld (⟨b1, 4, none⟩) rfl rfl fl93_4 rfl rfl (GO.ldBox (j := 0) HS rfl rfl rfl rfl na41 rfl (GO.move rfl rfl rfl (GO.fn rfl func114 fok114.1 fok114.2 rfl rfl (laws_szInt64S.calls HS (RdIn.drop 1 r_c) h14) (fun _ wd15 ⟨h16, HS⟩ => ⟨_, h16, (GO.assign rfl rfl rfl (GO.nil (G.run 3 rfl ?_)))⟩)))))
  rcases ite_elim H with ⟨c17, H⟩ | ⟨c17, H⟩
  ·
   refine G.yesB rfl (decide_eq_true c17) (G.run 2 rfl ?_)
   obtain rfl := Option.some.inj H
   exact G.ret1 _ func90 rfl rfl ⟨rfl, (HS.pk 1 [] rfl)⟩
  refine G.noB rfl (decide_eq_false c17) (G.run 3 rfl ?_)
  obtain rfl := Option.some.inj H
  exact G.ret1 _ func90 rfl rfl ⟨rfl, (HS.pk 1 [] rfl)⟩
theorem laws_szItem.calls {w0 w : World} {L : List HObj} {K : Nat} {a_Name : ByteArray} {a_Kind : Int} {a_Triangulation_Tets : List (List GFace)} {a_Diagram_Crossings : List GCrossing} {a_Diagram_Circles a_Braid_Strands : Int} {a_Braid_Word : List Int} {a_Certificate_Name a_Certificate_Trait : Int} {a_Certificate_Moves : List GMove} {a_Certificate_Tets a_Certificate_Perms : List Int} {left : Int} {A_a : Option Addr} {c_a : Nat} {y_a : Nat → (Ty.slice 200 T_GFace).Lay} {A_b : Option Addr} {c_b : Nat} {A_c : Option Addr} {c_c : Nat} {A_d : Option Addr} {c_d : Nat} {A_e : Option Addr} {c_e : Nat} {A_f : Option Addr} {c_f : Nat} {r1 : Int} (HS : St w0 w (L)) (r_a : RdIn w0 L (Ty.slice 200 T_GFace) A_a c_a y_a a_Triangulation_Tets) (r_b : RdIn w0 L T_GCrossing A_b c_b (fun _ => ()) a_Diagram_Crossings) (r_c : RdIn w0 L (TInt .i64) A_c c_c (fun _ => ()) a_Braid_Word) (r_d : RdIn w0 L T_GMove A_d c_d (fun _ => ()) a_Certificate_Moves) (r_e : RdIn w0 L (TInt .i64) A_e c_e (fun _ => ()) a_Certificate_Tets) (r_f : RdIn w0 L (TInt .i64) A_f c_f (fun _ => ()) a_Certificate_Perms) (H : laws_szItem.f K a_Name a_Kind a_Triangulation_Tets a_Diagram_Crossings a_Diagram_Circles a_Braid_Strands a_Braid_Word a_Certificate_Name a_Certificate_Trait a_Certificate_Moves a_Certificate_Tets a_Certificate_Perms left = some r1) :
    Calls prog 57 #[.agg [.string a_Name, .int .i64 a_Kind, .slice A_a a_Triangulation_Tets.length c_a, .slice A_b a_Diagram_Crossings.length c_b, .int .i64 a_Diagram_Circles, .int .i64 a_Braid_Strands, .slice A_c a_Braid_Word.length c_c, .int .i64 a_Certificate_Name, .int .i64 a_Certificate_Trait, .slice A_d a_Certificate_Moves.length c_d, .slice A_e a_Certificate_Tets.length c_e, .slice A_f a_Certificate_Perms.length c_f].toArray, .int .i64 left] w (laws_szItem.post w0 L r1) := by
  unfold laws_szItem.f at H
  refine Calls.of_G func57 rfl rfl rfl ?_
  refine G.seq (G.region (GO.box (cs := [.string a_Name, .int .i64 a_Kind, .slice A_a a_Triangulation_Tets.length c_a, .slice A_b a_Diagram_Crossings.length c_b, .int .i64 a_Diagram_Circles, .int .i64 a_Braid_Strands, .slice A_c a_Braid_Word.length c_c, .int .i64 a_Certificate_Name, .int .i64 a_Certificate_Trait, .slice A_d a_Certificate_Moves.length c_d, .slice A_e a_Certificate_Tets.length c_e, .slice A_f a_Certificate_Perms.length c_f]) HS rfl rfl rfl rfl fun b1 wd2 HS => GO.assign rfl rfl rfl (GO.nil (G.seq (G.region (GO.move rfl rfl rfl (GO.fld (⟨b1, 0, none⟩) rfl rfl fl95_0 rfl rfl (GO.ldBox (j := 0) HS rfl rfl rfl rfl na9 rfl (GO.lenStr rfl rfl underlying9 rfl (GO.ps 2 rfl (GO.nil (G.run 3 rfl ?_))))))))))))
  rcases ite_elim H with ⟨c3, H⟩ | ⟨c3, H⟩
  ·
   refine G.yesB rfl (decide_eq_true c3) (G.run 2 rfl ?_)
   obtain rfl := Option.some.inj H
   exact G.ret1 _ func57 rfl rfl ⟨rfl, (HS.pk 1 [] rfl)⟩
  refine G.noB rfl (decide_eq_false c3) (G.run 2 rfl ?_)
  obtain ⟨t4, h5, H⟩ := Option.bind_eq_some_iff.1 H
  refine G.region (GO.fld (⟨b1, 2, none⟩) rfl rfl fl95_2 rfl rfl (GO.ldBoxA (j := 0) ([.slice A_a a_Triangulation_Tets.length c_a]) HS rfl rfl rfl rfl ag86 rfl (GO.move rfl rfl rfl (GO.fn rfl func87 fok87.1 fok87.2 rfl rfl (laws_szTriangulation.calls HS (RdIn.drop 1 r_a) h5) (fun _ wd6 ⟨h7, HS⟩ => ⟨_, h7, (GO.assign rfl rfl rfl (GO.nil (G.run 3 rfl ?_)))⟩)))))
  rcases ite_elim H with ⟨c8, H⟩ | ⟨c8, H⟩
  ·
   refine G.yesB rfl (decide_eq_true c8) (G.run 2 rfl ?_)
   obtain rfl := Option.some.inj H
   exact G.ret1 _ func57 rfl rfl ⟨rfl, (HS.pk 1 [] rfl)⟩
  refine G.noB rfl (decide_eq_false c8) (G.run 2 rfl ?_)
  obtain ⟨t9, h10, H⟩ := Option.bind_eq_some_iff.1 H
  refine G.region (GO.fld (⟨b1, 3, none⟩) rfl rfl fl95_3 rfl rfl (GO.ldBoxA (j := 0) ([.slice A_b a_Diagram_Crossings.length c_b, .int .i64 a_Diagram_Circles]) HS rfl rfl rfl rfl ag89 rfl (GO.move rfl rfl rfl (GO.fn rfl func88 fok88.1 fok88.2 rfl rfl (laws_szDiagram.calls HS (RdIn.drop 1 r_b) h10) (fun _ wd11 ⟨h12, HS⟩ => ⟨_, h12, (GO.assign rfl rfl rfl (GO.nil (G.run 3 rfl ?_)))⟩)))))
  rcases ite_elim H with ⟨c13, H⟩ | ⟨c13, H⟩
  ·
   refine G.yesB rfl (decide_eq_true c13) (G.run 2 rfl ?_)
   obtain rfl := Option.some.inj H
   exact G.ret1 _ func57 rfl rfl ⟨rfl, (HS.pk 1 [] rfl)⟩
  refine G.noB rfl (decide_eq_false c13) (G.run 2 rfl ?_)
  obtain ⟨t14, h15, H⟩ := Option.bind_eq_some_iff.1 H
  refine G.region (GO.fld (⟨b1, 5, none⟩) rfl rfl fl95_4 rfl rfl (GO.ldBoxA (j := 0) ([.int .i64 a_Braid_Strands, .slice A_c a_Braid_Word.length c_c]) HS rfl rfl rfl rfl ag90 rfl (GO.move rfl rfl rfl (GO.fn rfl func89 fok89.1 fok89.2 rfl rfl (laws_szBraid.calls HS (RdIn.drop 1 r_c) h15) (fun _ wd16 ⟨h17, HS⟩ => ⟨_, h17, (GO.assign rfl rfl rfl (GO.nil (G.run 3 rfl ?_)))⟩)))))
  rcases ite_elim H with ⟨c18, H⟩ | ⟨c18, H⟩
  ·
   refine G.yesB rfl (decide_eq_true c18) (G.run 2 rfl ?_)
   obtain rfl := Option.some.inj H
   exact G.ret1 _ func57 rfl rfl ⟨rfl, (HS.pk 1 [] rfl)⟩
  refine G.noB rfl (decide_eq_false c18) (G.run 2 rfl ?_)
  obtain ⟨t19, h20, H⟩ := Option.bind_eq_some_iff.1 H
  refine G.region (GO.fld (⟨b1, 7, none⟩) rfl rfl fl95_5 rfl rfl (GO.ldBoxA (j := 0) ([.int .i64 a_Certificate_Name, .int .i64 a_Certificate_Trait, .slice A_d a_Certificate_Moves.length c_d, .slice A_e a_Certificate_Tets.length c_e, .slice A_f a_Certificate_Perms.length c_f]) HS rfl rfl rfl rfl ag93 rfl (GO.move rfl rfl rfl (GO.fn rfl func90 fok90.1 fok90.2 rfl rfl (laws_szCertificate.calls HS (RdIn.drop 1 r_d) (RdIn.drop 1 r_e) (RdIn.drop 1 r_f) h20) (fun _ wd21 ⟨h22, HS⟩ => ⟨_, h22, (GO.assign rfl rfl rfl (GO.nil (G.run 3 rfl ?_)))⟩)))))
  rcases ite_elim H with ⟨c23, H⟩ | ⟨c23, H⟩
  ·
   refine G.yesB rfl (decide_eq_true c23) (G.run 2 rfl ?_)
   obtain rfl := Option.some.inj H
   exact G.ret1 _ func57 rfl rfl ⟨rfl, (HS.pk 1 [] rfl)⟩
  refine G.noB rfl (decide_eq_false c23) (G.run 3 rfl ?_)
  obtain rfl := Option.some.inj H
  exact G.ret1 _ func57 rfl rfl ⟨rfl, (HS.pk 1 [] rfl)⟩
theorem laws_szItemS.calls {w0 w : World} {L : List HObj} {K : Nat} {a_ : List GItem} {left : Int} {A_a : Option Addr} {c_a : Nat} {y_a : Nat → T_GItem.Lay} {r1 : Int} (HS : St w0 w (L)) (r_a : RdIn w0 L T_GItem A_a c_a y_a a_) (H : laws_szItemS.f K a_ left = some r1) :
    Calls prog 23 #[.slice A_a a_.length c_a, .int .i64 left] w (laws_szItemS.post w0 L r1) := by
  unfold laws_szItemS.f at H
  refine Calls.of_G func23 rfl rfl rfl ?_
  refine G.run 3 rfl (G.region (GO.ps 2 rfl (GO.lenS rfl rfl underlying22 rfl (GO.ps 2 rfl (GO.nil (G.run 3 rfl ?_))))))
  rcases ite_elim H with ⟨c1, H⟩ | ⟨c1, H⟩
  ·
   refine G.yesB rfl (decide_eq_true c1) (G.run 2 rfl ?_)
   obtain rfl := Option.some.inj H
   exact G.ret1 _ func23 rfl rfl ⟨rfl, HS⟩
  refine G.noB rfl (decide_eq_false c1) (G.run 6 rfl ?_)
  refine G.name (fun k_l1 hk_l1 => ?_)
  have at_l1 : ∀ m_l1, m_l1 ≤ K → ∀ (left_11 i_12 : Int) (w : World), laws_szItemS.l1 K m_l1 a_ left_11 i_12 = some r1 → St w0 w (L) → G prog 23 27 [(0, .slice A_a a_.length c_a), (1, .int .i64 left_11), (5, .int .i64 i_12)] k_l1 w (laws_szItemS.post w0 L r1) := by
   intro m_l1
   induction m_l1 using Nat.strongRecOn with
   | _ m_l1 ih_l1 =>
    intro hm_l1 left_11 i_12 w H HS
    cases m_l1 with
    | zero => rw [laws_szItemS.l1] at H; cases H
    | succ n_l1 =>
     rw [laws_szItemS.l1] at H
     subst hk_l1
     refine G.run 2 rfl (G.region (GO.ps 2 rfl (GO.lenS rfl rfl underlying22 rfl (GO.lss rfl rfl rfl rfl (GO.nil ?_)))))
     rcases ite_elim H with ⟨c22, H⟩ | ⟨c22, H⟩
     ·
      refine G.yesB rfl (decide_eq_true c22) (G.run 4 rfl ?_)
      obtain ⟨c23, H⟩ := ite_none H
      obtain ⟨e24, h25, H⟩ := bnd_elim H
      obtain ⟨t26, h27, H⟩ := Option.bind_eq_some_iff.1 H
      refine G.region (GO.ps 2 rfl (GO.ix rfl rfl rfl underlying22 sz95 (r_a _ HS).2.2.1 c23.1 c23.2 rfl (GO.ldRdA (T := T_GItem) (n := i_12.toNat) HS r_a rfl rfl (getD_eq (ltN c23) h25) ag95 rfl (GO.move rfl rfl rfl (GO.fn rfl func57 fok57.1 fok57.2 rfl rfl (laws_szItem.calls HS (RdIn.fld r_a (getD_eq (ltN c23) h25) (fun _ h => h.2.2.1)) (RdIn.fld r_a (getD_eq (ltN c23) h25) (fun _ h => h.2.2.2.1)) (RdIn.fld r_a (getD_eq (ltN c23) h25) (fun _ h => h.2.2.2.2.2.2.1)) (RdIn.fld r_a (getD_eq (ltN c23) h25) (fun _ h => h.2.2.2.2.2.2.2.2.2.1)) (RdIn.fld r_a (getD_eq (ltN c23) h25) (fun _ h => h.2.2.2.2.2.2.2.2.2.2.1)) (RdIn.fld r_a (getD_eq (ltN c23) h25) (fun _ h => h.2.2.2.2.2.2.2.2.2.2.2)) h27) (fun _ wd28 ⟨h29, HS⟩ => ⟨_, h29, (GO.assign rfl rfl rfl (GO.nil (G.run 2 rfl ?_)))⟩))))))
      rcases ite_elim H with ⟨c30, H⟩ | ⟨c30, H⟩
      ·
       refine G.yesB rfl (decide_eq_true c30) (G.run 2 rfl ?_)
       obtain rfl := Option.some.inj H
       exact G.ret1 _ func23 rfl rfl ⟨rfl, HS⟩
      refine G.noB rfl (decide_eq_false c30) (G.run 4 rfl (G.weak ?_ (ih_l1 n_l1 (Nat.lt_succ_of_le (Nat.le_refl _)) (Nat.le_of_succ_le hm_l1) _ _ _ H HS)))
      exact ⟨rfl, rfl, rfl, trivial⟩
     refine G.noB rfl (decide_eq_false c22) (G.run 3 rfl ?_)
     obtain rfl := Option.some.inj H
     exact G.ret1 _ func23 rfl rfl ⟨rfl, HS⟩
  refine G.weak ?_ (at_l1 K (Nat.le_refl _) _ _ _ H HS)
  exact ⟨rfl, rfl, rfl, trivial⟩
theorem laws_szItemSS.calls {w0 w : World} {L : List HObj} {K : Nat} {a_ : List (List GItem)} {left : Int} {A_a : Option Addr} {c_a : Nat} {y_a : Nat → (Ty.slice 95 T_GItem).Lay} {r1 : Int} (HS : St w0 w (L)) (r_a : RdIn w0 L (Ty.slice 95 T_GItem) A_a c_a y_a a_) (H : laws_szItemSS.f K a_ left = some r1) :
    Calls prog 24 #[.slice A_a a_.length c_a, .int .i64 left] w (laws_szItemSS.post w0 L r1) := by
  unfold laws_szItemSS.f at H
  refine Calls.of_G func24 rfl rfl rfl ?_
  refine G.run 3 rfl (G.region (GO.ps 2 rfl (GO.lenS rfl rfl underlying23 rfl (GO.ps 2 rfl (GO.nil (G.run 3 rfl ?_))))))
  rcases ite_elim H with ⟨c1, H⟩ | ⟨c1, H⟩
  ·
   refine G.yesB rfl (decide_eq_true c1) (G.run 2 rfl ?_)
   obtain rfl := Option.some.inj H
   exact G.ret1 _ func24 rfl rfl ⟨rfl, HS⟩
  refine G.noB rfl (decide_eq_false c1) (G.run 6 rfl ?_)
  refine G.name (fun k_l1 hk_l1 => ?_)
  have at_l1 : ∀ m_l1, m_l1 ≤ K → ∀ (left_9 i_10 : Int) (w : World), laws_szItemSS.l1 K m_l1 a_ left_9 i_10 = some r1 → St w0 w (L) → G prog 24 27 [(0, .slice A_a a_.length c_a), (1, .int .i64 left_9), (5, .int .i64 i_10)] k_l1 w (laws_szItemSS.post w0 L r1) := by
   intro m_l1
   induction m_l1 using Nat.strongRecOn with
   | _ m_l1 ih_l1 =>
    intro hm_l1 left_9 i_10 w H HS
    cases m_l1 with
    | zero => rw [laws_szItemSS.l1] at H; cases H
    | succ n_l1 =>
     rw [laws_szItemSS.l1] at H
     subst hk_l1
     refine G.run 2 rfl (G.region (GO.ps 2 rfl (GO.lenS rfl rfl underlying23 rfl (GO.lss rfl rfl rfl rfl (GO.nil ?_)))))
     rcases ite_elim H with ⟨c18, H⟩ | ⟨c18, H⟩
     ·
      refine G.yesB rfl (decide_eq_true c18) (G.run 4 rfl ?_)
      obtain ⟨c19, H⟩ := ite_none H
      obtain ⟨t20, h21, H⟩ := Option.bind_eq_some_iff.1 H
      refine G.region (GO.ps 2 rfl (GO.ix rfl rfl rfl underlying23 sz22 (r_a _ HS).2.2.1 c19.1 c19.2 rfl (GO.ldRd (T := (Ty.slice 95 T_GItem)) (n := i_10.toNat) (o := 0) HS r_a rfl rfl (getD_some (d := []) (ltN c19)) rfl rfl na22 rfl (GO.move rfl rfl rfl (GO.fn rfl func23 fok23.1 fok23.2 rfl rfl (laws_szItemS.calls HS (RdIn.elem r_a c19.1 c19.2) h21) (fun _ wd22 ⟨h23, HS⟩ => ⟨_, h23, (GO.assign rfl rfl rfl (GO.nil (G.run 2 rfl ?_)))⟩))))))
      rcases ite_elim H with ⟨c24, H⟩ | ⟨c24, H⟩
      ·
       refine G.yesB rfl (decide_eq_true c24) (G.run 2 rfl ?_)
       obtain rfl := Option.some.inj H
       exact G.ret1 _ func24 rfl rfl ⟨rfl, HS⟩
      refine G.noB rfl (decide_eq_false c24) (G.run 4 rfl (G.weak ?_ (ih_l1 n_l1 (Nat.lt_succ_of_le (Nat.le_refl _)) (Nat.le_of_succ_le hm_l1) _ _ _ H HS)))
      exact ⟨rfl, rfl, rfl, trivial⟩
     refine G.noB rfl (decide_eq_false c18) (G.run 3 rfl ?_)
     obtain rfl := Option.some.inj H
     exact G.ret1 _ func24 rfl rfl ⟨rfl, HS⟩
  refine G.weak ?_ (at_l1 K (Nat.le_refl _) _ _ _ H HS)
  exact ⟨rfl, rfl, rfl, trivial⟩
theorem laws_szBench.calls {w0 w : World} {L : List HObj} {K : Nat} {a_Items : List GItem} {a_Undos a_Redos : List (List GItem)} {left : Int} {A_a : Option Addr} {c_a : Nat} {y_a : Nat → T_GItem.Lay} {A_b : Option Addr} {c_b : Nat} {y_b : Nat → (Ty.slice 95 T_GItem).Lay} {A_c : Option Addr} {c_c : Nat} {y_c : Nat → (Ty.slice 95 T_GItem).Lay} {r1 : Int} (HS : St w0 w (L)) (r_a : RdIn w0 L T_GItem A_a c_a y_a a_Items) (r_b : RdIn w0 L (Ty.slice 95 T_GItem) A_b c_b y_b a_Undos) (r_c : RdIn w0 L (Ty.slice 95 T_GItem) A_c c_c y_c a_Redos) (H : laws_szBench.f K a_Items a_Undos a_Redos left = some r1) :
    Calls prog 7 #[.agg [.slice A_a a_Items.length c_a, .slice A_b a_Undos.length c_b, .slice A_c a_Redos.length c_c].toArray, .int .i64 left] w (laws_szBench.post w0 L r1) := by
  unfold laws_szBench.f at H
  refine Calls.of_G func7 rfl rfl rfl ?_
  refine G.seq (G.region (GO.box (cs := [.slice A_a a_Items.length c_a, .slice A_b a_Undos.length c_b, .slice A_c a_Redos.length c_c]) HS rfl rfl rfl rfl fun b1 wd2 HS => GO.assign rfl rfl rfl (GO.nil (G.seq ?_))))
  obtain ⟨t3, h4, H⟩ := Option.bind_eq_some_iff.1 H
  refine G.region (GO.fld (⟨b1, 0, none⟩) rfl rfl fl25_0 rfl rfl (GO.ldBox (j := 0) HS rfl rfl rfl rfl na22 rfl (GO.move rfl rfl rfl (GO.fn rfl func23 fok23.1 fok23.2 rfl rfl (laws_szItemS.calls HS (RdIn.drop 1 r_a) h4) (fun _ wd5 ⟨h6, HS⟩ => ⟨_, h6, (GO.assign rfl rfl rfl (GO.nil (G.run 3 rfl ?_)))⟩)))))
  rcases ite_elim H with ⟨c7, H⟩ | ⟨c7, H⟩
  ·
   refine G.yesB rfl (decide_eq_true c7) (G.run 2 rfl ?_)
   obtain rfl := Option.some.inj H
   exact G.ret1 _ func7 rfl rfl ⟨rfl, (HS.pk 1 [] rfl)⟩
  refine G.noB rfl (decide_eq_false c7) (G.run 2 rfl ?_)
  obtain ⟨t8, h9, H⟩ := Option.bind_eq_some_iff.1 H
  refine G.region (GO.fld (⟨b1, 1, none⟩) rfl rfl fl25_1 rfl rfl (GO.ldBox (j := 0) HS rfl rfl rfl rfl na23 rfl (GO.move rfl rfl rfl (GO.fn rfl func24 fok24.1 fok24.2 rfl rfl (laws_szItemSS.calls HS (RdIn.drop 1 r_b) h9) (fun _ wd10 ⟨h11, HS⟩ => ⟨_, h11, (GO.assign rfl rfl rfl (GO.nil (G.run 3 rfl ?_)))⟩)))))
  rcases ite_elim H with ⟨c12, H⟩ | ⟨c12, H⟩
  ·
   refine G.yesB rfl (decide_eq_true c12) (G.run 2 rfl ?_)
   obtain rfl := Option.some.inj H
   exact G.ret1 _ func7 rfl rfl ⟨rfl, (HS.pk 1 [] rfl)⟩
  refine G.noB rfl (decide_eq_false c12) (G.run 2 rfl ?_)
  obtain ⟨t13, h14, H⟩ := Option.bind_eq_some_iff.1 H
  refine G.region (GO.fld (⟨b1, 2, none⟩) rfl rfl fl25_2 rfl rfl (GO.ldBox (j := 0) HS rfl rfl rfl rfl na23 rfl (GO.move rfl rfl rfl (GO.fn rfl func24 fok24.1 fok24.2 rfl rfl (laws_szItemSS.calls HS (RdIn.drop 1 r_c) h14) (fun _ wd15 ⟨h16, HS⟩ => ⟨_, h16, (GO.assign rfl rfl rfl (GO.nil (G.run 3 rfl ?_)))⟩)))))
  rcases ite_elim H with ⟨c17, H⟩ | ⟨c17, H⟩
  ·
   refine G.yesB rfl (decide_eq_true c17) (G.run 2 rfl ?_)
   obtain rfl := Option.some.inj H
   exact G.ret1 _ func7 rfl rfl ⟨rfl, (HS.pk 1 [] rfl)⟩
  refine G.noB rfl (decide_eq_false c17) (G.run 3 rfl ?_)
  obtain rfl := Option.some.inj H
  exact G.ret1 _ func7 rfl rfl ⟨rfl, (HS.pk 1 [] rfl)⟩
theorem laws_toFace.calls {w0 w : World} {L : List HObj} {a_Tet a_Perm : Int} {r1 r2 : Int} (HS : St w0 w (L)) (H : laws_toFace.f a_Tet a_Perm = some (r1, r2)) :
    Calls prog 175 #[.agg [.int .i64 a_Tet, .int .i64 a_Perm].toArray] w (laws_toFace.post w0 L r1 r2) := by
  unfold laws_toFace.f at H
  refine Calls.of_G func175 rfl rfl rfl ?_
  refine G.seq (G.region (GO.box (cs := [.int .i64 a_Tet, .int .i64 a_Perm]) HS rfl rfl rfl rfl fun b1 wd2 HS => GO.alloc HS rfl zr140 rfl rfl fun b3 wd4 HS => GO.nil (G.seq (G.region (GO.alloc HS rfl zr140 rfl rfl fun b5 wd6 HS => GO.nil (G.seq (G.region (GO.fld (⟨b1, 0, none⟩) rfl rfl fl200_0 rfl rfl (GO.ldBox (j := 2) HS rfl rfl rfl rfl na2 rfl (GO.fld (⟨b5, 0, none⟩) rfl rfl fl140_0 rfl rfl (GO.stBox (j := 0) (vs := [.int .i64 a_Tet]) ([.int .i64 a_Tet, .int .i64 0]) HS rfl rfl rfl rfl rfl (htN na2 rfl) rfl rfl rfl fun wd7 HS => ?_)))))))))))
  refine GO.nil (G.seq (G.region (GO.fld (⟨b1, 1, none⟩) rfl rfl fl200_1 rfl rfl (GO.ldBox (j := 2) HS rfl rfl rfl rfl na2 rfl (GO.fld (⟨b5, 1, none⟩) rfl rfl fl140_1 rfl rfl (GO.stBox (j := 0) (vs := [.int .i64 a_Perm]) ([.int .i64 a_Tet, .int .i64 a_Perm]) HS rfl rfl rfl rfl rfl (htN na2 rfl) rfl rfl rfl fun wd8 HS => GO.nil (G.seq (G.region (GO.ldBoxA (j := 0) ([.int .i64 a_Tet, .int .i64 a_Perm]) HS rfl rfl rfl rfl ag140 rfl (GO.stBox (j := 1) (vs := [.int .i64 a_Tet, .int .i64 a_Perm]) ([.int .i64 a_Tet, .int .i64 a_Perm]) HS rfl rfl rfl rfl rfl (htA ag140) rfl rfl rfl fun wd9 HS => GO.nil ?_))))))))))
  obtain ⟨rfl, rfl⟩ := some2 H
  exact G.ret1 _ func175 rfl (Res1.boxA (j := 1) (vs := [.int .i64 a_Tet, .int .i64 a_Perm]) HS rfl rfl rfl ag140) ⟨rfl, (HS.pk 3 [] rfl)⟩
theorem laws_toFaceS.calls {w0 w : World} {L : List HObj} {K : Nat} {a_ : List GFace} {A_a : Option Addr} {c_a : Nat} {r1 : List GFace} (HS : St w0 w (L)) (r_a : RdIn w0 L T_GFace A_a c_a (fun _ => ()) a_) (H : laws_toFaceS.f K a_ = some r1) :
    Calls prog 154 #[.slice A_a a_.length c_a] w (laws_toFaceS.post w0 L r1) := by
  unfold laws_toFaceS.f at H
  refine Calls.of_G func154 rfl rfl rfl ?_
  refine G.run 3 rfl ?_
  obtain ⟨c1, H⟩ := ite_none H
  obtain ⟨c2, H⟩ := ite_none H
  refine G.region (GO.move rfl rfl rfl (GO.lenS rfl rfl underlying168 rfl (GO.make (T := T_GFace) z_GFace () HS flat_flat rfl rfl rfl underlying136 inf140 rfl rfl rfl c1 c2 rfl fun b3 wd4 HS => GO.assign rfl rfl rfl (GO.nil (G.run 5 rfl ?_)))))
  refine G.name (fun k_l1 hk_l1 => ?_)
  have at_l1 : ∀ m_l1, m_l1 ≤ K → ∀ (out_16 : List GFace) (i_17 : Int) (w : World), laws_toFaceS.l1 K m_l1 a_ out_16 i_17 = some r1 → St w0 w (Own T_GFace 140 (some ⟨b3, 0, none⟩) ((a_.length : Int).toNat) (fun _ => ()) out_16 :: L) → G prog 154 23 [(0, .slice A_a a_.length c_a), (3, .slice (some ⟨b3, 0, none⟩) out_16.length ((a_.length : Int).toNat)), (4, .int .i64 i_17)] k_l1 w (laws_toFaceS.post w0 L r1) := by
   intro m_l1
   induction m_l1 using Nat.strongRecOn with
   | _ m_l1 ih_l1 =>
    intro hm_l1 out_16 i_17 w H HS
    cases m_l1 with
    | zero => rw [laws_toFaceS.l1] at H; cases H
    | succ n_l1 =>
     rw [laws_toFaceS.l1] at H
     subst hk_l1
     refine G.run 2 rfl (G.region (GO.ps 2 rfl (GO.lenS rfl rfl underlying168 rfl (GO.lss rfl rfl rfl rfl (GO.nil ?_)))))
     rcases ite_elim H with ⟨c29, H⟩ | ⟨c29, H⟩
     ·
      refine G.yesB rfl (decide_eq_true c29) (G.run 3 rfl ?_)
      obtain ⟨c30, H⟩ := ite_none H
      obtain ⟨e31, h32, H⟩ := bnd_elim H
      obtain ⟨t33, t34, h35, H⟩ := bind2_elim H
      obtain ⟨c38, H⟩ := ite_none H
      refine G.region (GO.ps 4 rfl (GO.ix rfl rfl rfl underlying168 sz200 ((RdIn.drop 1 r_a) _ HS).2.2.1 c30.1 c30.2 rfl (GO.ldRdA (T := T_GFace) (n := i_17.toNat) HS (RdIn.drop 1 r_a) rfl rfl (getD_eq (ltN c30) h32) ag200 rfl (GO.fn rfl func175 fok175.1 fok175.2 rfl rfl (laws_toFace.calls HS  h35) (fun _ wd36 ⟨h37, HS⟩ => ⟨_, h37, (GO.ix rfl rfl rfl underlying136 sz140 (fun _ => ⟨_, _, rfl⟩) c38.1 c38.2 rfl (GO.stRow (T := T_GFace) (j := 0) (n := i_17.toNat) (o := 0) (vs := [.int .i64 t33, .int .i64 t34]) (⟨t33, t34⟩ : GFace) HS rfl flat_flat rfl rfl rfl rfl (htA ag140) rfl (getD_some (d := z_GFace) (ltN c38)) rfl rfl fun wd39 HS => GO.nil (G.len (t := 3) (m := (out_16.set i_17.toNat (⟨t33, t34⟩ : GFace)).length) rfl (by simp only [List.length_set] <;> rfl) (G.run 3 rfl (G.weak ?_ (ih_l1 n_l1 (Nat.lt_succ_of_le (Nat.le_refl _)) (Nat.le_of_succ_le hm_l1) _ _ _ H HS))))))⟩)))))
      exact ⟨rfl, rfl, rfl, trivial⟩
     refine G.noB rfl (decide_eq_false c29) (G.run 3 rfl ?_)
     obtain rfl := Option.some.inj H
     exact G.ret1 _ func154 rfl rfl ⟨_, _, rfl, HS⟩
  refine G.weak ?_ (at_l1 K (Nat.le_refl _) _ _ _ H HS)
  exact ⟨rfl, rfl, rfl, trivial⟩
theorem laws_toFaceSS.calls {w0 w : World} {L : List HObj} {K : Nat} {a_ : List (List GFace)} {A_a : Option Addr} {c_a : Nat} {y_a : Nat → (Ty.slice 200 T_GFace).Lay} {r1 : List (List GFace)} (HS : St w0 w (L)) (r_a : RdIn w0 L (Ty.slice 200 T_GFace) A_a c_a y_a a_) (H : laws_toFaceSS.f K a_ = some r1) :
    Calls prog 131 #[.slice A_a a_.length c_a] w (laws_toFaceSS.post w0 L r1) := by
  unfold laws_toFaceSS.f at H
  refine Calls.of_G func131 rfl rfl rfl ?_
  refine G.run 3 rfl ?_
  obtain ⟨c1, H⟩ := ite_none H
  obtain ⟨c2, H⟩ := ite_none H
  refine G.region (GO.move rfl rfl rfl (GO.lenS rfl rfl underlying84 rfl (GO.makeR (S := T_GFace) (u := 140) (fun _ => ()) HS rfl rfl rfl underlying35 inf136 rfl c1 c2 rfl fun b3 wd4 HS => GO.assign rfl rfl rfl (GO.nil (G.run 5 rfl ?_)))))
  refine G.name (fun k_l1 hk_l1 => ?_)
  have at_l1 : ∀ m_l1, m_l1 ≤ K → ∀ (out_16 : List (List GFace)) (y17 : Nat → (Ty.slice 140 T_GFace).Lay) (i_18 : Int) (w : World), laws_toFaceSS.l1 K m_l1 a_ out_16 i_18 = some r1 → St w0 w (Own (Ty.slice 140 T_GFace) 136 (some ⟨b3, 0, none⟩) ((a_.length : Int).toNat) y17 out_16 :: L) → G prog 131 23 [(0, .slice A_a a_.length c_a), (3, .slice (some ⟨b3, 0, none⟩) out_16.length ((a_.length : Int).toNat)), (4, .int .i64 i_18)] k_l1 w (laws_toFaceSS.post w0 L r1) := by
   intro m_l1
   induction m_l1 using Nat.strongRecOn with
   | _ m_l1 ih_l1 =>
    intro hm_l1 out_16 y17 i_18 w H HS
    cases m_l1 with
    | zero => rw [laws_toFaceSS.l1] at H; cases H
    | succ n_l1 =>
     rw [laws_toFaceSS.l1] at H
     subst hk_l1
     refine G.run 2 rfl (G.region (GO.ps 2 rfl (GO.lenS rfl rfl underlying84 rfl (GO.lss rfl rfl rfl rfl (GO.nil ?_)))))
     rcases ite_elim H with ⟨c30, H⟩ | ⟨c30, H⟩
     ·
      refine G.yesB rfl (decide_eq_true c30) (G.run 3 rfl ?_)
      obtain ⟨c31, H⟩ := ite_none H
      obtain ⟨t32, h33, H⟩ := Option.bind_eq_some_iff.1 H
      obtain ⟨c38, H⟩ := ite_none H
      refine G.region (GO.ps 4 rfl (GO.ix rfl rfl rfl underlying84 sz168 ((RdIn.drop 1 r_a) _ HS).2.2.1 c31.1 c31.2 rfl (GO.ldRd (T := (Ty.slice 200 T_GFace)) (n := i_18.toNat) (o := 0) HS (RdIn.drop 1 r_a) rfl rfl (getD_some (d := []) (ltN c31)) rfl rfl na168 rfl (GO.fn rfl func154 fok154.1 fok154.2 rfl rfl (laws_toFaceS.calls HS (RdIn.elem (RdIn.drop 1 r_a) c31.1 c31.2) h33) (fun _ wd36 ⟨A34, c35, h37, HS⟩ => ⟨_, h37, (GO.ix rfl rfl rfl underlying35 sz136 (fun _ => ⟨_, _, rfl⟩) c38.1 c38.2 rfl ?_)⟩)))))
      replace HS := HS.pk 2 [1, 0] rfl
      refine GO.stRowR (S := T_GFace) (u := 140) HS rfl rfl rfl na136 (ltN c38) fun y40 wd39 HS => GO.nil (G.len (t := 3) (m := (out_16.set i_18.toNat t32).length) rfl (by simp only [List.length_set] <;> rfl) (G.run 3 rfl (G.weak ?_ (ih_l1 n_l1 (Nat.lt_succ_of_le (Nat.le_refl _)) (Nat.le_of_succ_le hm_l1) _ _ _ _ H HS))))
      exact ⟨rfl, rfl, rfl, trivial⟩
     refine G.noB rfl (decide_eq_false c30) (G.run 3 rfl ?_)
     obtain rfl := Option.some.inj H
     exact G.ret1 _ func131 rfl rfl ⟨_, _, _, rfl, HS⟩
  refine G.weak ?_ (at_l1 K (Nat.le_refl _) _ _ _ _ H HS)
  exact ⟨rfl, rfl, rfl, trivial⟩
theorem laws_toTriangulation.calls {w0 w : World} {L : List HObj} {K : Nat} {a_Tets : List (List GFace)} {A_a : Option Addr} {c_a : Nat} {y_a : Nat → (Ty.slice 200 T_GFace).Lay} {r1 : List (List GFace)} (HS : St w0 w (L)) (r_a : RdIn w0 L (Ty.slice 200 T_GFace) A_a c_a y_a a_Tets) (H : laws_toTriangulation.f K a_Tets = some r1) :
    Calls prog 98 #[.agg [.slice A_a a_Tets.length c_a].toArray] w (laws_toTriangulation.post w0 L r1) := by
  unfold laws_toTriangulation.f at H
  refine Calls.of_G func98 rfl rfl rfl ?_
  refine G.seq (G.region (GO.box (cs := [.slice A_a a_Tets.length c_a]) HS rfl rfl rfl rfl fun b1 wd2 HS => GO.alloc HS rfl zr37 rfl rfl fun b3 wd4 HS => GO.nil (G.seq (G.region (GO.alloc HS rfl zr37 rfl rfl fun b5 wd6 HS => GO.nil (G.seq ?_))))))
  obtain ⟨t7, h8, H⟩ := Option.bind_eq_some_iff.1 H
  refine G.region (GO.fld (⟨b1, 0, none⟩) rfl rfl fl86_0 rfl rfl (GO.ldBox (j := 2) HS rfl rfl rfl rfl na84 rfl (GO.fn rfl func131 fok131.1 fok131.2 rfl rfl (laws_toFaceSS.calls HS (RdIn.drop 3 r_a) h8) (fun _ wd12 ⟨A9, c10, y11, h13, HS⟩ => ⟨_, h13, (GO.fld (⟨b5, 0, none⟩) rfl rfl fl37_0 rfl rfl (GO.stBox (j := 1) (vs := [.slice A9 t7.length c10]) ([.slice A9 t7.length c10]) HS rfl rfl rfl rfl rfl (htN na35 rfl) rfl rfl rfl fun wd14 HS => GO.nil (G.seq (G.region (GO.ldBoxA (j := 1) ([.slice A9 t7.length c10]) HS rfl rfl rfl rfl ag37 rfl (GO.stBox (j := 2) (vs := [.slice A9 t7.length c10]) ([.slice A9 t7.length c10]) HS rfl rfl rfl rfl rfl (htA ag37) rfl rfl rfl fun wd15 HS => GO.nil ?_))))))⟩))))
  obtain rfl := Option.some.inj H
  exact G.ret1 _ func98 rfl (Res1.boxA (j := 2) (vs := [.slice A9 t7.length c10]) HS rfl rfl rfl ag37) ⟨_, _, _, rfl, (HS.pk 4 [0] rfl)⟩
theorem laws_toCrossing.calls {w0 w : World} {L : List HObj} {a_A a_B : Int} {a_C a_D : Int} {a_Sign r1 : Int} {r2 r3 : Int} {r4 r5 : Int} (HS : St w0 w (L)) (H : laws_toCrossing.f a_A a_B a_C a_D a_Sign = some (r1, r2, r3, r4, r5)) :
    Calls prog 155 #[.agg [.int .i64 a_A, .int .i64 a_B, .int .i64 a_C, .int .i64 a_D, .int .i64 a_Sign].toArray] w (laws_toCrossing.post w0 L r1 r2 r3 r4 r5) := by
  unfold laws_toCrossing.f at H
  refine Calls.of_G func155 rfl rfl rfl ?_
  refine G.seq (G.region (GO.box (cs := [.int .i64 a_A, .int .i64 a_B, .int .i64 a_C, .int .i64 a_D, .int .i64 a_Sign]) HS rfl rfl rfl rfl fun b1 wd2 HS => GO.alloc HS rfl zr143 rfl rfl fun b3 wd4 HS => GO.nil (G.seq (G.region (GO.alloc HS rfl zr143 rfl rfl fun b5 wd6 HS => GO.nil (G.seq (G.region (GO.fld (⟨b1, 0, none⟩) rfl rfl fl181_0 rfl rfl (GO.ldBox (j := 2) HS rfl rfl rfl rfl na2 rfl (GO.fld (⟨b5, 0, none⟩) rfl rfl fl143_0 rfl rfl (GO.stBox (j := 0) (vs := [.int .i64 a_A]) ([.int .i64 a_A, .int .i64 0, .int .i64 0, .int .i64 0, .int .i64 0]) HS rfl rfl rfl rfl rfl (htN na2 rfl) rfl rfl rfl fun wd7 HS => ?_)))))))))))
  refine GO.nil (G.seq (G.region (GO.fld (⟨b1, 1, none⟩) rfl rfl fl181_1 rfl rfl (GO.ldBox (j := 2) HS rfl rfl rfl rfl na2 rfl (GO.fld (⟨b5, 1, none⟩) rfl rfl fl143_1 rfl rfl (GO.stBox (j := 0) (vs := [.int .i64 a_B]) ([.int .i64 a_A, .int .i64 a_B, .int .i64 0, .int .i64 0, .int .i64 0]) HS rfl rfl rfl rfl rfl (htN na2 rfl) rfl rfl rfl fun wd8 HS => GO.nil (G.seq (G.region (GO.fld (⟨b1, 2, none⟩) rfl rfl fl181_2 rfl rfl (GO.ldBox (j := 2) HS rfl rfl rfl rfl na2 rfl (GO.fld (⟨b5, 2, none⟩) rfl rfl fl143_2 rfl rfl (GO.stBox (j := 0) (vs := [.int .i64 a_C]) ([.int .i64 a_A, .int .i64 a_B, .int .i64 a_C, .int .i64 0, .int .i64 0]) HS rfl rfl rfl rfl rfl (htN na2 rfl) rfl rfl rfl fun wd9 HS => GO.nil ?_))))))))))))
  refine G.seq (G.region (GO.fld (⟨b1, 3, none⟩) rfl rfl fl181_3 rfl rfl (GO.ldBox (j := 2) HS rfl rfl rfl rfl na2 rfl (GO.fld (⟨b5, 3, none⟩) rfl rfl fl143_3 rfl rfl (GO.stBox (j := 0) (vs := [.int .i64 a_D]) ([.int .i64 a_A, .int .i64 a_B, .int .i64 a_C, .int .i64 a_D, .int .i64 0]) HS rfl rfl rfl rfl rfl (htN na2 rfl) rfl rfl rfl fun wd10 HS => GO.nil (G.seq (G.region (GO.fld (⟨b1, 4, none⟩) rfl rfl fl181_4 rfl rfl (GO.ldBox (j := 2) HS rfl rfl rfl rfl na2 rfl (GO.fld (⟨b5, 4, none⟩) rfl rfl fl143_4 rfl rfl (GO.stBox (j := 0) (vs := [.int .i64 a_Sign]) ([.int .i64 a_A, .int .i64 a_B, .int .i64 a_C, .int .i64 a_D, .int .i64 a_Sign]) HS rfl rfl rfl rfl rfl (htN na2 rfl) rfl rfl rfl fun wd11 HS => GO.nil (G.seq ?_))))))))))))
  refine G.region (GO.ldBoxA (j := 0) ([.int .i64 a_A, .int .i64 a_B, .int .i64 a_C, .int .i64 a_D, .int .i64 a_Sign]) HS rfl rfl rfl rfl ag143 rfl (GO.stBox (j := 1) (vs := [.int .i64 a_A, .int .i64 a_B, .int .i64 a_C, .int .i64 a_D, .int .i64 a_Sign]) ([.int .i64 a_A, .int .i64 a_B, .int .i64 a_C, .int .i64 a_D, .int .i64 a_Sign]) HS rfl rfl rfl rfl rfl (htA ag143) rfl rfl rfl fun wd12 HS => GO.nil ?_))
  obtain ⟨rfl, rfl, rfl, rfl, rfl⟩ := some5 H
  exact G.ret1 _ func155 rfl (Res1.boxA (j := 1) (vs := [.int .i64 a_A, .int .i64 a_B, .int .i64 a_C, .int .i64 a_D, .int .i64 a_Sign]) HS rfl rfl rfl ag143) ⟨rfl, (HS.pk 3 [] rfl)⟩
theorem laws_toCrossingS.calls {w0 w : World} {L : List HObj} {K : Nat} {a_ : List GCrossing} {A_a : Option Addr} {c_a : Nat} {r1 : List GCrossing} (HS : St w0 w (L)) (r_a : RdIn w0 L T_GCrossing A_a c_a (fun _ => ()) a_) (H : laws_toCrossingS.f K a_ = some r1) :
    Calls prog 132 #[.slice A_a a_.length c_a] w (laws_toCrossingS.post w0 L r1) := by
  unfold laws_toCrossingS.f at H
  refine Calls.of_G func132 rfl rfl rfl ?_
  refine G.run 3 rfl ?_
  obtain ⟨c1, H⟩ := ite_none H
  obtain ⟨c2, H⟩ := ite_none H
  refine G.region (GO.move rfl rfl rfl (GO.lenS rfl rfl underlying87 rfl (GO.make (T := T_GCrossing) z_GCrossing () HS flat_flat rfl rfl rfl underlying38 inf143 rfl rfl rfl c1 c2 rfl fun b3 wd4 HS => GO.assign rfl rfl rfl (GO.nil (G.run 5 rfl ?_)))))
  refine G.name (fun k_l1 hk_l1 => ?_)
  have at_l1 : ∀ m_l1, m_l1 ≤ K → ∀ (out_19 : List GCrossing) (i_20 : Int) (w : World), laws_toCrossingS.l1 K m_l1 a_ out_19 i_20 = some r1 → St w0 w (Own T_GCrossing 143 (some ⟨b3, 0, none⟩) ((a_.length : Int).toNat) (fun _ => ()) out_19 :: L) → G prog 132 23 [(0, .slice A_a a_.length c_a), (3, .slice (some ⟨b3, 0, none⟩) out_19.length ((a_.length : Int).toNat)), (4, .int .i64 i_20)] k_l1 w (laws_toCrossingS.post w0 L r1) := by
   intro m_l1
   induction m_l1 using Nat.strongRecOn with
   | _ m_l1 ih_l1 =>
    intro hm_l1 out_19 i_20 w H HS
    cases m_l1 with
    | zero => rw [laws_toCrossingS.l1] at H; cases H
    | succ n_l1 =>
     rw [laws_toCrossingS.l1] at H
     subst hk_l1
     refine G.run 2 rfl (G.region (GO.ps 2 rfl (GO.lenS rfl rfl underlying87 rfl (GO.lss rfl rfl rfl rfl (GO.nil ?_)))))
     rcases ite_elim H with ⟨c35, H⟩ | ⟨c35, H⟩
     ·
      refine G.yesB rfl (decide_eq_true c35) (G.run 3 rfl ?_)
      obtain ⟨c36, H⟩ := ite_none H
      obtain ⟨e37, h38, H⟩ := bnd_elim H
      obtain ⟨t39, t40, t41, t42, t43, h44, H⟩ := bind5_elim H
      obtain ⟨c47, H⟩ := ite_none H
      refine G.region (GO.ps 4 rfl (GO.ix rfl rfl rfl underlying87 sz181 ((RdIn.drop 1 r_a) _ HS).2.2.1 c36.1 c36.2 rfl (GO.ldRdA (T := T_GCrossing) (n := i_20.toNat) HS (RdIn.drop 1 r_a) rfl rfl (getD_eq (ltN c36) h38) ag181 rfl (GO.fn rfl func155 fok155.1 fok155.2 rfl rfl (laws_toCrossing.calls HS  h44) (fun _ wd45 ⟨h46, HS⟩ => ⟨_, h46, (GO.ix rfl rfl rfl underlying38 sz143 (fun _ => ⟨_, _, rfl⟩) c47.1 c47.2 rfl (GO.stRow (T := T_GCrossing) (j := 0) (n := i_20.toNat) (o := 0) (vs := [.int .i64 t39, .int .i64 t40, .int .i64 t41, .int .i64 t42, .int .i64 t43]) (⟨t39, t40, t41, t42, t43⟩ : GCrossing) HS rfl flat_flat rfl rfl rfl rfl (htA ag143) rfl (getD_some (d := z_GCrossing) (ltN c47)) rfl rfl fun wd48 HS => GO.nil (G.len (t := 3) (m := (out_19.set i_20.toNat (⟨t39, t40, t41, t42, t43⟩ : GCrossing)).length) rfl (by simp only [List.length_set] <;> rfl) (G.run 3 rfl (G.weak ?_ (ih_l1 n_l1 (Nat.lt_succ_of_le (Nat.le_refl _)) (Nat.le_of_succ_le hm_l1) _ _ _ H HS))))))⟩)))))
      exact ⟨rfl, rfl, rfl, trivial⟩
     refine G.noB rfl (decide_eq_false c35) (G.run 3 rfl ?_)
     obtain rfl := Option.some.inj H
     exact G.ret1 _ func132 rfl rfl ⟨_, _, rfl, HS⟩
  refine G.weak ?_ (at_l1 K (Nat.le_refl _) _ _ _ H HS)
  exact ⟨rfl, rfl, rfl, trivial⟩
theorem laws_toDiagram.calls {w0 w : World} {L : List HObj} {K : Nat} {a_Crossings : List GCrossing} {a_Circles : Int} {A_a : Option Addr} {c_a : Nat} {r1 : List GCrossing} {r2 : Int} (HS : St w0 w (L)) (r_a : RdIn w0 L T_GCrossing A_a c_a (fun _ => ()) a_Crossings) (H : laws_toDiagram.f K a_Crossings a_Circles = some (r1, r2)) :
    Calls prog 99 #[.agg [.slice A_a a_Crossings.length c_a, .int .i64 a_Circles].toArray] w (laws_toDiagram.post w0 L r1 r2) := by
  unfold laws_toDiagram.f at H
  refine Calls.of_G func99 rfl rfl rfl ?_
  refine G.seq (G.region (GO.box (cs := [.slice A_a a_Crossings.length c_a, .int .i64 a_Circles]) HS rfl rfl rfl rfl fun b1 wd2 HS => GO.alloc HS rfl zr40 rfl rfl fun b3 wd4 HS => GO.nil (G.seq (G.region (GO.alloc HS rfl zr40 rfl rfl fun b5 wd6 HS => GO.nil (G.seq ?_))))))
  obtain ⟨t7, h8, H⟩ := Option.bind_eq_some_iff.1 H
  refine G.region (GO.fld (⟨b1, 0, none⟩) rfl rfl fl89_0 rfl rfl (GO.ldBox (j := 2) HS rfl rfl rfl rfl na87 rfl (GO.fn rfl func132 fok132.1 fok132.2 rfl rfl (laws_toCrossingS.calls HS (RdIn.drop 3 r_a) h8) (fun _ wd11 ⟨A9, c10, h12, HS⟩ => ⟨_, h12, (GO.fld (⟨b5, 0, none⟩) rfl rfl fl40_0 rfl rfl (GO.stBox (j := 1) (vs := [.slice A9 t7.length c10]) ([.slice A9 t7.length c10, .int .i64 0]) HS rfl rfl rfl rfl rfl (htN na38 rfl) rfl rfl rfl fun wd13 HS => GO.nil (G.seq (G.region (GO.fld (⟨b1, 1, none⟩) rfl rfl fl89_1 rfl rfl (GO.ldBox (j := 3) HS rfl rfl rfl rfl na2 rfl (GO.fld (⟨b5, 1, none⟩) rfl rfl fl40_1 rfl rfl (GO.stBox (j := 1) (vs := [.int .i64 a_Circles]) ([.slice A9 t7.length c10, .int .i64 a_Circles]) HS rfl rfl rfl rfl rfl (htN na2 rfl) rfl rfl rfl fun wd14 HS => GO.nil (G.seq ?_)))))))))⟩))))
  refine G.region (GO.ldBoxA (j := 1) ([.slice A9 t7.length c10, .int .i64 a_Circles]) HS rfl rfl rfl rfl ag40 rfl (GO.stBox (j := 2) (vs := [.slice A9 t7.length c10, .int .i64 a_Circles]) ([.slice A9 t7.length c10, .int .i64 a_Circles]) HS rfl rfl rfl rfl rfl (htA ag40) rfl rfl rfl fun wd15 HS => GO.nil ?_))
  obtain ⟨rfl, rfl⟩ := some2 H
  exact G.ret1 _ func99 rfl (Res1.boxA (j := 2) (vs := [.slice A9 t7.length c10, .int .i64 a_Circles]) HS rfl rfl rfl ag40) ⟨_, _, rfl, (HS.pk 4 [0] rfl)⟩
theorem laws_toInt64S.calls {w0 w : World} {L : List HObj} {K : Nat} {a_ : List Int} {A_a : Option Addr} {c_a : Nat} {r1 : List Int} (HS : St w0 w (L)) (r_a : RdIn w0 L (TInt .i64) A_a c_a (fun _ => ()) a_) (H : laws_toInt64S.f K a_ = some r1) :
    Calls prog 133 #[.slice A_a a_.length c_a] w (laws_toInt64S.post w0 L r1) := by
  unfold laws_toInt64S.f at H
  refine Calls.of_G func133 rfl rfl rfl ?_
  refine G.run 3 rfl ?_
  obtain ⟨c1, H⟩ := ite_none H
  obtain ⟨c2, H⟩ := ite_none H
  refine G.region (GO.move rfl rfl rfl (GO.lenS rfl rfl underlying41 rfl (GO.make (T := (TInt .i64)) 0 () HS flat_flat rfl rfl rfl underlying41 inf2 rfl rfl rfl c1 c2 rfl fun b3 wd4 HS => GO.assign rfl rfl rfl (GO.nil (G.run 5 rfl ?_)))))
  refine G.name (fun k_l1 hk_l1 => ?_)
  have at_l1 : ∀ m_l1, m_l1 ≤ K → ∀ (out_9 : List Int) (i_10 : Int) (w : World), laws_toInt64S.l1 K m_l1 a_ out_9 i_10 = some r1 → St w0 w (Own (TInt .i64) 2 (some ⟨b3, 0, none⟩) ((a_.length : Int).toNat) (fun _ => ()) out_9 :: L) → G prog 133 22 [(0, .slice A_a a_.length c_a), (3, .slice (some ⟨b3, 0, none⟩) out_9.length ((a_.length : Int).toNat)), (4, .int .i64 i_10)] k_l1 w (laws_toInt64S.post w0 L r1) := by
   intro m_l1
   induction m_l1 using Nat.strongRecOn with
   | _ m_l1 ih_l1 =>
    intro hm_l1 out_9 i_10 w H HS
    cases m_l1 with
    | zero => rw [laws_toInt64S.l1] at H; cases H
    | succ n_l1 =>
     rw [laws_toInt64S.l1] at H
     subst hk_l1
     refine G.run 2 rfl (G.region (GO.ps 2 rfl (GO.lenS rfl rfl underlying41 rfl (GO.lss rfl rfl rfl rfl (GO.nil ?_)))))
     rcases ite_elim H with ⟨c15, H⟩ | ⟨c15, H⟩
     ·
      refine G.yesB rfl (decide_eq_true c15) (G.run 3 rfl ?_)
      obtain ⟨c16, H⟩ := ite_none H
      obtain ⟨c17, H⟩ := ite_none H
      refine G.region (GO.ps 4 rfl (GO.ix rfl rfl rfl underlying41 sz2 ((RdIn.drop 1 r_a) _ HS).2.2.1 c16.1 c16.2 rfl (GO.ldRd (T := (TInt .i64)) (n := i_10.toNat) (o := 0) HS (RdIn.drop 1 r_a) rfl rfl (getD_some (d := 0) (ltN c16)) rfl rfl na2 rfl (GO.ix rfl rfl rfl underlying41 sz2 (fun _ => ⟨_, _, rfl⟩) c17.1 c17.2 rfl (GO.stRow (T := (TInt .i64)) (j := 0) (n := i_10.toNat) (o := 0) (vs := [.int .i64 (a_.getD i_10.toNat 0)]) (a_.getD i_10.toNat 0) HS rfl flat_flat rfl rfl rfl rfl (htN na2 rfl) rfl (getD_some (d := 0) (ltN c17)) rfl rfl fun wd18 HS => GO.nil (G.len (t := 3) (m := (out_9.set i_10.toNat (a_.getD i_10.toNat 0)).length) rfl (by simp only [List.length_set] <;> rfl) (G.run 3 rfl (G.weak ?_ (ih_l1 n_l1 (Nat.lt_succ_of_le (Nat.le_refl _)) (Nat.le_of_succ_le hm_l1) _ _ _ H HS)))))))))
      exact ⟨rfl, rfl, rfl, trivial⟩
     refine G.noB rfl (decide_eq_false c15) (G.run 3 rfl ?_)
     obtain rfl := Option.some.inj H
     exact G.ret1 _ func133 rfl rfl ⟨_, _, rfl, HS⟩
  refine G.weak ?_ (at_l1 K (Nat.le_refl _) _ _ _ H HS)
  exact ⟨rfl, rfl, rfl, trivial⟩
theorem laws_toBraid.calls {w0 w : World} {L : List HObj} {K : Nat} {a_Strands : Int} {a_Word : List Int} {A_a : Option Addr} {c_a : Nat} {r1 : Int} {r2 : List Int} (HS : St w0 w (L)) (r_a : RdIn w0 L (TInt .i64) A_a c_a (fun _ => ()) a_Word) (H : laws_toBraid.f K a_Strands a_Word = some (r1, r2)) :
    Calls prog 100 #[.agg [.int .i64 a_Strands, .slice A_a a_Word.length c_a].toArray] w (laws_toBraid.post w0 L r1 r2) := by
  unfold laws_toBraid.f at H
  refine Calls.of_G func100 rfl rfl rfl ?_
  refine G.seq (G.region (GO.box (cs := [.int .i64 a_Strands, .slice A_a a_Word.length c_a]) HS rfl rfl rfl rfl fun b1 wd2 HS => GO.alloc HS rfl zr43 rfl rfl fun b3 wd4 HS => GO.nil (G.seq (G.region (GO.alloc HS rfl zr43 rfl rfl fun b5 wd6 HS => GO.nil (G.seq (G.region (GO.fld (⟨b1, 0, none⟩) rfl rfl fl90_0 rfl rfl (GO.ldBox (j := 2) HS rfl rfl rfl rfl na2 rfl (GO.fld (⟨b5, 0, none⟩) rfl rfl fl43_0 rfl rfl (GO.stBox (j := 0) (vs := [.int .i64 a_Strands]) ([.int .i64 a_Strands, .slice none 0 0]) HS rfl rfl rfl rfl rfl (htN na2 rfl) rfl rfl rfl fun wd7 HS => ?_)))))))))))
  refine GO.nil (G.seq ?_)
  obtain ⟨t8, h9, H⟩ := Option.bind_eq_some_iff.1 H
  refine G.region (GO.fld (⟨b1, 1, none⟩) rfl rfl fl90_1 rfl rfl (GO.ldBox (j := 2) HS rfl rfl rfl rfl na41 rfl (GO.fn rfl func133 fok133.1 fok133.2 rfl rfl (laws_toInt64S.calls HS (RdIn.drop 3 r_a) h9) (fun _ wd12 ⟨A10, c11, h13, HS⟩ => ⟨_, h13, (GO.fld (⟨b5, 1, none⟩) rfl rfl fl43_1 rfl rfl (GO.stBox (j := 1) (vs := [.slice A10 t8.length c11]) ([.int .i64 a_Strands, .slice A10 t8.length c11]) HS rfl rfl rfl rfl rfl (htN na41 rfl) rfl rfl rfl fun wd14 HS => GO.nil (G.seq (G.region (GO.ldBoxA (j := 1) ([.int .i64 a_Strands, .slice A10 t8.length c11]) HS rfl rfl rfl rfl ag43 rfl (GO.stBox (j := 2) (vs := [.int .i64 a_Strands, .slice A10 t8.length c11]) ([.int .i64 a_Strands, .slice A10 t8.length c11]) HS rfl rfl rfl rfl rfl (htA ag43) rfl rfl rfl fun wd15 HS => GO.nil ?_))))))⟩))))
  obtain ⟨rfl, rfl⟩ := some2 H
  exact G.ret1 _ func100 rfl (Res1.boxA (j := 2) (vs := [.int .i64 a_Strands, .slice A10 t8.length c11]) HS rfl rfl rfl ag43) ⟨_, _, rfl, (HS.pk 4 [0] rfl)⟩
theorem laws_toMove.calls {w0 w : World} {L : List HObj} {a_Kind a_Tet : Int} {a_Index r1 : Int} {r2 r3 : Int} (HS : St w0 w (L)) (H : laws_toMove.f a_Kind a_Tet a_Index = some (r1, r2, r3)) :
    Calls prog 156 #[.agg [.int .i64 a_Kind, .int .i64 a_Tet, .int .i64 a_Index].toArray] w (laws_toMove.post w0 L r1 r2 r3) := by
  unfold laws_toMove.f at H
  refine Calls.of_G func156 rfl rfl rfl ?_
  refine G.seq (G.region (GO.box (cs := [.int .i64 a_Kind, .int .i64 a_Tet, .int .i64 a_Index]) HS rfl rfl rfl rfl fun b1 wd2 HS => GO.alloc HS rfl zr110 rfl rfl fun b3 wd4 HS => GO.nil (G.seq (G.region (GO.alloc HS rfl zr110 rfl rfl fun b5 wd6 HS => GO.nil (G.seq (G.region (GO.fld (⟨b1, 0, none⟩) rfl rfl fl183_0 rfl rfl (GO.ldBox (j := 2) HS rfl rfl rfl rfl na2 rfl (GO.fld (⟨b5, 0, none⟩) rfl rfl fl110_0 rfl rfl (GO.stBox (j := 0) (vs := [.int .i64 a_Kind]) ([.int .i64 a_Kind, .int .i64 0, .int .i64 0]) HS rfl rfl rfl rfl rfl (htN na2 rfl) rfl rfl rfl fun wd7 HS => ?_)))))))))))
  refine GO.nil (G.seq (G.region (GO.fld (⟨b1, 1, none⟩) rfl rfl fl183_1 rfl rfl (GO.ldBox (j := 2) HS rfl rfl rfl rfl na2 rfl (GO.fld (⟨b5, 1, none⟩) rfl rfl fl110_1 rfl rfl (GO.stBox (j := 0) (vs := [.int .i64 a_Tet]) ([.int .i64 a_Kind, .int .i64 a_Tet, .int .i64 0]) HS rfl rfl rfl rfl rfl (htN na2 rfl) rfl rfl rfl fun wd8 HS => GO.nil (G.seq (G.region (GO.fld (⟨b1, 2, none⟩) rfl rfl fl183_2 rfl rfl (GO.ldBox (j := 2) HS rfl rfl rfl rfl na2 rfl (GO.fld (⟨b5, 2, none⟩) rfl rfl fl110_2 rfl rfl (GO.stBox (j := 0) (vs := [.int .i64 a_Index]) ([.int .i64 a_Kind, .int .i64 a_Tet, .int .i64 a_Index]) HS rfl rfl rfl rfl rfl (htN na2 rfl) rfl rfl rfl fun wd9 HS => GO.nil ?_))))))))))))
  refine G.seq (G.region (GO.ldBoxA (j := 0) ([.int .i64 a_Kind, .int .i64 a_Tet, .int .i64 a_Index]) HS rfl rfl rfl rfl ag110 rfl (GO.stBox (j := 1) (vs := [.int .i64 a_Kind, .int .i64 a_Tet, .int .i64 a_Index]) ([.int .i64 a_Kind, .int .i64 a_Tet, .int .i64 a_Index]) HS rfl rfl rfl rfl rfl (htA ag110) rfl rfl rfl fun wd10 HS => GO.nil ?_)))
  obtain ⟨rfl, rfl, rfl⟩ := some3 H
  exact G.ret1 _ func156 rfl (Res1.boxA (j := 1) (vs := [.int .i64 a_Kind, .int .i64 a_Tet, .int .i64 a_Index]) HS rfl rfl rfl ag110) ⟨rfl, (HS.pk 3 [] rfl)⟩
theorem laws_toMoveS.calls {w0 w : World} {L : List HObj} {K : Nat} {a_ : List GMove} {A_a : Option Addr} {c_a : Nat} {r1 : List GMove} (HS : St w0 w (L)) (r_a : RdIn w0 L T_GMove A_a c_a (fun _ => ()) a_) (H : laws_toMoveS.f K a_ = some r1) :
    Calls prog 134 #[.slice A_a a_.length c_a] w (laws_toMoveS.post w0 L r1) := by
  unfold laws_toMoveS.f at H
  refine Calls.of_G func134 rfl rfl rfl ?_
  refine G.run 3 rfl ?_
  obtain ⟨c1, H⟩ := ite_none H
  obtain ⟨c2, H⟩ := ite_none H
  refine G.region (GO.move rfl rfl rfl (GO.lenS rfl rfl underlying91 rfl (GO.make (T := T_GMove) z_GMove () HS flat_flat rfl rfl rfl underlying44 inf110 rfl rfl rfl c1 c2 rfl fun b3 wd4 HS => GO.assign rfl rfl rfl (GO.nil (G.run 5 rfl ?_)))))
  refine G.name (fun k_l1 hk_l1 => ?_)
  have at_l1 : ∀ m_l1, m_l1 ≤ K → ∀ (out_17 : List GMove) (i_18 : Int) (w : World), laws_toMoveS.l1 K m_l1 a_ out_17 i_18 = some r1 → St w0 w (Own T_GMove 110 (some ⟨b3, 0, none⟩) ((a_.length : Int).toNat) (fun _ => ()) out_17 :: L) → G prog 134 23 [(0, .slice A_a a_.length c_a), (3, .slice (some ⟨b3, 0, none⟩) out_17.length ((a_.length : Int).toNat)), (4, .int .i64 i_18)] k_l1 w (laws_toMoveS.post w0 L r1) := by
   intro m_l1
   induction m_l1 using Nat.strongRecOn with
   | _ m_l1 ih_l1 =>
    intro hm_l1 out_17 i_18 w H HS
    cases m_l1 with
    | zero => rw [laws_toMoveS.l1] at H; cases H
    | succ n_l1 =>
     rw [laws_toMoveS.l1] at H
     subst hk_l1
     refine G.run 2 rfl (G.region (GO.ps 2 rfl (GO.lenS rfl rfl underlying91 rfl (GO.lss rfl rfl rfl rfl (GO.nil ?_)))))
     rcases ite_elim H with ⟨c31, H⟩ | ⟨c31, H⟩
     ·
      refine G.yesB rfl (decide_eq_true c31) (G.run 3 rfl ?_)
      obtain ⟨c32, H⟩ := ite_none H
      obtain ⟨e33, h34, H⟩ := bnd_elim H
      obtain ⟨t35, t36, t37, h38, H⟩ := bind3_elim H
      obtain ⟨c41, H⟩ := ite_none H
      refine G.region (GO.ps 4 rfl (GO.ix rfl rfl rfl underlying91 sz183 ((RdIn.drop 1 r_a) _ HS).2.2.1 c32.1 c32.2 rfl (GO.ldRdA (T := T_GMove) (n := i_18.toNat) HS (RdIn.drop 1 r_a) rfl rfl (getD_eq (ltN c32) h34) ag183 rfl (GO.fn rfl func156 fok156.1 fok156.2 rfl rfl (laws_toMove.calls HS  h38) (fun _ wd39 ⟨h40, HS⟩ => ⟨_, h40, (GO.ix rfl rfl rfl underlying44 sz110 (fun _ => ⟨_, _, rfl⟩) c41.1 c41.2 rfl (GO.stRow (T := T_GMove) (j := 0) (n := i_18.toNat) (o := 0) (vs := [.int .i64 t35, .int .i64 t36, .int .i64 t37]) (⟨t35, t36, t37⟩ : GMove) HS rfl flat_flat rfl rfl rfl rfl (htA ag110) rfl (getD_some (d := z_GMove) (ltN c41)) rfl rfl fun wd42 HS => GO.nil (G.len (t := 3) (m := (out_17.set i_18.toNat (⟨t35, t36, t37⟩ : GMove)).length) rfl (by simp only [List.length_set] <;> rfl) (G.run 3 rfl (G.weak ?_ (ih_l1 n_l1 (Nat.lt_succ_of_le (Nat.le_refl _)) (Nat.le_of_succ_le hm_l1) _ _ _ H HS))))))⟩)))))
      exact ⟨rfl, rfl, rfl, trivial⟩
     refine G.noB rfl (decide_eq_false c31) (G.run 3 rfl ?_)
     obtain rfl := Option.some.inj H
     exact G.ret1 _ func134 rfl rfl ⟨_, _, rfl, HS⟩
  refine G.weak ?_ (at_l1 K (Nat.le_refl _) _ _ _ H HS)
  exact ⟨rfl, rfl, rfl, trivial⟩
theorem laws_toCertificate.calls {w0 w : World} {L : List HObj} {K : Nat} {a_Name a_Trait : Int} {a_Moves : List GMove} {a_Tets a_Perms : List Int} {A_a : Option Addr} {c_a : Nat} {A_b : Option Addr} {c_b : Nat} {A_c : Option Addr} {c_c : Nat} {r1 r2 : Int} {r3 : List GMove} {r4 r5 : List Int} (HS : St w0 w (L)) (r_a : RdIn w0 L T_GMove A_a c_a (fun _ => ()) a_Moves) (r_b : RdIn w0 L (TInt .i64) A_b c_b (fun _ => ()) a_Tets) (r_c : RdIn w0 L (TInt .i64) A_c c_c (fun _ => ()) a_Perms) (H : laws_toCertificate.f K a_Name a_Trait a_Moves a_Tets a_Perms = some (r1, r2, r3, r4, r5)) :
    Calls prog 101 #[.agg [.int .i64 a_Name, .int .i64 a_Trait, .slice A_a a_Moves.length c_a, .slice A_b a_Tets.length c_b, .slice A_c a_Perms.length c_c].toArray] w (laws_toCertificate.post w0 L r1 r2 r3 r4 r5) := by
  unfold laws_toCertificate.f at H
  refine Calls.of_G func101 rfl rfl rfl ?_
  refine G.seq (G.region (GO.box (cs := [.int .i64 a_Name, .int .i64 a_Trait, .slice A_a a_Moves.length c_a, .slice A_b a_Tets.length c_b, .slice A_c a_Perms.length c_c]) HS rfl rfl rfl rfl fun b1 wd2 HS => GO.alloc HS rfl zr46 rfl rfl fun b3 wd4 HS => GO.nil (G.seq (G.region (GO.alloc HS rfl zr46 rfl rfl fun b5 wd6 HS => GO.nil (G.seq (G.region (GO.fld (⟨b1, 0, none⟩) rfl rfl fl93_0 rfl rfl (GO.ldBox (j := 2) HS rfl rfl rfl rfl na2 rfl (GO.fld (⟨b5, 0, none⟩) rfl rfl fl46_0 rfl rfl (GO.stBox (j := 0) (vs := [.int .i64 a_Name]) ([.int .i64 a_Name, .int .i64 0, .slice none 0 0, .slice none 0 0, .slice none 0 0]) HS rfl rfl rfl rfl rfl (htN na2 rfl) rfl rfl rfl fun wd7 HS => ?_)))))))))))
  refine GO.nil (G.seq (G.region (GO.fld (⟨b1, 1, none⟩) rfl rfl fl93_1 rfl rfl (GO.ldBox (j := 2) HS rfl rfl rfl rfl na2 rfl (GO.fld (⟨b5, 1, none⟩) rfl rfl fl46_1 rfl rfl (GO.stBox (j := 0) (vs := [.int .i64 a_Trait]) ([.int .i64 a_Name, .int .i64 a_Trait, .slice none 0 0, .slice none 0 0, .slice none 0 0]) HS rfl rfl rfl rfl rfl (htN na2 rfl) rfl rfl rfl fun wd8 HS => GO.nil (G.seq ?_)))))))
  obtain ⟨t9, h10, H⟩ := Option.bind_eq_some_iff.1 H
  refine G.region (GO.fld (⟨b1, 2, none⟩) rfl rfl fl93_2 rfl rfl (GO.ldBox (j := 2) HS rfl rfl rfl rfl na91 rfl (GO.fn rfl func134 fok134.1 fok134.2 rfl rfl (laws_toMoveS.calls HS (RdIn.drop 3 r_a) h10) (fun _ wd13 ⟨A11, c12, h14, HS⟩ => ⟨_, h14, (GO.fld (⟨b5, 2, none⟩) rfl rfl fl46_2 rfl rfl (GO.stBox (j := 1) (vs := [.slice A11 t9.length c12]) ([.int .i64 a_Name, .int .i64 a_Trait, .slice A11 t9.length c12, .slice none 0 0, .slice none 0 0]) HS rfl rfl rfl rfl rfl (htN na44 rfl) rfl rfl rfl fun wd15 HS => GO.nil (G.seq ?_)))⟩))))
  obtain ⟨t16, h17, H⟩ := Option.bind_eq_some_iff.1 H
  refine G.region (GO.fld (⟨b1, 3, none⟩) rfl rfl fl93_3 rfl rfl (GO.ldBox (j := 3) HS rfl rfl rfl rfl na41 rfl (GO.fn rfl func133 fok133.1 fok133.2 rfl rfl (laws_toInt64S.calls HS (RdIn.drop 4 r_b) h17) (fun _ wd20 ⟨A18, c19, h21, HS⟩ => ⟨_, h21, (GO.fld (⟨b5, 3, none⟩) rfl rfl fl46_3 rfl rfl (GO.stBox (j := 2) (vs := [.slice A18 t16.length c19]) ([.int .i64 a_Name, .int .i64 a_Trait, .slice A11 t9.length c12, .slice A18 t16.length c19, .slice none 0 0]) HS rfl rfl rfl rfl rfl (htN na41 rfl) rfl rfl rfl fun wd22 HS => GO.nil (G.seq ?_)))⟩))))
  obtain ⟨t23, h24, H⟩ := Option.bind_eq_some_iff.1 H
  refine G.region (GO.fld (⟨b1, 4, none⟩) rfl rfl fl93_4 rfl rfl (GO.ldBox (j := 4) HS rfl rfl rfl rfl na41 rfl (GO.fn rfl func133 fok133.1 fok133.2 rfl rfl (laws_toInt64S.calls HS (RdIn.drop 5 r_c) h24) (fun _ wd27 ⟨A25, c26, h28, HS⟩ => ⟨_, h28, (GO.fld (⟨b5, 4, none⟩) rfl rfl fl46_4 rfl rfl (GO.stBox (j := 3) (vs := [.slice A25 t23.length c26]) ([.int .i64 a_Name, .int .i64 a_Trait, .slice A11 t9.length c12, .slice A18 t16.length c19, .slice A25 t23.length c26]) HS rfl rfl rfl rfl rfl (htN na41 rfl) rfl rfl rfl fun wd29 HS => GO.nil (G.seq (G.region (GO.ldBoxA (j := 3) ([.int .i64 a_Name, .int .i64 a_Trait, .slice A11 t9.length c12, .slice A18 t16.length c19, .slice A25 t23.length c26]) HS rfl rfl rfl rfl ag46 rfl (GO.stBox (j := 4) (vs := [.int .i64 a_Name, .int .i64 a_Trait, .slice A11 t9.length c12, .slice A18 t16.length c19, .slice A25 t23.length c26]) ([.int .i64 a_Name, .int .i64 a_Trait, .slice A11 t9.length c12, .slice A18 t16.length c19, .slice A25 t23.length c26]) HS rfl rfl rfl rfl rfl (htA ag46) rfl rfl rfl fun wd30 HS => GO.nil ?_))))))⟩))))
  obtain ⟨rfl, rfl, rfl, rfl, rfl⟩ := some5 H
  exact G.ret1 _ func101 rfl (Res1.boxA (j := 4) (vs := [.int .i64 a_Name, .int .i64 a_Trait, .slice A11 t9.length c12, .slice A18 t16.length c19, .slice A25 t23.length c26]) HS rfl rfl rfl ag46) ⟨_, _, _, _, _, _, rfl, (HS.pk 6 [2, 1, 0] rfl)⟩
theorem laws_toItem.calls {w0 w : World} {L : List HObj} {K : Nat} {a_Name : ByteArray} {a_Kind : Int} {a_Triangulation_Tets : List (List GFace)} {a_Diagram_Crossings : List GCrossing} {a_Diagram_Circles a_Braid_Strands : Int} {a_Braid_Word : List Int} {a_Certificate_Name a_Certificate_Trait : Int} {a_Certificate_Moves : List GMove} {a_Certificate_Tets a_Certificate_Perms : List Int} {A_a : Option Addr} {c_a : Nat} {y_a : Nat → (Ty.slice 200 T_GFace).Lay} {A_b : Option Addr} {c_b : Nat} {A_c : Option Addr} {c_c : Nat} {A_d : Option Addr} {c_d : Nat} {A_e : Option Addr} {c_e : Nat} {A_f : Option Addr} {c_f : Nat} {r1 : ByteArray} {r2 : Int} {r3 : List (List GFace)} {r4 : List GCrossing} {r5 r6 : Int} {r7 : List Int} {r8 r9 : Int} {r10 : List GMove} {r11 r12 : List Int} (HS : St w0 w (L)) (r_a : RdIn w0 L (Ty.slice 200 T_GFace) A_a c_a y_a a_Triangulation_Tets) (r_b : RdIn w0 L T_GCrossing A_b c_b (fun _ => ()) a_Diagram_Crossings) (r_c : RdIn w0 L (TInt .i64) A_c c_c (fun _ => ()) a_Braid_Word) (r_d : RdIn w0 L T_GMove A_d c_d (fun _ => ()) a_Certificate_Moves) (r_e : RdIn w0 L (TInt .i64) A_e c_e (fun _ => ()) a_Certificate_Tets) (r_f : RdIn w0 L (TInt .i64) A_f c_f (fun _ => ()) a_Certificate_Perms) (H : laws_toItem.f K a_Name a_Kind a_Triangulation_Tets a_Diagram_Crossings a_Diagram_Circles a_Braid_Strands a_Braid_Word a_Certificate_Name a_Certificate_Trait a_Certificate_Moves a_Certificate_Tets a_Certificate_Perms = some (r1, r2, r3, r4, r5, r6, r7, r8, r9, r10, r11, r12)) :
    Calls prog 59 #[.agg [.string a_Name, .int .i64 a_Kind, .slice A_a a_Triangulation_Tets.length c_a, .slice A_b a_Diagram_Crossings.length c_b, .int .i64 a_Diagram_Circles, .int .i64 a_Braid_Strands, .slice A_c a_Braid_Word.length c_c, .int .i64 a_Certificate_Name, .int .i64 a_Certificate_Trait, .slice A_d a_Certificate_Moves.length c_d, .slice A_e a_Certificate_Tets.length c_e, .slice A_f a_Certificate_Perms.length c_f].toArray] w (laws_toItem.post w0 L r1 r2 r3 r4 r5 r6 r7 r8 r9 r10 r11 r12) := by
  unfold laws_toItem.f at H
  refine Calls.of_G func59 rfl rfl rfl ?_
  refine G.seq (G.region (GO.box (cs := [.string a_Name, .int .i64 a_Kind, .slice A_a a_Triangulation_Tets.length c_a, .slice A_b a_Diagram_Crossings.length c_b, .int .i64 a_Diagram_Circles, .int .i64 a_Braid_Strands, .slice A_c a_Braid_Word.length c_c, .int .i64 a_Certificate_Name, .int .i64 a_Certificate_Trait, .slice A_d a_Certificate_Moves.length c_d, .slice A_e a_Certificate_Tets.length c_e, .slice A_f a_Certificate_Perms.length c_f]) HS rfl rfl rfl rfl fun b1 wd2 HS => GO.alloc HS rfl zr48 rfl rfl fun b3 wd4 HS => GO.nil (G.seq (G.region (GO.alloc HS rfl zr48 rfl rfl fun b5 wd6 HS => GO.nil (G.seq (G.region (GO.fld (⟨b1, 0, none⟩) rfl rfl fl95_0 rfl rfl (GO.ldBox (j := 2) HS rfl rfl rfl rfl na9 rfl (GO.fld (⟨b5, 0, none⟩) rfl rfl fl48_0 rfl rfl (GO.stBox (j := 0) (vs := [.string a_Name]) ([.string a_Name, .int .i64 0, .slice none 0 0, .slice none 0 0, .int .i64 0, .int .i64 0, .slice none 0 0, .int .i64 0, .int .i64 0, .slice none 0 0, .slice none 0 0, .slice none 0 0]) HS rfl rfl rfl rfl rfl (htN na9 rfl) rfl rfl rfl fun wd7 HS => ?_)))))))))))
  refine GO.nil (G.seq (G.region (GO.fld (⟨b1, 1, none⟩) rfl rfl fl95_1 rfl rfl (GO.ldBox (j := 2) HS rfl rfl rfl rfl na2 rfl (GO.fld (⟨b5, 1, none⟩) rfl rfl fl48_1 rfl rfl (GO.stBox (j := 0) (vs := [.int .i64 a_Kind]) ([.string a_Name, .int .i64 a_Kind, .slice none 0 0, .slice none 0 0, .int .i64 0, .int .i64 0, .slice none 0 0, .int .i64 0, .int .i64 0, .slice none 0 0, .slice none 0 0, .slice none 0 0]) HS rfl rfl rfl rfl rfl (htN na2 rfl) rfl rfl rfl fun wd8 HS => GO.nil (G.seq ?_)))))))
  obtain ⟨t9, h10, H⟩ := Option.bind_eq_some_iff.1 H
  refine G.region (GO.fld (⟨b1, 2, none⟩) rfl rfl fl95_2 rfl rfl (GO.ldBoxA (j := 2) ([.slice A_a a_Triangulation_Tets.length c_a]) HS rfl rfl rfl rfl ag86 rfl (GO.fn rfl func98 fok98.1 fok98.2 rfl rfl (laws_toTriangulation.calls HS (RdIn.drop 3 r_a) h10) (fun _ wd14 ⟨A11, c12, y13, h15, HS⟩ => ⟨_, h15, (GO.fld (⟨b5, 2, none⟩) rfl rfl fl48_2 rfl rfl (GO.stBox (j := 1) (vs := [.slice A11 t9.length c12]) ([.string a_Name, .int .i64 a_Kind, .slice A11 t9.length c12, .slice none 0 0, .int .i64 0, .int .i64 0, .slice none 0 0, .int .i64 0, .int .i64 0, .slice none 0 0, .slice none 0 0, .slice none 0 0]) HS rfl rfl rfl rfl rfl (htA ag37) rfl rfl rfl fun wd16 HS => GO.nil (G.seq ?_)))⟩))))
  obtain ⟨t17, t18, h19, H⟩ := bind2_elim H
  refine G.region (GO.fld (⟨b1, 3, none⟩) rfl rfl fl95_3 rfl rfl (GO.ldBoxA (j := 3) ([.slice A_b a_Diagram_Crossings.length c_b, .int .i64 a_Diagram_Circles]) HS rfl rfl rfl rfl ag89 rfl (GO.fn rfl func99 fok99.1 fok99.2 rfl rfl (laws_toDiagram.calls HS (RdIn.drop 4 r_b) h19) (fun _ wd22 ⟨A20, c21, h23, HS⟩ => ⟨_, h23, (GO.fld (⟨b5, 3, none⟩) rfl rfl fl48_3 rfl rfl (GO.stBox (j := 2) (vs := [.slice A20 t17.length c21, .int .i64 t18]) ([.string a_Name, .int .i64 a_Kind, .slice A11 t9.length c12, .slice A20 t17.length c21, .int .i64 t18, .int .i64 0, .slice none 0 0, .int .i64 0, .int .i64 0, .slice none 0 0, .slice none 0 0, .slice none 0 0]) HS rfl rfl rfl rfl rfl (htA ag40) rfl rfl rfl fun wd24 HS => GO.nil (G.seq ?_)))⟩))))
  obtain ⟨t25, t26, h27, H⟩ := bind2_elim H
  refine G.region (GO.fld (⟨b1, 5, none⟩) rfl rfl fl95_4 rfl rfl (GO.ldBoxA (j := 4) ([.int .i64 a_Braid_Strands, .slice A_c a_Braid_Word.length c_c]) HS rfl rfl rfl rfl ag90 rfl (GO.fn rfl func100 fok100.1 fok100.2 rfl rfl (laws_toBraid.calls HS (RdIn.drop 5 r_c) h27) (fun _ wd30 ⟨A28, c29, h31, HS⟩ => ⟨_, h31, (GO.fld (⟨b5, 5, none⟩) rfl rfl fl48_4 rfl rfl (GO.stBox (j := 3) (vs := [.int .i64 t25, .slice A28 t26.length c29]) ([.string a_Name, .int .i64 a_Kind, .slice A11 t9.length c12, .slice A20 t17.length c21, .int .i64 t18, .int .i64 t25, .slice A28 t26.length c29, .int .i64 0, .int .i64 0, .slice none 0 0, .slice none 0 0, .slice none 0 0]) HS rfl rfl rfl rfl rfl (htA ag43) rfl rfl rfl fun wd32 HS => GO.nil (G.seq ?_)))⟩))))
  obtain ⟨t33, t34, t35, t36, t37, h38, H⟩ := bind5_elim H
  refine G.region (GO.fld (⟨b1, 7, none⟩) rfl rfl fl95_5 rfl rfl (GO.ldBoxA (j := 5) ([.int .i64 a_Certificate_Name, .int .i64 a_Certificate_Trait, .slice A_d a_Certificate_Moves.length c_d, .slice A_e a_Certificate_Tets.length c_e, .slice A_f a_Certificate_Perms.length c_f]) HS rfl rfl rfl rfl ag93 rfl (GO.fn rfl func101 fok101.1 fok101.2 rfl rfl (laws_toCertificate.calls HS (RdIn.drop 6 r_d) (RdIn.drop 6 r_e) (RdIn.drop 6 r_f) h38) (fun _ wd45 ⟨A39, c40, A41, c42, A43, c44, h46, HS⟩ => ⟨_, h46, (GO.fld (⟨b5, 7, none⟩) rfl rfl fl48_5 rfl rfl (GO.stBox (j := 6) (vs := [.int .i64 t33, .int .i64 t34, .slice A39 t35.length c40, .slice A41 t36.length c42, .slice A43 t37.length c44]) ([.string a_Name, .int .i64 a_Kind, .slice A11 t9.length c12, .slice A20 t17.length c21, .int .i64 t18, .int .i64 t25, .slice A28 t26.length c29, .int .i64 t33, .int .i64 t34, .slice A39 t35.length c40, .slice A41 t36.length c42, .slice A43 t37.length c44]) HS rfl rfl rfl rfl rfl (htA ag46) rfl rfl rfl fun wd47 HS => GO.nil (G.seq (G.region (GO.ldBoxA (j := 6) ([.string a_Name, .int .i64 a_Kind, .slice A11 t9.length c12, .slice A20 t17.length c21, .int .i64 t18, .int .i64 t25, .slice A28 t26.length c29, .int .i64 t33, .int .i64 t34, .slice A39 t35.length c40, .slice A41 t36.length c42, .slice A43 t37.length c44]) HS rfl rfl rfl rfl ag48 rfl (GO.stBox (j := 7) (vs := [.string a_Name, .int .i64 a_Kind, .slice A11 t9.length c12, .slice A20 t17.length c21, .int .i64 t18, .int .i64 t25, .slice A28 t26.length c29, .int .i64 t33, .int .i64 t34, .slice A39 t35.length c40, .slice A41 t36.length c42, .slice A43 t37.length c44]) ([.string a_Name, .int .i64 a_Kind, .slice A11 t9.length c12, .slice A20 t17.length c21, .int .i64 t18, .int .i64 t25, .slice A28 t26.length c29, .int .i64 t33, .int .i64 t34, .slice A39 t35.length c40, .slice A41 t36.length c42, .slice A43 t37.length c44]) HS rfl rfl rfl rfl rfl (htA ag48) rfl rfl rfl fun wd48 HS => GO.nil ?_))))))⟩))))
  obtain ⟨rfl, rfl, rfl, rfl, rfl, rfl, rfl, rfl, rfl, rfl, rfl, rfl⟩ := some12 H
  exact G.ret1 _ func59 rfl (Res1.boxA (j := 7) (vs := [.string a_Name, .int .i64 a_Kind, .slice A11 t9.length c12, .slice A20 t17.length c21, .int .i64 t18, .int .i64 t25, .slice A28 t26.length c29, .int .i64 t33, .int .i64 t34, .slice A39 t35.length c40, .slice A41 t36.length c42, .slice A43 t37.length c44]) HS rfl rfl rfl ag48) ⟨_, _, _, _, _, _, _, _, _, _, _, _, _, rfl, (HS.pk 9 [5, 4, 3, 0, 1, 2] rfl)⟩
theorem laws_toItemS.calls {w0 w : World} {L : List HObj} {K : Nat} {a_ : List GItem} {A_a : Option Addr} {c_a : Nat} {y_a : Nat → T_GItem.Lay} {r1 : List GItem} (HS : St w0 w (L)) (r_a : RdIn w0 L T_GItem A_a c_a y_a a_) (H : laws_toItemS.f K a_ = some r1) :
    Calls prog 27 #[.slice A_a a_.length c_a] w (laws_toItemS.post w0 L r1) := by
  unfold laws_toItemS.f at H
  refine Calls.of_G func27 rfl rfl rfl ?_
  refine G.run 3 rfl ?_
  obtain ⟨c1, H⟩ := ite_none H
  obtain ⟨c2, H⟩ := ite_none H
  refine G.region (GO.move rfl rfl rfl (GO.lenS rfl rfl underlying22 rfl (GO.makeE (T := T_GItem_47) z_GItem ((), (), ⟨none, 0, (fun _ => ⟨none, 0, (fun _ => ())⟩)⟩, ⟨none, 0, (fun _ => ())⟩, (), (), ⟨none, 0, (fun _ => ())⟩, (), (), ⟨none, 0, (fun _ => ())⟩, ⟨none, 0, (fun _ => ())⟩, ⟨none, 0, (fun _ => ())⟩) HS zM_GItem_47 rfl rfl rfl underlying28 inf48 rfl rfl rfl c1 c2 rfl fun b3 wd4 HS => GO.assign rfl rfl rfl (GO.nil (G.run 5 rfl ?_)))))
  refine G.name (fun k_l1 hk_l1 => ?_)
  have at_l1 : ∀ m_l1, m_l1 ≤ K → ∀ (out_40 : List GItem) (y41 : Nat → T_GItem_47.Lay) (i_42 : Int) (w : World), laws_toItemS.l1 K m_l1 a_ out_40 i_42 = some r1 → St w0 w (Own T_GItem_47 48 (some ⟨b3, 0, none⟩) ((a_.length : Int).toNat) y41 out_40 :: L) → G prog 27 23 [(0, .slice A_a a_.length c_a), (3, .slice (some ⟨b3, 0, none⟩) out_40.length ((a_.length : Int).toNat)), (4, .int .i64 i_42)] k_l1 w (laws_toItemS.post w0 L r1) := by
   intro m_l1
   induction m_l1 using Nat.strongRecOn with
   | _ m_l1 ih_l1 =>
    intro hm_l1 out_40 y41 i_42 w H HS
    cases m_l1 with
    | zero => rw [laws_toItemS.l1] at H; cases H
    | succ n_l1 =>
     rw [laws_toItemS.l1] at H
     subst hk_l1
     refine G.run 2 rfl (G.region (GO.ps 2 rfl (GO.lenS rfl rfl underlying22 rfl (GO.lss rfl rfl rfl rfl (GO.nil ?_)))))
     rcases ite_elim H with ⟨c78, H⟩ | ⟨c78, H⟩
     ·
      refine G.yesB rfl (decide_eq_true c78) (G.run 3 rfl ?_)
      obtain ⟨c79, H⟩ := ite_none H
      obtain ⟨e80, h81, H⟩ := bnd_elim H
      obtain ⟨t82, t83, t84, t85, t86, t87, t88, t89, t90, t91, t92, t93, h94, H⟩ := bind12_elim H
      obtain ⟨c110, H⟩ := ite_none H
      refine G.region (GO.ps 4 rfl (GO.ix rfl rfl rfl underlying22 sz95 ((RdIn.drop 1 r_a) _ HS).2.2.1 c79.1 c79.2 rfl (GO.ldRdA (T := T_GItem) (n := i_42.toNat) HS (RdIn.drop 1 r_a) rfl rfl (getD_eq (ltN c79) h81) ag95 rfl (GO.fn rfl func59 fok59.1 fok59.2 rfl rfl (laws_toItem.calls HS (RdIn.fld (RdIn.drop 1 r_a) (getD_eq (ltN c79) h81) (fun _ h => h.2.2.1)) (RdIn.fld (RdIn.drop 1 r_a) (getD_eq (ltN c79) h81) (fun _ h => h.2.2.2.1)) (RdIn.fld (RdIn.drop 1 r_a) (getD_eq (ltN c79) h81) (fun _ h => h.2.2.2.2.2.2.1)) (RdIn.fld (RdIn.drop 1 r_a) (getD_eq (ltN c79) h81) (fun _ h => h.2.2.2.2.2.2.2.2.2.1)) (RdIn.fld (RdIn.drop 1 r_a) (getD_eq (ltN c79) h81) (fun _ h => h.2.2.2.2.2.2.2.2.2.2.1)) (RdIn.fld (RdIn.drop 1 r_a) (getD_eq (ltN c79) h81) (fun _ h => h.2.2.2.2.2.2.2.2.2.2.2)) h94) (fun _ wd108 ⟨A95, c96, y97, A98, c99, A100, c101, A102, c103, A104, c105, A106, c107, h109, HS⟩ => ⟨_, h109, (GO.ix rfl rfl rfl underlying28 sz48 (fun _ => ⟨_, _, rfl⟩) c110.1 c110.2 rfl ?_)⟩)))))
      replace HS := HS.pk 7 [5, 4, 3, 2, 1, 0, 6] rfl
      replace HS := mk_GItem_47 (Name := t82) (Kind := t83) (Diagram_Circles := t86) (Braid_Strands := t87) (Certificate_Name := t89) (Certificate_Trait := t90) HS
      replace HS := HS.pk 2 [1, 0] rfl
      refine GO.stE (T := T_GItem_47) (n := i_42.toNat) ((), (), ⟨A95, c96, y97⟩, ⟨A98, c99, (fun _ => ())⟩, (), (), ⟨A100, c101, (fun _ => ())⟩, (), (), ⟨A102, c103, (fun _ => ())⟩, ⟨A104, c105, (fun _ => ())⟩, ⟨A106, c107, (fun _ => ())⟩) (⟨t82, t83, t84, t85, t86, t87, t88, t89, t90, t91, t92, t93⟩ : GItem) HS rfl rfl rfl rfl (htA ag48) rfl (ltN c110) fun y112 wd111 HS => GO.nil (G.len (t := 3) (m := (out_40.set i_42.toNat (⟨t82, t83, t84, t85, t86, t87, t88, t89, t90, t91, t92, t93⟩ : GItem)).length) rfl (by simp only [List.length_set] <;> rfl) (G.run 3 rfl (G.weak ?_ (ih_l1 n_l1 (Nat.lt_succ_of_le (Nat.le_refl _)) (Nat.le_of_succ_le hm_l1) _ _ _ _ H HS))))
      exact ⟨rfl, rfl, rfl, trivial⟩
     refine G.noB rfl (decide_eq_false c78) (G.run 3 rfl ?_)
     obtain rfl := Option.some.inj H
     exact G.ret1 _ func27 rfl rfl ⟨_, _, _, rfl, HS⟩
  refine G.weak ?_ (at_l1 K (Nat.le_refl _) _ _ _ _ H HS)
  exact ⟨rfl, rfl, rfl, trivial⟩
theorem laws_toItemSS.calls {w0 w : World} {L : List HObj} {K : Nat} {a_ : List (List GItem)} {A_a : Option Addr} {c_a : Nat} {y_a : Nat → (Ty.slice 95 T_GItem).Lay} {r1 : List (List GItem)} (HS : St w0 w (L)) (r_a : RdIn w0 L (Ty.slice 95 T_GItem) A_a c_a y_a a_) (H : laws_toItemSS.f K a_ = some r1) :
    Calls prog 28 #[.slice A_a a_.length c_a] w (laws_toItemSS.post w0 L r1) := by
  unfold laws_toItemSS.f at H
  refine Calls.of_G func28 rfl rfl rfl ?_
  refine G.run 3 rfl ?_
  obtain ⟨c1, H⟩ := ite_none H
  obtain ⟨c2, H⟩ := ite_none H
  refine G.region (GO.move rfl rfl rfl (GO.lenS rfl rfl underlying23 rfl (GO.makeR (S := T_GItem_47) (u := 48) (fun _ => ((), (), ⟨none, 0, (fun _ => ⟨none, 0, (fun _ => ())⟩)⟩, ⟨none, 0, (fun _ => ())⟩, (), (), ⟨none, 0, (fun _ => ())⟩, (), (), ⟨none, 0, (fun _ => ())⟩, ⟨none, 0, (fun _ => ())⟩, ⟨none, 0, (fun _ => ())⟩)) HS rfl rfl rfl underlying29 inf28 rfl c1 c2 rfl fun b3 wd4 HS => GO.assign rfl rfl rfl (GO.nil (G.run 5 rfl ?_)))))
  refine G.name (fun k_l1 hk_l1 => ?_)
  have at_l1 : ∀ m_l1, m_l1 ≤ K → ∀ (out_17 : List (List GItem)) (y18 : Nat → (Ty.slice 48 T_GItem_47).Lay) (i_19 : Int) (w : World), laws_toItemSS.l1 K m_l1 a_ out_17 i_19 = some r1 → St w0 w (Own (Ty.slice 48 T_GItem_47) 28 (some ⟨b3, 0, none⟩) ((a_.length : Int).toNat) y18 out_17 :: L) → G prog 28 23 [(0, .slice A_a a_.length c_a), (3, .slice (some ⟨b3, 0, none⟩) out_17.length ((a_.length : Int).toNat)), (4, .int .i64 i_19)] k_l1 w (laws_toItemSS.post w0 L r1) := by
   intro m_l1
   induction m_l1 using Nat.strongRecOn with
   | _ m_l1 ih_l1 =>
    intro hm_l1 out_17 y18 i_19 w H HS
    cases m_l1 with
    | zero => rw [laws_toItemSS.l1] at H; cases H
    | succ n_l1 =>
     rw [laws_toItemSS.l1] at H
     subst hk_l1
     refine G.run 2 rfl (G.region (GO.ps 2 rfl (GO.lenS rfl rfl underlying23 rfl (GO.lss rfl rfl rfl rfl (GO.nil ?_)))))
     rcases ite_elim H with ⟨c32, H⟩ | ⟨c32, H⟩
     ·
      refine G.yesB rfl (decide_eq_true c32) (G.run 3 rfl ?_)
      obtain ⟨c33, H⟩ := ite_none H
      obtain ⟨t34, h35, H⟩ := Option.bind_eq_some_iff.1 H
      obtain ⟨c41, H⟩ := ite_none H
      refine G.region (GO.ps 4 rfl (GO.ix rfl rfl rfl underlying23 sz22 ((RdIn.drop 1 r_a) _ HS).2.2.1 c33.1 c33.2 rfl (GO.ldRd (T := (Ty.slice 95 T_GItem)) (n := i_19.toNat) (o := 0) HS (RdIn.drop 1 r_a) rfl rfl (getD_some (d := []) (ltN c33)) rfl rfl na22 rfl (GO.fn rfl func27 fok27.1 fok27.2 rfl rfl (laws_toItemS.calls HS (RdIn.elem (RdIn.drop 1 r_a) c33.1 c33.2) h35) (fun _ wd39 ⟨A36, c37, y38, h40, HS⟩ => ⟨_, h40, (GO.ix rfl rfl rfl underlying29 sz28 (fun _ => ⟨_, _, rfl⟩) c41.1 c41.2 rfl ?_)⟩)))))
      replace HS := HS.pk 2 [1, 0] rfl
      refine GO.stRowR (S := T_GItem_47) (u := 48) HS rfl rfl rfl na28 (ltN c41) fun y43 wd42 HS => GO.nil (G.len (t := 3) (m := (out_17.set i_19.toNat t34).length) rfl (by simp only [List.length_set] <;> rfl) (G.run 3 rfl (G.weak ?_ (ih_l1 n_l1 (Nat.lt_succ_of_le (Nat.le_refl _)) (Nat.le_of_succ_le hm_l1) _ _ _ _ H HS))))
      exact ⟨rfl, rfl, rfl, trivial⟩
     refine G.noB rfl (decide_eq_false c32) (G.run 3 rfl ?_)
     obtain rfl := Option.some.inj H
     exact G.ret1 _ func28 rfl rfl ⟨_, _, _, rfl, HS⟩
  refine G.weak ?_ (at_l1 K (Nat.le_refl _) _ _ _ _ H HS)
  exact ⟨rfl, rfl, rfl, trivial⟩
theorem laws_toBench.calls {w0 w : World} {L : List HObj} {K : Nat} {a_Items : List GItem} {a_Undos a_Redos : List (List GItem)} {A_a : Option Addr} {c_a : Nat} {y_a : Nat → T_GItem.Lay} {A_b : Option Addr} {c_b : Nat} {y_b : Nat → (Ty.slice 95 T_GItem).Lay} {A_c : Option Addr} {c_c : Nat} {y_c : Nat → (Ty.slice 95 T_GItem).Lay} {r1 : List GItem} {r2 r3 : List (List GItem)} (HS : St w0 w (L)) (r_a : RdIn w0 L T_GItem A_a c_a y_a a_Items) (r_b : RdIn w0 L (Ty.slice 95 T_GItem) A_b c_b y_b a_Undos) (r_c : RdIn w0 L (Ty.slice 95 T_GItem) A_c c_c y_c a_Redos) (H : laws_toBench.f K a_Items a_Undos a_Redos = some (r1, r2, r3)) :
    Calls prog 9 #[.agg [.slice A_a a_Items.length c_a, .slice A_b a_Undos.length c_b, .slice A_c a_Redos.length c_c].toArray] w (laws_toBench.post w0 L r1 r2 r3) := by
  unfold laws_toBench.f at H
  refine Calls.of_G func9 rfl rfl rfl ?_
  refine G.seq (G.region (GO.box (cs := [.slice A_a a_Items.length c_a, .slice A_b a_Undos.length c_b, .slice A_c a_Redos.length c_c]) HS rfl rfl rfl rfl fun b1 wd2 HS => GO.alloc HS rfl zr31 rfl rfl fun b3 wd4 HS => GO.nil (G.seq (G.region (GO.alloc HS rfl zr31 rfl rfl fun b5 wd6 HS => GO.nil (G.seq ?_))))))
  obtain ⟨t7, h8, H⟩ := Option.bind_eq_some_iff.1 H
  refine G.region (GO.fld (⟨b1, 0, none⟩) rfl rfl fl25_0 rfl rfl (GO.ldBox (j := 2) HS rfl rfl rfl rfl na22 rfl (GO.fn rfl func27 fok27.1 fok27.2 rfl rfl (laws_toItemS.calls HS (RdIn.drop 3 r_a) h8) (fun _ wd12 ⟨A9, c10, y11, h13, HS⟩ => ⟨_, h13, (GO.fld (⟨b5, 0, none⟩) rfl rfl fl31_0 rfl rfl (GO.stBox (j := 1) (vs := [.slice A9 t7.length c10]) ([.slice A9 t7.length c10, .slice none 0 0, .slice none 0 0]) HS rfl rfl rfl rfl rfl (htN na28 rfl) rfl rfl rfl fun wd14 HS => GO.nil (G.seq ?_)))⟩))))
  obtain ⟨t15, h16, H⟩ := Option.bind_eq_some_iff.1 H
  refine G.region (GO.fld (⟨b1, 1, none⟩) rfl rfl fl25_1 rfl rfl (GO.ldBox (j := 3) HS rfl rfl rfl rfl na23 rfl (GO.fn rfl func28 fok28.1 fok28.2 rfl rfl (laws_toItemSS.calls HS (RdIn.drop 4 r_b) h16) (fun _ wd20 ⟨A17, c18, y19, h21, HS⟩ => ⟨_, h21, (GO.fld (⟨b5, 1, none⟩) rfl rfl fl31_1 rfl rfl (GO.stBox (j := 2) (vs := [.slice A17 t15.length c18]) ([.slice A9 t7.length c10, .slice A17 t15.length c18, .slice none 0 0]) HS rfl rfl rfl rfl rfl (htN na29 rfl) rfl rfl rfl fun wd22 HS => GO.nil (G.seq ?_)))⟩))))
  obtain ⟨t23, h24, H⟩ := Option.bind_eq_some_iff.1 H
  refine G.region (GO.fld (⟨b1, 2, none⟩) rfl rfl fl25_2 rfl rfl (GO.ldBox (j := 4) HS rfl rfl rfl rfl na23 rfl (GO.fn rfl func28 fok28.1 fok28.2 rfl rfl (laws_toItemSS.calls HS (RdIn.drop 5 r_c) h24) (fun _ wd28 ⟨A25, c26, y27, h29, HS⟩ => ⟨_, h29, (GO.fld (⟨b5, 2, none⟩) rfl rfl fl31_2 rfl rfl (GO.stBox (j := 3) (vs := [.slice A25 t23.length c26]) ([.slice A9 t7.length c10, .slice A17 t15.length c18, .slice A25 t23.length c26]) HS rfl rfl rfl rfl rfl (htN na29 rfl) rfl rfl rfl fun wd30 HS => GO.nil (G.seq (G.region (GO.ldBoxA (j := 3) ([.slice A9 t7.length c10, .slice A17 t15.length c18, .slice A25 t23.length c26]) HS rfl rfl rfl rfl ag31 rfl (GO.stBox (j := 4) (vs := [.slice A9 t7.length c10, .slice A17 t15.length c18, .slice A25 t23.length c26]) ([.slice A9 t7.length c10, .slice A17 t15.length c18, .slice A25 t23.length c26]) HS rfl rfl rfl rfl rfl (htA ag31) rfl rfl rfl fun wd31 HS => GO.nil ?_))))))⟩))))
  obtain ⟨rfl, rfl, rfl⟩ := some3 H
  exact G.ret1 _ func9 rfl (Res1.boxA (j := 4) (vs := [.slice A9 t7.length c10, .slice A17 t15.length c18, .slice A25 t23.length c26]) HS rfl rfl rfl ag31) ⟨_, _, _, _, _, _, _, _, _, rfl, (HS.pk 6 [2, 1, 0] rfl)⟩
theorem spec_l33Name.calls {w0 w : World} {L : List HObj} {K : Nat} {s : ByteArray} {r1 : Bool} (HS : St w0 w (L)) (H : spec_l33Name.f K s = some r1) :
    Calls prog 91 #[.string s] w (spec_l33Name.post w0 L r1) := by
  unfold spec_l33Name.f at H
  refine Calls.of_G func91 rfl rfl rfl ?_
  refine G.run 7 rfl ?_
  refine G.name (fun k_l1 hk_l1 => ?_)
  have at_l1 : ∀ m_l1, m_l1 ≤ K → ∀ (i_6 : Int) (w : World), spec_l33Name.l1 K m_l1 s i_6 = some r1 → St w0 w (L) → G prog 91 28 [(0, .string s), (3, .int .i64 i_6)] k_l1 w (spec_l33Name.post w0 L r1) := by
   intro m_l1
   induction m_l1 using Nat.strongRecOn with
   | _ m_l1 ih_l1 =>
    intro hm_l1 i_6 w H HS
    cases m_l1 with
    | zero => rw [spec_l33Name.l1] at H; cases H
    | succ n_l1 =>
     rw [spec_l33Name.l1] at H
     subst hk_l1
     refine G.run 2 rfl (G.region (GO.ps 2 rfl (GO.lenStr rfl rfl underlying9 rfl (GO.lss rfl rfl rfl rfl (GO.nil ?_)))))
     rcases ite_elim H with ⟨c12, H⟩ | ⟨c12, H⟩
     ·
      refine G.yesB rfl (decide_eq_true c12) (G.run 4 rfl ?_)
      obtain ⟨c13, H⟩ := ite_none H
      rcases ite_elim H with ⟨c14, H⟩ | ⟨c14, H⟩
      ·
       refine G.region (GO.ps 2 rfl (GO.ixS rfl rfl rfl underlying9 c13.1 c13.2 rfl (GO.ps 2 rfl (GO.known (t := 14) rfl (decide_eq_true c14) (GO.off rfl rfl rfl rfl rfl rfl (GO.off rfl rfl rfl rfl rfl rfl (GO.off rfl rfl rfl rfl rfl rfl (GO.off rfl rfl rfl rfl rfl rfl (GO.pickT rfl rfl rfl rfl rfl (GO.nil (G.run 3 rfl ?_)))))))))))
       obtain rfl := Option.some.inj H
       exact G.ret1 _ func91 rfl rfl ⟨rfl, HS⟩
      refine G.region (GO.ps 2 rfl (GO.ixS rfl rfl rfl underlying9 c13.1 c13.2 rfl (GO.ps 2 rfl (GO.known (t := 14) rfl (decide_eq_false c14) (GO.on rfl rfl rfl rfl (GO.move rfl rfl rfl (GO.back (GO.on rfl rfl rfl rfl (GO.move rfl rfl rfl (GO.back (GO.on rfl rfl rfl rfl (GO.ixS rfl rfl rfl underlying9 c13.1 c13.2 rfl (GO.back (GO.on rfl rfl rfl rfl ?_))))))))))))))
      refine GO.gtr rfl rfl rfl rfl (GO.back (GO.pickF rfl rfl rfl rfl rfl (GO.nil ?_)))
      rcases ite_elim H with ⟨c15, H⟩ | ⟨c15, H⟩
      ·
       refine G.yesB rfl (decide_eq_true c15) (G.run 2 rfl ?_)
       obtain rfl := Option.some.inj H
       exact G.ret1 _ func91 rfl rfl ⟨rfl, HS⟩
      refine G.noB rfl (decide_eq_false c15) (G.run 4 rfl (G.weak ?_ (ih_l1 n_l1 (Nat.lt_succ_of_le (Nat.le_refl _)) (Nat.le_of_succ_le hm_l1) _ _ H HS)))
      exact ⟨rfl, rfl, trivial⟩
     refine G.noB rfl (decide_eq_false c12) (G.run 2 rfl ?_)
     rcases ite_elim H with ⟨c16, H⟩ | ⟨c16, H⟩
     ·
      refine G.region (GO.move rfl rfl rfl (GO.lenStr rfl rfl underlying9 rfl (GO.ps 2 rfl (GO.known (t := 23) rfl (decide_eq_true c16) (GO.on rfl rfl rfl rfl (GO.move rfl rfl rfl (GO.back (GO.on rfl rfl rfl rfl (GO.lenStr rfl rfl underlying9 rfl (GO.back (GO.on rfl rfl rfl rfl (GO.leq rfl rfl rfl rfl (GO.back (GO.ps 2 rfl ?_))))))))))))))
      refine GO.nil ?_
      obtain rfl := Option.some.inj H
      exact G.ret1 _ func91 rfl rfl ⟨rfl, HS⟩
     refine G.region (GO.move rfl rfl rfl (GO.lenStr rfl rfl underlying9 rfl (GO.ps 2 rfl (GO.known (t := 23) rfl (decide_eq_false c16) (GO.off rfl rfl rfl rfl rfl rfl (GO.off rfl rfl rfl rfl rfl rfl (GO.off rfl rfl rfl rfl rfl rfl (GO.ps 2 rfl (GO.nil ?_)))))))))
     obtain rfl := Option.some.inj H
     exact G.ret1 _ func91 rfl rfl ⟨rfl, HS⟩
  refine G.weak ?_ (at_l1 K (Nat.le_refl _) _ _ H HS)
  exact ⟨rfl, rfl, trivial⟩
theorem spec_l01In.calls {w0 w : World} {L : List HObj} {n_ low high : Int} {r1 : Bool} (HS : St w0 w (L)) (H : spec_l01In.f n_ low high = some r1) :
    Calls prog 92 #[.int .i64 n_, .int .i64 low, .int .i64 high] w (spec_l01In.post w0 L r1) := by
  unfold spec_l01In.f at H
  refine Calls.of_G func92 rfl rfl rfl ?_
  refine G.run 3 rfl ?_
  rcases ite_elim H with ⟨c1, H⟩ | ⟨c1, H⟩
  ·
   refine G.region (GO.ps 4 rfl (GO.known (t := 10) rfl (decide_eq_true c1) (GO.on rfl rfl rfl rfl (GO.move rfl rfl rfl (GO.back (GO.on rfl rfl rfl rfl (GO.move rfl rfl rfl (GO.back (GO.on rfl rfl rfl rfl (GO.leq rfl rfl rfl rfl (GO.back (GO.ps 2 rfl (GO.nil ?_)))))))))))))
   obtain rfl := Option.some.inj H
   exact G.ret1 _ func92 rfl rfl ⟨rfl, HS⟩
  refine G.region (GO.ps 4 rfl (GO.known (t := 10) rfl (decide_eq_false c1) (GO.off rfl rfl rfl rfl rfl rfl (GO.off rfl rfl rfl rfl rfl rfl (GO.off rfl rfl rfl rfl rfl rfl (GO.ps 2 rfl (GO.nil ?_)))))))
  obtain rfl := Option.some.inj H
  exact G.ret1 _ func92 rfl rfl ⟨rfl, HS⟩
theorem spec_l33NoTri.calls {w0 w : World} {L : List HObj} {t_Tets : List (List GFace)} {A_a : Option Addr} {c_a : Nat} {y_a : Nat → (Ty.slice 140 T_GFace).Lay} {r1 : Bool} (HS : St w0 w (L)) (r_a : RdIn w0 L (Ty.slice 140 T_GFace) A_a c_a y_a t_Tets) (H : spec_l33NoTri.f t_Tets = some r1) :
    Calls prog 116 #[.agg [.slice A_a t_Tets.length c_a].toArray] w (spec_l33NoTri.post w0 L r1) := by
  unfold spec_l33NoTri.f at H
  refine Calls.of_G func116 rfl rfl rfl ?_
  refine G.seq (G.region (GO.box (cs := [.slice A_a t_Tets.length c_a]) HS rfl rfl rfl rfl fun b1 wd2 HS => GO.assign rfl rfl rfl (GO.nil (G.seq (G.region (GO.fld (⟨b1, 0, none⟩) rfl rfl fl37_0 rfl rfl (GO.ldBox (j := 0) HS rfl rfl rfl rfl na35 rfl (GO.lenS rfl rfl underlying35 rfl (GO.ps 2 rfl (GO.nil ?_))))))))))
  obtain rfl := Option.some.inj H
  exact G.ret1 _ func116 rfl rfl ⟨rfl, (HS.pk 1 [] rfl)⟩
theorem spec_l33NoDiagram.calls {w0 w : World} {L : List HObj} {d_Crossings : List GCrossing} {d_Circles : Int} {A_a : Option Addr} {c_a : Nat} {r1 : Bool} (HS : St w0 w (L)) (r_a : RdIn w0 L T_GCrossing A_a c_a (fun _ => ()) d_Crossings) (H : spec_l33NoDiagram.f d_Crossings d_Circles = some r1) :
    Calls prog 117 #[.agg [.slice A_a d_Crossings.length c_a, .int .i64 d_Circles].toArray] w (spec_l33NoDiagram.post w0 L r1) := by
  unfold spec_l33NoDiagram.f at H
  refine Calls.of_G func117 rfl rfl rfl ?_
  refine G.seq (G.region (GO.box (cs := [.slice A_a d_Crossings.length c_a, .int .i64 d_Circles]) HS rfl rfl rfl rfl fun b1 wd2 HS => GO.assign rfl rfl rfl (GO.nil (G.seq ?_))))
  rcases ite_elim H with ⟨c3, H⟩ | ⟨c3, H⟩
  ·
   refine G.region (GO.fld (⟨b1, 0, none⟩) rfl rfl fl40_0 rfl rfl (GO.ldBox (j := 0) HS rfl rfl rfl rfl na38 rfl (GO.lenS rfl rfl underlying38 rfl (GO.ps 2 rfl (GO.known (t := 7) rfl (decide_eq_true c3) (GO.on rfl rfl rfl rfl (GO.fld (⟨b1, 1, none⟩) rfl rfl fl40_1 rfl rfl (GO.back (GO.on rfl rfl rfl rfl (GO.ldBox (j := 0) HS rfl rfl rfl rfl na2 rfl (GO.back (GO.on rfl rfl rfl rfl (GO.eql rfl rfl rfl rfl (GO.back ?_))))))))))))))
   refine GO.ps 2 rfl (GO.nil ?_)
   obtain rfl := Option.some.inj H
   exact G.ret1 _ func117 rfl rfl ⟨rfl, (HS.pk 1 [] rfl)⟩
  refine G.region (GO.fld (⟨b1, 0, none⟩) rfl rfl fl40_0 rfl rfl (GO.ldBox (j := 0) HS rfl rfl rfl rfl na38 rfl (GO.lenS rfl rfl underlying38 rfl (GO.ps 2 rfl (GO.known (t := 7) rfl (decide_eq_false c3) (GO.off rfl rfl rfl rfl rfl rfl (GO.off rfl rfl rfl rfl rfl rfl (GO.off rfl rfl rfl rfl rfl rfl (GO.ps 2 rfl (GO.nil ?_))))))))))
  obtain rfl := Option.some.inj H
  exact G.ret1 _ func117 rfl rfl ⟨rfl, (HS.pk 1 [] rfl)⟩
theorem spec_l33NoBraid.calls {w0 w : World} {L : List HObj} {b_Strands : Int} {b_Word : List Int} {A_a : Option Addr} {c_a : Nat} {r1 : Bool} (HS : St w0 w (L)) (r_a : RdIn w0 L (TInt .i64) A_a c_a (fun _ => ()) b_Word) (H : spec_l33NoBraid.f b_Strands b_Word = some r1) :
    Calls prog 118 #[.agg [.int .i64 b_Strands, .slice A_a b_Word.length c_a].toArray] w (spec_l33NoBraid.post w0 L r1) := by
  unfold spec_l33NoBraid.f at H
  refine Calls.of_G func118 rfl rfl rfl ?_
  refine G.seq (G.region (GO.box (cs := [.int .i64 b_Strands, .slice A_a b_Word.length c_a]) HS rfl rfl rfl rfl fun b1 wd2 HS => GO.assign rfl rfl rfl (GO.nil (G.seq ?_))))
  rcases ite_elim H with ⟨c3, H⟩ | ⟨c3, H⟩
  ·
   refine G.region (GO.fld (⟨b1, 0, none⟩) rfl rfl fl43_0 rfl rfl (GO.ldBox (j := 0) HS rfl rfl rfl rfl na2 rfl (GO.ps 2 rfl (GO.known (t := 6) rfl (decide_eq_true c3) (GO.on rfl rfl rfl rfl (GO.fld (⟨b1, 1, none⟩) rfl rfl fl43_1 rfl rfl (GO.back (GO.on rfl rfl rfl rfl (GO.ldBox (j := 0) HS rfl rfl rfl rfl na41 rfl (GO.back (GO.on rfl rfl rfl rfl (GO.lenS rfl rfl underlying41 rfl (GO.back (GO.on rfl rfl rfl rfl ?_))))))))))))))
   refine GO.eql rfl rfl rfl rfl (GO.back (GO.ps 2 rfl (GO.nil ?_)))
   obtain rfl := Option.some.inj H
   exact G.ret1 _ func118 rfl rfl ⟨rfl, (HS.pk 1 [] rfl)⟩
  refine G.region (GO.fld (⟨b1, 0, none⟩) rfl rfl fl43_0 rfl rfl (GO.ldBox (j := 0) HS rfl rfl rfl rfl na2 rfl (GO.ps 2 rfl (GO.known (t := 6) rfl (decide_eq_false c3) (GO.off rfl rfl rfl rfl rfl rfl (GO.off rfl rfl rfl rfl rfl rfl (GO.off rfl rfl rfl rfl rfl rfl (GO.off rfl rfl rfl rfl rfl rfl (GO.ps 2 rfl (GO.nil ?_))))))))))
  obtain rfl := Option.some.inj H
  exact G.ret1 _ func118 rfl rfl ⟨rfl, (HS.pk 1 [] rfl)⟩
theorem spec_l33NoCertificate.calls {w0 w : World} {L : List HObj} {c_Name c_Trait : Int} {c_Moves : List GMove} {c_Tets c_Perms : List Int} {A_a : Option Addr} {c_a : Nat} {A_b : Option Addr} {c_b : Nat} {A_c : Option Addr} {c_c : Nat} {r1 : Bool} (HS : St w0 w (L)) (r_a : RdIn w0 L T_GMove A_a c_a (fun _ => ()) c_Moves) (r_b : RdIn w0 L (TInt .i64) A_b c_b (fun _ => ()) c_Tets) (r_c : RdIn w0 L (TInt .i64) A_c c_c (fun _ => ()) c_Perms) (H : spec_l33NoCertificate.f c_Name c_Trait c_Moves c_Tets c_Perms = some r1) :
    Calls prog 119 #[.agg [.int .i64 c_Name, .int .i64 c_Trait, .slice A_a c_Moves.length c_a, .slice A_b c_Tets.length c_b, .slice A_c c_Perms.length c_c].toArray] w (spec_l33NoCertificate.post w0 L r1) := by
  unfold spec_l33NoCertificate.f at H
  refine Calls.of_G func119 rfl rfl rfl ?_
  refine G.seq (G.region (GO.box (cs := [.int .i64 c_Name, .int .i64 c_Trait, .slice A_a c_Moves.length c_a, .slice A_b c_Tets.length c_b, .slice A_c c_Perms.length c_c]) HS rfl rfl rfl rfl fun b1 wd2 HS => GO.assign rfl rfl rfl (GO.nil (G.seq ?_))))
  rcases ite_elim H with ⟨c3, H⟩ | ⟨c3, H⟩
  ·
   rcases ite_elim H with ⟨c4, H⟩ | ⟨c4, H⟩
   ·
    rcases ite_elim H with ⟨c5, H⟩ | ⟨c5, H⟩
    ·
     rcases ite_elim H with ⟨c6, H⟩ | ⟨c6, H⟩
     ·
      refine G.region (GO.fld (⟨b1, 0, none⟩) rfl rfl fl46_0 rfl rfl (GO.ldBox (j := 0) HS rfl rfl rfl rfl na2 rfl (GO.ps 2 rfl (GO.known (t := 6) rfl (decide_eq_true c3) (GO.on rfl rfl rfl rfl (GO.fld (⟨b1, 1, none⟩) rfl rfl fl46_1 rfl rfl (GO.back (GO.on rfl rfl rfl rfl (GO.ldBox (j := 0) HS rfl rfl rfl rfl na2 rfl (GO.back (GO.on rfl rfl rfl rfl (GO.eql rfl rfl rfl rfl (GO.back (GO.ps 2 rfl ?_))))))))))))))
      refine GO.known (t := 11) rfl (decide_eq_true c4) (GO.on rfl rfl rfl rfl (GO.fld (⟨b1, 2, none⟩) rfl rfl fl46_2 rfl rfl (GO.back (GO.on rfl rfl rfl rfl (GO.ldBox (j := 0) HS rfl rfl rfl rfl na44 rfl (GO.back (GO.on rfl rfl rfl rfl (GO.lenS rfl rfl underlying44 rfl (GO.back (GO.on rfl rfl rfl rfl (GO.eql rfl rfl rfl rfl (GO.back (GO.ps 2 rfl (GO.known (t := 17) rfl (decide_eq_true c5) ?_))))))))))))))
      refine GO.on rfl rfl rfl rfl (GO.fld (⟨b1, 3, none⟩) rfl rfl fl46_3 rfl rfl (GO.back (GO.on rfl rfl rfl rfl (GO.ldBox (j := 0) HS rfl rfl rfl rfl na41 rfl (GO.back (GO.on rfl rfl rfl rfl (GO.lenS rfl rfl underlying41 rfl (GO.back (GO.on rfl rfl rfl rfl (GO.eql rfl rfl rfl rfl (GO.back (GO.ps 2 rfl (GO.known (t := 23) rfl (decide_eq_true c6) (GO.on rfl rfl rfl rfl ?_))))))))))))))
      refine GO.fld (⟨b1, 4, none⟩) rfl rfl fl46_4 rfl rfl (GO.back (GO.on rfl rfl rfl rfl (GO.ldBox (j := 0) HS rfl rfl rfl rfl na41 rfl (GO.back (GO.on rfl rfl rfl rfl (GO.lenS rfl rfl underlying41 rfl (GO.back (GO.on rfl rfl rfl rfl (GO.eql rfl rfl rfl rfl (GO.back (GO.ps 2 rfl (GO.nil ?_))))))))))))
      obtain rfl := Option.some.inj H
      exact G.ret1 _ func119 rfl rfl ⟨rfl, (HS.pk 1 [] rfl)⟩
     refine G.region (GO.fld (⟨b1, 0, none⟩) rfl rfl fl46_0 rfl rfl (GO.ldBox (j := 0) HS rfl rfl rfl rfl na2 rfl (GO.ps 2 rfl (GO.known (t := 6) rfl (decide_eq_true c3) (GO.on rfl rfl rfl rfl (GO.fld (⟨b1, 1, none⟩) rfl rfl fl46_1 rfl rfl (GO.back (GO.on rfl rfl rfl rfl (GO.ldBox (j := 0) HS rfl rfl rfl rfl na2 rfl (GO.back (GO.on rfl rfl rfl rfl (GO.eql rfl rfl rfl rfl (GO.back (GO.ps 2 rfl ?_))))))))))))))
     refine GO.known (t := 11) rfl (decide_eq_true c4) (GO.on rfl rfl rfl rfl (GO.fld (⟨b1, 2, none⟩) rfl rfl fl46_2 rfl rfl (GO.back (GO.on rfl rfl rfl rfl (GO.ldBox (j := 0) HS rfl rfl rfl rfl na44 rfl (GO.back (GO.on rfl rfl rfl rfl (GO.lenS rfl rfl underlying44 rfl (GO.back (GO.on rfl rfl rfl rfl (GO.eql rfl rfl rfl rfl (GO.back (GO.ps 2 rfl (GO.known (t := 17) rfl (decide_eq_true c5) ?_))))))))))))))
     refine GO.on rfl rfl rfl rfl (GO.fld (⟨b1, 3, none⟩) rfl rfl fl46_3 rfl rfl (GO.back (GO.on rfl rfl rfl rfl (GO.ldBox (j := 0) HS rfl rfl rfl rfl na41 rfl (GO.back (GO.on rfl rfl rfl rfl (GO.lenS rfl rfl underlying41 rfl (GO.back (GO.on rfl rfl rfl rfl (GO.eql rfl rfl rfl rfl (GO.back (GO.ps 2 rfl (GO.known (t := 23) rfl (decide_eq_false c6) (GO.off rfl rfl rfl rfl rfl rfl ?_))))))))))))))
     refine GO.off rfl rfl rfl rfl rfl rfl (GO.off rfl rfl rfl rfl rfl rfl (GO.off rfl rfl rfl rfl rfl rfl (GO.ps 2 rfl (GO.nil ?_))))
     obtain rfl := Option.some.inj H
     exact G.ret1 _ func119 rfl rfl ⟨rfl, (HS.pk 1 [] rfl)⟩
    refine G.region (GO.fld (⟨b1, 0, none⟩) rfl rfl fl46_0 rfl rfl (GO.ldBox (j := 0) HS rfl rfl rfl rfl na2 rfl (GO.ps 2 rfl (GO.known (t := 6) rfl (decide_eq_true c3) (GO.on rfl rfl rfl rfl (GO.fld (⟨b1, 1, none⟩) rfl rfl fl46_1 rfl rfl (GO.back (GO.on rfl rfl rfl rfl (GO.ldBox (j := 0) HS rfl rfl rfl rfl na2 rfl (GO.back (GO.on rfl rfl rfl rfl (GO.eql rfl rfl rfl rfl (GO.back (GO.ps 2 rfl ?_))))))))))))))
    refine GO.known (t := 11) rfl (decide_eq_true c4) (GO.on rfl rfl rfl rfl (GO.fld (⟨b1, 2, none⟩) rfl rfl fl46_2 rfl rfl (GO.back (GO.on rfl rfl rfl rfl (GO.ldBox (j := 0) HS rfl rfl rfl rfl na44 rfl (GO.back (GO.on rfl rfl rfl rfl (GO.lenS rfl rfl underlying44 rfl (GO.back (GO.on rfl rfl rfl rfl (GO.eql rfl rfl rfl rfl (GO.back (GO.ps 2 rfl (GO.known (t := 17) rfl (decide_eq_false c5) ?_))))))))))))))
    refine GO.off rfl rfl rfl rfl rfl rfl (GO.off rfl rfl rfl rfl rfl rfl (GO.off rfl rfl rfl rfl rfl rfl (GO.off rfl rfl rfl rfl rfl rfl (GO.ps 2 rfl (GO.off rfl rfl rfl rfl rfl rfl (GO.off rfl rfl rfl rfl rfl rfl (GO.off rfl rfl rfl rfl rfl rfl (GO.off rfl rfl rfl rfl rfl rfl (GO.ps 2 rfl (GO.nil ?_))))))))))
    obtain rfl := Option.some.inj H
    exact G.ret1 _ func119 rfl rfl ⟨rfl, (HS.pk 1 [] rfl)⟩
   refine G.region (GO.fld (⟨b1, 0, none⟩) rfl rfl fl46_0 rfl rfl (GO.ldBox (j := 0) HS rfl rfl rfl rfl na2 rfl (GO.ps 2 rfl (GO.known (t := 6) rfl (decide_eq_true c3) (GO.on rfl rfl rfl rfl (GO.fld (⟨b1, 1, none⟩) rfl rfl fl46_1 rfl rfl (GO.back (GO.on rfl rfl rfl rfl (GO.ldBox (j := 0) HS rfl rfl rfl rfl na2 rfl (GO.back (GO.on rfl rfl rfl rfl (GO.eql rfl rfl rfl rfl (GO.back (GO.ps 2 rfl ?_))))))))))))))
   refine GO.known (t := 11) rfl (decide_eq_false c4) (GO.off rfl rfl rfl rfl rfl rfl (GO.off rfl rfl rfl rfl rfl rfl (GO.off rfl rfl rfl rfl rfl rfl (GO.off rfl rfl rfl rfl rfl rfl (GO.ps 2 rfl (GO.off rfl rfl rfl rfl rfl rfl (GO.off rfl rfl rfl rfl rfl rfl (GO.off rfl rfl rfl rfl rfl rfl (GO.off rfl rfl rfl rfl rfl rfl (GO.ps 2 rfl (GO.off rfl rfl rfl rfl rfl rfl (GO.off rfl rfl rfl rfl rfl rfl (GO.off rfl rfl rfl rfl rfl rfl (GO.off rfl rfl rfl rfl rfl rfl ?_))))))))))))))
   refine GO.ps 2 rfl (GO.nil ?_)
   obtain rfl := Option.some.inj H
   exact G.ret1 _ func119 rfl rfl ⟨rfl, (HS.pk 1 [] rfl)⟩
  refine G.region (GO.fld (⟨b1, 0, none⟩) rfl rfl fl46_0 rfl rfl (GO.ldBox (j := 0) HS rfl rfl rfl rfl na2 rfl (GO.ps 2 rfl (GO.known (t := 6) rfl (decide_eq_false c3) (GO.off rfl rfl rfl rfl rfl rfl (GO.off rfl rfl rfl rfl rfl rfl (GO.off rfl rfl rfl rfl rfl rfl (GO.ps 2 rfl (GO.off rfl rfl rfl rfl rfl rfl (GO.off rfl rfl rfl rfl rfl rfl (GO.off rfl rfl rfl rfl rfl rfl (GO.off rfl rfl rfl rfl rfl rfl (GO.ps 2 rfl (GO.off rfl rfl rfl rfl rfl rfl ?_))))))))))))))
  refine GO.off rfl rfl rfl rfl rfl rfl (GO.off rfl rfl rfl rfl rfl rfl (GO.off rfl rfl rfl rfl rfl rfl (GO.ps 2 rfl (GO.off rfl rfl rfl rfl rfl rfl (GO.off rfl rfl rfl rfl rfl rfl (GO.off rfl rfl rfl rfl rfl rfl (GO.off rfl rfl rfl rfl rfl rfl (GO.ps 2 rfl (GO.nil ?_)))))))))
  obtain rfl := Option.some.inj H
  exact G.ret1 _ func119 rfl rfl ⟨rfl, (HS.pk 1 [] rfl)⟩
theorem spec_l33Zero.calls {w0 w : World} {L : List HObj} {e_Name : ByteArray} {e_Kind : Int} {e_Triangulation_Tets : List (List GFace)} {e_Diagram_Crossings : List GCrossing} {e_Diagram_Circles e_Braid_Strands : Int} {e_Braid_Word : List Int} {e_Certificate_Name e_Certificate_Trait : Int} {e_Certificate_Moves : List GMove} {e_Certificate_Tets e_Certificate_Perms : List Int} {kind : Int} {A_a : Option Addr} {c_a : Nat} {y_a : Nat → (Ty.slice 140 T_GFace).Lay} {A_b : Option Addr} {c_b : Nat} {A_c : Option Addr} {c_c : Nat} {A_d : Option Addr} {c_d : Nat} {A_e : Option Addr} {c_e : Nat} {A_f : Option Addr} {c_f : Nat} {r1 : Bool} (HS : St w0 w (L)) (r_a : RdIn w0 L (Ty.slice 140 T_GFace) A_a c_a y_a e_Triangulation_Tets) (r_b : RdIn w0 L T_GCrossing A_b c_b (fun _ => ()) e_Diagram_Crossings) (r_c : RdIn w0 L (TInt .i64) A_c c_c (fun _ => ()) e_Braid_Word) (r_d : RdIn w0 L T_GMove A_d c_d (fun _ => ()) e_Certificate_Moves) (r_e : RdIn w0 L (TInt .i64) A_e c_e (fun _ => ()) e_Certificate_Tets) (r_f : RdIn w0 L (TInt .i64) A_f c_f (fun _ => ()) e_Certificate_Perms) (H : spec_l33Zero.f e_Name e_Kind e_Triangulation_Tets e_Diagram_Crossings e_Diagram_Circles e_Braid_Strands e_Braid_Word e_Certificate_Name e_Certificate_Trait e_Certificate_Moves e_Certificate_Tets e_Certificate_Perms kind = some r1) :
    Calls prog 93 #[.agg [.string e_Name, .int .i64 e_Kind, .slice A_a e_Triangulation_Tets.length c_a, .slice A_b e_Diagram_Crossings.length c_b, .int .i64 e_Diagram_Circles, .int .i64 e_Braid_Strands, .slice A_c e_Braid_Word.length c_c, .int .i64 e_Certificate_Name, .int .i64 e_Certificate_Trait, .slice A_d e_Certificate_Moves.length c_d, .slice A_e e_Certificate_Tets.length c_e, .slice A_f e_Certificate_Perms.length c_f].toArray, .int .i64 kind] w (spec_l33Zero.post w0 L r1) := by
  unfold spec_l33Zero.f at H
  refine Calls.of_G func93 rfl rfl rfl ?_
  refine G.seq (G.region (GO.box (cs := [.string e_Name, .int .i64 e_Kind, .slice A_a e_Triangulation_Tets.length c_a, .slice A_b e_Diagram_Crossings.length c_b, .int .i64 e_Diagram_Circles, .int .i64 e_Braid_Strands, .slice A_c e_Braid_Word.length c_c, .int .i64 e_Certificate_Name, .int .i64 e_Certificate_Trait, .slice A_d e_Certificate_Moves.length c_d, .slice A_e e_Certificate_Tets.length c_e, .slice A_f e_Certificate_Perms.length c_f]) HS rfl rfl rfl rfl fun b1 wd2 HS => GO.assign rfl rfl rfl (GO.nil (G.run 6 rfl ?_))))
  rcases ite_elim H with ⟨c3, H⟩ | ⟨c3, H⟩
  ·
   refine G.yesB rfl (decide_eq_true c3) (G.seq ?_)
   obtain ⟨t4, h5, H⟩ := Option.bind_eq_some_iff.1 H
   refine G.region (GO.fld (⟨b1, 2, none⟩) rfl rfl fl48_2 rfl rfl (GO.ldBoxA (j := 0) ([.slice A_a e_Triangulation_Tets.length c_a]) HS rfl rfl rfl rfl ag37 rfl (GO.fn rfl func116 fok116.1 fok116.2 rfl rfl (spec_l33NoTri.calls HS (RdIn.drop 1 r_a) h5) (fun _ wd6 ⟨h7, HS⟩ => ⟨_, h7, (GO.assign rfl rfl rfl (GO.nil ?_))⟩))))
   obtain rfl := Option.some.inj H
   exact G.ret1 _ func93 rfl rfl ⟨rfl, (HS.pk 1 [] rfl)⟩
  refine G.noB rfl (decide_eq_false c3) (G.run 2 rfl ?_)
  rcases ite_elim H with ⟨c8, H⟩ | ⟨c8, H⟩
  ·
   refine G.yesB rfl (decide_eq_true c8) (G.seq ?_)
   obtain ⟨t9, h10, H⟩ := Option.bind_eq_some_iff.1 H
   refine G.region (GO.fld (⟨b1, 3, none⟩) rfl rfl fl48_3 rfl rfl (GO.ldBoxA (j := 0) ([.slice A_b e_Diagram_Crossings.length c_b, .int .i64 e_Diagram_Circles]) HS rfl rfl rfl rfl ag40 rfl (GO.fn rfl func117 fok117.1 fok117.2 rfl rfl (spec_l33NoDiagram.calls HS (RdIn.drop 1 r_b) h10) (fun _ wd11 ⟨h12, HS⟩ => ⟨_, h12, (GO.assign rfl rfl rfl (GO.nil ?_))⟩))))
   obtain rfl := Option.some.inj H
   exact G.ret1 _ func93 rfl rfl ⟨rfl, (HS.pk 1 [] rfl)⟩
  refine G.noB rfl (decide_eq_false c8) (G.run 2 rfl ?_)
  rcases ite_elim H with ⟨c13, H⟩ | ⟨c13, H⟩
  ·
   refine G.yesB rfl (decide_eq_true c13) (G.seq ?_)
   obtain ⟨t14, h15, H⟩ := Option.bind_eq_some_iff.1 H
   refine G.region (GO.fld (⟨b1, 5, none⟩) rfl rfl fl48_4 rfl rfl (GO.ldBoxA (j := 0) ([.int .i64 e_Braid_Strands, .slice A_c e_Braid_Word.length c_c]) HS rfl rfl rfl rfl ag43 rfl (GO.fn rfl func118 fok118.1 fok118.2 rfl rfl (spec_l33NoBraid.calls HS (RdIn.drop 1 r_c) h15) (fun _ wd16 ⟨h17, HS⟩ => ⟨_, h17, (GO.assign rfl rfl rfl (GO.nil ?_))⟩))))
   obtain rfl := Option.some.inj H
   exact G.ret1 _ func93 rfl rfl ⟨rfl, (HS.pk 1 [] rfl)⟩
  refine G.noB rfl (decide_eq_false c13) (G.run 3 rfl ?_)
  obtain ⟨t18, h19, H⟩ := Option.bind_eq_some_iff.1 H
  refine G.region (GO.fld (⟨b1, 7, none⟩) rfl rfl fl48_5 rfl rfl (GO.ldBoxA (j := 0) ([.int .i64 e_Certificate_Name, .int .i64 e_Certificate_Trait, .slice A_d e_Certificate_Moves.length c_d, .slice A_e e_Certificate_Tets.length c_e, .slice A_f e_Certificate_Perms.length c_f]) HS rfl rfl rfl rfl ag46 rfl (GO.fn rfl func119 fok119.1 fok119.2 rfl rfl (spec_l33NoCertificate.calls HS (RdIn.drop 1 r_d) (RdIn.drop 1 r_e) (RdIn.drop 1 r_f) h19) (fun _ wd20 ⟨h21, HS⟩ => ⟨_, h21, (GO.assign rfl rfl rfl (GO.nil ?_))⟩))))
  obtain rfl := Option.some.inj H
  exact G.ret1 _ func93 rfl rfl ⟨rfl, (HS.pk 1 [] rfl)⟩
theorem spec_l07Tets.calls {w0 w : World} {L : List HObj} {t_Tets : List (List GFace)} {A_a : Option Addr} {c_a : Nat} {y_a : Nat → (Ty.slice 140 T_GFace).Lay} {r1 : Int} (HS : St w0 w (L)) (r_a : RdIn w0 L (Ty.slice 140 T_GFace) A_a c_a y_a t_Tets) (H : spec_l07Tets.f t_Tets = some r1) :
    Calls prog 120 #[.agg [.slice A_a t_Tets.length c_a].toArray] w (spec_l07Tets.post w0 L r1) := by
  unfold spec_l07Tets.f at H
  refine Calls.of_G func120 rfl rfl rfl ?_
  refine G.seq (G.region (GO.box (cs := [.slice A_a t_Tets.length c_a]) HS rfl rfl rfl rfl fun b1 wd2 HS => GO.assign rfl rfl rfl (GO.nil (G.seq (G.region (GO.fld (⟨b1, 0, none⟩) rfl rfl fl37_0 rfl rfl (GO.ldBox (j := 0) HS rfl rfl rfl rfl na35 rfl (GO.lenS rfl rfl underlying35 rfl (GO.assign rfl rfl rfl (GO.nil ?_))))))))))
  obtain rfl := Option.some.inj H
  exact G.ret1 _ func120 rfl rfl ⟨rfl, (HS.pk 1 [] rfl)⟩
theorem spec_l07In.calls {w0 w : World} {L : List HObj} {n_ low high : Int} {r1 : Bool} (HS : St w0 w (L)) (H : spec_l07In.f n_ low high = some r1) :
    Calls prog 121 #[.int .i64 n_, .int .i64 low, .int .i64 high] w (spec_l07In.post w0 L r1) := by
  unfold spec_l07In.f at H
  refine Calls.of_G func121 rfl rfl rfl ?_
  refine G.run 3 rfl ?_
  rcases ite_elim H with ⟨c1, H⟩ | ⟨c1, H⟩
  ·
   refine G.region (GO.ps 4 rfl (GO.known (t := 10) rfl (decide_eq_true c1) (GO.on rfl rfl rfl rfl (GO.move rfl rfl rfl (GO.back (GO.on rfl rfl rfl rfl (GO.move rfl rfl rfl (GO.back (GO.on rfl rfl rfl rfl (GO.leq rfl rfl rfl rfl (GO.back (GO.ps 2 rfl (GO.nil ?_)))))))))))))
   obtain rfl := Option.some.inj H
   exact G.ret1 _ func121 rfl rfl ⟨rfl, HS⟩
  refine G.region (GO.ps 4 rfl (GO.known (t := 10) rfl (decide_eq_false c1) (GO.off rfl rfl rfl rfl rfl rfl (GO.off rfl rfl rfl rfl rfl rfl (GO.off rfl rfl rfl rfl rfl rfl (GO.ps 2 rfl (GO.nil ?_)))))))
  obtain rfl := Option.some.inj H
  exact G.ret1 _ func121 rfl rfl ⟨rfl, HS⟩
theorem spec_l06Valid.calls {w0 w : World} {L : List HObj} {p : Int} {r1 : Bool} (HS : St w0 w (L)) (H : spec_l06Valid.f p = some r1) :
    Calls prog 122 #[.int .i64 p] w (spec_l06Valid.post w0 L r1) := by
  unfold spec_l06Valid.f at H
  refine Calls.of_G func122 rfl rfl rfl ?_
  refine G.run 3 rfl ?_
  rcases ite_elim H with ⟨c1, H⟩ | ⟨c1, H⟩
  ·
   refine G.region (GO.ps 3 rfl (GO.known (t := 5) rfl (decide_eq_true c1) (GO.on rfl rfl rfl rfl (GO.move rfl rfl rfl (GO.back (GO.on rfl rfl rfl rfl (GO.lss rfl rfl rfl rfl (GO.back (GO.ps 2 rfl (GO.nil ?_))))))))))
   obtain rfl := Option.some.inj H
   exact G.ret1 _ func122 rfl rfl ⟨rfl, HS⟩
  refine G.region (GO.ps 3 rfl (GO.known (t := 5) rfl (decide_eq_false c1) (GO.off rfl rfl rfl rfl rfl rfl (GO.off rfl rfl rfl rfl rfl rfl (GO.ps 2 rfl (GO.nil ?_))))))
  obtain rfl := Option.some.inj H
  exact G.ret1 _ func122 rfl rfl ⟨rfl, HS⟩
theorem spec_l06Images.calls {w0 w : World} {L : List HObj} {K : Nat} {p : Int} {r1 : List Int} (HS : St w0 w (L)) (H : spec_l06Images.f K p = some r1) :
    Calls prog 145 #[.int .i64 p] w (spec_l06Images.post w0 L r1) := by
  unfold spec_l06Images.f at H
  refine Calls.of_G func145 rfl rfl rfl ?_
  refine G.run 3 rfl (G.region (GO.buildS (el := 2) ([.int .i64 0, .int .i64 1, .int .i64 2, .int .i64 3]) HS rfl rfl (fun _ => by kernel_rfl) rfl fun b1 wd2 HS => ?_))
  replace HS := HS.boxRow (T := (TInt .i64)) (j := 0) rfl flat_flat (fun _ => ()) ([0, 1, 2, 3] : List Int) rfl (bndL rfl)
  refine GO.lenC (t := 8) (m := ([0, 1, 2, 3] : List Int).length) (c' := ([0, 1, 2, 3] : List Int).length) rfl rfl rfl (GO.assign rfl rfl rfl (GO.nil (G.seq (G.region (GO.buildS (el := 2) ([]) HS rfl rfl (fun _ => by kernel_rfl) rfl fun b3 wd4 HS => ?_)))))
  replace HS := HS.boxRow (T := (TInt .i64)) (j := 0) rfl flat_flat (fun _ => ()) ([] : List Int) rfl (bndL rfl)
  refine GO.lenC (t := 9) (m := ([] : List Int).length) (c' := ([] : List Int).length) rfl rfl rfl (GO.assign rfl rfl rfl (GO.nil (G.run 7 rfl ?_)))
  refine G.name (fun k_l1 hk_l1 => ?_)
  have at_l1 : ∀ m_l1, m_l1 ≤ K → ∀ (p_24 : Int) (A25 : Option Addr) (c26 : Nat) (left_27 : List Int) (A28 : Option Addr) (c29 : Nat) (out_30 : List Int) (size_31 n_32 : Int) (w : World), spec_l06Images.l1 K m_l1 p_24 left_27 out_30 size_31 n_32 = some r1 → St w0 w (Own (TInt .i64) 2 A25 c26 (fun _ => ()) left_27 :: Own (TInt .i64) 2 A28 c29 (fun _ => ()) out_30 :: L) → G prog 145 43 [(0, .int .i64 p_24), (3, .slice A25 left_27.length c26), (4, .slice A28 out_30.length c29), (5, .int .i64 size_31), (6, .int .i64 n_32)] k_l1 w (spec_l06Images.post w0 L r1) := by
   intro m_l1
   induction m_l1 using Nat.strongRecOn with
   | _ m_l1 ih_l1 =>
    intro hm_l1 p_24 A25 c26 left_27 A28 c29 out_30 size_31 n_32 w H HS
    cases m_l1 with
    | zero => rw [spec_l06Images.l1] at H; cases H
    | succ n_l1 =>
     rw [spec_l06Images.l1] at H
     subst hk_l1
     refine G.run 3 rfl ?_
     rcases ite_elim H with ⟨c56, H⟩ | ⟨c56, H⟩
     ·
      refine G.yesB rfl (decide_eq_true c56) (G.run 4 rfl ?_)
      obtain ⟨c57, H⟩ := ite_some H
      refine G.region (GO.ps 2 rfl (GO.quo rfl rfl rfl c57 rfl (GO.assign rfl rfl rfl (GO.nil (G.seq (G.region (GO.ps 2 rfl (GO.rem rfl rfl rfl c57 rfl (GO.assign rfl rfl rfl (GO.nil (G.seq ?_)))))))))))
      obtain ⟨c58, H⟩ := ite_none H
      obtain ⟨c64, H⟩ := ite_none H
      refine G.region (GO.ps 3 rfl (GO.ix rfl rfl rfl underlying41 sz2 ((RdIn.own (j := 0) rfl) _ HS).2.2.1 c58.1 c58.2 rfl (GO.ldRd (T := (TInt .i64)) (n := (w64 (p_24.tdiv size_31)).toNat) (o := 0) HS (RdIn.own (j := 0) rfl) rfl rfl (getD_some (d := 0) (ltN c58)) rfl rfl na2 rfl (GO.buildS (el := 2) ([.int .i64 (left_27.getD ((w64 (p_24.tdiv size_31)).toNat) 0)]) HS rfl rfl (fun _ => by kernel_rfl) rfl fun b59 wd60 HS => GO.app1 (T := (TInt .i64)) (j := 2) (jb := 0) (left_27.getD ((w64 (p_24.tdiv size_31)).toNat) 0) HS rfl rfl flat_flat rfl rfl rfl underlying41 inf2 rfl rfl rfl c64 rfl fun A62 c63 wd61 HS => GO.assign rfl rfl rfl (GO.nil (G.seq ?_))))))
      obtain ⟨c67, H⟩ := ite_none H
      obtain ⟨c71, H⟩ := ite_none H
      obtain ⟨c72, H⟩ := ite_none H
      obtain ⟨c76, H⟩ := ite_none H
      refine G.lexS mixed (fun w => St w0 w (Own (TInt .i64) 2 A25 c26 (fun _ => ()) left_27 :: L)) [3, 8] [1, 2, 5, 6, 7, 3, 8, 0, 4, 9, 10] 11 (by kernel_rfl) (by kernel_rfl) (HS.drew.pk 3 [1] rfl) ?_
      replace HS := HS.drew
      refine GX.ps 5 rfl (GX.ls rfl rfl rfl (HS.pk 3 [1] rfl) (fun _ HS _ g => GO.slH (T := (TInt .i64)) HS (RdIn.own (j := 0) rfl) rfl rfl rfl underlying41 sz2 c67.1 c67.2 rfl g) rfl (GX.ls rfl rfl rfl (HS.pk 3 [1] rfl) (fun _ HS _ g => GO.slL (T := (TInt .i64)) HS (RdIn.own (j := 0) rfl) rfl rfl rfl underlying41 sz2 c72.1 c72.2 rfl g) rfl (GX.l2 rfl (GO.buildS (el := 2) ([]) HS rfl rfl (fun _ => by kernel_rfl) rfl fun b65 wd66 HS => GX.fin (HS.pk 4 [2] rfl) (GX.l2 rfl ?_)))))
      replace HS := HS.boxRow (T := (TInt .i64)) (j := 0) rfl flat_flat (fun _ => ()) ([] : List Int) rfl (bndL rfl)
      refine GO.lenC (t := 27) (m := ([] : List Int).length) (c' := ([] : List Int).length) rfl rfl rfl (GO.appS (T := (TInt .i64)) (j := 0) HS rfl (RdIn.cut (RdIn.own (j := 2) rfl) (Nat.zero_le _) (leN c67)) flat_flat rfl rfl rfl underlying41 inf2 rfl rfl rfl c71 rfl (fun _ => rfl) fun A69 c70 wd68 HS => GX.fin (HS.pk 4 [2] rfl) (GX.l2 rfl (GO.appS (T := (TInt .i64)) (j := 0) HS rfl (RdIn.cut (RdIn.own (j := 2) rfl) (leN c72) (Nat.le_refl _)) flat_flat rfl rfl rfl underlying41 inf2 rfl rfl rfl c76 rfl (fun _ => rfl) fun A74 c75 wd73 HS => GX.fin (HS.pk 4 [2] rfl) (GX.ps 1 rfl (GX.nil (G.run 2 rfl ?_))))))
      rcases ite_elim H with ⟨c77, H⟩ | ⟨c77, H⟩
      ·
       refine G.yesB rfl (decide_eq_true c77) ?_
       obtain ⟨c78, H⟩ := ite_some H
       refine G.region (GO.ps 2 rfl (GO.quo rfl rfl rfl c78 rfl (GO.assign rfl rfl rfl (GO.nil (G.run 3 rfl (G.weak ?_ (ih_l1 n_l1 (Nat.lt_succ_of_le (Nat.le_refl _)) (Nat.le_of_succ_le hm_l1) _ _ _ _ _ _ _ _ _ _ H (HS.pk 4 [0, 3] rfl))))))))
       exact ⟨rfl, rfl, rfl, rfl, rfl, trivial⟩
      refine G.noB rfl (decide_eq_false c77) (G.run 4 rfl (G.weak ?_ (ih_l1 n_l1 (Nat.lt_succ_of_le (Nat.le_refl _)) (Nat.le_of_succ_le hm_l1) _ _ _ _ _ _ _ _ _ _ H (HS.pk 4 [0, 3] rfl))))
      exact ⟨rfl, rfl, rfl, rfl, rfl, trivial⟩
     refine G.noB rfl (decide_eq_false c56) (G.run 3 rfl ?_)
     obtain rfl := Option.some.inj H
     exact G.ret1 _ func145 rfl rfl ⟨_, _, rfl, (HS.pk 2 [1] rfl)⟩
  refine G.weak ?_ (at_l1 K (Nat.le_refl _) _ _ _ _ _ _ _ _ _ _ H (HS.pk 2 [1, 0] rfl))
  exact ⟨rfl, rfl, rfl, rfl, rfl, trivial⟩
theorem spec_l06At.calls {w0 w : World} {L : List HObj} {K : Nat} {p k_ r1 : Int} (HS : St w0 w (L)) (H : spec_l06At.f K p k_ = some r1) :
    Calls prog 123 #[.int .i64 p, .int .i64 k_] w (spec_l06At.post w0 L r1) := by
  unfold spec_l06At.f at H
  refine Calls.of_G func123 rfl rfl rfl ?_
  refine G.run 3 rfl ?_
  obtain ⟨t1, h2, H⟩ := Option.bind_eq_some_iff.1 H
  obtain ⟨c7, H⟩ := ite_none H
  refine G.region (GO.move rfl rfl rfl (GO.fn rfl func145 fok145.1 fok145.2 rfl rfl (spec_l06Images.calls HS  h2) (fun _ wd5 ⟨A3, c4, h6, HS⟩ => ⟨_, h6, (GO.move rfl rfl rfl (GO.ix rfl rfl rfl underlying41 sz2 ((RdIn.own (j := 0) rfl) _ HS).2.2.1 c7.1 c7.2 rfl (GO.ldRd (T := (TInt .i64)) (n := k_.toNat) (o := 0) HS (RdIn.own (j := 0) rfl) rfl rfl (getD_some (d := 0) (ltN c7)) rfl rfl na2 rfl (GO.assign rfl rfl rfl (GO.nil ?_)))))⟩)))
  obtain rfl := Option.some.inj H
  exact G.ret1 _ func123 rfl rfl ⟨rfl, (HS.pk 1 [] rfl)⟩
theorem spec_l06Index.calls {w0 w : World} {L : List HObj} {K : Nat} {a_ : List Int} {A_a : Option Addr} {c_a : Nat} {r1 : Int} (HS : St w0 w (L)) (r_a : RdIn w0 L (TInt .i64) A_a c_a (fun _ => ()) a_) (H : spec_l06Index.f K a_ = some r1) :
    Calls prog 146 #[.slice A_a a_.length c_a] w (spec_l06Index.post w0 L r1) := by
  unfold spec_l06Index.f at H
  refine Calls.of_G func146 rfl rfl rfl ?_
  refine G.run 11 rfl ?_
  refine G.name (fun k_l1 hk_l1 => ?_)
  have at_l1 : ∀ m_l1, m_l1 ≤ K → ∀ (p_4 size_5 i_6 : Int) (w : World), spec_l06Index.l1 K m_l1 a_ p_4 size_5 i_6 = some r1 → St w0 w (L) → G prog 146 42 [(0, .slice A_a a_.length c_a), (3, .int .i64 p_4), (4, .int .i64 size_5), (5, .int .i64 i_6)] k_l1 w (spec_l06Index.post w0 L r1) := by
   intro m_l1
   induction m_l1 using Nat.strongRecOn with
   | _ m_l1 ih_l1 =>
    intro hm_l1 p_4 size_5 i_6 w H HS
    cases m_l1 with
    | zero => rw [spec_l06Index.l1] at H; cases H
    | succ n_l1 =>
     rw [spec_l06Index.l1] at H
     subst hk_l1
     refine G.run 3 rfl ?_
     rcases ite_elim H with ⟨c23, H⟩ | ⟨c23, H⟩
     ·
      refine G.yesB rfl (decide_eq_true c23) (G.run 4 rfl ?_)
      obtain ⟨c24, H⟩ := ite_none H
      refine G.region (GO.ps 2 rfl (GO.ix rfl rfl rfl underlying41 sz2 (r_a _ HS).2.2.1 c24.1 c24.2 rfl (GO.ldRd (T := (TInt .i64)) (n := i_6.toNat) (o := 0) HS r_a rfl rfl (getD_some (d := 0) (ltN c24)) rfl rfl na2 rfl (GO.assign rfl rfl rfl (GO.nil (G.run 5 rfl ?_))))))
      refine G.name (fun k_l4 hk_l4 => ?_)
      have at_l4 : ∀ m_l4, m_l4 ≤ n_l1 → ∀ (k_29 j_30 : Int) (w : World), spec_l06Index.l4 K m_l4 a_ p_4 size_5 i_6 k_29 j_30 = some r1 → St w0 w (L) → G prog 146 42 [(0, .slice A_a a_.length c_a), (3, .int .i64 p_4), (4, .int .i64 size_5), (5, .int .i64 i_6), (6, .int .i64 k_29), (7, .int .i64 j_30)] k_l4 w (spec_l06Index.post w0 L r1) := by
       intro m_l4
       induction m_l4 using Nat.strongRecOn with
       | _ m_l4 ih_l4 =>
        intro hm_l4 k_29 j_30 w H HS
        cases m_l4 with
        | zero => rw [spec_l06Index.l4] at H; cases H
        | succ n_l4 =>
         rw [spec_l06Index.l4] at H
         subst hk_l4
         refine G.run 3 rfl ?_
         rcases ite_elim H with ⟨c35, H⟩ | ⟨c35, H⟩
         ·
          refine G.yesB rfl (decide_eq_true c35) (G.run 4 rfl ?_)
          obtain ⟨c36, H⟩ := ite_none H
          refine G.lex mixed [0, 1, 2, 4, 5, 6, 3, 7, 8] (by kernel_rfl) ?_
          replace HS := HS.drew
          refine GX.ps 2 rfl (GX.l0 rfl rfl (fun _ _ g => GO.ix rfl rfl rfl underlying41 sz2 (r_a _ HS).2.2.1 c36.1 c36.2 rfl g) rfl (GX.ps 2 rfl (GX.l0 rfl rfl (fun _ _ g => GO.ix rfl rfl rfl underlying41 sz2 (r_a _ HS).2.2.1 c24.1 c24.2 rfl g) rfl (GX.l1 rfl rfl rfl (fun _ g => GO.ldRd (T := (TInt .i64)) (n := j_30.toNat) (o := 0) HS r_a rfl rfl (getD_some (d := 0) (ltN c36)) rfl rfl na2 rfl g) rfl (GX.l1 rfl rfl rfl (fun _ g => GO.ldRd (T := (TInt .i64)) (n := i_6.toNat) (o := 0) HS r_a rfl rfl (getD_some (d := 0) (ltN c24)) rfl rfl na2 rfl g) rfl (GX.ps 1 rfl (GX.nil ?_)))))))
          rcases ite_elim H with ⟨c37, H⟩ | ⟨c37, H⟩
          ·
           refine G.yesB rfl (decide_eq_true c37) (G.run 4 rfl (G.weak ?_ (ih_l4 n_l4 (Nat.lt_succ_of_le (Nat.le_refl _)) (Nat.le_of_succ_le hm_l4) _ _ _ H HS)))
           exact ⟨rfl, rfl, rfl, rfl, rfl, rfl, trivial⟩
          refine G.noB rfl (decide_eq_false c37) (G.run 4 rfl (G.weak ?_ (ih_l4 n_l4 (Nat.lt_succ_of_le (Nat.le_refl _)) (Nat.le_of_succ_le hm_l4) _ _ _ H HS)))
          exact ⟨rfl, rfl, rfl, rfl, rfl, rfl, trivial⟩
         refine G.noB rfl (decide_eq_false c35) (G.run 3 rfl ?_)
         obtain ⟨c38, H⟩ := ite_some H
         refine G.region (GO.ps 3 rfl (GO.quo rfl rfl rfl c38 rfl (GO.assign rfl rfl rfl (GO.nil (G.run 3 rfl (G.weak ?_ (ih_l1 n_l4 (by omega) (by omega) _ _ _ _ H HS)))))))
         exact ⟨rfl, rfl, rfl, rfl, trivial⟩
      refine G.weak ?_ (at_l4 n_l1 (Nat.le_refl _) _ _ _ H HS)
      exact ⟨rfl, rfl, rfl, rfl, rfl, rfl, trivial⟩
     refine G.noB rfl (decide_eq_false c23) (G.run 3 rfl ?_)
     obtain rfl := Option.some.inj H
     exact G.ret1 _ func146 rfl rfl ⟨rfl, HS⟩
  refine G.weak ?_ (at_l1 K (Nat.le_refl _) _ _ _ _ H HS)
  exact ⟨rfl, rfl, rfl, rfl, trivial⟩
theorem spec_l06Back.calls {w0 w : World} {L : List HObj} {K : Nat} {p r1 : Int} (HS : St w0 w (L)) (H : spec_l06Back.f K p = some r1) :
    Calls prog 124 #[.int .i64 p] w (spec_l06Back.post w0 L r1) := by
  unfold spec_l06Back.f at H
  refine Calls.of_G func124 rfl rfl rfl ?_
  refine G.run 3 rfl ?_
  obtain ⟨t1, h2, H⟩ := Option.bind_eq_some_iff.1 H
  refine G.region (GO.move rfl rfl rfl (GO.fn rfl func145 fok145.1 fok145.2 rfl rfl (spec_l06Images.calls HS  h2) (fun _ wd5 ⟨A3, c4, h6, HS⟩ => ⟨_, h6, (GO.assign rfl rfl rfl (GO.nil (G.seq (G.region (GO.buildS (el := 2) ([.int .i64 0, .int .i64 0, .int .i64 0, .int .i64 0]) HS rfl rfl (fun _ => by kernel_rfl) rfl fun b7 wd8 HS => ?_)))))⟩)))
  replace HS := HS.boxRow (T := (TInt .i64)) (j := 0) rfl flat_flat (fun _ => ()) ([0, 0, 0, 0] : List Int) rfl (bndL rfl)
  refine GO.lenC (t := 8) (m := ([0, 0, 0, 0] : List Int).length) (c' := ([0, 0, 0, 0] : List Int).length) rfl rfl rfl (GO.assign rfl rfl rfl (GO.nil (G.run 5 rfl ?_)))
  refine G.name (fun k_l1 hk_l1 => ?_)
  have at_l1 : ∀ m_l1, m_l1 ≤ K → ∀ (out_12 : List Int) (k_13 : Int) (w : World), spec_l06Back.l1 K m_l1 t1 out_12 k_13 = some r1 → St w0 w (Own (TInt .i64) 2 A3 c4 (fun _ => ()) t1 :: Own (TInt .i64) 2 (some ⟨b7, 0, none⟩) (([0, 0, 0, 0] : List Int).length) (fun _ => ()) out_12 :: L) → G prog 124 22 [(3, .slice A3 t1.length c4), (4, .slice (some ⟨b7, 0, none⟩) out_12.length (([0, 0, 0, 0] : List Int).length)), (5, .int .i64 k_13)] k_l1 w (spec_l06Back.post w0 L r1) := by
   intro m_l1
   induction m_l1 using Nat.strongRecOn with
   | _ m_l1 ih_l1 =>
    intro hm_l1 out_12 k_13 w H HS
    cases m_l1 with
    | zero => rw [spec_l06Back.l1] at H; cases H
    | succ n_l1 =>
     rw [spec_l06Back.l1] at H
     subst hk_l1
     refine G.run 3 rfl ?_
     rcases ite_elim H with ⟨c22, H⟩ | ⟨c22, H⟩
     ·
      refine G.yesB rfl (decide_eq_true c22) (G.run 3 rfl ?_)
      obtain ⟨c23, H⟩ := ite_none H
      obtain ⟨c24, H⟩ := ite_none H
      refine G.region (GO.ps 3 rfl (GO.ix rfl rfl rfl underlying41 sz2 ((RdIn.own (j := 0) rfl) _ HS).2.2.1 c23.1 c23.2 rfl (GO.ldRd (T := (TInt .i64)) (n := k_13.toNat) (o := 0) HS (RdIn.own (j := 0) rfl) rfl rfl (getD_some (d := 0) (ltN c23)) rfl rfl na2 rfl (GO.move rfl rfl rfl (GO.ix rfl rfl rfl underlying41 sz2 (fun _ => ⟨_, _, rfl⟩) c24.1 c24.2 rfl (GO.stRow (T := (TInt .i64)) (j := 1) (n := (t1.getD k_13.toNat 0).toNat) (o := 0) (vs := [.int .i64 k_13]) k_13 HS rfl flat_flat rfl rfl rfl rfl (htN na2 rfl) rfl (getD_some (d := 0) (ltN c24)) rfl rfl fun wd25 HS => GO.nil (G.len (t := 4) (m := (out_12.set ((t1.getD k_13.toNat 0).toNat) k_13).length) rfl (by simp only [List.length_set] <;> rfl) (G.run 3 rfl (G.weak ?_ (ih_l1 n_l1 (Nat.lt_succ_of_le (Nat.le_refl _)) (Nat.le_of_succ_le hm_l1) _ _ _ H HS))))))))))
      exact ⟨rfl, rfl, rfl, trivial⟩
     refine G.noB rfl (decide_eq_false c22) (G.run 2 rfl ?_)
     obtain ⟨t26, h27, H⟩ := Option.bind_eq_some_iff.1 H
     refine G.region (GO.move rfl rfl rfl (GO.fn rfl func146 fok146.1 fok146.2 rfl rfl (spec_l06Index.calls HS (RdIn.own (j := 1) rfl) h27) (fun _ wd28 ⟨h29, HS⟩ => ⟨_, h29, (GO.assign rfl rfl rfl (GO.nil ?_))⟩)))
     obtain rfl := Option.some.inj H
     exact G.ret1 _ func124 rfl rfl ⟨rfl, (HS.pk 2 [] rfl)⟩
  refine G.weak ?_ (at_l1 K (Nat.le_refl _) _ _ _ H (HS.pk 2 [1, 0] rfl))
  exact ⟨rfl, rfl, rfl, trivial⟩
theorem spec_IsTriangulation.calls {w0 w : World} {L : List HObj} {K : Nat} {t_Tets : List (List GFace)} {A_a : Option Addr} {c_a : Nat} {y_a : Nat → (Ty.slice 140 T_GFace).Lay} {r1 : Bool} (HS : St w0 w (L)) (r_a : RdIn w0 L (Ty.slice 140 T_GFace) A_a c_a y_a t_Tets) (H : spec_IsTriangulation.f K t_Tets = some r1) :
    Calls prog 94 #[.agg [.slice A_a t_Tets.length c_a].toArray] w (spec_IsTriangulation.post w0 L r1) := by
  unfold spec_IsTriangulation.f at H
  refine Calls.of_G func94 rfl rfl rfl ?_
  refine G.seq (G.region (GO.box (cs := [.slice A_a t_Tets.length c_a]) HS rfl rfl rfl rfl fun b1 wd2 HS => GO.assign rfl rfl rfl (GO.nil (G.run 2 rfl ?_))))
  obtain ⟨t3, h4, H⟩ := Option.bind_eq_some_iff.1 H
  refine G.region (GO.ldBoxA (j := 0) ([.slice A_a t_Tets.length c_a]) HS rfl rfl rfl rfl ag37 rfl (GO.fn rfl func120 fok120.1 fok120.2 rfl rfl (spec_l07Tets.calls HS (RdIn.drop 1 r_a) h4) (fun _ wd5 ⟨h6, HS⟩ => ⟨_, h6, (GO.gtr rfl rfl rfl rfl (GO.nil ?_))⟩)))
  rcases ite_elim H with ⟨c7, H⟩ | ⟨c7, H⟩
  ·
   refine G.yesB rfl (decide_eq_true c7) (G.run 2 rfl ?_)
   obtain rfl := Option.some.inj H
   exact G.ret1 _ func94 rfl rfl ⟨rfl, (HS.pk 1 [] rfl)⟩
  refine G.noB rfl (decide_eq_false c7) (G.run 6 rfl ?_)
  refine G.name (fun k_l1 hk_l1 => ?_)
  have at_l1 : ∀ m_l1, m_l1 ≤ K → ∀ (a_549 : Int) (w : World), spec_IsTriangulation.l1 K m_l1 t_Tets a_549 = some r1 → St w0 w (Box b1 37 [.slice A_a t_Tets.length c_a] :: L) → G prog 94 96 [(1, .pointer (some ⟨b1, 0, none⟩)), (3, .int .i64 a_549)] k_l1 w (spec_IsTriangulation.post w0 L r1) := by
   intro m_l1
   induction m_l1 using Nat.strongRecOn with
   | _ m_l1 ih_l1 =>
    intro hm_l1 a_549 w H HS
    cases m_l1 with
    | zero => rw [spec_IsTriangulation.l1] at H; cases H
    | succ n_l1 =>
     rw [spec_IsTriangulation.l1] at H
     subst hk_l1
     refine G.run 2 rfl (G.region (GO.move rfl rfl rfl (GO.fld (⟨b1, 0, none⟩) rfl rfl fl37_0 rfl rfl (GO.ldBox (j := 0) HS rfl rfl rfl rfl na35 rfl (GO.lenS rfl rfl underlying35 rfl (GO.lss rfl rfl rfl rfl (GO.nil ?_)))))))
     rcases ite_elim H with ⟨c1091, H⟩ | ⟨c1091, H⟩
     ·
      refine G.yesB rfl (decide_eq_true c1091) (G.run 4 rfl ?_)
      obtain ⟨c1092, H⟩ := ite_none H
      refine G.region (GO.fld (⟨b1, 0, none⟩) rfl rfl fl37_0 rfl rfl (GO.ldBox (j := 0) HS rfl rfl rfl rfl na35 rfl (GO.move rfl rfl rfl (GO.ix rfl rfl rfl underlying35 sz136 ((RdIn.drop 1 r_a) _ HS).2.2.1 c1092.1 c1092.2 rfl (GO.ldRd (T := (Ty.slice 140 T_GFace)) (n := a_549.toNat) (o := 0) HS (RdIn.drop 1 r_a) rfl rfl (getD_some (d := []) (ltN c1092)) rfl rfl na136 rfl (GO.lenS rfl rfl underlying136 rfl (GO.neq rfl rfl rfl rfl (GO.nil ?_))))))))
      rcases ite_elim H with ⟨c1093, H⟩ | ⟨c1093, H⟩
      ·
       refine G.noB rfl (congrArg Bool.not (decide_eq_true c1093)) (G.run 4 rfl (G.weak ?_ (ih_l1 n_l1 (Nat.lt_succ_of_le (Nat.le_refl _)) (Nat.le_of_succ_le hm_l1) _ _ H HS)))
       exact ⟨rfl, rfl, trivial⟩
      refine G.yesB rfl (congrArg Bool.not (decide_eq_false c1093)) (G.run 2 rfl ?_)
      obtain rfl := Option.some.inj H
      exact G.ret1 _ func94 rfl rfl ⟨rfl, (HS.pk 1 [] rfl)⟩
     refine G.noB rfl (decide_eq_false c1091) (G.run 6 rfl ?_)
     refine G.name (fun k_l28 hk_l28 => ?_)
     have at_l28 : ∀ m_l28, m_l28 ≤ n_l1 → ∀ (a_1273 : Int) (w : World), spec_IsTriangulation.l28 K m_l28 t_Tets a_1273 = some r1 → St w0 w (Box b1 37 [.slice A_a t_Tets.length c_a] :: L) → G prog 94 96 [(1, .pointer (some ⟨b1, 0, none⟩)), (4, .int .i64 a_1273)] k_l28 w (spec_IsTriangulation.post w0 L r1) := by
      intro m_l28
      induction m_l28 using Nat.strongRecOn with
      | _ m_l28 ih_l28 =>
       intro hm_l28 a_1273 w H HS
       cases m_l28 with
       | zero => rw [spec_IsTriangulation.l28] at H; cases H
       | succ n_l28 =>
        rw [spec_IsTriangulation.l28] at H
        subst hk_l28
        refine G.run 2 rfl ?_
        obtain ⟨t1453, h1454, H⟩ := Option.bind_eq_some_iff.1 H
        refine G.region (GO.move rfl rfl rfl (GO.ldBoxA (j := 0) ([.slice A_a t_Tets.length c_a]) HS rfl rfl rfl rfl ag37 rfl (GO.fn rfl func120 fok120.1 fok120.2 rfl rfl (spec_l07Tets.calls HS (RdIn.drop 1 r_a) h1454) (fun _ wd1455 ⟨h1456, HS⟩ => ⟨_, h1456, (GO.lss rfl rfl rfl rfl (GO.nil ?_))⟩))))
        rcases ite_elim H with ⟨c1457, H⟩ | ⟨c1457, H⟩
        ·
         refine G.yesB rfl (decide_eq_true c1457) (G.run 7 rfl ?_)
         refine G.name (fun k_l37 hk_l37 => ?_)
         have at_l37 : ∀ m_l37, m_l37 ≤ n_l28 → ∀ (f_1515 : Int) (w : World), spec_IsTriangulation.l37 K m_l37 t_Tets a_1273 f_1515 = some r1 → St w0 w (Box b1 37 [.slice A_a t_Tets.length c_a] :: L) → G prog 94 96 [(1, .pointer (some ⟨b1, 0, none⟩)), (4, .int .i64 a_1273), (5, .int .i64 f_1515)] k_l37 w (spec_IsTriangulation.post w0 L r1) := by
          intro m_l37
          induction m_l37 using Nat.strongRecOn with
          | _ m_l37 ih_l37 =>
           intro hm_l37 f_1515 w H HS
           cases m_l37 with
           | zero => rw [spec_IsTriangulation.l37] at H; cases H
           | succ n_l37 =>
            rw [spec_IsTriangulation.l37] at H
            subst hk_l37
            refine G.run 3 rfl ?_
            rcases ite_elim H with ⟨c1574, H⟩ | ⟨c1574, H⟩
            ·
             refine G.yesB rfl (decide_eq_true c1574) (G.run 4 rfl ?_)
             obtain ⟨c1575, H⟩ := ite_none H
             obtain ⟨c1576, H⟩ := ite_none H
             obtain ⟨e1577, h1578, H⟩ := bnd_elim H
             refine G.region (GO.fld (⟨b1, 0, none⟩) rfl rfl fl37_0 rfl rfl (GO.ldBox (j := 0) HS rfl rfl rfl rfl na35 rfl (GO.move rfl rfl rfl (GO.ix rfl rfl rfl underlying35 sz136 ((RdIn.drop 1 r_a) _ HS).2.2.1 c1575.1 c1575.2 rfl (GO.ldRd (T := (Ty.slice 140 T_GFace)) (n := a_1273.toNat) (o := 0) HS (RdIn.drop 1 r_a) rfl rfl (getD_some (d := []) (ltN c1575)) rfl rfl na136 rfl (GO.move rfl rfl rfl (GO.ix rfl rfl rfl underlying136 sz140 ((RdIn.elem (RdIn.drop 1 r_a) c1575.1 c1575.2) _ HS).2.2.1 c1576.1 c1576.2 rfl (GO.ldRdA (T := T_GFace) (n := f_1515.toNat) HS (RdIn.elem (RdIn.drop 1 r_a) c1575.1 c1575.2) rfl rfl (getD_eq (ltN c1576) h1578) ag140 rfl (GO.alloc HS rfl zr140 rfl rfl fun b1579 wd1580 HS => GO.stBox (j := 0) (vs := [.int .i64 e1577.Tet, .int .i64 e1577.Perm]) ([.int .i64 e1577.Tet, .int .i64 e1577.Perm]) HS rfl rfl rfl rfl rfl (htA ag140) rfl rfl rfl fun wd1581 HS => GO.nil (G.run 2 rfl ?_))))))))))
             refine G.nameT (fun k_j40 hk_j40 => ?_)
             have at_j40 : ∀ m_j40, m_j40 ≤ n_l37 → ∀ (x1584 : Bool) (w : World), spec_IsTriangulation.j40 K m_j40 t_Tets a_1273 f_1515 e1577 x1584 = some r1 → St w0 w (Box b1 37 [.slice A_a t_Tets.length c_a] :: Box b1579 140 [.int .i64 e1577.Tet, .int .i64 e1577.Perm] :: L) → G prog 94 96 [(1, .pointer (some ⟨b1, 0, none⟩)), (4, .int .i64 a_1273), (5, .int .i64 f_1515), (6, .pointer (some ⟨b1579, 0, none⟩)), (51, .bool x1584)] k_j40 w (spec_IsTriangulation.post w0 L r1) := by
              intro m_j40 hm_j40 x1584 w H HS
              cases m_j40 with
              | zero => rw [spec_IsTriangulation.j40] at H; cases H
              | succ n_j40 =>
               rw [spec_IsTriangulation.j40] at H
               subst hk_j40
               rcases ite_elim H with ⟨c1585, H⟩ | ⟨c1585, H⟩
               ·
                refine G.yesB rfl c1585 (G.run 3 rfl (G.weak ?_ (ih_l37 n_j40 (by omega) (by omega) _ _ H (HS.pk 2 [0] rfl))))
                exact ⟨rfl, rfl, rfl, trivial⟩
               refine G.noB rfl (bnot_of c1585) (G.run 3 rfl ?_)
               obtain ⟨t1599, h1600, H⟩ := Option.bind_eq_some_iff.1 H
               obtain ⟨t1603, h1604, H⟩ := Option.bind_eq_some_iff.1 H
               rcases ite_elim H with ⟨c1607, H⟩ | ⟨c1607, H⟩
               ·
                obtain ⟨t1608, h1609, H⟩ := Option.bind_eq_some_iff.1 H
                refine G.lexS mixed (fun w => St w0 w (Box b1 37 [.slice A_a t_Tets.length c_a] :: Box b1579 140 [.int .i64 e1577.Tet, .int .i64 e1577.Perm] :: L)) [1, 2, 9] [0, 1, 2, 3, 4, 5, 6, 7, 8, 9, 10, 11, 12] 13 (by kernel_rfl) (by kernel_rfl) HS.drew ?_
                replace HS := HS.drew
                refine GX.l0 rfl rfl (fun _ _ g => GO.fld (⟨b1579, 0, none⟩) rfl rfl fl140_0 rfl rfl g) rfl (GX.ls rfl rfl rfl HS (fun _ HS _ g => GO.ldBox (j := 1) HS rfl rfl rfl rfl na2 rfl g) rfl (GX.ls rfl rfl rfl HS (fun _ HS _ g => GO.ldBoxA (j := 0) ([.slice A_a t_Tets.length c_a]) HS rfl rfl rfl rfl ag37 rfl g) rfl (GX.l2 rfl (GO.fn rfl func120 fok120.1 fok120.2 rfl rfl (spec_l07Tets.calls HS (RdIn.drop 2 r_a) h1600) (fun _ wd1601 ⟨h1602, HS⟩ => ⟨_, h1602, (GX.fin HS (GX.ps 1 rfl (GX.l2 rfl (GO.fn rfl func121 fok121.1 fok121.2 rfl rfl (spec_l07In.calls HS  h1604) (fun _ wd1605 ⟨h1606, HS⟩ => ⟨_, h1606, (GX.fin HS (GX.ps 1 rfl (GX.l0 rfl rfl (fun _ _ g => GO.move rfl rfl rfl (GO.known (t := 59) rfl (congrArg Bool.not c1607) g)) rfl (GX.l0 rfl rfl (fun _ _ g => GO.on rfl rfl rfl rfl (GO.fld (⟨b1579, 1, none⟩) rfl rfl fl140_1 rfl rfl (GO.back g))) rfl (GX.ls rfl rfl rfl HS (fun _ HS _ g => GO.on rfl rfl rfl rfl (GO.ldBox (j := 1) HS rfl rfl rfl rfl na2 rfl (GO.back g))) rfl (GX.l2 rfl ?_))))))⟩)))))⟩)))))
                refine GO.on rfl rfl rfl rfl (GO.fn rfl func122 fok122.1 fok122.2 rfl rfl (spec_l06Valid.calls HS  h1609) (fun _ wd1610 ⟨h1611, HS⟩ => ⟨_, h1611, (GO.back (GX.fin HS (GX.l0 rfl rfl (fun _ _ g => GO.on rfl rfl rfl rfl (GO.not rfl rfl rfl (GO.back g))) rfl (GX.ps 1 rfl (GX.nil ?_)))))⟩))
                rcases ite_elim H with ⟨c1612, H⟩ | ⟨c1612, H⟩
                ·
                 refine G.noB rfl (congrArg Bool.not c1612) (G.run 2 rfl ?_)
                 obtain ⟨t1613, h1614, H⟩ := Option.bind_eq_some_iff.1 H
                 refine G.region (GO.fld (⟨b1579, 1, none⟩) rfl rfl fl140_1 rfl rfl (GO.ldBox (j := 1) HS rfl rfl rfl rfl na2 rfl (GO.move rfl rfl rfl (GO.fn rfl func123 fok123.1 fok123.2 rfl rfl (spec_l06At.calls HS  h1614) (fun _ wd1615 ⟨h1616, HS⟩ => ⟨_, h1616, (GO.assign rfl rfl rfl (GO.nil (G.seq ?_)))⟩)))))
                 obtain ⟨t1617, h1618, H⟩ := Option.bind_eq_some_iff.1 H
                 refine G.region (GO.move rfl rfl rfl (GO.fld (⟨b1579, 1, none⟩) rfl rfl fl140_1 rfl rfl (GO.ldBox (j := 1) HS rfl rfl rfl rfl na2 rfl (GO.fn rfl func124 fok124.1 fok124.2 rfl rfl (spec_l06Back.calls HS  h1618) (fun _ wd1619 ⟨h1620, HS⟩ => ⟨_, h1620, (GO.buildV (.agg [.int .i64 a_1273, .int .i64 t1617].toArray) rfl rfl (fun _ => by kernel_rfl) rfl (GO.alloc HS rfl zr140 rfl rfl fun b1621 wd1622 HS => GO.stBox (j := 0) (vs := [.int .i64 a_1273, .int .i64 t1617]) ([.int .i64 a_1273, .int .i64 t1617]) HS rfl rfl rfl rfl rfl (htA ag140) rfl rfl rfl fun wd1623 HS => GO.nil (G.seq ?_)))⟩)))))
                 obtain ⟨c1624, H⟩ := ite_none H
                 obtain ⟨c1625, H⟩ := ite_none H
                 obtain ⟨e1626, h1627, H⟩ := bnd_elim H
                 rcases ite_elim H with ⟨c1628, H⟩ | ⟨c1628, H⟩
                 ·
                  rcases ite_elim H with ⟨c1629, H⟩ | ⟨c1629, H⟩
                  ·
                   refine G.lex mixed [0, 2, 6, 1, 3, 4, 5, 7, 8, 9, 10, 11, 12, 14, 13, 15, 16, 17, 18, 19, 20, 21] (by kernel_rfl) ?_
                   replace HS := HS.drew
                   refine GX.l0 rfl rfl (fun _ _ g => GO.fld (⟨b1, 0, none⟩) rfl rfl fl37_0 rfl rfl g) rfl (GX.l0 rfl rfl (fun _ _ g => GO.fld (⟨b1579, 0, none⟩) rfl rfl fl140_0 rfl rfl g) rfl (GX.ps 1 rfl (GX.l1 rfl rfl rfl (fun _ g => GO.ldBox (j := 1) HS rfl rfl rfl rfl na35 rfl g) rfl (GX.l1 rfl rfl rfl (fun _ g => GO.ldBox (j := 2) HS rfl rfl rfl rfl na2 rfl g) rfl (GX.l0 rfl rfl (fun _ _ g => GO.ix rfl rfl rfl underlying35 sz136 ((RdIn.drop 3 r_a) _ HS).2.2.1 c1624.1 c1624.2 rfl g) rfl (GX.l1 rfl rfl rfl (fun _ g => GO.ldRd (T := (Ty.slice 140 T_GFace)) (n := e1577.Tet.toNat) (o := 0) HS (RdIn.drop 3 r_a) rfl rfl (getD_some (d := []) (ltN c1624)) rfl rfl na136 rfl g) rfl (GX.l0 rfl rfl (fun _ _ g => GO.ix rfl rfl rfl underlying136 sz140 ((RdIn.elem (RdIn.drop 3 r_a) c1624.1 c1624.2) _ HS).2.2.1 c1625.1 c1625.2 rfl g) rfl (GX.l1 rfl rfl rfl (fun _ g => GO.ldRdA (T := T_GFace) (n := t1613.toNat) HS (RdIn.elem (RdIn.drop 3 r_a) c1624.1 c1624.2) rfl rfl (getD_eq (ltN c1625) h1627) ag140 rfl g) rfl (GX.l1 rfl rfl rfl (fun _ g => GO.ldBoxA (j := 0) ([.int .i64 a_1273, .int .i64 t1617]) HS rfl rfl rfl rfl ag140 rfl g) rfl (GX.l0 rfl rfl (fun _ _ g => GO.neqA rfl rfl rfl ng140 (fun _ => eq140) rfl g) rfl (GX.l0 rfl rfl (fun _ _ g => GO.move rfl rfl rfl (GO.known (t := 85) rfl (congrArg Bool.not (decide_eq_true c1628)) g)) rfl (GX.l0 rfl rfl (fun _ _ g => GO.on rfl rfl rfl rfl (GO.fld (⟨b1579, 0, none⟩) rfl rfl fl140_0 rfl rfl (GO.back g))) rfl (GX.l0 rfl rfl (fun _ _ g => GO.on rfl rfl rfl rfl (GO.move rfl rfl rfl (GO.back g))) rfl (GX.l1 rfl rfl rfl (fun _ g => GO.on rfl rfl rfl rfl (GO.ldBox (j := 2) HS rfl rfl rfl rfl na2 rfl (GO.back g))) rfl ?_))))))))))))))
                   refine GX.l0 rfl rfl (fun _ _ g => GO.on rfl rfl rfl rfl (GO.eql rfl rfl rfl rfl (GO.back g))) rfl (GX.l0 rfl rfl (fun _ _ g => GO.on rfl rfl rfl rfl (GO.move rfl rfl rfl (GO.back (GO.known (t := 90) rfl (decide_eq_true c1629) g)))) rfl (GX.l0 rfl rfl (fun _ _ g => GO.on rfl rfl rfl rfl (GO.move rfl rfl rfl (GO.back g))) rfl (GX.l0 rfl rfl (fun _ _ g => GO.on rfl rfl rfl rfl (GO.move rfl rfl rfl (GO.back g))) rfl (GX.l0 rfl rfl (fun _ _ g => GO.on rfl rfl rfl rfl (GO.eql rfl rfl rfl rfl (GO.back g))) rfl (GX.l0 rfl rfl (fun _ _ g => GO.on rfl rfl rfl rfl (GO.pickT rfl rfl rfl rfl rfl (GO.back g))) rfl (GX.ps 1 rfl (GX.nil ?_)))))))
                   rcases ite_elim H with ⟨c1630, H⟩ | ⟨c1630, H⟩
                   ·
                    refine G.yesB rfl (decide_eq_true c1630) (G.run 2 rfl ?_)
                    obtain rfl := Option.some.inj H
                    exact G.ret1 _ func94 rfl rfl ⟨rfl, (HS.pk 3 [] rfl)⟩
                   refine G.noB rfl (decide_eq_false c1630) (G.run 4 rfl (G.weak ?_ (ih_l37 n_j40 (by omega) (by omega) _ _ H (HS.pk 3 [1] rfl))))
                   exact ⟨rfl, rfl, rfl, trivial⟩
                  refine G.lex mixed [0, 2, 6, 1, 3, 4, 5, 7, 8, 9, 10, 11, 12, 14, 13, 15, 16, 17, 18, 19, 20, 21] (by kernel_rfl) ?_
                  replace HS := HS.drew
                  refine GX.l0 rfl rfl (fun _ _ g => GO.fld (⟨b1, 0, none⟩) rfl rfl fl37_0 rfl rfl g) rfl (GX.l0 rfl rfl (fun _ _ g => GO.fld (⟨b1579, 0, none⟩) rfl rfl fl140_0 rfl rfl g) rfl (GX.ps 1 rfl (GX.l1 rfl rfl rfl (fun _ g => GO.ldBox (j := 1) HS rfl rfl rfl rfl na35 rfl g) rfl (GX.l1 rfl rfl rfl (fun _ g => GO.ldBox (j := 2) HS rfl rfl rfl rfl na2 rfl g) rfl (GX.l0 rfl rfl (fun _ _ g => GO.ix rfl rfl rfl underlying35 sz136 ((RdIn.drop 3 r_a) _ HS).2.2.1 c1624.1 c1624.2 rfl g) rfl (GX.l1 rfl rfl rfl (fun _ g => GO.ldRd (T := (Ty.slice 140 T_GFace)) (n := e1577.Tet.toNat) (o := 0) HS (RdIn.drop 3 r_a) rfl rfl (getD_some (d := []) (ltN c1624)) rfl rfl na136 rfl g) rfl (GX.l0 rfl rfl (fun _ _ g => GO.ix rfl rfl rfl underlying136 sz140 ((RdIn.elem (RdIn.drop 3 r_a) c1624.1 c1624.2) _ HS).2.2.1 c1625.1 c1625.2 rfl g) rfl (GX.l1 rfl rfl rfl (fun _ g => GO.ldRdA (T := T_GFace) (n := t1613.toNat) HS (RdIn.elem (RdIn.drop 3 r_a) c1624.1 c1624.2) rfl rfl (getD_eq (ltN c1625) h1627) ag140 rfl g) rfl (GX.l1 rfl rfl rfl (fun _ g => GO.ldBoxA (j := 0) ([.int .i64 a_1273, .int .i64 t1617]) HS rfl rfl rfl rfl ag140 rfl g) rfl (GX.l0 rfl rfl (fun _ _ g => GO.neqA rfl rfl rfl ng140 (fun _ => eq140) rfl g) rfl (GX.l0 rfl rfl (fun _ _ g => GO.move rfl rfl rfl (GO.known (t := 85) rfl (congrArg Bool.not (decide_eq_true c1628)) g)) rfl (GX.l0 rfl rfl (fun _ _ g => GO.on rfl rfl rfl rfl (GO.fld (⟨b1579, 0, none⟩) rfl rfl fl140_0 rfl rfl (GO.back g))) rfl (GX.l0 rfl rfl (fun _ _ g => GO.on rfl rfl rfl rfl (GO.move rfl rfl rfl (GO.back g))) rfl (GX.l1 rfl rfl rfl (fun _ g => GO.on rfl rfl rfl rfl (GO.ldBox (j := 2) HS rfl rfl rfl rfl na2 rfl (GO.back g))) rfl ?_))))))))))))))
                  refine GX.l0 rfl rfl (fun _ _ g => GO.on rfl rfl rfl rfl (GO.eql rfl rfl rfl rfl (GO.back g))) rfl (GX.l0 rfl rfl (fun _ _ g => GO.on rfl rfl rfl rfl (GO.move rfl rfl rfl (GO.back (GO.known (t := 90) rfl (decide_eq_false c1629) g)))) rfl (GX.l0 rfl rfl (fun _ _ g => GO.off rfl rfl rfl rfl rfl rfl g) rfl (GX.l0 rfl rfl (fun _ _ g => GO.off rfl rfl rfl rfl rfl rfl g) rfl (GX.l0 rfl rfl (fun _ _ g => GO.off rfl rfl rfl rfl rfl rfl g) rfl (GX.l0 rfl rfl (fun _ _ g => GO.on rfl rfl rfl rfl (GO.pickF rfl rfl rfl rfl rfl (GO.back g))) rfl (GX.ps 1 rfl (GX.nil (G.run 5 rfl (G.weak ?_ (ih_l37 n_j40 (by omega) (by omega) _ _ H (HS.pk 3 [1] rfl)))))))))))
                  exact ⟨rfl, rfl, rfl, trivial⟩
                 refine G.lex mixed [0, 2, 6, 1, 3, 4, 5, 7, 8, 9, 10, 11, 12, 14, 13, 15, 16, 17, 18, 19, 20, 21] (by kernel_rfl) ?_
                 replace HS := HS.drew
                 refine GX.l0 rfl rfl (fun _ _ g => GO.fld (⟨b1, 0, none⟩) rfl rfl fl37_0 rfl rfl g) rfl (GX.l0 rfl rfl (fun _ _ g => GO.fld (⟨b1579, 0, none⟩) rfl rfl fl140_0 rfl rfl g) rfl (GX.ps 1 rfl (GX.l1 rfl rfl rfl (fun _ g => GO.ldBox (j := 1) HS rfl rfl rfl rfl na35 rfl g) rfl (GX.l1 rfl rfl rfl (fun _ g => GO.ldBox (j := 2) HS rfl rfl rfl rfl na2 rfl g) rfl (GX.l0 rfl rfl (fun _ _ g => GO.ix rfl rfl rfl underlying35 sz136 ((RdIn.drop 3 r_a) _ HS).2.2.1 c1624.1 c1624.2 rfl g) rfl (GX.l1 rfl rfl rfl (fun _ g => GO.ldRd (T := (Ty.slice 140 T_GFace)) (n := e1577.Tet.toNat) (o := 0) HS (RdIn.drop 3 r_a) rfl rfl (getD_some (d := []) (ltN c1624)) rfl rfl na136 rfl g) rfl (GX.l0 rfl rfl (fun _ _ g => GO.ix rfl rfl rfl underlying136 sz140 ((RdIn.elem (RdIn.drop 3 r_a) c1624.1 c1624.2) _ HS).2.2.1 c1625.1 c1625.2 rfl g) rfl (GX.l1 rfl rfl rfl (fun _ g => GO.ldRdA (T := T_GFace) (n := t1613.toNat) HS (RdIn.elem (RdIn.drop 3 r_a) c1624.1 c1624.2) rfl rfl (getD_eq (ltN c1625) h1627) ag140 rfl g) rfl (GX.l1 rfl rfl rfl (fun _ g => GO.ldBoxA (j := 0) ([.int .i64 a_1273, .int .i64 t1617]) HS rfl rfl rfl rfl ag140 rfl g) rfl (GX.l0 rfl rfl (fun _ _ g => GO.neqA rfl rfl rfl ng140 (fun _ => eq140) rfl g) rfl (GX.l0 rfl rfl (fun _ _ g => GO.move rfl rfl rfl (GO.known (t := 85) rfl (congrArg Bool.not (decide_eq_false c1628)) g)) rfl (GX.l0 rfl rfl (fun _ _ g => GO.off rfl rfl rfl rfl rfl rfl g) rfl (GX.l0 rfl rfl (fun _ _ g => GO.off rfl rfl rfl rfl rfl rfl g) rfl (GX.l1 rfl rfl rfl (fun _ g => GO.off rfl rfl rfl rfl rfl rfl g) rfl ?_))))))))))))))
                 refine GX.l0 rfl rfl (fun _ _ g => GO.off rfl rfl rfl rfl rfl rfl g) rfl (GX.l0 rfl rfl (fun _ _ g => GO.off rfl rfl rfl rfl rfl rfl g) rfl (GX.l0 rfl rfl (fun _ _ g => GO.offU rfl rfl rfl rfl rfl rfl g) rfl (GX.l0 rfl rfl (fun _ _ g => GO.offU rfl rfl rfl rfl rfl rfl g) rfl (GX.l0 rfl rfl (fun _ _ g => GO.offU rfl rfl rfl rfl rfl rfl g) rfl (GX.l0 rfl rfl (fun _ _ g => GO.off rfl rfl rfl rfl rfl rfl g) rfl (GX.ps 1 rfl (GX.nil (G.run 3 rfl ?_))))))))
                 obtain rfl := Option.some.inj H
                 exact G.ret1 _ func94 rfl rfl ⟨rfl, (HS.pk 3 [] rfl)⟩
                refine G.yesB rfl (congrArg Bool.not (bnot_of c1612)) (G.run 2 rfl ?_)
                obtain rfl := Option.some.inj H
                exact G.ret1 _ func94 rfl rfl ⟨rfl, (HS.pk 2 [] rfl)⟩
               refine G.lexS mixed (fun w => St w0 w (Box b1 37 [.slice A_a t_Tets.length c_a] :: Box b1579 140 [.int .i64 e1577.Tet, .int .i64 e1577.Perm] :: L)) [1, 2, 9] [0, 1, 2, 3, 4, 5, 6, 7, 8, 9, 10, 11, 12] 13 (by kernel_rfl) (by kernel_rfl) HS.drew ?_
               replace HS := HS.drew
               refine GX.l0 rfl rfl (fun _ _ g => GO.fld (⟨b1579, 0, none⟩) rfl rfl fl140_0 rfl rfl g) rfl (GX.ls rfl rfl rfl HS (fun _ HS _ g => GO.ldBox (j := 1) HS rfl rfl rfl rfl na2 rfl g) rfl (GX.ls rfl rfl rfl HS (fun _ HS _ g => GO.ldBoxA (j := 0) ([.slice A_a t_Tets.length c_a]) HS rfl rfl rfl rfl ag37 rfl g) rfl (GX.l2 rfl (GO.fn rfl func120 fok120.1 fok120.2 rfl rfl (spec_l07Tets.calls HS (RdIn.drop 2 r_a) h1600) (fun _ wd1601 ⟨h1602, HS⟩ => ⟨_, h1602, (GX.fin HS (GX.ps 1 rfl (GX.l2 rfl (GO.fn rfl func121 fok121.1 fok121.2 rfl rfl (spec_l07In.calls HS  h1604) (fun _ wd1605 ⟨h1606, HS⟩ => ⟨_, h1606, (GX.fin HS (GX.ps 1 rfl (GX.l0 rfl rfl (fun _ _ g => GO.move rfl rfl rfl (GO.known (t := 59) rfl (congrArg Bool.not (bnot_of c1607)) g)) rfl (GX.l0 rfl rfl (fun _ _ g => GO.off rfl rfl rfl rfl rfl rfl g) rfl (GX.ls rfl rfl rfl HS (fun _ HS _ g => GO.off rfl rfl rfl rfl rfl rfl g) rfl (GX.l2 rfl ?_))))))⟩)))))⟩)))))
               refine GO.off rfl rfl rfl rfl rfl rfl (GX.fin HS (GX.l0 rfl rfl (fun _ _ g => GO.off rfl rfl rfl rfl rfl rfl g) rfl (GX.ps 1 rfl (GX.nil (G.run 3 rfl ?_)))))
               obtain rfl := Option.some.inj H
               exact G.ret1 _ func94 rfl rfl ⟨rfl, (HS.pk 2 [] rfl)⟩
             rcases ite_elim H with ⟨c1631, H⟩ | ⟨c1631, H⟩
             ·
              refine G.region (GO.fld (⟨b1579, 0, none⟩) rfl rfl fl140_0 rfl rfl (GO.ldBox (j := 0) HS rfl rfl rfl rfl na2 rfl (GO.ps 2 rfl (GO.known (t := 47) rfl (decide_eq_true c1631) (GO.on rfl rfl rfl rfl (GO.fld (⟨b1579, 1, none⟩) rfl rfl fl140_1 rfl rfl (GO.back (GO.on rfl rfl rfl rfl (GO.ldBox (j := 0) HS rfl rfl rfl rfl na2 rfl (GO.back (GO.on rfl rfl rfl rfl (GO.eql rfl rfl rfl rfl (GO.back (GO.pickT rfl rfl rfl rfl rfl ?_))))))))))))))
              refine GO.nil (G.weak ?_ (at_j40 n_l37 (Nat.le_refl _) _ _ H (HS.pk 2 [1, 0] rfl)))
              exact ⟨rfl, rfl, rfl, rfl, rfl, trivial⟩
             refine G.region (GO.fld (⟨b1579, 0, none⟩) rfl rfl fl140_0 rfl rfl (GO.ldBox (j := 0) HS rfl rfl rfl rfl na2 rfl (GO.ps 2 rfl (GO.known (t := 47) rfl (decide_eq_false c1631) (GO.off rfl rfl rfl rfl rfl rfl (GO.off rfl rfl rfl rfl rfl rfl (GO.off rfl rfl rfl rfl rfl rfl (GO.pickF rfl rfl rfl rfl rfl (GO.nil (G.weak ?_ (at_j40 n_l37 (Nat.le_refl _) _ _ H (HS.pk 2 [1, 0] rfl))))))))))))
             exact ⟨rfl, rfl, rfl, rfl, rfl, trivial⟩
            refine G.noB rfl (decide_eq_false c1574) (G.run 4 rfl (G.weak ?_ (ih_l28 n_l37 (by omega) (by omega) _ _ H HS)))
            exact ⟨rfl, rfl, trivial⟩
         refine G.weak ?_ (at_l37 n_l28 (Nat.le_refl _) _ _ H HS)
         exact ⟨rfl, rfl, rfl, trivial⟩
        refine G.noB rfl (decide_eq_false c1457) (G.run 3 rfl ?_)
        obtain rfl := Option.some.inj H
        exact G.ret1 _ func94 rfl rfl ⟨rfl, (HS.pk 1 [] rfl)⟩
     refine G.weak ?_ (at_l28 n_l1 (Nat.le_refl _) _ _ H HS)
     exact ⟨rfl, rfl, trivial⟩
  refine G.weak ?_ (at_l1 K (Nat.le_refl _) _ _ H HS)
  exact ⟨rfl, rfl, trivial⟩
theorem spec_l25End.calls {w0 w : World} {L : List HObj} {x_A x_B : Int} {x_C x_D : Int} {x_Sign p r1 : Int} (HS : St w0 w (L)) (H : spec_l25End.f x_A x_B x_C x_D x_Sign p = some r1) :
    Calls prog 147 #[.agg [.int .i64 x_A, .int .i64 x_B, .int .i64 x_C, .int .i64 x_D, .int .i64 x_Sign].toArray, .int .i64 p] w (spec_l25End.post w0 L r1) := by
  unfold spec_l25End.f at H
  refine Calls.of_G func147 rfl rfl rfl ?_
  refine G.seq (G.region (GO.box (cs := [.int .i64 x_A, .int .i64 x_B, .int .i64 x_C, .int .i64 x_D, .int .i64 x_Sign]) HS rfl rfl rfl rfl fun b1 wd2 HS => GO.assign rfl rfl rfl (GO.nil (G.seq ?_))))
  obtain ⟨c5, H⟩ := ite_none H
  refine G.region (GO.fld (⟨b1, 0, none⟩) rfl rfl fl143_0 rfl rfl (GO.ldBox (j := 0) HS rfl rfl rfl rfl na2 rfl (GO.fld (⟨b1, 1, none⟩) rfl rfl fl143_1 rfl rfl (GO.ldBox (j := 0) HS rfl rfl rfl rfl na2 rfl (GO.fld (⟨b1, 2, none⟩) rfl rfl fl143_2 rfl rfl (GO.ldBox (j := 0) HS rfl rfl rfl rfl na2 rfl (GO.fld (⟨b1, 3, none⟩) rfl rfl fl143_3 rfl rfl (GO.ldBox (j := 0) HS rfl rfl rfl rfl na2 rfl (GO.buildS (el := 2) ([.int .i64 x_A, .int .i64 x_B, .int .i64 x_C, .int .i64 x_D]) HS rfl rfl (fun _ => by kernel_rfl) rfl fun b3 wd4 HS => GO.move rfl rfl rfl ?_)))))))))
  replace HS := HS.boxRow (T := (TInt .i64)) (j := 0) rfl flat_flat (fun _ => ()) ([x_A, x_B, x_C, x_D] : List Int) rfl (bndL rfl)
  refine GO.lenC (t := 13) (m := ([x_A, x_B, x_C, x_D] : List Int).length) (c' := ([x_A, x_B, x_C, x_D] : List Int).length) rfl rfl rfl (GO.ix rfl rfl rfl underlying41 sz2 (fun _ => ⟨_, _, rfl⟩) c5.1 c5.2 rfl (GO.ldRd (T := (TInt .i64)) (n := p.toNat) (o := 0) HS (RdIn.own (j := 0) rfl) rfl rfl (getD_some (d := 0) (ltN c5)) rfl rfl na2 rfl (GO.assign rfl rfl rfl (GO.nil ?_))))
  obtain rfl := Option.some.inj H
  exact G.ret1 _ func147 rfl rfl ⟨rfl, (HS.pk 2 [] rfl)⟩
theorem spec_l25Enters.calls {w0 w : World} {L : List HObj} {x_A x_B : Int} {x_C x_D : Int} {x_Sign p : Int} {r1 : Bool} (HS : St w0 w (L)) (H : spec_l25Enters.f x_A x_B x_C x_D x_Sign p = some r1) :
    Calls prog 148 #[.agg [.int .i64 x_A, .int .i64 x_B, .int .i64 x_C, .int .i64 x_D, .int .i64 x_Sign].toArray, .int .i64 p] w (spec_l25Enters.post w0 L r1) := by
  unfold spec_l25Enters.f at H
  refine Calls.of_G func148 rfl rfl rfl ?_
  refine G.seq (G.region (GO.box (cs := [.int .i64 x_A, .int .i64 x_B, .int .i64 x_C, .int .i64 x_D, .int .i64 x_Sign]) HS rfl rfl rfl rfl fun b1 wd2 HS => GO.assign rfl rfl rfl (GO.nil (G.seq ?_))))
  rcases ite_elim H with ⟨c3, H⟩ | ⟨c3, H⟩
  ·
   refine G.region (GO.ps 3 rfl (GO.known (t := 7) rfl (decide_eq_true c3) (GO.off rfl rfl rfl rfl rfl rfl (GO.off rfl rfl rfl rfl rfl rfl (GO.off rfl rfl rfl rfl rfl rfl (GO.offU rfl rfl rfl rfl rfl rfl (GO.offU rfl rfl rfl rfl rfl rfl (GO.offU rfl rfl rfl rfl rfl rfl (GO.off rfl rfl rfl rfl rfl rfl (GO.ps 2 rfl (GO.off rfl rfl rfl rfl rfl rfl (GO.off rfl rfl rfl rfl rfl rfl (GO.off rfl rfl rfl rfl rfl rfl (GO.offU rfl rfl rfl rfl rfl rfl ?_))))))))))))))
   refine GO.offU rfl rfl rfl rfl rfl rfl (GO.offU rfl rfl rfl rfl rfl rfl (GO.off rfl rfl rfl rfl rfl rfl (GO.ps 2 rfl (GO.nil ?_))))
   obtain rfl := Option.some.inj H
   exact G.ret1 _ func148 rfl rfl ⟨rfl, (HS.pk 1 [] rfl)⟩
  rcases ite_elim H with ⟨c4, H⟩ | ⟨c4, H⟩
  ·
   rcases ite_elim H with ⟨c5, H⟩ | ⟨c5, H⟩
   ·
    refine G.region (GO.ps 3 rfl (GO.known (t := 7) rfl (decide_eq_false c3) (GO.on rfl rfl rfl rfl (GO.move rfl rfl rfl (GO.back (GO.on rfl rfl rfl rfl (GO.eql rfl rfl rfl rfl (GO.back (GO.on rfl rfl rfl rfl (GO.move rfl rfl rfl (GO.back (GO.known (t := 10) rfl (decide_eq_true c4) (GO.on rfl rfl rfl rfl (GO.fld (⟨b1, 4, none⟩) rfl rfl fl143_4 rfl rfl ?_))))))))))))))
    refine GO.back (GO.on rfl rfl rfl rfl (GO.ldBox (j := 0) HS rfl rfl rfl rfl na2 rfl (GO.back (GO.on rfl rfl rfl rfl (GO.eql rfl rfl rfl rfl (GO.back (GO.on rfl rfl rfl rfl (GO.pickT rfl rfl rfl rfl rfl (GO.back (GO.ps 2 rfl (GO.known (t := 16) rfl (decide_eq_true c5) (GO.off rfl rfl rfl rfl rfl rfl (GO.off rfl rfl rfl rfl rfl rfl (GO.off rfl rfl rfl rfl rfl rfl ?_))))))))))))))
    refine GO.offU rfl rfl rfl rfl rfl rfl (GO.offU rfl rfl rfl rfl rfl rfl (GO.offU rfl rfl rfl rfl rfl rfl (GO.off rfl rfl rfl rfl rfl rfl (GO.ps 2 rfl (GO.nil ?_)))))
    obtain rfl := Option.some.inj H
    exact G.ret1 _ func148 rfl rfl ⟨rfl, (HS.pk 1 [] rfl)⟩
   rcases ite_elim H with ⟨c6, H⟩ | ⟨c6, H⟩
   ·
    refine G.region (GO.ps 3 rfl (GO.known (t := 7) rfl (decide_eq_false c3) (GO.on rfl rfl rfl rfl (GO.move rfl rfl rfl (GO.back (GO.on rfl rfl rfl rfl (GO.eql rfl rfl rfl rfl (GO.back (GO.on rfl rfl rfl rfl (GO.move rfl rfl rfl (GO.back (GO.known (t := 10) rfl (decide_eq_true c4) (GO.on rfl rfl rfl rfl (GO.fld (⟨b1, 4, none⟩) rfl rfl fl143_4 rfl rfl ?_))))))))))))))
    refine GO.back (GO.on rfl rfl rfl rfl (GO.ldBox (j := 0) HS rfl rfl rfl rfl na2 rfl (GO.back (GO.on rfl rfl rfl rfl (GO.eql rfl rfl rfl rfl (GO.back (GO.on rfl rfl rfl rfl (GO.pickT rfl rfl rfl rfl rfl (GO.back (GO.ps 2 rfl (GO.known (t := 16) rfl (decide_eq_false c5) (GO.on rfl rfl rfl rfl (GO.move rfl rfl rfl (GO.back ?_))))))))))))))
    refine GO.on rfl rfl rfl rfl (GO.eql rfl rfl rfl rfl (GO.back (GO.on rfl rfl rfl rfl (GO.move rfl rfl rfl (GO.back (GO.known (t := 19) rfl (decide_eq_true c6) (GO.on rfl rfl rfl rfl (GO.fld (⟨b1, 4, none⟩) rfl rfl fl143_4 rfl rfl (GO.back (GO.on rfl rfl rfl rfl (GO.ldBox (j := 0) HS rfl rfl rfl rfl na2 rfl (GO.back (GO.on rfl rfl rfl rfl (GO.eql rfl rfl rfl rfl ?_))))))))))))))
    refine GO.back (GO.on rfl rfl rfl rfl (GO.pickT rfl rfl rfl rfl rfl (GO.back (GO.ps 2 rfl (GO.nil ?_)))))
    obtain rfl := Option.some.inj H
    exact G.ret1 _ func148 rfl rfl ⟨rfl, (HS.pk 1 [] rfl)⟩
   refine G.region (GO.ps 3 rfl (GO.known (t := 7) rfl (decide_eq_false c3) (GO.on rfl rfl rfl rfl (GO.move rfl rfl rfl (GO.back (GO.on rfl rfl rfl rfl (GO.eql rfl rfl rfl rfl (GO.back (GO.on rfl rfl rfl rfl (GO.move rfl rfl rfl (GO.back (GO.known (t := 10) rfl (decide_eq_true c4) (GO.on rfl rfl rfl rfl (GO.fld (⟨b1, 4, none⟩) rfl rfl fl143_4 rfl rfl ?_))))))))))))))
   refine GO.back (GO.on rfl rfl rfl rfl (GO.ldBox (j := 0) HS rfl rfl rfl rfl na2 rfl (GO.back (GO.on rfl rfl rfl rfl (GO.eql rfl rfl rfl rfl (GO.back (GO.on rfl rfl rfl rfl (GO.pickT rfl rfl rfl rfl rfl (GO.back (GO.ps 2 rfl (GO.known (t := 16) rfl (decide_eq_false c5) (GO.on rfl rfl rfl rfl (GO.move rfl rfl rfl (GO.back ?_))))))))))))))
   refine GO.on rfl rfl rfl rfl (GO.eql rfl rfl rfl rfl (GO.back (GO.on rfl rfl rfl rfl (GO.move rfl rfl rfl (GO.back (GO.known (t := 19) rfl (decide_eq_false c6) (GO.off rfl rfl rfl rfl rfl rfl (GO.off rfl rfl rfl rfl rfl rfl (GO.off rfl rfl rfl rfl rfl rfl (GO.on rfl rfl rfl rfl (GO.pickF rfl rfl rfl rfl rfl (GO.back (GO.ps 2 rfl (GO.nil ?_))))))))))))))
   obtain rfl := Option.some.inj H
   exact G.ret1 _ func148 rfl rfl ⟨rfl, (HS.pk 1 [] rfl)⟩
  rcases ite_elim H with ⟨c7, H⟩ | ⟨c7, H⟩
  ·
   refine G.region (GO.ps 3 rfl (GO.known (t := 7) rfl (decide_eq_false c3) (GO.on rfl rfl rfl rfl (GO.move rfl rfl rfl (GO.back (GO.on rfl rfl rfl rfl (GO.eql rfl rfl rfl rfl (GO.back (GO.on rfl rfl rfl rfl (GO.move rfl rfl rfl (GO.back (GO.known (t := 10) rfl (decide_eq_false c4) (GO.off rfl rfl rfl rfl rfl rfl (GO.off rfl rfl rfl rfl rfl rfl ?_))))))))))))))
   refine GO.off rfl rfl rfl rfl rfl rfl (GO.on rfl rfl rfl rfl (GO.pickF rfl rfl rfl rfl rfl (GO.back (GO.ps 2 rfl (GO.on rfl rfl rfl rfl (GO.move rfl rfl rfl (GO.back (GO.on rfl rfl rfl rfl (GO.eql rfl rfl rfl rfl (GO.back (GO.on rfl rfl rfl rfl (GO.move rfl rfl rfl (GO.back (GO.known (t := 19) rfl (decide_eq_true c7) ?_))))))))))))))
   refine GO.on rfl rfl rfl rfl (GO.fld (⟨b1, 4, none⟩) rfl rfl fl143_4 rfl rfl (GO.back (GO.on rfl rfl rfl rfl (GO.ldBox (j := 0) HS rfl rfl rfl rfl na2 rfl (GO.back (GO.on rfl rfl rfl rfl (GO.eql rfl rfl rfl rfl (GO.back (GO.on rfl rfl rfl rfl (GO.pickT rfl rfl rfl rfl rfl (GO.back (GO.ps 2 rfl (GO.nil ?_)))))))))))))
   obtain rfl := Option.some.inj H
   exact G.ret1 _ func148 rfl rfl ⟨rfl, (HS.pk 1 [] rfl)⟩
  refine G.region (GO.ps 3 rfl (GO.known (t := 7) rfl (decide_eq_false c3) (GO.on rfl rfl rfl rfl (GO.move rfl rfl rfl (GO.back (GO.on rfl rfl rfl rfl (GO.eql rfl rfl rfl rfl (GO.back (GO.on rfl rfl rfl rfl (GO.move rfl rfl rfl (GO.back (GO.known (t := 10) rfl (decide_eq_false c4) (GO.off rfl rfl rfl rfl rfl rfl (GO.off rfl rfl rfl rfl rfl rfl ?_))))))))))))))
  refine GO.off rfl rfl rfl rfl rfl rfl (GO.on rfl rfl rfl rfl (GO.pickF rfl rfl rfl rfl rfl (GO.back (GO.ps 2 rfl (GO.on rfl rfl rfl rfl (GO.move rfl rfl rfl (GO.back (GO.on rfl rfl rfl rfl (GO.eql rfl rfl rfl rfl (GO.back (GO.on rfl rfl rfl rfl (GO.move rfl rfl rfl (GO.back (GO.known (t := 19) rfl (decide_eq_false c7) ?_))))))))))))))
  refine GO.off rfl rfl rfl rfl rfl rfl (GO.off rfl rfl rfl rfl rfl rfl (GO.off rfl rfl rfl rfl rfl rfl (GO.on rfl rfl rfl rfl (GO.pickF rfl rfl rfl rfl rfl (GO.back (GO.ps 2 rfl (GO.nil ?_)))))))
  obtain rfl := Option.some.inj H
  exact G.ret1 _ func148 rfl rfl ⟨rfl, (HS.pk 1 [] rfl)⟩
theorem spec_l25Counts.calls {w0 w : World} {L : List HObj} {K : Nat} {d_Crossings : List GCrossing} {d_Circles : Int} {A_a : Option Addr} {c_a : Nat} {r1 : Bool} (HS : St w0 w (L)) (r_a : RdIn w0 L T_GCrossing A_a c_a (fun _ => ()) d_Crossings) (H : spec_l25Counts.f K d_Crossings d_Circles = some r1) :
    Calls prog 125 #[.agg [.slice A_a d_Crossings.length c_a, .int .i64 d_Circles].toArray] w (spec_l25Counts.post w0 L r1) := by
  unfold spec_l25Counts.f at H
  refine Calls.of_G func125 rfl rfl rfl ?_
  refine G.seq (G.region (GO.box (cs := [.slice A_a d_Crossings.length c_a, .int .i64 d_Circles]) HS rfl rfl rfl rfl fun b1 wd2 HS => GO.assign rfl rfl rfl (GO.nil (G.seq (G.region (GO.fld (⟨b1, 0, none⟩) rfl rfl fl40_0 rfl rfl (GO.ldBox (j := 0) HS rfl rfl rfl rfl na38 rfl (GO.lenS rfl rfl underlying38 rfl (GO.ps 2 rfl (GO.nil (G.seq ?_)))))))))))
  obtain ⟨c3, H⟩ := ite_none H
  obtain ⟨c4, H⟩ := ite_none H
  refine G.regionAny mixed (by decide) (fun b a w => ∃ (Y1_0 : Value) (Y2_1 : Value) (Y3_2 : Value) (Y4_3 : Value) (Y5_4 : Value) (Y6_5 : Value) (b5 : Nat) (b7 : Nat) (O7_2 : HObj) (O8_3 : HObj), Sat 63 [(4, Y5_4), (5, Y6_5), (15, Y1_0), (16, Y2_1), (17, Y3_2), (18, Y4_3), (1, .pointer (some ⟨b1, 0, none⟩)), (3, .int .i64 (w64 (2 * (d_Crossings.length : Int))))] a ∧ St w0 w (Box b1 40 [.slice A_a d_Crossings.length c_a, .int .i64 d_Circles] :: O7_2 :: O8_3 :: L) ∧ (b 4 = true → Y5_4 = (.slice (some ⟨b5, 0, none⟩) (List.replicate (w64 (2 * (d_Crossings.length : Int))).toNat false).length ((w64 (2 * (d_Crossings.length : Int))).toNat))) ∧ (b 5 = true → Y6_5 = (.slice (some ⟨b7, 0, none⟩) (List.replicate (w64 (2 * (d_Crossings.length : Int))).toNat false).length ((w64 (2 * (d_Crossings.length : Int))).toNat))) ∧ (b 0 = true → Y1_0 = (.int .i64 (w64 (2 * (d_Crossings.length : Int))))) ∧ (b 1 = true → Y2_1 = (.slice (some ⟨b5, 0, none⟩) (List.replicate (w64 (2 * (d_Crossings.length : Int))).toNat false).length ((w64 (2 * (d_Crossings.length : Int))).toNat))) ∧ (b 2 = true → Y3_2 = (.int .i64 (w64 (2 * (d_Crossings.length : Int))))) ∧ (b 3 = true → Y4_3 = (.slice (some ⟨b7, 0, none⟩) (List.replicate (w64 (2 * (d_Crossings.length : Int))).toNat false).length ((w64 (2 * (d_Crossings.length : Int))).toNat))) ∧ (b 1 = true → O7_2 = Own TBool 4 (some ⟨b5, 0, none⟩) ((w64 (2 * (d_Crossings.length : Int))).toNat) (fun _ => ()) (List.replicate (w64 (2 * (d_Crossings.length : Int))).toNat false)) ∧ (b 3 = true → O8_3 = Own TBool 4 (some ⟨b7, 0, none⟩) ((w64 (2 * (d_Crossings.length : Int))).toNat) (fun _ => ()) (List.replicate (w64 (2 * (d_Crossings.length : Int))).toNat false))) ?_ ?_ ?_
  ·
   intro a hs
   obtain ⟨Y5_4, hs⟩ := hs.ext (d := 4) rfl
   obtain ⟨Y6_5, hs⟩ := hs.ext (d := 5) rfl
   obtain ⟨Y1_0, hs⟩ := hs.ext (d := 15) rfl
   obtain ⟨Y2_1, hs⟩ := hs.ext (d := 16) rfl
   obtain ⟨Y3_2, hs⟩ := hs.ext (d := 17) rfl
   obtain ⟨Y4_3, hs⟩ := hs.ext (d := 18) rfl
   exact ⟨Y1_0, Y2_1, Y3_2, Y4_3, Y5_4, Y6_5, 0, 0, Emp, Emp, hs.weak ⟨rfl, rfl, rfl, rfl, rfl, rfl, rfl, rfl, trivial⟩, (HS.drew.emp.emp.pk 3 [2, 1, 0] rfl), fun h => Bool.noConfusion h, fun h => Bool.noConfusion h, fun h => Bool.noConfusion h, fun h => Bool.noConfusion h, fun h => Bool.noConfusion h, fun h => Bool.noConfusion h, fun h => Bool.noConfusion h, fun h => Bool.noConfusion h⟩
  ·
   intro j hj b a w
   refine exI fun Y1_0 => exI fun Y2_1 => exI fun Y3_2 => exI fun Y4_3 => exI fun Y5_4 => exI fun Y6_5 => exI fun b5 => exI fun b7 => exI fun O7_2 => exI fun O8_3 => anI fun hs => anI fun HS => anI fun f4 => anI fun f5 => anI fun f0 => anI fun f1 => anI fun f2 => anI fun f3 => anI fun o2_0 => fun o3_0 hb hd hcl => ?_
   match j, hj with
   | 0, _ =>
    refine GO.at hs (GO.move rfl rfl rfl (GO.fin (fun a hs => ⟨(.int .i64 (w64 (2 * (d_Crossings.length : Int)))), _, _, _, _, _, b5, b7, _, _, by exact hs.setAt 2 rfl, HS, f4, f5, fun _ => rfl, f1, f2, f3, o2_0, o3_0⟩)))
   | 1, _ =>
    have hb0 : b 0 = true := hd 0 (by decide)
    obtain rfl := f0 hb0
    refine GO.at hs (GO.make (T := TBool) false () HS flat_flat rfl rfl rfl underlying171 inf4 rfl rfl rfl c3 c4 rfl fun b5 wd6 HS => GO.fin (fun a hs => ⟨_, (.slice (some ⟨b5, 0, none⟩) (List.replicate (w64 (2 * (d_Crossings.length : Int))).toNat false).length ((w64 (2 * (d_Crossings.length : Int))).toNat)), _, _, _, _, b5, b7, Own TBool 4 (some ⟨b5, 0, none⟩) ((w64 (2 * (d_Crossings.length : Int))).toNat) (fun _ => ()) (List.replicate (w64 (2 * (d_Crossings.length : Int))).toNat false), _, by exact hs.setAt 3 rfl, HS.pk 4 [1, 0, 3] rfl, fun hh => (Bool.noConfusion ((hcl 4 (by decide) hh 1 (by decide)).symm.trans hb)), f5, f0, fun _ => rfl, f2, f3, fun _ => rfl, o3_0⟩))
   | 2, _ =>
    refine GO.at hs (GO.move rfl rfl rfl (GO.fin (fun a hs => ⟨_, _, (.int .i64 (w64 (2 * (d_Crossings.length : Int)))), _, _, _, b5, b7, _, _, by exact hs.setAt 4 rfl, HS, f4, f5, f0, f1, fun _ => rfl, f3, o2_0, o3_0⟩)))
   | 3, _ =>
    have hb2 : b 2 = true := hd 2 (by decide)
    obtain rfl := f2 hb2
    refine GO.at hs (GO.make (T := TBool) false () HS flat_flat rfl rfl rfl underlying171 inf4 rfl rfl rfl c3 c4 rfl fun b7 wd8 HS => GO.fin (fun a hs => ⟨_, _, _, (.slice (some ⟨b7, 0, none⟩) (List.replicate (w64 (2 * (d_Crossings.length : Int))).toNat false).length ((w64 (2 * (d_Crossings.length : Int))).toNat)), _, _, b5, b7, _, Own TBool 4 (some ⟨b7, 0, none⟩) ((w64 (2 * (d_Crossings.length : Int))).toNat) (fun _ => ()) (List.replicate (w64 (2 * (d_Crossings.length : Int))).toNat false), by exact hs.setAt 5 rfl, HS.pk 4 [1, 2, 0] rfl, f4, fun hh => (Bool.noConfusion ((hcl 5 (by decide) hh 3 (by decide)).symm.trans hb)), f0, f1, f2, fun _ => rfl, o2_0, fun _ => rfl⟩))
   | 4, _ =>
    have hb1 : b 1 = true := hd 1 (by decide)
    obtain rfl := f1 hb1
    refine GO.at hs (GO.assign rfl rfl rfl (GO.fin (fun a hs => ⟨_, _, _, _, (.slice (some ⟨b5, 0, none⟩) (List.replicate (w64 (2 * (d_Crossings.length : Int))).toNat false).length ((w64 (2 * (d_Crossings.length : Int))).toNat)), _, b5, b7, _, _, by exact hs.setAt 0 rfl, HS, fun _ => rfl, f5, f0, f1, f2, f3, o2_0, o3_0⟩)))
   | 5, _ =>
    have hb3 : b 3 = true := hd 3 (by decide)
    obtain rfl := f3 hb3
    refine GO.at hs (GO.assign rfl rfl rfl (GO.fin (fun a hs => ⟨_, _, _, _, _, (.slice (some ⟨b7, 0, none⟩) (List.replicate (w64 (2 * (d_Crossings.length : Int))).toNat false).length ((w64 (2 * (d_Crossings.length : Int))).toNat)), b5, b7, _, _, by exact hs.setAt 1 rfl, HS, f4, fun _ => rfl, f0, f1, f2, f3, o2_0, o3_0⟩)))
   | k + 6, hj => exact absurd hj (Nat.not_lt.2 (Nat.le_add_left 6 k))
  ·
   intro b a w hall
   refine exI fun Y1_0 => exI fun Y2_1 => exI fun Y3_2 => exI fun Y4_3 => exI fun Y5_4 => exI fun Y6_5 => exI fun b5 => exI fun b7 => exI fun O7_2 => exI fun O8_3 => anI fun hs => anI fun HS => anI fun f4 => anI fun f5 => anI fun f0 => anI fun f1 => anI fun f2 => anI fun f3 => anI fun o2_0 => fun o3_0 => ?_
   obtain rfl := f4 (hall 4 (by decide))
   obtain rfl := f5 (hall 5 (by decide))
   obtain rfl := f0 (hall 0 (by decide))
   obtain rfl := f1 (hall 1 (by decide))
   obtain rfl := f2 (hall 2 (by decide))
   obtain rfl := f3 (hall 3 (by decide))
   obtain rfl := o2_0 (hall 1 (by decide))
   obtain rfl := o3_0 (hall 3 (by decide))
   refine G.at hs (G.run 5 rfl ?_)
   refine G.name (fun k_l1 hk_l1 => ?_)
   have at_l1 : ∀ m_l1, m_l1 ≤ K → ∀ (in_94 out_95 : List Bool) (c_96 : Int) (w : World), spec_l25Counts.l1 K m_l1 d_Crossings in_94 out_95 c_96 = some r1 → St w0 w (Box b1 40 [.slice A_a d_Crossings.length c_a, .int .i64 d_Circles] :: Own TBool 4 (some ⟨b5, 0, none⟩) ((w64 (2 * (d_Crossings.length : Int))).toNat) (fun _ => ()) in_94 :: Own TBool 4 (some ⟨b7, 0, none⟩) ((w64 (2 * (d_Crossings.length : Int))).toNat) (fun _ => ()) out_95 :: L) → G prog 125 63 [(1, .pointer (some ⟨b1, 0, none⟩)), (3, .int .i64 (w64 (2 * (d_Crossings.length : Int)))), (4, .slice (some ⟨b5, 0, none⟩) in_94.length ((w64 (2 * (d_Crossings.length : Int))).toNat)), (5, .slice (some ⟨b7, 0, none⟩) out_95.length ((w64 (2 * (d_Crossings.length : Int))).toNat)), (6, .int .i64 c_96)] k_l1 w (spec_l25Counts.post w0 L r1) := by
    intro m_l1
    induction m_l1 using Nat.strongRecOn with
    | _ m_l1 ih_l1 =>
     intro hm_l1 in_94 out_95 c_96 w H HS
     cases m_l1 with
     | zero => rw [spec_l25Counts.l1] at H; cases H
     | succ n_l1 =>
      rw [spec_l25Counts.l1] at H
      subst hk_l1
      refine G.run 2 rfl (G.region (GO.move rfl rfl rfl (GO.fld (⟨b1, 0, none⟩) rfl rfl fl40_0 rfl rfl (GO.ldBox (j := 0) HS rfl rfl rfl rfl na38 rfl (GO.lenS rfl rfl underlying38 rfl (GO.lss rfl rfl rfl rfl (GO.nil ?_)))))))
      rcases ite_elim H with ⟨c183, H⟩ | ⟨c183, H⟩
      ·
       refine G.yesB rfl (decide_eq_true c183) (G.run 4 rfl ?_)
       obtain ⟨c184, H⟩ := ite_none H
       obtain ⟨e185, h186, H⟩ := bnd_elim H
       refine G.region (GO.fld (⟨b1, 0, none⟩) rfl rfl fl40_0 rfl rfl (GO.ldBox (j := 0) HS rfl rfl rfl rfl na38 rfl (GO.move rfl rfl rfl (GO.ix rfl rfl rfl underlying38 sz143 ((RdIn.drop 3 r_a) _ HS).2.2.1 c184.1 c184.2 rfl (GO.ldRdA (T := T_GCrossing) (n := c_96.toNat) HS (RdIn.drop 3 r_a) rfl rfl (getD_eq (ltN c184) h186) ag143 rfl (GO.alloc HS rfl zr143 rfl rfl fun b187 wd188 HS => GO.stBox (j := 0) (vs := [.int .i64 e185.A, .int .i64 e185.B, .int .i64 e185.C, .int .i64 e185.D, .int .i64 e185.Sign]) ([.int .i64 e185.A, .int .i64 e185.B, .int .i64 e185.C, .int .i64 e185.D, .int .i64 e185.Sign]) HS rfl rfl rfl rfl rfl (htA ag143) rfl rfl rfl fun wd189 HS => GO.nil (G.run 2 rfl ?_)))))))
       refine G.nameT (fun k_j12 hk_j12 => ?_)
       have at_j12 : ∀ m_j12, m_j12 ≤ n_l1 → ∀ (x192 : Bool) (w : World), spec_l25Counts.j12 K m_j12 d_Crossings in_94 out_95 c_96 e185 x192 = some r1 → St w0 w (Box b1 40 [.slice A_a d_Crossings.length c_a, .int .i64 d_Circles] :: Own TBool 4 (some ⟨b5, 0, none⟩) ((w64 (2 * (d_Crossings.length : Int))).toNat) (fun _ => ()) in_94 :: Own TBool 4 (some ⟨b7, 0, none⟩) ((w64 (2 * (d_Crossings.length : Int))).toNat) (fun _ => ()) out_95 :: Box b187 143 [.int .i64 e185.A, .int .i64 e185.B, .int .i64 e185.C, .int .i64 e185.D, .int .i64 e185.Sign] :: L) → G prog 125 63 [(1, .pointer (some ⟨b1, 0, none⟩)), (3, .int .i64 (w64 (2 * (d_Crossings.length : Int)))), (4, .slice (some ⟨b5, 0, none⟩) in_94.length ((w64 (2 * (d_Crossings.length : Int))).toNat)), (5, .slice (some ⟨b7, 0, none⟩) out_95.length ((w64 (2 * (d_Crossings.length : Int))).toNat)), (6, .int .i64 c_96), (7, .pointer (some ⟨b187, 0, none⟩)), (38, .bool x192)] k_j12 w (spec_l25Counts.post w0 L r1) := by
        intro m_j12 hm_j12 x192 w H HS
        cases m_j12 with
        | zero => rw [spec_l25Counts.j12] at H; cases H
        | succ n_j12 =>
         rw [spec_l25Counts.j12] at H
         subst hk_j12
         rcases ite_elim H with ⟨c193, H⟩ | ⟨c193, H⟩
         ·
          refine G.yesB rfl c193 (G.run 2 rfl ?_)
          obtain rfl := Option.some.inj H
          exact G.ret1 _ func125 rfl rfl ⟨rfl, (HS.pk 4 [] rfl)⟩
         refine G.noB rfl (bnot_of c193) (G.run 5 rfl ?_)
         refine G.name (fun k_l13 hk_l13 => ?_)
         have at_l13 : ∀ m_l13, m_l13 ≤ n_j12 → ∀ (in_217 out_218 : List Bool) (p_219 : Int) (w : World), spec_l25Counts.l13 K m_l13 d_Crossings c_96 e185 in_217 out_218 p_219 = some r1 → St w0 w (Box b1 40 [.slice A_a d_Crossings.length c_a, .int .i64 d_Circles] :: Own TBool 4 (some ⟨b5, 0, none⟩) ((w64 (2 * (d_Crossings.length : Int))).toNat) (fun _ => ()) in_217 :: Own TBool 4 (some ⟨b7, 0, none⟩) ((w64 (2 * (d_Crossings.length : Int))).toNat) (fun _ => ()) out_218 :: Box b187 143 [.int .i64 e185.A, .int .i64 e185.B, .int .i64 e185.C, .int .i64 e185.D, .int .i64 e185.Sign] :: L) → G prog 125 63 [(1, .pointer (some ⟨b1, 0, none⟩)), (3, .int .i64 (w64 (2 * (d_Crossings.length : Int)))), (4, .slice (some ⟨b5, 0, none⟩) in_217.length ((w64 (2 * (d_Crossings.length : Int))).toNat)), (5, .slice (some ⟨b7, 0, none⟩) out_218.length ((w64 (2 * (d_Crossings.length : Int))).toNat)), (6, .int .i64 c_96), (7, .pointer (some ⟨b187, 0, none⟩)), (8, .int .i64 p_219)] k_l13 w (spec_l25Counts.post w0 L r1) := by
          intro m_l13
          induction m_l13 using Nat.strongRecOn with
          | _ m_l13 ih_l13 =>
           intro hm_l13 in_217 out_218 p_219 w H HS
           cases m_l13 with
           | zero => rw [spec_l25Counts.l13] at H; cases H
           | succ n_l13 =>
            rw [spec_l25Counts.l13] at H
            subst hk_l13
            refine G.run 3 rfl ?_
            rcases ite_elim H with ⟨c244, H⟩ | ⟨c244, H⟩
            ·
             refine G.yesB rfl (decide_eq_true c244) (G.run 4 rfl ?_)
             obtain ⟨t245, h246, H⟩ := Option.bind_eq_some_iff.1 H
             refine G.region (GO.ldBoxA (j := 3) ([.int .i64 e185.A, .int .i64 e185.B, .int .i64 e185.C, .int .i64 e185.D, .int .i64 e185.Sign]) HS rfl rfl rfl rfl ag143 rfl (GO.move rfl rfl rfl (GO.fn rfl func147 fok147.1 fok147.2 rfl rfl (spec_l25End.calls HS  h246) (fun _ wd247 ⟨h248, HS⟩ => ⟨_, h248, (GO.assign rfl rfl rfl (GO.nil (G.run 2 rfl ?_)))⟩))))
             obtain ⟨t249, h250, H⟩ := Option.bind_eq_some_iff.1 H
             refine G.region (GO.ps 3 rfl (GO.fn rfl func92 fok92.1 fok92.2 rfl rfl (spec_l01In.calls HS  h250) (fun _ wd251 ⟨h252, HS⟩ => ⟨_, h252, (GO.not rfl rfl rfl (GO.nil ?_))⟩)))
             rcases ite_elim H with ⟨c253, H⟩ | ⟨c253, H⟩
             ·
              refine G.noB rfl (congrArg Bool.not c253) (G.run 5 rfl ?_)
              obtain ⟨t254, h255, H⟩ := Option.bind_eq_some_iff.1 H
              refine G.region (GO.ldBoxA (j := 3) ([.int .i64 e185.A, .int .i64 e185.B, .int .i64 e185.C, .int .i64 e185.D, .int .i64 e185.Sign]) HS rfl rfl rfl rfl ag143 rfl (GO.move rfl rfl rfl (GO.fn rfl func148 fok148.1 fok148.2 rfl rfl (spec_l25Enters.calls HS  h255) (fun _ wd256 ⟨h257, HS⟩ => ⟨_, h257, (GO.nil ?_)⟩))))
              rcases ite_elim H with ⟨c261, H⟩ | ⟨c261, H⟩
              ·
               refine G.yesB rfl c261 (G.run 3 rfl ?_)
               obtain ⟨c262, H⟩ := ite_none H
               refine G.region (GO.ps 2 rfl (GO.ix rfl rfl rfl underlying171 sz4 (fun _ => ⟨_, _, rfl⟩) c262.1 c262.2 rfl (GO.ldRd (T := TBool) (n := t245.toNat) (o := 0) HS (RdIn.own (j := 1) rfl) rfl rfl (getD_some (d := false) (ltN c262)) rfl rfl na4 rfl (GO.nil ?_))))
               rcases ite_elim H with ⟨c263, H⟩ | ⟨c263, H⟩
               ·
                refine G.yesB rfl c263 (G.run 2 rfl ?_)
                obtain rfl := Option.some.inj H
                exact G.ret1 _ func125 rfl rfl ⟨rfl, (HS.pk 4 [] rfl)⟩
               refine G.noB rfl (bnot_of c263) (G.skip (G.region (GO.ps 2 rfl (GO.ix rfl rfl rfl underlying171 sz4 (fun _ => ⟨_, _, rfl⟩) c262.1 c262.2 rfl (GO.stRow (T := TBool) (j := 1) (n := t245.toNat) (o := 0) (vs := [.bool true]) true HS rfl flat_flat rfl rfl rfl rfl (htN na4 rfl) rfl (getD_some (d := false) (ltN c262)) rfl rfl fun wd264 HS => GO.nil (G.len (t := 4) (m := (in_217.set t245.toNat true).length) rfl (by simp only [List.length_set] <;> rfl) (G.run 3 rfl (G.weak ?_ (ih_l13 n_l13 (Nat.lt_succ_of_le (Nat.le_refl _)) (Nat.le_of_succ_le hm_l13) _ _ _ _ H HS)))))))))
               exact ⟨rfl, rfl, rfl, rfl, rfl, rfl, rfl, trivial⟩
              refine G.noB rfl (bnot_of c261) (G.run 3 rfl ?_)
              obtain ⟨c265, H⟩ := ite_none H
              refine G.region (GO.ps 2 rfl (GO.ix rfl rfl rfl underlying171 sz4 (fun _ => ⟨_, _, rfl⟩) c265.1 c265.2 rfl (GO.ldRd (T := TBool) (n := t245.toNat) (o := 0) HS (RdIn.own (j := 2) rfl) rfl rfl (getD_some (d := false) (ltN c265)) rfl rfl na4 rfl (GO.nil ?_))))
              rcases ite_elim H with ⟨c266, H⟩ | ⟨c266, H⟩
              ·
               refine G.yesB rfl c266 (G.run 2 rfl ?_)
               obtain rfl := Option.some.inj H
               exact G.ret1 _ func125 rfl rfl ⟨rfl, (HS.pk 4 [] rfl)⟩
              refine G.noB rfl (bnot_of c266) (G.skip (G.region (GO.ps 2 rfl (GO.ix rfl rfl rfl underlying171 sz4 (fun _ => ⟨_, _, rfl⟩) c265.1 c265.2 rfl (GO.stRow (T := TBool) (j := 2) (n := t245.toNat) (o := 0) (vs := [.bool true]) true HS rfl flat_flat rfl rfl rfl rfl (htN na4 rfl) rfl (getD_some (d := false) (ltN c265)) rfl rfl fun wd267 HS => GO.nil (G.len (t := 5) (m := (out_218.set t245.toNat true).length) rfl (by simp only [List.length_set] <;> rfl) (G.run 3 rfl (G.weak ?_ (ih_l13 n_l13 (Nat.lt_succ_of_le (Nat.le_refl _)) (Nat.le_of_succ_le hm_l13) _ _ _ _ H HS)))))))))
              exact ⟨rfl, rfl, rfl, rfl, rfl, rfl, rfl, trivial⟩
             refine G.yesB rfl (congrArg Bool.not (bnot_of c253)) (G.run 2 rfl ?_)
             obtain rfl := Option.some.inj H
             exact G.ret1 _ func125 rfl rfl ⟨rfl, (HS.pk 4 [] rfl)⟩
            refine G.noB rfl (decide_eq_false c244) (G.run 4 rfl (G.weak ?_ (ih_l1 n_l13 (by omega) (by omega) _ _ _ _ H (HS.pk 4 [0, 1, 2] rfl))))
            exact ⟨rfl, rfl, rfl, rfl, rfl, trivial⟩
         refine G.weak ?_ (at_l13 n_j12 (Nat.le_refl _) _ _ _ _ H HS)
         exact ⟨rfl, rfl, rfl, rfl, rfl, rfl, rfl, trivial⟩
       rcases ite_elim H with ⟨c268, H⟩ | ⟨c268, H⟩
       ·
        refine G.region (GO.fld (⟨b187, 4, none⟩) rfl rfl fl143_4 rfl rfl (GO.ldBox (j := 0) HS rfl rfl rfl rfl na2 rfl (GO.ps 2 rfl (GO.known (t := 34) rfl (congrArg Bool.not (decide_eq_true c268)) (GO.off rfl rfl rfl rfl rfl rfl (GO.off rfl rfl rfl rfl rfl rfl (GO.off rfl rfl rfl rfl rfl rfl (GO.pickF rfl rfl rfl rfl rfl (GO.nil (G.weak ?_ (at_j12 n_l1 (Nat.le_refl _) _ _ H (HS.pk 4 [1, 2, 3, 0] rfl))))))))))))
        exact ⟨rfl, rfl, rfl, rfl, rfl, rfl, rfl, trivial⟩
       refine G.region (GO.fld (⟨b187, 4, none⟩) rfl rfl fl143_4 rfl rfl (GO.ldBox (j := 0) HS rfl rfl rfl rfl na2 rfl (GO.ps 2 rfl (GO.known (t := 34) rfl (congrArg Bool.not (decide_eq_false c268)) (GO.on rfl rfl rfl rfl (GO.fld (⟨b187, 4, none⟩) rfl rfl fl143_4 rfl rfl (GO.back (GO.on rfl rfl rfl rfl (GO.ldBox (j := 0) HS rfl rfl rfl rfl na2 rfl (GO.back (GO.on rfl rfl rfl rfl (GO.neq rfl rfl rfl rfl (GO.back (GO.pickT rfl rfl rfl rfl rfl ?_))))))))))))))
       refine GO.nil (G.weak ?_ (at_j12 n_l1 (Nat.le_refl _) _ _ H (HS.pk 4 [1, 2, 3, 0] rfl)))
       exact ⟨rfl, rfl, rfl, rfl, rfl, rfl, rfl, trivial⟩
      refine G.noB rfl (decide_eq_false c183) (G.run 3 rfl ?_)
      obtain rfl := Option.some.inj H
      exact G.ret1 _ func125 rfl rfl ⟨rfl, (HS.pk 3 [] rfl)⟩
   refine G.weak ?_ (at_l1 K (Nat.le_refl _) _ _ _ _ H HS)
   exact ⟨rfl, rfl, rfl, rfl, rfl, trivial⟩
theorem spec_l25Place.calls {w0 w : World} {L : List HObj} {K : Nat} {d_Crossings : List GCrossing} {d_Circles a_ : Int} {enters : Bool} {A_a : Option Addr} {c_a : Nat} {r1 r2 : Int} (HS : St w0 w (L)) (r_a : RdIn w0 L T_GCrossing A_a c_a (fun _ => ()) d_Crossings) (H : spec_l25Place.f K d_Crossings d_Circles a_ enters = some (r1, r2)) :
    Calls prog 174 #[.agg [.slice A_a d_Crossings.length c_a, .int .i64 d_Circles].toArray, .int .i64 a_, .bool enters] w (spec_l25Place.post w0 L r1 r2) := by
  unfold spec_l25Place.f at H
  refine Calls.of_G func174 rfl rfl rfl ?_
  refine G.seq (G.region (GO.box (cs := [.slice A_a d_Crossings.length c_a, .int .i64 d_Circles]) HS rfl rfl rfl rfl fun b1 wd2 HS => GO.ps 2 rfl (GO.nil (G.run 5 rfl ?_))))
  refine G.name (fun k_l1 hk_l1 => ?_)
  have at_l1 : ∀ m_l1, m_l1 ≤ K → ∀ (c_82 : Int) (w : World), spec_l25Place.l1 K m_l1 d_Crossings a_ enters c_82 = some (r1, r2) → St w0 w (Box b1 40 [.slice A_a d_Crossings.length c_a, .int .i64 d_Circles] :: L) → G prog 174 43 [(1, .int .i64 a_), (2, .bool enters), (3, .pointer (some ⟨b1, 0, none⟩)), (8, .int .i64 c_82)] k_l1 w (spec_l25Place.post w0 L r1 r2) := by
   intro m_l1
   induction m_l1 using Nat.strongRecOn with
   | _ m_l1 ih_l1 =>
    intro hm_l1 c_82 w H HS
    cases m_l1 with
    | zero => rw [spec_l25Place.l1] at H; cases H
    | succ n_l1 =>
     rw [spec_l25Place.l1] at H
     subst hk_l1
     refine G.run 2 rfl (G.region (GO.move rfl rfl rfl (GO.fld (⟨b1, 0, none⟩) rfl rfl fl40_0 rfl rfl (GO.ldBox (j := 0) HS rfl rfl rfl rfl na38 rfl (GO.lenS rfl rfl underlying38 rfl (GO.lss rfl rfl rfl rfl (GO.nil ?_)))))))
     rcases ite_elim H with ⟨c162, H⟩ | ⟨c162, H⟩
     ·
      refine G.yesB rfl (decide_eq_true c162) (G.run 7 rfl ?_)
      refine G.name (fun k_l4 hk_l4 => ?_)
      have at_l4 : ∀ m_l4, m_l4 ≤ n_l1 → ∀ (p_188 : Int) (w : World), spec_l25Place.l4 K m_l4 d_Crossings a_ enters c_82 p_188 = some (r1, r2) → St w0 w (Box b1 40 [.slice A_a d_Crossings.length c_a, .int .i64 d_Circles] :: L) → G prog 174 43 [(1, .int .i64 a_), (2, .bool enters), (3, .pointer (some ⟨b1, 0, none⟩)), (8, .int .i64 c_82), (9, .int .i64 p_188)] k_l4 w (spec_l25Place.post w0 L r1 r2) := by
       intro m_l4
       induction m_l4 using Nat.strongRecOn with
       | _ m_l4 ih_l4 =>
        intro hm_l4 p_188 w H HS
        cases m_l4 with
        | zero => rw [spec_l25Place.l4] at H; cases H
        | succ n_l4 =>
         rw [spec_l25Place.l4] at H
         subst hk_l4
         refine G.run 3 rfl ?_
         rcases ite_elim H with ⟨c215, H⟩ | ⟨c215, H⟩
         ·
          refine G.yesB rfl (decide_eq_true c215) (G.run 4 rfl ?_)
          obtain ⟨c228, H⟩ := ite_none H
          obtain ⟨e229, h230, H⟩ := bnd_elim H
          obtain ⟨t231, h232, H⟩ := Option.bind_eq_some_iff.1 H
          rcases ite_elim H with ⟨c235, H⟩ | ⟨c235, H⟩
          ·
           obtain ⟨t236, h237, H⟩ := Option.bind_eq_some_iff.1 H
           refine G.region (GO.fld (⟨b1, 0, none⟩) rfl rfl fl40_0 rfl rfl (GO.ldBox (j := 0) HS rfl rfl rfl rfl na38 rfl (GO.move rfl rfl rfl (GO.ix rfl rfl rfl underlying38 sz143 ((RdIn.drop 1 r_a) _ HS).2.2.1 c228.1 c228.2 rfl (GO.ldRdA (T := T_GCrossing) (n := c_82.toNat) HS (RdIn.drop 1 r_a) rfl rfl (getD_eq (ltN c228) h230) ag143 rfl (GO.move rfl rfl rfl (GO.fn rfl func147 fok147.1 fok147.2 rfl rfl (spec_l25End.calls HS  h232) (fun _ wd233 ⟨h234, HS⟩ => ⟨_, h234, (GO.ps 3 rfl (GO.known (t := 30) rfl (decide_eq_true c235) (GO.on rfl rfl rfl rfl (GO.fld (⟨b1, 0, none⟩) rfl rfl fl40_0 rfl rfl (GO.back (GO.on rfl rfl rfl rfl (GO.ldBox (j := 0) HS rfl rfl rfl rfl na38 rfl ?_)))))))⟩))))))))
           refine GO.back (GO.on rfl rfl rfl rfl (GO.move rfl rfl rfl (GO.back (GO.on rfl rfl rfl rfl (GO.ix rfl rfl rfl underlying38 sz143 ((RdIn.drop 1 r_a) _ HS).2.2.1 c228.1 c228.2 rfl (GO.back (GO.on rfl rfl rfl rfl (GO.ldRdA (T := T_GCrossing) (n := c_82.toNat) HS (RdIn.drop 1 r_a) rfl rfl (getD_eq (ltN c228) h230) ag143 rfl (GO.back (GO.on rfl rfl rfl rfl (GO.move rfl rfl rfl (GO.back (GO.on rfl rfl rfl rfl (GO.fn rfl func148 fok148.1 fok148.2 rfl rfl (spec_l25Enters.calls HS  h237) (fun _ wd238 ⟨h239, HS⟩ => ⟨_, h239, ?_⟩)))))))))))))))
           refine GO.back (GO.on rfl rfl rfl rfl (GO.move rfl rfl rfl (GO.back (GO.on rfl rfl rfl rfl (GO.eqlB rfl rfl rfl underlying4 rfl (GO.back (GO.pickT rfl rfl rfl rfl rfl (GO.nil ?_))))))))
           rcases ite_elim H with ⟨c240, H⟩ | ⟨c240, H⟩
           ·
            refine G.yesB rfl c240 (G.run 2 rfl ?_)
            obtain ⟨rfl, rfl⟩ := some2 H
            exact G.ret2 _ _ func174 rfl rfl rfl ⟨rfl, (HS.pk 1 [] rfl)⟩
           refine G.noB rfl (bnot_of c240) (G.run 4 rfl (G.weak ?_ (ih_l4 n_l4 (Nat.lt_succ_of_le (Nat.le_refl _)) (Nat.le_of_succ_le hm_l4) _ _ H HS)))
           exact ⟨rfl, rfl, rfl, rfl, rfl, trivial⟩
          refine G.region (GO.fld (⟨b1, 0, none⟩) rfl rfl fl40_0 rfl rfl (GO.ldBox (j := 0) HS rfl rfl rfl rfl na38 rfl (GO.move rfl rfl rfl (GO.ix rfl rfl rfl underlying38 sz143 ((RdIn.drop 1 r_a) _ HS).2.2.1 c228.1 c228.2 rfl (GO.ldRdA (T := T_GCrossing) (n := c_82.toNat) HS (RdIn.drop 1 r_a) rfl rfl (getD_eq (ltN c228) h230) ag143 rfl (GO.move rfl rfl rfl (GO.fn rfl func147 fok147.1 fok147.2 rfl rfl (spec_l25End.calls HS  h232) (fun _ wd233 ⟨h234, HS⟩ => ⟨_, h234, (GO.ps 3 rfl (GO.known (t := 30) rfl (decide_eq_false c235) (GO.off rfl rfl rfl rfl rfl rfl (GO.off rfl rfl rfl rfl rfl rfl (GO.off rfl rfl rfl rfl rfl rfl (GO.off rfl rfl rfl rfl rfl rfl (GO.off rfl rfl rfl rfl rfl rfl ?_)))))))⟩))))))))
          refine GO.off rfl rfl rfl rfl rfl rfl (GO.off rfl rfl rfl rfl rfl rfl (GO.off rfl rfl rfl rfl rfl rfl (GO.off rfl rfl rfl rfl rfl rfl (GO.pickF rfl rfl rfl rfl rfl (GO.nil (G.run 5 rfl (G.weak ?_ (ih_l4 n_l4 (Nat.lt_succ_of_le (Nat.le_refl _)) (Nat.le_of_succ_le hm_l4) _ _ H HS))))))))
          exact ⟨rfl, rfl, rfl, rfl, rfl, trivial⟩
         refine G.noB rfl (decide_eq_false c215) (G.run 4 rfl (G.weak ?_ (ih_l1 n_l4 (by omega) (by omega) _ _ H HS)))
         exact ⟨rfl, rfl, rfl, rfl, trivial⟩
      refine G.weak ?_ (at_l4 n_l1 (Nat.le_refl _) _ _ H HS)
      exact ⟨rfl, rfl, rfl, rfl, rfl, trivial⟩
     refine G.noB rfl (decide_eq_false c162) (G.run 3 rfl ?_)
     obtain ⟨rfl, rfl⟩ := some2 H
     exact G.ret2 _ _ func174 rfl rfl rfl ⟨rfl, (HS.pk 1 [] rfl)⟩
  refine G.weak ?_ (at_l1 K (Nat.le_refl _) _ _ H HS)
  exact ⟨rfl, rfl, rfl, rfl, trivial⟩
theorem spec_l25Successor.calls {w0 w : World} {L : List HObj} {K : Nat} {d_Crossings : List GCrossing} {d_Circles corner : Int} {A_a : Option Addr} {c_a : Nat} {r1 : Int} (HS : St w0 w (L)) (r_a : RdIn w0 L T_GCrossing A_a c_a (fun _ => ()) d_Crossings) (H : spec_l25Successor.f K d_Crossings d_Circles corner = some r1) :
    Calls prog 149 #[.agg [.slice A_a d_Crossings.length c_a, .int .i64 d_Circles].toArray, .int .i64 corner] w (spec_l25Successor.post w0 L r1) := by
  unfold spec_l25Successor.f at H
  refine Calls.of_G func149 rfl rfl rfl ?_
  refine G.seq (G.region (GO.box (cs := [.slice A_a d_Crossings.length c_a, .int .i64 d_Circles]) HS rfl rfl rfl rfl fun b1 wd2 HS => GO.assign rfl rfl rfl (GO.nil (G.seq (G.region (GO.move rfl rfl rfl (GO.quo rfl rfl rfl (by decide) rfl (GO.move rfl rfl rfl (GO.rem rfl rfl rfl (by decide) rfl (GO.add rfl rfl rfl rfl (GO.rem rfl rfl rfl (by decide) rfl (GO.ps 2 rfl (GO.nil ?_)))))))))))))
  refine G.seq ?_
  obtain ⟨c3, H⟩ := ite_none H
  obtain ⟨e4, h5, H⟩ := bnd_elim H
  refine G.region (GO.fld (⟨b1, 0, none⟩) rfl rfl fl40_0 rfl rfl (GO.ldBox (j := 0) HS rfl rfl rfl rfl na38 rfl (GO.move rfl rfl rfl (GO.ix rfl rfl rfl underlying38 sz143 ((RdIn.drop 1 r_a) _ HS).2.2.1 c3.1 c3.2 rfl (GO.ldRdA (T := T_GCrossing) (n := (w64 (corner.tdiv 4)).toNat) HS (RdIn.drop 1 r_a) rfl rfl (getD_eq (ltN c3) h5) ag143 rfl (GO.alloc HS rfl zr143 rfl rfl fun b6 wd7 HS => GO.stBox (j := 0) (vs := [.int .i64 e4.A, .int .i64 e4.B, .int .i64 e4.C, .int .i64 e4.D, .int .i64 e4.Sign]) ([.int .i64 e4.A, .int .i64 e4.B, .int .i64 e4.C, .int .i64 e4.D, .int .i64 e4.Sign]) HS rfl rfl rfl rfl rfl (htA ag143) rfl rfl rfl fun wd8 HS => GO.nil (G.seq ?_)))))))
  obtain ⟨t9, h10, H⟩ := Option.bind_eq_some_iff.1 H
  obtain ⟨t13, h14, H⟩ := Option.bind_eq_some_iff.1 H
  obtain ⟨t17, t18, h19, H⟩ := bind2_elim H
  refine G.lexS mixed (fun w => St w0 w (Box b6 143 [.int .i64 e4.A, .int .i64 e4.B, .int .i64 e4.C, .int .i64 e4.D, .int .i64 e4.Sign] :: Box b1 40 [.slice A_a d_Crossings.length c_a, .int .i64 d_Circles] :: L)) [0, 1, 4] [2, 5, 0, 1, 4, 3, 6, 7, 8, 9, 10, 11, 12, 13] 14 (by kernel_rfl) (by kernel_rfl) HS.drew ?_
  replace HS := HS.drew
  refine GX.ps 2 rfl (GX.ls rfl rfl rfl HS (fun _ HS _ g => GO.ldBoxA (j := 1) ([.slice A_a d_Crossings.length c_a, .int .i64 d_Circles]) HS rfl rfl rfl rfl ag40 rfl g) rfl (GX.ls rfl rfl rfl HS (fun _ HS _ g => GO.ldBoxA (j := 0) ([.int .i64 e4.A, .int .i64 e4.B, .int .i64 e4.C, .int .i64 e4.D, .int .i64 e4.Sign]) HS rfl rfl rfl rfl ag143 rfl g) rfl (GX.ls rfl rfl rfl HS (fun _ HS _ g => GO.ldBoxA (j := 0) ([.int .i64 e4.A, .int .i64 e4.B, .int .i64 e4.C, .int .i64 e4.D, .int .i64 e4.Sign]) HS rfl rfl rfl rfl ag143 rfl g) rfl (GX.l2 rfl (GO.fn rfl func147 fok147.1 fok147.2 rfl rfl (spec_l25End.calls HS  h10) (fun _ wd11 ⟨h12, HS⟩ => ⟨_, h12, (GX.fin HS (GX.l2 rfl (GO.fn rfl func148 fok148.1 fok148.2 rfl rfl (spec_l25Enters.calls HS  h14) (fun _ wd15 ⟨h16, HS⟩ => ⟨_, h16, (GX.fin HS (GX.ps 1 rfl (GX.l2 rfl (GO.fn rfl func174 fok174.1 fok174.2 rfl rfl (spec_l25Place.calls HS (RdIn.drop 2 r_a) h19) (fun _ wd20 ⟨h21, HS⟩ => ⟨_, h21, (GX.fin HS (GX.ps 5 rfl ?_))⟩)))))⟩))))⟩))))))
  refine GX.nil (G.run 2 rfl ?_)
  obtain rfl := Option.some.inj H
  exact G.ret1 _ func149 rfl rfl ⟨rfl, (HS.pk 2 [] rfl)⟩
theorem spec_l25Regions.calls {w0 w : World} {L : List HObj} {K : Nat} {d_Crossings : List GCrossing} {d_Circles : Int} {A_a : Option Addr} {c_a : Nat} {r1 : List (List Int)} (HS : St w0 w (L)) (r_a : RdIn w0 L T_GCrossing A_a c_a (fun _ => ()) d_Crossings) (H : spec_l25Regions.f K d_Crossings d_Circles = some r1) :
    Calls prog 126 #[.agg [.slice A_a d_Crossings.length c_a, .int .i64 d_Circles].toArray] w (spec_l25Regions.post w0 L r1) := by
  unfold spec_l25Regions.f at H
  refine Calls.of_G func126 rfl rfl rfl ?_
  refine G.seq (G.region (GO.box (cs := [.slice A_a d_Crossings.length c_a, .int .i64 d_Circles]) HS rfl rfl rfl rfl fun b1 wd2 HS => GO.assign rfl rfl rfl (GO.nil (G.seq (G.region (GO.buildS (el := 41) ([]) HS rfl rfl (fun _ => by kernel_rfl) rfl fun b3 wd4 HS => ?_))))))
  replace HS := HS.boxNil (T := (Ty.slice 2 (TInt .i64))) (j := 0) rfl (fun _ => ⟨none, 0, (fun _ => ())⟩)
  refine GO.lenC (t := 8) (m := ([] : List (List Int)).length) (c' := 0) rfl rfl rfl (GO.assign rfl rfl rfl (GO.nil (G.seq ?_)))
  obtain ⟨c5, H⟩ := ite_none H
  obtain ⟨c6, H⟩ := ite_none H
  refine G.region (GO.fld (⟨b1, 0, none⟩) rfl rfl fl40_0 rfl rfl (GO.ldBox (j := 1) HS rfl rfl rfl rfl na38 rfl (GO.lenS rfl rfl underlying38 rfl (GO.mul rfl rfl rfl rfl (GO.make (T := TBool) false () HS flat_flat rfl rfl rfl underlying171 inf4 rfl rfl rfl c5 c6 rfl fun b7 wd8 HS => GO.assign rfl rfl rfl (GO.nil (G.run 5 rfl ?_)))))))
  refine G.name (fun k_l1 hk_l1 => ?_)
  have at_l1 : ∀ m_l1, m_l1 ≤ K → ∀ (A70 : Option Addr) (c71 : Nat) (out_72 : List (List Int)) (y73 : Nat → (Ty.slice 2 (TInt .i64)).Lay) (done_74 : List Bool) (k_75 : Int) (w : World), spec_l25Regions.l1 K m_l1 d_Crossings d_Circles out_72 done_74 k_75 = some r1 → St w0 w (Box b1 40 [.slice A_a d_Crossings.length c_a, .int .i64 d_Circles] :: Own (Ty.slice 2 (TInt .i64)) 41 A70 c71 y73 out_72 :: Own TBool 4 (some ⟨b7, 0, none⟩) ((w64 (4 * (d_Crossings.length : Int))).toNat) (fun _ => ()) done_74 :: L) → G prog 126 46 [(1, .pointer (some ⟨b1, 0, none⟩)), (3, .slice A70 out_72.length c71), (4, .slice (some ⟨b7, 0, none⟩) done_74.length ((w64 (4 * (d_Crossings.length : Int))).toNat)), (5, .int .i64 k_75)] k_l1 w (spec_l25Regions.post w0 L r1) := by
   intro m_l1
   induction m_l1 using Nat.strongRecOn with
   | _ m_l1 ih_l1 =>
    intro hm_l1 A70 c71 out_72 y73 done_74 k_75 w H HS
    cases m_l1 with
    | zero => rw [spec_l25Regions.l1] at H; cases H
    | succ n_l1 =>
     rw [spec_l25Regions.l1] at H
     subst hk_l1
     refine G.run 2 rfl (G.region (GO.ps 2 rfl (GO.lenS rfl rfl underlying171 rfl (GO.lss rfl rfl rfl rfl (GO.nil ?_)))))
     rcases ite_elim H with ⟨c137, H⟩ | ⟨c137, H⟩
     ·
      refine G.yesB rfl (decide_eq_true c137) (G.run 5 rfl ?_)
      obtain ⟨c138, H⟩ := ite_none H
      refine G.region (GO.ps 2 rfl (GO.ix rfl rfl rfl underlying171 sz4 (fun _ => ⟨_, _, rfl⟩) c138.1 c138.2 rfl (GO.ldRd (T := TBool) (n := k_75.toNat) (o := 0) HS (RdIn.own (j := 2) rfl) rfl rfl (getD_some (d := false) (ltN c138)) rfl rfl na4 rfl (GO.nil ?_))))
      rcases ite_elim H with ⟨c139, H⟩ | ⟨c139, H⟩
      ·
       refine G.yesB rfl c139 (G.run 3 rfl (G.weak ?_ (ih_l1 n_l1 (Nat.lt_succ_of_le (Nat.le_refl _)) (Nat.le_of_succ_le hm_l1) _ _ _ _ _ _ _ H HS)))
       exact ⟨rfl, rfl, rfl, rfl, trivial⟩
      refine G.noB rfl (bnot_of c139) (G.run 2 rfl (G.region (GO.buildS (el := 2) ([]) HS rfl rfl (fun _ => by kernel_rfl) rfl fun b140 wd141 HS => ?_)))
      replace HS := HS.boxRow (T := (TInt .i64)) (j := 0) rfl flat_flat (fun _ => ()) ([] : List Int) rfl (bndL rfl)
      refine GO.lenC (t := 24) (m := ([] : List Int).length) (c' := ([] : List Int).length) rfl rfl rfl (GO.assign rfl rfl rfl (GO.nil (G.run 5 rfl ?_)))
      refine G.name (fun k_l4 hk_l4 => ?_)
      have at_l4 : ∀ m_l4, m_l4 ≤ n_l1 → ∀ (done_153 : List Bool) (A154 : Option Addr) (c155 : Nat) (region_156 : List Int) (at_157 : Int) (w : World), spec_l25Regions.l4 K m_l4 d_Crossings d_Circles out_72 k_75 done_153 region_156 at_157 = some r1 → St w0 w (Box b1 40 [.slice A_a d_Crossings.length c_a, .int .i64 d_Circles] :: Own (Ty.slice 2 (TInt .i64)) 41 A70 c71 y73 out_72 :: Own TBool 4 (some ⟨b7, 0, none⟩) ((w64 (4 * (d_Crossings.length : Int))).toNat) (fun _ => ()) done_153 :: Own (TInt .i64) 2 A154 c155 (fun _ => ()) region_156 :: L) → G prog 126 46 [(1, .pointer (some ⟨b1, 0, none⟩)), (3, .slice A70 out_72.length c71), (4, .slice (some ⟨b7, 0, none⟩) done_153.length ((w64 (4 * (d_Crossings.length : Int))).toNat)), (5, .int .i64 k_75), (6, .slice A154 region_156.length c155), (7, .int .i64 at_157)] k_l4 w (spec_l25Regions.post w0 L r1) := by
       intro m_l4
       induction m_l4 using Nat.strongRecOn with
       | _ m_l4 ih_l4 =>
        intro hm_l4 done_153 A154 c155 region_156 at_157 w H HS
        cases m_l4 with
        | zero => rw [spec_l25Regions.l4] at H; cases H
        | succ n_l4 =>
         rw [spec_l25Regions.l4] at H
         subst hk_l4
         refine G.run 2 rfl ?_
         obtain ⟨c178, H⟩ := ite_none H
         refine G.region (GO.ps 2 rfl (GO.ix rfl rfl rfl underlying171 sz4 (fun _ => ⟨_, _, rfl⟩) c178.1 c178.2 rfl (GO.ldRd (T := TBool) (n := at_157.toNat) (o := 0) HS (RdIn.own (j := 2) rfl) rfl rfl (getD_some (d := false) (ltN c178)) rfl rfl na4 rfl (GO.not rfl rfl rfl (GO.nil ?_)))))
         rcases ite_elim H with ⟨c179, H⟩ | ⟨c179, H⟩
         ·
          refine G.noB rfl (congrArg Bool.not c179) (G.exit rfl ?_)
          obtain ⟨c185, H⟩ := ite_none H
          refine G.region (GO.ps 2 rfl (GO.buildS (el := 41) ([.slice A154 region_156.length c155]) HS rfl rfl (fun _ => by kernel_rfl) rfl fun b180 wd181 HS => ?_))
          replace HS := HS.pk 5 [2, 0, 4, 1, 3] rfl
          refine GO.appR (S := (TInt .i64)) (u := 2) HS rfl rfl rfl underlying156 inf41 rfl rfl c185 rfl fun A183 c184 y186 wd182 HS => GO.assign rfl rfl rfl (GO.nil (G.run 3 rfl (G.weak ?_ (ih_l1 n_l4 (by omega) (by omega) _ _ _ _ _ _ _ H (HS.pk 4 [2, 0, 3] rfl)))))
          exact ⟨rfl, rfl, rfl, rfl, trivial⟩
         refine G.yesB rfl (congrArg Bool.not (bnot_of c179)) (G.run 4 rfl (G.region (GO.ps 2 rfl (GO.ix rfl rfl rfl underlying171 sz4 (fun _ => ⟨_, _, rfl⟩) c178.1 c178.2 rfl (GO.stRow (T := TBool) (j := 2) (n := at_157.toNat) (o := 0) (vs := [.bool true]) true HS rfl flat_flat rfl rfl rfl rfl (htN na4 rfl) rfl (getD_some (d := false) (ltN c178)) rfl rfl fun wd187 HS => GO.nil (G.len (t := 4) (m := (done_153.set at_157.toNat true).length) rfl (by simp only [List.length_set] <;> rfl) ?_))))))
         obtain ⟨c193, H⟩ := ite_none H
         refine G.region (GO.ps 2 rfl (GO.buildS (el := 2) ([.int .i64 at_157]) HS rfl rfl (fun _ => by kernel_rfl) rfl fun b188 wd189 HS => GO.app1 (T := (TInt .i64)) (j := 4) (jb := 0) at_157 HS rfl rfl flat_flat rfl rfl rfl underlying41 inf2 rfl rfl rfl c193 rfl fun A191 c192 wd190 HS => GO.assign rfl rfl rfl (GO.nil (G.blockEnd ?_))))
         obtain ⟨t194, h195, H⟩ := Option.bind_eq_some_iff.1 H
         refine G.region (GO.ldBoxA (j := 1) ([.slice A_a d_Crossings.length c_a, .int .i64 d_Circles]) HS rfl rfl rfl rfl ag40 rfl (GO.move rfl rfl rfl (GO.fn rfl func149 fok149.1 fok149.2 rfl rfl (spec_l25Successor.calls HS (RdIn.drop 5 r_a) h195) (fun _ wd196 ⟨h197, HS⟩ => ⟨_, h197, (GO.assign rfl rfl rfl (GO.nil (G.again (G.weak ?_ (ih_l4 n_l4 (Nat.lt_succ_of_le (Nat.le_refl _)) (Nat.le_of_succ_le hm_l4) _ _ _ _ _ _ H (HS.pk 5 [1, 2, 3, 4] rfl))))))⟩))))
         exact ⟨rfl, rfl, rfl, rfl, rfl, rfl, trivial⟩
      refine G.weak ?_ (at_l4 n_l1 (Nat.le_refl _) _ _ _ _ _ _ H (HS.pk 4 [1, 2, 3, 0] rfl))
      exact ⟨rfl, rfl, rfl, rfl, rfl, rfl, trivial⟩
     refine G.noB rfl (decide_eq_false c137) (G.run 3 rfl ?_)
     obtain rfl := Option.some.inj H
     exact G.ret1 _ func126 rfl rfl ⟨_, _, _, rfl, (HS.pk 3 [1] rfl)⟩
  refine G.weak ?_ (at_l1 K (Nat.le_refl _) _ _ _ _ _ _ _ H (HS.pk 3 [2, 1, 0] rfl))
  exact ⟨rfl, rfl, rfl, rfl, trivial⟩
end Go.Proofs.YthjomdggdaocgaaGreatDoor
