/-
  The walks through the functions: a call comes to what its list function says.
-/
import Derived.Test.YtkmeepgpmppibaaGreatDoorAlF
import Derived.Test.YtkmeepgpmppibaaGreatDoorAlW1
import Derived.Test.YtkmeepgpmppibaaGreatDoorAlW2
import Derived.Test.YtkmeepgpmppibaaGreatDoorAlW4
set_option linter.unusedVariables false
set_option linter.unusedSimpArgs false
namespace Go.Proofs.YtkmeepgpmppibaaGreatDoor
open Go.RowKit
open Tryz
variable {w0 w : World} {L : List HObj} {K : Nat}
set_option maxRecDepth 20000
set_option maxHeartbeats 40000000
theorem laws_markInt64S.calls {a_ : List Int} {k_ : Int} {A_a : Option Addr} {c_a : Nat} {r1 : Int} {r2 : List Int} (HS : St w0 w (Own (TInt .i64) 2 A_a c_a (fun _ => ()) a_ :: L)) (H : laws_markInt64S.f K a_ k_ = some (r1, r2)) :
    Calls prog 73 #[.slice A_a a_.length c_a, I k_] w (laws_markInt64S.post w0 L A_a c_a r1 r2) := by
  unfold laws_markInt64S.f at H
  refine cG func73 Z ?_
  refine rN 7 Z ?_
  refine G.name (fun f1 c1 => ?_)
  have g1 : ∀ a1, a1 ≤ K → ∀ (x4 : List Int) (k_5 i_6 : Int) (w : World), laws_markInt64S.l1 K a1 x4 k_5 i_6 = some (r1, r2) → St w0 w (Own (TInt .i64) 2 A_a c_a (fun _ => ()) x4 :: L) → G prog 73 19 [(0, .slice A_a x4.length c_a), (1, I k_5), (5, I i_6)] f1 w (laws_markInt64S.post w0 L A_a c_a r1 r2) := by
   intro a1
   induction a1 using Nat.strongRecOn with
   | _ a1 e1 =>
    intro d1 x4 k_5 i_6 w H HS
    cases a1 with
    | zero => rw [laws_markInt64S.l1] at H; cases H
    | succ b1 =>
     rw [laws_markInt64S.l1] at H
     subst c1
     refine rN 2 Z (rG (pS 2 Z (lS Z Z underlying43 Z (GO.lss Z Z Z Z (nL ?_)))))
     rcases iE H with ⟨c10, H⟩ | ⟨c10, H⟩
     ·
      refine yB Z (tT c10) (rN 4 Z ?_)
      obtain ⟨c11, H⟩ := iN H
      refine rG (pS 3 Z (GO.ix Z Z Z underlying43 sz2 ((RdIn.own (j := 0) Z) _ HS).2.2.1 c11.1 c11.2 Z (GO.stRow (T := (TInt .i64)) (j := 0) (n := i_6.toNat) (o := 0) (vs := [I k_5]) k_5 HS Z flat_flat Z Z Z Z (htN na2 Z) Z (getD_some (d := 0) (ltN c11)) Z Z fun wd12 HS => nL (G.len (t := 0) (m := (x4.set i_6.toNat k_5).length) Z (by simp only [List.length_set] <;> rfl) (rN 4 Z (G.weak ?_ (e1 b1 (Nat.lt_succ_of_le (lR _)) (Nat.le_of_succ_le d1) _ _ _ _ H HS)))))))
      exact ⟨Z, Z, Z, tv⟩
     refine nB Z (tF c10) (rN 3 Z ?_)
     obtain ⟨rfl, rfl⟩ := some2 H
     exact rT _ func73 Z Z ⟨Z, HS⟩
  refine G.weak ?_ (g1 K (lR _) _ _ _ _ H HS)
  exact ⟨Z, Z, Z, tv⟩
theorem laws_markMoveS.calls {a_ : List GMove} {k_ : Int} {A_a : Option Addr} {c_a : Nat} {r1 : Int} {r2 : List GMove} (HS : St w0 w (Own T_GMove 140 A_a c_a (fun _ => ()) a_ :: L)) (H : laws_markMoveS.f K a_ k_ = some (r1, r2)) :
    Calls prog 74 #[.slice A_a a_.length c_a, I k_] w (laws_markMoveS.post w0 L A_a c_a r1 r2) := by
  unfold laws_markMoveS.f at H
  refine cG func74 Z ?_
  refine rN 7 Z ?_
  refine G.name (fun h1 e1 => ?_)
  have i1 : ∀ c1, c1 ≤ K → ∀ (x14 : List GMove) (a1 b1 : Int) (w : World), laws_markMoveS.l1 K c1 x14 a1 b1 = some (r1, r2) → St w0 w (Own T_GMove 140 A_a c_a (fun _ => ()) x14 :: L) → G prog 74 34 [(0, .slice A_a x14.length c_a), (1, I a1), (5, I b1)] h1 w (laws_markMoveS.post w0 L A_a c_a r1 r2) := by
   intro c1
   induction c1 using Nat.strongRecOn with
   | _ c1 g1 =>
    intro f1 x14 a1 b1 w H HS
    cases c1 with
    | zero => rw [laws_markMoveS.l1] at H; cases H
    | succ d1 =>
     rw [laws_markMoveS.l1] at H
     subst e1
     refine rN 2 Z (rG (pS 2 Z (lS Z Z underlying60 Z (GO.lss Z Z Z Z (nL ?_)))))
     rcases iE H with ⟨c30, H⟩ | ⟨c30, H⟩
     ·
      refine yB Z (tT c30) (rN 4 Z ?_)
      obtain ⟨c31, H⟩ := iN H
      obtain ⟨e33, h34, H⟩ := bnd_elim H
      refine rG (pS 3 Z (GO.ix Z Z Z underlying60 sz140 ((RdIn.own (j := 0) Z) _ HS).2.2.1 c31.1 c31.2 Z (GO.fld (ea A_a (b1.toNat * 3)) Z Z fl140_0 Z Z (GO.stRow (T := T_GMove) (j := 0) (n := b1.toNat) (o := 0) (vs := [I a1]) ({ e33 with Kind := a1 }) HS Z flat_flat Z Z Z Z (htN na2 Z) Z (getD_eq (ltN c31) h34) Z Z fun wd32 HS => nL (G.len (t := 0) (m := (x14.set b1.toNat ({ e33 with Kind := a1 })).length) Z (by simp only [List.length_set] <;> rfl) (rN 3 Z ?_))))))
      obtain ⟨c35, H⟩ := iN H
      obtain ⟨e37, h38, H⟩ := bnd_elim H
      refine rG (pS 3 Z (GO.ix Z Z Z underlying60 sz140 ((RdIn.own (j := 0) Z) _ HS).2.2.1 c35.1 c35.2 Z (GO.fld (ea A_a (b1.toNat * 3 + 1)) Z Z fl140_1 (ea_add _ _ _) Z (GO.stRow (T := T_GMove) (j := 0) (n := b1.toNat) (o := 1) (vs := [I (w64 (a1 + 1))]) ({ e37 with Tet := w64 (a1 + 1) }) HS Z flat_flat Z Z Z Z (htN na2 Z) Z (getD_eq (ltN c35) h38) Z Z fun wd36 HS => nL (G.len (t := 0) (m := ((x14.set b1.toNat ({ e33 with Kind := a1 })).set b1.toNat ({ e37 with Tet := w64 (a1 + 1) })).length) Z (by simp only [List.length_set] <;> rfl) (rN 3 Z ?_))))))
      obtain ⟨c39, H⟩ := iN H
      obtain ⟨e41, h42, H⟩ := bnd_elim H
      refine rG (pS 3 Z (GO.ix Z Z Z underlying60 sz140 ((RdIn.own (j := 0) Z) _ HS).2.2.1 c39.1 c39.2 Z (GO.fld (ea A_a (b1.toNat * 3 + 2)) Z Z fl140_2 (ea_add _ _ _) Z (GO.stRow (T := T_GMove) (j := 0) (n := b1.toNat) (o := 2) (vs := [I (w64 ((w64 (a1 + 1)) + 1))]) ({ e41 with Index := w64 ((w64 (a1 + 1)) + 1) }) HS Z flat_flat Z Z Z Z (htN na2 Z) Z (getD_eq (ltN c39) h42) Z Z fun wd40 HS => nL (G.len (t := 0) (m := (((x14.set b1.toNat ({ e33 with Kind := a1 })).set b1.toNat ({ e37 with Tet := w64 (a1 + 1) })).set b1.toNat ({ e41 with Index := w64 ((w64 (a1 + 1)) + 1) })).length) Z (by simp only [List.length_set] <;> rfl) (rN 4 Z (G.weak ?_ (g1 d1 (Nat.lt_succ_of_le (lR _)) (Nat.le_of_succ_le f1) _ _ _ _ H HS))))))))
      exact ⟨Z, Z, Z, tv⟩
     refine nB Z (tF c30) (rN 3 Z ?_)
     obtain ⟨rfl, rfl⟩ := some2 H
     exact rT _ func74 Z Z ⟨Z, HS⟩
  refine G.weak ?_ (i1 K (lR _) _ _ _ _ H HS)
  exact ⟨Z, Z, Z, tv⟩
theorem laws_markItemS.calls {a_ : List GItem} {k_ : Int} {A_a : Option Addr} {c_a : Nat} {y_a : Nat → T_GItem_63.Lay} {r1 : Int} {r2 : List GItem} (HS : St w0 w (Own T_GItem_63 64 A_a c_a y_a a_ :: L)) (H : laws_markItemS.f K a_ k_ = some (r1, r2)) :
    Calls prog 34 #[.slice A_a a_.length c_a, I k_] w (laws_markItemS.post w0 L A_a c_a y_a r1 r2) := by
  unfold laws_markItemS.f at H
  refine cG func34 Z ?_
  refine rN 7 Z ?_
  refine G.name (fun h1 e1 => ?_)
  have i1 : ∀ c1, c1 ≤ K → ∀ (x84 : List GItem) (b1 a1 : Int) (w : World), laws_markItemS.l1 K c1 x84 b1 a1 = some (r1, r2) → St w0 w (Own T_GItem_63 64 A_a c_a y_a x84 :: L) → G prog 34 108 [(0, .slice A_a x84.length c_a), (1, I b1), (5, I a1)] h1 w (laws_markItemS.post w0 L A_a c_a y_a r1 r2) := by
   intro c1
   induction c1 using Nat.strongRecOn with
   | _ c1 g1 =>
    intro f1 x84 b1 a1 w H HS
    cases c1 with
    | zero => rw [laws_markItemS.l1] at H; cases H
    | succ d1 =>
     rw [laws_markItemS.l1] at H
     subst e1
     refine rN 2 Z (rG (pS 2 Z (lS Z Z underlying27 Z (GO.lss Z Z Z Z (nL ?_)))))
     rcases iE H with ⟨c170, H⟩ | ⟨c170, H⟩
     ·
      refine yB Z (tT c170) (rN 4 Z ?_)
      obtain ⟨t171, h172, H⟩ := bI H
      obtain ⟨c175, H⟩ := iN H
      obtain ⟨e177, h178, H⟩ := bnd_elim H
      refine rG (pS 3 Z (fN Z func70 fok70.1 fok70.2 Z Z (laws_markText.calls HS  h172) (fun _ wd173 ⟨h174, HS⟩ => ⟨_, h174, (GO.ix Z Z Z underlying27 sz64 ((RdIn.own (j := 0) Z) _ HS).2.2.1 c175.1 c175.2 Z (GO.fld (ea A_a (a1.toNat * 12)) Z Z fl64_0 Z Z (GO.stK (T := T_GItem_63) (j := 0) (n := a1.toNat) (o := 0) (x0 := e177) (vs := [.string t171]) ({ e177 with Name := t171 }) HS Z (fun _ _ h => h) Z Z Z Z (htN na9 Z) Z (getD_eq (ltN c175) h178) Z Z fun wd176 HS => nL (G.len (t := 0) (m := (x84.set a1.toNat ({ e177 with Name := t171 })).length) Z (by simp only [List.length_set] <;> rfl) (rN 3 Z ?_)))))⟩)))
      obtain ⟨c179, H⟩ := iN H
      obtain ⟨e181, h182, H⟩ := bnd_elim H
      refine rG (pS 3 Z (GO.ix Z Z Z underlying27 sz64 ((RdIn.own (j := 0) Z) _ HS).2.2.1 c179.1 c179.2 Z (GO.fld (ea A_a (a1.toNat * 12 + 1)) Z Z fl64_1 (ea_add _ _ _) Z (GO.stK (T := T_GItem_63) (j := 0) (n := a1.toNat) (o := 1) (x0 := e181) (vs := [I (w64 (b1 + 1))]) ({ e181 with Kind := w64 (b1 + 1) }) HS Z (fun _ _ h => h) Z Z Z Z (htN na2 Z) Z (getD_eq (ltN c179) h182) Z Z fun wd180 HS => nL (G.len (t := 0) (m := ((x84.set a1.toNat ({ e177 with Name := t171 })).set a1.toNat ({ e181 with Kind := w64 (b1 + 1) })).length) Z (by simp only [List.length_set] <;> rfl) (rN 3 Z ?_))))))
      obtain ⟨c183, H⟩ := iN H
      obtain ⟨e184, h185, H⟩ := bnd_elim H
      obtain ⟨t186, t187, h188, H⟩ := bind2_elim H
      obtain ⟨c189, H⟩ := iN H
      refine rG (pS 2 Z (GO.ix Z Z Z underlying27 sz64 ((RdIn.own (j := 0) Z) _ HS).2.2.1 c183.1 c183.2 Z (GO.fld (ea A_a (a1.toNat * 12 + 2)) Z Z fl64_2 (ea_add _ _ _) Z (GO.fld (ea A_a (a1.toNat * 12 + 2)) Z Z fl55_0 Z Z (GO.ldRd (T := T_GItem_63) (n := a1.toNat) (o := 2) HS (RdIn.own (j := 0) Z) Z Z (getD_eq (ltN c183) h185) Z Z na53 Z (mV Z ?_))))))
      replace HS := HS.focusO F_GItem_63_Triangulation_Tets (getD_eq (ltN c183) h185)
      refine fN Z func71 fok71.1 fok71.2 Z Z (laws_markFaceSS.calls HS  h188) (fun _ wd190 ⟨h191, HS⟩ => ⟨_, h191, ?_⟩)
      replace HS := St.unfocusO (y := t187) F_GItem_63_Triangulation_Tets (getD_eq (ltN c183) h185) (congrArg (fun m => ([.string e184.Name, I e184.Kind, .slice (y_a a1.toNat).2.2.1.A m (y_a a1.toNat).2.2.1.c, .slice (y_a a1.toNat).2.2.2.1.A e184.Diagram_Crossings.length (y_a a1.toNat).2.2.2.1.c, I e184.Diagram_Circles, I e184.Braid_Strands, .slice (y_a a1.toNat).2.2.2.2.2.2.1.A e184.Braid_Word.length (y_a a1.toNat).2.2.2.2.2.2.1.c, I e184.Certificate_Name, I e184.Certificate_Trait, .slice (y_a a1.toNat).2.2.2.2.2.2.2.2.2.1.A e184.Certificate_Moves.length (y_a a1.toNat).2.2.2.2.2.2.2.2.2.1.c, .slice (y_a a1.toNat).2.2.2.2.2.2.2.2.2.2.1.A e184.Certificate_Tets.length (y_a a1.toNat).2.2.2.2.2.2.2.2.2.2.1.c, .slice (y_a a1.toNat).2.2.2.2.2.2.2.2.2.2.2.A e184.Certificate_Perms.length (y_a a1.toNat).2.2.2.2.2.2.2.2.2.2.2.c] : List Value)) c189) HS
      refine aS Z (nL (G.len (t := 0) (m := (((x84.set a1.toNat ({ e177 with Name := t171 })).set a1.toNat ({ e181 with Kind := w64 (b1 + 1) })).set a1.toNat { e184 with Triangulation_Tets := t187 }).length) Z (by simp only [List.length_set, List.length_set] <;> rfl) (sQ ?_)))
      obtain ⟨c192, H⟩ := iN H
      obtain ⟨e193, h194, H⟩ := bnd_elim H
      obtain ⟨t195, t196, h197, H⟩ := bind2_elim H
      obtain ⟨c198, H⟩ := iN H
      refine rG (pS 2 Z (GO.ix Z Z Z underlying27 sz64 ((RdIn.own (j := 0) Z) _ HS).2.2.1 c192.1 c192.2 Z (GO.fld (ea A_a (a1.toNat * 12 + 3)) Z Z fl64_3 (ea_add _ _ _) Z (GO.fld (ea A_a (a1.toNat * 12 + 3)) Z Z fl58_0 Z Z (GO.ldRd (T := T_GItem_63) (n := a1.toNat) (o := 3) HS (RdIn.own (j := 0) Z) Z Z (getD_eq (ltN c192) h194) Z Z na56 Z (mV Z ?_))))))
      replace HS := HS.focusO F_GItem_63_Diagram_Crossings (getD_eq (ltN c192) h194)
      refine fN Z func72 fok72.1 fok72.2 Z Z (laws_markCrossingS.calls HS  h197) (fun _ wd199 ⟨h200, HS⟩ => ⟨_, h200, ?_⟩)
      replace HS := St.unfocusO (y := t196) F_GItem_63_Diagram_Crossings (getD_eq (ltN c192) h194) (congrArg (fun m => ([.string e193.Name, I e193.Kind, .slice (y_a a1.toNat).2.2.1.A e193.Triangulation_Tets.length (y_a a1.toNat).2.2.1.c, .slice (y_a a1.toNat).2.2.2.1.A m (y_a a1.toNat).2.2.2.1.c, I e193.Diagram_Circles, I e193.Braid_Strands, .slice (y_a a1.toNat).2.2.2.2.2.2.1.A e193.Braid_Word.length (y_a a1.toNat).2.2.2.2.2.2.1.c, I e193.Certificate_Name, I e193.Certificate_Trait, .slice (y_a a1.toNat).2.2.2.2.2.2.2.2.2.1.A e193.Certificate_Moves.length (y_a a1.toNat).2.2.2.2.2.2.2.2.2.1.c, .slice (y_a a1.toNat).2.2.2.2.2.2.2.2.2.2.1.A e193.Certificate_Tets.length (y_a a1.toNat).2.2.2.2.2.2.2.2.2.2.1.c, .slice (y_a a1.toNat).2.2.2.2.2.2.2.2.2.2.2.A e193.Certificate_Perms.length (y_a a1.toNat).2.2.2.2.2.2.2.2.2.2.2.c] : List Value)) c198) HS
      refine aS Z (nL (G.len (t := 0) (m := ((((x84.set a1.toNat ({ e177 with Name := t171 })).set a1.toNat ({ e181 with Kind := w64 (b1 + 1) })).set a1.toNat { e184 with Triangulation_Tets := t187 }).set a1.toNat { e193 with Diagram_Crossings := t196 }).length) Z (by simp only [List.length_set, List.length_set] <;> rfl) (sQ ?_)))
      obtain ⟨c201, H⟩ := iN H
      obtain ⟨e203, h204, H⟩ := bnd_elim H
      refine rG (pS 3 Z (GO.ix Z Z Z underlying27 sz64 ((RdIn.own (j := 0) Z) _ HS).2.2.1 c201.1 c201.2 Z (GO.fld (ea A_a (a1.toNat * 12 + 3)) Z Z fl64_3 (ea_add _ _ _) Z (GO.fld (ea A_a (a1.toNat * 12 + 4)) Z Z fl58_1 (by rw [ea_add, Nat.add_assoc]) Z (GO.stK (T := T_GItem_63) (j := 0) (n := a1.toNat) (o := 4) (x0 := e203) (vs := [I t195]) ({ e203 with Diagram_Circles := t195 }) HS Z (fun _ _ h => h) Z Z Z Z (htN na2 Z) Z (getD_eq (ltN c201) h204) Z Z fun wd202 HS => nL (G.len (t := 0) (m := (((((x84.set a1.toNat ({ e177 with Name := t171 })).set a1.toNat ({ e181 with Kind := w64 (b1 + 1) })).set a1.toNat { e184 with Triangulation_Tets := t187 }).set a1.toNat { e193 with Diagram_Crossings := t196 }).set a1.toNat ({ e203 with Diagram_Circles := t195 })).length) Z (by simp only [List.length_set] <;> rfl) (rN 3 Z ?_)))))))
      obtain ⟨c205, H⟩ := iN H
      obtain ⟨e207, h208, H⟩ := bnd_elim H
      refine rG (pS 3 Z (GO.ix Z Z Z underlying27 sz64 ((RdIn.own (j := 0) Z) _ HS).2.2.1 c205.1 c205.2 Z (GO.fld (ea A_a (a1.toNat * 12 + 5)) Z Z fl64_4 (ea_add _ _ _) Z (GO.fld (ea A_a (a1.toNat * 12 + 5)) Z Z fl59_0 Z Z (GO.stK (T := T_GItem_63) (j := 0) (n := a1.toNat) (o := 5) (x0 := e207) (vs := [I (w64 (t195 + 1))]) ({ e207 with Braid_Strands := w64 (t195 + 1) }) HS Z (fun _ _ h => h) Z Z Z Z (htN na2 Z) Z (getD_eq (ltN c205) h208) Z Z fun wd206 HS => nL (G.len (t := 0) (m := ((((((x84.set a1.toNat ({ e177 with Name := t171 })).set a1.toNat ({ e181 with Kind := w64 (b1 + 1) })).set a1.toNat { e184 with Triangulation_Tets := t187 }).set a1.toNat { e193 with Diagram_Crossings := t196 }).set a1.toNat ({ e203 with Diagram_Circles := t195 })).set a1.toNat ({ e207 with Braid_Strands := w64 (t195 + 1) })).length) Z (by simp only [List.length_set] <;> rfl) (rN 3 Z ?_)))))))
      obtain ⟨c209, H⟩ := iN H
      obtain ⟨e210, h211, H⟩ := bnd_elim H
      obtain ⟨t212, t213, h214, H⟩ := bind2_elim H
      obtain ⟨c215, H⟩ := iN H
      refine rG (pS 2 Z (GO.ix Z Z Z underlying27 sz64 ((RdIn.own (j := 0) Z) _ HS).2.2.1 c209.1 c209.2 Z (GO.fld (ea A_a (a1.toNat * 12 + 5)) Z Z fl64_4 (ea_add _ _ _) Z (GO.fld (ea A_a (a1.toNat * 12 + 6)) Z Z fl59_1 (by rw [ea_add, Nat.add_assoc]) Z (GO.ldRd (T := T_GItem_63) (n := a1.toNat) (o := 6) HS (RdIn.own (j := 0) Z) Z Z (getD_eq (ltN c209) h211) Z Z na43 Z (mV Z ?_))))))
      replace HS := HS.focusO F_GItem_63_Braid_Word (getD_eq (ltN c209) h211)
      refine fN Z func73 fok73.1 fok73.2 Z Z (laws_markInt64S.calls HS  h214) (fun _ wd216 ⟨h217, HS⟩ => ⟨_, h217, ?_⟩)
      replace HS := St.unfocusO (y := t213) F_GItem_63_Braid_Word (getD_eq (ltN c209) h211) (congrArg (fun m => ([.string e210.Name, I e210.Kind, .slice (y_a a1.toNat).2.2.1.A e210.Triangulation_Tets.length (y_a a1.toNat).2.2.1.c, .slice (y_a a1.toNat).2.2.2.1.A e210.Diagram_Crossings.length (y_a a1.toNat).2.2.2.1.c, I e210.Diagram_Circles, I e210.Braid_Strands, .slice (y_a a1.toNat).2.2.2.2.2.2.1.A m (y_a a1.toNat).2.2.2.2.2.2.1.c, I e210.Certificate_Name, I e210.Certificate_Trait, .slice (y_a a1.toNat).2.2.2.2.2.2.2.2.2.1.A e210.Certificate_Moves.length (y_a a1.toNat).2.2.2.2.2.2.2.2.2.1.c, .slice (y_a a1.toNat).2.2.2.2.2.2.2.2.2.2.1.A e210.Certificate_Tets.length (y_a a1.toNat).2.2.2.2.2.2.2.2.2.2.1.c, .slice (y_a a1.toNat).2.2.2.2.2.2.2.2.2.2.2.A e210.Certificate_Perms.length (y_a a1.toNat).2.2.2.2.2.2.2.2.2.2.2.c] : List Value)) c215) HS
      refine aS Z (nL (G.len (t := 0) (m := (((((((x84.set a1.toNat ({ e177 with Name := t171 })).set a1.toNat ({ e181 with Kind := w64 (b1 + 1) })).set a1.toNat { e184 with Triangulation_Tets := t187 }).set a1.toNat { e193 with Diagram_Crossings := t196 }).set a1.toNat ({ e203 with Diagram_Circles := t195 })).set a1.toNat ({ e207 with Braid_Strands := w64 (t195 + 1) })).set a1.toNat { e210 with Braid_Word := t213 }).length) Z (by simp only [List.length_set, List.length_set] <;> rfl) (sQ ?_)))
      obtain ⟨c218, H⟩ := iN H
      obtain ⟨e220, h221, H⟩ := bnd_elim H
      refine rG (pS 3 Z (GO.ix Z Z Z underlying27 sz64 ((RdIn.own (j := 0) Z) _ HS).2.2.1 c218.1 c218.2 Z (GO.fld (ea A_a (a1.toNat * 12 + 7)) Z Z fl64_5 (ea_add _ _ _) Z (GO.fld (ea A_a (a1.toNat * 12 + 7)) Z Z fl62_0 Z Z (GO.stK (T := T_GItem_63) (j := 0) (n := a1.toNat) (o := 7) (x0 := e220) (vs := [I t212]) ({ e220 with Certificate_Name := t212 }) HS Z (fun _ _ h => h) Z Z Z Z (htN na2 Z) Z (getD_eq (ltN c218) h221) Z Z fun wd219 HS => nL (G.len (t := 0) (m := ((((((((x84.set a1.toNat ({ e177 with Name := t171 })).set a1.toNat ({ e181 with Kind := w64 (b1 + 1) })).set a1.toNat { e184 with Triangulation_Tets := t187 }).set a1.toNat { e193 with Diagram_Crossings := t196 }).set a1.toNat ({ e203 with Diagram_Circles := t195 })).set a1.toNat ({ e207 with Braid_Strands := w64 (t195 + 1) })).set a1.toNat { e210 with Braid_Word := t213 }).set a1.toNat ({ e220 with Certificate_Name := t212 })).length) Z (by simp only [List.length_set] <;> rfl) (rN 3 Z ?_)))))))
      obtain ⟨c222, H⟩ := iN H
      obtain ⟨e224, h225, H⟩ := bnd_elim H
      refine rG (pS 3 Z (GO.ix Z Z Z underlying27 sz64 ((RdIn.own (j := 0) Z) _ HS).2.2.1 c222.1 c222.2 Z (GO.fld (ea A_a (a1.toNat * 12 + 7)) Z Z fl64_5 (ea_add _ _ _) Z (GO.fld (ea A_a (a1.toNat * 12 + 8)) Z Z fl62_1 (by rw [ea_add, Nat.add_assoc]) Z (GO.stK (T := T_GItem_63) (j := 0) (n := a1.toNat) (o := 8) (x0 := e224) (vs := [I (w64 (t212 + 1))]) ({ e224 with Certificate_Trait := w64 (t212 + 1) }) HS Z (fun _ _ h => h) Z Z Z Z (htN na2 Z) Z (getD_eq (ltN c222) h225) Z Z fun wd223 HS => nL (G.len (t := 0) (m := (((((((((x84.set a1.toNat ({ e177 with Name := t171 })).set a1.toNat ({ e181 with Kind := w64 (b1 + 1) })).set a1.toNat { e184 with Triangulation_Tets := t187 }).set a1.toNat { e193 with Diagram_Crossings := t196 }).set a1.toNat ({ e203 with Diagram_Circles := t195 })).set a1.toNat ({ e207 with Braid_Strands := w64 (t195 + 1) })).set a1.toNat { e210 with Braid_Word := t213 }).set a1.toNat ({ e220 with Certificate_Name := t212 })).set a1.toNat ({ e224 with Certificate_Trait := w64 (t212 + 1) })).length) Z (by simp only [List.length_set] <;> rfl) (rN 3 Z ?_)))))))
      obtain ⟨c226, H⟩ := iN H
      obtain ⟨e227, h228, H⟩ := bnd_elim H
      obtain ⟨t229, t230, h231, H⟩ := bind2_elim H
      obtain ⟨c232, H⟩ := iN H
      refine rG (pS 2 Z (GO.ix Z Z Z underlying27 sz64 ((RdIn.own (j := 0) Z) _ HS).2.2.1 c226.1 c226.2 Z (GO.fld (ea A_a (a1.toNat * 12 + 7)) Z Z fl64_5 (ea_add _ _ _) Z (GO.fld (ea A_a (a1.toNat * 12 + 9)) Z Z fl62_2 (by rw [ea_add, Nat.add_assoc]) Z (GO.ldRd (T := T_GItem_63) (n := a1.toNat) (o := 9) HS (RdIn.own (j := 0) Z) Z Z (getD_eq (ltN c226) h228) Z Z na60 Z (mV Z ?_))))))
      replace HS := HS.focusO F_GItem_63_Certificate_Moves (getD_eq (ltN c226) h228)
      refine fN Z func74 fok74.1 fok74.2 Z Z (laws_markMoveS.calls HS  h231) (fun _ wd233 ⟨h234, HS⟩ => ⟨_, h234, ?_⟩)
      replace HS := St.unfocusO (y := t230) F_GItem_63_Certificate_Moves (getD_eq (ltN c226) h228) (congrArg (fun m => ([.string e227.Name, I e227.Kind, .slice (y_a a1.toNat).2.2.1.A e227.Triangulation_Tets.length (y_a a1.toNat).2.2.1.c, .slice (y_a a1.toNat).2.2.2.1.A e227.Diagram_Crossings.length (y_a a1.toNat).2.2.2.1.c, I e227.Diagram_Circles, I e227.Braid_Strands, .slice (y_a a1.toNat).2.2.2.2.2.2.1.A e227.Braid_Word.length (y_a a1.toNat).2.2.2.2.2.2.1.c, I e227.Certificate_Name, I e227.Certificate_Trait, .slice (y_a a1.toNat).2.2.2.2.2.2.2.2.2.1.A m (y_a a1.toNat).2.2.2.2.2.2.2.2.2.1.c, .slice (y_a a1.toNat).2.2.2.2.2.2.2.2.2.2.1.A e227.Certificate_Tets.length (y_a a1.toNat).2.2.2.2.2.2.2.2.2.2.1.c, .slice (y_a a1.toNat).2.2.2.2.2.2.2.2.2.2.2.A e227.Certificate_Perms.length (y_a a1.toNat).2.2.2.2.2.2.2.2.2.2.2.c] : List Value)) c232) HS
      refine aS Z (nL (G.len (t := 0) (m := ((((((((((x84.set a1.toNat ({ e177 with Name := t171 })).set a1.toNat ({ e181 with Kind := w64 (b1 + 1) })).set a1.toNat { e184 with Triangulation_Tets := t187 }).set a1.toNat { e193 with Diagram_Crossings := t196 }).set a1.toNat ({ e203 with Diagram_Circles := t195 })).set a1.toNat ({ e207 with Braid_Strands := w64 (t195 + 1) })).set a1.toNat { e210 with Braid_Word := t213 }).set a1.toNat ({ e220 with Certificate_Name := t212 })).set a1.toNat ({ e224 with Certificate_Trait := w64 (t212 + 1) })).set a1.toNat { e227 with Certificate_Moves := t230 }).length) Z (by simp only [List.length_set, List.length_set] <;> rfl) (sQ ?_)))
      obtain ⟨c235, H⟩ := iN H
      obtain ⟨e236, h237, H⟩ := bnd_elim H
      obtain ⟨t238, t239, h240, H⟩ := bind2_elim H
      obtain ⟨c241, H⟩ := iN H
      refine rG (pS 2 Z (GO.ix Z Z Z underlying27 sz64 ((RdIn.own (j := 0) Z) _ HS).2.2.1 c235.1 c235.2 Z (GO.fld (ea A_a (a1.toNat * 12 + 7)) Z Z fl64_5 (ea_add _ _ _) Z (GO.fld (ea A_a (a1.toNat * 12 + 10)) Z Z fl62_3 (by rw [ea_add, Nat.add_assoc]) Z (GO.ldRd (T := T_GItem_63) (n := a1.toNat) (o := 10) HS (RdIn.own (j := 0) Z) Z Z (getD_eq (ltN c235) h237) Z Z na43 Z (mV Z ?_))))))
      replace HS := HS.focusO F_GItem_63_Certificate_Tets (getD_eq (ltN c235) h237)
      refine fN Z func73 fok73.1 fok73.2 Z Z (laws_markInt64S.calls HS  h240) (fun _ wd242 ⟨h243, HS⟩ => ⟨_, h243, ?_⟩)
      replace HS := St.unfocusO (y := t239) F_GItem_63_Certificate_Tets (getD_eq (ltN c235) h237) (congrArg (fun m => ([.string e236.Name, I e236.Kind, .slice (y_a a1.toNat).2.2.1.A e236.Triangulation_Tets.length (y_a a1.toNat).2.2.1.c, .slice (y_a a1.toNat).2.2.2.1.A e236.Diagram_Crossings.length (y_a a1.toNat).2.2.2.1.c, I e236.Diagram_Circles, I e236.Braid_Strands, .slice (y_a a1.toNat).2.2.2.2.2.2.1.A e236.Braid_Word.length (y_a a1.toNat).2.2.2.2.2.2.1.c, I e236.Certificate_Name, I e236.Certificate_Trait, .slice (y_a a1.toNat).2.2.2.2.2.2.2.2.2.1.A e236.Certificate_Moves.length (y_a a1.toNat).2.2.2.2.2.2.2.2.2.1.c, .slice (y_a a1.toNat).2.2.2.2.2.2.2.2.2.2.1.A m (y_a a1.toNat).2.2.2.2.2.2.2.2.2.2.1.c, .slice (y_a a1.toNat).2.2.2.2.2.2.2.2.2.2.2.A e236.Certificate_Perms.length (y_a a1.toNat).2.2.2.2.2.2.2.2.2.2.2.c] : List Value)) c241) HS
      refine aS Z (nL (G.len (t := 0) (m := (((((((((((x84.set a1.toNat ({ e177 with Name := t171 })).set a1.toNat ({ e181 with Kind := w64 (b1 + 1) })).set a1.toNat { e184 with Triangulation_Tets := t187 }).set a1.toNat { e193 with Diagram_Crossings := t196 }).set a1.toNat ({ e203 with Diagram_Circles := t195 })).set a1.toNat ({ e207 with Braid_Strands := w64 (t195 + 1) })).set a1.toNat { e210 with Braid_Word := t213 }).set a1.toNat ({ e220 with Certificate_Name := t212 })).set a1.toNat ({ e224 with Certificate_Trait := w64 (t212 + 1) })).set a1.toNat { e227 with Certificate_Moves := t230 }).set a1.toNat { e236 with Certificate_Tets := t239 }).length) Z (by simp only [List.length_set, List.length_set] <;> rfl) ?_))
      obtain ⟨c244, H⟩ := iN H
      obtain ⟨e245, h246, H⟩ := bnd_elim H
      obtain ⟨t247, t248, h249, H⟩ := bind2_elim H
      obtain ⟨c250, H⟩ := iN H
      refine rG (pS 2 Z (GO.ix Z Z Z underlying27 sz64 ((RdIn.own (j := 0) Z) _ HS).2.2.1 c244.1 c244.2 Z (GO.fld (ea A_a (a1.toNat * 12 + 7)) Z Z fl64_5 (ea_add _ _ _) Z (GO.fld (ea A_a (a1.toNat * 12 + 11)) Z Z fl62_4 (by rw [ea_add, Nat.add_assoc]) Z (GO.ldRd (T := T_GItem_63) (n := a1.toNat) (o := 11) HS (RdIn.own (j := 0) Z) Z Z (getD_eq (ltN c244) h246) Z Z na43 Z (mV Z ?_))))))
      replace HS := HS.focusO F_GItem_63_Certificate_Perms (getD_eq (ltN c244) h246)
      refine fN Z func73 fok73.1 fok73.2 Z Z (laws_markInt64S.calls HS  h249) (fun _ wd251 ⟨h252, HS⟩ => ⟨_, h252, ?_⟩)
      replace HS := St.unfocusO (y := t248) F_GItem_63_Certificate_Perms (getD_eq (ltN c244) h246) (congrArg (fun m => ([.string e245.Name, I e245.Kind, .slice (y_a a1.toNat).2.2.1.A e245.Triangulation_Tets.length (y_a a1.toNat).2.2.1.c, .slice (y_a a1.toNat).2.2.2.1.A e245.Diagram_Crossings.length (y_a a1.toNat).2.2.2.1.c, I e245.Diagram_Circles, I e245.Braid_Strands, .slice (y_a a1.toNat).2.2.2.2.2.2.1.A e245.Braid_Word.length (y_a a1.toNat).2.2.2.2.2.2.1.c, I e245.Certificate_Name, I e245.Certificate_Trait, .slice (y_a a1.toNat).2.2.2.2.2.2.2.2.2.1.A e245.Certificate_Moves.length (y_a a1.toNat).2.2.2.2.2.2.2.2.2.1.c, .slice (y_a a1.toNat).2.2.2.2.2.2.2.2.2.2.1.A e245.Certificate_Tets.length (y_a a1.toNat).2.2.2.2.2.2.2.2.2.2.1.c, .slice (y_a a1.toNat).2.2.2.2.2.2.2.2.2.2.2.A m (y_a a1.toNat).2.2.2.2.2.2.2.2.2.2.2.c] : List Value)) c250) HS
      refine aS Z (nL (G.len (t := 0) (m := ((((((((((((x84.set a1.toNat ({ e177 with Name := t171 })).set a1.toNat ({ e181 with Kind := w64 (b1 + 1) })).set a1.toNat { e184 with Triangulation_Tets := t187 }).set a1.toNat { e193 with Diagram_Crossings := t196 }).set a1.toNat ({ e203 with Diagram_Circles := t195 })).set a1.toNat ({ e207 with Braid_Strands := w64 (t195 + 1) })).set a1.toNat { e210 with Braid_Word := t213 }).set a1.toNat ({ e220 with Certificate_Name := t212 })).set a1.toNat ({ e224 with Certificate_Trait := w64 (t212 + 1) })).set a1.toNat { e227 with Certificate_Moves := t230 }).set a1.toNat { e236 with Certificate_Tets := t239 }).set a1.toNat { e245 with Certificate_Perms := t248 }).length) Z (by simp only [List.length_set, List.length_set] <;> rfl) (rN 3 Z (G.weak ?_ (g1 d1 (Nat.lt_succ_of_le (lR _)) (Nat.le_of_succ_le f1) _ _ _ _ H HS)))))
      exact ⟨Z, Z, Z, tv⟩
     refine nB Z (tF c170) (rN 3 Z ?_)
     obtain ⟨rfl, rfl⟩ := some2 H
     exact rT _ func34 Z Z ⟨Z, HS⟩
  refine G.weak ?_ (i1 K (lR _) _ _ _ _ H HS)
  exact ⟨Z, Z, Z, tv⟩
theorem laws_markItemSS.calls {a_ : List (List GItem)} {k_ : Int} {A_a : Option Addr} {c_a : Nat} {y_a : Nat → (Ty.slice 64 T_GItem_63).Lay} {r1 : Int} {r2 : List (List GItem)} (HS : St w0 w (Own (Ty.slice 64 T_GItem_63) 27 A_a c_a y_a a_ :: L)) (H : laws_markItemSS.f K a_ k_ = some (r1, r2)) :
    Calls prog 35 #[.slice A_a a_.length c_a, I k_] w (laws_markItemSS.post w0 L A_a c_a y_a r1 r2) := by
  unfold laws_markItemSS.f at H
  refine cG func35 Z ?_
  refine rN 7 Z ?_
  refine G.name (fun h1 e1 => ?_)
  have i1 : ∀ b1, b1 ≤ K → ∀ (x9 : List (List GItem)) (c1 a1 : Int) (w : World), laws_markItemSS.l1 K b1 x9 c1 a1 = some (r1, r2) → St w0 w (Own (Ty.slice 64 T_GItem_63) 27 A_a c_a y_a x9 :: L) → G prog 35 19 [(0, .slice A_a x9.length c_a), (1, I c1), (5, I a1)] h1 w (laws_markItemSS.post w0 L A_a c_a y_a r1 r2) := by
   intro b1
   induction b1 using Nat.strongRecOn with
   | _ b1 g1 =>
    intro f1 x9 c1 a1 w H HS
    cases b1 with
    | zero => rw [laws_markItemSS.l1] at H; cases H
    | succ d1 =>
     rw [laws_markItemSS.l1] at H
     subst e1
     refine rN 2 Z (rG (pS 2 Z (lS Z Z underlying28 Z (GO.lss Z Z Z Z (nL ?_)))))
     rcases iE H with ⟨c20, H⟩ | ⟨c20, H⟩
     ·
      refine yB Z (tT c20) (rN 3 Z ?_)
      obtain ⟨c21, H⟩ := iN H
      obtain ⟨t22, t23, h24, H⟩ := bind2_elim H
      obtain ⟨c25, H⟩ := iN H
      refine rG (pS 2 Z (GO.ix Z Z Z underlying28 sz27 ((RdIn.own (j := 0) Z) _ HS).2.2.1 c21.1 c21.2 Z (GO.ldRd (T := (Ty.slice 64 T_GItem_63)) (n := a1.toNat) (o := 0) HS (RdIn.own (j := 0) Z) Z Z (getD_some (d := []) (ltN c21)) Z Z na27 Z (mV Z ?_))))
      replace HS := HS.focusO Fld.id (getD_some (d := []) (ltN c21))
      refine fN Z func34 fok34.1 fok34.2 Z Z (laws_markItemS.calls HS  h24) (fun _ wd26 ⟨h27, HS⟩ => ⟨_, h27, ?_⟩)
      replace HS := St.unfocusO (y := t23) Fld.id (getD_some (d := []) (ltN c21)) (congrArg (fun m => ([.slice ((y_a a1.toNat).A) m ((y_a a1.toNat).c)] : List Value)) c25) HS
      refine aS Z (nL (G.len (t := 0) (m := (x9.set a1.toNat t23).length) Z (by simp only [List.length_set, List.length_set] <;> rfl) (rN 3 Z (G.weak ?_ (g1 d1 (Nat.lt_succ_of_le (lR _)) (Nat.le_of_succ_le f1) _ _ _ _ H HS)))))
      exact ⟨Z, Z, Z, tv⟩
     refine nB Z (tF c20) (rN 3 Z ?_)
     obtain ⟨rfl, rfl⟩ := some2 H
     exact rT _ func35 Z Z ⟨Z, HS⟩
  refine G.weak ?_ (i1 K (lR _) _ _ _ _ H HS)
  exact ⟨Z, Z, Z, tv⟩
theorem laws_markBench.calls {d1 : List GItem} {c1 a1 : List (List GItem)} {k_ : Int} {A_a : Option Addr} {c_a : Nat} {y_a : Nat → T_GItem_63.Lay} {A_b : Option Addr} {c_b : Nat} {y_b : Nat → (Ty.slice 64 T_GItem_63).Lay} {A_c : Option Addr} {c_c : Nat} {y_c : Nat → (Ty.slice 64 T_GItem_63).Lay} {r1 : Int} {r2 : List GItem} {r3 r4 : List (List GItem)} (HS : St w0 w (Own T_GItem_63 64 A_a c_a y_a d1 :: Own (Ty.slice 64 T_GItem_63) 27 A_b c_b y_b c1 :: Own (Ty.slice 64 T_GItem_63) 27 A_c c_c y_c a1 :: L)) (H : laws_markBench.f K d1 c1 a1 k_ = some (r1, r2, r3, r4)) :
    Calls prog 10 #[.agg [.slice A_a d1.length c_a, .slice A_b c1.length c_b, .slice A_c a1.length c_c].toArray, I k_] w (laws_markBench.post w0 L A_a c_a y_a A_b c_b y_b A_c c_c y_c r1 r2 r3 r4) := by
  unfold laws_markBench.f at H
  refine cG func10 Z ?_
  refine sQ (rG (GO.box (cs := [.slice A_a d1.length c_a, .slice A_b c1.length c_b, .slice A_c a1.length c_c]) HS Z Z Z Z fun b1 wd2 HS => aS Z (nL (sQ ?_))))
  obtain ⟨t3, t4, h5, H⟩ := bind2_elim H
  obtain ⟨c6, H⟩ := iN H
  refine rG (fL b1 0 fl30_0 Z (lB 0 HS Z na27 Z (mV Z ?_)))
  replace HS := HS.pk 4 [1, 0, 2, 3] Z
  refine fN Z func34 fok34.1 fok34.2 Z Z (laws_markItemS.calls HS  h5) (fun _ wd7 ⟨h8, HS⟩ => ⟨_, h8, (aS Z (nL ?_))⟩)
  replace HS := HS.boxEq (j := 1) (cs' := [.slice A_a t4.length c_a, .slice A_b c1.length c_b, .slice A_c a1.length c_c]) Z (by simp only [List.length_set, c6] <;> rfl)
  refine sQ ?_
  obtain ⟨t9, t10, h11, H⟩ := bind2_elim H
  obtain ⟨c12, H⟩ := iN H
  refine rG (fL b1 1 fl30_1 Z (lB 1 HS Z na28 Z (mV Z ?_)))
  replace HS := HS.pk 4 [2, 0, 1, 3] Z
  refine fN Z func35 fok35.1 fok35.2 Z Z (laws_markItemSS.calls HS  h11) (fun _ wd13 ⟨h14, HS⟩ => ⟨_, h14, (aS Z (nL ?_))⟩)
  replace HS := HS.boxEq (j := 2) (cs' := [.slice A_a t4.length c_a, .slice A_b t10.length c_b, .slice A_c a1.length c_c]) Z (by simp only [List.length_set, c12] <;> rfl)
  refine sQ ?_
  obtain ⟨t15, t16, h17, H⟩ := bind2_elim H
  obtain ⟨c18, H⟩ := iN H
  refine rG (fL b1 2 fl30_2 Z (lB 2 HS Z na28 Z (mV Z ?_)))
  replace HS := HS.pk 4 [3, 0, 1, 2] Z
  refine fN Z func35 fok35.1 fok35.2 Z Z (laws_markItemSS.calls HS  h17) (fun _ wd19 ⟨h20, HS⟩ => ⟨_, h20, (aS Z (nL ?_))⟩)
  replace HS := HS.boxEq (j := 3) (cs' := [.slice A_a t4.length c_a, .slice A_b t10.length c_b, .slice A_c t16.length c_c]) Z (by simp only [List.length_set, c18] <;> rfl)
  refine rN 2 Z ?_
  obtain ⟨rfl, rfl, rfl, rfl⟩ := some4 H
  exact rT _ func10 Z Z ⟨Z, (HS.pk 4 [2, 1, 0] Z)⟩
theorem laws_heldFaceS.calls {a_ : List GFace} {k_ : Int} {A_a : Option Addr} {c_a : Nat} {r1 : Int} (HS : St w0 w (L)) (r_a : RdIn w0 L T_GFace A_a c_a (fun _ => ()) a_) (H : laws_heldFaceS.f K a_ k_ = some r1) :
    Calls prog 116 #[.slice A_a a_.length c_a, I k_] w (laws_heldFaceS.post w0 L r1) := by
  unfold laws_heldFaceS.f at H
  refine cG func116 Z ?_
  refine rN 7 Z ?_
  refine G.name (fun f1 c1 => ?_)
  have g1 : ∀ a1, a1 ≤ K → ∀ (k_7 i_8 : Int) (w : World), laws_heldFaceS.l1 K a1 a_ k_7 i_8 = some r1 → St w0 w (L) → G prog 116 31 [(0, .slice A_a a_.length c_a), (1, I k_7), (5, I i_8)] f1 w (laws_heldFaceS.post w0 L r1) := by
   intro a1
   induction a1 using Nat.strongRecOn with
   | _ a1 e1 =>
    intro d1 k_7 i_8 w H HS
    cases a1 with
    | zero => rw [laws_heldFaceS.l1] at H; cases H
    | succ b1 =>
     rw [laws_heldFaceS.l1] at H
     subst c1
     refine rN 2 Z (rG (pS 2 Z (lS Z Z underlying150 Z (GO.lss Z Z Z Z (nL ?_)))))
     rcases iE H with ⟨c15, H⟩ | ⟨c15, H⟩
     ·
      refine yB Z (tT c15) (rN 5 Z ?_)
      obtain ⟨c16, H⟩ := iN H
      obtain ⟨e17, h18, H⟩ := bnd_elim H
      refine rG (pS 2 Z (GO.ix Z Z Z underlying150 sz157 (r_a _ HS).2.2.1 c16.1 c16.2 Z (GO.fld (ea A_a (i_8.toNat * 2)) Z Z fl157_0 Z Z (GO.ldRd (T := T_GFace) (n := i_8.toNat) (o := 0) HS r_a Z Z (getD_eq (ltN c16) h18) Z Z na2 Z (pS 2 Z (nL ?_))))))
      rcases iE H with ⟨c19, H⟩ | ⟨c19, H⟩
      ·
       refine nB Z (nT c19) (rN 5 Z (rG (pS 2 Z (GO.ix Z Z Z underlying150 sz157 (r_a _ HS).2.2.1 c16.1 c16.2 Z (GO.fld (ea A_a (i_8.toNat * 2 + 1)) Z Z fl157_1 (ea_add _ _ _) Z (GO.ldRd (T := T_GFace) (n := i_8.toNat) (o := 1) HS r_a Z Z (getD_eq (ltN c16) h18) Z Z na2 Z (pS 2 Z (nL ?_))))))))
       rcases iE H with ⟨c20, H⟩ | ⟨c20, H⟩
       ·
        refine nB Z (nT c20) (rN 5 Z (G.weak ?_ (e1 b1 (Nat.lt_succ_of_le (lR _)) (Nat.le_of_succ_le d1) _ _ _ H HS)))
        exact ⟨Z, Z, Z, tv⟩
       refine yB Z (nF c20) (rN 2 Z ?_)
       obtain rfl := sI H
       exact rT _ func116 Z Z ⟨Z, HS⟩
      refine yB Z (nF c19) (rN 2 Z ?_)
      obtain rfl := sI H
      exact rT _ func116 Z Z ⟨Z, HS⟩
     refine nB Z (tF c15) (rN 3 Z ?_)
     obtain rfl := sI H
     exact rT _ func116 Z Z ⟨Z, HS⟩
  refine G.weak ?_ (g1 K (lR _) _ _ _ H HS)
  exact ⟨Z, Z, Z, tv⟩
theorem laws_heldFaceSS.calls {a_ : List (List GFace)} {k_ : Int} {A_a : Option Addr} {c_a : Nat} {y_a : Nat → (Ty.slice 157 T_GFace).Lay} {r1 : Int} (HS : St w0 w (L)) (r_a : RdIn w0 L (Ty.slice 157 T_GFace) A_a c_a y_a a_) (H : laws_heldFaceSS.f K a_ k_ = some r1) :
    Calls prog 75 #[.slice A_a a_.length c_a, I k_] w (laws_heldFaceSS.post w0 L r1) := by
  unfold laws_heldFaceSS.f at H
  refine cG func75 Z ?_
  refine rN 7 Z ?_
  refine G.name (fun f1 c1 => ?_)
  have g1 : ∀ a1, a1 ≤ K → ∀ (k_8 i_9 : Int) (w : World), laws_heldFaceSS.l1 K a1 a_ k_8 i_9 = some r1 → St w0 w (L) → G prog 75 21 [(0, .slice A_a a_.length c_a), (1, I k_8), (5, I i_9)] f1 w (laws_heldFaceSS.post w0 L r1) := by
   intro a1
   induction a1 using Nat.strongRecOn with
   | _ a1 e1 =>
    intro d1 k_8 i_9 w H HS
    cases a1 with
    | zero => rw [laws_heldFaceSS.l1] at H; cases H
    | succ b1 =>
     rw [laws_heldFaceSS.l1] at H
     subst c1
     refine rN 2 Z (rG (pS 2 Z (lS Z Z underlying53 Z (GO.lss Z Z Z Z (nL ?_)))))
     rcases iE H with ⟨c17, H⟩ | ⟨c17, H⟩
     ·
      refine yB Z (tT c17) (rN 4 Z ?_)
      obtain ⟨c18, H⟩ := iN H
      obtain ⟨t19, h20, H⟩ := bI H
      refine rG (pS 2 Z (GO.ix Z Z Z underlying53 sz150 (r_a _ HS).2.2.1 c18.1 c18.2 Z (GO.ldRd (T := (Ty.slice 157 T_GFace)) (n := i_9.toNat) (o := 0) HS r_a Z Z (getD_some (d := []) (ltN c18)) Z Z na150 Z (mV Z (fN Z func116 fok116.1 fok116.2 Z Z (laws_heldFaceS.calls HS (RdIn.elem r_a c18.1 c18.2) h20) (fun _ wd21 ⟨h22, HS⟩ => ⟨_, h22, (aS Z (nL (rN 2 Z ?_)))⟩))))))
      rcases iE H with ⟨c23, H⟩ | ⟨c23, H⟩
      ·
       refine yB Z (tT c23) (rN 2 Z ?_)
       obtain rfl := sI H
       exact rT _ func75 Z Z ⟨Z, HS⟩
      refine nB Z (tF c23) (rN 4 Z (G.weak ?_ (e1 b1 (Nat.lt_succ_of_le (lR _)) (Nat.le_of_succ_le d1) _ _ _ H HS)))
      exact ⟨Z, Z, Z, tv⟩
     refine nB Z (tF c17) (rN 3 Z ?_)
     obtain rfl := sI H
     exact rT _ func75 Z Z ⟨Z, HS⟩
  refine G.weak ?_ (g1 K (lR _) _ _ _ H HS)
  exact ⟨Z, Z, Z, tv⟩
theorem laws_heldCrossingS.calls {a_ : List GCrossing} {k_ : Int} {A_a : Option Addr} {c_a : Nat} {r1 : Int} (HS : St w0 w (L)) (r_a : RdIn w0 L T_GCrossing A_a c_a (fun _ => ()) a_) (H : laws_heldCrossingS.f K a_ k_ = some r1) :
    Calls prog 76 #[.slice A_a a_.length c_a, I k_] w (laws_heldCrossingS.post w0 L r1) := by
  unfold laws_heldCrossingS.f at H
  refine cG func76 Z ?_
  refine rN 7 Z ?_
  refine G.name (fun h1 e1 => ?_)
  have i1 : ∀ b1, b1 ≤ K → ∀ (c1 a1 : Int) (w : World), laws_heldCrossingS.l1 K b1 a_ c1 a1 = some r1 → St w0 w (L) → G prog 76 58 [(0, .slice A_a a_.length c_a), (1, I c1), (5, I a1)] h1 w (laws_heldCrossingS.post w0 L r1) := by
   intro b1
   induction b1 using Nat.strongRecOn with
   | _ b1 g1 =>
    intro f1 c1 a1 w H HS
    cases b1 with
    | zero => rw [laws_heldCrossingS.l1] at H; cases H
    | succ d1 =>
     rw [laws_heldCrossingS.l1] at H
     subst e1
     refine rN 2 Z (rG (pS 2 Z (lS Z Z underlying56 Z (GO.lss Z Z Z Z (nL ?_)))))
     rcases iE H with ⟨c21, H⟩ | ⟨c21, H⟩
     ·
      refine yB Z (tT c21) (rN 5 Z ?_)
      obtain ⟨c22, H⟩ := iN H
      obtain ⟨e23, h24, H⟩ := bnd_elim H
      refine rG (pS 2 Z (GO.ix Z Z Z underlying56 sz152 (r_a _ HS).2.2.1 c22.1 c22.2 Z (GO.fld (ea A_a (a1.toNat * 5)) Z Z fl152_0 Z Z (GO.ldRd (T := T_GCrossing) (n := a1.toNat) (o := 0) HS r_a Z Z (getD_eq (ltN c22) h24) Z Z na2 Z (pS 2 Z (nL ?_))))))
      rcases iE H with ⟨c25, H⟩ | ⟨c25, H⟩
      ·
       refine nB Z (nT c25) (rN 5 Z (rG (pS 2 Z (GO.ix Z Z Z underlying56 sz152 (r_a _ HS).2.2.1 c22.1 c22.2 Z (GO.fld (ea A_a (a1.toNat * 5 + 1)) Z Z fl152_1 (ea_add _ _ _) Z (GO.ldRd (T := T_GCrossing) (n := a1.toNat) (o := 1) HS r_a Z Z (getD_eq (ltN c22) h24) Z Z na2 Z (pS 2 Z (nL ?_))))))))
       rcases iE H with ⟨c26, H⟩ | ⟨c26, H⟩
       ·
        refine nB Z (nT c26) (rN 5 Z (rG (pS 2 Z (GO.ix Z Z Z underlying56 sz152 (r_a _ HS).2.2.1 c22.1 c22.2 Z (GO.fld (ea A_a (a1.toNat * 5 + 2)) Z Z fl152_2 (ea_add _ _ _) Z (GO.ldRd (T := T_GCrossing) (n := a1.toNat) (o := 2) HS r_a Z Z (getD_eq (ltN c22) h24) Z Z na2 Z (pS 2 Z (nL ?_))))))))
        rcases iE H with ⟨c27, H⟩ | ⟨c27, H⟩
        ·
         refine nB Z (nT c27) (rN 5 Z (rG (pS 2 Z (GO.ix Z Z Z underlying56 sz152 (r_a _ HS).2.2.1 c22.1 c22.2 Z (GO.fld (ea A_a (a1.toNat * 5 + 3)) Z Z fl152_3 (ea_add _ _ _) Z (GO.ldRd (T := T_GCrossing) (n := a1.toNat) (o := 3) HS r_a Z Z (getD_eq (ltN c22) h24) Z Z na2 Z (pS 2 Z (nL ?_))))))))
         rcases iE H with ⟨c28, H⟩ | ⟨c28, H⟩
         ·
          refine nB Z (nT c28) (rN 5 Z (rG (pS 2 Z (GO.ix Z Z Z underlying56 sz152 (r_a _ HS).2.2.1 c22.1 c22.2 Z (GO.fld (ea A_a (a1.toNat * 5 + 4)) Z Z fl152_4 (ea_add _ _ _) Z (GO.ldRd (T := T_GCrossing) (n := a1.toNat) (o := 4) HS r_a Z Z (getD_eq (ltN c22) h24) Z Z na2 Z (pS 2 Z (nL ?_))))))))
          rcases iE H with ⟨c29, H⟩ | ⟨c29, H⟩
          ·
           refine nB Z (nT c29) (rN 5 Z (G.weak ?_ (g1 d1 (Nat.lt_succ_of_le (lR _)) (Nat.le_of_succ_le f1) _ _ _ H HS)))
           exact ⟨Z, Z, Z, tv⟩
          refine yB Z (nF c29) (rN 2 Z ?_)
          obtain rfl := sI H
          exact rT _ func76 Z Z ⟨Z, HS⟩
         refine yB Z (nF c28) (rN 2 Z ?_)
         obtain rfl := sI H
         exact rT _ func76 Z Z ⟨Z, HS⟩
        refine yB Z (nF c27) (rN 2 Z ?_)
        obtain rfl := sI H
        exact rT _ func76 Z Z ⟨Z, HS⟩
       refine yB Z (nF c26) (rN 2 Z ?_)
       obtain rfl := sI H
       exact rT _ func76 Z Z ⟨Z, HS⟩
      refine yB Z (nF c25) (rN 2 Z ?_)
      obtain rfl := sI H
      exact rT _ func76 Z Z ⟨Z, HS⟩
     refine nB Z (tF c21) (rN 3 Z ?_)
     obtain rfl := sI H
     exact rT _ func76 Z Z ⟨Z, HS⟩
  refine G.weak ?_ (i1 K (lR _) _ _ _ H HS)
  exact ⟨Z, Z, Z, tv⟩
theorem laws_heldInt64S.calls {a_ : List Int} {k_ : Int} {A_a : Option Addr} {c_a : Nat} {r1 : Int} (HS : St w0 w (L)) (r_a : RdIn w0 L (TInt .i64) A_a c_a (fun _ => ()) a_) (H : laws_heldInt64S.f K a_ k_ = some r1) :
    Calls prog 77 #[.slice A_a a_.length c_a, I k_] w (laws_heldInt64S.post w0 L r1) := by
  unfold laws_heldInt64S.f at H
  refine cG func77 Z ?_
  refine rN 7 Z ?_
  refine G.name (fun f1 c1 => ?_)
  have g1 : ∀ a1, a1 ≤ K → ∀ (k_4 i_5 : Int) (w : World), laws_heldInt64S.l1 K a1 a_ k_4 i_5 = some r1 → St w0 w (L) → G prog 77 21 [(0, .slice A_a a_.length c_a), (1, I k_4), (5, I i_5)] f1 w (laws_heldInt64S.post w0 L r1) := by
   intro a1
   induction a1 using Nat.strongRecOn with
   | _ a1 e1 =>
    intro d1 k_4 i_5 w H HS
    cases a1 with
    | zero => rw [laws_heldInt64S.l1] at H; cases H
    | succ b1 =>
     rw [laws_heldInt64S.l1] at H
     subst c1
     refine rN 2 Z (rG (pS 2 Z (lS Z Z underlying43 Z (GO.lss Z Z Z Z (nL ?_)))))
     rcases iE H with ⟨c9, H⟩ | ⟨c9, H⟩
     ·
      refine yB Z (tT c9) (rN 5 Z ?_)
      obtain ⟨c10, H⟩ := iN H
      refine rG (pS 2 Z (GO.ix Z Z Z underlying43 sz2 (r_a _ HS).2.2.1 c10.1 c10.2 Z (GO.ldRd (T := (TInt .i64)) (n := i_5.toNat) (o := 0) HS r_a Z Z (getD_some (d := 0) (ltN c10)) Z Z na2 Z (pS 2 Z (nL ?_)))))
      rcases iE H with ⟨c11, H⟩ | ⟨c11, H⟩
      ·
       refine nB Z (nT c11) (rN 5 Z (G.weak ?_ (e1 b1 (Nat.lt_succ_of_le (lR _)) (Nat.le_of_succ_le d1) _ _ _ H HS)))
       exact ⟨Z, Z, Z, tv⟩
      refine yB Z (nF c11) (rN 2 Z ?_)
      obtain rfl := sI H
      exact rT _ func77 Z Z ⟨Z, HS⟩
     refine nB Z (tF c9) (rN 3 Z ?_)
     obtain rfl := sI H
     exact rT _ func77 Z Z ⟨Z, HS⟩
  refine G.weak ?_ (g1 K (lR _) _ _ _ H HS)
  exact ⟨Z, Z, Z, tv⟩
theorem laws_heldMoveS.calls {a_ : List GMove} {k_ : Int} {A_a : Option Addr} {c_a : Nat} {r1 : Int} (HS : St w0 w (L)) (r_a : RdIn w0 L T_GMove A_a c_a (fun _ => ()) a_) (H : laws_heldMoveS.f K a_ k_ = some r1) :
    Calls prog 78 #[.slice A_a a_.length c_a, I k_] w (laws_heldMoveS.post w0 L r1) := by
  unfold laws_heldMoveS.f at H
  refine cG func78 Z ?_
  refine rN 7 Z ?_
  refine G.name (fun f1 c1 => ?_)
  have g1 : ∀ a1, a1 ≤ K → ∀ (k_8 i_9 : Int) (w : World), laws_heldMoveS.l1 K a1 a_ k_8 i_9 = some r1 → St w0 w (L) → G prog 78 40 [(0, .slice A_a a_.length c_a), (1, I k_8), (5, I i_9)] f1 w (laws_heldMoveS.post w0 L r1) := by
   intro a1
   induction a1 using Nat.strongRecOn with
   | _ a1 e1 =>
    intro d1 k_8 i_9 w H HS
    cases a1 with
    | zero => rw [laws_heldMoveS.l1] at H; cases H
    | succ b1 =>
     rw [laws_heldMoveS.l1] at H
     subst c1
     refine rN 2 Z (rG (pS 2 Z (lS Z Z underlying60 Z (GO.lss Z Z Z Z (nL ?_)))))
     rcases iE H with ⟨c17, H⟩ | ⟨c17, H⟩
     ·
      refine yB Z (tT c17) (rN 5 Z ?_)
      obtain ⟨c18, H⟩ := iN H
      obtain ⟨e19, h20, H⟩ := bnd_elim H
      refine rG (pS 2 Z (GO.ix Z Z Z underlying60 sz140 (r_a _ HS).2.2.1 c18.1 c18.2 Z (GO.fld (ea A_a (i_9.toNat * 3)) Z Z fl140_0 Z Z (GO.ldRd (T := T_GMove) (n := i_9.toNat) (o := 0) HS r_a Z Z (getD_eq (ltN c18) h20) Z Z na2 Z (pS 2 Z (nL ?_))))))
      rcases iE H with ⟨c21, H⟩ | ⟨c21, H⟩
      ·
       refine nB Z (nT c21) (rN 5 Z (rG (pS 2 Z (GO.ix Z Z Z underlying60 sz140 (r_a _ HS).2.2.1 c18.1 c18.2 Z (GO.fld (ea A_a (i_9.toNat * 3 + 1)) Z Z fl140_1 (ea_add _ _ _) Z (GO.ldRd (T := T_GMove) (n := i_9.toNat) (o := 1) HS r_a Z Z (getD_eq (ltN c18) h20) Z Z na2 Z (pS 2 Z (nL ?_))))))))
       rcases iE H with ⟨c22, H⟩ | ⟨c22, H⟩
       ·
        refine nB Z (nT c22) (rN 5 Z (rG (pS 2 Z (GO.ix Z Z Z underlying60 sz140 (r_a _ HS).2.2.1 c18.1 c18.2 Z (GO.fld (ea A_a (i_9.toNat * 3 + 2)) Z Z fl140_2 (ea_add _ _ _) Z (GO.ldRd (T := T_GMove) (n := i_9.toNat) (o := 2) HS r_a Z Z (getD_eq (ltN c18) h20) Z Z na2 Z (pS 2 Z (nL ?_))))))))
        rcases iE H with ⟨c23, H⟩ | ⟨c23, H⟩
        ·
         refine nB Z (nT c23) (rN 5 Z (G.weak ?_ (e1 b1 (Nat.lt_succ_of_le (lR _)) (Nat.le_of_succ_le d1) _ _ _ H HS)))
         exact ⟨Z, Z, Z, tv⟩
        refine yB Z (nF c23) (rN 2 Z ?_)
        obtain rfl := sI H
        exact rT _ func78 Z Z ⟨Z, HS⟩
       refine yB Z (nF c22) (rN 2 Z ?_)
       obtain rfl := sI H
       exact rT _ func78 Z Z ⟨Z, HS⟩
      refine yB Z (nF c21) (rN 2 Z ?_)
      obtain rfl := sI H
      exact rT _ func78 Z Z ⟨Z, HS⟩
     refine nB Z (tF c17) (rN 3 Z ?_)
     obtain rfl := sI H
     exact rT _ func78 Z Z ⟨Z, HS⟩
  refine G.weak ?_ (g1 K (lR _) _ _ _ H HS)
  exact ⟨Z, Z, Z, tv⟩
theorem laws_heldItemS.calls {t : List GItem} {o : Int} {A_a : Option Addr} {c_a : Nat} {y_a : Nat → T_GItem_63.Lay} {r1 : Int} (HS : St w0 w (L)) (r_a : RdIn w0 L T_GItem_63 A_a c_a y_a t) (H : laws_heldItemS.f K t o = some r1) :
    Calls prog 36 #[.slice A_a t.length c_a, I o] w (laws_heldItemS.post w0 L r1) := by
  unfold laws_heldItemS.f at H
  refine cG func36 Z ?_
  refine rN 7 Z ?_
  refine G.name (fun h1 e1 => ?_)
  have i1 : ∀ b1, b1 ≤ K → ∀ (c1 a1 : Int) (w : World), laws_heldItemS.l1 K b1 t c1 a1 = some r1 → St w0 w (L) → G prog 36 132 [(0, .slice A_a t.length c_a), (1, I c1), (5, I a1)] h1 w (laws_heldItemS.post w0 L r1) := by
   intro b1
   induction b1 using Nat.strongRecOn with
   | _ b1 g1 =>
    intro f1 c1 a1 w H HS
    cases b1 with
    | zero => rw [laws_heldItemS.l1] at H; cases H
    | succ d1 =>
     rw [laws_heldItemS.l1] at H
     subst e1
     refine rN 2 Z (rG (pS 2 Z (lS Z Z underlying27 Z (GO.lss Z Z Z Z (nL ?_)))))
     rcases iE H with ⟨c91, H⟩ | ⟨c91, H⟩
     ·
      refine yB Z (tT c91) (rN 5 Z ?_)
      obtain ⟨c92, H⟩ := iN H
      obtain ⟨e93, h94, H⟩ := bnd_elim H
      obtain ⟨t95, h96, H⟩ := bI H
      refine G.lexS mixed (fun w => St w0 w (L)) [4] [0, 1, 2, 3, 5, 4, 6, 7] [] (by kernel_rfl) (by kernel_rfl) HS.drew ?_
      replace HS := HS.drew
      refine GX.ps 2 Z (qL Z Z (fun _ _ g => GO.ix Z Z Z underlying27 sz64 (r_a _ HS).2.2.1 c92.1 c92.2 Z g) Z (qL Z Z (fun _ _ g => GO.fld (ea A_a (a1.toNat * 12)) Z Z fl64_0 Z Z g) Z (GX.ps 1 Z (GX.ls Z Z Z HS (fun _ HS _ g => GO.ldRd (T := T_GItem_63) (n := a1.toNat) (o := 0) HS r_a Z Z (getD_eq (ltN c92) h94) Z Z na9 Z g) Z (GX.l2 Z (fN Z func70 fok70.1 fok70.2 Z Z (laws_markText.calls HS  h96) (fun _ wd97 ⟨h98, HS⟩ => ⟨_, h98, (GX.fin HS (qL Z Z (fun _ _ g => GO.neqS Z Z Z Z g) Z (GX.nil ?_)))⟩)))))))
      rcases iE H with ⟨c99, H⟩ | ⟨c99, H⟩
      ·
       refine nB Z (congrArg Bool.not c99) (rN 5 Z (rG (pS 2 Z (GO.ix Z Z Z underlying27 sz64 (r_a _ HS).2.2.1 c92.1 c92.2 Z (GO.fld (ea A_a (a1.toNat * 12 + 1)) Z Z fl64_1 (ea_add _ _ _) Z (GO.ldRd (T := T_GItem_63) (n := a1.toNat) (o := 1) HS r_a Z Z (getD_eq (ltN c92) h94) Z Z na2 Z (pS 2 Z (nL ?_))))))))
       rcases iE H with ⟨c100, H⟩ | ⟨c100, H⟩
       ·
        refine nB Z (nT c100) (rN 4 Z ?_)
        obtain ⟨t101, h102, H⟩ := bI H
        refine rG (pS 2 Z (GO.ix Z Z Z underlying27 sz64 (r_a _ HS).2.2.1 c92.1 c92.2 Z (GO.fld (ea A_a (a1.toNat * 12 + 2)) Z Z fl64_2 (ea_add _ _ _) Z (GO.fld (ea A_a (a1.toNat * 12 + 2)) Z Z fl55_0 Z Z (GO.ldRd (T := T_GItem_63) (n := a1.toNat) (o := 2) HS r_a Z Z (getD_eq (ltN c92) h94) Z Z na53 Z (mV Z (fN Z func75 fok75.1 fok75.2 Z Z (laws_heldFaceSS.calls HS (RdIn.fld r_a (getD_eq (ltN c92) h94) (fun _ h => h.2.2.1)) h102) (fun _ wd103 ⟨h104, HS⟩ => ⟨_, h104, (aS Z (nL (rN 3 Z ?_)))⟩))))))))
        rcases iE H with ⟨c105, H⟩ | ⟨c105, H⟩
        ·
         refine yB Z (tT c105) (rN 2 Z ?_)
         obtain rfl := sI H
         exact rT _ func36 Z Z ⟨Z, HS⟩
        refine nB Z (tF c105) (rN 2 Z ?_)
        obtain ⟨t106, h107, H⟩ := bI H
        refine rG (pS 2 Z (GO.ix Z Z Z underlying27 sz64 (r_a _ HS).2.2.1 c92.1 c92.2 Z (GO.fld (ea A_a (a1.toNat * 12 + 3)) Z Z fl64_3 (ea_add _ _ _) Z (GO.fld (ea A_a (a1.toNat * 12 + 3)) Z Z fl58_0 Z Z (GO.ldRd (T := T_GItem_63) (n := a1.toNat) (o := 3) HS r_a Z Z (getD_eq (ltN c92) h94) Z Z na56 Z (mV Z (fN Z func76 fok76.1 fok76.2 Z Z (laws_heldCrossingS.calls HS (RdIn.fld r_a (getD_eq (ltN c92) h94) (fun _ h => h.2.2.2.1)) h107) (fun _ wd108 ⟨h109, HS⟩ => ⟨_, h109, (aS Z (nL (rN 3 Z ?_)))⟩))))))))
        rcases iE H with ⟨c110, H⟩ | ⟨c110, H⟩
        ·
         refine yB Z (tT c110) (rN 2 Z ?_)
         obtain rfl := sI H
         exact rT _ func36 Z Z ⟨Z, HS⟩
        refine nB Z (tF c110) (rN 3 Z (rG (pS 2 Z (GO.ix Z Z Z underlying27 sz64 (r_a _ HS).2.2.1 c92.1 c92.2 Z (GO.fld (ea A_a (a1.toNat * 12 + 3)) Z Z fl64_3 (ea_add _ _ _) Z (GO.fld (ea A_a (a1.toNat * 12 + 4)) Z Z fl58_1 (by rw [ea_add, Nat.add_assoc]) Z (GO.ldRd (T := T_GItem_63) (n := a1.toNat) (o := 4) HS r_a Z Z (getD_eq (ltN c92) h94) Z Z na2 Z (pS 2 Z (nL ?_)))))))))
        rcases iE H with ⟨c111, H⟩ | ⟨c111, H⟩
        ·
         refine nB Z (nT c111) (rN 5 Z (rG (pS 2 Z (GO.ix Z Z Z underlying27 sz64 (r_a _ HS).2.2.1 c92.1 c92.2 Z (GO.fld (ea A_a (a1.toNat * 12 + 5)) Z Z fl64_4 (ea_add _ _ _) Z (GO.fld (ea A_a (a1.toNat * 12 + 5)) Z Z fl59_0 Z Z (GO.ldRd (T := T_GItem_63) (n := a1.toNat) (o := 5) HS r_a Z Z (getD_eq (ltN c92) h94) Z Z na2 Z (pS 2 Z (nL ?_)))))))))
         rcases iE H with ⟨c112, H⟩ | ⟨c112, H⟩
         ·
          refine nB Z (nT c112) (rN 4 Z ?_)
          obtain ⟨t113, h114, H⟩ := bI H
          refine rG (pS 2 Z (GO.ix Z Z Z underlying27 sz64 (r_a _ HS).2.2.1 c92.1 c92.2 Z (GO.fld (ea A_a (a1.toNat * 12 + 5)) Z Z fl64_4 (ea_add _ _ _) Z (GO.fld (ea A_a (a1.toNat * 12 + 6)) Z Z fl59_1 (by rw [ea_add, Nat.add_assoc]) Z (GO.ldRd (T := T_GItem_63) (n := a1.toNat) (o := 6) HS r_a Z Z (getD_eq (ltN c92) h94) Z Z na43 Z (mV Z (fN Z func77 fok77.1 fok77.2 Z Z (laws_heldInt64S.calls HS (RdIn.fld r_a (getD_eq (ltN c92) h94) (fun _ h => h.2.2.2.2.2.2.1)) h114) (fun _ wd115 ⟨h116, HS⟩ => ⟨_, h116, (aS Z (nL (rN 3 Z ?_)))⟩))))))))
          rcases iE H with ⟨c117, H⟩ | ⟨c117, H⟩
          ·
           refine yB Z (tT c117) (rN 2 Z ?_)
           obtain rfl := sI H
           exact rT _ func36 Z Z ⟨Z, HS⟩
          refine nB Z (tF c117) (rN 3 Z (rG (pS 2 Z (GO.ix Z Z Z underlying27 sz64 (r_a _ HS).2.2.1 c92.1 c92.2 Z (GO.fld (ea A_a (a1.toNat * 12 + 7)) Z Z fl64_5 (ea_add _ _ _) Z (GO.fld (ea A_a (a1.toNat * 12 + 7)) Z Z fl62_0 Z Z (GO.ldRd (T := T_GItem_63) (n := a1.toNat) (o := 7) HS r_a Z Z (getD_eq (ltN c92) h94) Z Z na2 Z (pS 2 Z (nL ?_)))))))))
          rcases iE H with ⟨c118, H⟩ | ⟨c118, H⟩
          ·
           refine nB Z (nT c118) (rN 5 Z (rG (pS 2 Z (GO.ix Z Z Z underlying27 sz64 (r_a _ HS).2.2.1 c92.1 c92.2 Z (GO.fld (ea A_a (a1.toNat * 12 + 7)) Z Z fl64_5 (ea_add _ _ _) Z (GO.fld (ea A_a (a1.toNat * 12 + 8)) Z Z fl62_1 (by rw [ea_add, Nat.add_assoc]) Z (GO.ldRd (T := T_GItem_63) (n := a1.toNat) (o := 8) HS r_a Z Z (getD_eq (ltN c92) h94) Z Z na2 Z (pS 2 Z (nL ?_)))))))))
           rcases iE H with ⟨c119, H⟩ | ⟨c119, H⟩
           ·
            refine nB Z (nT c119) (rN 4 Z ?_)
            obtain ⟨t120, h121, H⟩ := bI H
            refine rG (pS 2 Z (GO.ix Z Z Z underlying27 sz64 (r_a _ HS).2.2.1 c92.1 c92.2 Z (GO.fld (ea A_a (a1.toNat * 12 + 7)) Z Z fl64_5 (ea_add _ _ _) Z (GO.fld (ea A_a (a1.toNat * 12 + 9)) Z Z fl62_2 (by rw [ea_add, Nat.add_assoc]) Z (GO.ldRd (T := T_GItem_63) (n := a1.toNat) (o := 9) HS r_a Z Z (getD_eq (ltN c92) h94) Z Z na60 Z (mV Z (fN Z func78 fok78.1 fok78.2 Z Z (laws_heldMoveS.calls HS (RdIn.fld r_a (getD_eq (ltN c92) h94) (fun _ h => h.2.2.2.2.2.2.2.2.2.1)) h121) (fun _ wd122 ⟨h123, HS⟩ => ⟨_, h123, (aS Z (nL (rN 3 Z ?_)))⟩))))))))
            rcases iE H with ⟨c124, H⟩ | ⟨c124, H⟩
            ·
             refine yB Z (tT c124) (rN 2 Z ?_)
             obtain rfl := sI H
             exact rT _ func36 Z Z ⟨Z, HS⟩
            refine nB Z (tF c124) (rN 2 Z ?_)
            obtain ⟨t125, h126, H⟩ := bI H
            refine rG (pS 2 Z (GO.ix Z Z Z underlying27 sz64 (r_a _ HS).2.2.1 c92.1 c92.2 Z (GO.fld (ea A_a (a1.toNat * 12 + 7)) Z Z fl64_5 (ea_add _ _ _) Z (GO.fld (ea A_a (a1.toNat * 12 + 10)) Z Z fl62_3 (by rw [ea_add, Nat.add_assoc]) Z (GO.ldRd (T := T_GItem_63) (n := a1.toNat) (o := 10) HS r_a Z Z (getD_eq (ltN c92) h94) Z Z na43 Z (mV Z (fN Z func77 fok77.1 fok77.2 Z Z (laws_heldInt64S.calls HS (RdIn.fld r_a (getD_eq (ltN c92) h94) (fun _ h => h.2.2.2.2.2.2.2.2.2.2.1)) h126) (fun _ wd127 ⟨h128, HS⟩ => ⟨_, h128, (aS Z (nL (rN 3 Z ?_)))⟩))))))))
            rcases iE H with ⟨c129, H⟩ | ⟨c129, H⟩
            ·
             refine yB Z (tT c129) (rN 2 Z ?_)
             obtain rfl := sI H
             exact rT _ func36 Z Z ⟨Z, HS⟩
            refine nB Z (tF c129) (rN 2 Z ?_)
            obtain ⟨t130, h131, H⟩ := bI H
            refine rG (pS 2 Z (GO.ix Z Z Z underlying27 sz64 (r_a _ HS).2.2.1 c92.1 c92.2 Z (GO.fld (ea A_a (a1.toNat * 12 + 7)) Z Z fl64_5 (ea_add _ _ _) Z (GO.fld (ea A_a (a1.toNat * 12 + 11)) Z Z fl62_4 (by rw [ea_add, Nat.add_assoc]) Z (GO.ldRd (T := T_GItem_63) (n := a1.toNat) (o := 11) HS r_a Z Z (getD_eq (ltN c92) h94) Z Z na43 Z (mV Z (fN Z func77 fok77.1 fok77.2 Z Z (laws_heldInt64S.calls HS (RdIn.fld r_a (getD_eq (ltN c92) h94) (fun _ h => h.2.2.2.2.2.2.2.2.2.2.2)) h131) (fun _ wd132 ⟨h133, HS⟩ => ⟨_, h133, (aS Z (nL (rN 2 Z ?_)))⟩))))))))
            rcases iE H with ⟨c134, H⟩ | ⟨c134, H⟩
            ·
             refine yB Z (tT c134) (rN 2 Z ?_)
             obtain rfl := sI H
             exact rT _ func36 Z Z ⟨Z, HS⟩
            refine nB Z (tF c134) (rN 4 Z (G.weak ?_ (g1 d1 (Nat.lt_succ_of_le (lR _)) (Nat.le_of_succ_le f1) _ _ _ H HS)))
            exact ⟨Z, Z, Z, tv⟩
           refine yB Z (nF c119) (rN 2 Z ?_)
           obtain rfl := sI H
           exact rT _ func36 Z Z ⟨Z, HS⟩
          refine yB Z (nF c118) (rN 2 Z ?_)
          obtain rfl := sI H
          exact rT _ func36 Z Z ⟨Z, HS⟩
         refine yB Z (nF c112) (rN 2 Z ?_)
         obtain rfl := sI H
         exact rT _ func36 Z Z ⟨Z, HS⟩
        refine yB Z (nF c111) (rN 2 Z ?_)
        obtain rfl := sI H
        exact rT _ func36 Z Z ⟨Z, HS⟩
       refine yB Z (nF c100) (rN 2 Z ?_)
       obtain rfl := sI H
       exact rT _ func36 Z Z ⟨Z, HS⟩
      refine yB Z (congrArg Bool.not (bnot_of c99)) (rN 2 Z ?_)
      obtain rfl := sI H
      exact rT _ func36 Z Z ⟨Z, HS⟩
     refine nB Z (tF c91) (rN 3 Z ?_)
     obtain rfl := sI H
     exact rT _ func36 Z Z ⟨Z, HS⟩
  refine G.weak ?_ (i1 K (lR _) _ _ _ H HS)
  exact ⟨Z, Z, Z, tv⟩
theorem laws_heldItemSS.calls {a_ : List (List GItem)} {k_ : Int} {A_a : Option Addr} {c_a : Nat} {y_a : Nat → (Ty.slice 64 T_GItem_63).Lay} {r1 : Int} (HS : St w0 w (L)) (r_a : RdIn w0 L (Ty.slice 64 T_GItem_63) A_a c_a y_a a_) (H : laws_heldItemSS.f K a_ k_ = some r1) :
    Calls prog 37 #[.slice A_a a_.length c_a, I k_] w (laws_heldItemSS.post w0 L r1) := by
  unfold laws_heldItemSS.f at H
  refine cG func37 Z ?_
  refine rN 7 Z ?_
  refine G.name (fun f1 c1 => ?_)
  have g1 : ∀ a1, a1 ≤ K → ∀ (k_8 i_9 : Int) (w : World), laws_heldItemSS.l1 K a1 a_ k_8 i_9 = some r1 → St w0 w (L) → G prog 37 21 [(0, .slice A_a a_.length c_a), (1, I k_8), (5, I i_9)] f1 w (laws_heldItemSS.post w0 L r1) := by
   intro a1
   induction a1 using Nat.strongRecOn with
   | _ a1 e1 =>
    intro d1 k_8 i_9 w H HS
    cases a1 with
    | zero => rw [laws_heldItemSS.l1] at H; cases H
    | succ b1 =>
     rw [laws_heldItemSS.l1] at H
     subst c1
     refine rN 2 Z (rG (pS 2 Z (lS Z Z underlying28 Z (GO.lss Z Z Z Z (nL ?_)))))
     rcases iE H with ⟨c17, H⟩ | ⟨c17, H⟩
     ·
      refine yB Z (tT c17) (rN 4 Z ?_)
      obtain ⟨c18, H⟩ := iN H
      obtain ⟨t19, h20, H⟩ := bI H
      refine rG (pS 2 Z (GO.ix Z Z Z underlying28 sz27 (r_a _ HS).2.2.1 c18.1 c18.2 Z (GO.ldRd (T := (Ty.slice 64 T_GItem_63)) (n := i_9.toNat) (o := 0) HS r_a Z Z (getD_some (d := []) (ltN c18)) Z Z na27 Z (mV Z (fN Z func36 fok36.1 fok36.2 Z Z (laws_heldItemS.calls HS (RdIn.elem r_a c18.1 c18.2) h20) (fun _ wd21 ⟨h22, HS⟩ => ⟨_, h22, (aS Z (nL (rN 2 Z ?_)))⟩))))))
      rcases iE H with ⟨c23, H⟩ | ⟨c23, H⟩
      ·
       refine yB Z (tT c23) (rN 2 Z ?_)
       obtain rfl := sI H
       exact rT _ func37 Z Z ⟨Z, HS⟩
      refine nB Z (tF c23) (rN 4 Z (G.weak ?_ (e1 b1 (Nat.lt_succ_of_le (lR _)) (Nat.le_of_succ_le d1) _ _ _ H HS)))
      exact ⟨Z, Z, Z, tv⟩
     refine nB Z (tF c17) (rN 3 Z ?_)
     obtain rfl := sI H
     exact rT _ func37 Z Z ⟨Z, HS⟩
  refine G.weak ?_ (g1 K (lR _) _ _ _ H HS)
  exact ⟨Z, Z, Z, tv⟩
theorem laws_heldBench.calls {d1 : List GItem} {c1 a1 : List (List GItem)} {k_ : Int} {A_a : Option Addr} {c_a : Nat} {y_a : Nat → T_GItem_63.Lay} {A_b : Option Addr} {c_b : Nat} {y_b : Nat → (Ty.slice 64 T_GItem_63).Lay} {A_c : Option Addr} {c_c : Nat} {y_c : Nat → (Ty.slice 64 T_GItem_63).Lay} {r1 : Int} (HS : St w0 w (L)) (r_a : RdIn w0 L T_GItem_63 A_a c_a y_a d1) (r_b : RdIn w0 L (Ty.slice 64 T_GItem_63) A_b c_b y_b c1) (r_c : RdIn w0 L (Ty.slice 64 T_GItem_63) A_c c_c y_c a1) (H : laws_heldBench.f K d1 c1 a1 k_ = some r1) :
    Calls prog 11 #[.agg [.slice A_a d1.length c_a, .slice A_b c1.length c_b, .slice A_c a1.length c_c].toArray, I k_] w (laws_heldBench.post w0 L r1) := by
  unfold laws_heldBench.f at H
  refine cG func11 Z ?_
  refine sQ (rG (GO.box (cs := [.slice A_a d1.length c_a, .slice A_b c1.length c_b, .slice A_c a1.length c_c]) HS Z Z Z Z fun b1 wd2 HS => aS Z (nL (sQ ?_))))
  obtain ⟨t3, h4, H⟩ := bI H
  refine rG (fL b1 0 fl30_0 Z (lB 0 HS Z na27 Z (mV Z (fN Z func36 fok36.1 fok36.2 Z Z (laws_heldItemS.calls HS (rD 1 r_a) h4) (fun _ wd5 ⟨h6, HS⟩ => ⟨_, h6, (aS Z (nL (rN 3 Z ?_)))⟩)))))
  rcases iE H with ⟨c7, H⟩ | ⟨c7, H⟩
  ·
   refine yB Z (tT c7) (rN 2 Z ?_)
   obtain rfl := sI H
   exact rT _ func11 Z Z ⟨Z, (HS.pk 1 [] Z)⟩
  refine nB Z (tF c7) (rN 2 Z ?_)
  obtain ⟨t8, h9, H⟩ := bI H
  refine rG (fL b1 1 fl30_1 Z (lB 0 HS Z na28 Z (mV Z (fN Z func37 fok37.1 fok37.2 Z Z (laws_heldItemSS.calls HS (rD 1 r_b) h9) (fun _ wd10 ⟨h11, HS⟩ => ⟨_, h11, (aS Z (nL (rN 3 Z ?_)))⟩)))))
  rcases iE H with ⟨c12, H⟩ | ⟨c12, H⟩
  ·
   refine yB Z (tT c12) (rN 2 Z ?_)
   obtain rfl := sI H
   exact rT _ func11 Z Z ⟨Z, (HS.pk 1 [] Z)⟩
  refine nB Z (tF c12) (rN 2 Z ?_)
  obtain ⟨t13, h14, H⟩ := bI H
  refine rG (fL b1 2 fl30_2 Z (lB 0 HS Z na28 Z (mV Z (fN Z func37 fok37.1 fok37.2 Z Z (laws_heldItemSS.calls HS (rD 1 r_c) h14) (fun _ wd15 ⟨h16, HS⟩ => ⟨_, h16, (aS Z (nL (rN 3 Z ?_)))⟩)))))
  rcases iE H with ⟨c17, H⟩ | ⟨c17, H⟩
  ·
   refine yB Z (tT c17) (rN 2 Z ?_)
   obtain rfl := sI H
   exact rT _ func11 Z Z ⟨Z, (HS.pk 1 [] Z)⟩
  refine nB Z (tF c17) (rN 3 Z ?_)
  obtain rfl := sI H
  exact rT _ func11 Z Z ⟨Z, (HS.pk 1 [] Z)⟩
theorem laws_FnExactDropItem.calls {d1 : List GItem} {a1 c1 : List (List GItem)} {aName : ByteArray} {A_a : Option Addr} {c_a : Nat} {y_a : Nat → T_GItem.Lay} {A_b : Option Addr} {c_b : Nat} {y_b : Nat → (Ty.slice 50 T_GItem).Lay} {A_c : Option Addr} {c_c : Nat} {y_c : Nat → (Ty.slice 50 T_GItem).Lay} {r1 : Bool} (HS : St w0 w (L)) (r_a : RdIn w0 L T_GItem A_a c_a y_a d1) (r_b : RdIn w0 L (Ty.slice 50 T_GItem) A_b c_b y_b a1) (r_c : RdIn w0 L (Ty.slice 50 T_GItem) A_c c_c y_c c1) (H : laws_FnExactDropItem.f K d1 a1 c1 aName = some r1) :
    Calls prog 3 #[.agg [.slice A_a d1.length c_a, .slice A_b a1.length c_b, .slice A_c c1.length c_c].toArray, .string aName] w (laws_FnExactDropItem.post w0 L r1) := by
  unfold laws_FnExactDropItem.f at H
  refine cG func3 Z ?_
  refine sQ (rG (GO.box (cs := [.slice A_a d1.length c_a, .slice A_b a1.length c_b, .slice A_c c1.length c_c]) HS Z Z Z Z fun b1 wd2 HS => aS Z (nL (rN 2 Z (rG (mV Z (GO.lenStr Z Z underlying9 Z (GO.gtr Z Z Z Z (nL ?_)))))))))
  rcases iE H with ⟨c3, H⟩ | ⟨c3, H⟩
  ·
   refine yB Z (tT c3) (rN 2 Z ?_)
   obtain rfl := sI H
   exact rT _ func3 Z Z ⟨Z, (HS.pk 1 [] Z)⟩
  refine nB Z (tF c3) (rN 4 Z ?_)
  obtain ⟨t4, h5, H⟩ := bI H
  refine rG (GO.ldBoxA (j := 0) ([.slice A_a d1.length c_a, .slice A_b a1.length c_b, .slice A_c c1.length c_c]) HS Z Z Z Z ag25 Z (mV Z (fN Z func5 fok5.1 fok5.2 Z Z (laws_szBench.calls HS (rD 1 r_a) (rD 1 r_b) (rD 1 r_c) h5) (fun _ wd6 ⟨h7, HS⟩ => ⟨_, h7, (aS Z (nL (rN 3 Z ?_)))⟩))))
  rcases iE H with ⟨c8, H⟩ | ⟨c8, H⟩
  ·
   refine yB Z (tT c8) (rN 2 Z ?_)
   obtain rfl := sI H
   exact rT _ func3 Z Z ⟨Z, (HS.pk 1 [] Z)⟩
  refine nB Z (tF c8) (rN 2 Z ?_)
  obtain ⟨t9, t10, t11, h12, H⟩ := bind3_elim H
  obtain ⟨t24, t25, t26, t27, h28, H⟩ := bind4_elim H
  refine rG (GO.ldBoxA (j := 0) ([.slice A_a d1.length c_a, .slice A_b a1.length c_b, .slice A_c c1.length c_c]) HS Z Z Z Z ag25 Z (fN Z func7 fok7.1 fok7.2 Z Z (laws_toBench.calls HS (rD 1 r_a) (rD 1 r_b) (rD 1 r_c) h12) (fun _ wd22 ⟨A13, c14, y15, A16, c17, y18, A19, c20, y21, h23, HS⟩ => ⟨_, h23, (mV Z (fN Z func6 fok6.1 fok6.2 Z Z (spec_DropItem.calls HS (RdIn.own (j := 0) Z) (RdIn.own (j := 1) Z) (RdIn.own (j := 2) Z) h28) (fun _ wd38 ⟨A29, c30, y31, A32, c33, y34, A35, c36, y37, h39, HS⟩ => ⟨_, h39, (pS 3 Z (GO.alloc HS Z zr30 Z Z fun b40 wd41 HS => GO.stBox (j := 0) (vs := [.slice A29 t24.length c30, .slice A32 t25.length c33, .slice A35 t26.length c36]) ([.slice A29 t24.length c30, .slice A32 t25.length c33, .slice A35 t26.length c36]) HS Z Z Z Z Z (htA ag30) Z Z Z fun wd42 HS => aS Z (nL (sQ ?_))))⟩)))⟩)))
  obtain ⟨t43, t44, t45, h46, H⟩ := bind3_elim H
  refine rG (GO.ldBoxA (j := 7) ([.slice A_a d1.length c_a, .slice A_b a1.length c_b, .slice A_c c1.length c_c]) HS Z Z Z Z ag25 Z (fN Z func7 fok7.1 fok7.2 Z Z (laws_toBench.calls HS (rD 8 r_a) (rD 8 r_b) (rD 8 r_c) h46) (fun _ wd56 ⟨A47, c48, y49, A50, c51, y52, A53, c54, y55, h57, HS⟩ => ⟨_, h57, (GO.alloc HS Z zr30 Z Z fun b58 wd59 HS => GO.stBox (j := 0) (vs := [.slice A47 t43.length c48, .slice A50 t44.length c51, .slice A53 t45.length c54]) ([.slice A47 t43.length c48, .slice A50 t44.length c51, .slice A53 t45.length c54]) HS Z Z Z Z Z (htA ag30) Z Z Z fun wd60 HS => nL (sQ ?_))⟩)))
  obtain ⟨t61, t62, t63, t64, h65, H⟩ := bind4_elim H
  refine rG (GO.ldBoxA (j := 0) ([.slice A47 t43.length c48, .slice A50 t44.length c51, .slice A53 t45.length c54]) HS Z Z Z Z ag30 Z (mV Z (fN Z func8 fok8.1 fok8.2 Z Z (impl_DropItem.calls HS (RdIn.own (j := 1) Z) (RdIn.own (j := 2) Z) (RdIn.own (j := 3) Z) h65) (fun _ wd75 ⟨A66, c67, y68, A69, c70, y71, A72, c73, y74, h76, HS⟩ => ⟨_, h76, (pS 3 Z (GO.alloc HS Z zr30 Z Z fun b77 wd78 HS => GO.stBox (j := 0) (vs := [.slice A66 t61.length c67, .slice A69 t62.length c70, .slice A72 t63.length c73]) ([.slice A66 t61.length c67, .slice A69 t62.length c70, .slice A72 t63.length c73]) HS Z Z Z Z Z (htA ag30) Z Z Z fun wd79 HS => aS Z (nL (rN 2 Z ?_))))⟩))))
  obtain ⟨t85, h86, H⟩ := bI H
  rcases iE H with ⟨c89, H⟩ | ⟨c89, H⟩
  ·
   refine rG (GO.ldBoxA (j := 0) ([.slice A66 t61.length c67, .slice A69 t62.length c70, .slice A72 t63.length c73]) HS Z Z Z Z ag30 Z (GO.ldBoxA (j := 8) ([.slice A29 t24.length c30, .slice A32 t25.length c33, .slice A35 t26.length c36]) HS Z Z Z Z ag30 Z (fN Z func9 fok9.1 fok9.2 Z Z (laws_eqBench.calls HS (RdIn.own (j := 1) Z) (RdIn.own (j := 2) Z) (RdIn.own (j := 3) Z) (RdIn.own (j := 9) Z) (RdIn.own (j := 10) Z) (RdIn.own (j := 11) Z) h86) (fun _ wd87 ⟨h88, HS⟩ => ⟨_, h88, (pS 2 Z (kN 43 Z (congrArg Bool.not c89) (oN Z (mV Z (bK (oN Z (mV Z (bK (oN Z (GO.neq Z Z Z Z (bK ?_)))))))))))⟩))))
   refine GO.pickF Z Z Z Z Z (nL ?_)
   rcases iE H with ⟨c90, H⟩ | ⟨c90, H⟩
   ·
    refine nB Z (nT c90) (rN 3 Z ?_)
    obtain ⟨t91, t92, t93, h94, H⟩ := bind3_elim H
    obtain ⟨t106, h107, H⟩ := bI H
    refine G.lexS mixed (fun w => St w0 w (Box b58 30 [.slice A47 t43.length c48, .slice A50 t44.length c51, .slice A53 t45.length c54] :: Box b1 25 [.slice A_a d1.length c_a, .slice A_b a1.length c_b, .slice A_c c1.length c_c] :: L)) [0, 1] [0, 1, 2, 3, 4] [] (by kernel_rfl) (by kernel_rfl) (HS.drew.pk 16 [4, 15] Z) ?_
    replace HS := HS.drew
    refine GX.ls Z Z Z (HS.pk 16 [4, 15] Z) (fun _ HS _ g => GO.ldBoxA (j := 0) ([.slice A47 t43.length c48, .slice A50 t44.length c51, .slice A53 t45.length c54]) HS Z Z Z Z ag30 Z g) Z (GX.ls Z Z Z (HS.pk 16 [4, 15] Z) (fun _ HS _ g => GO.ldBoxA (j := 1) ([.slice A_a d1.length c_a, .slice A_b a1.length c_b, .slice A_c c1.length c_c]) HS Z Z Z Z ag25 Z g) Z (GX.l2 Z (fN Z func7 fok7.1 fok7.2 Z Z (laws_toBench.calls HS (rD 16 r_a) (rD 16 r_b) (rD 16 r_c) h94) (fun _ wd104 ⟨A95, c96, y97, A98, c99, y100, A101, c102, y103, h105, HS⟩ => ⟨_, h105, (GX.fin (HS.pk 19 [7, 18] Z) (GX.l2 Z (fN Z func9 fok9.1 fok9.2 Z Z (laws_eqBench.calls HS (RdIn.own (j := 8) Z) (RdIn.own (j := 9) Z) (RdIn.own (j := 10) Z) (RdIn.own (j := 0) Z) (RdIn.own (j := 1) Z) (RdIn.own (j := 2) Z) h107) (fun _ wd108 ⟨h109, HS⟩ => ⟨_, h109, (GX.fin (HS.pk 19 [7, 18] Z) (GX.ps 1 Z (GX.nil ?_)))⟩))))⟩))))
    rcases iE H with ⟨c110, H⟩ | ⟨c110, H⟩
    ·
     refine nB Z (congrArg Bool.not c110) (rN 4 Z ?_)
     obtain ⟨t111, t112, t113, t114, h115, H⟩ := bind4_elim H
     obtain ⟨c116, H⟩ := iN H
     obtain ⟨c117, H⟩ := iN H
     obtain ⟨c118, H⟩ := iN H
     refine rG (GO.ldBoxA (j := 7) ([.slice A47 t43.length c48, .slice A50 t44.length c51, .slice A53 t45.length c54]) HS Z Z Z Z ag30 Z (mV Z ?_))
     replace HS := HS.pk 19 [8, 9, 10, 0, 1, 2, 3, 4, 5, 6, 7, 11, 12, 13, 14, 15, 16, 17, 18] Z
     refine fN Z func10 fok10.1 fok10.2 Z Z (laws_markBench.calls HS  h115) (fun _ wd119 ⟨h120, HS⟩ => ⟨_, h120, (aS Z (nL ?_))⟩)
     replace HS := HS.boxEq (j := 10) (cs' := [.slice A47 t112.length c48, .slice A50 t44.length c51, .slice A53 t45.length c54]) Z (by simp only [List.length_set, c116, c117, c118] <;> rfl)
     replace HS := HS.boxEq (j := 10) (cs' := [.slice A47 t112.length c48, .slice A50 t113.length c51, .slice A53 t45.length c54]) Z (by simp only [List.length_set, c116, c117, c118] <;> rfl)
     replace HS := HS.boxEq (j := 10) (cs' := [.slice A47 t112.length c48, .slice A50 t113.length c51, .slice A53 t114.length c54]) Z (by simp only [List.length_set, c116, c117, c118] <;> rfl)
     refine rN 2 Z ?_
     rcases iE H with ⟨c127, H⟩ | ⟨c127, H⟩
     ·
      refine rG (pS 3 Z (kN 58 Z (tT c127) (oF Z (oF Z (oF Z (oF Z (pS 2 Z (oF Z (oF Z (oF Z (GO.pickT Z Z Z Z Z (nL (rN 3 Z ?_)))))))))))))
      obtain rfl := sI H
      exact rT _ func3 Z Z ⟨Z, (HS.pk 19 [] Z)⟩
     obtain ⟨t128, h129, H⟩ := bI H
     rcases iE H with ⟨c132, H⟩ | ⟨c132, H⟩
     ·
      refine rG (pS 3 Z (kN 58 Z (tF c127) (oN Z (GO.ldBoxA (j := 6) ([.slice A66 t61.length c67, .slice A69 t62.length c70, .slice A72 t63.length c73]) HS Z Z Z Z ag30 Z (bK (oN Z (GO.ldBoxA (j := 11) ([.slice A29 t24.length c30, .slice A32 t25.length c33, .slice A35 t26.length c36]) HS Z Z Z Z ag30 Z (bK (oN Z (fN Z func9 fok9.1 fok9.2 Z Z (laws_eqBench.calls HS (RdIn.own (j := 7) Z) (RdIn.own (j := 8) Z) (RdIn.own (j := 9) Z) (RdIn.own (j := 12) Z) (RdIn.own (j := 13) Z) (RdIn.own (j := 14) Z) h129) (fun _ wd130 ⟨h131, HS⟩ => ⟨_, h131, (bK (oN Z (GO.not Z Z Z (bK ?_))))⟩)))))))))))
      refine pS 2 Z (kN 64 Z (congrArg Bool.not c132) (oN Z (mV Z (bK (oN Z (mV Z (bK (oN Z (GO.neq Z Z Z Z (bK (GO.pickF Z Z Z Z Z (nL (nB Z (nT c90) (rN 4 Z ?_))))))))))))))
      obtain ⟨t133, t134, t135, t136, h137, H⟩ := bind4_elim H
      obtain ⟨c138, H⟩ := iN H
      obtain ⟨c139, H⟩ := iN H
      obtain ⟨c140, H⟩ := iN H
      refine rG (GO.ldBoxA (j := 6) ([.slice A66 t61.length c67, .slice A69 t62.length c70, .slice A72 t63.length c73]) HS Z Z Z Z ag30 Z (mV Z ?_))
      replace HS := HS.pk 19 [7, 8, 9, 0, 1, 2, 3, 4, 5, 6, 10, 11, 12, 13, 14, 15, 16, 17, 18] Z
      refine fN Z func10 fok10.1 fok10.2 Z Z (laws_markBench.calls HS  h137) (fun _ wd141 ⟨h142, HS⟩ => ⟨_, h142, (aS Z (nL ?_))⟩)
      replace HS := HS.boxEq (j := 9) (cs' := [.slice A66 t134.length c67, .slice A69 t62.length c70, .slice A72 t63.length c73]) Z (by simp only [List.length_set, c138, c139, c140] <;> rfl)
      replace HS := HS.boxEq (j := 9) (cs' := [.slice A66 t134.length c67, .slice A69 t135.length c70, .slice A72 t63.length c73]) Z (by simp only [List.length_set, c138, c139, c140] <;> rfl)
      replace HS := HS.boxEq (j := 9) (cs' := [.slice A66 t134.length c67, .slice A69 t135.length c70, .slice A72 t136.length c73]) Z (by simp only [List.length_set, c138, c139, c140] <;> rfl)
      refine rN 3 Z ?_
      obtain ⟨t143, h144, H⟩ := bI H
      refine rG (GO.ldBoxA (j := 9) ([.slice A66 t134.length c67, .slice A69 t135.length c70, .slice A72 t136.length c73]) HS Z Z Z Z ag30 Z (mV Z (fN Z func11 fok11.1 fok11.2 Z Z (laws_heldBench.calls HS (RdIn.own (j := 0) Z) (RdIn.own (j := 1) Z) (RdIn.own (j := 2) Z) h144) (fun _ wd145 ⟨h146, HS⟩ => ⟨_, h146, (aS Z (nL (rN 3 Z ?_)))⟩))))
      rcases iE H with ⟨c147, H⟩ | ⟨c147, H⟩
      ·
       refine yB Z (tT c147) (rN 2 Z ?_)
       obtain rfl := sI H
       exact rT _ func3 Z Z ⟨Z, (HS.pk 19 [] Z)⟩
      refine nB Z (tF c147) (rN 4 Z ?_)
      rcases iE H with ⟨c148, H⟩ | ⟨c148, H⟩
      ·
       refine nB Z (nT c148) (rN 2 Z ?_)
       obtain ⟨t149, t150, t151, h152, H⟩ := bind3_elim H
       obtain ⟨t164, t165, t166, t167, h168, H⟩ := bind4_elim H
       refine rG (GO.ldBoxA (j := 18) ([.slice A_a d1.length c_a, .slice A_b a1.length c_b, .slice A_c c1.length c_c]) HS Z Z Z Z ag25 Z (fN Z func7 fok7.1 fok7.2 Z Z (laws_toBench.calls HS (rD 19 r_a) (rD 19 r_b) (rD 19 r_c) h152) (fun _ wd162 ⟨A153, c154, y155, A156, c157, y158, A159, c160, y161, h163, HS⟩ => ⟨_, h163, (mV Z (fN Z func8 fok8.1 fok8.2 Z Z (impl_DropItem.calls HS (RdIn.own (j := 0) Z) (RdIn.own (j := 1) Z) (RdIn.own (j := 2) Z) h168) (fun _ wd178 ⟨A169, c170, y171, A172, c173, y174, A175, c176, y177, h179, HS⟩ => ⟨_, h179, (pS 3 Z (GO.alloc HS Z zr30 Z Z fun b180 wd181 HS => GO.stBox (j := 0) (vs := [.slice A169 t164.length c170, .slice A172 t165.length c173, .slice A175 t166.length c176]) ([.slice A169 t164.length c170, .slice A172 t165.length c173, .slice A175 t166.length c176]) HS Z Z Z Z Z (htA ag30) Z Z Z fun wd182 HS => aS Z (nL (rN 2 Z ?_))))⟩)))⟩)))
       obtain ⟨t188, h189, H⟩ := bI H
       rcases iE H with ⟨c192, H⟩ | ⟨c192, H⟩
       ·
        refine rG (GO.ldBoxA (j := 0) ([.slice A169 t164.length c170, .slice A172 t165.length c173, .slice A175 t166.length c176]) HS Z Z Z Z ag30 Z (GO.ldBoxA (j := 18) ([.slice A29 t24.length c30, .slice A32 t25.length c33, .slice A35 t26.length c36]) HS Z Z Z Z ag30 Z (fN Z func9 fok9.1 fok9.2 Z Z (laws_eqBench.calls HS (RdIn.own (j := 1) Z) (RdIn.own (j := 2) Z) (RdIn.own (j := 3) Z) (RdIn.own (j := 19) Z) (RdIn.own (j := 20) Z) (RdIn.own (j := 21) Z) h189) (fun _ wd190 ⟨h191, HS⟩ => ⟨_, h191, (pS 2 Z (kN 91 Z (congrArg Bool.not c192) (oN Z (mV Z (bK (oN Z (mV Z (bK (oN Z (GO.neq Z Z Z Z (bK ?_)))))))))))⟩))))
        refine GO.pickF Z Z Z Z Z (nL ?_)
        rcases iE H with ⟨c193, H⟩ | ⟨c193, H⟩
        ·
         refine nB Z (nT c193) (rN 4 Z ?_)
         obtain ⟨t194, h195, H⟩ := bI H
         refine rG (GO.ldBoxA (j := 16) ([.slice A66 t134.length c67, .slice A69 t135.length c70, .slice A72 t136.length c73]) HS Z Z Z Z ag30 Z (mV Z (fN Z func11 fok11.1 fok11.2 Z Z (laws_heldBench.calls HS (RdIn.own (j := 7) Z) (RdIn.own (j := 8) Z) (RdIn.own (j := 9) Z) h195) (fun _ wd196 ⟨h197, HS⟩ => ⟨_, h197, (aS Z (nL (rN 3 Z ?_)))⟩))))
         rcases iE H with ⟨c198, H⟩ | ⟨c198, H⟩
         ·
          refine yB Z (tT c198) (rN 2 Z ?_)
          obtain rfl := sI H
          exact rT _ func3 Z Z ⟨Z, (HS.pk 26 [] Z)⟩
         refine nB Z (tF c198) (rN 4 Z ?_)
         rcases iE H with ⟨c199, H⟩ | ⟨c199, H⟩
         ·
          refine nB Z (nT c199) (rN 3 Z ?_)
          obtain rfl := sI H
          exact rT _ func3 Z Z ⟨Z, (HS.pk 26 [] Z)⟩
         refine yB Z (nF c199) (rN 2 Z ?_)
         obtain rfl := sI H
         exact rT _ func3 Z Z ⟨Z, (HS.pk 26 [] Z)⟩
        refine yB Z (nF c193) (rN 2 Z ?_)
        obtain rfl := sI H
        exact rT _ func3 Z Z ⟨Z, (HS.pk 26 [] Z)⟩
       refine rG (GO.ldBoxA (j := 0) ([.slice A169 t164.length c170, .slice A172 t165.length c173, .slice A175 t166.length c176]) HS Z Z Z Z ag30 Z (GO.ldBoxA (j := 18) ([.slice A29 t24.length c30, .slice A32 t25.length c33, .slice A35 t26.length c36]) HS Z Z Z Z ag30 Z (fN Z func9 fok9.1 fok9.2 Z Z (laws_eqBench.calls HS (RdIn.own (j := 1) Z) (RdIn.own (j := 2) Z) (RdIn.own (j := 3) Z) (RdIn.own (j := 19) Z) (RdIn.own (j := 20) Z) (RdIn.own (j := 21) Z) h189) (fun _ wd190 ⟨h191, HS⟩ => ⟨_, h191, (pS 2 Z (kN 91 Z (congrArg Bool.not (bnot_of c192)) (oF Z (oF Z (oF Z (GO.pickT Z Z Z Z Z (nL (rN 3 Z ?_))))))))⟩))))
       obtain rfl := sI H
       exact rT _ func3 Z Z ⟨Z, (HS.pk 26 [] Z)⟩
      refine yB Z (nF c148) (rN 2 Z ?_)
      obtain rfl := sI H
      exact rT _ func3 Z Z ⟨Z, (HS.pk 19 [] Z)⟩
     refine rG (pS 3 Z (kN 58 Z (tF c127) (oN Z (GO.ldBoxA (j := 6) ([.slice A66 t61.length c67, .slice A69 t62.length c70, .slice A72 t63.length c73]) HS Z Z Z Z ag30 Z (bK (oN Z (GO.ldBoxA (j := 11) ([.slice A29 t24.length c30, .slice A32 t25.length c33, .slice A35 t26.length c36]) HS Z Z Z Z ag30 Z (bK (oN Z (fN Z func9 fok9.1 fok9.2 Z Z (laws_eqBench.calls HS (RdIn.own (j := 7) Z) (RdIn.own (j := 8) Z) (RdIn.own (j := 9) Z) (RdIn.own (j := 12) Z) (RdIn.own (j := 13) Z) (RdIn.own (j := 14) Z) h129) (fun _ wd130 ⟨h131, HS⟩ => ⟨_, h131, (bK (oN Z (GO.not Z Z Z (bK ?_))))⟩)))))))))))
     refine pS 2 Z (kN 64 Z (congrArg Bool.not (bnot_of c132)) (oF Z (oF Z (oF Z (GO.pickT Z Z Z Z Z (nL (rN 3 Z ?_)))))))
     obtain rfl := sI H
     exact rT _ func3 Z Z ⟨Z, (HS.pk 19 [] Z)⟩
    refine yB Z (congrArg Bool.not (bnot_of c110)) (rN 2 Z ?_)
    obtain rfl := sI H
    exact rT _ func3 Z Z ⟨Z, (HS.pk 19 [] Z)⟩
   refine yB Z (nF c90) (rN 2 Z ?_)
   obtain rfl := sI H
   exact rT _ func3 Z Z ⟨Z, (HS.pk 16 [] Z)⟩
  refine rG (GO.ldBoxA (j := 0) ([.slice A66 t61.length c67, .slice A69 t62.length c70, .slice A72 t63.length c73]) HS Z Z Z Z ag30 Z (GO.ldBoxA (j := 8) ([.slice A29 t24.length c30, .slice A32 t25.length c33, .slice A35 t26.length c36]) HS Z Z Z Z ag30 Z (fN Z func9 fok9.1 fok9.2 Z Z (laws_eqBench.calls HS (RdIn.own (j := 1) Z) (RdIn.own (j := 2) Z) (RdIn.own (j := 3) Z) (RdIn.own (j := 9) Z) (RdIn.own (j := 10) Z) (RdIn.own (j := 11) Z) h86) (fun _ wd87 ⟨h88, HS⟩ => ⟨_, h88, (pS 2 Z (kN 43 Z (congrArg Bool.not (bnot_of c89)) (oF Z (oF Z (oF Z (GO.pickT Z Z Z Z Z (nL (rN 3 Z ?_))))))))⟩))))
  obtain rfl := sI H
  exact rT _ func3 Z Z ⟨Z, (HS.pk 16 [] Z)⟩
end Go.Proofs.YtkmeepgpmppibaaGreatDoor
