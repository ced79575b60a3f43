/-
  The walks through the functions: a call comes to what its list function says.
-/
import Derived.Test.YtdafmbaeiefacaaAlF
import Derived.Test.YtdafmbaeiefacaaAlW1
set_option linter.unusedVariables false
set_option linter.unusedSimpArgs false
namespace Go.Proofs.Ytdafmbaeiefacaa
open Go.RowKit
set_option maxRecDepth 20000 in
set_option maxHeartbeats 40000000 in
theorem spec_l27Side.calls {w0 w : World} {L : List HObj} {d_Crossings : List GCrossing} {d_Circles : Int} {corner : Int} {A_d_Crossings : Option Addr} {c_d_Crossings : Nat} {r1 : Int} (HS : St w0 w (L)) (h_d_Crossings : RdIn w0 L T_GCrossing A_d_Crossings c_d_Crossings (fun _ => ()) d_Crossings) (H : spec_l27Side.f d_Crossings d_Circles corner = some r1) :
    Calls Try.prog 71 #[.agg [.slice A_d_Crossings d_Crossings.length c_d_Crossings, .int .i64 d_Circles].toArray, .int .i64 corner] w (spec_l27Side.post w0 L d_Crossings d_Circles corner A_d_Crossings c_d_Crossings r1) := by
  unfold spec_l27Side.f at H
  refine Calls.of_G Try.func71 rfl rfl rfl ?_
  refine G.seq ?_
  refine G.region ?_
  refine GO.box (cs := [.slice A_d_Crossings d_Crossings.length c_d_Crossings, .int .i64 d_Circles]) HS rfl rfl rfl rfl ?_; intro b1 wd2 HS
  refine GO.assign rfl rfl rfl ?_
  refine GO.nil ?_
  refine G.seq ?_
  obtain ⟨c3, H⟩ := ite_none H
  obtain ⟨e4, h5, H⟩ := bnd_elim H
  refine G.region ?_
  refine GO.fld (⟨b1, 0, none⟩) rfl rfl fl28_0 rfl rfl ?_
  refine GO.ldBox (j := 0) HS rfl rfl rfl rfl na26 rfl ?_
  refine GO.move rfl rfl rfl ?_
  refine GO.quo rfl rfl rfl (by decide) rfl ?_
  refine GO.ix rfl rfl rfl Try.underlying26 sz58 ((RdIn.drop 1 h_d_Crossings) _ HS).2.2.1 c3.1 c3.2 rfl ?_
  refine GO.ldRdA (T := T_GCrossing) (n := (w64 (corner.tdiv 4)).toNat) HS (RdIn.drop 1 h_d_Crossings) rfl rfl (getD_eq (ltN c3) h5) ag58 rfl ?_
  refine GO.move rfl rfl rfl ?_
  refine GO.rem rfl rfl rfl (by decide) rfl ?_
  refine GO.add rfl rfl rfl rfl ?_
  refine GO.rem rfl rfl rfl (by decide) rfl ?_
  refine GO.alloc HS rfl zr58 rfl rfl ?_; intro b6 wd7 HS
  refine GO.stBox (j := 0) (vs := [.int .i64 e4.A, .int .i64 e4.B, .int .i64 e4.C, .int .i64 e4.D, .int .i64 e4.Sign]) ([.int .i64 e4.A, .int .i64 e4.B, .int .i64 e4.C, .int .i64 e4.D, .int .i64 e4.Sign]) HS rfl rfl rfl rfl rfl (htA ag58) rfl rfl rfl ?_; intro wd8 HS
  refine GO.assign rfl rfl rfl ?_
  refine GO.nil ?_
  refine G.seq ?_
  refine G.seq ?_
  obtain ⟨t9, h10, H⟩ := Option.bind_eq_some_iff.1 H
  refine G.region ?_
  refine GO.ldBoxA (j := 0) ([.int .i64 e4.A, .int .i64 e4.B, .int .i64 e4.C, .int .i64 e4.D, .int .i64 e4.Sign]) HS rfl rfl rfl rfl ag58 rfl ?_
  refine GO.move rfl rfl rfl ?_
  refine GO.fn rfl Try.func106 fok106.1 fok106.2 rfl rfl (spec_l25Enters.calls HS  h10) (fun _ wd11 ⟨h12, HS⟩ => ⟨_, h12, ?_⟩)
  refine GO.nil ?_
  rcases ite_elim H with ⟨c13, H⟩ | ⟨c13, H⟩
  ·
   refine G.yesB rfl c13 ?_
   refine G.seq ?_
   obtain ⟨t14, h15, H⟩ := Option.bind_eq_some_iff.1 H
   refine G.region ?_
   refine GO.ldBoxA (j := 0) ([.int .i64 e4.A, .int .i64 e4.B, .int .i64 e4.C, .int .i64 e4.D, .int .i64 e4.Sign]) HS rfl rfl rfl rfl ag58 rfl ?_
   refine GO.move rfl rfl rfl ?_
   refine GO.fn rfl Try.func105 fok105.1 fok105.2 rfl rfl (spec_l25End.calls HS  h15) (fun _ wd16 ⟨h17, HS⟩ => ⟨_, h17, ?_⟩)
   refine GO.mul rfl rfl rfl rfl ?_
   refine GO.assign rfl rfl rfl ?_
   refine GO.nil ?_
   obtain rfl := Option.some.inj H
   exact G.ret1 _ Try.func71 rfl rfl ⟨rfl, (HS.pick 2 [])⟩
  ·
   refine G.noB rfl (bnot_of c13) ?_
   refine G.skip ?_
   refine G.seq ?_
   obtain ⟨t18, h19, H⟩ := Option.bind_eq_some_iff.1 H
   refine G.region ?_
   refine GO.ldBoxA (j := 0) ([.int .i64 e4.A, .int .i64 e4.B, .int .i64 e4.C, .int .i64 e4.D, .int .i64 e4.Sign]) HS rfl rfl rfl rfl ag58 rfl ?_
   refine GO.move rfl rfl rfl ?_
   refine GO.fn rfl Try.func105 fok105.1 fok105.2 rfl rfl (spec_l25End.calls HS  h19) (fun _ wd20 ⟨h21, HS⟩ => ⟨_, h21, ?_⟩)
   refine GO.mul rfl rfl rfl rfl ?_
   refine GO.add rfl rfl rfl rfl ?_
   refine GO.assign rfl rfl rfl ?_
   refine GO.nil ?_
   obtain rfl := Option.some.inj H
   exact G.ret1 _ Try.func71 rfl rfl ⟨rfl, (HS.pick 2 [])⟩

end Go.Proofs.Ytdafmbaeiefacaa
