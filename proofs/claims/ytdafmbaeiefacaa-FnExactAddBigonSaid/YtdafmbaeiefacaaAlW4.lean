/-
  The walks through the functions: a call comes to what its list function says.
-/
import Derived.Test.YtdafmbaeiefacaaAlF
import Derived.Test.YtdafmbaeiefacaaAlW2
set_option linter.unusedVariables false
set_option linter.unusedSimpArgs false
namespace Go.Proofs.Ytdafmbaeiefacaa
open Go.RowKit
set_option maxRecDepth 20000 in
set_option maxHeartbeats 40000000 in
theorem impl_copyDiagram.calls {w0 w : World} {L : List HObj} {d_Crossings : List GCrossing} {d_Circles : Int} {A_d_Crossings : Option Addr} {c_d_Crossings : Nat} {r1 : List GCrossing} {r2 : Int} (HS : St w0 w (L)) (h_d_Crossings : RdIn w0 L T_GCrossing A_d_Crossings c_d_Crossings (fun _ => ()) d_Crossings) (H : impl_copyDiagram.f d_Crossings d_Circles = some (r1, r2)) :
    Calls Try.prog 49 #[.agg [.slice A_d_Crossings d_Crossings.length c_d_Crossings, .int .i64 d_Circles].toArray] w (impl_copyDiagram.post w0 L d_Crossings d_Circles A_d_Crossings c_d_Crossings r1 r2) := by
  unfold impl_copyDiagram.f at H
  refine Calls.of_G Try.func49 rfl rfl rfl ?_
  refine G.seq ?_
  refine G.region ?_
  refine GO.box (cs := [.slice A_d_Crossings d_Crossings.length c_d_Crossings, .int .i64 d_Circles]) HS rfl rfl rfl rfl ?_; intro b1 wd2 HS
  refine GO.alloc HS rfl zr28 rfl rfl ?_; intro b3 wd4 HS
  refine GO.nil ?_
  refine G.seq ?_
  obtain ⟨t5, h6, H⟩ := Option.bind_eq_some_iff.1 H
  refine G.region ?_
  refine GO.fld (⟨b1, 0, none⟩) rfl rfl fl28_0 rfl rfl ?_
  refine GO.ldBox (j := 1) HS rfl rfl rfl rfl na26 rfl ?_
  refine GO.fn rfl Try.func112 fok112.1 fok112.2 rfl rfl (slices_Clone_impl_Crossing_impl_Crossing.calls HS (RdIn.drop 2 h_d_Crossings) h6) (fun _ wd9 ⟨A7, c8, h10, HS⟩ => ⟨_, h10, ?_⟩)
  refine GO.fld (⟨b1, 0, none⟩) rfl rfl fl28_0 rfl rfl ?_
  refine GO.stBox (j := 2) (vs := [.slice A7 t5.length c8]) ([.slice A7 t5.length c8, .int .i64 d_Circles]) HS rfl rfl rfl rfl rfl (htN na26 rfl) rfl rfl rfl ?_; intro wd11 HS
  refine GO.nil ?_
  refine G.seq ?_
  refine G.region ?_
  refine GO.ldBoxA (j := 2) ([.slice A7 t5.length c8, .int .i64 d_Circles]) HS rfl rfl rfl rfl ag28 rfl ?_
  refine GO.stBox (j := 1) (vs := [.slice A7 t5.length c8, .int .i64 d_Circles]) ([.slice A7 t5.length c8, .int .i64 d_Circles]) HS rfl rfl rfl rfl rfl (htA ag28) rfl rfl rfl ?_; intro wd12 HS
  refine GO.nil ?_
  obtain ⟨rfl, rfl⟩ := some2 H
  exact G.ret1 _ Try.func49 rfl (Res1.boxA (j := 1) (vs := [.slice A7 t5.length c8, .int .i64 d_Circles]) HS rfl rfl rfl ag28) ⟨_, _, rfl, (HS.pick 3 [0])⟩

end Go.Proofs.Ytdafmbaeiefacaa
