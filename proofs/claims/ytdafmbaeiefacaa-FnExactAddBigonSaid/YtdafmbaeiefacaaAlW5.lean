/-
  The walks through the functions: a call comes to what its list function says.
-/
import Derived.Test.YtdafmbaeiefacaaAlF
set_option linter.unusedVariables false
set_option linter.unusedSimpArgs false
namespace Go.Proofs.Ytdafmbaeiefacaa
open Go.RowKit
set_option maxRecDepth 20000 in
set_option maxHeartbeats 40000000 in
theorem spec_l25With.calls {w0 w : World} {L : List HObj} {x_A : Int} {x_B : Int} {x_C : Int} {x_D : Int} {x_Sign : Int} {p : Int} {a_ : Int} {r1 : Int} {r2 : Int} {r3 : Int} {r4 : Int} {r5 : Int} (HS : St w0 w (L)) (H : spec_l25With.f x_A x_B x_C x_D x_Sign p a_ = some (r1, r2, r3, r4, r5)) :
    Calls Try.prog 43 #[.agg [.int .i64 x_A, .int .i64 x_B, .int .i64 x_C, .int .i64 x_D, .int .i64 x_Sign].toArray, .int .i64 p, .int .i64 a_] w (spec_l25With.post w0 L x_A x_B x_C x_D x_Sign p a_ r1 r2 r3 r4 r5) := by
  unfold spec_l25With.f at H
  refine Calls.of_G Try.func43 rfl rfl rfl ?_
  refine G.seq ?_
  refine G.region ?_
  refine GO.box (cs := [.int .i64 x_A, .int .i64 x_B, .int .i64 x_C, .int .i64 x_D, .int .i64 x_Sign]) HS rfl rfl rfl rfl ?_; intro b1 wd2 HS
  refine GO.alloc HS rfl zr58 rfl rfl ?_; intro b3 wd4 HS
  refine GO.nil ?_
  refine G.seq ?_
  refine G.seq ?_
  refine G.region ?_
  refine GO.move rfl rfl rfl ?_
  refine GO.nil ?_
  refine G.block ?_
  refine G.seq ?_
  refine G.region ?_
  refine GO.eql rfl rfl rfl rfl ?_
  refine GO.assign rfl rfl rfl ?_
  refine GO.nil ?_
  rcases ite_elim H with ⟨c5, H⟩ | ⟨c5, H⟩
  ·
   refine G.yesB rfl (decide_eq_true c5) ?_
   refine G.region ?_
   refine GO.move rfl rfl rfl ?_
   refine GO.fld (⟨b1, 0, none⟩) rfl rfl fl58_0 rfl rfl ?_
   refine GO.stBox (j := 1) (vs := [.int .i64 a_]) ([.int .i64 a_, .int .i64 x_B, .int .i64 x_C, .int .i64 x_D, .int .i64 x_Sign]) HS rfl rfl rfl rfl rfl (htN na2 rfl) rfl rfl rfl ?_; intro wd6 HS
   refine GO.nil ?_
   refine G.blockEnd ?_
   refine G.seq ?_
   refine G.region ?_
   refine GO.ldBoxA (j := 1) ([.int .i64 a_, .int .i64 x_B, .int .i64 x_C, .int .i64 x_D, .int .i64 x_Sign]) HS rfl rfl rfl rfl ag58 rfl ?_
   refine GO.stBox (j := 0) (vs := [.int .i64 a_, .int .i64 x_B, .int .i64 x_C, .int .i64 x_D, .int .i64 x_Sign]) ([.int .i64 a_, .int .i64 x_B, .int .i64 x_C, .int .i64 x_D, .int .i64 x_Sign]) HS rfl rfl rfl rfl rfl (htA ag58) rfl rfl rfl ?_; intro wd7 HS
   refine GO.nil ?_
   obtain ⟨rfl, rfl, rfl, rfl, rfl⟩ := some5 H
   exact G.ret1 _ Try.func43 rfl (Res1.boxA (j := 0) (vs := [.int .i64 a_, .int .i64 x_B, .int .i64 x_C, .int .i64 x_D, .int .i64 x_Sign]) HS rfl rfl rfl ag58) ⟨rfl, (HS.pick 2 [])⟩
  ·
   refine G.noB rfl (decide_eq_false c5) ?_
   refine G.seq ?_
   refine G.region ?_
   refine GO.eql rfl rfl rfl rfl ?_
   refine GO.assign rfl rfl rfl ?_
   refine GO.nil ?_
   rcases ite_elim H with ⟨c8, H⟩ | ⟨c8, H⟩
   ·
    refine G.yesB rfl (decide_eq_true c8) ?_
    refine G.region ?_
    refine GO.move rfl rfl rfl ?_
    refine GO.fld (⟨b1, 1, none⟩) rfl rfl fl58_1 rfl rfl ?_
    refine GO.stBox (j := 1) (vs := [.int .i64 a_]) ([.int .i64 x_A, .int .i64 a_, .int .i64 x_C, .int .i64 x_D, .int .i64 x_Sign]) HS rfl rfl rfl rfl rfl (htN na2 rfl) rfl rfl rfl ?_; intro wd9 HS
    refine GO.nil ?_
    refine G.blockEnd ?_
    refine G.seq ?_
    refine G.region ?_
    refine GO.ldBoxA (j := 1) ([.int .i64 x_A, .int .i64 a_, .int .i64 x_C, .int .i64 x_D, .int .i64 x_Sign]) HS rfl rfl rfl rfl ag58 rfl ?_
    refine GO.stBox (j := 0) (vs := [.int .i64 x_A, .int .i64 a_, .int .i64 x_C, .int .i64 x_D, .int .i64 x_Sign]) ([.int .i64 x_A, .int .i64 a_, .int .i64 x_C, .int .i64 x_D, .int .i64 x_Sign]) HS rfl rfl rfl rfl rfl (htA ag58) rfl rfl rfl ?_; intro wd10 HS
    refine GO.nil ?_
    obtain ⟨rfl, rfl, rfl, rfl, rfl⟩ := some5 H
    exact G.ret1 _ Try.func43 rfl (Res1.boxA (j := 0) (vs := [.int .i64 x_A, .int .i64 a_, .int .i64 x_C, .int .i64 x_D, .int .i64 x_Sign]) HS rfl rfl rfl ag58) ⟨rfl, (HS.pick 2 [])⟩
   ·
    refine G.noB rfl (decide_eq_false c8) ?_
    refine G.seq ?_
    refine G.region ?_
    refine GO.eql rfl rfl rfl rfl ?_
    refine GO.assign rfl rfl rfl ?_
    refine GO.nil ?_
    rcases ite_elim H with ⟨c11, H⟩ | ⟨c11, H⟩
    ·
     refine G.yesB rfl (decide_eq_true c11) ?_
     refine G.region ?_
     refine GO.move rfl rfl rfl ?_
     refine GO.fld (⟨b1, 2, none⟩) rfl rfl fl58_2 rfl rfl ?_
     refine GO.stBox (j := 1) (vs := [.int .i64 a_]) ([.int .i64 x_A, .int .i64 x_B, .int .i64 a_, .int .i64 x_D, .int .i64 x_Sign]) HS rfl rfl rfl rfl rfl (htN na2 rfl) rfl rfl rfl ?_; intro wd12 HS
     refine GO.nil ?_
     refine G.blockEnd ?_
     refine G.seq ?_
     refine G.region ?_
     refine GO.ldBoxA (j := 1) ([.int .i64 x_A, .int .i64 x_B, .int .i64 a_, .int .i64 x_D, .int .i64 x_Sign]) HS rfl rfl rfl rfl ag58 rfl ?_
     refine GO.stBox (j := 0) (vs := [.int .i64 x_A, .int .i64 x_B, .int .i64 a_, .int .i64 x_D, .int .i64 x_Sign]) ([.int .i64 x_A, .int .i64 x_B, .int .i64 a_, .int .i64 x_D, .int .i64 x_Sign]) HS rfl rfl rfl rfl rfl (htA ag58) rfl rfl rfl ?_; intro wd13 HS
     refine GO.nil ?_
     obtain ⟨rfl, rfl, rfl, rfl, rfl⟩ := some5 H
     exact G.ret1 _ Try.func43 rfl (Res1.boxA (j := 0) (vs := [.int .i64 x_A, .int .i64 x_B, .int .i64 a_, .int .i64 x_D, .int .i64 x_Sign]) HS rfl rfl rfl ag58) ⟨rfl, (HS.pick 2 [])⟩
    ·
     refine G.noB rfl (decide_eq_false c11) ?_
     refine G.region ?_
     refine GO.move rfl rfl rfl ?_
     refine GO.fld (⟨b1, 3, none⟩) rfl rfl fl58_3 rfl rfl ?_
     refine GO.stBox (j := 1) (vs := [.int .i64 a_]) ([.int .i64 x_A, .int .i64 x_B, .int .i64 x_C, .int .i64 a_, .int .i64 x_Sign]) HS rfl rfl rfl rfl rfl (htN na2 rfl) rfl rfl rfl ?_; intro wd14 HS
     refine GO.nil ?_
     refine G.blockEnd ?_
     refine G.seq ?_
     refine G.region ?_
     refine GO.ldBoxA (j := 1) ([.int .i64 x_A, .int .i64 x_B, .int .i64 x_C, .int .i64 a_, .int .i64 x_Sign]) HS rfl rfl rfl rfl ag58 rfl ?_
     refine GO.stBox (j := 0) (vs := [.int .i64 x_A, .int .i64 x_B, .int .i64 x_C, .int .i64 a_, .int .i64 x_Sign]) ([.int .i64 x_A, .int .i64 x_B, .int .i64 x_C, .int .i64 a_, .int .i64 x_Sign]) HS rfl rfl rfl rfl rfl (htA ag58) rfl rfl rfl ?_; intro wd15 HS
     refine GO.nil ?_
     obtain ⟨rfl, rfl, rfl, rfl, rfl⟩ := some5 H
     exact G.ret1 _ Try.func43 rfl (Res1.boxA (j := 0) (vs := [.int .i64 x_A, .int .i64 x_B, .int .i64 x_C, .int .i64 a_, .int .i64 x_Sign]) HS rfl rfl rfl ag58) ⟨rfl, (HS.pick 2 [])⟩

end Go.Proofs.Ytdafmbaeiefacaa
