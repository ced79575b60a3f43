/-
  JoinDiagrams: both answers agree, and its law.
-/
import Derived.Test.YtdafmbaeiefacaaPlK
set_option linter.unusedVariables false
set_option linter.unusedSimpArgs false
set_option linter.unusedSectionVars false
namespace Go.Proofs.Ytdafmbaeiefacaa
open Go.RowKit
theorem in_eq' (a : Int) (n : Nat) (hn : n ≤ 2000000) : impl_inRange.f a 0 (w64 (w64 (2 * (n : Int)) - 1)) = some (decide (0 ≤ a ∧ a < 2 * (n : Int))) := in_eq a n hn
theorem withArc_eta (x : GCrossing) : (⟨x.A, x.B, x.C, x.D, x.Sign⟩ : GCrossing) = x := rfl
theorem JoinDiagrams_both (ds es : List GCrossing) (hd : ds.length ≤ 1048576) (he : es.length ≤ 1048576) (cd a ce b : Int) : ∃ ys c' e, List.length ys ≤ 2000000 ∧ Tends (fun K => spec_JoinDiagrams.f K ds cd a es ce b) (ys, c', e) ∧ Tends (fun K => impl_JoinDiagrams.f K ds cd a es ce b) (ys, c', e) := by
  unfold spec_JoinDiagrams.f impl_JoinDiagrams.f impl_size_impl_Crossing.f
  simp only [Option.bind_some]
  rw [in_eq _ _ (by omega), in_eq' _ _ (by omega), in_eq _ _ (by omega), in_eq' _ _ (by omega)]
  rcases beside_codes ds es (by omega) (by omega) cd ce with ⟨e, h0, h1, h2⟩ | ⟨h1, h2, hlen, sd, se, f, t, f', t', gd, ge⟩
  · exact ⟨[], 0, e, by simp, Tends.bind3 h1 (Tends.neg h0 (Tends.const _)), Tends.bind h2 (Tends.neg h0 (Tends.const _))⟩
  by_cases ha : 0 ≤ a ∧ a < 2 * (ds.length : Int)
  rotate_left
  · rw [decide_eq_false ha]
    exact ⟨[], 0, 4, by simp, Tends.bind3 h1 (Tends.pos rfl (Tends.some_ (Tends.neg (by decide) (Tends.const _)))), Tends.bind h2 (Tends.pos rfl (Tends.some_ (Tends.neg (by decide) (Tends.const _))))⟩
  rw [decide_eq_true ha]
  by_cases hb : 0 ≤ b ∧ b < 2 * (es.length : Int)
  rotate_left
  · rw [decide_eq_false hb]
    exact ⟨[], 0, 4, by simp, Tends.bind3 h1 (Tends.pos rfl (Tends.some_ (Tends.pos rfl (Tends.some_ (Tends.neg (by decide) (Tends.const _)))))), Tends.bind h2 (Tends.pos rfl (Tends.some_ (Tends.pos rfl (Tends.some_ (Tends.neg (by decide) (Tends.const _))))))⟩
  rw [decide_eq_true hb]
  have hz := joined_length ds es
  have hzl : (joined ds es).length ≤ 10 := by omega
  have sz := joined_signs (by omega) (by omega) sd se gd ge
  have iz := joined_inj (by omega) (by omega) sd se gd ge
  obtain ⟨F, T, hA, gz⟩ : ∃ F T, Tends (fun K => impl_Diagram_arrows.f K (joined ds es) (w64 (cd + ce))) (F, T, true) ∧ Good (joined ds es) F T := by
    rcases scans hzl (w64 (cd + ce)) sz with ⟨_, _, _, _, hni⟩ | ⟨_, F, T, k1, k2⟩
    · exact absurd iz hni
    · exact ⟨F, T, k1, k2⟩
  have hw : w64 (2 * (ds.length : Int)) = 2 * (ds.length : Int) := w64_id (by omega) (by omega)
  have hwb : w64 (b + 2 * (ds.length : Int)) = b + 2 * (ds.length : Int) := w64_id (by omega) (by omega)
  have hTl : (T.length : Int) = 2 * ((joined ds es).length : Int) := by rw [gz.tlen]; omega
  obtain ⟨i, rfl⟩ : ∃ i : Nat, a = (i : Int) := ⟨a.toNat, by omega⟩
  obtain ⟨j, hj⟩ : ∃ j : Nat, b + 2 * (ds.length : Int) = (j : Int) := ⟨(b + 2 * (ds.length : Int)).toNat, by omega⟩
  rw [hw, hwb, hj]
  obtain ⟨q, hq, hqb, hqe⟩ := gz.tall i (by omega)
  obtain ⟨r, hr, hrb, hre⟩ := gz.tall j (by omega)
  have pq := gz.place hzl sz hq hqe hqb (w64 (cd + ce))
  have pr := gz.place hzl sz hr hre hrb (w64 (cd + ce))
  obtain ⟨_, _, tq⟩ := gz.tin q hq hqb
  obtain ⟨_, _, tr⟩ := gz.tin r hr hrb
  rw [hqe, Int.toNat_natCast] at tq
  rw [hre, Int.toNat_natCast] at tr
  have hp : q % 4 < 4 := Nat.mod_lt _ (by decide)
  have hp2 : r % 4 < 4 := Nat.mod_lt _ (by decide)
  obtain ⟨ys, hys⟩ : ∃ ys, ys = (joined ds es).set (q / 4) (withArc ((joined ds es).getD (q / 4) z_GCrossing) (q % 4) (j : Int)) := ⟨_, rfl⟩
  have hyl : ys.length = (joined ds es).length := by rw [hys, List.length_set]
  obtain ⟨us, hus⟩ : ∃ us, us = ys.set (r / 4) (withArc (ys.getD (r / 4) z_GCrossing) (r % 4) (i : Int)) := ⟨_, rfl⟩
  have hul : us.length = ys.length := by rw [hus, List.length_set]
  refine ⟨us, w64 (cd + ce), 0, by omega, ?_, ?_⟩
  · refine Tends.bind3 h1 (Tends.pos rfl (Tends.some_ (Tends.pos rfl (Tends.some_ (Tends.pos rfl (Tends.bind2 pq (Tends.bind2 pr (Tends.pos (by omega) ?_))))))))
    simp only [bnd_eq, Int.toNat_natCast, With_eq _ hp, With_eq _ hp2, bind5, Option.bind_some, withArc_eta]
    rw [← hys]
    refine Tends.pos (by omega) ?_
    rw [← hus]
    exact Tends.const _
  · refine Tends.bind h2 (Tends.pos rfl (Tends.some_ (Tends.pos rfl (Tends.some_ (Tends.pos rfl (Tends.bind2 (beside_f (by omega) (by omega) cd ce) (Tends.bind3 hA (Tends.pos (by omega) ?_))))))))
    simp only [bnd_eq, Int.toNat_natCast]
    rw [List.getD_eq_getElem?_getD, tq, List.getD_eq_getElem?_getD, tr]
    show Tends (fun K => (impl_Diagram_set.f (joined ds es) (w64 (cd + ce)) ((q / 4 : Nat) : Int) ((q % 4 : Nat) : Int) (j : Int)).bind _) _
    rw [set_eq (by omega) hp, ← hys]
    refine Tends.pos hyl (Tends.pos (by omega) ?_)
    show Tends (fun K => (impl_Diagram_set.f ys (w64 (cd + ce)) ((r / 4 : Nat) : Int) ((r % 4 : Nat) : Int) (i : Int)).bind _) _
    rw [set_eq (by omega) hp2, ← hus]
    exact Tends.pos hul (Tends.const _)
end Go.Proofs.Ytdafmbaeiefacaa
