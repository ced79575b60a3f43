/-
  Edges of regions and their levels.
-/
import Derived.Test.YtdfiglhdjlmakaaGreatPlM
set_option linter.unusedVariables false
set_option linter.unusedSimpArgs false
set_option linter.unusedSectionVars false
namespace Go.Proofs.YtdfiglhdjlmakaaGreat
open Go.RowKit
def lev1 (k : Int) : Int := ((w64 (k.tmod 4 + 1)).tmod 4).tmod 2
def lev0 (k : Int) : Int := (k.tmod 4).tmod 2
def edgeOf (r : List Int) (i : Nat) : Int × Int := (lev1 (r.getD i 0), lev0 (r.getD ((i + 1) % r.length) 0))
def edgesOf (r : List Int) : List (Int × Int) := (List.range r.length).map (edgeOf r)
def two (e : Int × Int) : List Int := [e.1, e.2]
def pureAt (r : List Int) (lv : Int) : Bool := (edgesOf r).any fun e => decide (e.1 = lv) && decide (e.2 = lv)
theorem edges_l1 (r : List Int) (hr : r.length ≤ 1000) : ∀ (d i : Nat), r.length - i = d → i ≤ r.length → Tends2 (fun K k => spec_l27Edges.l1 K k r (((List.range i).map (edgeOf r)).map two) (i : Int)) ((edgesOf r).map two)
  | 0, i, hd, hi => by
    obtain rfl : i = r.length := by omega
    refine Tends2.succ (Tends2.congr (fun K k => ?_) (Tends2.const _))
    rw [spec_l27Edges.l1, if_neg (by omega)]
    rfl
  | d + 1, i, hd, hi => by
    have ih := edges_l1 r hr d (i + 1) (by omega) (by omega)
    have hm : (w64 ((i : Int) + 1)).tmod (r.length : Int) = (((i + 1) % r.length : Nat) : Int) := by
      rw [w64_succ (by omega)]; rfl
    have hlt : (i + 1) % r.length < r.length := Nat.mod_lt _ (by omega)
    refine Tends2.succ (Tends2.congr (fun K k => ?_) ih)
    rw [spec_l27Edges.l1, if_pos (by omega), if_neg (by omega), hm, if_pos (by omega), if_pos (by omega), Int.toNat_natCast, Int.toNat_natCast]
    unfold spec_l27Level.f
    rw [Option.bind_some, Option.bind_some, if_pos (by simp only [List.length_map, List.length_range]; omega), w64_succ (by omega), List.range_succ, List.map_append, List.map_append]
    rfl
theorem edges_f (r : List Int) (hr : r.length ≤ 1000) : Tends (fun K => spec_l27Edges.f K r) ((edgesOf r).map two) :=
  Tends.congr (fun K => rfl) (edges_l1 r hr r.length 0 rfl (Nat.zero_le _)).diag
theorem pure_l1 (E : List (Int × Int)) (hE : E.length ≤ 1000) (lv : Int) : ∀ (d i : Nat), E.length - i = d → i ≤ E.length → Tends2 (fun K k => spec_l27Pure.l1 K k (E.map two) lv (i : Int)) ((E.drop i).any fun e => decide (e.1 = lv) && decide (e.2 = lv))
  | 0, i, hd, hi => by
    obtain rfl : i = E.length := by omega
    refine Tends2.succ (Tends2.congr (fun K k => ?_) (Tends2.const _))
    rw [spec_l27Pure.l1, if_neg (by rw [List.length_map]; omega), List.drop_length]
    rfl
  | d + 1, i, hd, hi => by
    have hlt : i < E.length := by omega
    have ih := pure_l1 E hE lv d (i + 1) (by omega) (by omega)
    have hg : (E.map two).getD i [] = two E[i] := by
      rw [List.getD_eq_getElem?_getD, List.getElem?_map, List.getElem?_eq_getElem hlt]; rfl
    have hdr : (E.drop i).any (fun e => decide (e.1 = lv) && decide (e.2 = lv)) = ((decide (E[i].1 = lv) && decide (E[i].2 = lv)) || (E.drop (i + 1)).any fun e => decide (e.1 = lv) && decide (e.2 = lv)) := by
      rw [List.drop_eq_getElem_cons hlt, List.any_cons]
    rw [hdr]
    have hstep : ∀ K k, spec_l27Pure.l1 K (k + 1) (E.map two) lv (i : Int) = if E[i].1 = lv then (if E[i].2 = lv then some true else spec_l27Pure.l1 K k (E.map two) lv ((i + 1 : Nat) : Int)) else spec_l27Pure.l1 K k (E.map two) lv ((i + 1 : Nat) : Int) := fun K k => by
      rw [spec_l27Pure.l1, if_pos (by rw [List.length_map]; omega), if_pos (by rw [List.length_map]; omega), Int.toNat_natCast, hg, if_pos (by simp [two]), w64_succ (by omega)]
      have h1' : (0 : Int) ≤ 1 ∧ (1 : Int) < ((two E[i]).length : Int) := by simp [two]
      simp only [if_pos h1']
      rfl
    refine Tends2.succ (Tends2.congr hstep ?_)
    by_cases h1 : E[i].1 = lv
    · refine Tends2.pos h1 ?_
      by_cases h2 : E[i].2 = lv
      · refine Tends2.pos h2 ?_
        rw [decide_eq_true h1, decide_eq_true h2]
        exact Tends2.const _
      · refine Tends2.neg h2 ?_
        rw [decide_eq_false h2, Bool.and_false, Bool.false_or]
        exact ih
    · refine Tends2.neg h1 ?_
      rw [decide_eq_false h1, Bool.false_and, Bool.false_or]
      exact ih
theorem pure_f (r : List Int) (hr : r.length ≤ 1000) (lv : Int) : Tends (fun K => spec_l27Pure.f K ((edgesOf r).map two) lv) (pureAt r lv) :=
  Tends.congr (fun K => rfl) (pure_l1 (edgesOf r) (by simp [edgesOf]; exact hr) lv (edgesOf r).length 0 rfl (Nat.zero_le _)).diag
theorem lev1_nat {k : Nat} (h : k < 1000000) : lev1 (k : Int) = (((k % 4 + 1) % 4 % 2 : Nat) : Int) := by
  unfold lev1
  rw [corner_mod h]; rfl
theorem lev0_nat (k : Nat) : lev0 (k : Int) = ((k % 4 % 2 : Nat) : Int) := rfl
theorem upper1 {k : Nat} (h : k < 1000000) : impl_isUpper.f ((w64 ((k : Int) + 1)).tmod 4) = some (decide (lev1 (k : Int) = 1)) := by
  unfold impl_isUpper.f
  rw [corner_mod' h, lev1_nat h]; rfl
theorem upper0 (k : Nat) : impl_isUpper.f ((k : Int).tmod 4) = some (decide (lev0 (k : Int) = 1)) := rfl
theorem lev1_01 {k : Nat} (h : k < 1000000) : decide (lev1 (k : Int) = 0) = !decide (lev1 (k : Int) = 1) := by
  rw [lev1_nat h]
  have : (k % 4 + 1) % 4 % 2 < 2 := Nat.mod_lt _ (by decide)
  rcases (show (k % 4 + 1) % 4 % 2 = 0 ∨ (k % 4 + 1) % 4 % 2 = 1 by omega) with e | e <;> rw [e] <;> rfl
theorem lev0_01 (k : Nat) : decide (lev0 (k : Int) = 0) = !decide (lev0 (k : Int) = 1) := by
  rw [lev0_nat]
  have : k % 4 % 2 < 2 := Nat.mod_lt _ (by decide)
  rcases (show k % 4 % 2 = 0 ∨ k % 4 % 2 = 1 by omega) with e | e <;> rw [e] <;> rfl
end Go.Proofs.YtdfiglhdjlmakaaGreat
