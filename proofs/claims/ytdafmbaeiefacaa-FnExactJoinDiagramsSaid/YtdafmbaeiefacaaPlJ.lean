/-
  Two diagrams side by side.
-/
import Derived.Test.YtdafmbaeiefacaaPlM
set_option linter.unusedVariables false
set_option linter.unusedSimpArgs false
set_option linter.unusedSectionVars false
namespace Go.Proofs.Ytdafmbaeiefacaa
open Go.RowKit
def shiftC (s : Int) (x : GCrossing) : GCrossing := ⟨w64 (x.A + s), w64 (x.B + s), w64 (x.C + s), w64 (x.D + s), x.Sign⟩
def joined (ds es : List GCrossing) : List GCrossing := ds ++ es.map (shiftC (2 * (ds.length : Int)))
theorem joined_length (ds es : List GCrossing) : (joined ds es).length = ds.length + es.length := by simp [joined]
theorem getD_take_succ {es : List GCrossing} {c : Nat} (h : c < es.length) (s : Int) : (es.take (c + 1)).map (shiftC s) = (es.take c).map (shiftC s) ++ [shiftC s (es.getD c z_GCrossing)] := by
  rw [List.take_add_one, List.map_append, List.getD_eq_getElem?_getD, List.getElem?_eq_getElem h]
  rfl
section
variable {ds es : List GCrossing} (hd : ds.length ≤ 2000000) (he : es.length ≤ 2000000) (cd ce : Int)
include hd he
theorem union_list : ∀ (d c : Nat), es.length - c = d → c ≤ es.length → Tends2 (fun K k => spec_l25Union.l1 K k ds cd es ce (ds ++ (es.take c).map (shiftC (2 * (ds.length : Int)))) (c : Int)) (joined ds es, w64 (cd + ce))
  | 0, c, h1, h2 => by
    obtain rfl : c = es.length := by omega
    refine Tends2.succ (Tends2.congr (fun K k => ?_) (Tends2.const _))
    rw [spec_l25Union.l1, if_neg (by omega), List.take_length]
    rfl
  | d + 1, c, h1, h2 => by
    refine Tends2.succ (Tends2.congr (fun K k => ?_) (union_list d (c + 1) (by omega) (by omega)))
    have hw : w64 (2 * (ds.length : Int)) = 2 * (ds.length : Int) := w64_id (by omega) (by omega)
    rw [spec_l25Union.l1, if_pos (by omega), if_pos (by omega), bnd_eq, if_pos (by simp; omega), Int.toNat_natCast, w64_succ (by omega), hw, getD_take_succ (by omega), ← List.append_assoc]
    rfl
theorem beside_list : ∀ (d c : Nat), es.length - c = d → c ≤ es.length → Tends2 (fun K k => impl_beside.l1 K k cd es ce (ds.length : Int) (ds ++ (es.take c).map (shiftC (2 * (ds.length : Int)))) (c : Int)) (joined ds es, w64 (cd + ce))
  | 0, c, h1, h2 => by
    obtain rfl : c = es.length := by omega
    refine Tends2.succ (Tends2.congr (fun K k => ?_) (Tends2.const _))
    rw [impl_beside.l1, if_neg (by omega), List.take_length]
    rfl
  | d + 1, c, h1, h2 => by
    refine Tends2.succ (Tends2.congr (fun K k => ?_) (beside_list d (c + 1) (by omega) (by omega)))
    have hw : w64 (2 * (ds.length : Int)) = 2 * (ds.length : Int) := w64_id (by omega) (by omega)
    rw [impl_beside.l1, if_pos (by omega), if_pos (by omega), bnd_eq, if_pos (by simp; omega), Int.toNat_natCast, w64_succ (by omega), hw, getD_take_succ (by omega), ← List.append_assoc]
    rfl
theorem union_f : Tends (fun K => spec_l25Union.f K ds cd es ce) (joined ds es, w64 (cd + ce)) := by
  refine Tends.congr (fun K => ?_) (union_list hd he cd ce es.length 0 rfl (by omega)).diag
  rw [spec_l25Union.f, if_pos (by simp; omega)]
  simp
theorem clone_f {xs : List GCrossing} (h : xs.length ≤ 2000000) : slices_Clone_impl_Crossing_impl_Crossing.f xs = some xs := by
  unfold slices_Clone_impl_Crossing_impl_Crossing.f
  rw [if_pos (by simp; omega)]
  rfl
theorem beside_f : Tends (fun K => impl_beside.f K ds cd es ce) (joined ds es, w64 (cd + ce)) := by
  refine Tends.congr (fun K => ?_) (beside_list hd he cd ce es.length 0 rfl (by omega)).diag
  rw [impl_beside.f, impl_size_impl_Crossing.f, Option.bind_some, clone_f hd he hd, Option.bind_some]
  simp
end
theorem joined_left (ds es : List GCrossing) {c : Nat} (h : c < ds.length) : (joined ds es).getD c z_GCrossing = ds.getD c z_GCrossing := by
  unfold joined
  rw [List.getD_eq_getElem?_getD, List.getElem?_append_left h, ← List.getD_eq_getElem?_getD]
theorem joined_right (ds es : List GCrossing) {c : Nat} (h : c < es.length) : (joined ds es).getD (ds.length + c) z_GCrossing = shiftC (2 * (ds.length : Int)) (es.getD c z_GCrossing) := by
  unfold joined
  rw [List.getD_eq_getElem?_getD, List.getElem?_append_right (by omega), Nat.add_sub_cancel_left, List.getElem?_map, List.getElem?_eq_getElem h, List.getD_eq_getElem?_getD, List.getElem?_eq_getElem h]
  rfl
theorem arc_left (ds es : List GCrossing) {q : Nat} (h : q < 4 * ds.length) : arcAt (joined ds es) q = arcAt ds q ∧ entAt (joined ds es) q = entAt ds q := by
  unfold arcAt entAt
  rw [joined_left ds es (by omega)]
  exact ⟨rfl, rfl⟩
theorem endv_shift (s : Int) (x : GCrossing) {p : Nat} (h : p < 4) : endv (shiftC s x) p = w64 (endv x p + s) := by
  match p, h with
  | 0, _ | 1, _ | 2, _ | 3, _ => rfl
theorem arc_right (ds es : List GCrossing) {q : Nat} (h : q < 4 * es.length) : arcAt (joined ds es) (4 * ds.length + q) = w64 (arcAt es q + 2 * (ds.length : Int)) ∧ entAt (joined ds es) (4 * ds.length + q) = entAt es q := by
  unfold arcAt entAt
  rw [show (4 * ds.length + q) / 4 = ds.length + q / 4 by omega, show (4 * ds.length + q) % 4 = q % 4 by omega, joined_right ds es (by omega), endv_shift _ _ (Nat.mod_lt _ (by decide))]
  exact ⟨rfl, rfl⟩
section
variable {ds es : List GCrossing} (hd : ds.length ≤ 10) (he : es.length ≤ 10) (sd : Signs ds) (se : Signs es) {f t f' t' : List GEnd} (gd : Good ds f t) (ge : Good es f' t')
include hd he sd se gd ge
theorem arc_right' {q : Nat} (h : q < 4 * es.length) : arcAt (joined ds es) (4 * ds.length + q) = arcAt es q + 2 * (ds.length : Int) := by
  rw [(arc_right ds es h).1]
  have := ge.range h
  exact w64_id (by omega) (by omega)
theorem joined_signs : Signs (joined ds es) := fun c hc => by
  rw [joined_length] at hc
  by_cases h : c < ds.length
  · rw [joined_left ds es h]; exact sd c h
  · obtain ⟨k, rfl⟩ : ∃ k, c = ds.length + k := ⟨c - ds.length, by omega⟩
    rw [joined_right ds es (by omega)]
    exact se k (by omega)
theorem joined_inj : Inj (joined ds es) := by
  have hlen := joined_length ds es
  have cut : ∀ q, q < 4 * (joined ds es).length → q < 4 * ds.length ∨ ∃ k, k < 4 * es.length ∧ q = 4 * ds.length + k := fun q hq => by
    by_cases h : q < 4 * ds.length
    · exact .inl h
    · exact .inr ⟨q - 4 * ds.length, by omega, by omega⟩
  refine ⟨fun q hq => ?_, fun q q' hq hq' ha hb => ?_⟩
  · rcases cut q hq with h | ⟨k, h, rfl⟩
    · have := gd.range h
      rw [(arc_left ds es h).1]
      omega
    · have := ge.range h
      rw [arc_right' hd he sd se gd ge h]
      omega
  · rcases cut q hq with h | ⟨k, h, rfl⟩ <;> rcases cut q' hq' with h' | ⟨k', h', rfl⟩
    · rw [(arc_left ds es h).1, (arc_left ds es h').1] at ha
      rw [(arc_left ds es h).2, (arc_left ds es h').2] at hb
      exact gd.one hd sd h h' ha hb
    · rw [(arc_left ds es h).1, arc_right' hd he sd se gd ge h'] at ha
      have := gd.range h
      have := ge.range h'
      omega
    · rw [(arc_left ds es h').1, arc_right' hd he sd se gd ge h] at ha
      have := gd.range h'
      have := ge.range h
      omega
    · rw [arc_right' hd he sd se gd ge h, arc_right' hd he sd se gd ge h'] at ha
      rw [(arc_right ds es h).2, (arc_right ds es h').2] at hb
      rw [ge.one he se h h' (by omega) hb]
end
end Go.Proofs.Ytdafmbaeiefacaa
