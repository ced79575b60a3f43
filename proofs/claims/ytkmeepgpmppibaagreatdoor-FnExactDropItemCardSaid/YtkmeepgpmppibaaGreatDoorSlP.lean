/-
  A row of elements with memory of their own, seen as a row of numbers: the elements stay, the row names them.
-/
import Derived.Test.YtkmeepgpmppibaaGreatDoorSlO
set_option linter.unusedVariables false
set_option linter.unusedSimpArgs false
namespace Go.Proofs.YtkmeepgpmppibaaGreatDoor
open Go.RowKit
def HdrT {α : Type} (T : Ty α) (ly : Nat → T.Lay) (xs : List α) (z : α) (l0 : T.Lay) : Option Nat → List Value
  | none => T.cells l0 z
  | some k => T.cells (ly k) (xs.getD k z)
theorem HdrT_len {α : Type} (T : Ty α) (ly : Nat → T.Lay) (xs : List α) (z : α) (l0 : T.Lay) (o : Option Nat) : (HdrT T ly xs z l0 o).length = T.sz := by cases o <;> exact T.len _ _
theorem HdrT_one {α : Type} (T : Ty α) (ly : Nat → T.Lay) (xs : List α) (z : α) (l0 : T.Lay) (o : Option Nat) (u : Value) (h : u ∈ HdrT T ly xs z l0 o) : u.oneCell' = true := by cases o <;> exact T.one _ _ _ h
abbrev TIx {α : Type} (T : Ty α) (ly : Nat → T.Lay) (xs : List α) (z : α) (l0 : T.Lay) : Ty (Option Nat) := Ty.flat T.sz (fun o => HdrT T ly xs z l0 o) (HdrT_len T ly xs z l0) (HdrT_one T ly xs z l0)
def RowsT {α : Type} (T : Ty α) (ly : Nat → T.Lay) (xs : List α) : HObj where
  P := fun w q => SepM T w ly 0 xs q
  loc := fun h hk => h.loc hk
  more := fun h hk => h.more hk
section
variable {α : Type} {T : Ty α} {t : TypeId} {w0 w : World} {L : List HObj} {A A' : Option Addr} {c c' m : Nat} {ly ly' : Nat → T.Lay} {xs r : List α} {z : α} {l0 : T.Lay} {is : List (Option Nat)}
theorem rc_ix : ∀ (ys : List α) (i m : Nat), (∀ k, k < ys.length → xs.getD (i + k) z = ys.getD k z) → rc T ly i ys = rc (TIx T ly xs z l0) (fun _ => ()) m ((List.range' i ys.length).map some)
  | [], _, _, _ => rfl
  | y :: r, i, m, h => by
    have h0 := h 0 (by simp)
    rw [Nat.add_zero, List.getD_cons_zero] at h0
    have ih := rc_ix r (i + 1) (m + 1) (fun k hk => by
      have := h (k + 1) (by simp only [List.length_cons]; omega)
      rw [List.getD_cons_succ] at this
      rw [show i + 1 + k = i + (k + 1) by omega]
      exact this)
    rw [List.length_cons, List.range'_succ, List.map_cons, rc, rc, ih]
    show T.cells (ly i) y ++ _ = T.cells (ly i) (xs.getD i z) ++ _
    rw [h0]
theorem St.splitT (z : α) (l0 : T.Lay) (HS : St w0 w (Own T t A c ly xs :: L)) : St w0 w (Own (TIx T ly xs z l0) t A c (fun _ => ()) (allRows xs.length) :: RowsT T ly xs :: L) := by
  obtain ⟨hbel, q, r, hq, hr, hqr, ⟨q1, q2, h1, h2, hd, hown, hb, hs⟩, hL⟩ := HS
  refine ⟨hbel, q1, fun k => q2 k ∨ r k, fun k hk => hq k (h1 k hk), fun k hk => hk.elim (fun h => hq k (h2 k h)) (hr k), fun k hk hn => hn.elim (hd k hk) (fun h => hqr k (h1 k hk) h), ⟨q1, fun _ => False, fun _ h => h, fun _ h => h.elim, fun _ _ h => h, ?_, ?_, SepM.flat flat_flat _ _ _⟩, q2, r, fun k hk => .inl hk, fun k hk => .inr hk, fun k hk hn => hqr k (h2 k hk) hn, hs, hL⟩
  · have he := rc_ix (ly := ly) (xs := xs) (z := z) (l0 := l0) xs 0 0 (fun k _ => by rw [Nat.zero_add])
    rw [allRows_length]
    unfold allRows
    rw [List.range_eq_range', ← he]
    exact hown
  · rw [allRows_length]; exact hb
def pickT {α : Type} (z : α) (xs : List α) (is : List (Option Nat)) : Option (List α) :=
  if is = (is.map (·.getD 0)).map some ∧ (is.map (·.getD 0)).Pairwise (· < ·) ∧ ∀ k, k ∈ is.map (·.getD 0) → k < xs.length then some ((is.map (·.getD 0)).map (fun k => xs.getD k z)) else none
theorem rc_pickT : ∀ (js : List Nat) (i m : Nat), (∀ k, k < js.length → ly' (i + k) = ly (js.getD k 0)) → rc (TIx T ly xs z l0) (fun _ => ()) m (js.map some) = rc T ly' i (js.map (fun k => xs.getD k z))
  | [], _, _, _ => rfl
  | k :: js, i, m, h => by
    have h0 := h 0 (by simp)
    rw [Nat.add_zero, List.getD_cons_zero] at h0
    have ih := rc_pickT js (i + 1) (m + 1) (fun k hk => by
      have := h (k + 1) (by simp only [List.length_cons]; omega)
      rw [List.getD_cons_succ] at this
      rw [show i + 1 + k = i + (k + 1) by omega]
      exact this)
    rw [List.map_cons, List.map_cons, rc, rc, ih]
    show T.cells (ly k) (xs.getD k z) ++ _ = T.cells (ly' i) (xs.getD k z) ++ _
    rw [h0]
theorem St.unsplitT (HS : St w0 w (Own (TIx T ly xs z l0) t A c (fun _ => ()) is :: RowsT T ly xs :: L)) (hm : m ≤ is.length) (hr : pickT z xs (is.take m) = some r) (hA : A' = A) (hc : c' = c) :
    ∃ ly', r.length = m ∧ St w0 w (Own T t A' c' ly' r :: L) := by
  subst hA
  subst hc
  have hcut := HS.cutOwn (j := 0) (l := 0) (h := m) (m := c') rfl (Nat.zero_le _) hm (Nat.le_trans hm ((RdIn.own (j := 0) rfl) w HS).1) (Nat.le_refl _) rfl rfl
  rw [List.drop_zero] at hcut
  replace hcut : St w0 w (Own (TIx T ly xs z l0) t (cutA A' 0 c' T.sz) (c' - 0) (fun _ => ()) (is.take m) :: RowsT T ly xs :: L) := hcut
  rw [cutA_zero, Nat.sub_zero] at hcut
  unfold pickT at hr
  split at hr
  · rename_i hc
    obtain ⟨hc1, hc2, hc3⟩ := hc
    obtain rfl := Option.some.inj hr
    generalize hjs : (is.take m).map (·.getD 0) = js at hc1 hc2 hc3
    have hlen : js.length = m := by rw [← hjs, List.length_map, List.length_take]; omega
    have hil : (is.take m).length = js.length := by rw [hc1, List.length_map]
    obtain ⟨hbel, q, r, hq, hr, hqr, ⟨q1, q2, h1, h2, hd, hown, hb, hs⟩, q3, r3, hq3, hr3, hd3, hs3, hL⟩ := hcut
    refine ⟨fun k => ly (js.getD k 0), by rw [List.length_map, hlen], hbel, fun k => q1 k ∨ q3 k, r3, ?_, ?_, ?_, ⟨q1, q3, fun k hk => .inl hk, fun k hk => .inr hk, ?_, ?_, ?_, ?_⟩, hL⟩
    · exact fun k hk => hk.elim (fun h => hq k (h1 k h)) (fun h => hr k (hq3 k h))
    · exact fun k hk => hr k (hr3 k hk)
    · exact fun k hk hn => hk.elim (fun h => hqr k (h1 k h) (hr3 k hn)) (fun h => hd3 k h hn)
    · exact fun k hk hn => hqr k (h1 k hk) (hq3 k hn)
    · have he := rc_pickT (ly := ly) (ly' := fun k => ly (js.getD k 0)) (xs := xs) (z := z) (l0 := l0) js 0 0 (fun k _ => by rw [Nat.zero_add])
      rw [← he, ← hc1, List.length_map, ← hil]
      exact hown
    · intro k hk
      rw [List.length_map, ← hil] at hk
      exact hb k hk
    · have := SepM.sel (ly' := fun k => ly (js.getD k 0)) (d := z) (i0 := 0) hs3 hc2 (fun k hk => ⟨Nat.zero_le _, by rw [Nat.zero_add]; exact hc3 k hk⟩) (fun m _ => by rw [Nat.zero_add])
      simpa using this
  · cases hr
end
end Go.Proofs.YtkmeepgpmppibaaGreatDoor
