/-
  How much a bench is bounds what marking counts; the copies of items, lists and stacks.
-/
import Derived.Test.YtkmeepgpmppibaaGreatDoorPlBM
set_option linter.unusedVariables false
set_option linter.unusedSimpArgs false
namespace Go.Proofs.YtkmeepgpmppibaaGreatDoor
open Go.RowKit
theorem szW1 {n : Nat} {F : Nat → Int → Option Int} {left : Int} (h0 : 0 ≤ left) (h1 : left ≤ 1048576) (hn : n ≤ 9223372036854775807) {P : Int → Prop} (h : ∀ l, 0 ≤ l → l + (n : Int) = left → ∃ r, Tends (fun K => F K l) r ∧ (r < 0 ∨ P r)) :
    ∃ r, Tends (fun K => if w64 (left - (n : Int)) < 0 then some (-1) else F K (w64 (left - (n : Int)))) r ∧ (r < 0 ∨ P r) := by
  rw [w64_id (by omega) (by omega)]
  by_cases hl : left - (n : Int) < 0
  · exact ⟨-1, Tends.pos hl (Tends.const _), .inl (by omega)⟩
  · obtain ⟨r, t, c⟩ := h (left - n) (by omega) (by omega)
    exact ⟨r, Tends.neg hl t, c⟩
theorem sz_loopW {n : Nat} {l : Nat → Nat → Int → Nat → Option Int} {one : Nat → Nat → Int → Option Int} {Q : Nat → Prop} {wt : Nat → Nat}
    (hl : ∀ K k left i, i < n → l K (k + 1) left i = (one K i left).bind fun t => if t < 0 then some (-1) else l K k t (i + 1)) (he : ∀ K k left, l K (k + 1) left n = some left)
    (h1 : ∀ i, i < n → ∀ left : Int, 0 ≤ left → left ≤ 1048576 → ∃ r, Tends (fun K => one K i left) r ∧ (r < 0 ∨ (0 ≤ r ∧ 6 * r + (wt i : Int) ≤ 6 * left ∧ Q i))) :
    ∀ m i left, n - i = m → i ≤ n → 0 ≤ left → left ≤ 1048576 → ∃ r, Tends2 (fun K k => l K k left i) r ∧ (r < 0 ∨ (0 ≤ r ∧ 6 * r + (sumF wt i m : Int) ≤ 6 * left ∧ ∀ j, i ≤ j → j < n → Q j))
  | 0, i, left, hm, hi, z0, z1 => by
    obtain rfl : i = n := by omega
    exact ⟨left, Tends2.of fun K k => he K k left, .inr ⟨z0, by simp [sumF], fun j a b => by omega⟩⟩
  | m + 1, i, left, hm, hi, z0, z1 => by
    obtain ⟨r, t, c⟩ := h1 i (by omega) left z0 z1
    by_cases hr : r < 0
    · exact ⟨-1, Tends2.step (fun K k => hl K k left i (by omega)) (Tends2.bind t.two (Tends2.pos hr (Tends2.const _))), .inl (by omega)⟩
    · obtain ⟨c0, c1, c2⟩ := c.resolve_left hr
      obtain ⟨r', t', d⟩ := sz_loopW hl he h1 m (i + 1) r (by omega) (by omega) c0 (by omega)
      refine ⟨r', Tends2.step (fun K k => hl K k left i (by omega)) (Tends2.bind t.two (Tends2.neg hr t')), ?_⟩
      rcases d with d | ⟨d0, d1, d2⟩
      · exact .inl d
      · refine .inr ⟨d0, by rw [sumF]; omega, fun j a b => ?_⟩
        by_cases e : j = i
        · subst e; exact c2
        · exact d2 j (by omega) b
theorem szFaceW {xs : List (List GFace)} (hn : xs.length ≤ 9223372036854775807) (hr : ∀ i, i < xs.length → (xs.getD i []).length ≤ 9223372036854775807) {left : Int} (h0 : 0 ≤ left) (h1 : left ≤ 1048576) :
    ∃ r, Tends (fun K => laws_szTriangulation.f K xs left) r ∧ (r < 0 ∨ (0 ≤ r ∧ 6 * r + (cF xs : Int) ≤ 6 * left ∧ xs.length ≤ 2000000 ∧ ∀ j, j < xs.length → (xs.getD j []).length ≤ 2000000)) := by
  unfold laws_szTriangulation.f
  refine szBind (P := fun r => 0 ≤ r ∧ 6 * r + (cF xs : Int) ≤ 6 * left ∧ xs.length ≤ 2000000 ∧ ∀ j, j < xs.length → (xs.getD j []).length ≤ 2000000) ?_ fun r hr _ => ⟨r, Tends.const _, .inr hr⟩
  unfold laws_szFaceSS.f
  refine szW1 (F := fun K l => laws_szFaceSS.l1 K K xs l 0) h0 h1 hn fun l0 a0 a1 => ?_
  obtain ⟨r, t, c⟩ := sz_loopW (n := xs.length) (l := fun K k left i => laws_szFaceSS.l1 K k xs left (i : Int)) (one := fun K i left => laws_szFaceS.f (xs.getD i []) left) (Q := fun i => (xs.getD i []).length ≤ 2000000) (wt := fun i => 2 * (xs.getD i []).length)
    (fun K k left i hi => by rw [laws_szFaceSS.l1, if_pos (by omega), if_pos (by omega), Int.toNat_natCast, w64_succ (by omega)])
    (fun K k left => by rw [laws_szFaceSS.l1, if_neg (by omega)])
    (fun i hi left y0 y1 => szW1 (F := fun _ l => some l) y0 y1 (hr i hi) fun l b0 b1 => ⟨l, Tends.const _, .inr ⟨b0, by omega, by omega⟩⟩) xs.length 0 l0 (by omega) (by omega) a0 (by omega)
  refine ⟨r, t.diag, c.imp id fun ⟨c0, c1, c2⟩ => ⟨c0, ?_, by omega, fun j hj => c2 j (Nat.zero_le _) hj⟩⟩
  show 6 * r + (sumF (fun i => 2 * (xs.getD i []).length) 0 xs.length : Int) ≤ _
  omega
theorem szItemW {x : GItem} (h : Fits x) {left : Int} (z0 : 0 ≤ left) (z1 : left ≤ 1048576) : ∃ r, Tends (fun K => szI K x left) r ∧ (r < 0 ∨ (0 ≤ r ∧ 6 * r + ((cItem x : Nat) : Int) ≤ 6 * left + 6 ∧ Small x)) := by
  obtain ⟨h1, ⟨h2, h2r⟩, h3, h4, h5, h6, h7⟩ := h
  unfold szI laws_szItem.f cItem
  refine szW1 (F := fun K l => (laws_szTriangulation.f K x.Triangulation_Tets l).bind _) z0 z1 h1 fun l0 a0 a1 => ?_
  refine szBind (szFaceW h2 h2r a0 (by omega)) fun l1 ⟨b0, b1, b2⟩ _ => ?_
  unfold laws_szDiagram.f laws_szCrossingS.f laws_szBraid.f laws_szInt64S.f laws_szCertificate.f laws_szMoveS.f laws_szInt64S.f
  refine szBind (P := fun r => 0 ≤ r ∧ r + (x.Diagram_Crossings.length : Int) = l1) (szBind (P := fun r => 0 ≤ r ∧ r + (x.Diagram_Crossings.length : Int) = l1) (szW1 (F := fun _ l => some l) b0 (by omega) h3 fun l e0 e1 => ⟨l, Tends.const _, .inr ⟨e0, e1⟩⟩) fun r hr _ => ⟨r, Tends.const _, .inr hr⟩) fun l2 ⟨c0, c1⟩ _ => ?_
  refine szBind (P := fun r => 0 ≤ r ∧ r + (x.Braid_Word.length : Int) = l2) (szBind (P := fun r => 0 ≤ r ∧ r + (x.Braid_Word.length : Int) = l2) (szW1 (F := fun _ l => some l) c0 (by omega) h4 fun l e0 e1 => ⟨l, Tends.const _, .inr ⟨e0, e1⟩⟩) fun r hr _ => ⟨r, Tends.const _, .inr hr⟩) fun l3 ⟨d0, d1⟩ _ => ?_
  refine szBind (P := fun r => 0 ≤ r ∧ r + (x.Certificate_Moves.length : Int) + (x.Certificate_Tets.length : Int) + (x.Certificate_Perms.length : Int) = l3) ?_ fun l6 ⟨f0, f1⟩ _ => ⟨l6, Tends.const _, .inr ⟨f0, by omega, by omega, b2, by omega, by omega, by omega, by omega, by omega⟩⟩
  refine szBind (P := fun r => 0 ≤ r ∧ r + (x.Certificate_Moves.length : Int) = l3) (szW1 (F := fun _ l => some l) d0 (by omega) h5 fun l e0 e1 => ⟨l, Tends.const _, .inr ⟨e0, e1⟩⟩) fun l4 ⟨e0, e1⟩ _ => ?_
  refine szBind (P := fun r => 0 ≤ r ∧ r + (x.Certificate_Tets.length : Int) = l4) (szW1 (F := fun _ l => some l) e0 (by omega) h6 fun l e0 e1 => ⟨l, Tends.const _, .inr ⟨e0, e1⟩⟩) fun l5 ⟨g0, g1⟩ _ => ?_
  exact szBind (P := fun r => 0 ≤ r ∧ r + (x.Certificate_Perms.length : Int) = l5) (szW1 (F := fun _ l => some l) g0 (by omega) h7 fun l e0 e1 => ⟨l, Tends.const _, .inr ⟨e0, e1⟩⟩) fun l6 ⟨p0, p1⟩ _ => ⟨l6, Tends.const _, .inr ⟨p0, by omega⟩⟩
theorem sumF_add (f : Nat → Nat) (c : Nat) : ∀ m i, sumF (fun i => f i + c) i m = sumF f i m + c * m
  | 0, _ => rfl
  | m + 1, i => by rw [sumF, sumF_add f c m, sumF, Nat.mul_succ]; omega
theorem sumF_le {f g : Nat → Nat} : ∀ m i, (∀ j, i ≤ j → j < i + m → f j ≤ g j) → sumF f i m ≤ sumF g i m
  | 0, _, _ => Nat.le_refl _
  | m + 1, i, h => by
    have h1 := h i (Nat.le_refl _) (by omega)
    have h2 := sumF_le m (i + 1) (fun j hj hj' => h j (by omega) (by omega))
    rw [sumF, sumF]; omega
theorem cItem_pos (x : GItem) : 6 ≤ cItem x := by unfold cItem; omega
theorem szItemSW {xs : List GItem} (hn : xs.length ≤ 9223372036854775807) (h : ∀ i, i < xs.length → Fits (xs.getD i z_GItem)) {left : Int} (z0 : 0 ≤ left) (z1 : left ≤ 1048576) :
    ∃ r, Tends (fun K => laws_szItemS.f K xs left) r ∧ (r < 0 ∨ (0 ≤ r ∧ 6 * r + (cItemS xs : Int) ≤ 6 * left ∧ xs.length ≤ 2000000 ∧ ∀ i, i < xs.length → Small (xs.getD i z_GItem))) := by
  unfold laws_szItemS.f
  refine szW1 (F := fun K l => laws_szItemS.l1 K K xs l 0) z0 z1 hn fun l0 a0 a1 => ?_
  obtain ⟨r, t, c⟩ := sz_loopW (n := xs.length) (l := fun K k left i => laws_szItemS.l1 K k xs left (i : Int)) (one := fun K i left => szI K (xs.getD i z_GItem) left) (Q := fun i => Small (xs.getD i z_GItem)) (wt := fun i => cItem (xs.getD i z_GItem) - 6)
    (fun K k left i hi => by rw [laws_szItemS.l1, if_pos (by omega), if_pos (by omega), Int.toNat_natCast, bnd_eq, w64_succ (by omega)])
    (fun K k left => by rw [laws_szItemS.l1, if_neg (by omega)])
    (fun i hi left y0 y1 => by
      obtain ⟨r, t, c⟩ := szItemW (h i hi) y0 y1
      have := cItem_pos (xs.getD i z_GItem)
      exact ⟨r, t, c.imp id fun ⟨c0, c1, c2⟩ => ⟨c0, by omega, c2⟩⟩) xs.length 0 l0 (by omega) (by omega) a0 (by omega)
  refine ⟨r, t.diag, c.imp id fun ⟨c0, c1, c2⟩ => ⟨c0, ?_, by omega, fun i hi => c2 i (Nat.zero_le _) hi⟩⟩
  have h1 := sumF_le (f := fun i => cItem (xs.getD i z_GItem)) (g := fun i => (cItem (xs.getD i z_GItem) - 6) + 6) xs.length 0 (fun j _ _ => by have := cItem_pos (xs.getD j z_GItem); omega)
  rw [sumF_add] at h1
  unfold cItemS
  omega
theorem szItemSSW {xs : List (List GItem)} (hn : xs.length ≤ 9223372036854775807) (hr : ∀ i, i < xs.length → (xs.getD i []).length ≤ 9223372036854775807 ∧ ∀ j, j < (xs.getD i []).length → Fits ((xs.getD i []).getD j z_GItem)) {left : Int} (z0 : 0 ≤ left) (z1 : left ≤ 1048576) :
    ∃ r, Tends (fun K => laws_szItemSS.f K xs left) r ∧ (r < 0 ∨ (0 ≤ r ∧ 6 * r + (cItemSS xs : Int) ≤ 6 * left ∧ StackS xs)) := by
  unfold laws_szItemSS.f
  refine szW1 (F := fun K l => laws_szItemSS.l1 K K xs l 0) z0 z1 hn fun l0 a0 a1 => ?_
  obtain ⟨r, t, c⟩ := sz_loopW (n := xs.length) (l := fun K k left i => laws_szItemSS.l1 K k xs left (i : Int)) (one := fun K i left => laws_szItemS.f K (xs.getD i []) left) (Q := fun i => (xs.getD i []).length ≤ 2000000 ∧ ∀ j, j < (xs.getD i []).length → Small ((xs.getD i []).getD j z_GItem)) (wt := fun i => cItemS (xs.getD i []))
    (fun K k left i hi => by rw [laws_szItemSS.l1, if_pos (by omega), if_pos (by omega), Int.toNat_natCast, w64_succ (by omega)])
    (fun K k left => by rw [laws_szItemSS.l1, if_neg (by omega)])
    (fun i hi left y0 y1 => szItemSW (hr i hi).1 (hr i hi).2 y0 y1) xs.length 0 l0 (by omega) (by omega) a0 (by omega)
  refine ⟨r, t.diag, c.imp id fun ⟨c0, c1, c2⟩ => ⟨c0, ?_, by omega, fun i hi => c2 i (Nat.zero_le _) hi⟩⟩
  unfold cItemSS
  omega
theorem szBenchW {I : List GItem} {U R : List (List GItem)} (hI : I.length ≤ 9223372036854775807) (hIs : ∀ i, i < I.length → Fits (I.getD i z_GItem))
    (hU : U.length ≤ 9223372036854775807) (hUs : ∀ i, i < U.length → (U.getD i []).length ≤ 9223372036854775807 ∧ ∀ j, j < (U.getD i []).length → Fits ((U.getD i []).getD j z_GItem))
    (hR : R.length ≤ 9223372036854775807) (hRs : ∀ i, i < R.length → (R.getD i []).length ≤ 9223372036854775807 ∧ ∀ j, j < (R.getD i []).length → Fits ((R.getD i []).getD j z_GItem)) :
    ∃ r, Tends (fun K => laws_szBench.f K I U R 1048576) r ∧ (r < 0 ∨ (cItemS I + cItemSS U + cItemSS R ≤ 10000000 ∧ (I.length ≤ 2000000 ∧ ∀ i, i < I.length → Small (I.getD i z_GItem)) ∧ StackS U ∧ StackS R)) := by
  unfold laws_szBench.f
  refine szBind (szItemSW hI hIs (by omega) (by omega)) fun l0 ⟨a0, a1, a2, a3⟩ _ => ?_
  refine szBind (szItemSSW hU hUs a0 (by omega)) fun l1 ⟨b0, b1, b2⟩ _ => ?_
  refine szBind (szItemSSW hR hRs b0 (by omega)) fun l2 ⟨c0, c1, c2⟩ _ => ?_
  exact ⟨l2, Tends.const _, .inr ⟨by omega, ⟨a2, a3⟩, b2, c2⟩⟩
end Go.Proofs.YtkmeepgpmppibaaGreatDoor
