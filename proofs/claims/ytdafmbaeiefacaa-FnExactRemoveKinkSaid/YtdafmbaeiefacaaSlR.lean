/-
  The row's way in and out: an argument that is a slice of structs of whole numbers reads as a list.
-/
import Derived.Test.YtdafmbaeiefacaaSlH
import Derived.Deep.Slices
import Derived.Deep.Fields
import Derived.ChangeSame
import Derived.Lib.SmallJoins
set_option linter.unusedVariables false
set_option linter.unusedSimpArgs false
namespace Go.Proofs.Ytdafmbaeiefacaa
open Go.RowKit Go.ChangeShapes Go.WideShapes Go.Deep
section
variable {H : Type} {enc : TypeId × Value → H} {P : Program} {w : World} {base : Nat} {spare : Nat → Bool} {held : Bool}
theorem open_slice_fields {t e : TypeId} {fs : Array Field} {fuel : Nat} {cs : List Value} {x : DataW H × List MemPlace} (ht : P.underlying t = some (.slice e)) (he : P.underlying e = some (.struct fs))
    (hone : oneCellFields P fs = true) (hC : P.cellsOf e = fs.size) (h : DataW.trod enc P w base spare held fuel t cs = some x) :
    (cs = [.slice none 0 0] ∧ x = (.nil, [])) ∨
    ∃ (a : Addr) (len cap m : Nat) (D : Nat → DataW H) (Pl : Nat → List MemPlace), cs = [.slice (some a) len cap] ∧ base ≤ a.block ∧ len ≤ cap ∧ cap ≤ maxLen ∧ m = (if spare a.block then cap else len) ∧
      x = (.slice ((List.range len).map D) ((List.range (m - len)).map fun j => D (len + j)), MemPlace.row a (m * fs.size) ++ (List.range m).flatMap Pl) ∧
      ∀ i, i < m → ∃ (ys : List (DataW H × List MemPlace)) (n : Nat), D i = .agg (ys.map (·.1)) ∧ Pl i = ys.flatMap (·.2) ∧ ys.length = fs.size ∧
        ∀ (j : Nat) (f : Field), fs[j]? = some f → ∃ (v : Value) (y : DataW H × List MemPlace), w.cell? (a.add (i * fs.size + j)) = some v ∧ ys[j]? = some y ∧ DataW.trod enc P w base spare held n f.type [v] = some y := by
  rcases open_slice ht h with h0 | ⟨a, len, cap, m, n, D, Pl, hcs, hb, hl, hm, hmm, hx, hi⟩
  · exact .inl h0
  · refine .inr ⟨a, len, cap, m, D, Pl, hcs, hb, hl, hm, hmm, by rw [hC] at hx; exact hx, fun i him => ?_⟩
    obtain ⟨cs', hc, ht'⟩ := hi i him
    rw [hC] at hc
    obtain ⟨ys, n', hn', hy, hlen, hyl, hf⟩ := DataW.trod_struct he ht'
    obtain ⟨_, hcl, hat⟩ := World.cells?_some hc
    simp only [Prod.mk.injEq] at hy
    refine ⟨ys, n', hy.1, hy.2, hyl, fun j f hj => ?_⟩
    obtain ⟨ho, hk⟩ := hone_of hone j f hj
    have hjl : j < fs.size := (Array.getElem?_eq_some_iff.1 hj).1
    have hcell := hat j hjl
    have hv : cs'[j]? = some (cs'[j]'(by omega)) := List.getElem?_eq_getElem (by omega)
    have h1 := hf j f hj
    rw [ho, hk] at h1
    have hone' : (cs'.drop j).take 1 = [cs'[j]'(by omega)] := by
      rw [List.drop_eq_getElem_cons (by omega)]
      rfl
    rw [hone'] at h1
    have hys : ys[j]? = some (ys[j]'(by omega)) := List.getElem?_eq_getElem (by omega)
    refine ⟨_, _, ?_, hys, h1.trans hys⟩
    rw [← Go.Deep.add_add, hcell, hv]
theorem read_structs {α : Type} {t e : TypeId} {fs : Array Field} {fuel sz : Nat} {cs : List Value} {x : DataW H × List MemPlace} {ec : α → List Value} {hl : ∀ y, (ec y).length = sz} {h1 : ∀ y u, u ∈ ec y → u.oneCell' = true} (ht : P.underlying t = some (.slice e)) (he : P.underlying e = some (.struct fs))
    (hone : oneCellFields P fs = true) (hC : P.cellsOf e = fs.size) (hint : ∀ (j : Nat) f, fs[j]? = some f → P.underlying f.type = some (.int .i64)) (hsz : fs.size = sz) (h0 : 0 < sz) (mk : (Nat → Int) → α) (hT : ∀ f, ec (mk f) = (List.range sz).map fun j => Value.int .i64 (f j))
    (h : DataW.trod enc P w base spare held fuel t cs = some x) :
    ∃ (A : Option Addr) (c : Nat) (xs : List α), cs = [.slice A xs.length c] ∧ Rd (Ty.flat sz ec hl h1) w A c (fun _ => ()) xs ∧ ∀ y ∈ xs, ∃ f : Nat → Int, y = mk f ∧ ∀ j, j < sz → (Lit.int .i64 (f j)).wf = true := by
  rcases open_slice_fields ht he hone hC h with ⟨hcs, _⟩ | ⟨a, len, cap, m, D, Pl, hcs, _, hlc, hcm, hm, _, hi⟩
  · exact ⟨none, 0, [], by simpa using hcs, ⟨Nat.le_refl _, Nat.zero_le _, fun h => absurd h (by simp), fun j u h => by simp [rc] at h, fun i x h => by simp at h⟩, fun y hy => by cases hy⟩
  · have hlm : len ≤ m := by rw [hm]; split <;> omega
    have hall : ∀ i j, ∃ n : Int, i < len → j < sz → w.cell? (a.add (i * sz + j)) = some (.int .i64 n) ∧ (Lit.int .i64 n).wf = true := fun i j => by
      by_cases hij : i < len ∧ j < sz
      · obtain ⟨ys, n, _, _, _, hf⟩ := hi i (by omega)
        have hj : j < fs.size := by rw [hsz]; exact hij.2
        obtain ⟨v, y, hcell, _, htr⟩ := hf j fs[j] (Array.getElem?_eq_getElem hj)
        obtain ⟨k, hk, _, hw⟩ := DataW.trod_int (hint j fs[j] (Array.getElem?_eq_getElem hj)) htr
        obtain rfl : v = .int .i64 k := by simpa using hk
        exact ⟨k, fun _ _ => ⟨by rw [← hsz]; exact hcell, hw⟩⟩
      · exact ⟨0, fun h1 h2 => absurd ⟨h1, h2⟩ hij⟩
    have hex : ∃ g : Nat → Nat → Int, ∀ i j, i < len → j < sz → w.cell? (a.add (i * sz + j)) = some (.int .i64 (g i j)) ∧ (Lit.int .i64 (g i j)).wf = true := ⟨fun i j => Classical.choose (hall i j), fun i j => Classical.choose_spec (hall i j)⟩
    obtain ⟨g, hg⟩ := hex
    have hlen : ((List.range len).map fun i => mk (g i)).length = len := by simp
    refine ⟨some a, cap, (List.range len).map fun i => mk (g i), by rw [hlen]; exact hcs, ⟨by rw [hlen]; exact hlc, by simpa [maxLen] using hcm, fun hp => ?_, fun j u hu => ?_, fun _ _ _ => trivial⟩, fun y hy => ?_⟩
    · rw [hlen] at hp
      have hc := (hg 0 0 hp h0).1
      have ha : a.add (0 * sz + 0) = a := by simp [Addr.add]
      rw [ha] at hc
      refine ⟨a.block, a.off, ?_⟩
      cases hs : a.spot with
      | none => obtain ⟨b, o, s⟩ := a; cases hs; rfl
      | some s =>
        unfold World.cell? at hc
        rw [hs] at hc
        split at hc <;> simp at hc
    · have hjl := (List.getElem?_eq_some_iff.1 hu).1
      rw [rc_length, hlen] at hjl
      have hdm : j / sz * sz + j % sz = j := Nat.div_add_mod' j sz
      have hmod : j % sz < sz := Nat.mod_lt _ h0
      have hdiv : j / sz < len := Nat.div_lt_of_lt_mul (by rw [Nat.mul_comm]; exact hjl)
      have hx : ((List.range len).map fun i => mk (g i))[j / sz]? = some (mk (g (j / sz))) := by simp [hdiv]
      have hu1 : (rc (Ty.flat sz ec hl h1) (fun _ => ()) 0 ((List.range len).map fun i => mk (g i)))[j / sz * sz + j % sz]? = some u := by rw [hdm]; exact hu
      have hu := (rc_at (T := Ty.flat sz ec hl h1) hx hmod).symm.trans hu1
      have hu' : (ec (mk (g (j / sz))))[j % sz]? = some u := hu
      rw [hT] at hu'
      obtain rfl : Value.int .i64 (g (j / sz) (j % sz)) = u := by simpa [hmod] using hu'
      have key : ea (some a) j = a.add (j / sz * sz + j % sz) := by rw [hdm]; rfl
      rw [key]
      exact (hg _ _ hdiv hmod).1
    · obtain ⟨i, hi', rfl⟩ := List.mem_map.1 hy
      have hil : i < len := by simpa using hi'
      exact ⟨g i, rfl, fun j hj => (hg i j hil hj).2⟩
end
end Go.Proofs.Ytdafmbaeiefacaa
