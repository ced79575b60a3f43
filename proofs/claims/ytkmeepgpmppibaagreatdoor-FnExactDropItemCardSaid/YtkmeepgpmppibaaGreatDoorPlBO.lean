/-
  Copies of items, lists and stacks; a list pushed onto a stack.
-/
import Derived.Test.YtkmeepgpmppibaaGreatDoorPlBN
set_option linter.unusedVariables false
set_option linter.unusedSimpArgs false
namespace Go.Proofs.YtkmeepgpmppibaaGreatDoor
open Go.RowKit
theorem own_loop {α : Type} {xs : List α} {z : α} {c : Nat} {l : Nat → Nat → List α → Nat → Option (List α)} {one : Nat → Nat → Option α} (hn : xs.length ≤ 2000000) (hc : c ≤ 1000)
    (hl : ∀ K k out i, i < xs.length → l K (k + 1) out i = (one K i).bind fun t => if (out.length + 1) * c ≤ 140737488355328 then l K k (out ++ [t]) (i + 1) else none) (he : ∀ K k out, l K (k + 1) out xs.length = some out)
    (h1 : ∀ i, i < xs.length → Tends (fun K => one K i) (xs.getD i z)) : ∀ (m i : Nat), xs.length - i = m → i ≤ xs.length → Tends2 (fun K k => l K k (xs.take i) i) xs
  | 0, i, hm, hi => by
    obtain rfl : i = xs.length := by omega
    exact Tends2.of fun K k => by rw [he, List.take_length]
  | m + 1, i, hm, hi => by
    have hlt : i < xs.length := by omega
    have hg : xs.getD i z = xs[i] := by rw [List.getD_eq_getElem?_getD, List.getElem?_eq_getElem hlt]; rfl
    have ht : xs.take i ++ [xs.getD i z] = xs.take (i + 1) := by rw [List.take_add_one, List.getElem?_eq_getElem hlt, hg]; rfl
    have hsz : ((xs.take i).length + 1) * c ≤ 140737488355328 := by
      have h2 : ((xs.take i).length + 1) * c ≤ 2000000 * 1000 := Nat.mul_le_mul (by rw [List.length_take]; omega) hc
      omega
    have ih := own_loop hn hc hl he h1 m (i + 1) (by omega) (by omega)
    rw [← ht] at ih
    exact Tends2.step (fun K k => hl K k _ i hlt) (Tends2.bind (h1 i hlt).two (Tends2.pos hsz ih))
theorem l07Own {ts : List (List GFace)} (hn : ts.length ≤ 2000000) (h : ∀ j, j < ts.length → (ts.getD j []).length ≤ 2000000) : Tends (fun K => spec_l07Own.f K ts) ts := by
  refine Tends.congr (fun K => rfl) (own_loop (z := []) (c := 24) (l := fun K k out i => spec_l07Own.l1 K k ts out (i : Int)) (one := fun K i => some (ts.getD i [])) hn (by decide) (fun K k out i hi => ?_) (fun K k out => by rw [spec_l07Own.l1, if_neg (by omega)]) (fun i hi => Tends.const _) ts.length 0 (by omega) (by omega)).diag
  have := h i hi
  rw [spec_l07Own.l1, if_pos (by omega), if_pos (by omega), Int.toNat_natCast, if_pos (by simp only [List.length_nil]; omega), w64_succ (by omega)]
  rfl
theorem copyTri {ts : List (List GFace)} (hn : ts.length ≤ 2000000) (h : ∀ j, j < ts.length → (ts.getD j []).length ≤ 2000000) : Tends (fun K => impl_copyTriangulation.f K ts) ts := by
  refine Tends.congr (fun K => rfl) (own_loop (z := []) (c := 24) (l := fun K k out i => impl_copyTriangulation.l1 K k ts out (i : Int)) (one := fun K i => slices_Clone_impl_Face_impl_Face.f (ts.getD i [])) hn (by decide) (fun K k out i hi => ?_) (fun K k out => by rw [impl_copyTriangulation.l1, if_neg (by omega)]) (fun i hi => ?_) ts.length 0 (by omega) (by omega)).diag
  · rw [impl_copyTriangulation.l1, if_pos (by omega), if_pos (by omega), Int.toNat_natCast, w64_succ (by omega)]
  · have := h i hi
    exact Tends.pos (by simp only [List.length_nil]; omega) (Tends.const _)
abbrev ownI (K : Nat) (x : GItem) : Option GItem := Go.Proofs.YtkmeepgpmppibaaGreatDoor.bind12 (spec_l33OwnItem.f K x.Name x.Kind x.Triangulation_Tets x.Diagram_Crossings x.Diagram_Circles x.Braid_Strands x.Braid_Word x.Certificate_Name x.Certificate_Trait x.Certificate_Moves x.Certificate_Tets x.Certificate_Perms) (fun a b c d e f g h i j k l => some ⟨a, b, c, d, e, f, g, h, i, j, k, l⟩)
abbrev copyI (K : Nat) (x : GItem) : Option GItem := Go.Proofs.YtkmeepgpmppibaaGreatDoor.bind12 (impl_copyItem.f K x.Name x.Kind x.Triangulation_Tets x.Diagram_Crossings x.Diagram_Circles x.Braid_Strands x.Braid_Word x.Certificate_Name x.Certificate_Trait x.Certificate_Moves x.Certificate_Tets x.Certificate_Perms) (fun a b c d e f g h i j k l => some ⟨a, b, c, d, e, f, g, h, i, j, k, l⟩)
theorem ownItem {x : GItem} (h : Small x) : Tends (fun K => spec_l33OwnItem.f K x.Name x.Kind x.Triangulation_Tets x.Diagram_Crossings x.Diagram_Circles x.Braid_Strands x.Braid_Word x.Certificate_Name x.Certificate_Trait x.Certificate_Moves x.Certificate_Tets x.Certificate_Perms) (x.Name, x.Kind, x.Triangulation_Tets, x.Diagram_Crossings, x.Diagram_Circles, x.Braid_Strands, x.Braid_Word, x.Certificate_Name, x.Certificate_Trait, x.Certificate_Moves, x.Certificate_Tets, x.Certificate_Perms) := by
  obtain ⟨h1, ⟨h2, h2r⟩, h3, h4, h5, h6, h7⟩ := h
  unfold spec_l33OwnItem.f
  refine Tends.pos (by simp only [List.length_nil]; omega) (Tends.pos (by simp only [List.length_nil]; omega) (Tends.pos (by simp only [List.length_nil]; omega) (Tends.pos (by simp only [List.length_nil]; omega) (Tends.bind (l07Own h2 h2r) (Tends.bind2 (F := fun K => spec_l32Own.f x.Braid_Strands x.Braid_Word) (Tends.pos (by simp only [List.length_nil]; omega) (Tends.const _)) (Tends.const _))))))
theorem copyItem {x : GItem} (h : Small x) : Tends (fun K => impl_copyItem.f K x.Name x.Kind x.Triangulation_Tets x.Diagram_Crossings x.Diagram_Circles x.Braid_Strands x.Braid_Word x.Certificate_Name x.Certificate_Trait x.Certificate_Moves x.Certificate_Tets x.Certificate_Perms) (x.Name, x.Kind, x.Triangulation_Tets, x.Diagram_Crossings, x.Diagram_Circles, x.Braid_Strands, x.Braid_Word, x.Certificate_Name, x.Certificate_Trait, x.Certificate_Moves, x.Certificate_Tets, x.Certificate_Perms) := by
  obtain ⟨h1, ⟨h2, h2r⟩, h3, h4, h5, h6, h7⟩ := h
  have ci : ∀ {ys : List Int}, ys.length ≤ 2000000 → Tends (fun _ => slices_Clone_int64_int64.f ys) ys := fun hy => Tends.pos (by simp only [List.length_nil]; omega) (Tends.const _)
  have cm : Tends (fun _ => slices_Clone_impl_Move_impl_Move.f x.Certificate_Moves) x.Certificate_Moves := Tends.pos (by simp only [List.length_nil]; omega) (Tends.const _)
  have cd : Tends (fun _ => impl_copyDiagram.f x.Diagram_Crossings x.Diagram_Circles) (x.Diagram_Crossings, x.Diagram_Circles) := Tends.bind (F := fun _ => slices_Clone_impl_Crossing_impl_Crossing.f x.Diagram_Crossings) (Tends.pos (by simp only [List.length_nil]; omega) (Tends.const _)) (Tends.const _)
  unfold impl_copyItem.f
  exact Tends.bind (copyTri h2 h2r) (Tends.bind2 cd (Tends.bind (ci h4) (Tends.bind cm (Tends.bind (ci h6) (Tends.bind (ci h7) (Tends.const _))))))
theorem sumF_map {α : Type} (f : α → Nat) (z : α) : ∀ (xs : List α) (i : Nat) (g : Nat → Nat), (∀ j, j < xs.length → g (i + j) = f (xs.getD j z)) → sumF g i xs.length = (xs.map f).sum
  | [], _, _, _ => rfl
  | x :: r, i, g, h => by
    have h0 := h 0 (by simp)
    rw [Nat.add_zero, List.getD_cons_zero] at h0
    have ih := sumF_map f z r (i + 1) g (fun j hj => by
      have := h (j + 1) (by simp only [List.length_cons]; omega)
      rw [List.getD_cons_succ] at this
      rw [show i + 1 + j = i + (j + 1) by omega]; exact this)
    rw [List.length_cons, sumF, h0, ih, List.map_cons, List.sum_cons]
theorem getD_of {α : Type} {xs : List α} {i : Nat} (z : α) (h : i < xs.length) : xs.getD i z ∈ xs := by
  rw [List.getD_eq_getElem?_getD, List.getElem?_eq_getElem h]; exact List.getElem_mem h
theorem Tends.bind4 {α β γ δ ε : Type} {F : Nat → Option (α × β × γ × δ)} {G : Nat → α → β → γ → δ → Option ε} {a : α} {b : β} {c : γ} {d : δ} {r : ε} (h : Tends F (a, b, c, d)) (g : Tends (fun K => G K a b c d) r) : Tends (fun K => Go.Proofs.YtkmeepgpmppibaaGreatDoor.bind4 (F K) (G K)) r := by
  obtain ⟨n, hn⟩ := h
  obtain ⟨m, hm⟩ := g
  exact ⟨n + m, fun K hK => by show Go.Proofs.YtkmeepgpmppibaaGreatDoor.bind4 (F K) (G K) = some r; rw [hn K (by omega)]; exact hm K (by omega)⟩
end Go.Proofs.YtkmeepgpmppibaaGreatDoor
