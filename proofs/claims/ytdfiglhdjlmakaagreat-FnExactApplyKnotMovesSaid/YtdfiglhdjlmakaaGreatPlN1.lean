/-
  The law on ApplyKnotMoves holds for every input: whatever the diagram and the moves are, the program's answer is the reference's, in fresh memory. No condition.
-/
import Derived.Test.YtdfiglhdjlmakaaGreatPlI1
import Derived.Test.YtdfiglhdjlmakaaGreatPlX
import Derived.Test.YtdfiglhdjlmakaaGreatPlS
import Derived.Test.YtdfiglhdjlmakaaGreatPlZ4
import Derived.Test.YtdfiglhdjlmakaaGreatPlG5
import Derived.Test.YtdfiglhdjlmakaaGreatAl3R
set_option linter.unusedVariables false
set_option linter.unusedSimpArgs false
set_option linter.unusedSectionVars false
namespace Go.Proofs.YtdfiglhdjlmakaaGreat
open Go.RowKit
theorem isDiagram_of {xs : List GCrossing} {cs : Int} {f t : List GEnd} {b : Bool} (h : Tends (fun K => impl_Diagram_drawing.f K xs cs) (f, t, b)) : Tends (fun K => impl_isDiagram.f K xs cs) b := Tends.bind3 h (Tends.const _)
theorem Tends.bind4 {α β γ δ ε : Type} {F : Nat → Option (α × β × γ × δ)} {G : Nat → α → β → γ → δ → Option ε} {a : α} {b : β} {c : γ} {d : δ} {r : ε} (h : Tends F (a, b, c, d)) (g : Tends (fun K => G K a b c d) r) : Tends (fun K => Go.Proofs.YtdfiglhdjlmakaaGreat.bind4 (F K) (G K)) r := by
  obtain ⟨n, hn⟩ := h
  obtain ⟨m, hm⟩ := g
  exact ⟨n + m, fun K hK => by show Go.Proofs.YtdfiglhdjlmakaaGreat.bind4 (F K) (G K) = some r; rw [hn K (by omega)]; exact hm K (by omega)⟩
theorem Tends2.bind3 {α β γ δ : Type} {F : Nat → Nat → Option (α × β × γ)} {G : Nat → Nat → α → β → γ → Option δ} {a : α} {b : β} {c : γ} {r : δ} (h : Tends2 F (a, b, c)) (g : Tends2 (fun K k => G K k a b c) r) : Tends2 (fun K k => Go.Proofs.YtdfiglhdjlmakaaGreat.bind3 (F K k) (G K k)) r := by
  obtain ⟨n, hn⟩ := h
  obtain ⟨m, hm⟩ := g
  exact ⟨n + m, fun K k hK hk => by show Go.Proofs.YtdfiglhdjlmakaaGreat.bind3 (F K k) (G K k) = some r; rw [hn K k (by omega) (by omega)]; exact hm K k (by omega) (by omega)⟩
theorem move_both (xs : List GCrossing) (hx : xs.length ≤ 1048576) (cs k i j : Int) : ∃ ys c' e, List.length ys ≤ xs.length + 2 ∧ Tends (fun K => spec_l27Move.f K xs cs k i j) (ys, c', e) ∧ Tends (fun K => impl_applyKnotMove.f K xs cs k i j) (ys, c', e) := by
  unfold spec_l27Move.f impl_applyKnotMove.f
  by_cases h1 : k = 1
  · obtain ⟨ys, c', e, hy, hs, hi⟩ := AddKink_both xs hx cs i j
    exact ⟨ys, c', e, hy, Tends.pos h1 (Tends.bind3 hs (Tends.const _)), Tends.pos h1 (Tends.bind3 hi (Tends.const _))⟩
  by_cases h2 : k = 2
  · obtain ⟨ys, c', e, hy, hs, hi⟩ := RemoveKink_both xs hx cs i
    exact ⟨ys, c', e, hy, Tends.neg h1 (Tends.pos h2 (Tends.bind3 hs (Tends.const _))), Tends.neg h1 (Tends.pos h2 (Tends.bind3 hi (Tends.const _)))⟩
  by_cases h3 : k = 3
  · obtain ⟨ys, c', e, hy, hs, hi⟩ := AddBigon_both xs hx cs i j
    exact ⟨ys, c', e, hy, Tends.neg h1 (Tends.neg h2 (Tends.pos h3 (Tends.bind3 hs (Tends.const _)))), Tends.neg h1 (Tends.neg h2 (Tends.pos h3 (Tends.bind3 hi (Tends.const _))))⟩
  by_cases h4 : k = 4
  · obtain ⟨ys, c', e, hy, hs, hi⟩ := RemoveBigon_both xs hx cs i j
    exact ⟨ys, c', e, hy, Tends.neg h1 (Tends.neg h2 (Tends.neg h3 (Tends.pos h4 (Tends.bind3 hs (Tends.const _))))), Tends.neg h1 (Tends.neg h2 (Tends.neg h3 (Tends.pos h4 (Tends.bind3 hi (Tends.const _)))))⟩
  by_cases h5 : k = 5
  · obtain ⟨ys, c', e, hy, hs, hi⟩ := SlideTriangle_both xs hx cs i
    exact ⟨ys, c', e, hy, Tends.neg h1 (Tends.neg h2 (Tends.neg h3 (Tends.neg h4 (Tends.pos h5 (Tends.bind3 hs (Tends.const _)))))), Tends.neg h1 (Tends.neg h2 (Tends.neg h3 (Tends.neg h4 (Tends.pos h5 (Tends.bind3 hi (Tends.const _))))))⟩
  · exact ⟨[], 0, 2, by simp, Tends.neg h1 (Tends.neg h2 (Tends.neg h3 (Tends.neg h4 (Tends.neg h5 (Tends.const _))))), Tends.neg h1 (Tends.neg h2 (Tends.neg h3 (Tends.neg h4 (Tends.neg h5 (Tends.const _)))))⟩
theorem moves_l1 {ms : List GKnotMove} (hm : ms.length ≤ 100) : ∀ (d i : Nat) (xs : List GCrossing) (cs : Int), ms.length - i = d → i ≤ ms.length → xs.length + 2 * d ≤ 1000 → ∃ ys c' e n, List.length ys ≤ 2000000 ∧ Tends2 (fun K k => spec_ApplyKnotMoves.l1 K k ms xs cs (i : Int)) (ys, c', e, n) ∧ Tends2 (fun K k => impl_ApplyKnotMoves.l1 K k ms xs cs (i : Int)) (ys, c', e, n)
  | 0, i, xs, cs, hd, hi, hl => ⟨xs, cs, 0, -1, by omega, Tends2.succ (Tends2.congr (fun K k => by rw [spec_ApplyKnotMoves.l1, if_neg (by omega)]) (Tends2.const _)), Tends2.succ (Tends2.congr (fun K k => by rw [impl_ApplyKnotMoves.l1, if_neg (by omega)]) (Tends2.const _))⟩
  | d + 1, i, xs, cs, hd, hi, hl => by
    obtain ⟨ys, c', e, hy, hs, hj⟩ := move_both xs (by omega) cs (ms.getD i z_GKnotMove).Kind (ms.getD i z_GKnotMove).I (ms.getD i z_GKnotMove).J
    have es : ∀ K k, spec_ApplyKnotMoves.l1 K (k + 1) ms xs cs (i : Int) = bind3 (spec_l27Move.f K xs cs (ms.getD i z_GKnotMove).Kind (ms.getD i z_GKnotMove).I (ms.getD i z_GKnotMove).J) (fun a b c => if c = 0 then spec_ApplyKnotMoves.l1 K k ms a b ((i + 1 : Nat) : Int) else some ([], 0, c, (i : Int))) := fun K k => by
      rw [spec_ApplyKnotMoves.l1, if_pos (by omega), if_pos (by omega), bnd_eq, Int.toNat_natCast, w64_succ (by omega)]
    have ei : ∀ K k, impl_ApplyKnotMoves.l1 K (k + 1) ms xs cs (i : Int) = bind3 (impl_applyKnotMove.f K xs cs (ms.getD i z_GKnotMove).Kind (ms.getD i z_GKnotMove).I (ms.getD i z_GKnotMove).J) (fun a b c => if c = 0 then impl_ApplyKnotMoves.l1 K k ms a b ((i + 1 : Nat) : Int) else some ([], 0, c, (i : Int))) := fun K k => by
      rw [impl_ApplyKnotMoves.l1, if_pos (by omega), if_pos (by omega), bnd_eq, Int.toNat_natCast, w64_succ (by omega)]
    by_cases he : e = 0
    · obtain ⟨zs, c2, e2, n, hz, h1, h2⟩ := moves_l1 hm d (i + 1) ys c' (by omega) (by omega) (by omega)
      exact ⟨zs, c2, e2, n, hz, Tends2.succ (Tends2.congr es (Tends2.bind3 hs.two (Tends2.pos he h1))), Tends2.succ (Tends2.congr ei (Tends2.bind3 hj.two (Tends2.pos he h2)))⟩
    · exact ⟨[], 0, e, i, by simp, Tends2.succ (Tends2.congr es (Tends2.bind3 hs.two (Tends2.neg he (Tends2.const _)))), Tends2.succ (Tends2.congr ei (Tends2.bind3 hj.two (Tends2.neg he (Tends2.const _))))⟩
theorem ApplyKnotMoves_both (xs : List GCrossing) (hx : xs.length ≤ 1048576) (cs : Int) (ms : List GKnotMove) : ∃ ys c' e n, List.length ys ≤ 2000000 ∧ Tends (fun K => spec_ApplyKnotMoves.f K xs cs ms) (ys, c', e, n) ∧ Tends (fun K => impl_ApplyKnotMoves.f K xs cs ms) (ys, c', e, n) := by
  unfold spec_ApplyKnotMoves.f impl_ApplyKnotMoves.f
  rcases drawings xs (by omega) cs with ⟨h1, h2⟩ | ⟨hn, hs, f, t, hg, h1, h2⟩
  · exact ⟨[], 0, 1, -1, by simp, Tends.bind h1 (Tends.neg (by decide) (Tends.const _)), Tends.bind (isDiagram_of h2) (Tends.neg (by decide) (Tends.const _))⟩
  by_cases hm : 100 < (ms.length : Int)
  · exact ⟨[], 0, 3, -1, by simp, Tends.bind h1 (Tends.pos rfl (Tends.pos hm (Tends.const _))), Tends.bind (isDiagram_of h2) (Tends.pos rfl (Tends.pos hm (Tends.const _)))⟩
  obtain ⟨ys, c', e, n, hy, a1, a2⟩ := moves_l1 (ms := ms) (by omega) ms.length 0 xs cs (by omega) (by omega) (by omega)
  refine ⟨ys, c', e, n, hy, Tends.bind h1 (Tends.pos rfl (Tends.neg hm (Tends.pos (by simp; omega) a1.diag))), Tends.bind (isDiagram_of h2) (Tends.pos rfl (Tends.neg hm (Tends.bind2 (a := xs) (b := cs) ?_ a2.diag)))⟩
  refine Tends.congr (fun K => ?_) (Tends.const _)
  unfold impl_copyDiagram.f
  rw [clone_eq (by omega)]
  rfl
section
variable {ms : List GKnotMove} (hn : ms.length ≤ 2000000)
include hn
theorem toMoves_l1 : ∀ (m i : Nat) (out : List GKnotMove), ms.length - i = m → i ≤ ms.length → out.length = ms.length → (∀ j, j < i → out[j]? = ms[j]?) → Tends2 (fun K k => laws_toKnotMoveS.l1 K k ms out (i : Int)) ms
  | 0, i, out, hm, hi, hl, ho => by
    have he : out = ms := by
      apply List.ext_getElem?
      intro j
      by_cases hj : j < i
      · exact ho j hj
      · rw [List.getElem?_eq_none (by omega), List.getElem?_eq_none (by omega)]
    refine Tends2.succ (Tends2.congr (G := fun _ _ => some ms) (fun K k => ?_) (Tends2.const _))
    rw [laws_toKnotMoveS.l1, if_neg (by omega), he]
  | m + 1, i, out, hm, hi, hl, ho => by
    have hlt : i < ms.length := by omega
    have ih := toMoves_l1 m (i + 1) (out.set i ms[i]) (by omega) (by omega) (by rw [List.length_set]; exact hl) (fun j hj => by
      by_cases hij : i = j
      · subst hij; rw [List.getElem?_set_self (by omega), List.getElem?_eq_getElem hlt]
      · rw [List.getElem?_set_ne hij]; exact ho j (by omega))
    refine Tends2.succ (Tends2.congr (fun K k => ?_) ih)
    rw [laws_toKnotMoveS.l1, if_pos (by omega), if_pos (by omega), bnd_eq]
    simp only [laws_toKnotMove.f, bind3, Option.bind_some]
    rw [if_pos (by omega), Int.toNat_natCast, w64_succ (by omega), List.getD_eq_getElem?_getD, List.getElem?_eq_getElem hlt]
    rfl
theorem toMoves : Tends (fun K => laws_toKnotMoveS.f K ms) ms := by
  refine Tends.congr (fun K => ?_) (toMoves_l1 hn ms.length 0 (List.replicate ms.length z_GKnotMove) (by omega) (by omega) (by simp) (fun j hj => by omega)).diag
  rw [laws_toKnotMoveS.f, if_pos (by omega), if_pos (by omega), Int.toNat_natCast]
  rfl
theorem eqMoves_l1 : ∀ (m i : Nat), ms.length - i = m → Tends2 (fun K k => laws_eqKnotMoveS.l1 K k ms ms (i : Int)) true
  | 0, i, hm => by
    refine Tends2.succ (Tends2.congr (G := fun _ _ => some true) (fun K k => ?_) (Tends2.const _))
    rw [laws_eqKnotMoveS.l1, if_neg (by omega)]
  | m + 1, i, hm => by
    refine Tends2.succ (Tends2.congr (fun K k => ?_) (eqMoves_l1 m (i + 1) (by omega)))
    rw [laws_eqKnotMoveS.l1, if_pos (by omega), if_pos (by omega), bnd_eq, if_pos (by omega), bnd_eq]
    simp only [laws_eqKnotMove.f, if_true, Option.bind_some]
    rw [w64_succ (by omega)]
theorem eqMoves : Tends (fun K => laws_eqKnotMoveS.f K ms ms) true := by
  refine Tends.congr (fun K => ?_) (eqMoves_l1 hn ms.length 0 (by omega)).diag
  rw [laws_eqKnotMoveS.f, if_pos rfl]
  rfl
omit hn in
theorem markMoves_l1 {k0 : Int} (hk : 0 ≤ k0 ∧ k0 ≤ 1000000000) {n : Nat} (hn : n ≤ 2000000) : ∀ (m i : Nat) (out : List GKnotMove), n - i = m → i ≤ n → out.length = n → ∃ zs, zs.length = n ∧ Tends2 (fun K k => laws_markKnotMoveS.l1 K k out (k0 + 3 * (i : Int)) (i : Int)) (k0 + 3 * (n : Int), zs)
  | 0, i, out, hm, hi, hl => by
    obtain rfl : i = n := by omega
    refine ⟨out, hl, Tends2.succ (Tends2.congr (fun K k => ?_) (Tends2.const _))⟩
    rw [laws_markKnotMoveS.l1, if_neg (by omega)]
  | m + 1, i, out, hm, hi, hl => by
    have hlt : i < out.length := by omega
    obtain ⟨zs, hz, ih⟩ := markMoves_l1 hk hn m (i + 1) (((out.set i { out.getD i z_GKnotMove with Kind := k0 + 3 * (i : Int) }).set i { (out.set i { out.getD i z_GKnotMove with Kind := k0 + 3 * (i : Int) }).getD i z_GKnotMove with I := k0 + 3 * (i : Int) + 1 }).set i { ((out.set i { out.getD i z_GKnotMove with Kind := k0 + 3 * (i : Int) }).set i { (out.set i { out.getD i z_GKnotMove with Kind := k0 + 3 * (i : Int) }).getD i z_GKnotMove with I := k0 + 3 * (i : Int) + 1 }).getD i z_GKnotMove with J := k0 + 3 * (i : Int) + 2 }) (by omega) (by omega) (by simp only [List.length_set]; exact hl)
    refine ⟨zs, hz, Tends2.succ (Tends2.congr (fun K k => ?_) ih)⟩
    have e1 : w64 ((k0 + 3 * (i : Int)) + 1) = k0 + 3 * i + 1 := w64_id (by omega) (by omega)
    have e2 : w64 ((k0 + 3 * (i : Int) + 1) + 1) = k0 + 3 * i + 2 := by rw [w64_id (by omega) (by omega)]; omega
    have e3 : w64 ((k0 + 3 * (i : Int) + 2) + 1) = k0 + 3 * ((i + 1 : Nat) : Int) := by rw [w64_id (by omega) (by omega)]; omega
    rw [laws_markKnotMoveS.l1, if_pos (by omega), if_pos (by omega), bnd_eq, if_pos (by simp only [List.length_set]; omega), bnd_eq, if_pos (by simp only [List.length_set]; omega), bnd_eq, e1, e2, e3, w64_succ (by omega), Int.toNat_natCast]
end
theorem law_ApplyKnotMoves {xs : List GCrossing} {c : Int} {ms : List GKnotMove} (hx : xs.length ≤ 9223372036854775807) (hmx : ms.length ≤ 9223372036854775807) : Tends (fun K => laws_FnExactApplyKnotMoves.f K xs c ms) true := by
  unfold laws_FnExactApplyKnotMoves.f
  by_cases hn : xs.length ≤ 1048576
  · rw [szDiagram_small hn]
    dsimp only [Option.bind_some]
    refine Tends.neg (by omega) ?_
    by_cases hm : ms.length + xs.length ≤ 1048576
    · have hsz : laws_szKnotMoveS.f ms (1048576 - (xs.length : Int)) = some (1048576 - (xs.length : Int) - (ms.length : Int)) := by
        unfold laws_szKnotMoveS.f
        rw [w64_id (by omega) (by omega), if_neg (by omega)]
      rw [hsz]
      dsimp only [Option.bind_some]
      refine Tends.neg (by omega) ?_
      obtain ⟨ys, c', e, n, hy, hs, hi⟩ := ApplyKnotMoves_both xs hn c ms
      have hn' : xs.length ≤ 2000000 := by omega
      have hm' : ms.length ≤ 2000000 := by omega
      have k1 : (0 : Int) ≤ 1 ∧ (1 : Int) ≤ 1000000000 := by decide
      obtain ⟨zs, hz, hmk⟩ := markMoves_l1 (k0 := 1 + 5 * (xs.length : Int)) (by omega) hm' ms.length 0 ms (by omega) (by omega) rfl
      have hmk' : Tends (fun K => laws_markKnotMoveS.f K ms (1 + 5 * (xs.length : Int))) (1 + 5 * (xs.length : Int) + 3 * (ms.length : Int), zs) := by
        refine Tends.congr (fun K => ?_) hmk.diag
        rw [laws_markKnotMoveS.f, show 1 + 5 * (xs.length : Int) + 3 * ((0 : Nat) : Int) = 1 + 5 * (xs.length : Int) by omega]
        rfl
      refine Tends.bind2 (toDiagram hn' c) (Tends.bind (toMoves hm') (Tends.bind4 hs (Tends.bind2 (toDiagram hn' c) (Tends.bind (toMoves hm') (Tends.bind4 hi ?_)))))
      refine Tends.bind (eqDiagram hy c') (Tends.pos rfl (Tends.pos rfl (Tends.pos rfl ?_)))
      refine Tends.bind2 (toDiagram hn' c) (Tends.bind (eqDiagram hn' c) (Tends.pos rfl ?_))
      refine Tends.bind (toMoves hm') (Tends.bind (eqMoves hm') (Tends.pos rfl ?_))
      refine Tends.bind2 (markDiagram hn' c k1) (Tends.pos (marks_length _ _) ?_)
      refine Tends.bind2 hmk' (Tends.pos hz (Tends.neg (by omega) ?_))
      refine Tends.bind (eqDiagram hy c') (Tends.pos rfl ?_)
      refine Tends.bind2 (markDiagram hy c' k1) (Tends.pos (marks_length _ _) ?_)
      refine Tends.bind (heldDiagram hy c' k1) (Tends.neg (by omega) (Tends.pos rfl ?_))
      refine Tends.bind2 (toDiagram hn' c) (Tends.bind (toMoves hm') (Tends.bind4 hi (Tends.bind (eqDiagram hy c') (Tends.pos rfl (Tends.pos rfl (Tends.pos rfl ?_))))))
      exact Tends.bind (heldDiagram hy c' k1) (Tends.neg (by omega) (Tends.pos rfl (Tends.const true)))
    · have hsz : laws_szKnotMoveS.f ms (1048576 - (xs.length : Int)) = some (-1) := by
        unfold laws_szKnotMoveS.f
        rw [w64_id (by omega) (by omega), if_pos (by omega)]
      rw [hsz]
      dsimp only [Option.bind_some]
      exact Tends.pos (by omega) (Tends.const true)
  · rw [szDiagram_great hn hx]
    dsimp only [Option.bind_some]
    exact Tends.pos (by omega) (Tends.const true)
theorem fnExactApplyKnotMoves_holds : Rows.FnExactApplyKnotMovesSaid :=
  fnExactApplyKnotMoves_of fun x0 x1 h0 h1 => (law_ApplyKnotMoves h0.1.1 h1.1).get
end Go.Proofs.YtdfiglhdjlmakaaGreat
