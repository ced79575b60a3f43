/-
  Copies of items, lists and stacks; a list pushed onto a stack.
-/
import Derived.Test.YtkmeepgpmppibaaGreatDoorPlBN
set_option linter.unusedVariables false
set_option linter.unusedSimpArgs false
namespace Go.Proofs.YtkmeepgpmppibaaGreatDoor
open Go.RowKit
theorem Pj {α : Type} {xs : List α} {z : α} {c : Nat} {l : Nat → Nat → List α → Nat → Option (List α)} {one : Nat → Nat → Option α} (hn : xs.length ≤ 2000000) (hc : c ≤ 1000)
    (hl : ∀ K k out i, i < xs.length → l K (k + 1) out i = (one K i).bind fun t => if (out.length + 1) * c ≤ 140737488355328 then l K k (out ++ [t]) (i + 1) else none) (he : ∀ K k out, l K (k + 1) out xs.length = some out)
    (h1 : ∀ i, i < xs.length → Ab (fun K => one K i) (xs.getD i z)) : ∀ (m i : Nat), xs.length - i = m → i ≤ xs.length → Ac (fun K k => l K k (xs.take i) i) xs
  | 0, i, hm, hi => by
    obtain rfl : i = xs.length := by omega
    exact Ac.of fun K k => by rw [he, List.take_length]
  | m + 1, i, hm, hi => by
    have hlt : i < xs.length := by omega
    have hg : xs.getD i z = xs[i] := by rw [List.getD_eq_getElem?_getD, List.getElem?_eq_getElem hlt]; rfl
    have ht : xs.take i ++ [xs.getD i z] = xs.take (i + 1) := by rw [List.take_add_one, List.getElem?_eq_getElem hlt, hg]; rfl
    have hsz : ((xs.take i).length + 1) * c ≤ 140737488355328 := by
      have h2 : ((xs.take i).length + 1) * c ≤ 2000000 * 1000 := Nat.mul_le_mul (by rw [List.length_take]; omega) hc
      omega
    have ih := Pj hn hc hl he h1 m (i + 1) (by omega) (by omega)
    rw [← ht] at ih
    exact Ac.step (fun K k => hl K k _ i hlt) (Ac.bind (h1 i hlt).two (Ac.pos hsz ih))
theorem vT {ts : List (List Bt)} (hn : ts.length ≤ 2000000) (h : ∀ j, j < ts.length → (ts.getD j []).length ≤ 2000000) : Ab (fun K => Gw.f K ts) ts := by
  refine Ab.congr (fun K => rfl) (Pj (z := []) (c := 24) (l := fun K k out i => Gw.l1 K k ts out (i : Int)) (one := fun K i => some (ts.getD i [])) hn (by decide) (fun K k out i hi => ?_) (fun K k out => by rw [Gw.l1, if_neg (by omega)]) (fun i hi => Ab.const _) ts.length 0 (by omega) (by omega)).Ib
  have := h i hi
  rw [Gw.l1, if_pos (by omega), if_pos (by omega), Int.toNat_natCast, if_pos (by simp only [List.length_nil]; omega), Cc (by omega)]
  rfl
theorem pI {ts : List (List Bt)} (hn : ts.length ≤ 2000000) (h : ∀ j, j < ts.length → (ts.getD j []).length ≤ 2000000) : Ab (fun K => Cv.f K ts) ts := by
  refine Ab.congr (fun K => rfl) (Pj (z := []) (c := 24) (l := fun K k out i => Cv.l1 K k ts out (i : Int)) (one := fun K i => Dy.f (ts.getD i [])) hn (by decide) (fun K k out i hi => ?_) (fun K k out => by rw [Cv.l1, if_neg (by omega)]) (fun i hi => ?_) ts.length 0 (by omega) (by omega)).Ib
  · rw [Cv.l1, if_pos (by omega), if_pos (by omega), Int.toNat_natCast, Cc (by omega)]
  · have := h i hi
    exact Ab.pos (by simp only [List.length_nil]; omega) (Ab.const _)
abbrev yE (K : Nat) (x : Am) : Option Am := Go.Proofs.YtkmeepgpmppibaaGreatDoor.Hf (Dw.f K x.Name x.Kind x.Ad x.Ae x.Aj x.Ao x.Av x.Ak x.Ah x.Af x.Ai x.Ag) (fun a b c d e f g h i j k l => some ⟨a, b, c, d, e, f, g, h, i, j, k, l⟩)
abbrev wZ (K : Nat) (x : Am) : Option Am := Go.Proofs.YtkmeepgpmppibaaGreatDoor.Hf (G9.f K x.Name x.Kind x.Ad x.Ae x.Aj x.Ao x.Av x.Ak x.Ah x.Af x.Ai x.Ag) (fun a b c d e f g h i j k l => some ⟨a, b, c, d, e, f, g, h, i, j, k, l⟩)
theorem Vf {x : Am} (h : Small x) : Ab (fun K => Dw.f K x.Name x.Kind x.Ad x.Ae x.Aj x.Ao x.Av x.Ak x.Ah x.Af x.Ai x.Ag) (x.Name, x.Kind, x.Ad, x.Ae, x.Aj, x.Ao, x.Av, x.Ak, x.Ah, x.Af, x.Ai, x.Ag) := by
  obtain ⟨h1, ⟨h2, h2r⟩, h3, h4, h5, h6, h7⟩ := h
  unfold Dw.f
  refine Ab.pos (by simp only [List.length_nil]; omega) (Ab.pos (by simp only [List.length_nil]; omega) (Ab.pos (by simp only [List.length_nil]; omega) (Ab.pos (by simp only [List.length_nil]; omega) (Ab.bind (vT h2 h2r) (Ab.Ed (F := fun K => Mc.f x.Ao x.Av) (Ab.pos (by simp only [List.length_nil]; omega) (Ab.const _)) (Ab.const _))))))
theorem Vv {x : Am} (h : Small x) : Ab (fun K => G9.f K x.Name x.Kind x.Ad x.Ae x.Aj x.Ao x.Av x.Ak x.Ah x.Af x.Ai x.Ag) (x.Name, x.Kind, x.Ad, x.Ae, x.Aj, x.Ao, x.Av, x.Ak, x.Ah, x.Af, x.Ai, x.Ag) := by
  obtain ⟨h1, ⟨h2, h2r⟩, h3, h4, h5, h6, h7⟩ := h
  have ci : ∀ {ys : List Int}, ys.length ≤ 2000000 → Ab (fun _ => Dr.f ys) ys := fun hy => Ab.pos (by simp only [List.length_nil]; omega) (Ab.const _)
  have cm : Ab (fun _ => Dz.f x.Af) x.Af := Ab.pos (by simp only [List.length_nil]; omega) (Ab.const _)
  have cd : Ab (fun _ => Ji.f x.Ae x.Aj) (x.Ae, x.Aj) := Ab.bind (F := fun _ => Db.f x.Ae) (Ab.pos (by simp only [List.length_nil]; omega) (Ab.const _)) (Ab.const _)
  unfold G9.f
  exact Ab.bind (pI h2 h2r) (Ab.Ed cd (Ab.bind (ci h4) (Ab.bind cm (Ab.bind (ci h6) (Ab.bind (ci h7) (Ab.const _))))))
theorem Ws {α : Type} (f : α → Nat) (z : α) : ∀ (xs : List α) (i : Nat) (g : Nat → Nat), (∀ j, j < xs.length → g (i + j) = f (xs.getD j z)) → Nr g i xs.length = (xs.map f).sum
  | [], _, _, _ => rfl
  | x :: r, i, g, h => by
    have h0 := h 0 (by simp)
    rw [Nat.add_zero, List.getD_cons_zero] at h0
    have ih := Ws f z r (i + 1) g (fun j hj => by
      have := h (j + 1) (by simp only [List.length_cons]; omega)
      rw [List.getD_cons_succ] at this
      rw [show i + 1 + j = i + (j + 1) by omega]; exact this)
    rw [List.length_cons, Nr, h0, ih, List.map_cons, List.sum_cons]
theorem Oo {α : Type} {xs : List α} {i : Nat} (z : α) (h : i < xs.length) : xs.getD i z ∈ xs := by
  rw [List.getD_eq_getElem?_getD, List.getElem?_eq_getElem h]; exact List.getElem_mem h
theorem Ab.M9 {α β γ δ ε : Type} {F : Nat → Option (α × β × γ × δ)} {G : Nat → α → β → γ → δ → Option ε} {a : α} {b : β} {c : γ} {d : δ} {r : ε} (h : Ab F (a, b, c, d)) (g : Ab (fun K => G K a b c d) r) : Ab (fun K => Go.Proofs.YtkmeepgpmppibaaGreatDoor.M9 (F K) (G K)) r := by
  obtain ⟨n, hn⟩ := h
  obtain ⟨m, hm⟩ := g
  exact ⟨n + m, fun K hK => by show Go.Proofs.YtkmeepgpmppibaaGreatDoor.M9 (F K) (G K) = some r; rw [hn K (by omega)]; exact hm K (by omega)⟩
end Go.Proofs.YtkmeepgpmppibaaGreatDoor
