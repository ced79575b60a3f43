/-
  PutItem: both put alike.
-/
import Derived.Test.YtkmeepgpmppibaaGreatDoorPlCB
set_option linter.unusedVariables false
set_option linter.unusedSimpArgs false
namespace Go.Proofs.YtkmeepgpmppibaaGreatDoor
open Go.RowKit
section
variable {I l : List Am} {U : List (List Am)} {x : Am} {d : Bool} {i : Nat} {r : List Am × List (List Am) × List (List Am) × Int}
theorem sl2 (K k : Nat) (hi : i < I.length) (hn : I.length ≤ 2000000) : Be.l2 K (k + 1) I U x.Name x.Kind x.Ad x.Ae x.Aj x.Ao x.Av x.Ak x.Ah x.Af x.Ai x.Ag l d (i : Int) = Be.j7 K k I U x.Name x.Kind x.Ad x.Ae x.Aj x.Ao x.Av x.Ak x.Ah x.Af x.Ai x.Ag l d (i : Int) (bif d then false else !(slt (nm I i) x.Name)) := by
  rw [Be.l2, if_pos (by omega)]
  cases d with
  | false => rw [if_neg (by decide), if_pos (show 0 ≤ (i : Int) ∧ (i : Int) < (I.length : Int) by omega), Int.toNat_natCast, Fe]; rfl
  | true => rw [if_pos rfl]; rfl
theorem t8n (hs : seq (nm I i) x.Name = false) (hi : i < I.length) (hn : I.length ≤ 2000000) (hsm : Small (I.getD i Br)) (hl : l.length ≤ 2000001) (g : Ac (fun K k => Be.l2 K k I U x.Name x.Kind x.Ad x.Ae x.Aj x.Ao x.Av x.Ak x.Ah x.Af x.Ai x.Ag (l ++ [I.getD i Br]) d ((i + 1 : Nat) : Int)) r) : Ac (fun K k => Be.j8 K k I U x.Name x.Kind x.Ad x.Ae x.Aj x.Ao x.Av x.Ak x.Ah x.Af x.Ai x.Ag (i : Int) l d) r := by
  have hs8 : ∀ K k, Be.j8 K (k + 1) I U x.Name x.Kind x.Ad x.Ae x.Aj x.Ao x.Av x.Ak x.Ah x.Af x.Ai x.Ag (i : Int) l d = if seq (nm I i) x.Name = true then Be.l2 K k I U x.Name x.Kind x.Ad x.Ae x.Aj x.Ao x.Av x.Ak x.Ah x.Af x.Ai x.Ag l d ((i + 1 : Nat) : Int) else Go.Proofs.YtkmeepgpmppibaaGreatDoor.Hf (Dw.f K (I.getD i Br).Name (I.getD i Br).Kind (I.getD i Br).Ad (I.getD i Br).Ae (I.getD i Br).Aj (I.getD i Br).Ao (I.getD i Br).Av (I.getD i Br).Ak (I.getD i Br).Ah (I.getD i Br).Af (I.getD i Br).Ai (I.getD i Br).Ag) (fun b0 b1 b2 b3 b4 b5 b6 b7 b8 b9 b10 b11 => if (l.length + 1) * 200 ≤ 140737488355328 then Be.l2 K k I U x.Name x.Kind x.Ad x.Ae x.Aj x.Ao x.Av x.Ak x.Ah x.Af x.Ai x.Ag (l ++ [(⟨b0, b1, b2, b3, b4, b5, b6, b7, b8, b9, b10, b11⟩ : Am)]) d ((i + 1 : Nat) : Int) else none) := fun K k => by
    rw [Be.j8, if_pos (by omega), Int.toNat_natCast, Fe, Cc (by omega)]
  exact Ac.step hs8 (Ac.neg (by rw [hs]; decide) (Ac.Hf (Vf hsm).two (Ac.pos (by omega) g)))
theorem t8y (hs : seq (nm I i) x.Name = true) (hi : i < I.length) (hn : I.length ≤ 2000000) (g : Ac (fun K k => Be.l2 K k I U x.Name x.Kind x.Ad x.Ae x.Aj x.Ao x.Av x.Ak x.Ah x.Af x.Ai x.Ag l d ((i + 1 : Nat) : Int)) r) : Ac (fun K k => Be.j8 K k I U x.Name x.Kind x.Ad x.Ae x.Aj x.Ao x.Av x.Ak x.Ah x.Af x.Ai x.Ag (i : Int) l d) r := by
  have hs8 : ∀ K k, Be.j8 K (k + 1) I U x.Name x.Kind x.Ad x.Ae x.Aj x.Ao x.Av x.Ak x.Ah x.Af x.Ai x.Ag (i : Int) l d = if seq (nm I i) x.Name = true then Be.l2 K k I U x.Name x.Kind x.Ad x.Ae x.Aj x.Ao x.Av x.Ak x.Ah x.Af x.Ai x.Ag l d ((i + 1 : Nat) : Int) else Go.Proofs.YtkmeepgpmppibaaGreatDoor.Hf (Dw.f K (I.getD i Br).Name (I.getD i Br).Kind (I.getD i Br).Ad (I.getD i Br).Ae (I.getD i Br).Aj (I.getD i Br).Ao (I.getD i Br).Av (I.getD i Br).Ak (I.getD i Br).Ah (I.getD i Br).Af (I.getD i Br).Ai (I.getD i Br).Ag) (fun b0 b1 b2 b3 b4 b5 b6 b7 b8 b9 b10 b11 => if (l.length + 1) * 200 ≤ 140737488355328 then Be.l2 K k I U x.Name x.Kind x.Ad x.Ae x.Aj x.Ao x.Av x.Ak x.Ah x.Af x.Ai x.Ag (l ++ [(⟨b0, b1, b2, b3, b4, b5, b6, b7, b8, b9, b10, b11⟩ : Am)]) d ((i + 1 : Nat) : Int) else none) := fun K k => by
    rw [Be.j8, if_pos (by omega), Int.toNat_natCast, Fe, Cc (by omega)]
  exact Ac.step hs8 (Ac.pos hs g)
theorem t7y {z : Int} (hx : Small x) (hl : l.length ≤ 2000001) (g : Ac (fun K k => Be.j8 K k I U x.Name x.Kind x.Ad x.Ae x.Aj x.Ao x.Av x.Ak x.Ah x.Af x.Ai x.Ag z (l ++ [x]) true) r) : Ac (fun K k => Be.j7 K k I U x.Name x.Kind x.Ad x.Ae x.Aj x.Ao x.Av x.Ak x.Ah x.Af x.Ai x.Ag l d z true) r := by
  have hs7 : ∀ K k, Be.j7 K (k + 1) I U x.Name x.Kind x.Ad x.Ae x.Aj x.Ao x.Av x.Ak x.Ah x.Af x.Ai x.Ag l d z true = Go.Proofs.YtkmeepgpmppibaaGreatDoor.Hf (Dw.f K x.Name x.Kind x.Ad x.Ae x.Aj x.Ao x.Av x.Ak x.Ah x.Af x.Ai x.Ag) (fun b0 b1 b2 b3 b4 b5 b6 b7 b8 b9 b10 b11 => if (l.length + 1) * 200 ≤ 140737488355328 then Be.j8 K k I U x.Name x.Kind x.Ad x.Ae x.Aj x.Ao x.Av x.Ak x.Ah x.Af x.Ai x.Ag z (l ++ [(⟨b0, b1, b2, b3, b4, b5, b6, b7, b8, b9, b10, b11⟩ : Am)]) true else none) := fun K k => by
    rw [Be.j7, if_pos rfl]
  exact Ac.step hs7 (Ac.Hf (Vf hx).two (Ac.pos (by omega) g))
theorem t7n {z : Int} (g : Ac (fun K k => Be.j8 K k I U x.Name x.Kind x.Ad x.Ae x.Aj x.Ao x.Av x.Ak x.Ah x.Af x.Ai x.Ag z l d) r) : Ac (fun K k => Be.j7 K k I U x.Name x.Kind x.Ad x.Ae x.Aj x.Ao x.Av x.Ak x.Ah x.Af x.Ai x.Ag l d z false) r :=
  Ac.step (fun K k => by rw [Be.j7, if_neg (by decide)]) g
theorem Pg {s : Nat} (hs : s ≤ i) (hi : i < I.length) : (I.take (i + 1)).drop s = (I.take i).drop s ++ [I.getD i Br] := by
  have hg : I.getD i Br = I[i] := by rw [List.getD_eq_getElem?_getD, List.getElem?_eq_getElem hi]; rfl
  rw [List.take_add_one, List.getElem?_eq_getElem hi, hg, List.drop_append_of_le_length (by rw [List.length_take]; omega)]
  rfl
theorem aW {p : Nat} {q : Bool} (hn : I.length ≤ 2000000) (hIs : ∀ i, i < I.length → Small (I.getD i Br)) (hx : Small x) (h : At I x.Name p q) (h9 : Ac (fun K k => Be.j9 K k I U (putAt I x p q)) r) : ∀ (m i : Nat), I.length - i = m → i ≤ I.length →
    (i ≤ p → Ac (fun K k => Be.l2 K k I U x.Name x.Kind x.Ad x.Ae x.Aj x.Ao x.Av x.Ak x.Ah x.Af x.Ai x.Ag (I.take i) false (i : Int)) r) ∧ (p < i → Ac (fun K k => Be.l2 K k I U x.Name x.Kind x.Ad x.Ae x.Aj x.Ao x.Av x.Ak x.Ah x.Af x.Ai x.Ag (I.take p ++ x :: (I.take i).drop (p + q.toNat)) true (i : Int)) r)
  | 0, i, hm, hi => by
    obtain rfl : i = I.length := by omega
    refine ⟨fun hp => ?_, fun hp => ?_⟩
    · have hpl : p = I.length := Nat.le_antisymm h.le hp
      have hq : q = false := by cases hq : q with
        | false => rfl
        | true => have := h.lt hq; omega
      have e : putAt I x p q = I.take I.length ++ [x] := by unfold putAt; rw [hq, hpl, List.drop_of_length_le (Nat.le_add_right _ _)]
      rw [e] at h9
      have hs : ∀ K k, Be.l2 K (k + 1) I U x.Name x.Kind x.Ad x.Ae x.Aj x.Ao x.Av x.Ak x.Ah x.Af x.Ai x.Ag (I.take I.length) false (I.length : Int) = Go.Proofs.YtkmeepgpmppibaaGreatDoor.Hf (Dw.f K x.Name x.Kind x.Ad x.Ae x.Aj x.Ao x.Av x.Ak x.Ah x.Af x.Ai x.Ag) (fun b0 b1 b2 b3 b4 b5 b6 b7 b8 b9 b10 b11 => if ((I.take I.length).length + 1) * 200 ≤ 140737488355328 then Be.j9 K k I U (I.take I.length ++ [(⟨b0, b1, b2, b3, b4, b5, b6, b7, b8, b9, b10, b11⟩ : Am)]) else none) := fun K k => by
        rw [Be.l2, if_neg (by omega), if_neg (by decide)]
      exact Ac.step hs (Ac.Hf (Vf hx).two (Ac.pos (by rw [List.length_take]; omega) h9))
    · have e : putAt I x p q = I.take p ++ x :: (I.take I.length).drop (p + q.toNat) := by unfold putAt; rw [List.take_length]
      rw [e] at h9
      exact Ac.step (fun K k => by rw [Be.l2, if_neg (by omega), if_pos rfl]) h9
  | m + 1, i, hm, hi => by
    have hlt : i < I.length := by omega
    obtain ⟨ih1, ih2⟩ := aW hn hIs hx h h9 m (i + 1) (by omega) (by omega)
    have hg : I.take i ++ [I.getD i Br] = I.take (i + 1) := (Pg (s := 0) (Nat.zero_le _) hlt).symm
    refine ⟨fun hp => ?_, fun hp => ?_⟩
    · refine Ac.step (fun K k => sl2 K k hlt hn) ?_
      by_cases e : i = p
      · subst e
        rw [h.hi i (Nat.le_refl _) hlt]
        refine t7y hx (by rw [List.length_take]; omega) ?_
        have ih := ih2 (by omega)
        have hq := h.eq hlt
        cases q with
        | true =>
          have e2 : (I.take (i + 1)).drop (i + true.toNat) = [] := List.drop_of_length_le (by rw [List.length_take]; simp; omega)
          rw [e2] at ih
          exact t8y hq hlt hn ih
        | false =>
          have e2 : (I.take (i + 1)).drop (i + false.toNat) = [I.getD i Br] := by
            rw [show i + false.toNat = i from rfl, Pg (Nat.le_refl _) hlt, List.drop_of_length_le (by rw [List.length_take]; omega)]
            rfl
          rw [e2] at ih
          refine t8n hq hlt hn (hIs i hlt) (by rw [List.length_append, List.length_take]; simp; omega) ?_
          rw [List.append_assoc]
          exact ih
      · have ih := ih1 (by omega)
        rw [h.lo i (by omega)]
        refine t7n (t8n (h.ne i e hlt) hlt hn (hIs i hlt) (by rw [List.length_take]; omega) ?_)
        rw [hg]
        exact ih
    · have ih := ih2 (by omega)
      have hs : p + q.toNat ≤ i := by cases q <;> simp <;> omega
      rw [Pg hs hlt] at ih
      refine Ac.step (fun K k => sl2 K k hlt hn) (t7n (t8n (h.ne i (by omega) hlt) hlt hn (hIs i hlt) ?_ ?_))
      · rw [List.length_append, List.length_take, List.length_cons, List.length_drop, List.length_take]; omega
      · rw [List.append_assoc, List.cons_append]
        exact ih
end
theorem Si (xs : List Am) : Kk xs = (xs.map Lu).sum := Ws Lu Br xs 0 _ (fun j _ => by rw [Nat.zero_add])
theorem dN {I : List Am} {x : Am} {p : Nat} {q : Bool} : Kk (putAt I x p q) ≤ Kk I + Lu x := by
  have h1 : (I.map Lu).sum = ((I.take p).map Lu).sum + ((I.drop p).map Lu).sum := by rw [← List.sum_append, ← List.map_append, List.take_append_drop]
  have h2 : ((I.drop (p + q.toNat)).map Lu).sum ≤ ((I.drop p).map Lu).sum := by
    rw [← List.drop_drop]
    have h3 : ((I.drop p).map Lu).sum = (((I.drop p).take q.toNat).map Lu).sum + (((I.drop p).drop q.toNat).map Lu).sum := by rw [← List.sum_append, ← List.map_append, List.take_append_drop]
    omega
  rw [Si, Si]
  unfold putAt
  rw [List.map_append, List.map_cons, List.sum_append, List.sum_cons]
  omega
theorem Ye {xs : List Am} (h : ∀ i, i < xs.length → Small (xs.getD i Br)) {x : Am} (hx : x ∈ xs) : Small x := by
  obtain ⟨i, hi, rfl⟩ := List.getElem_of_mem hx
  have := h i hi
  rw [List.getD_eq_getElem?_getD, List.getElem?_eq_getElem hi] at this
  exact this
theorem iL {I : List Am} {x : Am} {p : Nat} {q : Bool} (h : ∀ i, i < I.length → Small (I.getD i Br)) (hx : Small x) : ∀ i, i < (putAt I x p q).length → Small ((putAt I x p q).getD i Br) := fun i hi => by
  have hm := Oo Br hi
  unfold putAt at hm
  rcases List.mem_append.1 hm with hm | hm
  · exact Ye h (List.mem_of_mem_take hm)
  · rcases List.mem_cons.1 hm with hm | hm
    · unfold putAt; rw [hm]; exact hx
    · exact Ye h (List.mem_of_mem_drop hm)
theorem dO (xs : List Am) : 6 * xs.length ≤ Kk xs := by
  rw [Si]
  induction xs with
  | nil => exact Nat.zero_le _
  | cons x r ih => have := Ua x; rw [List.map_cons, List.sum_cons, List.length_cons]; omega
theorem iZ {I : List Am} {U R : List (List Am)} (hI9 : I.length ≤ 1999999) (hIs : ∀ i, i < I.length → Small (I.getD i Br)) (hU : Jb U) (hR : Jb R) {x : Am} (hx : Small x) : ∃ (A : List Am) (B C : List (List Am)) (c : Int),
    Ab (fun K => Be.f K I U R x.Name x.Kind x.Ad x.Ae x.Aj x.Ao x.Av x.Ak x.Ah x.Af x.Ai x.Ag) (A, B, C, c) ∧ Ab (fun K => Cw.f K I U R x.Name x.Kind x.Ad x.Ae x.Aj x.Ao x.Av x.Ak x.Ah x.Af x.Ai x.Ag) (A, B, C, c) ∧ A.length ≤ 2000000 ∧ (∀ i, i < A.length → Small (A.getD i Br)) ∧ Jb B ∧ Jb C ∧ Kk A + Hu B + Hu C ≤ 2 * (Kk I + Hu U + Hu R) + Lu x := by
  have hI : I.length ≤ 2000000 := by omega
  obtain ⟨b, b1, b2, _, b3⟩ := cO hI hIs hU hR
  have e0 : Jb [] := ⟨by simp, fun i hi => by simp at hi⟩
  have z1 : Kk [] = 0 := rfl
  have z2 : Hu [] = 0 := rfl
  have hx' := hx
  obtain ⟨s1, ⟨s2, s2r⟩, s3, s4, s5, s6, s7⟩ := hx'
  obtain ⟨v, v1, v2⟩ := Yn x.Name x.Kind x.Ad x.Ae x.Aj x.Ao x.Av x.Ak x.Ah x.Af x.Ai x.Ag s1 s2 s3 s4 s5 s6 s7
  obtain ⟨p0, _, _, _, tp0⟩ := Yk (t := x.Name) hI
  unfold Be.f Cw.f
  cases b with
  | false => exact ⟨[], [], [], 1, Ab.bind b1 (Ab.neg (by decide) (Ab.const _)), Ab.Ed tp0 (Ab.bind b2 (Ab.neg (by decide) (Ab.const _))), by simp, fun i hi => by simp at hi, e0, e0, by omega⟩
  | true =>
  cases v with
  | false => exact ⟨[], [], [], 1, Ab.bind b1 (Ab.pos rfl (Ab.bind v1 (Ab.neg (by decide) (Ab.const _)))), Ab.Ed tp0 (Ab.bind b2 (Ab.pos rfl (Ab.bind v2 (Ab.neg (by decide) (Ab.const _))))), by simp, fun i hi => by simp at hi, e0, e0, by omega⟩
  | true =>
  obtain ⟨⟨u6, _⟩, hsort⟩ := b3 rfl
  obtain ⟨p, q, hat, tp⟩ := bU (t := x.Name) hI hsort
  obtain ⟨w, tw, hw⟩ := bR hI hat
  have hlen := Zi (x := x) hat.le hat.lt
  have go : Ac (fun K k => Be.l2 K k I U x.Name x.Kind x.Ad x.Ae x.Aj x.Ao x.Av x.Ak x.Ah x.Af x.Ai x.Ag ([] : List Am) false 0) (putAt I x p q, push U I, [], 0) :=
    (aW hI hIs hx hat (Ac.step (fun K k => by rw [Be.j9]) (Ac.bind (iJ hU hI hIs).two (Ac.const _))) I.length 0 (by omega) (by omega)).1 (Nat.zero_le _)
  have gi : ∀ (X : List Am), Ac (fun K k => Cw.j2 K k I U R X) (X, push U I, [], 0) := fun X => by
    have hb : Ab (fun K => Jr.f K I U R) (I, U, R) := Ab.bind (Un hI hIs) (Ab.bind (Vo hU) (Ab.bind (Vo hR) (Ab.const _)))
    obtain ⟨n, hn⟩ := hb
    refine ⟨n + 1, fun K k hK hk => ?_⟩
    obtain ⟨k, rfl⟩ : ∃ j, k = j + 1 := ⟨k - 1, by omega⟩
    show Cw.j2 K (k + 1) I U R X = _
    have hn' : Jr.f K I U R = some (I, U, R) := hn K (by omega)
    rw [Cw.j2, hn']
    simp only [M8, Option.bind_some, Kv.f, gT u6, Ed]
  have gj : ∀ (b : Bool), b = false → Ab (fun K => Be.j1 K K I U x.Name x.Kind x.Ad x.Ae x.Aj x.Ao x.Av x.Ak x.Ah x.Af x.Ai x.Ag b) (putAt I x p q, push U I, [], 0) := fun b hb => by
    subst hb
    exact Ac.Ib (F := fun K k => Be.j1 K k I U x.Name x.Kind x.Ad x.Ae x.Aj x.Ao x.Av x.Ak x.Ah x.Af x.Ai x.Ag false) (Ac.step (fun K k => by rw [Be.j1, if_neg (by decide)]) go)
  have gk : ∀ (b : Bool), b = false → Ab (fun K => Cw.j1 K K I U R x.Name x.Kind x.Ad x.Ae x.Aj x.Ao x.Av x.Ak x.Ah x.Af x.Ai x.Ag (p : Int) q b) (putAt I x p q, push U I, [], 0) := fun b hb => by
    subst hb
    refine Ac.Ib (F := fun K k => Cw.j1 K k I U R x.Name x.Kind x.Ad x.Ae x.Aj x.Ao x.Av x.Ak x.Ah x.Af x.Ai x.Ag (p : Int) q false) (Ac.step (fun K k => by rw [Cw.j1, if_neg (by decide)]) (Ac.bind (Un hI hIs).two ?_))
    cases q with
    | true =>
      have hp := hat.lt rfl
      have := gi (putAt I x p true)
      rw [← iH hp] at this ⊢
      exact Ac.pos rfl (Ac.Hf (Vv hx).two (Ac.pos (by omega) (by rw [Int.toNat_natCast]; exact this)))
    | false =>
      refine Ac.neg (by decide) (Ac.Hf (Vv hx).two (Ac.bind (F := fun _ _ => Di.f I (p : Int) x) (a := putAt I x p false) (Ac.congr (G := fun _ _ => some (putAt I x p false)) (fun K k => ?_) (Ac.const _)) (gi _)))
      have := hat.le
      unfold Di.f
      rw [if_pos (by omega), if_pos (by omega), Int.toNat_natCast]
      rfl
  have fin := fun (a : Ab (fun K => Be.f K I U R x.Name x.Kind x.Ad x.Ae x.Aj x.Ao x.Av x.Ak x.Ah x.Af x.Ai x.Ag) (putAt I x p q, push U I, [], 0)) (b : Ab (fun K => Cw.f K I U R x.Name x.Kind x.Ad x.Ae x.Aj x.Ao x.Av x.Ak x.Ah x.Af x.Ai x.Ag) (putAt I x p q, push U I, [], 0)) => (⟨putAt I x p q, push U I, [], 0, a, b, by omega, iL hIs hx, hU.push u6 hI hIs, e0, by
    have h3 := dN (I := I) (x := x) (p := p) (q := q)
    have h4 := Zm U I
    omega⟩ : ∃ (A : List Am) (B C : List (List Am)) (c : Int), Ab (fun K => Be.f K I U R x.Name x.Kind x.Ad x.Ae x.Aj x.Ao x.Av x.Ak x.Ah x.Af x.Ai x.Ag) (A, B, C, c) ∧ Ab (fun K => Cw.f K I U R x.Name x.Kind x.Ad x.Ae x.Aj x.Ao x.Av x.Ak x.Ah x.Af x.Ai x.Ag) (A, B, C, c) ∧ A.length ≤ 2000000 ∧ (∀ i, i < A.length → Small (A.getD i Br)) ∧ Jb B ∧ Jb C ∧ Kk A + Hu B + Hu C ≤ 2 * (Kk I + Hu U + Hu R) + Lu x)
  unfold Be.f Cw.f at fin
  by_cases ht : (I.length : Int) = 10
  · cases hq : q with
    | false =>
      rw [hq] at tp
      exact ⟨[], [], [], 3, Ab.bind b1 (Ab.pos rfl (Ab.bind v1 (Ab.pos rfl (Ab.bind tw (Ab.pos (hw.2 hq) (Ab.congr (fun K => by rw [decide_eq_true ht]) (Ac.Ib (F := fun K k => Be.j1 K k I U x.Name x.Kind x.Ad x.Ae x.Aj x.Ao x.Av x.Ak x.Ah x.Af x.Ai x.Ag true) (Ac.of fun K k => by rw [Be.j1, if_pos rfl])))))))),
        Ab.Ed tp (Ab.bind b2 (Ab.pos rfl (Ab.bind v2 (Ab.pos rfl (Ab.pos ht (Ac.Ib (F := fun K k => Cw.j1 K k I U R x.Name x.Kind x.Ad x.Ae x.Aj x.Ao x.Av x.Ak x.Ah x.Af x.Ai x.Ag (p : Int) false true) (Ac.of fun K k => by rw [Cw.j1, if_pos rfl]))))))), by simp, fun i hi => by simp at hi, e0, e0, by omega⟩
    | true =>
      have hw2 : ¬ w < 0 := fun hc => by have := hw.1 hc; rw [hq] at this; cases this
      exact fin (Ab.bind b1 (Ab.pos rfl (Ab.bind v1 (Ab.pos rfl (Ab.bind tw (Ab.neg hw2 (gj _ rfl))))))) (Ab.Ed tp (Ab.bind b2 (Ab.pos rfl (Ab.bind v2 (Ab.pos rfl (Ab.pos ht (gk _ (by rw [hq]; rfl))))))))
  · by_cases hw2 : w < 0
    · exact fin (Ab.bind b1 (Ab.pos rfl (Ab.bind v1 (Ab.pos rfl (Ab.bind tw (Ab.pos hw2 (gj _ (decide_eq_false ht)))))))) (Ab.Ed tp (Ab.bind b2 (Ab.pos rfl (Ab.bind v2 (Ab.pos rfl (Ab.neg ht (gk _ rfl)))))))
    · exact fin (Ab.bind b1 (Ab.pos rfl (Ab.bind v1 (Ab.pos rfl (Ab.bind tw (Ab.neg hw2 (gj _ rfl))))))) (Ab.Ed tp (Ab.bind b2 (Ab.pos rfl (Ab.bind v2 (Ab.pos rfl (Ab.neg ht (gk _ rfl)))))))
end Go.Proofs.YtkmeepgpmppibaaGreatDoor
