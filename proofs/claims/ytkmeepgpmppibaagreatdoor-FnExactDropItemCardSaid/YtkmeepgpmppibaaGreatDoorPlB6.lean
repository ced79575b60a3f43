/-
  An item is right for both, or for neither.
-/
import Derived.Test.YtkmeepgpmppibaaGreatDoorPlB3
import Derived.Test.YtkmeepgpmppibaaGreatDoorPlB5
import Derived.Test.YtkmeepgpmppibaaGreatDoorPlH
set_option linter.unusedVariables false
set_option linter.unusedSimpArgs false
namespace Go.Proofs.YtkmeepgpmppibaaGreatDoor
open Go.RowKit
theorem diagram_both (cr : List GCrossing) (ci : Int) (h : cr.length ≤ 2000000) : ∃ b, Tends (fun K => spec_IsDiagram.f K cr ci) b ∧ Tends (fun K => impl_isDiagram.f K cr ci) b := by
  rcases drawings cr h ci with ⟨a, b⟩ | ⟨_, _, f, t, _, a, b⟩
  · exact ⟨false, a, Tends.bind3 b (Tends.const _)⟩
  · exact ⟨true, a, Tends.bind3 b (Tends.const _)⟩
def Zk (ts : List (List GFace)) (cr : List GCrossing) (ci st : Int) (wd : List Int) (cn ct : Int) (mv : List GMove) (tt pp : List Int) : Nat → Bool
  | 1 => decide (ts.length = 0)
  | 2 => decide (cr.length = 0 ∧ ci = 0)
  | 3 => decide (st = 0 ∧ wd.length = 0)
  | _ => decide (cn = 0 ∧ ct = 0 ∧ mv.length = 0 ∧ tt.length = 0 ∧ pp.length = 0)
theorem Tends2.of0 {α : Type} {F : Nat → Option α} {G : Nat → Nat → Option α} {r : α} (h : Tends F r) (g : ∀ K k, G K (k + 1) = (F K).bind fun t => some t) : Tends2 G r := Tends2.step g (Tends2.bind h.two (Tends2.const _))
theorem Tends.tup {F : Nat → Option Bool} {a b c d : Bool} {x : Bool} (h : Tends F x) : Tends (fun K => if (a, b, c, d) = (false, false, false, false) then (F K).bind fun t => some t else some false) ((!a && !b && !c && !d) && x) := by
  cases a <;> cases b <;> cases c <;> cases d
  case false.false.false.false => exact Tends.pos rfl (Tends.bind h (Tends.const _))
  all_goals exact Tends.neg (by decide) (Tends.const _)
theorem b4 {α β γ δ ε : Type} (a : α) (b : β) (c : γ) (d : δ) (f : α → β → γ → δ → Option ε) : bind4 (some (a, b, c, d)) f = f a b c d := rfl
theorem fold_1 (Z : Nat → Bool) : allB 4 (fun i => decide (((i + 1 : Nat) : Int) = 1) || Z (i + 1)) = (!false && !(!Z 2) && !(!Z 3) && !(!Z 4)) := by
  show ((decide (((0 + 1 : Nat) : Int) = 1) || Z 1) && ((decide (((1 + 1 : Nat) : Int) = 1) || Z 2) && ((decide (((2 + 1 : Nat) : Int) = 1) || Z 3) && ((decide (((3 + 1 : Nat) : Int) = 1) || Z 4) && true)))) = _
  generalize Z 1 = a; generalize Z 2 = b; generalize Z 3 = c; generalize Z 4 = d
  cases a <;> cases b <;> cases c <;> cases d <;> rfl
theorem fold_2 (Z : Nat → Bool) : allB 4 (fun i => decide (((i + 1 : Nat) : Int) = 2) || Z (i + 1)) = (!(!Z 1) && !false && !(!Z 3) && !(!Z 4)) := by
  show ((decide (((0 + 1 : Nat) : Int) = 2) || Z 1) && ((decide (((1 + 1 : Nat) : Int) = 2) || Z 2) && ((decide (((2 + 1 : Nat) : Int) = 2) || Z 3) && ((decide (((3 + 1 : Nat) : Int) = 2) || Z 4) && true)))) = _
  generalize Z 1 = a; generalize Z 2 = b; generalize Z 3 = c; generalize Z 4 = d
  cases a <;> cases b <;> cases c <;> cases d <;> rfl
theorem fold_3 (Z : Nat → Bool) : allB 4 (fun i => decide (((i + 1 : Nat) : Int) = 3) || Z (i + 1)) = (!(!Z 1) && !(!Z 2) && !false && !(!Z 4)) := by
  show ((decide (((0 + 1 : Nat) : Int) = 3) || Z 1) && ((decide (((1 + 1 : Nat) : Int) = 3) || Z 2) && ((decide (((2 + 1 : Nat) : Int) = 3) || Z 3) && ((decide (((3 + 1 : Nat) : Int) = 3) || Z 4) && true)))) = _
  generalize Z 1 = a; generalize Z 2 = b; generalize Z 3 = c; generalize Z 4 = d
  cases a <;> cases b <;> cases c <;> cases d <;> rfl
theorem fold_4 (Z : Nat → Bool) : allB 4 (fun i => decide (((i + 1 : Nat) : Int) = 4) || Z (i + 1)) = (!(!Z 1) && !(!Z 2) && !(!Z 3) && !false) := by
  show ((decide (((0 + 1 : Nat) : Int) = 4) || Z 1) && ((decide (((1 + 1 : Nat) : Int) = 4) || Z 2) && ((decide (((2 + 1 : Nat) : Int) = 4) || Z 3) && ((decide (((3 + 1 : Nat) : Int) = 4) || Z 4) && true)))) = _
  generalize Z 1 = a; generalize Z 2 = b; generalize Z 3 = c; generalize Z 4 = d
  cases a <;> cases b <;> cases c <;> cases d <;> rfl
section
variable (nm : ByteArray) (kd : Int) (ts : List (List GFace)) (cr : List GCrossing) (ci st : Int) (wd : List Int) (cn ct : Int) (mv : List GMove) (tt pp : List Int)
theorem zero_eq (k : Nat) (h1 : 1 ≤ k) (h2 : k ≤ 4) : spec_l33Zero.f nm kd ts cr ci st wd cn ct mv tt pp (k : Int) = some (Zk ts cr ci st wd cn ct mv tt pp k) := by
  have e : k = 1 ∨ k = 2 ∨ k = 3 ∨ k = 4 := by omega
  unfold spec_l33Zero.f spec_l33NoTri.f spec_l33NoDiagram.f spec_l33NoBraid.f spec_l33NoCertificate.f
  rcases e with rfl | rfl | rfl | rfl
  · rw [if_pos (by decide)]; simp [Zk]
  · rw [if_neg (by decide), if_pos (by decide)]
    by_cases h : cr.length = 0 <;> simp [Zk, h]
  · rw [if_neg (by decide), if_neg (by decide), if_pos (by decide)]
    by_cases h : st = 0 <;> simp [Zk, h]
  · rw [if_neg (by decide), if_neg (by decide), if_neg (by decide)]
    by_cases a1 : cn = 0 <;> by_cases a2 : ct = 0 <;> by_cases a3 : mv.length = 0 <;> by_cases a4 : tt.length = 0 <;> simp [Zk, a1, a2, a3, a4]
theorem fields_eq : impl_fields.f nm kd ts cr ci st wd cn ct mv tt pp = some (!Zk ts cr ci st wd cn ct mv tt pp 1, !Zk ts cr ci st wd cn ct mv tt pp 2, !Zk ts cr ci st wd cn ct mv tt pp 3, !Zk ts cr ci st wd cn ct mv tt pp 4) := by
  have p : ∀ n : Nat, decide (0 < (n : Int)) = !decide (n = 0) := fun n => by
    by_cases h : n = 0
    · rw [decide_eq_true h, decide_eq_false (by omega)]; rfl
    · rw [decide_eq_false h, decide_eq_true (by omega)]; rfl
  unfold impl_fields.f
  simp only [p]
  by_cases b1 : cr.length = 0 <;> by_cases b2 : st = 0 <;> by_cases b3 : ci = 0 <;> by_cases a1 : cn = 0 <;> by_cases a2 : ct = 0 <;> by_cases a3 : mv.length = 0 <;> by_cases a4 : tt.length = 0 <;> simp [Zk, b1, b2, b3, a1, a2, a3, a4]
theorem item_both (h0 : nm.size ≤ 2000000) (h1 : ts.length ≤ 2000000) (h2 : cr.length ≤ 2000000) (h3 : wd.length ≤ 2000000) (h4 : mv.length ≤ 2000000) (h5 : tt.length ≤ 2000000) (h6 : pp.length ≤ 2000000) :
    ∃ b, Tends (fun K => spec_ValidItem.f K nm kd ts cr ci st wd cn ct mv tt pp) b ∧ Tends (fun K => impl_isItem.f K nm kd ts cr ci st wd cn ct mv tt pp) b := by
  have n1 := name_spec h0
  have n2 := name_impl h0
  obtain ⟨bt, ct1, ct2⟩ := tri_both ts h1
  obtain ⟨bd, cd1, cd2⟩ := diagram_both cr ci h2
  obtain ⟨bb, cb1, cb2⟩ := braid_both st wd h3
  obtain ⟨bp, cp1, cp2⟩ := plain_both cn ct mv tt pp h4 h5 h6
  let P : Nat → Bool := fun i => decide (((i + 1 : Nat) : Int) = kd) || Zk ts cr ci st wd cn ct mv tt pp (i + 1)
  have loop : ∀ b, Tends2 (fun K k => spec_ValidItem.l1 K k nm kd ts cr ci st wd cn ct mv tt pp ((4 + 1 : Nat) : Int)) b → Tends2 (fun K k => spec_ValidItem.l1 K k nm kd ts cr ci st wd cn ct mv tt pp 1) (allB 4 P && b) := fun b h =>
    scan_bool (l := fun K k i => spec_ValidItem.l1 K k nm kd ts cr ci st wd cn ct mv tt pp ((i + 1 : Nat) : Int)) (n := 4) (P := P) (fun i hi hp v hv => Tends2.step (fun K k => by
        rw [spec_ValidItem.l1, if_pos (by omega)]
        by_cases e : ((i + 1 : Nat) : Int) = kd
        · rw [if_pos e, w64_succ (by omega)]
        · have hz : Zk ts cr ci st wd cn ct mv tt pp (i + 1) = true := by
            have : P i = true := hp
            show _ = true
            simp only [P, decide_eq_false e, Bool.false_or] at this
            exact this
          rw [if_neg e, zero_eq _ _ _ _ _ _ _ _ _ _ _ _ (i + 1) (by omega) (by omega), Option.bind_some, if_pos hz, w64_succ (by omega)]) hv)
      (fun i hi hp => Tends2.of fun K k => by
        have : P i = false := hp
        have e : ¬ ((i + 1 : Nat) : Int) = kd := fun e => by simp only [P, decide_eq_true e, Bool.true_or] at this; cases this
        have hz : Zk ts cr ci st wd cn ct mv tt pp (i + 1) = false := by
          simp only [P, decide_eq_false e, Bool.false_or] at this
          exact this
        rw [spec_ValidItem.l1, if_pos (by omega), if_neg e, zero_eq _ _ _ _ _ _ _ _ _ _ _ _ (i + 1) (by omega) (by omega), Option.bind_some, if_neg (by rw [hz]; decide)])
      h
  unfold spec_ValidItem.f impl_isItem.f
  simp only [inn_eq, rng_eq, fields_eq, b4, Option.bind_some]
  cases hn : (allB nm.size (letterB nm) && decide (1 ≤ nm.size ∧ nm.size ≤ 8)) with
  | false =>
    rw [hn] at n1 n2
    exact ⟨false, Tends.bind n1 (Tends.neg (by decide) (Tends.const _)), Tends.bind n2 (Tends.neg (by decide) (Tends.const _))⟩
  | true =>
    rw [hn] at n1 n2
    by_cases hk : 1 ≤ kd ∧ kd ≤ 4
    rotate_left
    · rw [decide_eq_false hk]
      exact ⟨false, Tends.bind n1 (Tends.pos rfl (Tends.neg (by decide) (Tends.const _))), Tends.bind n2 (Tends.pos rfl (Tends.neg (by decide) (Tends.const _)))⟩
    rw [decide_eq_true hk]
    have e : kd = 1 ∨ kd = 2 ∨ kd = 3 ∨ kd = 4 := by omega
    rcases e with rfl | rfl | rfl | rfl
    · have hall : allB 4 P = (!false && !(!Zk ts cr ci st wd cn ct mv tt pp 2) && !(!Zk ts cr ci st wd cn ct mv tt pp 3) && !(!Zk ts cr ci st wd cn ct mv tt pp 4)) := fold_1 _
      have hL := (loop bt (Tends2.of0 ct1 fun K k => by rw [spec_ValidItem.l1, if_neg (by decide), if_pos rfl])).diag
      rw [hall] at hL
      refine ⟨_, Tends.bind n1 (Tends.pos rfl (Tends.pos rfl hL)), Tends.bind n2 (Tends.pos rfl (Tends.pos rfl ?_))⟩
      refine Tends.pos (by decide) (Tends.congr (fun K => ?_) (Tends.tup (F := fun K => impl_isTriangulation.f K ts) ct2))
      rfl
    · have hall : allB 4 P = (!(!Zk ts cr ci st wd cn ct mv tt pp 1) && !false && !(!Zk ts cr ci st wd cn ct mv tt pp 3) && !(!Zk ts cr ci st wd cn ct mv tt pp 4)) := fold_2 _
      have hL := (loop bd (Tends2.of0 cd1 fun K k => by rw [spec_ValidItem.l1, if_neg (by decide), if_neg (by decide), if_pos rfl])).diag
      rw [hall] at hL
      refine ⟨_, Tends.bind n1 (Tends.pos rfl (Tends.pos rfl hL)), Tends.bind n2 (Tends.pos rfl (Tends.pos rfl ?_))⟩
      refine Tends.neg (by decide) <| Tends.pos (by decide) (Tends.congr (fun K => ?_) (Tends.tup (F := fun K => impl_isDiagram.f K cr ci) cd2))
      rfl
    · have hall : allB 4 P = (!(!Zk ts cr ci st wd cn ct mv tt pp 1) && !(!Zk ts cr ci st wd cn ct mv tt pp 2) && !false && !(!Zk ts cr ci st wd cn ct mv tt pp 4)) := fold_3 _
      have hL := (loop bb (Tends2.of0 cb1 fun K k => by rw [spec_ValidItem.l1, if_neg (by decide), if_neg (by decide), if_neg (by decide), if_pos rfl])).diag
      rw [hall] at hL
      refine ⟨_, Tends.bind n1 (Tends.pos rfl (Tends.pos rfl hL)), Tends.bind n2 (Tends.pos rfl (Tends.pos rfl ?_))⟩
      refine Tends.neg (by decide) <| Tends.neg (by decide) <| Tends.pos (by decide) (Tends.congr (fun K => ?_) (Tends.tup (F := fun K => impl_isBraid.f K st wd) cb2))
      rfl
    · have hall : allB 4 P = (!(!Zk ts cr ci st wd cn ct mv tt pp 1) && !(!Zk ts cr ci st wd cn ct mv tt pp 2) && !(!Zk ts cr ci st wd cn ct mv tt pp 3) && !false) := fold_4 _
      have hL := (loop bp (Tends2.of0 cp1 fun K k => by rw [spec_ValidItem.l1, if_neg (by decide), if_neg (by decide), if_neg (by decide), if_neg (by decide)])).diag
      rw [hall] at hL
      refine ⟨_, Tends.bind n1 (Tends.pos rfl (Tends.pos rfl hL)), Tends.bind n2 (Tends.pos rfl (Tends.pos rfl ?_))⟩
      refine Tends.neg (by decide) <| Tends.neg (by decide) <| Tends.neg (by decide) <| Tends.pos (by decide) (Tends.congr (fun K => ?_) (Tends.tup (F := fun K => impl_isPlain.f K cn ct mv tt pp) cp2))
      rfl
theorem toItem (h1 : ts.length ≤ 2000000) (h1r : ∀ j, j < ts.length → (ts.getD j []).length ≤ 2000000) (h2 : cr.length ≤ 2000000) (h3 : wd.length ≤ 2000000) (h4 : mv.length ≤ 2000000) (h5 : tt.length ≤ 2000000) (h6 : pp.length ≤ 2000000) :
    Tends (fun K => laws_toItem.f K nm kd ts cr ci st wd cn ct mv tt pp) (nm, kd, ts, cr, ci, st, wd, cn, ct, mv, tt, pp) := by
  have tT : Tends (fun K => laws_toTriangulation.f K ts) ts := Tends.bind (toFaceSS h1 h1r) (Tends.const _)
  have tB : Tends (fun K => laws_toBraid.f K st wd) (st, wd) := Tends.bind (toInt64S h3) (Tends.const _)
  have tC : Tends (fun K => laws_toCertificate.f K cn ct mv tt pp) (cn, ct, mv, tt, pp) := Tends.bind (toMoveS h4) (Tends.bind (toInt64S h5) (Tends.bind (toInt64S h6) (Tends.const _)))
  unfold laws_toItem.f
  refine Tends.bind tT (Tends.bind2 (toDiagram h2 ci) (Tends.bind2 tB ?_))
  exact Tends.bind (F := fun K => laws_toCertificate.f K cn ct mv tt pp) (G := fun K z => some (nm, kd, ts, cr, ci, st, wd, z.1, z.2.1, z.2.2.1, z.2.2.2.1, z.2.2.2.2)) tC (Tends.const _)
theorem eqItem (h1 : ts.length ≤ 2000000) (h1r : ∀ j, j < ts.length → (ts.getD j []).length ≤ 2000000) (h2 : cr.length ≤ 2000000) (h3 : wd.length ≤ 2000000) (h4 : mv.length ≤ 2000000) (h5 : tt.length ≤ 2000000) (h6 : pp.length ≤ 2000000) :
    Tends (fun K => laws_eqItem.f K nm kd ts cr ci st wd cn ct mv tt pp nm kd ts cr ci st wd cn ct mv tt pp) true := by
  have eT : Tends (fun K => laws_eqTriangulation.f K ts ts) true := Tends.bind (eqFaceSS h1 h1r) (Tends.pos rfl (Tends.const _))
  have eB : Tends (fun K => laws_eqBraid.f K st wd st wd) true := Tends.pos rfl (Tends.bind (eqInt64S h3) (Tends.pos rfl (Tends.const _)))
  have eC : Tends (fun K => laws_eqCertificate.f K cn ct mv tt pp cn ct mv tt pp) true := Tends.pos rfl (Tends.pos rfl (Tends.bind (eqMoveS h4) (Tends.pos rfl (Tends.bind (eqInt64S h5) (Tends.pos rfl (Tends.bind (eqInt64S h6) (Tends.pos rfl (Tends.const _))))))))
  unfold laws_eqItem.f
  exact Tends.pos (seq_self nm) (Tends.pos rfl (Tends.bind eT (Tends.pos rfl (Tends.bind (eqDiagram h2 ci) (Tends.pos rfl (Tends.bind eB (Tends.pos rfl (Tends.bind eC (Tends.pos rfl (Tends.const _))))))))))
end
theorem Tends.bind12 {α0 α1 α2 α3 α4 α5 α6 α7 α8 α9 α10 α11 β : Type} {F : Nat → Option (α0 × α1 × α2 × α3 × α4 × α5 × α6 × α7 × α8 × α9 × α10 × α11)} {G : Nat → α0 → α1 → α2 → α3 → α4 → α5 → α6 → α7 → α8 → α9 → α10 → α11 → Option β} {a0 : α0} {a1 : α1} {a2 : α2} {a3 : α3} {a4 : α4} {a5 : α5} {a6 : α6} {a7 : α7} {a8 : α8} {a9 : α9} {a10 : α10} {a11 : α11} {r : β}
    (h : Tends F (a0, a1, a2, a3, a4, a5, a6, a7, a8, a9, a10, a11)) (g : Tends (fun K => G K a0 a1 a2 a3 a4 a5 a6 a7 a8 a9 a10 a11) r) : Tends (fun K => Go.Proofs.YtkmeepgpmppibaaGreatDoor.bind12 (F K) (G K)) r := by
  obtain ⟨n, hn⟩ := h
  obtain ⟨m, hm⟩ := g
  exact ⟨n + m, fun K hK => by show Go.Proofs.YtkmeepgpmppibaaGreatDoor.bind12 (F K) (G K) = some r; rw [hn K (by omega)]; exact hm K (by omega)⟩
end Go.Proofs.YtkmeepgpmppibaaGreatDoor
