/-
  An item is right for both, or for neither.
-/
import Derived.Test.YtkmeepgpmppibaaGreatDoorPlB3
import Derived.Test.YtkmeepgpmppibaaGreatDoorPlB5
import Derived.Test.YtkmeepgpmppibaaGreatDoorPlH
set_option linter.unusedVariables false
set_option linter.unusedSimpArgs false
namespace Go.Proofs.YtkmeepgpmppibaaGreatDoor
open Go.RowKit
theorem Zq (cr : List Al) (ci : Int) (h : cr.length ≤ 2000000) : ∃ b, Ab (fun K => Ic.f K cr ci) b ∧ Ab (fun K => Gf.f K cr ci) b := by
  rcases kZ cr h ci with ⟨a, b⟩ | ⟨_, _, f, t, _, a, b⟩
  · exact ⟨false, a, Ab.M8 b (Ab.const _)⟩
  · exact ⟨true, a, Ab.M8 b (Ab.const _)⟩
def Zk (ts : List (List Bt)) (cr : List Al) (ci st : Int) (wd : List Int) (cn ct : Int) (mv : List Ci) (tt pp : List Int) : Nat → Bool
  | 1 => decide (ts.length = 0)
  | 2 => decide (cr.length = 0 ∧ ci = 0)
  | 3 => decide (st = 0 ∧ wd.length = 0)
  | _ => decide (cn = 0 ∧ ct = 0 ∧ mv.length = 0 ∧ tt.length = 0 ∧ pp.length = 0)
theorem Ac.of0 {α : Type} {F : Nat → Option α} {G : Nat → Nat → Option α} {r : α} (h : Ab F r) (g : ∀ K k, G K (k + 1) = (F K).bind fun t => some t) : Ac G r := Ac.step g (Ac.bind h.two (Ac.const _))
theorem Ab.tup {F : Nat → Option Bool} {a b c d : Bool} {x : Bool} (h : Ab F x) : Ab (fun K => if (a, b, c, d) = (false, false, false, false) then (F K).bind fun t => some t else some false) ((!a && !b && !c && !d) && x) := by
  cases a <;> cases b <;> cases c <;> cases d
  case false.false.false.false => exact Ab.pos rfl (Ab.bind h (Ab.const _))
  all_goals exact Ab.neg (by decide) (Ab.const _)
theorem b4 {α β γ δ ε : Type} (a : α) (b : β) (c : γ) (d : δ) (f : α → β → γ → δ → Option ε) : M9 (some (a, b, c, d)) f = f a b c d := rfl
theorem vL (Z : Nat → Bool) : J7 4 (fun i => decide (((i + 1 : Nat) : Int) = 1) || Z (i + 1)) = (!false && !(!Z 2) && !(!Z 3) && !(!Z 4)) := by
  show ((decide (((0 + 1 : Nat) : Int) = 1) || Z 1) && ((decide (((1 + 1 : Nat) : Int) = 1) || Z 2) && ((decide (((2 + 1 : Nat) : Int) = 1) || Z 3) && ((decide (((3 + 1 : Nat) : Int) = 1) || Z 4) && true)))) = _
  generalize Z 1 = a; generalize Z 2 = b; generalize Z 3 = c; generalize Z 4 = d
  cases a <;> cases b <;> cases c <;> cases d <;> rfl
theorem vN (Z : Nat → Bool) : J7 4 (fun i => decide (((i + 1 : Nat) : Int) = 2) || Z (i + 1)) = (!(!Z 1) && !false && !(!Z 3) && !(!Z 4)) := by
  show ((decide (((0 + 1 : Nat) : Int) = 2) || Z 1) && ((decide (((1 + 1 : Nat) : Int) = 2) || Z 2) && ((decide (((2 + 1 : Nat) : Int) = 2) || Z 3) && ((decide (((3 + 1 : Nat) : Int) = 2) || Z 4) && true)))) = _
  generalize Z 1 = a; generalize Z 2 = b; generalize Z 3 = c; generalize Z 4 = d
  cases a <;> cases b <;> cases c <;> cases d <;> rfl
theorem wE (Z : Nat → Bool) : J7 4 (fun i => decide (((i + 1 : Nat) : Int) = 3) || Z (i + 1)) = (!(!Z 1) && !(!Z 2) && !false && !(!Z 4)) := by
  show ((decide (((0 + 1 : Nat) : Int) = 3) || Z 1) && ((decide (((1 + 1 : Nat) : Int) = 3) || Z 2) && ((decide (((2 + 1 : Nat) : Int) = 3) || Z 3) && ((decide (((3 + 1 : Nat) : Int) = 3) || Z 4) && true)))) = _
  generalize Z 1 = a; generalize Z 2 = b; generalize Z 3 = c; generalize Z 4 = d
  cases a <;> cases b <;> cases c <;> cases d <;> rfl
theorem wO (Z : Nat → Bool) : J7 4 (fun i => decide (((i + 1 : Nat) : Int) = 4) || Z (i + 1)) = (!(!Z 1) && !(!Z 2) && !(!Z 3) && !false) := by
  show ((decide (((0 + 1 : Nat) : Int) = 4) || Z 1) && ((decide (((1 + 1 : Nat) : Int) = 4) || Z 2) && ((decide (((2 + 1 : Nat) : Int) = 4) || Z 3) && ((decide (((3 + 1 : Nat) : Int) = 4) || Z 4) && true)))) = _
  generalize Z 1 = a; generalize Z 2 = b; generalize Z 3 = c; generalize Z 4 = d
  cases a <;> cases b <;> cases c <;> cases d <;> rfl
section
variable (nm : ByteArray) (kd : Int) (ts : List (List Bt)) (cr : List Al) (ci st : Int) (wd : List Int) (cn ct : Int) (mv : List Ci) (tt pp : List Int)
theorem zero_eq (k : Nat) (h1 : 1 ≤ k) (h2 : k ≤ 4) : Kr.f nm kd ts cr ci st wd cn ct mv tt pp (k : Int) = some (Zk ts cr ci st wd cn ct mv tt pp k) := by
  have e : k = 1 ∨ k = 2 ∨ k = 3 ∨ k = 4 := by omega
  unfold Kr.f Ky.f I6.f Jy.f Gv.f
  rcases e with rfl | rfl | rfl | rfl
  · rw [if_pos (by decide)]; simp [Zk]
  · rw [if_neg (by decide), if_pos (by decide)]
    by_cases h : cr.length = 0 <;> simp [Zk, h]
  · rw [if_neg (by decide), if_neg (by decide), if_pos (by decide)]
    by_cases h : st = 0 <;> simp [Zk, h]
  · rw [if_neg (by decide), if_neg (by decide), if_neg (by decide)]
    by_cases a1 : cn = 0 <;> by_cases a2 : ct = 0 <;> by_cases a3 : mv.length = 0 <;> by_cases a4 : tt.length = 0 <;> simp [Zk, a1, a2, a3, a4]
theorem iY : Le.f nm kd ts cr ci st wd cn ct mv tt pp = some (!Zk ts cr ci st wd cn ct mv tt pp 1, !Zk ts cr ci st wd cn ct mv tt pp 2, !Zk ts cr ci st wd cn ct mv tt pp 3, !Zk ts cr ci st wd cn ct mv tt pp 4) := by
  have p : ∀ n : Nat, decide (0 < (n : Int)) = !decide (n = 0) := fun n => by
    by_cases h : n = 0
    · rw [decide_eq_true h, decide_eq_false (by omega)]; rfl
    · rw [decide_eq_false h, decide_eq_true (by omega)]; rfl
  unfold Le.f
  simp only [p]
  by_cases b1 : cr.length = 0 <;> by_cases b2 : st = 0 <;> by_cases b3 : ci = 0 <;> by_cases a1 : cn = 0 <;> by_cases a2 : ct = 0 <;> by_cases a3 : mv.length = 0 <;> by_cases a4 : tt.length = 0 <;> simp [Zk, b1, b2, b3, a1, a2, a3, a4]
theorem Yn (h0 : nm.size ≤ 2000000) (h1 : ts.length ≤ 2000000) (h2 : cr.length ≤ 2000000) (h3 : wd.length ≤ 2000000) (h4 : mv.length ≤ 2000000) (h5 : tt.length ≤ 2000000) (h6 : pp.length ≤ 2000000) :
    ∃ b, Ab (fun K => Cr.f K nm kd ts cr ci st wd cn ct mv tt pp) b ∧ Ab (fun K => Ig.f K nm kd ts cr ci st wd cn ct mv tt pp) b := by
  have n1 := iC h0
  have n2 := iT h0
  obtain ⟨bt, ct1, ct2⟩ := jZ ts h1
  obtain ⟨bd, cd1, cd2⟩ := Zq cr ci h2
  obtain ⟨bb, cb1, cb2⟩ := cB st wd h3
  obtain ⟨bp, cp1, cp2⟩ := bX cn ct mv tt pp h4 h5 h6
  let P : Nat → Bool := fun i => decide (((i + 1 : Nat) : Int) = kd) || Zk ts cr ci st wd cn ct mv tt pp (i + 1)
  have loop : ∀ b, Ac (fun K k => Cr.l1 K k nm kd ts cr ci st wd cn ct mv tt pp ((4 + 1 : Nat) : Int)) b → Ac (fun K k => Cr.l1 K k nm kd ts cr ci st wd cn ct mv tt pp 1) (J7 4 P && b) := fun b h =>
    Lx (l := fun K k i => Cr.l1 K k nm kd ts cr ci st wd cn ct mv tt pp ((i + 1 : Nat) : Int)) (n := 4) (P := P) (fun i hi hp v hv => Ac.step (fun K k => by
        rw [Cr.l1, if_pos (by omega)]
        by_cases e : ((i + 1 : Nat) : Int) = kd
        · rw [if_pos e, Cc (by omega)]
        · have hz : Zk ts cr ci st wd cn ct mv tt pp (i + 1) = true := by
            have : P i = true := hp
            show _ = true
            simp only [P, decide_eq_false e, Bool.false_or] at this
            exact this
          rw [if_neg e, zero_eq _ _ _ _ _ _ _ _ _ _ _ _ (i + 1) (by omega) (by omega), Option.bind_some, if_pos hz, Cc (by omega)]) hv)
      (fun i hi hp => Ac.of fun K k => by
        have : P i = false := hp
        have e : ¬ ((i + 1 : Nat) : Int) = kd := fun e => by simp only [P, decide_eq_true e, Bool.true_or] at this; cases this
        have hz : Zk ts cr ci st wd cn ct mv tt pp (i + 1) = false := by
          simp only [P, decide_eq_false e, Bool.false_or] at this
          exact this
        rw [Cr.l1, if_pos (by omega), if_neg e, zero_eq _ _ _ _ _ _ _ _ _ _ _ _ (i + 1) (by omega) (by omega), Option.bind_some, if_neg (by rw [hz]; decide)])
      h
  unfold Cr.f Ig.f
  simp only [Um, O0, iY, b4, Option.bind_some]
  cases hn : (J7 nm.size (O6 nm) && decide (1 ≤ nm.size ∧ nm.size ≤ 8)) with
  | false =>
    rw [hn] at n1 n2
    exact ⟨false, Ab.bind n1 (Ab.neg (by decide) (Ab.const _)), Ab.bind n2 (Ab.neg (by decide) (Ab.const _))⟩
  | true =>
    rw [hn] at n1 n2
    by_cases hk : 1 ≤ kd ∧ kd ≤ 4
    rotate_left
    · rw [decide_eq_false hk]
      exact ⟨false, Ab.bind n1 (Ab.pos rfl (Ab.neg (by decide) (Ab.const _))), Ab.bind n2 (Ab.pos rfl (Ab.neg (by decide) (Ab.const _)))⟩
    rw [decide_eq_true hk]
    have e : kd = 1 ∨ kd = 2 ∨ kd = 3 ∨ kd = 4 := by omega
    rcases e with rfl | rfl | rfl | rfl
    · have hall : J7 4 P = (!false && !(!Zk ts cr ci st wd cn ct mv tt pp 2) && !(!Zk ts cr ci st wd cn ct mv tt pp 3) && !(!Zk ts cr ci st wd cn ct mv tt pp 4)) := vL _
      have hL := (loop bt (Ac.of0 ct1 fun K k => by rw [Cr.l1, if_neg (by decide), if_pos rfl])).Ib
      rw [hall] at hL
      refine ⟨_, Ab.bind n1 (Ab.pos rfl (Ab.pos rfl hL)), Ab.bind n2 (Ab.pos rfl (Ab.pos rfl ?_))⟩
      refine Ab.pos (by decide) (Ab.congr (fun K => ?_) (Ab.tup (F := fun K => Bp.f K ts) ct2))
      rfl
    · have hall : J7 4 P = (!(!Zk ts cr ci st wd cn ct mv tt pp 1) && !false && !(!Zk ts cr ci st wd cn ct mv tt pp 3) && !(!Zk ts cr ci st wd cn ct mv tt pp 4)) := vN _
      have hL := (loop bd (Ac.of0 cd1 fun K k => by rw [Cr.l1, if_neg (by decide), if_neg (by decide), if_pos rfl])).Ib
      rw [hall] at hL
      refine ⟨_, Ab.bind n1 (Ab.pos rfl (Ab.pos rfl hL)), Ab.bind n2 (Ab.pos rfl (Ab.pos rfl ?_))⟩
      refine Ab.neg (by decide) <| Ab.pos (by decide) (Ab.congr (fun K => ?_) (Ab.tup (F := fun K => Gf.f K cr ci) cd2))
      rfl
    · have hall : J7 4 P = (!(!Zk ts cr ci st wd cn ct mv tt pp 1) && !(!Zk ts cr ci st wd cn ct mv tt pp 2) && !false && !(!Zk ts cr ci st wd cn ct mv tt pp 4)) := wE _
      have hL := (loop bb (Ac.of0 cb1 fun K k => by rw [Cr.l1, if_neg (by decide), if_neg (by decide), if_neg (by decide), if_pos rfl])).Ib
      rw [hall] at hL
      refine ⟨_, Ab.bind n1 (Ab.pos rfl (Ab.pos rfl hL)), Ab.bind n2 (Ab.pos rfl (Ab.pos rfl ?_))⟩
      refine Ab.neg (by decide) <| Ab.neg (by decide) <| Ab.pos (by decide) (Ab.congr (fun K => ?_) (Ab.tup (F := fun K => G5.f K st wd) cb2))
      rfl
    · have hall : J7 4 P = (!(!Zk ts cr ci st wd cn ct mv tt pp 1) && !(!Zk ts cr ci st wd cn ct mv tt pp 2) && !(!Zk ts cr ci st wd cn ct mv tt pp 3) && !false) := wO _
      have hL := (loop bp (Ac.of0 cp1 fun K k => by rw [Cr.l1, if_neg (by decide), if_neg (by decide), if_neg (by decide), if_neg (by decide)])).Ib
      rw [hall] at hL
      refine ⟨_, Ab.bind n1 (Ab.pos rfl (Ab.pos rfl hL)), Ab.bind n2 (Ab.pos rfl (Ab.pos rfl ?_))⟩
      refine Ab.neg (by decide) <| Ab.neg (by decide) <| Ab.neg (by decide) <| Ab.pos (by decide) (Ab.congr (fun K => ?_) (Ab.tup (F := fun K => Gz.f K cn ct mv tt pp) cp2))
      rfl
theorem kI (h1 : ts.length ≤ 2000000) (h1r : ∀ j, j < ts.length → (ts.getD j []).length ≤ 2000000) (h2 : cr.length ≤ 2000000) (h3 : wd.length ≤ 2000000) (h4 : mv.length ≤ 2000000) (h5 : tt.length ≤ 2000000) (h6 : pp.length ≤ 2000000) :
    Ab (fun K => Gy.f K nm kd ts cr ci st wd cn ct mv tt pp) (nm, kd, ts, cr, ci, st, wd, cn, ct, mv, tt, pp) := by
  have tT : Ab (fun K => Hg.f K ts) ts := Ab.bind (jQ h1 h1r) (Ab.const _)
  have tB : Ab (fun K => Lj.f K st wd) (st, wd) := Ab.bind (Vq h3) (Ab.const _)
  have tC : Ab (fun K => Hq.f K cn ct mv tt pp) (cn, ct, mv, tt, pp) := Ab.bind (rW h4) (Ab.bind (Vq h5) (Ab.bind (Vq h6) (Ab.const _)))
  unfold Gy.f
  refine Ab.bind tT (Ab.Ed (gZ h2 ci) (Ab.Ed tB ?_))
  exact Ab.bind (F := fun K => Hq.f K cn ct mv tt pp) (G := fun K z => some (nm, kd, ts, cr, ci, st, wd, z.1, z.2.1, z.2.2.1, z.2.2.2.1, z.2.2.2.2)) tC (Ab.const _)
theorem nC (h1 : ts.length ≤ 2000000) (h1r : ∀ j, j < ts.length → (ts.getD j []).length ≤ 2000000) (h2 : cr.length ≤ 2000000) (h3 : wd.length ≤ 2000000) (h4 : mv.length ≤ 2000000) (h5 : tt.length ≤ 2000000) (h6 : pp.length ≤ 2000000) :
    Ab (fun K => Ka.f K nm kd ts cr ci st wd cn ct mv tt pp nm kd ts cr ci st wd cn ct mv tt pp) true := by
  have eT : Ab (fun K => Hl.f K ts ts) true := Ab.bind (oG h1 h1r) (Ab.pos rfl (Ab.const _))
  have eB : Ab (fun K => Ll.f K st wd st wd) true := Ab.pos rfl (Ab.bind (Wn h3) (Ab.pos rfl (Ab.const _)))
  have eC : Ab (fun K => Ie.f K cn ct mv tt pp cn ct mv tt pp) true := Ab.pos rfl (Ab.pos rfl (Ab.bind (pW h4) (Ab.pos rfl (Ab.bind (Wn h5) (Ab.pos rfl (Ab.bind (Wn h6) (Ab.pos rfl (Ab.const _))))))))
  unfold Ka.f
  exact Ab.pos (bJ nm) (Ab.pos rfl (Ab.bind eT (Ab.pos rfl (Ab.bind (iX h2 ci) (Ab.pos rfl (Ab.bind eB (Ab.pos rfl (Ab.bind eC (Ab.pos rfl (Ab.const _))))))))))
end
theorem Ab.Hf {α0 α1 α2 α3 α4 α5 α6 α7 α8 α9 α10 α11 β : Type} {F : Nat → Option (α0 × α1 × α2 × α3 × α4 × α5 × α6 × α7 × α8 × α9 × α10 × α11)} {G : Nat → α0 → α1 → α2 → α3 → α4 → α5 → α6 → α7 → α8 → α9 → α10 → α11 → Option β} {a0 : α0} {a1 : α1} {a2 : α2} {a3 : α3} {a4 : α4} {a5 : α5} {a6 : α6} {a7 : α7} {a8 : α8} {a9 : α9} {a10 : α10} {a11 : α11} {r : β}
    (h : Ab F (a0, a1, a2, a3, a4, a5, a6, a7, a8, a9, a10, a11)) (g : Ab (fun K => G K a0 a1 a2 a3 a4 a5 a6 a7 a8 a9 a10 a11) r) : Ab (fun K => Go.Proofs.YtkmeepgpmppibaaGreatDoor.Hf (F K) (G K)) r := by
  obtain ⟨n, hn⟩ := h
  obtain ⟨m, hm⟩ := g
  exact ⟨n + m, fun K hK => by show Go.Proofs.YtkmeepgpmppibaaGreatDoor.Hf (F K) (G K) = some r; rw [hn K (by omega)]; exact hm K (by omega)⟩
end Go.Proofs.YtkmeepgpmppibaaGreatDoor
