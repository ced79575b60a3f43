/-
  SmoothCrossing: the program's circles; both answers agree.
-/
import Derived.Test.YtdafmbaeiefacaaPlE2
set_option linter.unusedVariables false
set_option linter.unusedSimpArgs false
set_option linter.unusedSectionVars false
namespace Go.Proofs.Ytdafmbaeiefacaa
open Go.RowKit
theorem back_set {N : Nat} {nx pv : Nat → Nat} (hT : Turn N nx pv) (S : Nat → Prop) (hS : ∀ b, b < N → S (nx b) → S b) {a : Nat} (ha : a < N) : ∀ j, S (it nx j a) → S a
  | 0, h => h
  | j + 1, h => back_set hT S hS ha j (hS _ (it_lt hT ha j) h)
section
variable {e8 : GCrossing} {z0 z1 z2 z3 : Int} {R : List GCrossing} {v w : Int} (hL : ([z0, ([z0, z1, z2, z3] : List Int).getD (w64 (2 + e8.Sign)).toNat 0] : List Int) = [v, w])
include hL
theorem sm_end {m : List (Int × Int)} {circ : Int} : Tends2 (fun K k => impl_Diagram_smoothed.l64 K k e8 z0 z1 z2 z3 R m circ 2) (R, circ) := by
  refine Tends2.succ (Tends2.congr (fun K k => ?_) (Tends2.const _))
  rw [impl_Diagram_smoothed.l64, if_neg (by decide)]
theorem sm_some {m : List (Int × Int)} {circ : Int} {i : Nat} (hi : i < 2) {b c : Int} (hb : ([v, w] : List Int).getD i 0 = b) (hget : mget m b = some c) {F : List GCrossing × Int}
    (h : Tends2 (fun K k => impl_Diagram_smoothed.l70 K k e8 z0 z1 z2 z3 R (i : Int) (w64 (circ + 1)) (mdel m b) c ((mget (mdel m b) c).getD 0) ((mget (mdel m b) c).isSome)) F) : Tends2 (fun K k => impl_Diagram_smoothed.l64 K k e8 z0 z1 z2 z3 R m circ (i : Int)) F := by
  refine Tends2.succ (Tends2.congr (G := fun K k => impl_Diagram_smoothed.j69 K k e8 z0 z1 z2 z3 R m (i : Int) (w64 (circ + 1))) (fun K k => ?_) (Tends2.succ (Tends2.congr (G := fun K k => impl_Diagram_smoothed.l70 K k e8 z0 z1 z2 z3 R (i : Int) (w64 (circ + 1)) m b c true) (fun K k => ?_) (Tends2.succ (Tends2.congr (fun K k => ?_) h)))))
  · rw [impl_Diagram_smoothed.l64, hL, if_pos (by omega), if_pos (by simp; omega), Int.toNat_natCast, hb, hget, if_pos (show (some c).isSome = true from rfl)]
  · rw [impl_Diagram_smoothed.j69, hL, Int.toNat_natCast, hb, hget]
    rfl
  · rw [impl_Diagram_smoothed.l70, if_pos rfl]
theorem sm_none {m : List (Int × Int)} {circ : Int} {i : Nat} (hi : i < 2) {b : Int} (hb : ([v, w] : List Int).getD i 0 = b) (hget : mget m b = none) {F : List GCrossing × Int}
    (h : Tends2 (fun K k => impl_Diagram_smoothed.l64 K k e8 z0 z1 z2 z3 R m circ ((i + 1 : Nat) : Int)) F) : Tends2 (fun K k => impl_Diagram_smoothed.l64 K k e8 z0 z1 z2 z3 R m circ (i : Int)) F := by
  refine Tends2.succ (Tends2.congr (G := fun K k => impl_Diagram_smoothed.j69 K k e8 z0 z1 z2 z3 R m (i : Int) circ) (fun K k => ?_) (Tends2.succ (Tends2.congr (G := fun K k => impl_Diagram_smoothed.l70 K k e8 z0 z1 z2 z3 R (i : Int) circ m b 0 false) (fun K k => ?_) (Tends2.succ (Tends2.congr (fun K k => ?_) h)))))
  · rw [impl_Diagram_smoothed.l64, hL, if_pos (by omega), if_pos (by simp; omega), Int.toNat_natCast, hb, hget, if_neg (by simp)]
  · rw [impl_Diagram_smoothed.j69, hL, Int.toNat_natCast, hb, hget]
    rfl
  · rw [impl_Diagram_smoothed.l70, if_neg (by decide), w64_succ (by omega)]
theorem sm_stop {m : List (Int × Int)} {circ : Int} {i : Nat} (hi : i < 2) {b : Int} (hget : mget m b = none) {F : List GCrossing × Int}
    (h : Tends2 (fun K k => impl_Diagram_smoothed.l64 K k e8 z0 z1 z2 z3 R m circ ((i + 1 : Nat) : Int)) F) : Tends2 (fun K k => impl_Diagram_smoothed.l70 K k e8 z0 z1 z2 z3 R (i : Int) circ m b ((mget m b).getD 0) ((mget m b).isSome)) F := by
  refine Tends2.succ (Tends2.congr (fun K k => ?_) h)
  rw [impl_Diagram_smoothed.l70, hget, if_neg (by simp), w64_succ (by omega)]
theorem sm_more {m : List (Int × Int)} {circ : Int} {i : Nat} (hi : i < 2) {b c : Int} (hget : mget m b = some c) {F : List GCrossing × Int}
    (h : Tends2 (fun K k => impl_Diagram_smoothed.l70 K k e8 z0 z1 z2 z3 R (i : Int) circ (mdel m b) c ((mget (mdel m b) c).getD 0) ((mget (mdel m b) c).isSome)) F) : Tends2 (fun K k => impl_Diagram_smoothed.l70 K k e8 z0 z1 z2 z3 R (i : Int) circ m b ((mget m b).getD 0) ((mget m b).isSome)) F := by
  refine Tends2.succ (Tends2.congr (fun K k => ?_) h)
  rw [impl_Diagram_smoothed.l70, hget, if_pos (show (some c).isSome = true from rfl)]
  rfl
end
section
variable {xs : List GCrossing} (hn : xs.length ≤ 10) (hs : Signs xs) {f t : List GEnd} (hg : Good xs f t) (o : List Bool)
include hn hs hg
theorem smooth_circles {e8 : GCrossing} {z0 z1 z2 z3 : Int} {R : List GCrossing} {e u : Nat} (hL : ([z0, ([z0, z1, z2, z3] : List Int).getD (w64 (2 + e8.Sign)).toNat 0] : List Int) = [(e : Int), (u : Int)]) (heu : e ≠ u) (he : e < 2 * xs.length) (hu : u < 2 * xs.length) (hGe : goneTo o t e = true) (hGu : goneTo o t u = true) (hG : ∀ b, b < 2 * xs.length → goneTo o t b = true → b = e ∨ b = u)
    {m : List (Int × Int)} (hM : MapSays (2 * xs.length) (goneTo o t) (smArc xs t) (On (2 * xs.length) (goneTo o t) (goneTo o f) (smArc xs t)) m) (cs : Int) :
    Tends2 (fun K k => impl_Diagram_smoothed.l64 K k e8 z0 z1 z2 z3 R m cs 0) (R, addW cs (leads (lead (2 * xs.length) (goneTo o t) (goneTo o f) (smArc xs t)) (2 * xs.length) 0)) := by
  have hT := sm_turn hn hs hg
  have hw := sm_wire hn hs hg o
  have g0 : ([(e : Int), (u : Int)] : List Int).getD 0 0 = (e : Int) := rfl
  have g1 : ([(e : Int), (u : Int)] : List Int).getD 1 0 = (u : Int) := rfl
  -- who may be first of a circle
  have hlead : ∀ b, b < 2 * xs.length → lead (2 * xs.length) (goneTo o t) (goneTo o f) (smArc xs t) b = true → b = e ∨ b = u := fun b hb h => by
    have h1 := (lead_iff.1 h).1
    refine hG b hb ?_
    cases hx : goneTo o t b with
    | true => rfl
    | false => exact absurd (on_end hw hb hx) h1
  have hin : ∀ b, b < 2 * xs.length → ¬ On (2 * xs.length) (goneTo o t) (goneTo o f) (smArc xs t) b → (smArc xs t b = e ∨ smArc xs t b = u) ∧ ¬ On (2 * xs.length) (goneTo o t) (goneTo o f) (smArc xs t) (smArc xs t b) := fun b hb h => by
    have h1 : ¬ On (2 * xs.length) (goneTo o t) (goneTo o f) (smArc xs t) (smArc xs t b) := fun h2 => h ((sm_all hn hs hg o hb).1 h2)
    have h2 := (hT.fwd b hb).1
    refine ⟨hG _ h2 ?_, h1⟩
    cases hx : goneTo o t (smArc xs t b) with
    | true => rfl
    | false => exact absurd (on_end hw h2 hx) h1
  have hfix : ∀ b, b < 2 * xs.length → ¬ On (2 * xs.length) (goneTo o t) (goneTo o f) (smArc xs t) b → smArc xs t b = b → lead (2 * xs.length) (goneTo o t) (goneTo o f) (smArc xs t) b = true := fun b hb h hf => by
    refine lead_iff.2 ⟨h, ?_⟩
    rintro ⟨a', j, h1, h2⟩
    have := back_set hT (fun x => x = b) (fun x hx h3 => hT.inj hx hb (h3.trans hf.symm)) (a := a') (by omega) j h2.symm
    omega
  have hnot : ∀ b, On (2 * xs.length) (goneTo o t) (goneTo o f) (smArc xs t) b → lead (2 * xs.length) (goneTo o t) (goneTo o f) (smArc xs t) b = false := fun b h => by
    cases hx : lead (2 * xs.length) (goneTo o t) (goneTo o f) (smArc xs t) b with
    | false => rfl
    | true => exact absurd h (lead_iff.1 hx).1
  have two : leads (lead (2 * xs.length) (goneTo o t) (goneTo o f) (smArc xs t)) (2 * xs.length) 0 = (if lead (2 * xs.length) (goneTo o t) (goneTo o f) (smArc xs t) e = true then 1 else 0) + (if lead (2 * xs.length) (goneTo o t) (goneTo o f) (smArc xs t) u = true then 1 else 0) := by
    rcases Nat.lt_or_ge e u with h | h
    · exact leads_two h _ _ (Nat.zero_le _) (by omega) (fun b _ hb => hlead b (by omega))
    · rw [leads_two (e := u) (u := e) (by omega) _ _ (Nat.zero_le _) (by omega) (fun b _ hb hp => (hlead b (by omega) hp).symm), Nat.add_comm]
  rw [two]
  have hMe := hM.del e
  by_cases S0 : On (2 * xs.length) (goneTo o t) (goneTo o f) (smArc xs t) e
  · have m0 := hM.not e he (.inr S0)
    by_cases Su : On (2 * xs.length) (goneTo o t) (goneTo o f) (smArc xs t) u
    · have m1 := hM.not u hu (.inr Su)
      rw [hnot e S0, hnot u Su]
      exact sm_none hL (i := 0) (by decide) g0 m0 (sm_none hL (i := 1) (by decide) g1 m1 (sm_end hL))
    · obtain ⟨h1, h2⟩ := hin u hu Su
      have hf : smArc xs t u = u := h1.resolve_left (fun h => by rw [h] at h2; exact h2 S0)
      have m1 := hM.has u hu hGu Su
      rw [hf] at m1
      rw [hnot e S0, hfix u hu Su hf]
      refine sm_none hL (i := 0) (by decide) g0 m0 (sm_some hL (i := 1) (by decide) g1 m1 (sm_stop hL (i := 1) (by decide) ((hM.del u).not u hu (.inr (.inr rfl))) (sm_end hL)))
  · obtain ⟨h1, h2⟩ := hin e he S0
    have m0 := hM.has e he hGe S0
    by_cases Su : On (2 * xs.length) (goneTo o t) (goneTo o f) (smArc xs t) u
    · have hf : smArc xs t e = e := h1.resolve_right (fun h => by rw [h] at h2; exact h2 Su)
      rw [hf] at m0
      have m1 := hMe.not u hu (.inr (.inl Su))
      rw [hfix e he S0 hf, hnot u Su]
      exact sm_some hL (i := 0) (by decide) g0 m0 (sm_stop hL (i := 0) (by decide) (hMe.not e he (.inr (.inr rfl))) (sm_none hL (i := 1) (by decide) g1 m1 (sm_end hL)))
    · obtain ⟨k1, k2⟩ := hin u hu Su
      rcases h1 with hf | hf
      · have hfu : smArc xs t u = u := k1.resolve_left (fun h => heu (hT.inj he hu (hf.trans h.symm)))
        rw [hf] at m0
        have m1 := hMe.has u hu hGu (fun h => h.elim Su (fun h => heu h.symm))
        rw [hfu] at m1
        rw [hfix e he S0 hf, hfix u hu Su hfu]
        exact sm_some hL (i := 0) (by decide) g0 m0 (sm_stop hL (i := 0) (by decide) (hMe.not e he (.inr (.inr rfl))) (sm_some hL (i := 1) (by decide) g1 m1 (sm_stop hL (i := 1) (by decide) ((hMe.del u).not u hu (.inr (.inr rfl))) (sm_end hL))))
      · have hfu : smArc xs t u = e := k1.resolve_right (fun h => heu (hT.inj he hu (hf.trans h.symm)))
        rw [hf] at m0
        have m1 := hMe.has u hu hGu (fun h => h.elim Su (fun h => heu h.symm))
        rw [hfu] at m1
        have hMM := hMe.del u
        have hone : (if lead (2 * xs.length) (goneTo o t) (goneTo o f) (smArc xs t) e = true then 1 else 0) + (if lead (2 * xs.length) (goneTo o t) (goneTo o f) (smArc xs t) u = true then 1 else 0) = 1 := by
          have hback : ∀ a' j, a' < 2 * xs.length → (it (smArc xs t) j a' = e ∨ it (smArc xs t) j a' = u) → a' = e ∨ a' = u := fun a' j ha' h => back_set hT (fun x => x = e ∨ x = u) (fun x hx h3 => by
            rcases h3 with h3 | h3
            · exact .inr (hT.inj hx hu (h3.trans hfu.symm))
            · exact .inl (hT.inj hx he (h3.trans hf.symm))) ha' j h
          rcases Nat.lt_or_ge e u with h | h
          · have le : lead (2 * xs.length) (goneTo o t) (goneTo o f) (smArc xs t) e = true := lead_iff.2 ⟨S0, fun ⟨a', j, h3, h4⟩ => by
              have := hback a' j (by omega) (.inl h4.symm); omega⟩
            have lu : ¬ lead (2 * xs.length) (goneTo o t) (goneTo o f) (smArc xs t) u = true := fun hx => (lead_iff.1 hx).2 ⟨e, 1, h, hf.symm⟩
            rw [if_pos le, if_neg lu]
          · have lu : lead (2 * xs.length) (goneTo o t) (goneTo o f) (smArc xs t) u = true := lead_iff.2 ⟨Su, fun ⟨a', j, h3, h4⟩ => by
              have := hback a' j (by omega) (.inr h4.symm); omega⟩
            have le : ¬ lead (2 * xs.length) (goneTo o t) (goneTo o f) (smArc xs t) e = true := fun hx => (lead_iff.1 hx).2 ⟨u, 1, by omega, hfu.symm⟩
            rw [if_pos lu, if_neg le]
        rw [hone]
        exact sm_some hL (i := 0) (by decide) g0 m0 (sm_more hL (i := 0) (by decide) m1 (sm_stop hL (i := 0) (by decide) (hMM.not e he (.inr (.inl (.inr rfl)))) (sm_none hL (i := 1) (by decide) g1 (hMM.not u hu (.inr (.inr rfl))) (sm_end hL))))
end
/-- Where the upper strand enters. -/
theorem up_facts {x : GCrossing} (h : x.Sign = 1 ∨ x.Sign = -1) : ∃ pu : Nat, (pu = 1 ∨ pu = 3) ∧ w64 (2 + x.Sign) = (pu : Int) ∧ (w64 (w64 (2 + x.Sign) + 2)).tmod 4 = ((smo x 0 : Nat) : Int) ∧ smo x pu = 2 ∧ ent x pu = true ∧ ∀ p, p < 4 → ent x p = true → p = 0 ∨ p = pu := by
  rcases h with h | h
  · refine ⟨3, .inr rfl, by rw [h]; decide, by unfold smo; rw [h]; decide, by unfold smo; rw [h]; decide, by unfold ent; rw [h]; decide, fun p hp he => ?_⟩
    unfold ent at he
    rw [h] at he
    rcases (show p = 0 ∨ p = 1 ∨ p = 2 ∨ p = 3 by omega) with e | e | e | e <;> subst e <;> simp at he ⊢
  · refine ⟨1, .inl rfl, by rw [h]; decide, by unfold smo; rw [h]; decide, by unfold smo; rw [h]; decide, by unfold ent; rw [h]; decide, fun p hp he => ?_⟩
    unfold ent at he
    rw [h] at he
    rcases (show p = 0 ∨ p = 1 ∨ p = 2 ∨ p = 3 by omega) with e | e | e | e <;> subst e <;> simp at he ⊢
end Go.Proofs.Ytdafmbaeiefacaa
