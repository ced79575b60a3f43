/-
  Strings compared by the library's entry without a body.
-/
import Derived.Test.YtbjfinndngafoaaGreatSlM
import Derived.Laws.Externs
import Derived.Lib.Bytealg
set_option linter.unusedVariables false
set_option linter.unusedSimpArgs false
namespace Go.Proofs.YtbjfinndngafoaaGreat
open Go.RowKit
section
variable {P : Program} {N : Nat} {e : Env} {w : World} {Q : Act → World → Prop} {ops : Array Oper} {i d : Nat} {rest : List Nat} {ty : TypeId} {ps : String} {af : Array Edge} {x y : Operand} {a b : ByteArray}
theorem GO.nilP {A : Addr} (ho : ops[i]? = some ⟨some d, .nilCheck x, ty, ps, af, none⟩) (hx : ev e x = some (.pointer (some A))) (hN : Nat.blt d N = true) (g : GO P N ops rest ((d, .pointer (some A)) :: e) w Q) : GO P N ops (i :: rest) e w Q :=
  GO.val _ ho rfl rfl hN (fun a' hs => by simp [execOp, hs.ev hx]) g
end
theorem OR.cut3 {w : World} {t : TypeId} {sz n c l k m : Nat} {A : Option Addr} {xs : List Value} (h : OR w t sz (.slice A n c) n xs) (hl : l + k ≤ n) (hk : l + k ≤ m) (hm : m ≤ c) : OR w t sz (.slice (cutA A l m sz) k (m - l)) k ((xs.drop (l * sz)).take (k * sz)) := by
  have hmul : (l + k) * sz ≤ n * sz := Nat.mul_le_mul_right _ hl
  rw [Nat.add_mul] at hmul
  refine ⟨by rw [List.length_take, List.length_drop, h.1]; omega, ?_⟩
  unfold cutA
  rcases h.2 with ⟨h2, h0⟩ | ⟨g, o, cap, cur, hv, hh, hnc, hcm, hsz, htk⟩
  · injection h2 with hA _ hcc
    subst hA
    subst hcc
    refine .inl ⟨?_, by omega⟩
    rw [show k = 0 by omega, show m - l = 0 by omega]
    split <;> rfl
  · injection hv with hA _ hcc
    subst hA
    subst hcc
    by_cases hcl : m = l
    · rw [if_pos hcl]
      have hm0 : k = 0 := by omega
      subst hm0
      exact .inr ⟨g, o, m - l, cur, rfl, hh, by omega, by omega, by rw [show m - l = 0 by omega]; omega, by simp⟩
    · rw [if_neg hcl]
      have hmul2 : (l + (m - l)) * sz ≤ c * sz := Nat.mul_le_mul_right _ (by omega)
      rw [Nat.add_mul] at hmul2
      refine .inr ⟨g, o + l * sz, m - l, cur, by rw [Option.map_some, addr_off], hh, by omega, by omega, by omega, ?_⟩
      rw [← htk, ← List.drop_drop, List.drop_take, List.take_take]
      congr 1
      omega
theorem SepM.shift {α : Type} {T : Ty α} {w : World} {ly : Nat → T.Lay} {l : Nat} : ∀ {xs : List α} {i : Nat} {q : Nat → Prop}, SepM T w ly (l + i) xs q → SepM T w (fun k => ly (l + k)) i xs q
  | [], _, _, _ => trivial
  | _ :: _, _, _, ⟨q0, q1, h0, h1, hd, hx, hs⟩ => ⟨q0, q1, h0, h1, hd, hx, SepM.shift hs⟩
theorem cut_ownBlock {A : Option Addr} {l m s n n' c c' k : Nat} (h : (Value.slice (cutA A l m s) n c).ownBlock = some k) : (Value.slice A n' c').ownBlock = some k := by
  unfold cutA at h
  split at h
  · cases A with
    | none => simp [Value.ownBlock] at h
    | some a => simpa [Value.ownBlock] using h
  · cases A with
    | none => simp [Value.ownBlock] at h
    | some a =>
      have : (a.add (l * s)).block = a.block := by unfold Addr.add; split <;> rfl
      simpa [Value.ownBlock, this] using h
section
variable {α : Type} {T : Ty α} {w0 w : World} {L : List HObj} {t : TypeId} {A A' : Option Addr} {c c' j l h m : Nat} {ly : Nat → T.Lay} {xs : List α}
theorem rc_mid (hlh : l ≤ h) (hh : h ≤ xs.length) : rc T (fun k => ly (l + k)) 0 ((xs.take h).drop l) = ((rc T ly 0 xs).drop (l * T.sz)).take ((h - l) * T.sz) := by
  have hsplit : xs = xs.take l ++ ((xs.take h).drop l ++ xs.drop h) := by
    rw [List.drop_take]
    have : List.take (h - l) (List.drop l xs) ++ List.drop h xs = List.drop l xs := by
      rw [show h = l + (h - l) by omega, ← List.drop_drop, show l + (h - l) - l = h - l by omega, List.take_append_drop]
    rw [this, List.take_append_drop]
  have htl : (xs.take l).length = l := by rw [List.length_take]; omega
  have hml : ((xs.take h).drop l).length = h - l := by rw [List.length_drop, List.length_take]; omega
  rw [rc_shift, Nat.add_zero]
  conv => rhs; rw [hsplit, rc_append, rc_append, htl, Nat.zero_add]
  rw [List.drop_left' (by rw [rc_length, htl]), List.take_left' (by rw [rc_length, hml])]
theorem St.cutOwn (HS : St w0 w L) (hj : L[j]? = some (Own T t A c ly xs)) (hlh : l ≤ h) (hh : h ≤ xs.length) (hhm : h ≤ m) (hm : m ≤ c) (hA : A' = cutA A l m T.sz) (hc : c' = m - l) : St w0 w (L.set j (Own T t A' c' (fun k => ly (l + k)) ((xs.take h).drop l))) := by
  subst hA
  subst hc
  have hml : ((xs.take h).drop l).length = h - l := by rw [List.length_drop, List.length_take]; omega
  refine HS.upd hj (Nat.le_refl _) rfl rfl rfl (fun q ho => ?_)
  obtain ⟨q1, q2, h1, h2, hd, hown, hb, hs⟩ := ho
  refine ⟨q, fun k hk => .inl hk, ⟨q1, q2, h1, h2, hd, ?_, fun k hk => hb k (cut_ownBlock hk), ?_⟩, fun k _ _ => rfl⟩
  · rw [hml, rc_mid hlh hh]
    exact hown.cut3 (by omega) (by omega) hm
  · have hsplit : xs = xs.take l ++ ((xs.take h).drop l ++ xs.drop h) := by
      rw [List.drop_take]
      have : List.take (h - l) (List.drop l xs) ++ List.drop h xs = List.drop l xs := by
        rw [show h = l + (h - l) by omega, ← List.drop_drop, show l + (h - l) - l = h - l by omega, List.take_append_drop]
      rw [this, List.take_append_drop]
    have htl : (xs.take l).length = l := by rw [List.length_take]; omega
    rw [hsplit] at hs
    obtain ⟨_, qb, _, hqb, _, _, s2⟩ := SepM.cut hs
    obtain ⟨qc, _, hqc, _, _, s3, _⟩ := SepM.cut s2
    rw [htl, Nat.zero_add] at s3
    exact (SepM.shift (i := 0) s3).more (fun k hk => hqb k (hqc k hk))
end
section
variable {α : Type} {P : Program} {N : Nat} {e : Env} {w0 w : World} {L : List HObj} {Q : Act → World → Prop} {ops : Array Oper} {i d : Nat} {rest : List Nat} {ty : TypeId} {ps : String} {af : Array Edge} {t el : TypeId} {x z z2 : Operand} {A : Option Addr} {c : Nat} {kh km : IntKind} {h m : Int} {xs : List α}
end
end Go.Proofs.YtbjfinndngafoaaGreat
