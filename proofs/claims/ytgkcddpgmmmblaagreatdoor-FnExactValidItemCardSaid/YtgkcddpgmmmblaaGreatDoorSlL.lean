/-
  Elements with memory of their own, of any type: pairs of types, an element as a piece, rows that take elements in, a part of an element taken out for a while.
-/
import Derived.Test.YtgkcddpgmmmblaaGreatDoorSlK
set_option linter.unusedVariables false
set_option linter.unusedSimpArgs false
namespace Go.Proofs.YtgkcddpgmmmblaaGreatDoor
open Go.RowKit
def bind12 {α0 α1 α2 α3 α4 α5 α6 α7 α8 α9 α10 α11 β : Type} (x : Option (α0 × α1 × α2 × α3 × α4 × α5 × α6 × α7 × α8 × α9 × α10 × α11)) (f : α0 → α1 → α2 → α3 → α4 → α5 → α6 → α7 → α8 → α9 → α10 → α11 → Option β) : Option β := x.bind fun z => f z.1 z.2.1 z.2.2.1 z.2.2.2.1 z.2.2.2.2.1 z.2.2.2.2.2.1 z.2.2.2.2.2.2.1 z.2.2.2.2.2.2.2.1 z.2.2.2.2.2.2.2.2.1 z.2.2.2.2.2.2.2.2.2.1 z.2.2.2.2.2.2.2.2.2.2.1 z.2.2.2.2.2.2.2.2.2.2.2
theorem bind12_elim {α0 α1 α2 α3 α4 α5 α6 α7 α8 α9 α10 α11 β : Type} {x : Option (α0 × α1 × α2 × α3 × α4 × α5 × α6 × α7 × α8 × α9 × α10 × α11)} {f : α0 → α1 → α2 → α3 → α4 → α5 → α6 → α7 → α8 → α9 → α10 → α11 → Option β} {r : β} (h : bind12 x f = some r) : ∃ a0 a1 a2 a3 a4 a5 a6 a7 a8 a9 a10 a11, x = some (a0, a1, a2, a3, a4, a5, a6, a7, a8, a9, a10, a11) ∧ f a0 a1 a2 a3 a4 a5 a6 a7 a8 a9 a10 a11 = some r := by
  obtain ⟨z, h1, h2⟩ := Option.bind_eq_some_iff.1 h
  exact ⟨_, _, _, _, _, _, _, _, _, _, _, _, h1, h2⟩
theorem some12 {α0 α1 α2 α3 α4 α5 α6 α7 α8 α9 α10 α11 : Type} {a0 : α0} {a1 : α1} {a2 : α2} {a3 : α3} {a4 : α4} {a5 : α5} {a6 : α6} {a7 : α7} {a8 : α8} {a9 : α9} {a10 : α10} {a11 : α11} {b0 : α0} {b1 : α1} {b2 : α2} {b3 : α3} {b4 : α4} {b5 : α5} {b6 : α6} {b7 : α7} {b8 : α8} {b9 : α9} {b10 : α10} {b11 : α11} (h : some (a0, a1, a2, a3, a4, a5, a6, a7, a8, a9, a10, a11) = some (b0, b1, b2, b3, b4, b5, b6, b7, b8, b9, b10, b11)) : a0 = b0 ∧ a1 = b1 ∧ a2 = b2 ∧ a3 = b3 ∧ a4 = b4 ∧ a5 = b5 ∧ a6 = b6 ∧ a7 = b7 ∧ a8 = b8 ∧ a9 = b9 ∧ a10 = b10 ∧ a11 = b11 := by cases h; exact ⟨rfl, rfl, rfl, rfl, rfl, rfl, rfl, rfl, rfl, rfl, rfl, rfl⟩
abbrev Ty.pair {α β : Type} (S : Ty α) (T : Ty β) : Ty (α × β) where
  Lay := S.Lay × T.Lay
  sz := S.sz + T.sz
  cells := fun l x => S.cells l.1 x.1 ++ T.cells l.2 x.2
  M := fun w q l x => ∃ q1 q2 : Nat → Prop, (∀ k, q1 k → q k) ∧ (∀ k, q2 k → q k) ∧ (∀ k, q1 k → ¬ q2 k) ∧ S.M w q1 l.1 x.1 ∧ T.M w q2 l.2 x.2
  K := fun w l x => S.K w l.1 x.1 ∧ T.K w l.2 x.2
  len := fun l x => by rw [List.length_append, S.len, T.len]
  one := fun l x u h => by
    rcases List.mem_append.1 h with h | h
    · exact S.one _ _ u h
    · exact T.one _ _ u h
  M_loc := fun ⟨q1, q2, h1, h2, hd, hs, ht⟩ hk => ⟨q1, q2, h1, h2, hd, S.M_loc hs (fun k h => hk k (h1 k h)), T.M_loc ht (fun k h => hk k (h2 k h))⟩
  M_more := fun ⟨q1, q2, h1, h2, r⟩ hk => ⟨q1, q2, fun k h => hk k (h1 k h), fun k h => hk k (h2 k h), r⟩
  K_of_M := fun ⟨_, _, _, _, _, hs, ht⟩ => ⟨S.K_of_M hs, T.K_of_M ht⟩
  K_below := fun hb h => ⟨S.K_below hb h.1, T.K_below hb h.2⟩
abbrev Ty.iso {α β : Type} (T : Ty β) (f : α → β) (n : Nat) (hn : T.sz = n) : Ty α where
  Lay := T.Lay
  sz := n
  cells := fun l x => T.cells l (f x)
  M := fun w q l x => T.M w q l (f x)
  K := fun w l x => T.K w l (f x)
  len := fun l x => by rw [T.len, hn]
  one := fun l x u h => T.one _ _ u h
  M_loc := fun h hk => T.M_loc h hk
  M_more := fun h hk => T.M_more h hk
  K_of_M := fun h => T.K_of_M h
  K_below := fun hb h => T.K_below hb h
section
variable {α β : Type} {S : Ty α} {T : Ty β} {w0 w : World} {L : List HObj} {s : S.Lay} {t : T.Lay} {x : α} {y : β}
end
theorem RdIn.box {α : Type} {T : Ty α} {w0 : World} {L : List HObj} {b j : Nat} {t : TypeId} {cs : List Value} {n : Nat} (ly : Nat → T.Lay) (xs : List α) (hj : L[j]? = some (Box b t cs)) (hc : rc T ly 0 xs = cs) (hx : xs.length = n) (hb : Nat.ble n 9223372036854775807 = true) (hk : ∀ i x, xs[i]? = some x → ∀ w, St w0 w L → T.K w (ly i) x) : RdIn w0 L T (some ⟨b, 0, none⟩) n ly xs := fun w hs =>
  ⟨Nat.le_of_eq hx, Nat.le_of_ble_eq_true hb, fun _ => ⟨b, 0, rfl⟩, fun j' u hu => by
    rw [ea_some, addr_off, Nat.zero_add]
    exact hs.boxCell hj (by rw [← hc]; exact hu), fun i x hx => hk i x hx w hs⟩
section
variable {α : Type} {T : Ty α} {w w' : World} {ly : Nat → T.Lay}
end
section
variable {α : Type} {T : Ty α} {P : Program} {N : Nat} {e : Env} {w0 w : World} {L : List HObj} {Q : Act → World → Prop} {ops : Array Oper} {i d : Nat} {rest : List Nat} {ty : TypeId} {ps : String} {af : Array Edge}
end
section
variable {α β : Type} {T : Ty α} {S : Ty β} {w0 w : World} {L : List HObj} {t : TypeId} {A : Option Addr} {c n : Nat} {ly : Nat → T.Lay} {xs : List α} {x : α} {y : β}
end
section
variable {α β : Type} {T : Ty α} {S : Ty β} {w0 w : World} {L : List HObj} {t u : TypeId} {A : Option Addr} {c n : Nat} {ly : Nat → T.Lay} {xs : List α} {x : α} {y : List β}
end
section
variable {α : Type} {T : Ty α} {P : Program} {N : Nat} {e : Env} {w0 w : World} {L : List HObj} {Q : Act → World → Prop} {ops : Array Oper} {i d : Nat} {rest : List Nat} {ty : TypeId} {ps : String} {af : Array Edge}
end
end Go.Proofs.YtgkcddpgmmmblaaGreatDoor
