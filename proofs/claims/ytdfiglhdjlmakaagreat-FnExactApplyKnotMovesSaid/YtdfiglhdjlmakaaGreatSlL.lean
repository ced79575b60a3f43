/-
  Elements with memory of their own, of any type: pairs of types, an element as a piece, rows that take elements in, a part of an element taken out for a while.
-/
import Derived.Test.YtdfiglhdjlmakaaGreatSlK
set_option linter.unusedVariables false
set_option linter.unusedSimpArgs false
namespace Go.Proofs.YtdfiglhdjlmakaaGreat
open Go.RowKit
abbrev Ty.pair {α β : Type} (S : Ty α) (T : Ty β) : Ty (α × β) where
  Lay := S.Lay × T.Lay
  sz := S.sz + T.sz
  cells := fun l x => S.cells l.1 x.1 ++ T.cells l.2 x.2
  M := fun w q l x => ∃ q1 q2 : Nat → Prop, (∀ k, q1 k → q k) ∧ (∀ k, q2 k → q k) ∧ (∀ k, q1 k → ¬ q2 k) ∧ S.M w q1 l.1 x.1 ∧ T.M w q2 l.2 x.2
  K := fun w l x => S.K w l.1 x.1 ∧ T.K w l.2 x.2
  len := fun l x => by rw [List.length_append, S.len, T.len]
  one := fun l x u h => by
    rcases List.mem_append.1 h with h | h
    · exact S.one _ _ u h
    · exact T.one _ _ u h
  M_loc := fun ⟨q1, q2, h1, h2, hd, hs, ht⟩ hk => ⟨q1, q2, h1, h2, hd, S.M_loc hs (fun k h => hk k (h1 k h)), T.M_loc ht (fun k h => hk k (h2 k h))⟩
  M_more := fun ⟨q1, q2, h1, h2, r⟩ hk => ⟨q1, q2, fun k h => hk k (h1 k h), fun k h => hk k (h2 k h), r⟩
  K_of_M := fun ⟨_, _, _, _, _, hs, ht⟩ => ⟨S.K_of_M hs, T.K_of_M ht⟩
  K_below := fun hb h => ⟨S.K_below hb h.1, T.K_below hb h.2⟩
abbrev Ty.iso {α β : Type} (T : Ty β) (f : α → β) (n : Nat) (hn : T.sz = n) : Ty α where
  Lay := T.Lay
  sz := n
  cells := fun l x => T.cells l (f x)
  M := fun w q l x => T.M w q l (f x)
  K := fun w l x => T.K w l (f x)
  len := fun l x => by rw [T.len, hn]
  one := fun l x u h => T.one _ _ u h
  M_loc := fun h hk => T.M_loc h hk
  M_more := fun h hk => T.M_more h hk
  K_of_M := fun h => T.K_of_M h
  K_below := fun hb h => T.K_below hb h
section
variable {α β : Type} {S : Ty α} {T : Ty β} {w0 w : World} {L : List HObj} {s : S.Lay} {t : T.Lay} {x : α} {y : β}
end
section
variable {α : Type} {T : Ty α} {w w' : World} {ly : Nat → T.Lay}
end
section
variable {α : Type} {T : Ty α} {P : Program} {N : Nat} {e : Env} {w0 w : World} {L : List HObj} {Q : Act → World → Prop} {ops : Array Oper} {i d : Nat} {rest : List Nat} {ty : TypeId} {ps : String} {af : Array Edge}
end
section
variable {α β : Type} {T : Ty α} {S : Ty β} {w0 w : World} {L : List HObj} {t : TypeId} {A : Option Addr} {c n : Nat} {ly : Nat → T.Lay} {xs : List α} {x : α} {y : β}
end
section
variable {α β : Type} {T : Ty α} {S : Ty β} {w0 w : World} {L : List HObj} {t u : TypeId} {A : Option Addr} {c n : Nat} {ly : Nat → T.Lay} {xs : List α} {x : α} {y : List β}
end
section
variable {α : Type} {T : Ty α} {P : Program} {N : Nat} {e : Env} {w0 w : World} {L : List HObj} {Q : Act → World → Prop} {ops : Array Oper} {i d : Nat} {rest : List Nat} {ty : TypeId} {ps : String} {af : Array Edge}
end
end Go.Proofs.YtdfiglhdjlmakaaGreat
