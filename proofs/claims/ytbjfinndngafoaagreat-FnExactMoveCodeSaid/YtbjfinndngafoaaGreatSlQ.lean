/-
  A row into which an element is put: the rows' cells alone, and the rules of slices.Insert.
-/
import Derived.Test.YtbjfinndngafoaaGreatSlP
import Derived.Lib.Overlaps
set_option linter.unusedVariables false
set_option linter.unusedSimpArgs false
namespace Go.Proofs.YtbjfinndngafoaaGreat
open Go.RowKit
abbrev Raw (n : Nat) := { v : List Value // v.length = n ∧ ∀ u, u ∈ v → u.oneCell' = true }
def hd {α : Type} (T : Ty α) (l : T.Lay) (x : α) : Raw T.sz := ⟨T.cells l x, T.len l x, fun u h => T.one l x u h⟩
section
variable {α : Type} {T : Ty α} {t : TypeId} {w0 w : World} {L : List HObj} {A A' : Option Addr} {c c' m : Nat} {ly ly' : Nat → T.Lay} {xs ys r : List α} {l : T.Lay} {y0 : α}
end
section
variable {P : Program} {w : World} {A : Option Addr} {t el : TypeId} {kl kh : IntKind} {l h : Int} {n c : Nat}
end
section
variable {α : Type} {T : Ty α} {P : Program} {N : Nat} {e : Env} {w0 w : World} {L : List HObj} {Q : Act → World → Prop} {ops : Array Oper} {i d : Nat} {rest : List Nat} {ty : TypeId} {ps : String} {af : Array Edge} {t el : TypeId} {x y z : Operand} {A : Option Addr} {n c sz : Nat} {kl kh : IntKind} {l h : Int}
end
end Go.Proofs.YtbjfinndngafoaaGreat
