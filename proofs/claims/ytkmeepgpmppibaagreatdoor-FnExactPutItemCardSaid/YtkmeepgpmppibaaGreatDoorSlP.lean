/-
  A row of elements with memory of their own, seen as a row of numbers: the elements stay, the row names them.
-/
import Derived.Test.YtkmeepgpmppibaaGreatDoorSlO
set_option linter.unusedVariables false
set_option linter.unusedSimpArgs false
namespace Go.Proofs.YtkmeepgpmppibaaGreatDoor
open Go.RowKit
def Te {α : Type} (T : Ty α) (ly : Nat → T.Lay) (xs : List α) : Cu where
  P := fun w q => Gu T w ly 0 xs q
  loc := fun h hk => h.loc hk
  more := fun h hk => h.more hk
section
variable {α : Type} {T : Ty α} {t : TypeId} {w0 w : World} {L : List Cu} {A A' : Option Addr} {c c' m : Nat} {ly ly' : Nat → T.Lay} {xs r : List α} {z : α} {l0 : T.Lay} {is : List (Option Nat)}
end
end Go.Proofs.YtkmeepgpmppibaaGreatDoor
