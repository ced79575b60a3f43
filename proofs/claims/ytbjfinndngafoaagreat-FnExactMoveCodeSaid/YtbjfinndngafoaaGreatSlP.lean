/-
  A row of elements with memory of their own, seen as a row of numbers: the elements stay, the row names them.
-/
import Derived.Test.YtbjfinndngafoaaGreatSlO
set_option linter.unusedVariables false
set_option linter.unusedSimpArgs false
namespace Go.Proofs.YtbjfinndngafoaaGreat
open Go.RowKit
section
variable {α : Type} {T : Ty α} {t : TypeId} {w0 w : World} {L : List HObj} {A A' : Option Addr} {c c' m : Nat} {ly ly' : Nat → T.Lay} {xs r : List α} {z : α} {l0 : T.Lay} {is : List (Option Nat)}
end
end Go.Proofs.YtbjfinndngafoaaGreat
