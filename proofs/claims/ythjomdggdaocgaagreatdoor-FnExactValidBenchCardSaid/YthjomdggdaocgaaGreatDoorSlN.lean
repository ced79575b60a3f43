/-
  Strings compared by the library's entry without a body.
-/
import Derived.Test.YthjomdggdaocgaaGreatDoorSlM
import Derived.Laws.Externs
import Derived.Lib.Bytealg
set_option linter.unusedVariables false
set_option linter.unusedSimpArgs false
namespace Go.Proofs.YthjomdggdaocgaaGreatDoor
open Go.RowKit
section
variable {P : Program} {N : Nat} {e : Env} {w : World} {Q : Act → World → Prop} {ops : Array Oper} {i d : Nat} {rest : List Nat} {ty : TypeId} {ps : String} {af : Array Edge} {x y : Operand} {a b : ByteArray}
end
section
variable {α : Type} {T : Ty α} {w0 w : World} {L : List HObj} {t : TypeId} {A A' : Option Addr} {c c' j l h m : Nat} {ly : Nat → T.Lay} {xs : List α}
end
end Go.Proofs.YthjomdggdaocgaaGreatDoor
