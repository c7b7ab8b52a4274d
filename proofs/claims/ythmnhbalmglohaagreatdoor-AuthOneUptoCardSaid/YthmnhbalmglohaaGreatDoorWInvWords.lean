import Derived.Test.YthmnhbalmglohaaGreatDoorWInv
import Derived.Test.YthmnhbalmglohaaGreatDoorWFootNe
namespace Go.Proofs.YthmnhbalmglohaaGreatDoorW.PrintWords
open Go.RowKit
end Go.Proofs.YthmnhbalmglohaaGreatDoorW.PrintWords
namespace Go.Proofs.YthmnhbalmglohaaGreatDoorW.PrintLast
section
variable {ops : Array Oper} {a : Act} {o og : Oper} {g : Nat} {t : Tmp} {u : Bool}
end
end Go.Proofs.YthmnhbalmglohaaGreatDoorW.PrintLast
