import Derived.Test.YtjdlaofeenblkaaDoorWInv
import Derived.Test.YtjdlaofeenblkaaDoorWFootNe
namespace Go.Proofs.YtjdlaofeenblkaaDoorW.PrintWords
open Go.RowKit
end Go.Proofs.YtjdlaofeenblkaaDoorW.PrintWords
namespace Go.Proofs.YtjdlaofeenblkaaDoorW.PrintLast
section
variable {ops : Array Oper} {a : Act} {o og : Oper} {g : Nat} {t : Tmp} {u : Bool}
end
end Go.Proofs.YtjdlaofeenblkaaDoorW.PrintLast
