-- Words of the printer, those that this claim uses (struck by mclaim.py). Not trusted: Lean checks it.
import Derived.Test.YtfojpobblebigaaVInv
import Derived.Test.YtfojpobblebigaaVFootNe
namespace Go.Proofs.YtfojpobblebigaaW.PrintWords
open Go.RowKit
end Go.Proofs.YtfojpobblebigaaW.PrintWords
namespace Go.Proofs.YtfojpobblebigaaW.PrintLast
section
variable {ops : Array Oper} {a : Act} {o og : Oper} {g : Nat} {t : Tmp} {u : Bool}
end
end Go.Proofs.YtfojpobblebigaaW.PrintLast
