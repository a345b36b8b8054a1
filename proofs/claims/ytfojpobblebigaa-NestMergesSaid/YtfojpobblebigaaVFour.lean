-- Words of the printer, those that this claim uses (struck by mclaim.py). Not trusted: Lean checks it.
import Derived.Test.YtfojpobblebigaaVTab
/-! ### 56. Four, five, six operations that may come up next, in any order -/
namespace Go.Proofs.YtfojpobblebigaaW.PrintLast
section
variable {P : Program} {ops : Array Oper} {Q : Exit → Act → World → Prop} {md : Region.Mode} {S : World → Prop} {ds : List Nat} {T : Bool × List (List Nat × List Nat)}
end
end Go.Proofs.YtfojpobblebigaaW.PrintLast
