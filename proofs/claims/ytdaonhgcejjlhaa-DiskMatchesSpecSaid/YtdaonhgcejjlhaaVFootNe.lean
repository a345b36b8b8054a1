-- Words of the printer, those that this claim uses (struck by mclaim.py). Not trusted: Lean checks it.
import Derived.Test.YtdaonhgcejjlhaaVN
/-! ### 52. A row that stays read whatever happens to a block (a set of blocks) doesn't lie there -/
namespace Go.Proofs.YtdaonhgcejjlhaaW.PrintWords
open Go.RowKit
namespace Kd
section
variable {α : Type} {d : Kd α} {W : World} {g n : Nat} {S ok : Nat → Prop} {A : Option Addr} {ad : Addr} {xs : List α}
end
end Kd
end Go.Proofs.YtdaonhgcejjlhaaW.PrintWords
