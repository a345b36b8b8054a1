/- The laws' own small run (function 10) answers true. -/
import Derived.Test.YtcnclgneldonfaaDoorPx24
namespace Go.Proofs.YtcnclgneldonfaaDoor.P
open Go Go.RowKit Go.Proofs.YtcnclgneldonfaaDoorW.PrintWords Go.Proofs.YtcnclgneldonfaaDoorW.PrintLast Go.Proofs.YtcnclgneldonfaaDoorW.PrintMore
set_option linter.unusedVariables false
theorem sanity_f : hallmootlaw27_sanity.f 100 = some true := by kernel_rfl
theorem sanity_up (k : Nat) (hk : 100 ≤ k) : hallmootlaw27_sanity.f k = some true := by
  obtain ⟨d, rfl⟩ := Nat.exists_eq_add_of_le hk
  induction d with
  | zero => exact sanity_f
  | succ d ih => exact hallmootlaw27_sanity.mono _ _ (ih (by omega))
end Go.Proofs.YtcnclgneldonfaaDoor.P
