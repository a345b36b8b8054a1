/- The plain statement of LexMatches: the program's lexer and the reference's give the same tokens and the same error. -/
import Derived.Test.YtphlbjpefnjjnaaDoorLy
import Derived.Test.YtphlbjpefnjjnaaDoorPx68
namespace Go.Proofs.YtphlbjpefnjjnaaDoor.Pure
set_option linter.unusedVariables false
open Go Go.RowKit Go.Proofs.YtphlbjpefnjjnaaDoor.P Go.Proofs.YtphlbjpefnjjnaaDoorW.PrintWords Go.Proofs.YtphlbjpefnjjnaaDoorW.PrintLast
theorem lexR_len (s : ByteArray) : (lexR s.data.toList).1.length ≤ s.size := by
  unfold lexR
  cases h : lexG s.data.toList 0 0 with
  | none => exact Nat.zero_le _
  | some l =>
    have := (lexG_len _ 0 0 l (Nat.zero_le _) h).2
    rwa [sizeL] at this
theorem LexMatches (a0 : ByteArray) (h0 : a0.size ≤ maxLen) : ∃ k, hallmootlaw04_LexMatches.f k a0 = some true := by
  refine ⟨6 * a0.size + 3000, ?_⟩
  unfold hallmootlaw04_LexMatches.f
  rw [sanity_eq _ (by omega)]
  simp only [Option.bind_some]
  by_cases h : (a0.size : Int) > 600
  · rw [if_pos h]
  · rw [if_neg h, lex_Words_eq a0 (by omega), ref_eq a0 (by omega) _ (by omega)]
    have hl := lexR_len a0
    simp only [Option.bind_some]
    rw [if_pos trivial, if_pos trivial, same_refl _ (by omega) _ (by omega)]
    rfl
end Go.Proofs.YtphlbjpefnjjnaaDoor.Pure
