/- lex.Words and lex.Show in the print's own form. -/
import Derived.Test.YtphlbjpefnjjnaaDoorHe
namespace Go.Proofs.YtphlbjpefnjjnaaDoor.P
open Go.RowKit Go.Proofs.YtphlbjpefnjjnaaDoorW.PrintWords Go.Proofs.YtphlbjpefnjjnaaDoorW.PrintLast Go.Proofs.YtphlbjpefnjjnaaDoorW.PrintMore
set_option linter.unusedVariables false
def lex_Words.f (a0 : ByteArray) : Option (List S30 × Int) := if a0.size ≤ 9223372036854775807 then some (wordsV a0) else none
theorem lex_Words.calls (a0 : ByteArray) (r1 : List (S30)) (r2 : Int) (w : World) (h : lex_Words.f a0 = some (r1, r2)) (hL : Laid w) : Calls Tryd.prog 10 #[.string a0] w fun e w' => ∃ v0_ : Value, e = .returned (.tuple #[v0_, .int .i64 r2]) ∧ Kd.R k30 30 w' w.heap.size (fun _ => True) v0_ r1 ∧ Below w.heap.size w w' := by
  unfold lex_Words.f at h
  by_cases hs : a0.size ≤ 9223372036854775807
  · rw [if_pos hs] at h
    have h1 : wordsV a0 = (r1, r2) := Option.some.inj h
    have := words_walk a0 hs w hL
    rwa [h1] at this
  · rw [if_neg hs] at h
    cases h
def lex_Show.f (l0 : List S30) : Option ByteArray := if l0.length ≤ 1000000 ∧ (showL l0).length ≤ 140737488355328 then some ⟨(showL l0).toArray⟩ else none
theorem lex_Show.calls (A0 : Option Addr) (c0 : Nat) (l0 : List (S30)) (r : ByteArray) (w : World) (hr0 : Kd.C k30 w A0 l0.length l0) (hc0 : l0.length ≤ c0) (h : lex_Show.f l0 = some r) : Calls Tryd.prog 13 #[.slice A0 l0.length c0] w fun e w' => e = .returned (.string r) ∧ Below w.heap.size w w' := by
  unfold lex_Show.f at h
  by_cases hs : l0.length ≤ 1000000 ∧ (showL l0).length ≤ 140737488355328
  · rw [if_pos hs] at h
    have h1 := Option.some.inj h
    rw [← h1]
    exact show_walk A0 c0 l0 w hr0 hc0 hs.1 hs.2
  · rw [if_neg hs] at h
    cases h
end Go.Proofs.YtphlbjpefnjjnaaDoor.P
