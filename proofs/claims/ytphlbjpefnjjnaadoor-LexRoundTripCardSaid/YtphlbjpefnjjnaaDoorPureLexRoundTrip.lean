/- The plain statement of LexRoundTrip: what is shown is lexed to the same tokens, but for the offsets. -/
import Derived.Test.YtphlbjpefnjjnaaDoorLy
import Derived.Test.YtphlbjpefnjjnaaDoorPx74
namespace Go.Proofs.YtphlbjpefnjjnaaDoor.Pure
set_option linter.unusedVariables false
open Go Go.RowKit Go.Proofs.YtphlbjpefnjjnaaDoor.P Go.Proofs.YtphlbjpefnjjnaaDoorW.PrintWords Go.Proofs.YtphlbjpefnjjnaaDoorW.PrintLast
theorem rd30 (l : List S30) (i : Nat) (h : i < l.length) : rd_T30 l (i : Int) = l[i] := by
  simp [rd_T30, List.getD_eq_getElem?_getD, h]
theorem alike_loop (a b : List S30) (hab : b.map strip = a.map strip) (hl : a.length ≤ 1000000) (d : Nat) : ∀ (i k : Nat), i + d = a.length → d < k → hallmootref04_Alike.l0 k a b (i : Int) = some true := by
  have hlen : b.length = a.length := by have := congrArg List.length hab; simpa using this
  induction d with
  | zero =>
    intro i k hi hk
    obtain ⟨k, rfl⟩ : ∃ m, k = m + 1 := ⟨k - 1, by omega⟩
    simp only [hallmootref04_Alike.l0]
    rw [if_neg (by omega)]
  | succ d ih =>
    intro i k hi hk
    obtain ⟨k, rfl⟩ : ∃ m, k = m + 1 := ⟨k - 1, by omega⟩
    have h1 : i < a.length := by omega
    have h2 : i < b.length := by omega
    have he : strip b[i] = strip a[i] := by
      have := congrArg (fun x => x[i]?) hab
      simpa [h1, h2] using this
    simp only [strip, Prod.mk.injEq] at he
    simp only [hallmootref04_Alike.l0]
    rw [rd30 a i h1, rd30 b i h2, he.1, he.2.1, he.2.2, if_pos (by omega), if_pos (by omega), if_pos (by omega), if_pos rfl, if_pos rfl, if_pos rfl, w64 (n := (i : Int) + 1) (by omega) (by omega), show (i : Int) + 1 = ((i + 1 : Nat) : Int) by omega]
    exact ih (i + 1) k (by omega) (by omega)
theorem LexRoundTrip (a0 : ByteArray) (h0 : a0.size ≤ maxLen) : ∃ k, hallmootlaw04_LexRoundTrip.f k a0 = some true := by
  refine ⟨3000, ?_⟩
  unfold hallmootlaw04_LexRoundTrip.f
  rw [sanity_eq _ (by omega)]
  simp only [Option.bind_some]
  by_cases h : (a0.size : Int) > 600
  · rw [if_pos h]
  · rw [if_neg h, lex_Words_eq a0 (by omega)]
    simp only [Option.bind_some]
    cases hg : lexG a0.data.toList 0 0 with
    | none =>
      rw [show lexR a0.data.toList = ([], 3) by unfold lexR; rw [hg]]
      rfl
    | some l =>
      rw [show lexR a0.data.toList = (l, 0) by unfold lexR; rw [hg]]
      have hlen := lexG_len _ 0 0 l (Nat.zero_le _) hg
      rw [sizeL] at hlen
      obtain ⟨us, hu1, hu2⟩ := lexG_show l (fun t ht => (lexG_tok _ 0 0 l hg t ht).good)
      have hul : us.length = l.length := by have := congrArg List.length hu2; simpa using this
      have hsh := showL_strip hu2
      have e1 : lex_Show.f l = some ⟨(showL l).toArray⟩ := by unfold lex_Show.f; rw [if_pos ⟨by omega, by omega⟩]
      have e2 : lex_Show.f us = some ⟨(showL l).toArray⟩ := by unfold lex_Show.f; rw [hsh, if_pos ⟨by omega, by omega⟩]
      have e3 : lex_Words.f ⟨(showL l).toArray⟩ = some (us, 0) := by
        rw [lex_Words_eq _ (by rw [size_mk]; omega)]
        show some (lexR (showL l)) = _
        unfold lexR
        rw [hu1]
      simp only [e1, Option.bind_some, e3, if_true]
      have e4 : hallmootref04_Alike.f 3000 l us = some true := by
        unfold hallmootref04_Alike.f
        rw [if_pos (by omega)]
        exact alike_loop l us hu2 (by omega) l.length 0 3000 (by omega) (by omega)
      rw [e4, e2]
      simp
end Go.Proofs.YtphlbjpefnjjnaaDoor.Pure
