/- The plain statement of LexConcat: the tokens of two texts joined by white space are those of both. -/
import Derived.Test.YtphlbjpefnjjnaaDoorLy
import Derived.Test.YtphlbjpefnjjnaaDoorPx75
namespace Go.Proofs.YtphlbjpefnjjnaaDoor.Pure
set_option linter.unusedVariables false
open Go Go.RowKit Go.Proofs.YtphlbjpefnjjnaaDoor.P Go.Proofs.YtphlbjpefnjjnaaDoorW.PrintWords Go.Proofs.YtphlbjpefnjjnaaDoorW.PrintLast
theorem rd30 (l : List S30) (i : Nat) (h : i < l.length) : rd_T30 l (i : Int) = l[i] := by
  simp [rd_T30, List.getD_eq_getElem?_getD, h]
theorem shift_loop (s : ByteArray) (hs : s.size ≤ 1000000) (l m both : List S30) (hl : l.length ≤ 1000000) (hm : m.length ≤ 1000000) (hat : ∀ t ∈ m, 0 ≤ t.f3 ∧ t.f3 ≤ 1000000) (hb : both = l ++ m.map (shiftT (s.size + 1))) (d : Nat) : ∀ (i k : Nat), i + d = m.length → d + 2000010 ≤ k →
    hallmootlaw04_LexConcat.l0 k s true m both 0 (l ++ (m.take i).map (shiftT (s.size + 1))) (i : Int) = some true := by
  induction d with
  | zero =>
    intro i k hi hk
    obtain ⟨k, rfl⟩ : ∃ m, k = m + 1 := ⟨k - 1, by omega⟩
    simp only [hallmootlaw04_LexConcat.l0]
    rw [if_neg (by omega), if_pos trivial, if_pos trivial, List.take_of_length_le (by omega), ← hb, same_refl both (by rw [hb, List.length_append, List.length_map]; omega) k (by rw [hb, List.length_append, List.length_map]; omega)]
    rfl
  | succ d ih =>
    intro i k hi hk
    obtain ⟨k, rfl⟩ : ∃ m, k = m + 1 := ⟨k - 1, by omega⟩
    have hlt : i < m.length := by omega
    have ha := hat m[i] (List.getElem_mem hlt)
    simp only [hallmootlaw04_LexConcat.l0]
    rw [if_pos (by omega), if_pos (by omega), if_pos (by rw [List.length_append, List.length_map, List.length_take]; omega), rd30 m i hlt, w64 (n := (m[i]).f3 + (s.size : Int)) (by omega) (by omega), w64 (n := (m[i]).f3 + (s.size : Int) + 1) (by omega) (by omega), w64 (n := (i : Int) + 1) (by omega) (by omega), show (i : Int) + 1 = ((i + 1 : Nat) : Int) by omega]
    have := ih (i + 1) k (by omega) (by omega)
    rw [List.take_succ_eq_append_getElem hlt, List.map_append, ← List.append_assoc] at this
    have e : (m[i]).f3 + (s.size : Int) + 1 = (m[i]).f3 + ((s.size + 1 : Nat) : Int) := by omega
    rw [e]
    exact this
theorem sep_eq (a2 : Int) (h0 : 0 ≤ a2) : 0 ≤ Int.tmod a2 3 ∧ Int.tmod a2 3 < 3 ∧ ∃ c : UInt8, isBl c = true ∧ rdOf ByteArray.empty [(⟨#[32]⟩ : ByteArray), (⟨#[9]⟩ : ByteArray), (⟨#[10]⟩ : ByteArray)] (Int.tmod a2 3) = ⟨#[c]⟩ := by
  have h : Int.tmod a2 3 = a2 % 3 := Int.tmod_eq_emod_of_nonneg h0
  rw [h]
  refine ⟨by omega, by omega, ?_⟩
  have : a2 % 3 = 0 ∨ a2 % 3 = 1 ∨ a2 % 3 = 2 := by omega
  rcases this with e | e | e <;> rw [e]
  · exact ⟨32, rfl, rfl⟩
  · exact ⟨9, rfl, rfl⟩
  · exact ⟨10, rfl, rfl⟩
theorem LexConcat (a0 a1 : ByteArray) (a2 : Int) (h0 : a0.size ≤ maxLen) (h1 : a1.size ≤ maxLen) (h2 : (Lit.int .u8 a2).wf = true) : ∃ k, hallmootlaw04_LexConcat.f k a0 a1 a2 = some true := by
  refine ⟨2010000, ?_⟩
  have hnn : 0 ≤ a2 := by
    simp only [Lit.wf, IntKind.min, IntKind.max, IntKind.signed, IntKind.bits, Bool.and_eq_true] at h2
    simpa using h2.1
  obtain ⟨s1, s2, c, hc, s3⟩ := sep_eq a2 hnn
  unfold hallmootlaw04_LexConcat.f
  rw [sanity_eq _ (by omega)]
  simp only [Option.bind_some]
  have key : a0.size ≤ 600 → a1.size ≤ 600 → hallmootlaw04_LexConcat.j0 2010000 a0 a1 a2 true false = some true := fun k0 k1 => by
    rw [hallmootlaw04_LexConcat.j0]
    rw [if_neg (by simp), lex_Words_eq a0 (by omega), lex_Words_eq a1 (by omega)]
    simp only [Option.bind_some]
    have s2' : Int.tmod a2 3 < (([(⟨#[32]⟩ : ByteArray), (⟨#[9]⟩ : ByteArray), (⟨#[10]⟩ : ByteArray)] : List ByteArray).length : Int) := s2
    rw [if_pos s1, if_pos s2', s3]
    have z1 : (⟨#[c]⟩ : ByteArray).size = 1 := rfl
    have hcat : ((a0 ++ (⟨#[c]⟩ : ByteArray)) ++ a1).data.toList = a0.data.toList ++ c :: a1.data.toList := by
      rw [ByteArray.data_append, ByteArray.data_append]; simp
    have z2 : (a0 ++ (⟨#[c]⟩ : ByteArray)).size = a0.size + 1 := by rw [ByteArray.size_append, z1]
    rw [z1, if_pos (by omega), z2, if_pos (by omega), lex_Words_eq _ (by rw [ByteArray.size_append, z2]; omega), hcat]
    simp only [Option.bind_some]
    have hj := lexG_cat c a1.data.toList hc a0.data.toList 0 0 (Nat.zero_le _)
    cases hg : lexG a0.data.toList 0 0 with
    | none =>
      rw [hg] at hj
      rw [show lexR a0.data.toList = ([], 3) by unfold lexR; rw [hg], show lexR (a0.data.toList ++ c :: a1.data.toList) = ([], 3) by unfold lexR; rw [hj]; rfl]
      show (if (3 : Int) = 0 then _ else _) = _
      rw [if_neg (by decide), hallmootlaw04_LexConcat.j1]
      rfl
    | some l =>
      rw [hg, show 0 + a0.data.toList.length + 1 = 0 + (a0.size + 1) by rw [sizeL]; omega, lexG_shift] at hj
      rw [show lexR a0.data.toList = (l, 0) by unfold lexR; rw [hg]]
      have hlen := (lexG_len _ 0 0 l (Nat.zero_le _) hg).2
      rw [sizeL] at hlen
      show (if (0 : Int) = 0 then _ else _) = _
      rw [if_pos rfl]
      cases hg2 : lexG a1.data.toList 0 0 with
      | none =>
        rw [hg2] at hj
        rw [show lexR a1.data.toList = ([], 3) by unfold lexR; rw [hg2], show lexR (a0.data.toList ++ c :: a1.data.toList) = ([], 3) by unfold lexR; rw [hj]; rfl, hallmootlaw04_LexConcat.j1]
        rfl
      | some m =>
        rw [hg2] at hj
        have hlen2 := (lexG_len _ 0 0 m (Nat.zero_le _) hg2).2
        rw [sizeL] at hlen2
        rw [show lexR a1.data.toList = (m, 0) by unfold lexR; rw [hg2], show lexR (a0.data.toList ++ c :: a1.data.toList) = (l ++ m.map (shiftT (a0.size + 1)), 0) by unfold lexR; rw [hj]; rfl, hallmootlaw04_LexConcat.j1]
        show (if ((0 : Int) != 0) = true then _ else _) = _
        rw [if_neg (by decide)]
        simp only [Option.bind_some, List.nil_append, List.length_nil]
        rw [if_pos (by omega)]
        have hat : ∀ t ∈ m, 0 ≤ t.f3 ∧ t.f3 ≤ 1000000 := fun t ht => by
          obtain ⟨q, _, _, _, hq, _, rfl⟩ := lexG_tok _ 0 0 m hg2 t ht
          rw [sizeL] at hq
          simp only [tk]
          omega
        have := shift_loop a0 (by omega) l m _ (by omega) (by omega) hat rfl m.length 0 2009998 (by omega) (by omega)
        rw [List.take_zero, List.map_nil, List.append_nil] at this
        exact this
  have big : hallmootlaw04_LexConcat.j0 2010000 a0 a1 a2 true true = some true := by
    rw [hallmootlaw04_LexConcat.j0]
    rw [if_pos rfl]
  by_cases h : (a0.size : Int) > 600
  · rw [if_pos h]; exact big
  · rw [if_neg h]
    by_cases h' : (a1.size : Int) > 600
    · rw [decide_eq_true h']; exact big
    · rw [decide_eq_false h']; exact key (by omega) (by omega)
end Go.Proofs.YtphlbjpefnjjnaaDoor.Pure
