/- The plain statement of LexOffsets: each token stands at its offset, and only white space lies between. -/
import Derived.Test.YtphlbjpefnjjnaaDoorLy
import Derived.Test.YtphlbjpefnjjnaaDoorPx72
namespace Go.Proofs.YtphlbjpefnjjnaaDoor.Pure
set_option linter.unusedVariables false
open Go Go.RowKit Go.Proofs.YtphlbjpefnjjnaaDoor.P Go.Proofs.YtphlbjpefnjjnaaDoorW.PrintWords Go.Proofs.YtphlbjpefnjjnaaDoorW.PrintLast
theorem rd30 (l : List S30) (i : Nat) (h : i < l.length) : rd_T30 l (i : Int) = l[i] := by
  simp [rd_T30, List.getD_eq_getElem?_getD, h]
theorem blank_eq (s : ByteArray) (j : Nat) (h : isBl (s.data.toList.getD j 0) = true) (k : Nat) (hk : 2 ≤ k) : hallmootref04_Blank.f k (bt s (j : Int)) = some true := by
  unfold hallmootref04_Blank.f
  rw [class_eq _ _ hk, bt_list]
  have : cls ((s.data.toList.getD j 0).toNat : Int) = 4 := by
    rcases isBl_cases h with e | e | e <;> rw [e] <;> rfl
  rw [this]
  rfl
theorem inner (s : ByteArray) (hs : s.size ≤ 1000000) (ts : List S30) (a i : Int) (u : Nat) (hu : u ≤ s.size) (d : Nat) : ∀ (j k : Nat), j + d = u → d + 3 ≤ k → (∀ q, j ≤ q → q < u → isBl (s.data.toList.getD q 0) = true) →
    hallmootlaw04_LexOffsets.l1 k s true ts a i (u : Int) (j : Int) = hallmootlaw04_LexOffsets.l1 (k - d) s true ts a i (u : Int) (u : Int) := by
  induction d with
  | zero =>
    intro j k hj hk hb
    obtain rfl : j = u := by omega
    rw [Nat.sub_zero]
  | succ d ih =>
    intro j k hj hk hb
    obtain ⟨k, rfl⟩ : ∃ m, k = m + 1 := ⟨k - 1, by omega⟩
    have hlt : j < u := by omega
    rw [hallmootlaw04_LexOffsets.l1]
    rw [if_pos (by omega), if_pos (by omega), if_pos (by omega), blank_eq s j (hb j (Nat.le_refl _) hlt) k (by omega)]
    simp only [Option.bind_some, if_true]
    rw [w64 (n := (j : Int) + 1) (by omega) (by omega), show (j : Int) + 1 = ((j + 1 : Nat) : Int) by omega, ih (j + 1) k (by omega) (by omega) (fun q h1 h2 => hb q (by omega) h2), show k + 1 - (d + 1) = k - d by omega]
theorem outer (s : ByteArray) (hs : s.size ≤ 1000000) (ts : List S30) (hts : ts.length ≤ 1000000) (d : Nat) : ∀ (i a k : Nat), i + d = ts.length → OffS s.data.toList a (ts.drop i) → 4 * d + (s.size - a) + 20 ≤ k →
    hallmootlaw04_LexOffsets.l0 k s true ts (a : Int) (i : Int) = some true := by
  induction d with
  | zero =>
    intro i a k hi ho hk
    obtain ⟨k, rfl⟩ : ∃ m, k = m + 2 := ⟨k - 2, by omega⟩
    rw [List.drop_of_length_le (by omega)] at ho
    obtain ⟨h1, h2⟩ := ho
    rw [sizeL] at h1 h2
    rw [hallmootlaw04_LexOffsets.l0]
    rw [if_pos (by omega), if_neg (by omega), hallmootlaw04_LexOffsets.j1]
    rw [inner s hs ts (a : Int) (i : Int) s.size (Nat.le_refl _) (s.size - a) a k (by omega) (by omega) h2]
    obtain ⟨k, rfl⟩ : ∃ m, k = m + 2 + (s.size - a) := ⟨k - 2 - (s.size - a), by omega⟩
    rw [Nat.add_sub_cancel, hallmootlaw04_LexOffsets.l1]
    rw [if_neg (by omega), if_neg (by omega), hallmootlaw04_LexOffsets.l0, w64 (n := (i : Int) + 1) (by omega) (by omega), if_neg (by omega)]
  | succ d ih =>
    intro i a k hi ho hk
    obtain ⟨k, rfl⟩ : ∃ m, k = m + 2 := ⟨k - 2, by omega⟩
    have hlt : i < ts.length := by omega
    rw [List.drop_eq_getElem_cons hlt] at ho
    obtain ⟨u, hu1, hu2, hu3, hu4, hu5, hu6, hu7⟩ := ho
    rw [sizeL] at hu3
    rw [hallmootlaw04_LexOffsets.l0]
    rw [rd30 ts i hlt, hu1, if_pos (by omega), if_pos (by omega), if_pos (by omega), if_neg (by omega), w64 (by omega) (by omega), if_neg (by omega), if_neg (by omega), hallmootlaw04_LexOffsets.j1]
    rw [inner s hs ts (a : Int) (i : Int) u (by omega) (u - a) a k (by omega) (by omega) hu5]
    obtain ⟨k, rfl⟩ : ∃ m, k = m + 1 + (u - a) := ⟨k - 1 - (u - a), by omega⟩
    rw [Nat.add_sub_cancel, hallmootlaw04_LexOffsets.l1]
    rw [rd30 ts i hlt, if_neg (by omega), if_pos (by omega), if_pos (by omega), if_pos (by omega), w64 (n := (u : Int) + ((ts[i]).f1.size : Int)) (by omega) (by omega), if_pos (by omega), if_pos (by omega), if_pos, w64 (n := (i : Int) + 1) (by omega) (by omega)]
    · exact ih (i + 1) (u + (ts[i]).f1.size) k (by omega) hu7 (by omega)
    · rw [Lib.toList_data, Lib.toList_data, Int.toNat_natCast, show ((u : Int) + ((ts[i]).f1.size : Int)).toNat = u + (ts[i]).f1.size by omega, extract_list, Nat.add_sub_cancel_left]
      exact hu6
theorem LexOffsets (a0 : ByteArray) (h0 : a0.size ≤ maxLen) : ∃ k, hallmootlaw04_LexOffsets.f k a0 = some true := by
  refine ⟨6000, ?_⟩
  unfold hallmootlaw04_LexOffsets.f
  rw [sanity_eq _ (by omega)]
  simp only [Option.bind_some]
  by_cases h : (a0.size : Int) > 600
  · rw [if_pos h]
  · rw [if_neg h, lex_Words_eq a0 (by omega)]
    simp only [Option.bind_some]
    cases hg : lexG a0.data.toList 0 0 with
    | none =>
      rw [show lexR a0.data.toList = ([], 3) by unfold lexR; rw [hg]]
      rfl
    | some l =>
      rw [show lexR a0.data.toList = (l, 0) by unfold lexR; rw [hg]]
      have hlen := (lexG_len _ 0 0 l (Nat.zero_le _) hg).2
      rw [sizeL] at hlen
      have ho := lexG_offs a0.data.toList a0.data.toList 0 0 0 l rfl (Nat.zero_le _) (Nat.zero_le _) hg (Nat.zero_le _) (fun k h1 h2 => absurd h2 (by omega))
      show (if (0 : Int) = 0 then _ else _) = _
      rw [if_pos rfl]
      exact outer a0 (by omega) l (by omega) l.length 0 0 6000 (by omega) ho (by omega)
end Go.Proofs.YtphlbjpefnjjnaaDoor.Pure
