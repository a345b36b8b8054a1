/- The reference's Words computes the lexer over lists; Same of equal lists; the sanity of the laws. -/
import Derived.Test.YtphlbjpefnjjnaaDoorLw
import Derived.Test.YtphlbjpefnjjnaaDoorHf
import Derived.Test.YtphlbjpefnjjnaaDoorPx63
namespace Go.Proofs.YtphlbjpefnjjnaaDoor.P
open Go Go.RowKit Go.Proofs.YtphlbjpefnjjnaaDoorW.PrintWords Go.Proofs.YtphlbjpefnjjnaaDoorW.PrintLast Go.Proofs.YtphlbjpefnjjnaaDoorW.PrintMore
set_option linter.unusedVariables false
set_option linter.unusedSimpArgs false
theorem lex_Words_eq (s : ByteArray) (h : s.size ≤ 3000) : lex_Words.f s = some (lexR s.data.toList) := by
  unfold lex_Words.f
  rw [if_pos (by omega), wordsV_eq s h]
theorem same_l0 (l : List S30) (hl : l.length ≤ 3000000) (d : Nat) : ∀ i k : Nat, i + d = l.length → d < k → hallmootref04_Same.l0 k l l (i : Int) = some true := by
  induction d with
  | zero =>
    intro i k hi hk
    obtain ⟨k, rfl⟩ : ∃ m, k = m + 1 := ⟨k - 1, by omega⟩
    simp only [hallmootref04_Same.l0]
    rw [if_neg (by omega)]
  | succ d ih =>
    intro i k hi hk
    obtain ⟨k, rfl⟩ : ∃ m, k = m + 1 := ⟨k - 1, by omega⟩
    simp only [hallmootref04_Same.l0]
    rw [if_pos (by omega), if_pos (by omega), if_pos (by omega), if_neg (by simp), w64 (n := (i : Int) + 1) (by omega) (by omega)]
    exact ih (i + 1) k (by omega) (by omega)
theorem same_refl (l : List S30) (hl : l.length ≤ 3000000) (k : Nat) (hk : l.length < k) : hallmootref04_Same.f k l l = some true := by
  unfold hallmootref04_Same.f
  rw [if_pos rfl]
  exact same_l0 l hl l.length 0 k (by omega) hk
/- the sanity -/
theorem lexR_ex1 : lexR [97, 58, 61, 33, 98, 45, 49, 59, 59] = ([tk 1 [97] 0 0, tk 3 [58, 61] 0 1, tk 3 [33] 0 3, tk 1 [98] 0 4, tk 3 [45] 0 5, tk 2 [49] 1 6, tk 3 [59, 59] 0 7], 0) := by
  have h1 : firstT [49, 59, 59] = some (2, 1, 1) := by
    have hn : nOk [49, 59, 59] = true := by
      unfold nOk
      have e : Lib.itoa (valL (([49, 59, 59] : List UInt8).take (runL isDig [49, 59, 59])) : Int) = [49] := by
        have : (valL (([49, 59, 59] : List UInt8).take (runL isDig [49, 59, 59])) : Int) = 1 := by rfl
        rw [this]
        unfold Lib.itoa
        rw [if_neg (by decide), show (1 : Int).toNat = 1 from rfl, Lib.decDigits, dif_pos (by decide)]
        rfl
      rw [e]
      decide
    unfold firstT
    rw [if_neg (by decide), if_pos (by decide), if_pos hn]
    rfl
  have a1 : firstT [97, 58, 61, 33, 98, 45, 49, 59, 59] = some (1, 1, 0) := by rfl
  have a2 : firstT [58, 61, 33, 98, 45, 49, 59, 59] = some (3, 2, 0) := by rfl
  have a3 : firstT [33, 98, 45, 49, 59, 59] = some (3, 1, 0) := by rfl
  have a4 : firstT [98, 45, 49, 59, 59] = some (1, 1, 0) := by rfl
  have a5 : firstT [45, 49, 59, 59] = some (3, 1, 0) := by rfl
  have a7 : firstT [59, 59] = some (3, 2, 0) := by rfl
  have b1 : isBl 97 = false := rfl
  have b2 : isBl 58 = false := rfl
  have b3 : isBl 33 = false := rfl
  have b4 : isBl 98 = false := rfl
  have b5 : isBl 45 = false := rfl
  have b6 : isBl 49 = false := rfl
  have b7 : isBl 59 = false := rfl
  unfold lexR
  simp [lexG, a1, a2, a3, a4, a5, a7, h1, b1, b2, b3, b4, b5, b6, b7]
theorem lexR_ex2 : lexR [97, 58, 98] = ([], 3) := by
  have a1 : firstT [97, 58, 98] = some (1, 1, 0) := by rfl
  have a2 : firstT [58, 98] = none := by rfl
  have b1 : isBl 97 = false := rfl
  have b2 : isBl 58 = false := rfl
  unfold lexR
  simp [lexG, a1, a2, b1, b2]
theorem sanity_eq (k : Nat) (hk : 10 ≤ k) : hallmootlaw04_sanity.f k = some true := by
  have e1 : lex_Words.f (⟨#[97, 58, 61, 33, 98, 45, 49, 59, 59]⟩ : ByteArray) = some ([tk 1 [97] 0 0, tk 3 [58, 61] 0 1, tk 3 [33] 0 3, tk 1 [98] 0 4, tk 3 [45] 0 5, tk 2 [49] 1 6, tk 3 [59, 59] 0 7], 0) := by
    rw [lex_Words_eq _ (by decide)]; exact congrArg some lexR_ex1
  have e2 : lex_Words.f (⟨#[97, 58, 98]⟩ : ByteArray) = some ([], 3) := by
    rw [lex_Words_eq _ (by decide)]; exact congrArg some lexR_ex2
  unfold hallmootlaw04_sanity.f
  rw [e1, e2]
  simp only [Option.bind_some]
  rw [if_pos trivial, if_pos trivial]
  have hs := same_refl [tk 1 [97] 0 0, tk 3 [58, 61] 0 1, tk 3 [33] 0 3, tk 1 [98] 0 4, tk 3 [45] 0 5, tk 2 [49] 1 6, tk 3 [59, 59] 0 7] (by decide) k (by simp; omega)
  have hs2 : hallmootref04_Same.f k [tk 1 [97] 0 0, tk 3 [58, 61] 0 1, tk 3 [33] 0 3, tk 1 [98] 0 4, tk 3 [45] 0 5, tk 2 [49] 1 6, tk 3 [59, 59] 0 7] (([(⟨1, (⟨#[97]⟩ : ByteArray), 0, 0⟩ : S30), (⟨3, (⟨#[58, 61]⟩ : ByteArray), 0, 1⟩ : S30), (⟨3, (⟨#[33]⟩ : ByteArray), 0, 3⟩ : S30), (⟨1, (⟨#[98]⟩ : ByteArray), 0, 4⟩ : S30), (⟨3, (⟨#[45]⟩ : ByteArray), 0, 5⟩ : S30), (⟨2, (⟨#[49]⟩ : ByteArray), 1, 6⟩ : S30), (⟨3, (⟨#[59, 59]⟩ : ByteArray), 0, 7⟩ : S30)] : List (S30))) = some true := hs
  rw [hs2]
  simp only [Option.bind_some, if_true]
  have hv : showL [tk 1 [97] 0 0, tk 3 [58, 61] 0 1, tk 3 [33] 0 3, tk 1 [98] 0 4, tk 3 [45] 0 5, tk 2 [49] 1 6, tk 3 [59, 59] 0 7] = [97, 32, 58, 61, 32, 33, 32, 98, 32, 45, 32, 49, 32, 59, 59] := by rfl
  unfold lex_Show.f
  rw [hv, if_pos (by decide)]
  simp only [Option.bind_some]
  rw [Lib.toList_data]
  rfl
/- the reference -/
theorem runL_win_dig (l : List UInt8) : runL isDig l ≤ runL isWin l := by
  induction l with
  | nil => exact Nat.le_refl _
  | cons b l ih =>
    unfold runL
    by_cases h : isDig (b.toNat : Int) = true
    · rw [if_pos h, if_pos (isWin_dig h)]; omega
    · rw [if_neg h]; exact Nat.zero_le _
theorem getD_drop (l : List UInt8) (i : Nat) : (l.drop i).getD 0 0 = l.getD i 0 := by
  simp only [List.getD_eq_getElem?_getD, List.getElem?_drop, Nat.add_zero]
/-- How far the reference's inner loop goes. -/
theorem ref_l1 (s : ByteArray) (hs : s.size ≤ 1000000) (out : List S30) (i : Nat) (c : Int) (hc : c = 1 ∨ c = 2) (d : Nat) : ∀ (j k : Nat), j + d = s.size → d + 4 ≤ k →
    hallmootref04_Words.l1 k s out (i : Int) c (j : Int) = hallmootref04_Words.j2 (k - 1 - runL (if c = 1 then isWin else isDig) (s.data.toList.drop j)) s out (i : Int) c ((j + runL (if c = 1 then isWin else isDig) (s.data.toList.drop j) : Nat) : Int) := by
  induction d with
  | zero =>
    intro j k hj hk
    obtain ⟨k, rfl⟩ : ∃ m, k = m + 1 := ⟨k - 1, by omega⟩
    simp only [hallmootref04_Words.l1]
    rw [if_neg (by omega), runL_end (by omega)]
    simp
  | succ d ih =>
    intro j k hj hk
    obtain ⟨k, rfl⟩ : ∃ m, k = m + 1 := ⟨k - 1, by omega⟩
    simp only [hallmootref04_Words.l1]
    have hjs : j < s.size := by omega
    rw [if_pos (by omega), if_pos (by omega), class_eq _ _ (by omega)]
    simp only [Option.bind_some]
    have hb : bt s (j : Int) = ((s[j]'hjs).toNat : Int) := by unfold bt; rw [Int.toNat_natCast, dif_pos hjs]
    rw [hb, w64 (n := (j : Int) + 1) (by omega) (by omega)]
    rw [runL_at hjs]
    generalize ((s[j]'hjs).toNat : Int) = x
    have hgo : hallmootref04_Words.l1 k s out (i : Int) c ((j : Int) + 1) = hallmootref04_Words.j2 (k - 1 - runL (if c = 1 then isWin else isDig) (s.data.toList.drop (j + 1))) s out (i : Int) c ((j + 1 + runL (if c = 1 then isWin else isDig) (s.data.toList.drop (j + 1)) : Nat) : Int) := ih (j + 1) k (by omega) (by omega)
    have hyes : hallmootref04_Words.l1 k s out (i : Int) c ((j : Int) + 1) = hallmootref04_Words.j2 (k + 1 - 1 - (runL (if c = 1 then isWin else isDig) (s.data.toList.drop (j + 1)) + 1)) s out (i : Int) c ((j + (runL (if c = 1 then isWin else isDig) (s.data.toList.drop (j + 1)) + 1) : Nat) : Int) := by
      rw [hgo, show k - 1 - runL (if c = 1 then isWin else isDig) (s.data.toList.drop (j + 1)) = k + 1 - 1 - (runL (if c = 1 then isWin else isDig) (s.data.toList.drop (j + 1)) + 1) by omega,
        show j + 1 + runL (if c = 1 then isWin else isDig) (s.data.toList.drop (j + 1)) = j + (runL (if c = 1 then isWin else isDig) (s.data.toList.drop (j + 1)) + 1) by omega]
    have hno : hallmootref04_Words.j2 k s out (i : Int) c (j : Int) = hallmootref04_Words.j2 (k + 1 - 1 - 0) s out (i : Int) c ((j + 0 : Nat) : Int) := by rw [Nat.sub_zero, Nat.add_sub_cancel, Nat.add_zero]
    rw [hyes, hno]
    have hrhs : ∀ b : Bool, hallmootref04_Words.j2 (k + 1 - 1 - (if b = true then runL (if c = 1 then isWin else isDig) (s.data.toList.drop (j + 1)) + 1 else 0)) s out (i : Int) c ((j + (if b = true then runL (if c = 1 then isWin else isDig) (s.data.toList.drop (j + 1)) + 1 else 0) : Nat) : Int) =
        if b = true then hallmootref04_Words.j2 (k + 1 - 1 - (runL (if c = 1 then isWin else isDig) (s.data.toList.drop (j + 1)) + 1)) s out (i : Int) c ((j + (runL (if c = 1 then isWin else isDig) (s.data.toList.drop (j + 1)) + 1) : Nat) : Int) else hallmootref04_Words.j2 (k + 1 - 1 - 0) s out (i : Int) c ((j + 0 : Nat) : Int) := by
      intro b; cases b <;> rfl
    rw [hrhs]
    generalize hallmootref04_Words.j2 (k + 1 - 1 - (runL (if c = 1 then isWin else isDig) (s.data.toList.drop (j + 1)) + 1)) s out (i : Int) c ((j + (runL (if c = 1 then isWin else isDig) (s.data.toList.drop (j + 1)) + 1) : Nat) : Int) = Y
    generalize hallmootref04_Words.j2 (k + 1 - 1 - 0) s out (i : Int) c ((j + 0 : Nat) : Int) = Z
    clear hrhs hyes hno hgo ih hb
    unfold cls
    by_cases h1 : isLet x = true
    · have h2 : isDig x = false := by
        unfold isLet at h1; unfold isDig
        have := of_decide_eq_true h1
        exact decide_eq_false (by omega)
      rcases hc with rfl | rfl <;> simp [isWin, h1, h2]
    · by_cases h2 : isDig x = true
      · rcases hc with rfl | rfl <;> simp [isWin, h1, h2]
      · by_cases h3 : x = 95
        · subst h3
          rcases hc with rfl | rfl <;> simp [isWin, isLet, isDig]
        · by_cases h4 : x = 9 ∨ x = 10 ∨ x = 32
          · rcases hc with rfl | rfl <;> simp [isWin, h1, h2, h3, h4]
          · rcases hc with rfl | rfl <;> simp [isWin, h1, h2, h3, h4]
end Go.Proofs.YtphlbjpefnjjnaaDoor.P
