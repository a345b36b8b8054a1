/- The plain statement of LexTokens: a token alone is that token; two operators side by side; every number is read as its value. -/
import Derived.Test.YtphlbjpefnjjnaaDoorLy
import Derived.Test.YtphlbjpefnjjnaaDoorPx77
namespace Go.Proofs.YtphlbjpefnjjnaaDoor.Pure
set_option linter.unusedVariables false
open Go Go.RowKit Go.Proofs.YtphlbjpefnjjnaaDoor.P Go.Proofs.YtphlbjpefnjjnaaDoorW.PrintWords Go.Proofs.YtphlbjpefnjjnaaDoorW.PrintLast
theorem rd30 (l : List S30) (i : Nat) (h : i < l.length) : rd_T30 l (i : Int) = l[i] := by
  simp [rd_T30, List.getD_eq_getElem?_getD, h]
theorem ba_mk (a b : List UInt8) : (⟨a.toArray⟩ : ByteArray) ++ (⟨b.toArray⟩ : ByteArray) = ⟨(a ++ b).toArray⟩ := by
  apply ba_ext
  rw [ByteArray.data_append]
  simp
theorem dec_last (n : Nat) : Lib.decDigits n = (Lib.decDigits n).dropLast ++ [UInt8.ofNat (48 + n % 10)] := by
  by_cases h : n < 10
  · rw [Lib.decDigits, dif_pos h, Nat.mod_eq_of_lt h]
    rfl
  · rw [Lib.decDigits, dif_neg h, List.dropLast_concat]
theorem dec_big (n : Nat) (h : ¬ n < 10) : (Lib.decDigits n).dropLast = Lib.decDigits (n / 10) := by
  rw [Lib.decDigits, dif_neg h, List.dropLast_concat]
theorem digit_str (n : Nat) : strOfNums [(wrap64 (48 + Int.tmod (n : Int) 10)) % 256] = ⟨([UInt8.ofNat (48 + n % 10)] : List UInt8).toArray⟩ := by
  have h : Int.tmod (n : Int) 10 = ((n % 10 : Nat) : Int) := by rw [Int.tmod_eq_emod_of_nonneg (by omega)]; omega
  rw [h, w64 (by omega) (by omega)]
  have e : (48 + ((n % 10 : Nat) : Int)) % 256 = ((48 + n % 10 : Nat) : Int) := by omega
  rw [e]
  unfold strOfNums
  rw [List.map_cons, List.map_nil, Int.toNat_natCast]
theorem digits_loop (d : Nat) : ∀ (n c k : Nat) (s : List UInt8), n < 10 ^ (d + 1) → n ≤ 1099511627776 → c + d ≤ 20 → d < k → s.length ≤ 100 + c →
    hallmootlaw04_digits.l0 k (n : Int) ⟨s.toArray⟩ (c : Int) = some ⟨((Lib.decDigits n).dropLast ++ s).toArray⟩ := by
  induction d with
  | zero =>
    intro n c k s hn hb hc hk hs
    obtain ⟨k, rfl⟩ : ∃ m, k = m + 1 := ⟨k - 1, by omega⟩
    have h10 : n < 10 := by simpa using hn
    have he : (Lib.decDigits n).dropLast = [] := by rw [Lib.decDigits, dif_pos h10]; rfl
    simp only [hallmootlaw04_digits.l0]
    rw [if_neg (show ¬ (n : Int) > 9 by omega), he, List.nil_append]
    simp
  | succ d ih =>
    intro n c k s hn hb hc hk hs
    obtain ⟨k, rfl⟩ : ∃ m, k = m + 1 := ⟨k - 1, by omega⟩
    simp only [hallmootlaw04_digits.l0]
    rw [if_pos (by omega)]
    by_cases h9 : (n : Int) > 9
    · have hdiv : Int.tdiv (n : Int) 10 = ((n / 10 : Nat) : Int) := by rw [Int.tdiv_eq_ediv_of_nonneg (by omega)]; omega
      rw [if_pos h9, hdiv, w64 (n := ((n / 10 : Nat) : Int)) (by omega) (by omega)]
      simp only [Option.bind_some]
      rw [digit_str]
      rw [size_mk, size_mk, List.length_singleton, if_pos (by omega), ba_mk, w64 (n := (c : Int) + 1) (by omega) (by omega), show (c : Int) + 1 = ((c + 1 : Nat) : Int) by omega]
      rw [ih (n / 10) (c + 1) k _ (by rw [Nat.pow_succ] at hn; omega) (by omega) (by omega) (by omega) (by rw [List.length_append, List.length_singleton]; omega)]
      rw [dec_big n (by omega), ← List.append_assoc, ← dec_last]
    · have he : (Lib.decDigits n).dropLast = [] := by rw [Lib.decDigits, dif_pos (by omega)]; rfl
      rw [if_neg h9, he, List.nil_append]
theorem digits_eq (n k : Nat) (hn : n ≤ 1099511627776) (hk : 13 ≤ k) : hallmootlaw04_digits.f k (n : Int) = some ⟨(Lib.decDigits n).toArray⟩ := by
  unfold hallmootlaw04_digits.f
  rw [digit_str]
  have := digits_loop 12 n 0 k [UInt8.ofNat (48 + n % 10)] (by omega) hn (by omega) (by omega) (by simp)
  rw [← dec_last] at this
  exact this
theorem tail_part (x1 : Int) (hx : 0 ≤ x1 ∧ x1 < 18446744073709551616) (l : List S30) (e i : Int) (k : Nat) (hk : 20 ≤ k) : hallmootlaw04_LexTokens.j1 k x1 true l e i false = some true := by
  obtain ⟨k, rfl⟩ : ∃ m, k = m + 1 := ⟨k - 1, by omega⟩
  have hm : Int.tmod x1 1099511627777 = ((x1.toNat % 1099511627777 : Nat) : Int) := by rw [Int.tmod_eq_emod_of_nonneg hx.1]; omega
  have hlt : x1.toNat % 1099511627777 < 1099511627777 := Nat.mod_lt _ (by decide)
  rw [hallmootlaw04_LexTokens.j1, hm]
  generalize x1.toNat % 1099511627777 = x at *
  have hlen := dec_len 12 x (by omega)
  have w1 : lex_Words.f ⟨(Lib.decDigits x).toArray⟩ = some ([tk 2 (Lib.decDigits x) x 0], 0) := by
    rw [lex_Words_eq _ (by rw [size_mk]; omega)]
    show some (lexR (Lib.decDigits x)) = _
    unfold lexR
    rw [lexG_single (dec_ne x) (firstT_dec x (by omega)) 0]
  have w2 : lex_Words.f ((⟨#[48]⟩ : ByteArray) ++ ⟨(Lib.decDigits x).toArray⟩) = some ([], 3) := by
    rw [show (⟨#[48]⟩ : ByteArray) = ⟨([48] : List UInt8).toArray⟩ from rfl, ba_mk, lex_Words_eq _ (by rw [size_mk, List.length_append, List.length_singleton]; omega)]
    show some (lexR (48 :: Lib.decDigits x)) = _
    unfold lexR
    rw [lexG, if_neg (by decide), firstT_zero]
  rw [if_neg (by simp), w64 (by omega) (by omega), digits_eq x k (by omega) (by omega)]
  simp only [Option.bind_some]
  rw [w1]
  simp only [Option.bind_some]
  rw [size_mk, if_pos (by omega), w2]
  simp [tk, rd_T30]
theorem steps (L : List UInt8) (hL : L.length ≤ 600) (x1 : Int) (hx : 0 ≤ x1 ∧ x1 < 18446744073709551616) (l : List S30) (hl : l.length ≤ 600) (ht : ∀ t ∈ l, Tok L 0 t) (d : Nat) : ∀ (i k : Nat), i + d = l.length → 6 * d + 60 ≤ k →
    hallmootlaw04_LexTokens.l0 k x1 true l 0 (i : Int) = some true := by
  induction d with
  | zero =>
    intro i k hi hk
    obtain ⟨k, rfl⟩ : ∃ m, k = m + 1 := ⟨k - 1, by omega⟩
    rw [hallmootlaw04_LexTokens.l0]
    rw [if_neg (by omega)]
    exact tail_part x1 hx l 0 i k (by omega)
  | succ d ih =>
    intro i k hi hk
    obtain ⟨k, rfl⟩ : ∃ m, k = m + 5 := ⟨k - 5, by omega⟩
    have hlt : i < l.length := by omega
    have hTi := ht l[i] (List.getElem_mem hlt)
    have hw : wrap64 ((i : Int) + 1) = ((i + 1 : Nat) : Int) := by rw [w64 (by omega) (by omega)]; omega
    have hnext : hallmootlaw04_LexTokens.l0 k x1 true l 0 (wrap64 ((i : Int) + 1)) = some true := by rw [hw]; exact ih (i + 1) k (by omega) (by omega)
    obtain ⟨q, c, m, n, hq, hf, hti⟩ := hTi
    have hne : L.drop q ≠ [] := by intro e; have := congrArg List.length e; rw [List.length_drop] at this; simp at this; omega
    have hsz := firstT_size hne hf
    rw [List.length_drop] at hsz
    have htl : ((L.drop q).take m).length = m := by rw [List.length_take, List.length_drop]; omega
    have htne : (L.drop q).take m ≠ [] := by intro e; rw [e] at htl; simp at htl; omega
    have hnum := firstT_num hf
    have f0 : (l[i]).f0 = c := by rw [hti]; rfl
    have f1 : (l[i]).f1 = ⟨((L.drop q).take m).toArray⟩ := by rw [hti]; rfl
    have f2 : (l[i]).f2 = n := by rw [hti]; rfl
    have f3 : (l[i]).f3 = (q : Int) := by rw [hti]; simp [tk]
    have f1s : (l[i]).f1.size = m := by rw [f1, size_mk, htl]
    have wi : lex_Words.f (l[i]).f1 = some ([tk c ((L.drop q).take m) n 0], 0) := by
      rw [lex_Words_eq _ (by omega), f1]
      show some (lexR ((L.drop q).take m)) = _
      unfold lexR
      rw [lexG_single htne (by rw [htl]; exact firstT_alone hne hf) 0]
    rw [hallmootlaw04_LexTokens.l0]
    rw [if_pos (by omega), hallmootlaw04_LexTokens.j1]
    rw [if_pos (by decide), if_pos (by omega), if_pos (by omega), rd30 l i hlt, wi]
    simp only [Option.bind_some, if_true]
    rw [hallmootlaw04_LexTokens.j2]
    rw [if_neg (by simp), if_pos (by omega), if_pos (by omega), if_pos (by simp), rd30 l i hlt]
    rw [if_neg (by simp [rd_T30, tk, f0, f1, f2]), f2, if_neg (by omega), if_neg (by omega), f0]
    have hj4 : ∀ b : Bool, (b = true → ∃ h0 : 0 < i, (l[i]).f0 = 3 ∧ (l[i - 1]'(by omega)).f0 = 3 ∧ (l[i]).f3 = (l[i - 1]'(by omega)).f3 + 1) → hallmootlaw04_LexTokens.j4 (k + 1) x1 true l 0 (i : Int) b = some true := fun b hb => by
      rw [hallmootlaw04_LexTokens.j4]
      cases b with
      | false => rw [if_neg (by simp)]; exact hnext
      | true =>
        obtain ⟨h0, g1, g2, g3⟩ := hb rfl
        have hw1 : wrap64 ((i : Int) - 1) = ((i - 1 : Nat) : Int) := by rw [w64 (by omega) (by omega)]; omega
        have hlt1 : i - 1 < l.length := by omega
        obtain ⟨q', c', m', n', hq', hf', hti'⟩ := ht _ (List.getElem_mem hlt1)
        have hne' : L.drop q' ≠ [] := by intro e; have := congrArg List.length e; rw [List.length_drop] at this; simp at this; omega
        have hsz' := firstT_size hne' hf'
        rw [List.length_drop] at hsz'
        have p1 : (l[i - 1]).f1 = ⟨((L.drop q').take m').toArray⟩ := by rw [hti']; rfl
        have p1s : (l[i - 1]).f1.size = m' := by rw [p1, size_mk, List.length_take, List.length_drop]; omega
        have p0 : c' = 3 := by rw [← g2, hti']; rfl
        have p3 : (l[i - 1]).f3 = (q' : Int) := by rw [hti']; simp [tk]
        rw [f3, p3] at g3
        obtain rfl : q = q' + 1 := by omega
        have c3 : c = 3 := by rw [← f0, g1]
        subst p0 c3
        rw [if_pos rfl, hw1, if_pos (by omega), if_pos (by omega), if_pos (by omega), if_pos (by omega), rd30 l i hlt, rd30 l (i - 1) hlt1, f1s, p1s, if_pos (by omega), p1, f1, ba_mk]
        have hwl : ((L.drop q').take m' ++ (L.drop (q' + 1)).take m).length ≤ 3000 := by
          rw [List.length_append, List.length_take, List.length_take, List.length_drop, List.length_drop]; omega
        rw [lex_Words_eq _ (by rw [size_mk]; exact hwl)]
        simp only [Option.bind_some]
        by_cases hm1 : (m' : Int) = 1
        · rw [if_pos hm1]
          obtain rfl : m' = 1 := by omega
          have hdd : (L.drop q').drop 1 = L.drop (q' + 1) := List.drop_drop
          obtain ⟨ta, tb, htwo⟩ := lexG_two (l := L.drop q') (by rw [List.length_drop]; omega) hf' (by rw [hdd]; exact hf) _ (by rw [hdd])
          have : lexR (((⟨((L.drop q').take 1 ++ (L.drop (q' + 1)).take m).toArray⟩ : ByteArray)).data.toList) = ([ta, tb], 0) := by
            show lexR ((L.drop q').take 1 ++ (L.drop (q' + 1)).take m) = _
            unfold lexR
            rw [htwo]
          rw [this]
          simp only [if_true, List.length_cons, List.length_nil]
          rw [if_pos (by decide)]
          exact hnext
        · rw [if_neg hm1]
          exact hnext
    have hj3 : hallmootlaw04_LexTokens.j3 (k + 2) x1 true l 0 (i : Int) false = some true := by
      rw [hallmootlaw04_LexTokens.j3]
      rw [if_neg (by simp)]
      by_cases h0 : (i : Int) > 0
      · have hw1 : wrap64 ((i : Int) - 1) = ((i - 1 : Nat) : Int) := by rw [w64 (by omega) (by omega)]; omega
        have hlt1 : i - 1 < l.length := by omega
        rw [if_pos h0, if_pos (by omega), if_pos (by omega), rd30 l i hlt]
        by_cases g1 : (l[i]).f0 = 3
        · rw [if_pos g1, hw1, if_pos (by omega), if_pos (by omega), rd30 l (i - 1) hlt1]
          by_cases g2 : (l[i - 1]).f0 = 3
          · rw [if_pos g2]
            refine hj4 _ (fun hb => ⟨by omega, g1, g2, ?_⟩)
            obtain ⟨q', c', m', n', hq', hf', hti'⟩ := ht _ (List.getElem_mem hlt1)
            have p3 : (l[i - 1]).f3 = (q' : Int) := by rw [hti']; simp [tk]
            have := eq_of_beq hb
            rw [p3] at this ⊢
            rw [this, w64 (by omega) (by omega)]
          · rw [if_neg g2]
            exact hj4 false (fun h => by cases h)
        · rw [if_neg g1]
          exact hj4 false (fun h => by cases h)
      · rw [if_neg h0]
        exact hj4 false (fun h => by cases h)
    by_cases hc2 : c = 2
    · rw [if_pos hc2]; exact hj3
    · rw [if_neg hc2, hnum.2.2.1 hc2]
      exact hj3
theorem LexTokens (a0 : ByteArray) (a1 : Int) (h0 : a0.size ≤ maxLen) (h1 : (Lit.int .u64 a1).wf = true) : ∃ k, hallmootlaw04_LexTokens.f k a0 a1 = some true := by
  refine ⟨6000, ?_⟩
  have hx : 0 ≤ a1 ∧ a1 < 18446744073709551616 := by
    simp only [Lit.wf, IntKind.min, IntKind.max, IntKind.signed, IntKind.bits, Bool.and_eq_true] at h1
    have h1a := h1.1
    have h1b := h1.2
    simp at h1a h1b
    omega
  unfold hallmootlaw04_LexTokens.f
  rw [sanity_eq _ (by omega)]
  simp only [Option.bind_some]
  by_cases h : (a0.size : Int) > 600
  · rw [if_pos h]
  · rw [if_neg h, lex_Words_eq a0 (by omega)]
    simp only [Option.bind_some]
    cases hg : lexG a0.data.toList 0 0 with
    | none =>
      rw [show lexR a0.data.toList = ([], 3) by unfold lexR; rw [hg]]
      rw [hallmootlaw04_LexTokens.l0]
      rw [if_neg (by simp)]
      exact tail_part a1 hx [] 3 0 5999 (by omega)
    | some l =>
      rw [show lexR a0.data.toList = (l, 0) by unfold lexR; rw [hg]]
      have hlen := (lexG_len _ 0 0 l (Nat.zero_le _) hg).2
      rw [sizeL] at hlen
      exact steps a0.data.toList (by rw [sizeL]; omega) a1 hx l (by omega) (lexG_tok _ 0 0 l hg) l.length 0 6000 (by omega) (by omega)
end Go.Proofs.YtphlbjpefnjjnaaDoor.Pure
