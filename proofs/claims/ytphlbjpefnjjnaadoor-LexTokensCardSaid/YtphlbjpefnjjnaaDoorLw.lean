/- The reference's Words is the lexer over lists. -/
import Derived.Test.YtphlbjpefnjjnaaDoorLu
import Derived.Test.YtphlbjpefnjjnaaDoorPx67
import Derived.Test.YtphlbjpefnjjnaaDoorPx54
namespace Go.Proofs.YtphlbjpefnjjnaaDoor.P
open Go Go.RowKit Go.Proofs.YtphlbjpefnjjnaaDoorW.PrintWords Go.Proofs.YtphlbjpefnjjnaaDoorW.PrintLast Go.Proofs.YtphlbjpefnjjnaaDoorW.PrintMore
set_option linter.unusedVariables false
set_option linter.unusedSimpArgs false
theorem w64 {n : Int} (h0 : -9223372036854775808 ≤ n) (h1 : n ≤ 9223372036854775807) : wrap64 n = n := by unfold wrap64; omega
theorem bt_list (s : ByteArray) (i : Nat) : bt s (i : Int) = ((s.data.toList.getD i 0).toNat : Int) := by
  unfold bt
  rw [Int.toNat_natCast]
  by_cases h : i < s.size
  · rw [dif_pos h, Lib.getD_at s i h]
  · rw [dif_neg h, List.getD_eq_getElem?_getD, List.getElem?_eq_none (by rw [sizeL]; omega)]
    rfl
/- class -/
def cls (c : Int) : Int := if isLet c then 1 else if isDig c then 2 else if c = 95 then 3 else if c = 9 ∨ c = 10 ∨ c = 32 then 4 else 0
theorem class_eq (c : Int) (k : Nat) (hk : 2 ≤ k) : hallmootref04_class.f k c = some (cls c) := by
  obtain ⟨k, rfl⟩ : ∃ m, k = m + 2 := ⟨k - 2, by omega⟩
  have key : ∀ b, hallmootref04_class.j0 (k + 2) c b = some (if b = true then 1 else if 48 ≤ c ∧ c ≤ 57 then 2 else if c = 95 then 3 else if c = 9 ∨ c = 10 ∨ c = 32 then 4 else 0) := fun b => by
    simp only [hallmootref04_class.j0]
    by_cases hb : b = true
    · rw [if_pos hb, if_pos hb]
    · rw [if_neg hb, if_neg hb]
      have k2 : ∀ b', hallmootref04_class.j1 (k + 1) c b' = some (if b' = true then 2 else if c = 95 then 3 else if c = 9 ∨ c = 10 ∨ c = 32 then 4 else 0) := fun b' => by
        simp only [hallmootref04_class.j1]
        by_cases hb' : b' = true
        · rw [if_pos hb', if_pos hb']
        · rw [if_neg hb', if_neg hb']
          by_cases h1 : c = 95
          · rw [if_pos h1, if_pos h1]
          · rw [if_neg h1, if_neg h1]
            by_cases h2 : c = 9
            · rw [if_pos h2, if_pos (by omega)]
            · rw [if_neg h2]
              by_cases h3 : c = 10
              · rw [if_pos h3, if_pos (by omega)]
              · rw [if_neg h3]
                by_cases h4 : c = 32
                · rw [if_pos h4, if_pos (by omega)]
                · rw [if_neg h4, if_neg (by omega)]
      rw [k2, k2]
      by_cases h1 : c ≥ 48
      · rw [if_pos h1]
        by_cases h2 : c ≤ 57
        · rw [if_pos (decide_eq_true h2), if_pos ⟨h1, h2⟩]
        · rw [if_neg (by simp [h2]), if_neg (show ¬ (48 ≤ c ∧ c ≤ 57) by omega)]
      · rw [if_neg h1, if_neg (by simp), if_neg (show ¬ (48 ≤ c ∧ c ≤ 57) by omega)]
  have hX : ∀ b : Bool, (b = true ↔ (97 ≤ c ∧ c ≤ 122 ∨ 65 ≤ c ∧ c ≤ 90)) → some (if b = true then 1 else if 48 ≤ c ∧ c ≤ 57 then 2 else if c = 95 then 3 else if c = 9 ∨ c = 10 ∨ c = 32 then 4 else 0) = some (cls c) := by
    intro b hb
    unfold cls isLet isDig
    simp only [decide_eq_true_eq, hb]
  unfold hallmootref04_class.f
  rw [key, key, key]
  by_cases h1 : c ≥ 97
  · rw [if_pos h1]
    by_cases h2 : c ≤ 122
    · rw [if_pos h2]; exact hX _ (by simp; omega)
    · rw [if_neg h2, if_pos (by omega)]; exact hX _ (by simp; omega)
  · rw [if_neg h1]
    by_cases h3 : c ≥ 65
    · rw [if_pos h3]; exact hX _ (by simp; omega)
    · rw [if_neg h3]; exact hX _ (by simp; omega)
/- sign -/
theorem pre2 (a b : UInt8) (l : List UInt8) : [a, b].isPrefixOf l = decide (l.take 2 = [a, b]) := by
  rw [Bool.eq_iff_iff, List.isPrefixOf_iff_prefix, List.prefix_iff_eq_take, decide_eq_true_eq]
  exact ⟨fun h => h.symm, fun h => h.symm⟩
theorem pre1 (a b : UInt8) (l : List UInt8) : [a].isPrefixOf (b :: l) = decide ((b.toNat : Int) = (a.toNat : Int)) := by
  rw [Bool.eq_iff_iff, List.isPrefixOf_iff_prefix, List.prefix_iff_eq_take, decide_eq_true_eq]
  simp only [List.length_singleton, List.take_succ_cons, List.take_zero, List.cons.injEq, and_true]
  constructor
  · rintro rfl; rfl
  · intro h
    exact (UInt8.toNat_inj.1 (by omega)).symm
def sgn (l : List UInt8) : Int := match sgs.find? (fun p : List UInt8 => p.isPrefixOf l) with | none => 0 | some p => (p.length : Int)
theorem sgn_chain (b : UInt8) (l : List UInt8) : sgn (b :: l) = if (b :: l).take 2 = [59, 59] then 2 else if (b :: l).take 2 = [124, 124] then 2 else if (b :: l).take 2 = [38, 38] then 2 else if (b :: l).take 2 = [61, 61] then 2 else if (b :: l).take 2 = [46, 91] then 2 else if (b :: l).take 2 = [58, 61] then 2 else if (b :: l).take 2 = [45, 62] then 2 else
    if (b.toNat : Int) = 40 then 1 else if (b.toNat : Int) = 41 then 1 else if (b.toNat : Int) = 93 then 1 else if (b.toNat : Int) = 59 then 1 else if (b.toNat : Int) = 44 then 1 else if (b.toNat : Int) = 124 then 1 else if (b.toNat : Int) = 61 then 1 else if (b.toNat : Int) = 60 then 1 else if (b.toNat : Int) = 43 then 1 else if (b.toNat : Int) = 45 then 1 else if (b.toNat : Int) = 42 then 1 else if (b.toNat : Int) = 33 then 1 else 0 := by
  unfold sgn sgs
  simp only [List.find?_cons, List.find?_nil, pre2, pre1]
  generalize (b :: l).take 2 = t
  generalize hc : (b.toNat : Int) = c
  by_cases h1 : t = [59, 59]
  · rw [decide_eq_true h1, if_pos h1]; rfl
  rw [decide_eq_false h1, if_neg h1]
  by_cases h2 : t = [124, 124]
  · rw [decide_eq_true h2, if_pos h2]; rfl
  rw [decide_eq_false h2, if_neg h2]
  by_cases h3 : t = [38, 38]
  · rw [decide_eq_true h3, if_pos h3]; rfl
  rw [decide_eq_false h3, if_neg h3]
  by_cases h4 : t = [61, 61]
  · rw [decide_eq_true h4, if_pos h4]; rfl
  rw [decide_eq_false h4, if_neg h4]
  by_cases h5 : t = [46, 91]
  · rw [decide_eq_true h5, if_pos h5]; rfl
  rw [decide_eq_false h5, if_neg h5]
  by_cases h6 : t = [58, 61]
  · rw [decide_eq_true h6, if_pos h6]; rfl
  rw [decide_eq_false h6, if_neg h6]
  by_cases h7 : t = [45, 62]
  · rw [decide_eq_true h7, if_pos h7]; rfl
  rw [decide_eq_false h7, if_neg h7]
  clear h1 h2 h3 h4 h5 h6 h7 hc
  have e : ∀ n : Nat, ((UInt8.ofNat n).toNat : Int) = ((n % 256 : Nat) : Int) := fun n => by simp
  have f40 : ((40 : UInt8).toNat : Int) = 40 := rfl
  have f41 : ((41 : UInt8).toNat : Int) = 41 := rfl
  have f93 : ((93 : UInt8).toNat : Int) = 93 := rfl
  have f59 : ((59 : UInt8).toNat : Int) = 59 := rfl
  have f44 : ((44 : UInt8).toNat : Int) = 44 := rfl
  have f124 : ((124 : UInt8).toNat : Int) = 124 := rfl
  have f61 : ((61 : UInt8).toNat : Int) = 61 := rfl
  have f60 : ((60 : UInt8).toNat : Int) = 60 := rfl
  have f43 : ((43 : UInt8).toNat : Int) = 43 := rfl
  have f45 : ((45 : UInt8).toNat : Int) = 45 := rfl
  have f42 : ((42 : UInt8).toNat : Int) = 42 := rfl
  have f33 : ((33 : UInt8).toNat : Int) = 33 := rfl
  rw [f40, f41, f93, f59, f44, f124, f61, f60, f43, f45, f42, f33]
  have step : ∀ (P : Prop) [Decidable P] (x : List UInt8) (y : Option (List UInt8)) (z : Int), x.length = 1 → (¬ P → (match y with | none => (0 : Int) | some p => (p.length : Int)) = z) →
      (match (match decide P with | true => some x | false => y) with | none => (0 : Int) | some p => (p.length : Int)) = if P then 1 else z := fun P _ x y z hx h => by
    by_cases hP : P
    · rw [if_pos hP, decide_eq_true hP]; simp [hx]
    · rw [if_neg hP, decide_eq_false hP]; exact h hP
  repeat (refine step _ _ _ _ rfl fun _ => ?_)
  rfl
theorem extract_list (s : ByteArray) (i j : Nat) : (s.extract i j).data.toList = (s.data.toList.drop i).take (j - i) := by
  simp [ByteArray.data_extract, Array.toList_extract, List.extract, List.drop_take]
theorem sign_eq (s : ByteArray) (i k : Nat) (hi : i < s.size) (hs : s.size ≤ 1000000) (hk : 1 ≤ k) : hallmootref04_sign.f k s (i : Int) = some (sgn (s.data.toList.drop i)) := by
  obtain ⟨k, rfl⟩ : ∃ m, k = m + 1 := ⟨k - 1, by omega⟩
  have hw : wrap64 ((i : Int) + 2) = ((i + 2 : Nat) : Int) := by rw [w64 (by omega) (by omega)]; omega
  obtain ⟨b, r, hbr⟩ : ∃ b r, s.data.toList.drop i = b :: r := by
    cases hq : s.data.toList.drop i with
    | nil => have := congrArg List.length hq; rw [List.length_drop, sizeL] at this; simp at this; omega
    | cons b r => exact ⟨b, r, rfl⟩
  have hb : bt s (i : Int) = (b.toNat : Int) := by
    rw [bt_list, List.getD_eq_getElem?_getD]
    have : (s.data.toList.drop i)[0]? = some b := by rw [hbr]; rfl
    rw [List.getElem?_drop, Nat.add_zero] at this
    rw [this]; rfl
  have key : ∀ x : ByteArray, x.toList = (b :: r).take 2 ∨ (x.toList = [] ∧ (b :: r).length < 2) → hallmootref04_sign.j0 (k + 1) s (i : Int) x = some (sgn (b :: r)) := fun x hx => by
    have e : ∀ c d : UInt8, (x.toList = [c, d]) ↔ ((b :: r).take 2 = [c, d]) := fun c d => by
      rcases hx with hx | ⟨hx, hl⟩
      · rw [hx]
      · rw [hx]
        constructor
        · intro h; cases h
        · intro h
          have := congrArg List.length h
          rw [List.length_take] at this
          simp at this hl
          omega
    simp only [hallmootref04_sign.j0]
    rw [sgn_chain, hb]
    simp only [e]
    rw [if_pos (show (0 : Int) ≤ (i : Int) by omega), if_pos (show (i : Int) < (s.size : Int) by omega)]
    simp only [apply_ite (f := some)]
  unfold hallmootref04_sign.f
  rw [hw, hbr]
  by_cases h2 : ((i + 2 : Nat) : Int) ≤ (s.size : Int)
  · rw [if_pos h2, if_pos (by omega), if_pos (by omega)]
    refine key _ (.inl ?_)
    rw [Lib.toList_data, Int.toNat_natCast, Int.toNat_natCast, extract_list, hbr, Nat.add_sub_cancel_left]
  · rw [if_neg h2]
    refine key _ (.inr ⟨by rw [Lib.toList_data], ?_⟩)
    rw [← hbr, List.length_drop, sizeL]
    omega
/- number -/
theorem valL_bound : ∀ (n : Nat) (l : List UInt8), l.length ≤ n → (∀ b ∈ l, isDig (b.toNat : Int) = true) → valL l < 10 ^ n := by
  intro n l h hd
  have key : ∀ (l : List UInt8) (a m : Nat), (∀ b ∈ l, isDig (b.toNat : Int) = true) → a < 10 ^ m → l.foldl (fun a b => a * 10 + (b.toNat - 48)) a < 10 ^ (m + l.length) := by
    intro l
    induction l with
    | nil => intro a m _ h; simpa using h
    | cons b l ih =>
      intro a m hd h
      rw [List.foldl_cons, List.length_cons, show m + (l.length + 1) = (m + 1) + l.length by omega]
      refine ih _ _ (fun x hx => hd x (List.mem_cons_of_mem _ hx)) ?_
      have hb := hd b (List.mem_cons_self ..)
      unfold isDig at hb
      have := of_decide_eq_true hb
      rw [Nat.pow_succ]
      omega
  have := key l 0 0 hd (by simp)
  rw [Nat.zero_add] at this
  exact Nat.lt_of_lt_of_le this (Nat.pow_le_pow_right (by decide) h)
theorem num_step (v c : Nat) (hv : v < 10000000000000) (h1 : 48 ≤ (c : Int)) (h2 : (c : Int) ≤ 57) : wrap64 (wrap64 (wrap64 (10 * (v : Int)) + wrap64 (c : Int)) - 48) = ((v * 10 + (c - 48) : Nat) : Int) := by
  rw [w64 (n := 10 * (v : Int)) (by omega) (by omega), w64 (n := (c : Int)) (by omega) (by omega), w64 (n := 10 * (v : Int) + (c : Int)) (by omega) (by omega), w64 (n := 10 * (v : Int) + (c : Int) - 48) (by omega) (by omega)]
  omega
theorem num_loop (s : ByteArray) (hs : s.size ≤ 13) (hd : ∀ b ∈ s.data.toList, isDig (b.toNat : Int) = true) (d : Nat) : ∀ (i k : Nat), i + d = s.size → d < k →
    hallmootref04_number.l0 k s (valL (s.data.toList.take i) : Int) (i : Int) = some (if (valL s.data.toList : Int) > 1099511627776 then -1 else (valL s.data.toList : Int)) := by
  induction d with
  | zero =>
    intro i k hi hk
    obtain ⟨k, rfl⟩ : ∃ m, k = m + 1 := ⟨k - 1, by omega⟩
    simp only [hallmootref04_number.l0]
    rw [if_neg (by omega), List.take_of_length_le (by rw [sizeL]; omega)]
    by_cases h : (valL s.data.toList : Int) > 1099511627776
    · rw [if_pos h, if_pos h]
    · rw [if_neg h, if_neg h]
  | succ d ih =>
    intro i k hi hk
    obtain ⟨k, rfl⟩ : ∃ m, k = m + 1 := ⟨k - 1, by omega⟩
    simp only [hallmootref04_number.l0]
    rw [if_pos (by omega), if_pos (by omega), bt_list]
    have hlt : i < s.data.toList.length := by rw [sizeL]; omega
    have hb := hd (s.data.toList[i]) (List.getElem_mem hlt)
    have hg : s.data.toList.getD i 0 = s.data.toList[i] := by rw [List.getD_eq_getElem?_getD, List.getElem?_eq_getElem hlt]; rfl
    rw [hg]
    have hbd : valL (s.data.toList.take i) < 10000000000000 := Nat.lt_of_lt_of_le (valL_bound 13 _ (by rw [List.length_take]; omega) (fun b hb => hd b (List.mem_of_mem_take hb))) (by decide)
    have hstep : valL (s.data.toList.take (i + 1)) = valL (s.data.toList.take i) * 10 + ((s.data.toList[i]).toNat - 48) := by
      rw [List.take_succ_eq_append_getElem hlt, valL_app]
    unfold isDig at hb
    have hb' := of_decide_eq_true hb
    rw [num_step _ _ hbd hb'.1 hb'.2, ← hstep, show (i : Int) + 1 = ((i + 1 : Nat) : Int) by omega, w64 (n := ((i + 1 : Nat) : Int)) (by omega) (by omega)]
    exact ih (i + 1) k (by omega) (by omega)
theorem num_eq (s : ByteArray) (h0 : 0 < s.size) (hd : ∀ b ∈ s.data.toList, isDig (b.toNat : Int) = true) (k : Nat) (hk : s.size + 2 ≤ k) :
    hallmootref04_number.f k s = some (if 13 < s.size ∨ (s.data.toList.getD 0 0 = 48 ∧ 1 < s.size) ∨ (valL s.data.toList : Int) > 1099511627776 then -1 else (valL s.data.toList : Int)) := by
  obtain ⟨k, rfl⟩ : ∃ m, k = m + 1 := ⟨k - 1, by omega⟩
  unfold hallmootref04_number.f
  have hb0 : (bt s 0 = 48) ↔ s.data.toList.getD 0 0 = 48 := by
    rw [show (0 : Int) = ((0 : Nat) : Int) from rfl, bt_list]
    constructor
    · intro h
      exact UInt8.toNat_inj.1 (show (s.data.toList.getD 0 0).toNat = 48 by omega)
    · intro h; rw [h]; rfl
  simp only [hallmootref04_number.j0]
  by_cases h13 : (s.size : Int) > 13
  · rw [if_pos h13, if_pos trivial, if_pos (.inl (by omega))]
  · rw [if_neg h13, if_pos (by omega)]
    have hl := num_loop s (by omega) hd s.size 0 k (by omega) (by omega)
    rw [List.take_zero] at hl
    have hl0 : hallmootref04_number.l0 k s 0 0 = some (if (valL s.data.toList : Int) > 1099511627776 then -1 else (valL s.data.toList : Int)) := hl
    rw [hl0]
    by_cases h48 : bt s 0 = 48
    · rw [if_pos h48]
      by_cases h1 : (s.size : Int) > 1
      · rw [if_pos (decide_eq_true h1), if_pos (.inr (.inl ⟨hb0.1 h48, by omega⟩))]
      · rw [if_neg (by simpa using h1)]
        by_cases hv : (valL s.data.toList : Int) > 1099511627776
        · rw [if_pos hv, if_pos (.inr (.inr hv))]
        · rw [if_neg hv, if_neg (by omega)]
    · rw [if_neg h48, if_neg (by simp)]
      by_cases hv : (valL s.data.toList : Int) > 1099511627776
      · rw [if_pos hv, if_pos (.inr (.inr hv))]
      · rw [if_neg hv, if_neg]
        rintro (h | ⟨h, _⟩ | h)
        · omega
        · exact h48 (hb0.2 h)
        · exact hv h
theorem dec_head : ∀ u : Nat, 0 < u → (Lib.decDigits u).getD 0 0 ≠ 48 := by
  intro u
  induction u using Nat.strongRecOn with
  | _ u ih =>
    intro h0
    by_cases h : u < 10
    · rw [Lib.decDigits, dif_pos h]
      have : u = 1 ∨ u = 2 ∨ u = 3 ∨ u = 4 ∨ u = 5 ∨ u = 6 ∨ u = 7 ∨ u = 8 ∨ u = 9 := by omega
      rcases this with rfl | rfl | rfl | rfl | rfl | rfl | rfl | rfl | rfl <;> decide
    · rw [Lib.decDigits, dif_neg h]
      have := ih (u / 10) (by omega) (by omega)
      have hne := dec_ne (u / 10)
      cases hq : Lib.decDigits (u / 10) with
      | nil => exact absurd hq hne
      | cons b r =>
        rw [hq] at this
        exact this
/-- The digits of a number without a leading zero are its numeral. -/
theorem dec_back : ∀ (n : Nat) (l : List UInt8), l.length = n → l ≠ [] → (∀ b ∈ l, isDig (b.toNat : Int) = true) → ¬ (l.getD 0 0 = 48 ∧ 1 < l.length) → Lib.decDigits (valL l) = l
  | 0, l, hn, h0, _, _ => absurd (List.eq_nil_of_length_eq_zero hn) h0
  | 1, l, hn, h0, hd, _ => by
    match l, hn with
    | [b], _ =>
      have hb := hd b (List.mem_cons_self ..)
      unfold isDig at hb
      have hb' := of_decide_eq_true hb
      have hv : valL [b] = b.toNat - 48 := by simp [valL]
      rw [hv, Lib.decDigits, dif_pos (by omega), show 48 + (b.toNat - 48) = b.toNat by omega, UInt8.ofNat_toNat]
  | n + 2, l, hn, h0, hd, hz => by
    obtain ⟨l', b, rfl⟩ : ∃ l' b, l = l' ++ [b] := ⟨l.dropLast, l.getLast h0, (List.dropLast_concat_getLast h0).symm⟩
    rw [List.length_append, List.length_singleton] at hn
    have hne : l' ≠ [] := by intro e; subst e; simp at hn
    have hd' : ∀ x ∈ l', isDig (x.toNat : Int) = true := fun x hx => hd x (List.mem_append_left _ hx)
    have hhd : (l' ++ [b]).getD 0 0 = l'.getD 0 0 := by
      cases l' with
      | nil => exact absurd rfl hne
      | cons c r => rfl
    rw [hhd, List.length_append, List.length_singleton] at hz
    have ih := dec_back (n + 1) l' (by omega) hne hd' (fun h => hz ⟨h.1, by omega⟩)
    have hb := hd b (by simp)
    unfold isDig at hb
    have hb' := of_decide_eq_true hb
    have hpos : 0 < valL l' := by
      rcases Nat.eq_zero_or_pos (valL l') with h | h
      · exfalso
        rw [h, Lib.decDigits, dif_pos (by decide)] at ih
        rw [← ih] at hz
        exact hz ⟨rfl, by simp⟩
      · exact h
    rw [valL_app, Lib.decDigits, dif_neg (by omega), show (valL l' * 10 + (b.toNat - 48)) / 10 = valL l' by omega, ih, show 48 + (valL l' * 10 + (b.toNat - 48)) % 10 = b.toNat by omega, UInt8.ofNat_toNat]
theorem dec_iff (l : List UInt8) (h0 : l ≠ []) (hd : ∀ b ∈ l, isDig (b.toNat : Int) = true) : Lib.itoa (valL l : Int) = l ↔ ¬ (l.getD 0 0 = 48 ∧ 1 < l.length) := by
  have e : Lib.itoa (valL l : Int) = Lib.decDigits (valL l) := by unfold Lib.itoa; rw [if_neg (by omega), Int.toNat_natCast]
  rw [e]
  constructor
  · rintro h ⟨h1, h2⟩
    rcases Nat.eq_zero_or_pos (valL l) with hz | hz
    · rw [hz, Lib.decDigits, dif_pos (by decide)] at h
      rw [← h] at h2
      simp at h2
    · refine dec_head _ hz ?_
      rw [h]; exact h1
  · exact dec_back l.length l rfl h0 hd
theorem digs_take (l : List UInt8) : ∀ b ∈ l.take (runL isDig l), isDig (b.toNat : Int) = true := runL_digs l
end Go.Proofs.YtphlbjpefnjjnaaDoor.P
