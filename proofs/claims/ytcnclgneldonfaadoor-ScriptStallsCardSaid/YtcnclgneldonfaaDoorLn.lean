/- Numerals: what digits spell, and back. -/
import Derived.Test.YtcnclgneldonfaaDoorHa
import Derived.Lib.Atoi
import Derived.Lib.AtoiAll
import Derived.Lib.ItoaNum
import Derived.Lib.Strings
import Derived.Lib.ItoaWalk
namespace Go.Proofs.YtcnclgneldonfaaDoor.P
open Go Go.RowKit Go.Proofs.YtcnclgneldonfaaDoorW.PrintWords Go.Proofs.YtcnclgneldonfaaDoorW.PrintLast Go.Proofs.YtcnclgneldonfaaDoorW.PrintMore
set_option linter.unusedVariables false
set_option linter.unusedSimpArgs false
def isDig (r : Int) : Bool := decide (48 ≤ r ∧ r ≤ 57)
theorem sizeL (s : ByteArray) : s.data.toList.length = s.size := Array.length_toList
/-- The number that digits spell. -/
def valL (l : List UInt8) : Nat := l.foldl (fun a b => a * 10 + (b.toNat - 48)) 0
def digs (l : List UInt8) : Prop := ∀ b ∈ l, isDig (b.toNat : Int) = true
theorem decFrom_digs : ∀ (l : List UInt8) (a : Nat), digs l → Lib.decFrom a l = some (l.foldl (fun a b => a * 10 + (b.toNat - 48)) a)
  | [], a, _ => rfl
  | b :: l, a, h => by
    have hb := h b (List.mem_cons_self ..)
    have h2 : 48 ≤ b.toNat ∧ b.toNat ≤ 57 := by unfold isDig at hb; have := of_decide_eq_true hb; omega
    unfold Lib.decFrom
    rw [show Lib.digitVal b = some (b.toNat - 48) from by unfold Lib.digitVal; rw [if_pos h2]]
    exact decFrom_digs l _ (fun x hx => h x (List.mem_cons_of_mem _ hx))
theorem atoi_digs (l : List UInt8) (hn : l ≠ []) (h : digs l) : Lib.atoi l = some (valL l : Int) := by
  cases l with
  | nil => exact absurd rfl hn
  | cons b r =>
    have hb := h b (List.mem_cons_self ..)
    have h2 : 48 ≤ b.toNat ∧ b.toNat ≤ 57 := by unfold isDig at hb; have := of_decide_eq_true hb; omega
    unfold Lib.atoi
    simp only []
    rw [if_neg (by intro e; rw [eq_of_beq e] at h2; revert h2; decide), if_neg (by intro e; rw [eq_of_beq e] at h2; revert h2; decide)]
    unfold Lib.decNat
    rw [if_neg (by simp), decFrom_digs _ _ h]
    rfl
theorem valL_app (l : List UInt8) (b : UInt8) : valL (l ++ [b]) = valL l * 10 + (b.toNat - 48) := by
  unfold valL
  rw [List.foldl_append]
  rfl
theorem dec_val : ∀ u : Nat, valL (Lib.decDigits u) = u := by
  intro u
  induction u using Nat.strongRecOn with
  | _ u ih =>
    by_cases h : u < 10
    · rw [Lib.decDigits, dif_pos h]
      have : u = 0 ∨ u = 1 ∨ u = 2 ∨ u = 3 ∨ u = 4 ∨ u = 5 ∨ u = 6 ∨ u = 7 ∨ u = 8 ∨ u = 9 := by omega
      rcases this with rfl | rfl | rfl | rfl | rfl | rfl | rfl | rfl | rfl | rfl <;> rfl
    · rw [Lib.decDigits, dif_neg h, valL_app, ih (u / 10) (by omega)]
      have h2 : (UInt8.ofNat (48 + u % 10)).toNat = 48 + u % 10 := by
        rw [UInt8.toNat_ofNat_of_lt']
        show 48 + u % 10 < 256
        omega
      rw [h2]
      omega
theorem dec_digs : ∀ u : Nat, ∀ b ∈ Lib.decDigits u, isDig (b.toNat : Int) = true := by
  intro u
  have hd : ∀ v, v < 10 → isDig ((UInt8.ofNat (48 + v)).toNat : Int) = true := fun v hv => by
    have : v = 0 ∨ v = 1 ∨ v = 2 ∨ v = 3 ∨ v = 4 ∨ v = 5 ∨ v = 6 ∨ v = 7 ∨ v = 8 ∨ v = 9 := by omega
    rcases this with rfl | rfl | rfl | rfl | rfl | rfl | rfl | rfl | rfl | rfl <;> rfl
  induction u using Nat.strongRecOn with
  | _ u ih =>
    intro b hb
    by_cases h : u < 10
    · rw [Lib.decDigits, dif_pos h] at hb
      rw [List.mem_singleton.1 hb]
      exact hd u h
    · rw [Lib.decDigits, dif_neg h] at hb
      rcases List.mem_append.1 hb with hb | hb
      · exact ih (u / 10) (by omega) b hb
      · rw [List.mem_singleton.1 hb]
        exact hd (u % 10) (by omega)
theorem dec_ne (u : Nat) : Lib.decDigits u ≠ [] := by
  rw [Lib.decDigits]
  split <;> simp
theorem dec_len : ∀ (k u : Nat), u < 10 ^ (k + 1) → (Lib.decDigits u).length ≤ k + 1
  | 0, u, h => by
    rw [Lib.decDigits, dif_pos (by simpa using h)]
    simp
  | k + 1, u, h => by
    rw [Lib.decDigits]
    split
    · simp
    · rw [List.length_append, List.length_singleton]
      have := dec_len k (u / 10) (by rw [Nat.pow_succ] at h; omega)
      omega
theorem dec_head : ∀ u : Nat, 0 < u → (Lib.decDigits u).getD 0 0 ≠ 48 := by
  intro u
  induction u using Nat.strongRecOn with
  | _ u ih =>
    intro h0
    by_cases h : u < 10
    · rw [Lib.decDigits, dif_pos h]
      have : u = 1 ∨ u = 2 ∨ u = 3 ∨ u = 4 ∨ u = 5 ∨ u = 6 ∨ u = 7 ∨ u = 8 ∨ u = 9 := by omega
      rcases this with rfl | rfl | rfl | rfl | rfl | rfl | rfl | rfl | rfl <;> decide
    · rw [Lib.decDigits, dif_neg h]
      have := ih (u / 10) (by omega) (by omega)
      have hne := dec_ne (u / 10)
      cases hq : Lib.decDigits (u / 10) with
      | nil => exact absurd hq hne
      | cons b r =>
        rw [hq] at this
        exact this
/-- The digits of a number without a leading zero are its numeral. -/
theorem dec_back : ∀ (n : Nat) (l : List UInt8), l.length = n → l ≠ [] → (∀ b ∈ l, isDig (b.toNat : Int) = true) → ¬ (l.getD 0 0 = 48 ∧ 1 < l.length) → Lib.decDigits (valL l) = l
  | 0, l, hn, h0, _, _ => absurd (List.eq_nil_of_length_eq_zero hn) h0
  | 1, l, hn, h0, hd, _ => by
    match l, hn with
    | [b], _ =>
      have hb := hd b (List.mem_cons_self ..)
      unfold isDig at hb
      have hb' := of_decide_eq_true hb
      have hv : valL [b] = b.toNat - 48 := by simp [valL]
      rw [hv, Lib.decDigits, dif_pos (by omega), show 48 + (b.toNat - 48) = b.toNat by omega, UInt8.ofNat_toNat]
  | n + 2, l, hn, h0, hd, hz => by
    obtain ⟨l', b, rfl⟩ : ∃ l' b, l = l' ++ [b] := ⟨l.dropLast, l.getLast h0, (List.dropLast_concat_getLast h0).symm⟩
    rw [List.length_append, List.length_singleton] at hn
    have hne : l' ≠ [] := by intro e; subst e; simp at hn
    have hd' : ∀ x ∈ l', isDig (x.toNat : Int) = true := fun x hx => hd x (List.mem_append_left _ hx)
    have hhd : (l' ++ [b]).getD 0 0 = l'.getD 0 0 := by
      cases l' with
      | nil => exact absurd rfl hne
      | cons c r => rfl
    rw [hhd, List.length_append, List.length_singleton] at hz
    have ih := dec_back (n + 1) l' (by omega) hne hd' (fun h => hz ⟨h.1, by omega⟩)
    have hb := hd b (by simp)
    unfold isDig at hb
    have hb' := of_decide_eq_true hb
    have hpos : 0 < valL l' := by
      rcases Nat.eq_zero_or_pos (valL l') with h | h
      · exfalso
        rw [h, Lib.decDigits, dif_pos (by decide)] at ih
        rw [← ih] at hz
        exact hz ⟨rfl, by simp⟩
      · exact h
    rw [valL_app, Lib.decDigits, dif_neg (by omega), show (valL l' * 10 + (b.toNat - 48)) / 10 = valL l' by omega, ih, show 48 + (valL l' * 10 + (b.toNat - 48)) % 10 = b.toNat by omega, UInt8.ofNat_toNat]
theorem dec_iff (l : List UInt8) (h0 : l ≠ []) (hd : ∀ b ∈ l, isDig (b.toNat : Int) = true) : Lib.itoa (valL l : Int) = l ↔ ¬ (l.getD 0 0 = 48 ∧ 1 < l.length) := by
  have e : Lib.itoa (valL l : Int) = Lib.decDigits (valL l) := by unfold Lib.itoa; rw [if_neg (by omega), Int.toNat_natCast]
  rw [e]
  constructor
  · rintro h ⟨h1, h2⟩
    rcases Nat.eq_zero_or_pos (valL l) with hz | hz
    · rw [hz, Lib.decDigits, dif_pos (by decide)] at h
      rw [← h] at h2
      simp at h2
    · refine dec_head _ hz ?_
      rw [h]; exact h1
  · exact dec_back l.length l rfl h0 hd
theorem size_mk (l : List UInt8) : (⟨l.toArray⟩ : ByteArray).size = l.length := by simp [ByteArray.size]
theorem ba_ext {a b : ByteArray} (h : a.data.toList = b.data.toList) : a = b := by
  cases a; cases b; simp only [ByteArray.mk.injEq]; exact Array.ext' h
theorem valL_bound : ∀ (n : Nat) (l : List UInt8), l.length ≤ n → (∀ b ∈ l, isDig (b.toNat : Int) = true) → valL l < 10 ^ n := by
  intro n l h hd
  have key : ∀ (l : List UInt8) (a m : Nat), (∀ b ∈ l, isDig (b.toNat : Int) = true) → a < 10 ^ m → l.foldl (fun a b => a * 10 + (b.toNat - 48)) a < 10 ^ (m + l.length) := by
    intro l
    induction l with
    | nil => intro a m _ h; simpa using h
    | cons b l ih =>
      intro a m hd h
      rw [List.foldl_cons, List.length_cons, show m + (l.length + 1) = (m + 1) + l.length by omega]
      refine ih _ _ (fun x hx => hd x (List.mem_cons_of_mem _ hx)) ?_
      have hb := hd b (List.mem_cons_self ..)
      unfold isDig at hb
      have := of_decide_eq_true hb
      rw [Nat.pow_succ]
      omega
  have := key l 0 0 hd (by simp)
  rw [Nat.zero_add] at this
  exact Nat.lt_of_lt_of_le this (Nat.pow_le_pow_right (by decide) h)
theorem extract_list (s : ByteArray) (i j : Nat) : (s.extract i j).data.toList = (s.data.toList.drop i).take (j - i) := by
  simp [ByteArray.data_extract, Array.toList_extract, List.extract, List.drop_take]
theorem bt_list (s : ByteArray) (i : Nat) : bt s (i : Int) = ((s.data.toList.getD i 0).toNat : Int) := by
  unfold bt
  rw [Int.toNat_natCast]
  by_cases h : i < s.size
  · rw [dif_pos h, Lib.getD_at s i h]
  · rw [dif_neg h, List.getD_eq_getElem?_getD, List.getElem?_eq_none (by rw [sizeL]; omega)]
    rfl
end Go.Proofs.YtcnclgneldonfaaDoor.P
