/- The lexer over lists of bytes, byte by byte; that it is what lex.Words computes. -/
import Derived.Test.YtphlbjpefnjjnaaDoorHd
import Derived.Test.YtphlbjpefnjjnaaDoorHe
namespace Go.Proofs.YtphlbjpefnjjnaaDoor.P
open Go
set_option linter.unusedVariables false
set_option linter.unusedSimpArgs false
def isBl (b : UInt8) : Bool := [32, 9, 10].contains b
def bI (b : UInt8) : Int := (b.toNat : Int)
def headL (l : List UInt8) : Int := ((l.getD 0 0).toNat : Int)
def nOk (l : List UInt8) : Bool :=
  decide (runL isDig l ≤ 13) && decide ((valL (l.take (runL isDig l)) : Int) ≤ 1099511627776) && decide (Lib.itoa (valL (l.take (runL isDig l))) = l.take (runL isDig l)) && !(decide (runL isDig l < l.length) && isWin ((l.getD (runL isDig l) 0).toNat : Int))
def sgs : List (List UInt8) := [[59, 59], [124, 124], [38, 38], [61, 61], [46, 91], [58, 61], [45, 62], [40], [41], [93], [59], [44], [124], [61], [60], [43], [45], [42], [33]]
def firstT (l : List UInt8) : Option (Int × Nat × Int) :=
  if isLet (headL l) then (if runL isWin l ≤ 12 then some (1, runL isWin l, 0) else none)
  else if isDig (headL l) then (if nOk l then some (2, runL isDig l, (valL (l.take (runL isDig l)) : Int)) else none)
  else (sgs.find? (fun p => p.isPrefixOf l)).map fun p => (3, p.length, 0)
def tk (k : Int) (w : List UInt8) (n : Int) (at_ : Nat) : S30 := ⟨k, ⟨w.toArray⟩, n, (at_ : Int)⟩
def lexG : List UInt8 → Nat → Nat → Option (List S30)
  | [], _, _ => some []
  | b :: t, sk + 1, at_ => lexG t sk (at_ + 1)
  | b :: t, 0, at_ => if isBl b then lexG t 0 (at_ + 1) else match firstT (b :: t) with
    | none => none
    | some (k, m, n) => (lexG t (m - 1) (at_ + 1)).map (fun r => tk k ((b :: t).take m) n at_ :: r)
theorem lexG_skip : ∀ (l : List UInt8) (sk a : Nat), sk ≤ l.length → lexG l sk a = lexG (l.drop sk) 0 (a + sk)
  | [], sk, a, h => by
    have : sk = 0 := by simpa using h
    subst this; rfl
  | b :: t, 0, a, h => by simp
  | b :: t, sk + 1, a, h => by
    rw [lexG, lexG_skip t sk (a + 1) (by simpa using h), List.drop_succ_cons, show a + 1 + sk = a + (sk + 1) by omega]
theorem lexG_trim : ∀ (l : List UInt8) (a : Nat), lexG l 0 a = lexG (l.dropWhile isBl) 0 (a + (l.length - (l.dropWhile isBl).length))
  | [], a => by simp
  | b :: t, a => by
    cases hb : isBl b with
    | true =>
      rw [lexG, if_pos hb, lexG_trim t (a + 1)]
      rw [List.dropWhile_cons_of_pos hb, List.length_cons]
      have := (List.dropWhile_sublist isBl (l := t)).length_le
      congr 1; omega
    | false =>
      rw [List.dropWhile_cons_of_neg (by simp [hb])]
      simp
/- sizes of what firstT gives -/
theorem runL_pos {p : Int → Bool} {l : List UInt8} (h : l ≠ []) (hp : p (headL l) = true) : 1 ≤ runL p l := by
  cases l with
  | nil => exact absurd rfl h
  | cons b t =>
    unfold runL
    rw [if_pos (by simpa [headL] using hp)]
    omega
theorem isWin_let {r : Int} (h : isLet r = true) : isWin r = true := by unfold isWin; rw [h]; rfl
theorem isWin_dig {r : Int} (h : isDig r = true) : isWin r = true := by unfold isWin; rw [h]; simp
theorem sgs_len : ∀ p ∈ sgs, 1 ≤ p.length ∧ p.length ≤ 2 := by decide
theorem firstT_size {l : List UInt8} (hl : l ≠ []) {k : Int} {m : Nat} {n : Int} (h : firstT l = some (k, m, n)) : 1 ≤ m ∧ m ≤ l.length := by
  unfold firstT at h
  by_cases h1 : isLet (headL l) = true
  · rw [if_pos h1] at h
    by_cases h2 : runL isWin l ≤ 12
    · rw [if_pos h2] at h
      simp only [Option.some.injEq, Prod.mk.injEq] at h
      obtain ⟨-, rfl, -⟩ := h
      exact ⟨runL_pos hl (isWin_let h1), runL_le _ _⟩
    · rw [if_neg h2] at h; cases h
  · rw [if_neg h1] at h
    by_cases h2 : isDig (headL l) = true
    · rw [if_pos h2] at h
      by_cases h3 : nOk l = true
      · rw [if_pos h3] at h
        simp only [Option.some.injEq, Prod.mk.injEq] at h
        obtain ⟨-, rfl, -⟩ := h
        exact ⟨runL_pos hl h2, runL_le _ _⟩
      · rw [if_neg h3] at h; cases h
    · rw [if_neg h2] at h
      cases hf : sgs.find? (fun p => p.isPrefixOf l) with
      | none => rw [hf] at h; cases h
      | some p =>
        rw [hf] at h
        simp only [Option.map_some, Option.some.injEq, Prod.mk.injEq] at h
        obtain ⟨-, rfl, -⟩ := h
        exact ⟨(sgs_len p (List.mem_of_find?_eq_some hf)).1, (List.isPrefixOf_iff_prefix.1 (List.find?_some (p := fun p : List UInt8 => p.isPrefixOf l) hf)).length_le⟩
/- firstT is the program's -/
theorem headB_eq (s : ByteArray) : headB s = headL s.data.toList := rfl
theorem signs_eq : signsL.map (fun p => p.data.toList) = sgs := by rfl
theorem numOk_eq (s : ByteArray) : numOk s = nOk s.data.toList := by
  unfold numOk nOk numFollow
  rw [numW_list]
  unfold runV
  rw [sizeL]
theorem find_map {α β : Type} (f : α → β) (p : β → Bool) : ∀ l : List α, (l.map f).find? p = (l.find? (fun a => p (f a))).map f
  | [] => rfl
  | a :: l => by
    simp only [List.map_cons, List.find?_cons]
    cases p (f a) with
    | true => rfl
    | false => exact find_map f p l
theorem ba_ext {a b : ByteArray} (h : a.data.toList = b.data.toList) : a = b := by
  cases a; cases b; simp only [ByteArray.mk.injEq]; exact Array.ext' h
theorem firstT_sign (s : ByteArray) : sgs.find? (fun p => p.isPrefixOf s.data.toList) = (signsL.find? (isSign s)).map (fun p => p.data.toList) := by
  rw [← signs_eq, find_map]; rfl
theorem first_none (s : ByteArray) (h : firstT s.data.toList = none) : firstOk s = false := by
  unfold firstT at h
  unfold firstOk
  rw [headB_eq]
  by_cases h1 : isLet (headL s.data.toList) = true
  · rw [if_pos h1] at h ⊢
    by_cases h2 : runL isWin s.data.toList ≤ 12
    · rw [if_pos h2] at h; cases h
    · exact decide_eq_false h2
  · rw [if_neg h1] at h ⊢
    by_cases h2 : isDig (headL s.data.toList) = true
    · rw [if_pos h2] at h ⊢
      rw [numOk_eq]
      by_cases h3 : nOk s.data.toList = true
      · rw [if_pos h3] at h; cases h
      · simpa using h3
    · rw [if_neg h2] at h ⊢
      rw [firstT_sign] at h
      simp only [Option.map_map, Option.map_eq_none_iff] at h
      rw [List.find?_eq_none] at h
      simpa using h
theorem first_some (s : ByteArray) (k : Int) (m : Nat) (n : Int) (h : firstT s.data.toList = some (k, m, n)) : firstOk s = true ∧ firstTok s = ⟨k, ⟨(s.data.toList.take m).toArray⟩, n, 0⟩ := by
  unfold firstT at h
  unfold firstOk firstTok
  rw [headB_eq]
  by_cases h1 : isLet (headL s.data.toList) = true
  · rw [if_pos h1] at h
    rw [if_pos h1, if_pos h1]
    by_cases h2 : runL isWin s.data.toList ≤ 12
    · rw [if_pos h2] at h
      simp only [Option.some.injEq, Prod.mk.injEq] at h
      obtain ⟨rfl, rfl, rfl⟩ := h
      refine ⟨decide_eq_true h2, ?_⟩
      congr 1
      apply ba_ext
      unfold runV
      simp [ByteArray.data_extract, Array.toList_extract, List.extract]
    · rw [if_neg h2] at h; cases h
  · rw [if_neg h1] at h
    rw [if_neg h1, if_neg h1]
    by_cases h2 : isDig (headL s.data.toList) = true
    · rw [if_pos h2] at h
      rw [if_pos h2, if_pos h2, numOk_eq]
      by_cases h3 : nOk s.data.toList = true
      · rw [if_pos h3] at h
        simp only [Option.some.injEq, Prod.mk.injEq] at h
        obtain ⟨rfl, rfl, rfl⟩ := h
        refine ⟨h3, ?_⟩
        have : numW s = ⟨(s.data.toList.take (runL isDig s.data.toList)).toArray⟩ := ba_ext (by rw [numW_list])
        rw [this]
      · rw [if_neg h3] at h; cases h
    · rw [if_neg h2] at h
      rw [if_neg h2, if_neg h2]
      rw [firstT_sign] at h
      cases hf : signsL.find? (isSign s) with
      | none => rw [hf] at h; cases h
      | some p =>
        rw [hf] at h
        simp only [Option.map_some, Option.some.injEq, Prod.mk.injEq] at h
        obtain ⟨rfl, rfl, rfl⟩ := h
        refine ⟨List.any_eq_true.2 ⟨p, List.mem_of_find?_eq_some hf, List.find?_some hf⟩, ?_⟩
        have hpr : p.data.toList <+: s.data.toList := List.isPrefixOf_iff_prefix.1 (List.find?_some (p := isSign s) hf)
        have : p = ⟨(s.data.toList.take p.data.toList.length).toArray⟩ := ba_ext (by simpa using List.prefix_iff_eq_take.1 hpr)
        simp only [Option.getD_some]
        rw [← this]
theorem restS_list (s : ByteArray) (k : Int) (m : Nat) (n : Int) (hm : m ≤ s.data.toList.length) (h : firstT s.data.toList = some (k, m, n)) : (restS s).data.toList = s.data.toList.drop m := by
  unfold restS
  rw [(first_some s k m n h).2]
  simp only
  rw [size_mk, List.length_take, Nat.min_eq_left hm]
  simp only [ByteArray.data_extract, Array.toList_extract, List.extract]
  rw [← sizeL, List.take_of_length_le (by simp)]
theorem trimS_list (s : ByteArray) : (trimS s).data.toList = s.data.toList.dropWhile isBl := rfl
theorem lexS_eq (N : Nat) : ∀ (k : Nat) (s : ByteArray) (out : List S30), s.size < k → s.size ≤ N →
    lexS k N (trimS s) out = match lexG s.data.toList 0 (N - s.size) with | some l => (out ++ l, 0) | none => ([], 3)
  | 0, s, out, h, _ => absurd h (by omega)
  | k + 1, s, out, h, hN => by
    have hle := trimS_le s
    rw [lexG_trim, ← trimS_list, sizeL, sizeL]
    generalize htt : trimS s = t at *
    have hat : N - s.size + (s.size - t.size) = N - t.size := by omega
    rw [hat]
    unfold lexS
    by_cases hz : t.size = 0
    · rw [if_pos hz]
      have : t.data.toList = [] := List.eq_nil_of_length_eq_zero (by rw [sizeL]; exact hz)
      rw [this, lexG]
      simp
    · rw [if_neg hz]
      obtain ⟨b, r, hbr⟩ : ∃ b r, t.data.toList = b :: r := by
        cases hq : t.data.toList with
        | nil => exact absurd (by rw [← sizeL, hq]; rfl) hz
        | cons b r => exact ⟨b, r, rfl⟩
      have hnb : isBl b = false := by
        have h1 := congrArg (fun x : ByteArray => x.data.toList) htt
        simp only [trimS_list, hbr] at h1
        have := List.head?_dropWhile_not (p := isBl) (l := s.data.toList)
        rw [h1] at this
        simpa using this
      rw [hbr, lexG, hnb]
      simp only [Bool.false_eq_true, if_false]
      rw [← hbr]
      cases hf : firstT t.data.toList with
      | none =>
        rw [first_none t hf]
        rfl
      | some x =>
        obtain ⟨kk, m, n⟩ := x
        obtain ⟨ho, ht⟩ := first_some t kk m n hf
        have hsz := firstT_size (l := t.data.toList) (by rw [hbr]; simp) hf
        rw [ho, if_pos rfl]
        have hrest := restS_list t kk m n hsz.2 hf
        have hrs : (restS t).size = t.size - m := by rw [← sizeL, hrest, List.length_drop, sizeL]
        rw [sizeL] at hsz
        rw [lexS_eq N k (restS t) _ (by omega) (by omega)]
        have hskip : lexG r (m - 1) (N - t.size + 1) = lexG (restS t).data.toList 0 (N - (restS t).size) := by
          have hrl : r.length + 1 = t.size := by rw [← sizeL, hbr]; rfl
          rw [lexG_skip r (m - 1) _ (by omega), hrest, hbr, hrs]
          obtain ⟨m', rfl⟩ : ∃ m', m = m' + 1 := ⟨m - 1, by omega⟩
          rw [List.drop_succ_cons, Nat.add_sub_cancel, show N - t.size + 1 + m' = N - (t.size - (m' + 1)) from by omega]
        simp only []
        rw [hskip]
        have htok : tokS N t = tk kk (t.data.toList.take m) n (N - t.size) := by
          unfold tokS tk
          rw [ht]
          simp only [S30.mk.injEq, true_and]
          omega
        rw [htok]
        cases lexG (restS t).data.toList 0 (N - (restS t).size) with
        | none => rfl
        | some l => simp
/-- What lexing gives, byte by byte. -/
def lexR (l : List UInt8) : List S30 × Int := match lexG l 0 0 with | some l => (l, 0) | none => ([], 3)
theorem wordsV_eq (s : ByteArray) (h : s.size ≤ 3000) : wordsV s = lexR s.data.toList := by
  unfold wordsV lexR
  rw [if_neg (by omega), lexS_eq s.size (s.size + 1) s [] (by omega) (Nat.le_refl _), Nat.sub_self]
  cases lexG s.data.toList 0 0 <;> simp
end Go.Proofs.YtphlbjpefnjjnaaDoor.P
