/- The lexer's laws over lists: joined texts, tokens alone, offsets, Show, numbers. -/
import Derived.Test.YtphlbjpefnjjnaaDoorLt
namespace Go.Proofs.YtphlbjpefnjjnaaDoor.P
open Go
set_option linter.unusedVariables false
set_option linter.unusedSimpArgs false
theorem headL_app {a : List UInt8} (h : a ≠ []) (r : List UInt8) : headL (a ++ r) = headL a := by
  cases a with
  | nil => exact absurd rfl h
  | cons b t => rfl
theorem runL_app (p : Int → Bool) (b : UInt8) (r : List UInt8) (hb : p (b.toNat : Int) = false) : ∀ a : List UInt8, runL p (a ++ b :: r) = runL p a
  | [] => by simp [runL, hb]
  | c :: a => by
    rw [List.cons_append]
    unfold runL
    rw [runL_app p b r hb a]
theorem isBl_cases {b : UInt8} (h : isBl b = true) : b = 32 ∨ b = 9 ∨ b = 10 := by
  unfold isBl at h
  simpa using h
theorem win_bl {b : UInt8} (h : isBl b = true) : isWin (b.toNat : Int) = false := by
  rcases isBl_cases h with rfl | rfl | rfl <;> rfl
theorem dig_bl {b : UInt8} (h : isBl b = true) : isDig (b.toNat : Int) = false := by
  rcases isBl_cases h with rfl | rfl | rfl <;> rfl
theorem let_bl {b : UInt8} (h : isBl b = true) : isLet (b.toNat : Int) = false := by
  rcases isBl_cases h with rfl | rfl | rfl <;> rfl
theorem pre_app (b : UInt8) (r : List UInt8) (hb : isBl b = true) : ∀ (p a : List UInt8), (∀ x ∈ p, isBl x = false) → p.isPrefixOf (a ++ b :: r) = p.isPrefixOf a
  | [], a, _ => by simp
  | x :: p, [], h => by
    have hx := h x (List.mem_cons_self ..)
    have : (x == b) = false := by
      rw [beq_eq_false_iff_ne]
      rintro rfl
      rw [hb] at hx
      cases hx
    simp [List.isPrefixOf, this]
  | x :: p, y :: a, h => by
    rw [List.cons_append]
    simp only [List.isPrefixOf]
    rw [pre_app b r hb p a (fun z hz => h z (List.mem_cons_of_mem _ hz))]
theorem sgs_nb : ∀ p ∈ sgs, ∀ x ∈ p, isBl x = false := by decide
theorem find_congr {α : Type} {p q : α → Bool} : ∀ {l : List α}, (∀ a ∈ l, p a = q a) → l.find? p = l.find? q
  | [], _ => rfl
  | a :: l, h => by
    simp only [List.find?_cons]
    rw [h a (List.mem_cons_self ..), find_congr (fun x hx => h x (List.mem_cons_of_mem _ hx))]
theorem nOk_app {a : List UInt8} {b : UInt8} (r : List UInt8) (hb : isBl b = true) : nOk (a ++ b :: r) = nOk a := by
  have h1 := runL_app isDig b r (dig_bl hb) a
  have h2 := runL_le isDig a
  unfold nOk
  rw [h1, List.take_append_of_le_length h2]
  congr 2
  rw [List.length_append, List.length_cons, decide_eq_true (show runL isDig a < a.length + (r.length + 1) by omega), Bool.true_and]
  by_cases h3 : runL isDig a < a.length
  · rw [decide_eq_true h3, Bool.true_and]
    simp only [List.getD_eq_getElem?_getD]
    rw [List.getElem?_append_left h3]
  · have h4 : runL isDig a = a.length := by omega
    rw [decide_eq_false h3, Bool.false_and, h4]
    simp only [List.getD_eq_getElem?_getD]
    rw [List.getElem?_append_right (Nat.le_refl _), Nat.sub_self]
    exact win_bl hb
/-- What is read at the head of a text goes by what lies ahead of the first white space. -/
theorem firstT_app {a : List UInt8} (ha : a ≠ []) {b : UInt8} (r : List UInt8) (hb : isBl b = true) : firstT (a ++ b :: r) = firstT a := by
  have hd := runL_app isDig b r (dig_bl hb) a
  unfold firstT
  rw [headL_app ha, runL_app isWin b r (win_bl hb) a, nOk_app r hb, hd, List.take_append_of_le_length (runL_le _ _),
    find_congr (q := fun p : List UInt8 => p.isPrefixOf a) (fun p hp => pre_app b r hb p a (sgs_nb p hp))]
theorem lexG_cat (b : UInt8) (c : List UInt8) (hb : isBl b = true) : ∀ (a : List UInt8) (sk n : Nat), sk ≤ a.length →
    lexG (a ++ b :: c) sk n = (lexG a sk n).bind fun l1 => (lexG c 0 (n + a.length + 1)).map fun l2 => l1 ++ l2
  | [], sk, n, h => by
    obtain rfl : sk = 0 := by simpa using h
    simp [lexG, hb]
  | x :: a, sk + 1, n, h => by
    rw [List.cons_append, lexG, lexG, lexG_cat b c hb a sk (n + 1) (by simpa using h), List.length_cons]
    congr 1
    funext l1
    rw [show n + 1 + a.length + 1 = n + (a.length + 1) + 1 by omega]
  | x :: a, 0, n, h => by
    rw [List.cons_append, lexG, lexG]
    by_cases hx : isBl x = true
    · rw [if_pos hx, if_pos hx, lexG_cat b c hb a 0 (n + 1) (Nat.zero_le _), List.length_cons]
      congr 1
      funext l1
      rw [show n + 1 + a.length + 1 = n + (a.length + 1) + 1 by omega]
    · rw [if_neg hx, if_neg hx, ← List.cons_append, firstT_app (by simp) c hb]
      cases hf : firstT (x :: a) with
      | none => rfl
      | some q =>
        obtain ⟨k, m, v⟩ := q
        have hsz := firstT_size (by simp) hf
        rw [List.length_cons] at hsz
        simp only []
        rw [List.cons_append, lexG_cat b c hb a (m - 1) (n + 1) (by omega), ← List.cons_append, List.take_append_of_le_length (by rw [List.length_cons]; omega), List.length_cons,
          show n + 1 + a.length + 1 = n + (a.length + 1) + 1 by omega]
        cases lexG a (m - 1) (n + 1) with
        | none => rfl
        | some l1 =>
          simp only [Option.bind_some, Option.map_some]
          cases lexG c 0 (n + (a.length + 1) + 1) <;> rfl
def shiftT (d : Nat) (t : S30) : S30 := ⟨t.f0, t.f1, t.f2, t.f3 + d⟩
theorem lexG_shift (d : Nat) : ∀ (l : List UInt8) (sk n : Nat), lexG l sk (n + d) = (lexG l sk n).map (List.map (shiftT d))
  | [], sk, n => rfl
  | x :: l, sk + 1, n => by
    rw [lexG, lexG, show n + d + 1 = n + 1 + d by omega, lexG_shift d l sk (n + 1)]
  | x :: l, 0, n => by
    rw [lexG, lexG]
    by_cases hx : isBl x = true
    · rw [if_pos hx, if_pos hx, show n + d + 1 = n + 1 + d by omega, lexG_shift d l 0 (n + 1)]
    · rw [if_neg hx, if_neg hx]
      cases hf : firstT (x :: l) with
      | none => rfl
      | some q =>
        obtain ⟨k, m, v⟩ := q
        simp only []
        rw [show n + d + 1 = n + 1 + d by omega, lexG_shift d l (m - 1) (n + 1)]
        cases lexG l (m - 1) (n + 1) with
        | none => rfl
        | some l1 =>
          simp [tk, shiftT]
/- a token alone -/
theorem runL_take (p : Int → Bool) : ∀ l : List UInt8, runL p (l.take (runL p l)) = runL p l
  | [] => rfl
  | b :: l => by
    by_cases hb : p (b.toNat : Int) = true
    · rw [show runL p (b :: l) = runL p l + 1 from if_pos hb, List.take_succ_cons]
      rw [show runL p (b :: l.take (runL p l)) = runL p (l.take (runL p l)) + 1 from if_pos hb, runL_take p l]
    · rw [show runL p (b :: l) = 0 from if_neg hb]
      rfl
theorem headL_take {l : List UInt8} {m : Nat} (hm : 1 ≤ m) : headL (l.take m) = headL l := by
  cases l with
  | nil => simp
  | cons b t =>
    obtain ⟨m', rfl⟩ : ∃ m', m = m' + 1 := ⟨m - 1, by omega⟩
    rfl
theorem sgs_first : ∀ p ∈ sgs, isLet (headL p) = false ∧ isDig (headL p) = false := by decide
theorem find_take {l p : List UInt8} {d : Nat} (h : sgs.find? (fun q : List UInt8 => q.isPrefixOf l) = some p) (hd : p.length ≤ d) : sgs.find? (fun q : List UInt8 => q.isPrefixOf (l.take d)) = some p := by
  have hp : p <+: l := List.isPrefixOf_iff_prefix.1 (List.find?_some (p := fun q : List UInt8 => q.isPrefixOf l) h)
  rw [List.find?_eq_some_iff_append] at h ⊢
  obtain ⟨h1, u1, u2, h2, h3⟩ := h
  refine ⟨?_, u1, u2, h2, fun a ha => ?_⟩
  · rw [List.isPrefixOf_iff_prefix]
    exact List.prefix_take_iff.2 ⟨hp, hd⟩
  · have := h3 a ha
    simp only [Bool.not_eq_true', ← Bool.not_eq_true, List.isPrefixOf_iff_prefix] at this ⊢
    exact fun hq => this (hq.trans (List.take_prefix ..))
theorem firstT_alone {l : List UInt8} (hl : l ≠ []) {k : Int} {m : Nat} {n : Int} (h : firstT l = some (k, m, n)) : firstT (l.take m) = some (k, m, n) := by
  have hm := firstT_size hl h
  unfold firstT at h ⊢
  rw [headL_take hm.1]
  by_cases h1 : isLet (headL l) = true
  · rw [if_pos h1] at h ⊢
    by_cases h2 : runL isWin l ≤ 12
    · rw [if_pos h2] at h
      simp only [Option.some.injEq, Prod.mk.injEq] at h
      obtain ⟨rfl, rfl, rfl⟩ := h
      rw [runL_take, if_pos h2]
    · rw [if_neg h2] at h; cases h
  · rw [if_neg h1] at h ⊢
    by_cases h2 : isDig (headL l) = true
    · rw [if_pos h2] at h ⊢
      by_cases h3 : nOk l = true
      · rw [if_pos h3] at h
        simp only [Option.some.injEq, Prod.mk.injEq] at h
        obtain ⟨rfl, rfl, rfl⟩ := h
        rw [runL_take, List.take_take, Nat.min_self, if_pos]
        unfold nOk at h3 ⊢
        rw [runL_take, List.take_take, Nat.min_self]
        simp only [Bool.and_eq_true] at h3 ⊢
        refine ⟨h3.1, ?_⟩
        rw [decide_eq_false (by rw [List.length_take]; omega)]
        rfl
      · rw [if_neg h3] at h; cases h
    · rw [if_neg h2] at h ⊢
      cases hf : sgs.find? (fun p : List UInt8 => p.isPrefixOf l) with
      | none => rw [hf] at h; cases h
      | some p =>
        rw [hf] at h
        simp only [Option.map_some, Option.some.injEq, Prod.mk.injEq] at h
        obtain ⟨rfl, rfl, rfl⟩ := h
        rw [find_take hf (Nat.le_refl _)]
        rfl
theorem firstT_bl {b : UInt8} {t : List UInt8} (h : isBl b = true) : firstT (b :: t) = none := by
  unfold firstT
  have h0 : headL (b :: t) = (b.toNat : Int) := rfl
  rw [h0, let_bl h, dig_bl h]
  simp only [Bool.false_eq_true, if_false, Option.map_eq_none_iff, List.find?_eq_none]
  intro p hp hq
  have h1 := sgs_nb p hp
  have h2 := sgs_len p hp
  cases p with
  | nil => simp at h2
  | cons x p =>
    simp only [List.isPrefixOf, Bool.and_eq_true, beq_iff_eq] at hq
    have := h1 x (List.mem_cons_self ..)
    rw [hq.1, h] at this
    cases this
theorem lexG_single {w : List UInt8} (hw : w ≠ []) {k n : Int} (h : firstT w = some (k, w.length, n)) (a : Nat) : lexG w 0 a = some [tk k w n a] := by
  cases w with
  | nil => exact absurd rfl hw
  | cons b t =>
    have hb : ¬ isBl b = true := fun hb => by rw [firstT_bl hb] at h; cases h
    rw [lexG, if_neg hb, h]
    simp only []
    rw [lexG_skip t _ _ (by simp), List.length_cons, Nat.add_sub_cancel, List.drop_length, lexG, ← List.length_cons, List.take_length]
    rfl
/-- Where a token of a text stands. -/
def Tok (l : List UInt8) (a : Nat) (t : S30) : Prop := ∃ (q : Nat) (k : Int) (m : Nat) (n : Int), q < l.length ∧ firstT (l.drop q) = some (k, m, n) ∧ t = tk k ((l.drop q).take m) n (a + q)
theorem Tok.tail {b : UInt8} {l : List UInt8} {a : Nat} {t : S30} (h : Tok l (a + 1) t) : Tok (b :: l) a t := by
  obtain ⟨q, k, m, n, h1, h2, h3⟩ := h
  exact ⟨q + 1, k, m, n, by simpa using h1, h2, by rw [h3, List.drop_succ_cons, show a + 1 + q = a + (q + 1) by omega]⟩
theorem lexG_tok : ∀ (l : List UInt8) (sk a : Nat) (ts : List S30), lexG l sk a = some ts → ∀ t ∈ ts, Tok l a t
  | [], sk, a, ts, h => by
    rw [lexG] at h
    cases h
    intro t ht
    cases ht
  | b :: l, sk + 1, a, ts, h => by
    rw [lexG] at h
    exact fun t ht => (lexG_tok l sk (a + 1) ts h t ht).tail
  | b :: l, 0, a, ts, h => by
    rw [lexG] at h
    by_cases hb : isBl b = true
    · rw [if_pos hb] at h
      exact fun t ht => (lexG_tok l 0 (a + 1) ts h t ht).tail
    · rw [if_neg hb] at h
      cases hf : firstT (b :: l) with
      | none => rw [hf] at h; cases h
      | some q =>
        obtain ⟨k, m, n⟩ := q
        rw [hf] at h
        simp only [Option.map_eq_some_iff] at h
        obtain ⟨r, hr, rfl⟩ := h
        intro t ht
        rcases List.mem_cons.1 ht with rfl | ht
        · exact ⟨0, k, m, n, by simp, hf, by simp⟩
        · exact (lexG_tok l _ (a + 1) r hr t ht).tail
/-- A token that may stand by itself. -/
def Good (t : S30) : Prop := ∃ (k n : Int) (w : List UInt8) (a : Nat), w ≠ [] ∧ firstT w = some (k, w.length, n) ∧ t = tk k w n a
theorem Tok.good {l : List UInt8} {a : Nat} {t : S30} (h : Tok l a t) : Good t := by
  obtain ⟨q, k, m, n, h1, h2, h3⟩ := h
  have hne : l.drop q ≠ [] := by
    intro e
    have := congrArg List.length e
    rw [List.length_drop] at this
    simp at this
    omega
  have hsz := firstT_size hne h2
  have hlen : ((l.drop q).take m).length = m := by rw [List.length_take]; omega
  refine ⟨k, n, (l.drop q).take m, a + q, ?_, by rw [hlen]; exact firstT_alone hne h2, h3⟩
  intro e
  rw [e] at hlen
  simp at hlen
  omega
def strip (t : S30) : Int × ByteArray × Int := (t.f0, t.f1, t.f2)
theorem strip_shift (d : Nat) (l : List S30) : (l.map (shiftT d)).map strip = l.map strip := by
  rw [List.map_map]; rfl
theorem showL_cons (t u : S30) (r : List S30) : showL (t :: u :: r) = t.f1.data.toList ++ 32 :: showL (u :: r) := by
  unfold showL Lib.join
  simp [List.intercalate, List.intersperse]
theorem showL_one (t : S30) : showL [t] = t.f1.data.toList := by
  unfold showL Lib.join
  simp [List.intercalate, List.intersperse]
theorem lexG_show : ∀ (ts : List S30), (∀ t ∈ ts, Good t) → ∃ us, lexG (showL ts) 0 0 = some us ∧ us.map strip = ts.map strip
  | [], _ => ⟨[], rfl, rfl⟩
  | [t], h => by
    obtain ⟨k, n, w, a, hw, hf, rfl⟩ := h t (List.mem_cons_self ..)
    rw [showL_one]
    exact ⟨_, lexG_single hw hf 0, rfl⟩
  | t :: u :: r, h => by
    obtain ⟨us, h1, h2⟩ := lexG_show (u :: r) (fun x hx => h x (List.mem_cons_of_mem _ hx))
    obtain ⟨k, n, w, a, hw, hf, rfl⟩ := h t (List.mem_cons_self ..)
    rw [showL_cons]
    refine ⟨[tk k w n 0] ++ us.map (shiftT (0 + w.length + 1)), ?_, ?_⟩
    · rw [show (tk k w n a).f1.data.toList = w from rfl, lexG_cat 32 _ rfl w 0 0 (Nat.zero_le _), lexG_single hw hf 0]
      simp only [Option.bind_some]
      rw [show 0 + w.length + 1 = 0 + (w.length + 1) by omega, lexG_shift, h1, Nat.zero_add]
      rfl
    · rw [List.map_append, strip_shift, h2]
      rfl
theorem showL_strip {ts us : List S30} (h : us.map strip = ts.map strip) : showL us = showL ts := by
  unfold showL
  have : us.map (fun t => t.f1) = ts.map (fun t => t.f1) := by
    have := congrArg (List.map (fun x : Int × ByteArray × Int => x.2.1)) h
    simpa [List.map_map, Function.comp_def, strip] using this
  have := congrArg (List.map (fun x : ByteArray => x.data.toList)) this
  rw [List.map_map, List.map_map] at this
  exact congrArg (fun x => Lib.join x [32]) this
theorem lexG_len : ∀ (l : List UInt8) (sk a : Nat) (ts : List S30), sk ≤ l.length → lexG l sk a = some ts → (showL ts).length + 2 * sk ≤ 2 * l.length ∧ ts.length + sk ≤ l.length
  | [], sk, a, ts, hk, h => by
    rw [lexG] at h
    cases h
    have : sk = 0 := by simpa using hk
    subst this
    simp [showL, Lib.join, List.intercalate]
  | b :: l, sk + 1, a, ts, hk, h => by
    rw [lexG] at h
    rw [List.length_cons] at hk ⊢
    have := lexG_len l sk (a + 1) ts (by omega) h
    omega
  | b :: l, 0, a, ts, hk, h => by
    rw [lexG] at h
    rw [List.length_cons]
    by_cases hb : isBl b = true
    · rw [if_pos hb] at h
      have := lexG_len l 0 (a + 1) ts (Nat.zero_le _) h
      omega
    · rw [if_neg hb] at h
      cases hf : firstT (b :: l) with
      | none => rw [hf] at h; cases h
      | some q =>
        obtain ⟨k, m, n⟩ := q
        have hsz := firstT_size (by simp) hf
        rw [List.length_cons] at hsz
        rw [hf] at h
        simp only [Option.map_eq_some_iff] at h
        obtain ⟨r, hr, rfl⟩ := h
        have ih := lexG_len l _ (a + 1) r (by omega) hr
        have hw : ((b :: l).take m).length = m := by rw [List.length_take, List.length_cons]; omega
        have hs : (showL (tk k ((b :: l).take m) n a :: r)).length ≤ m + 1 + (showL r).length := by
          cases r with
          | nil => rw [showL_one]; show ((b :: l).take m).length ≤ _; omega
          | cons u r =>
            rw [showL_cons, List.length_append, List.length_cons]
            show ((b :: l).take m).length + _ ≤ _
            omega
        rw [List.length_cons]
        omega
/- offsets -/
def OffS (l : List UInt8) : Nat → List S30 → Prop
  | a, [] => a ≤ l.length ∧ ∀ k, a ≤ k → k < l.length → isBl (l.getD k 0) = true
  | a, t :: ts => ∃ u : Nat, t.f3 = u ∧ a ≤ u ∧ u + t.f1.size ≤ l.length ∧ t.f1.size ≠ 0 ∧ (∀ k, a ≤ k → k < u → isBl (l.getD k 0) = true) ∧ (l.drop u).take t.f1.size = t.f1.data.toList ∧ OffS l (u + t.f1.size) ts
theorem lexG_offs (L : List UInt8) : ∀ (l : List UInt8) (sk a a0 : Nat) (ts : List S30), l = L.drop a → a ≤ L.length → sk ≤ l.length → lexG l sk a = some ts → a0 ≤ a + sk → (∀ k, a0 ≤ k → k < a + sk → isBl (L.getD k 0) = true) → OffS L a0 ts
  | [], sk, a, a0, ts, hl, ha, hk, h, h0, hbl => by
    rw [lexG] at h
    cases h
    have : sk = 0 := by simpa using hk
    subst this
    have hlen := congrArg List.length hl
    rw [List.length_drop, List.length_nil] at hlen
    exact ⟨by omega, fun k h1 h2 => hbl k h1 (by omega)⟩
  | b :: l, sk + 1, a, a0, ts, hl, ha, hk, h, h0, hbl => by
    rw [lexG] at h
    rw [List.length_cons] at hk
    have hlen := congrArg List.length hl
    rw [List.length_drop, List.length_cons] at hlen
    refine lexG_offs L l sk (a + 1) a0 ts ?_ (by omega) (by omega) h (by omega) (fun k h1 h2 => hbl k h1 (by omega))
    rw [← List.drop_drop, ← hl]; rfl
  | b :: l, 0, a, a0, ts, hl, ha, hk, h, h0, hbl => by
    have hlen := congrArg List.length hl
    rw [List.length_drop, List.length_cons] at hlen
    have hl1 : l = L.drop (a + 1) := by rw [← List.drop_drop, ← hl]; rfl
    have hat : L.getD a 0 = b := by
      have := congrArg (fun x => x.getD 0 0) hl
      simp only [List.getD_eq_getElem?_getD, List.getElem?_drop, Nat.add_zero] at this ⊢
      rw [← this]; rfl
    rw [lexG] at h
    by_cases hb : isBl b = true
    · rw [if_pos hb] at h
      refine lexG_offs L l 0 (a + 1) a0 ts hl1 (by omega) (Nat.zero_le _) h (by omega) (fun k h1 h2 => ?_)
      by_cases hka : k = a
      · rw [hka, hat]; exact hb
      · exact hbl k h1 (by omega)
    · rw [if_neg hb] at h
      cases hf : firstT (b :: l) with
      | none => rw [hf] at h; cases h
      | some q =>
        obtain ⟨k, m, n⟩ := q
        have hsz := firstT_size (by simp) hf
        rw [List.length_cons] at hsz
        rw [hf] at h
        simp only [Option.map_eq_some_iff] at h
        obtain ⟨r, hr, rfl⟩ := h
        have hw : ((b :: l).take m).length = m := by rw [List.length_take, List.length_cons]; omega
        have hsize : (tk k ((b :: l).take m) n a).f1.size = m := by
          show (⟨((b :: l).take m).toArray⟩ : ByteArray).size = m
          rw [size_mk, hw]
        refine ⟨a, rfl, by omega, by omega, by omega, fun k h1 h2 => hbl k h1 (by omega), ?_, ?_⟩
        · rw [hsize, ← hl]; rfl
        · rw [hsize]
          exact lexG_offs L l (m - 1) (a + 1) (a + m) r hl1 (by omega) (by omega) hr (by omega) (fun k h1 h2 => absurd h1 (by omega))
/- the values of numbers -/
theorem valL_app (l : List UInt8) (b : UInt8) : valL (l ++ [b]) = valL l * 10 + (b.toNat - 48) := by
  unfold valL
  rw [List.foldl_append]
  rfl
theorem dec_val : ∀ u : Nat, valL (Lib.decDigits u) = u := by
  intro u
  induction u using Nat.strongRecOn with
  | _ u ih =>
    by_cases h : u < 10
    · rw [Lib.decDigits, dif_pos h]
      have : u = 0 ∨ u = 1 ∨ u = 2 ∨ u = 3 ∨ u = 4 ∨ u = 5 ∨ u = 6 ∨ u = 7 ∨ u = 8 ∨ u = 9 := by omega
      rcases this with rfl | rfl | rfl | rfl | rfl | rfl | rfl | rfl | rfl | rfl <;> rfl
    · rw [Lib.decDigits, dif_neg h, valL_app, ih (u / 10) (by omega)]
      have h2 : (UInt8.ofNat (48 + u % 10)).toNat = 48 + u % 10 := by
        rw [UInt8.toNat_ofNat_of_lt']
        show 48 + u % 10 < 256
        omega
      rw [h2]
      omega
theorem dec_digs : ∀ u : Nat, ∀ b ∈ Lib.decDigits u, isDig (b.toNat : Int) = true := by
  intro u
  have hd : ∀ v, v < 10 → isDig ((UInt8.ofNat (48 + v)).toNat : Int) = true := fun v hv => by
    have : v = 0 ∨ v = 1 ∨ v = 2 ∨ v = 3 ∨ v = 4 ∨ v = 5 ∨ v = 6 ∨ v = 7 ∨ v = 8 ∨ v = 9 := by omega
    rcases this with rfl | rfl | rfl | rfl | rfl | rfl | rfl | rfl | rfl | rfl <;> rfl
  induction u using Nat.strongRecOn with
  | _ u ih =>
    intro b hb
    by_cases h : u < 10
    · rw [Lib.decDigits, dif_pos h] at hb
      rw [List.mem_singleton.1 hb]
      exact hd u h
    · rw [Lib.decDigits, dif_neg h] at hb
      rcases List.mem_append.1 hb with hb | hb
      · exact ih (u / 10) (by omega) b hb
      · rw [List.mem_singleton.1 hb]
        exact hd (u % 10) (by omega)
theorem dec_ne (u : Nat) : Lib.decDigits u ≠ [] := by
  rw [Lib.decDigits]
  split <;> simp
theorem dec_len : ∀ (k u : Nat), u < 10 ^ (k + 1) → (Lib.decDigits u).length ≤ k + 1
  | 0, u, h => by
    rw [Lib.decDigits, dif_pos (by simpa using h)]
    simp
  | k + 1, u, h => by
    rw [Lib.decDigits]
    split
    · simp
    · rw [List.length_append, List.length_singleton]
      have := dec_len k (u / 10) (by rw [Nat.pow_succ] at h; omega)
      omega
theorem runL_all (p : Int → Bool) : ∀ l : List UInt8, (∀ b ∈ l, p (b.toNat : Int) = true) → runL p l = l.length
  | [], _ => rfl
  | b :: l, h => by
    rw [show runL p (b :: l) = runL p l + 1 from if_pos (h b (List.mem_cons_self ..)), runL_all p l (fun x hx => h x (List.mem_cons_of_mem _ hx)), List.length_cons]
theorem head_dig {l : List UInt8} (hl : l ≠ []) (h : ∀ b ∈ l, isDig (b.toNat : Int) = true) : isDig (headL l) = true ∧ isLet (headL l) = false := by
  cases l with
  | nil => exact absurd rfl hl
  | cons b t =>
    have h1 := h b (List.mem_cons_self ..)
    have h2 : headL (b :: t) = (b.toNat : Int) := rfl
    rw [h2]
    refine ⟨h1, ?_⟩
    unfold isDig at h1
    unfold isLet
    have := of_decide_eq_true h1
    exact decide_eq_false (by omega)
theorem firstT_dec (x : Nat) (hx : x ≤ 1099511627776) : firstT (Lib.decDigits x) = some (2, (Lib.decDigits x).length, (x : Int)) := by
  have hd := dec_digs x
  obtain ⟨h1, h2⟩ := head_dig (dec_ne x) hd
  have hr := runL_all isDig _ hd
  have hlen := dec_len 12 x (by omega)
  unfold firstT
  rw [if_neg (by rw [h2]; simp), if_pos h1, if_pos, hr, List.take_length, dec_val]
  unfold nOk
  rw [hr, List.take_length, dec_val, decide_eq_true (show (Lib.decDigits x).length ≤ 13 by omega), decide_eq_true (show (x : Int) ≤ 1099511627776 by omega),
    decide_eq_true (show Lib.itoa (x : Int) = Lib.decDigits x by unfold Lib.itoa; rw [if_neg (by omega), Int.toNat_natCast]), decide_eq_false (show ¬ (Lib.decDigits x).length < (Lib.decDigits x).length by omega)]
  rfl
theorem valL_zero (l : List UInt8) : valL (48 :: l) = valL l := by
  unfold valL
  rw [List.foldl_cons]
  rfl
theorem firstT_zero (x : Nat) : firstT (48 :: Lib.decDigits x) = none := by
  have hd : ∀ b ∈ 48 :: Lib.decDigits x, isDig (b.toNat : Int) = true := fun b hb => by
    rcases List.mem_cons.1 hb with rfl | hb
    · rfl
    · exact dec_digs x b hb
  obtain ⟨h1, h2⟩ := head_dig (by simp) hd
  have hr := runL_all isDig _ hd
  unfold firstT
  rw [if_neg (by rw [h2]; simp), if_pos h1, if_neg]
  unfold nOk
  rw [hr, List.take_length, valL_zero, dec_val]
  have : Lib.itoa (x : Int) ≠ 48 :: Lib.decDigits x := by
    unfold Lib.itoa
    rw [if_neg (by omega), Int.toNat_natCast]
    intro e
    have := congrArg List.length e
    simp at this
  rw [decide_eq_false this]
  simp
/- what a token is -/
theorem valL_nonneg (l : List UInt8) : (0 : Int) ≤ valL l := Int.natCast_nonneg _
theorem firstT_num {l : List UInt8} {k : Int} {m : Nat} {n : Int} (h : firstT l = some (k, m, n)) : 0 ≤ n ∧ n ≤ 1099511627776 ∧ (k ≠ 2 → n = 0) ∧ (k = 3 → m = 1 ∨ m = 2) := by
  unfold firstT at h
  by_cases h1 : isLet (headL l) = true
  · rw [if_pos h1] at h
    by_cases h2 : runL isWin l ≤ 12
    · rw [if_pos h2] at h
      simp only [Option.some.injEq, Prod.mk.injEq] at h
      obtain ⟨rfl, rfl, rfl⟩ := h
      exact ⟨by omega, by omega, fun _ => rfl, fun e => by cases e⟩
    · rw [if_neg h2] at h; cases h
  · rw [if_neg h1] at h
    by_cases h2 : isDig (headL l) = true
    · rw [if_pos h2] at h
      by_cases h3 : nOk l = true
      · rw [if_pos h3] at h
        simp only [Option.some.injEq, Prod.mk.injEq] at h
        obtain ⟨rfl, rfl, rfl⟩ := h
        unfold nOk at h3
        simp only [Bool.and_eq_true, decide_eq_true_eq] at h3
        exact ⟨valL_nonneg _, h3.1.1.2, fun e => absurd rfl e, fun e => by cases e⟩
      · rw [if_neg h3] at h; cases h
    · rw [if_neg h2] at h
      cases hf : sgs.find? (fun p : List UInt8 => p.isPrefixOf l) with
      | none => rw [hf] at h; cases h
      | some p =>
        rw [hf] at h
        simp only [Option.map_some, Option.some.injEq, Prod.mk.injEq] at h
        obtain ⟨rfl, rfl, rfl⟩ := h
        have := sgs_len p (List.mem_of_find?_eq_some hf)
        exact ⟨by omega, by omega, fun _ => rfl, fun _ => by omega⟩
theorem firstT_sgs {l : List UInt8} {m : Nat} {n : Int} (h : firstT l = some (3, m, n)) : isLet (headL l) = false ∧ isDig (headL l) = false ∧ ∃ p, sgs.find? (fun p : List UInt8 => p.isPrefixOf l) = some p ∧ m = p.length ∧ n = 0 := by
  unfold firstT at h
  by_cases h1 : isLet (headL l) = true
  · rw [if_pos h1] at h
    by_cases h2 : runL isWin l ≤ 12
    · rw [if_pos h2] at h
      simp at h
    · rw [if_neg h2] at h; cases h
  · rw [if_neg h1] at h
    by_cases h2 : isDig (headL l) = true
    · rw [if_pos h2] at h
      by_cases h3 : nOk l = true
      · rw [if_pos h3] at h
        simp at h
      · rw [if_neg h3] at h; cases h
    · rw [if_neg h2] at h
      cases hf : sgs.find? (fun p : List UInt8 => p.isPrefixOf l) with
      | none => rw [hf] at h; cases h
      | some p =>
        rw [hf] at h
        simp only [Option.map_some, Option.some.injEq, Prod.mk.injEq] at h
        obtain ⟨-, rfl, rfl⟩ := h
        exact ⟨by simpa using h1, by simpa using h2, p, rfl, rfl, rfl⟩
/-- Two operators, the first of one character, one directly behind the other. -/
theorem lexG_two {l : List UInt8} (hl : 1 < l.length) {m : Nat} {n n' : Int} (h1 : firstT l = some (3, 1, n)) (h2 : firstT (l.drop 1) = some (3, m, n')) (w : List UInt8) (hw : w = l.take 1 ++ (l.drop 1).take m) :
    ∃ a b, lexG w 0 0 = some [a, b] := by
  obtain ⟨e1, e2, p, hp, hpl, -⟩ := firstT_sgs h1
  have hsz := firstT_size (l := l.drop 1) (by intro e; have := congrArg List.length e; simp at this; omega) h2
  have hw2 : w = l.take (1 + m) := by rw [hw, List.take_add]
  have hf1 : firstT w = some (3, 1, 0) := by
    unfold firstT
    rw [hw2, headL_take (by omega), e1, e2, find_take hp (by omega)]
    simp [← hpl]
  cases l with
  | nil => simp at hl
  | cons c l =>
    rw [List.take_succ_cons, List.take_zero] at hw
    simp only [List.drop_succ_cons, List.drop_zero] at hw hsz h2
    rw [List.singleton_append] at hw
    subst hw
    have hne : l ≠ [] := by intro e; subst e; simp at hl
    have hlen : (l.take m).length = m := by rw [List.length_take]; omega
    have hne2 : l.take m ≠ [] := by intro e; rw [e] at hlen; simp at hlen; omega
    have hs := lexG_single hne2 (k := 3) (n := n') (by rw [hlen]; exact firstT_alone hne h2) 1
    have hb : ¬ isBl c = true := fun hb => by rw [firstT_bl hb] at hf1; cases hf1
    rw [lexG, if_neg hb, hf1]
    simp only []
    rw [Nat.sub_self, show 0 + 1 = 1 from rfl, hs]
    exact ⟨_, _, rfl⟩
end Go.Proofs.YtphlbjpefnjjnaaDoor.P
