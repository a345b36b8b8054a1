/- Plain facts: Same, Few, and what Plain gives. -/
import Derived.Test.YtcnclgneldonfaaDoorPx25
import Derived.Test.YtcnclgneldonfaaDoorPx28
import Derived.Test.YtcnclgneldonfaaDoorHb
namespace Go.Proofs.YtcnclgneldonfaaDoor.P
open Go Go.RowKit Go.Proofs.YtcnclgneldonfaaDoorW.PrintWords Go.Proofs.YtcnclgneldonfaaDoorW.PrintLast Go.Proofs.YtcnclgneldonfaaDoorW.PrintMore
set_option linter.unusedVariables false
set_option linter.unusedSimpArgs false
deriving instance DecidableEq for S26
theorem dec_cons {α : Type} [DecidableEq α] (a b : α) (x y : List α) : decide (a :: x = b :: y) = (decide (a = b) && decide (x = y)) := by simp
def wt (l : List S26) : Nat := (l.map (fun p => p.f3.length + 3)).sum
theorem wt_drop (l : List S26) (i : Nat) (h : i < l.length) : wt (l.drop i) = l[i].f3.length + 3 + wt (l.drop (i + 1)) := by
  rw [List.drop_eq_getElem_cons h]; rfl
theorem rdI (l : List Int) (i : Nat) (h : i < l.length) : rd l (i : Int) = l[i] := by simp [rd, List.getD_eq_getElem?_getD, h]
theorem same_l1 (l m : List S26) (i : Nat) (hi : i < l.length) (hm : i < m.length) (hl : l.length ≤ 1000000) (hlen : l[i].f3.length = m[i].f3.length) (hf : l[i].f3.length ≤ 1000000) (K : Nat) (b : Bool) (hK : ∀ k, K ≤ k → hallmootref27_Same.l0 k l m ((i + 1 : Nat) : Int) = some b) :
    ∀ d j k : Nat, j + d = l[i].f3.length → d + 1 + K ≤ k → hallmootref27_Same.l1 k l m (i : Int) (j : Int) = some (decide (l[i].f3.drop j = m[i].f3.drop j) && b)
  | 0, j, k, hj, hk => by
    obtain ⟨k, rfl⟩ : ∃ x, k = x + 1 := ⟨k - 1, by omega⟩
    simp only [hallmootref27_Same.l1]
    rw [if_pos (by omega), if_pos (by omega), rd26 l i hi, if_neg (by omega), w64 (by omega) (by omega), show (i : Int) + 1 = ((i + 1 : Nat) : Int) by omega, hK k (by omega), List.drop_of_length_le (by omega), List.drop_of_length_le (by omega)]
    simp
  | d + 1, j, k, hj, hk => by
    obtain ⟨k, rfl⟩ : ∃ x, k = x + 1 := ⟨k - 1, by omega⟩
    have h1 : j < l[i].f3.length := by omega
    have h2 : j < m[i].f3.length := by omega
    simp only [hallmootref27_Same.l1]
    rw [if_pos (by omega), if_pos (by omega), rd26 l i hi, rd26 m i hm, if_pos (by omega), if_pos (by omega), if_pos (by omega), if_pos (by omega), rdI _ j h1, rdI _ j h2, List.drop_eq_getElem_cons h1, List.drop_eq_getElem_cons h2]
    by_cases he : l[i].f3[j] = m[i].f3[j]
    · rw [if_pos he, w64 (by omega) (by omega), show (j : Int) + 1 = ((j + 1 : Nat) : Int) by omega, same_l1 l m i hi hm hl hlen hf K b hK d (j + 1) k (by omega) (by omega), dec_cons, decide_eq_true he, Bool.true_and]
    · rw [if_neg he, dec_cons, decide_eq_false he]
      rfl
theorem same_l0 (l m : List S26) (hl : l.length ≤ 1000000) (hlen : l.length = m.length) (hf : ∀ p ∈ l, p.f3.length ≤ 1000000) : ∀ d i k : Nat, i + d = l.length → wt (l.drop i) + 1 ≤ k → hallmootref27_Same.l0 k l m (i : Int) = some (decide (l.drop i = m.drop i))
  | 0, i, k, hi, hk => by
    obtain ⟨k, rfl⟩ : ∃ x, k = x + 1 := ⟨k - 1, by omega⟩
    simp only [hallmootref27_Same.l0]
    rw [if_neg (by omega), List.drop_of_length_le (by omega), List.drop_of_length_le (by omega)]
    simp
  | d + 1, i, k, hi, hk => by
    have h1 : i < l.length := by omega
    have h2 : i < m.length := by omega
    rw [wt_drop l i h1] at hk
    obtain ⟨k, rfl⟩ : ∃ x, k = x + 2 := ⟨k - 2, by omega⟩
    have ih := same_l0 l m hl hlen hf d (i + 1)
    have hfi := hf l[i] (List.getElem_mem _)
    simp only [hallmootref27_Same.l0]
    rw [if_pos (by omega), if_pos (by omega), if_pos (by omega), rd26 l i h1, rd26 m i h2, List.drop_eq_getElem_cons h1, List.drop_eq_getElem_cons h2]
    have hj : ∀ b, hallmootref27_Same.j1 (k + 1) l m (i : Int) b = if b = true then some false else hallmootref27_Same.l1 k l m (i : Int) 0 := fun b => by
      simp only [hallmootref27_Same.j1]
    simp only [hj]
    have hne : l[i] ≠ m[i] → decide (l[i] :: l.drop (i + 1) = m[i] :: m.drop (i + 1)) = false := fun h => by rw [dec_cons, decide_eq_false h]; rfl
    by_cases a0 : l[i].f0 = m[i].f0
    · rw [if_pos a0]
      by_cases a1 : l[i].f1 = m[i].f1
      · rw [if_pos a1]
        by_cases a2 : l[i].f2 = m[i].f2
        · rw [if_pos a2]
          by_cases a3 : l[i].f3.length = m[i].f3.length
          · have hb : ((l[i].f3.length : Int) != (m[i].f3.length : Int)) = false := by simp [a3]
            rw [hb, if_neg (by decide)]
            have := same_l1 l m i h1 h2 hl a3 hfi (wt (l.drop (i + 1)) + 1) _ (fun k hk => ih k (by omega) hk) l[i].f3.length 0 k (by omega) (by omega)
            rw [show ((0 : Nat) : Int) = 0 from rfl, List.drop_zero, List.drop_zero] at this
            rw [this]
            congr 1
            by_cases a4 : l[i].f3 = m[i].f3
            · have : l[i] = m[i] := by cases hp : l[i]; cases hq : m[i]; rw [hp, hq] at a0 a1 a2 a4; simp_all
              rw [dec_cons, decide_eq_true this, decide_eq_true a4]
            · rw [hne (fun h => a4 (by rw [h])), decide_eq_false a4, Bool.false_and]
          · have hb : ((l[i].f3.length : Int) != (m[i].f3.length : Int)) = true := by simp; omega
            rw [hb, if_pos rfl, hne (fun h => a3 (by rw [h]))]
        · rw [if_neg a2, if_pos trivial, hne (fun h => a2 (by rw [h]))]
      · rw [if_neg a1, if_pos trivial, hne (fun h => a1 (by rw [h]))]
    · rw [if_neg a0, if_pos trivial, hne (fun h => a0 (by rw [h]))]
theorem same_f (l m : List S26) (hl : l.length ≤ 1000000) (hf : ∀ p ∈ l, p.f3.length ≤ 1000000) (k : Nat) (hk : wt l + 1 ≤ k) : hallmootref27_Same.f k l m = some (decide (l = m)) := by
  unfold hallmootref27_Same.f
  by_cases h : l.length = m.length
  · rw [if_pos (by omega)]
    exact same_l0 l m hl h hf l.length 0 k (by omega) (by rw [List.drop_zero]; exact hk)
  · rw [if_neg (by omega)]
    have : l ≠ m := fun e => h (by rw [e])
    simp [this]
def fewB (l : List S26) : Bool := decide (l.length ≤ 250) && l.all (fun p => decide (p.f3.length ≤ 80))
theorem few_l0 (l : List S26) (hl : l.length ≤ 1000000) : ∀ d i k : Nat, i + d = l.length → d + 1 ≤ k → hallmootref27_Few.l0 k l (i : Int) = some ((l.drop i).all (fun p => decide (p.f3.length ≤ 80)))
  | 0, i, k, hi, hk => by
    obtain ⟨k, rfl⟩ : ∃ x, k = x + 1 := ⟨k - 1, by omega⟩
    simp only [hallmootref27_Few.l0]
    rw [if_neg (by omega), List.drop_of_length_le (by omega)]
    rfl
  | d + 1, i, k, hi, hk => by
    obtain ⟨k, rfl⟩ : ∃ x, k = x + 1 := ⟨k - 1, by omega⟩
    have h1 : i < l.length := by omega
    simp only [hallmootref27_Few.l0]
    rw [if_pos (by omega), if_pos (by omega), rd26 l i h1, List.drop_eq_getElem_cons h1, List.all_cons]
    by_cases h : l[i].f3.length ≤ 80
    · rw [if_neg (by omega), w64 (by omega) (by omega), show (i : Int) + 1 = ((i + 1 : Nat) : Int) by omega, few_l0 l hl d (i + 1) k (by omega) (by omega), decide_eq_true h, Bool.true_and]
    · rw [if_pos (by omega), decide_eq_false h, Bool.false_and]
theorem few_f (l : List S26) {k : Nat} (hl : l.length ≤ 250 → l.length + 2 ≤ k) : hallmootref27_Few.f k l 250 = some (fewB l) := by
  unfold hallmootref27_Few.f fewB
  by_cases h : l.length ≤ 250
  · rw [if_neg (by omega), decide_eq_true h, Bool.true_and]
    exact few_l0 l (by omega) l.length 0 k (by omega) (by have := hl h; omega)
  · rw [if_pos (by omega), decide_eq_false h, Bool.false_and]
theorem few_iff {l : List S26} : fewB l = true ↔ l.length ≤ 250 ∧ ∀ p ∈ l, p.f3.length ≤ 80 := by
  unfold fewB; simp
theorem wt_le (l : List S26) (b : Nat) (h : ∀ p ∈ l, p.f3.length ≤ b) : wt l ≤ l.length * (b + 3) := by
  induction l with
  | nil => simp [wt]
  | cons p l ih =>
    have h1 := h p List.mem_cons_self
    have h2 := ih (fun q hq => h q (List.mem_cons_of_mem _ hq))
    have h3 : wt (p :: l) = p.f3.length + 3 + wt l := rfl
    rw [h3, List.length_cons, Nat.succ_mul]
    omega
theorem u8_range {a : Int} (h : (Lit.int .u8 a).wf = true) : 0 ≤ a ∧ a ≤ 255 := by
  simp [Lit.wf, IntKind.min, IntKind.max, IntKind.signed, IntKind.bits] at h
  omega
theorem i64_range {a : Int} (h : (Lit.int .i64 a).wf = true) : -9223372036854775808 ≤ a ∧ a ≤ 9223372036854775807 := by
  simp [Lit.wf, IntKind.min, IntKind.max, IntKind.signed, IntKind.bits] at h
  omega
/-! Plain -/
theorem plS_acc (t : Int) : ∀ (l : List S26) (a : Nat) (u : Int → Int) (acc : List S26), plS t l a u acc = acc ++ plS t l a u []
  | [], _, _, acc => by simp [plS]
  | p :: r, a, u, acc => by
    rw [plS_cons, plS_cons]
    split
    · split
      · exact plS_acc t r _ _ acc
      · split
        · split
          · rw [plS_acc t r _ _ (acc ++ [p]), plS_acc t r _ _ ([] ++ [p])]
            simp
          · exact plS_acc t r _ _ acc
        · simp
    · exact plS_acc t r _ _ acc
def plO (t : Int) (l : List S26) (a : Nat) (u : Int → Int) : List S26 := plS t l a u []
theorem plO_nil (t : Int) (a : Nat) (u : Int → Int) : plO t [] a u = [] := rfl
theorem plO_cons (t : Int) (p : S26) (r : List S26) (a : Nat) (u : Int → Int) : plO t (p :: r) a u = if rightP t p then (if p.f0 = 2 then plO t r (a + 1) (untilP u ((a : Int) + 1) p) else if p.f0 = 1 then (if (a : Int) + 1 > u p.f1 then p :: plO t r (a + 1) u else plO t r (a + 1) u) else [p]) else plO t r a u := by
  unfold plO
  rw [plS_cons, List.nil_append, plS_acc t r (a + 1) u [p]]
  rfl
/-- What Plain gives: valid steps, and a crash only at the end. -/
def good (t : Int) : List S26 → Prop
  | [] => True
  | p :: r => rightP t p = true ∧ ((p.f0 = 1 ∧ good t r) ∨ (p.f0 = 3 ∧ r = []))
theorem plO_good (t : Int) : ∀ (l : List S26) (a : Nat) (u : Int → Int), good t (plO t l a u)
  | [], _, _ => trivial
  | p :: r, a, u => by
    rw [plO_cons]
    split
    · rename_i hr
      split
      · exact plO_good t r _ _
      · rename_i h2
        split
        · rename_i h1
          split
          · exact ⟨hr, .inl ⟨h1, plO_good t r _ _⟩⟩
          · exact plO_good t r _ _
        · rename_i h1
          refine ⟨hr, .inr ⟨?_, rfl⟩⟩
          rcases (right_cases hr).1 with h | h | h
          · exact absurd h h1
          · exact absurd h h2
          · exact h
    · exact plO_good t r _ _
theorem plO_self (t : Int) : ∀ (l : List S26) (a : Nat) (u : Int → Int), good t l → (∀ k, u k ≤ (a : Int)) → plO t l a u = l
  | [], _, _, _, _ => rfl
  | p :: r, a, u, ⟨hr, h⟩, hu => by
    rw [plO_cons, if_pos hr]
    rcases h with ⟨h1, hg⟩ | ⟨h3, rfl⟩
    · have := hu p.f1
      rw [if_neg (by omega), if_pos h1, if_pos (by omega), plO_self t r (a + 1) u hg (fun k => by have := hu k; omega)]
    · rw [if_neg (by omega), if_neg (by omega)]
theorem plO_len (t : Int) : ∀ (l : List S26) (a : Nat) (u : Int → Int), (plO t l a u).length ≤ l.length
  | [], _, _ => Nat.le_refl _
  | p :: r, a, u => by
    have ih := plO_len t r
    rw [plO_cons, List.length_cons]
    split
    · split
      · exact Nat.le_trans (ih _ _) (Nat.le_succ _)
      · split
        · split
          · rw [List.length_cons]; exact Nat.succ_le_succ (ih _ _)
          · exact Nat.le_trans (ih _ _) (Nat.le_succ _)
        · simp
    · exact Nat.le_trans (ih _ _) (Nat.le_succ _)
theorem plO_mem (t : Int) : ∀ (l : List S26) (a : Nat) (u : Int → Int), ∀ p ∈ plO t l a u, p ∈ l
  | [], _, _, p, h => h
  | q :: r, a, u, p, h => by
    have ih := plO_mem t r
    rw [plO_cons] at h
    split at h
    · split at h
      · exact List.mem_cons_of_mem _ (ih _ _ p h)
      · split at h
        · split at h
          · rcases List.mem_cons.1 h with rfl | h
            · exact List.mem_cons_self
            · exact List.mem_cons_of_mem _ (ih _ _ p h)
          · exact List.mem_cons_of_mem _ (ih _ _ p h)
        · rcases List.mem_singleton.1 h with rfl
          exact List.mem_cons_self
    · exact List.mem_cons_of_mem _ (ih _ _ p h)
theorem plain_f (t : Int) (l : List S26) (hl : l.length ≤ 1000000) (ht : t ≤ 9223372036854775807) : sPlain.f t l = some (plO t l 0 (fun _ => 0)) := by
  unfold sPlain.f plO
  rw [if_pos ⟨hl, ht⟩]
end Go.Proofs.YtcnclgneldonfaaDoor.P
