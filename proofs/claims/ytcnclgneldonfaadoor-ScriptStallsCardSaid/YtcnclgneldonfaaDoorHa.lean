/- script.Right in closed form. -/
import Derived.Test.YtcnclgneldonfaaDoorPx2
import Derived.WalkKit
import Derived.BigCall
import Derived.WalkSpells
import Derived.Outline
namespace Go.Proofs.YtcnclgneldonfaaDoor.P
open Go.RowKit Go.Proofs.YtcnclgneldonfaaDoorW.PrintWords Go.Proofs.YtcnclgneldonfaaDoorW.PrintLast Go.Proofs.YtcnclgneldonfaaDoorW.PrintMore
set_option linter.unusedVariables false
set_option linter.unusedSimpArgs false
theorem w64 {n : Int} (h0 : -9223372036854775808 ≤ n) (h1 : n ≤ 9223372036854775807) : wrap64 n = n := by unfold wrap64; omega
def inB (m : Int) (n : Int) : Bool := decide (0 ≤ n ∧ n ≤ m)
def rightB (t a b c : Int) (l : List Int) : Bool :=
  if a = 1 then decide (0 ≤ b ∧ b < t ∧ c = 0) && decide (l.length = 0)
  else if a = 2 then decide (0 ≤ b ∧ b < t ∧ 0 ≤ c ∧ c ≤ 1048576) && decide (l.length = 0)
  else if a = 3 then decide (b = 0 ∧ c = 0 ∧ l.length ≤ 64) && l.all (inB 32)
  else false
theorem within_l0 (m : Int) (l : List Int) (hl : l.length ≤ 1000000) (d : Nat) : ∀ i k : Nat, i + d = l.length → d < k → script_within.l0 k m l (l.length : Int) (i : Int) = some ((l.drop i).all (inB m)) := by
  induction d with
  | zero =>
    intro i k hi hk
    obtain ⟨k, rfl⟩ : ∃ m, k = m + 1 := ⟨k - 1, by omega⟩
    simp only [script_within.l0]
    rw [if_neg (by omega), List.drop_of_length_le (by omega)]
    rfl
  | succ d ih =>
    intro i k hi hk
    obtain ⟨k, rfl⟩ : ∃ m, k = m + 1 := ⟨k - 1, by omega⟩
    have hlt : i < l.length := by omega
    have hrd : rd l (i : Int) = l[i] := by simp [rd, List.getD_eq_getElem?_getD, hlt]
    simp only [script_within.l0]
    rw [if_pos (by omega), if_pos (by omega), if_pos (by omega), hrd, List.drop_eq_getElem_cons hlt, List.all_cons]
    by_cases h1 : l[i] < 0
    · rw [if_pos h1, show inB m l[i] = false from decide_eq_false (by omega)]; rfl
    · rw [if_neg h1]
      by_cases h2 : l[i] > m
      · rw [if_pos h2, show inB m l[i] = false from decide_eq_false (by omega)]; rfl
      · rw [if_neg h2, show inB m l[i] = true from decide_eq_true (by omega), w64 (n := (i : Int) + 1) (by omega) (by omega), show (i : Int) + 1 = ((i + 1 : Nat) : Int) by omega, ih (i + 1) k (by omega) (by omega)]
        rfl
theorem within_f (m : Int) (l : List Int) (hl : l.length ≤ 64) (k : Nat) (hk : 65 ≤ k) : script_within.f k m l = some (l.all (inB m)) := by
  unfold script_within.f
  have := within_l0 m l (by omega) l.length 0 k (by omega) (by omega)
  rw [List.drop_zero] at this
  exact this
theorem right_f (t a b c : Int) (l : List Int) (k : Nat) (hk : 70 ≤ k) : script_Right.f k t a b c l = some (rightB t a b c l) := by
  obtain ⟨k, rfl⟩ : ∃ m, k = m + 1 := ⟨k - 1, by omega⟩
  have e0 : ((l.length : Int) == 0) = decide (l.length = 0) := by
    rw [Bool.eq_iff_iff, beq_iff_eq, decide_eq_true_eq]; omega
  have ew : ∀ m x : Int, ([x] : List Int).all (inB m) = decide (0 ≤ x ∧ x ≤ m) := fun m x => by simp [inB]
  unfold script_Right.f rightB
  by_cases h1 : a = 1
  · subst h1
    rw [if_pos rfl, if_pos rfl, script_Right.j0]
    rw [if_pos (by decide), if_neg (by decide), within_f 0 [c] (by simp) k (by omega), ew]
    simp only [Option.bind_some]
    by_cases h2 : b ≥ 0
    · rw [if_pos h2]
      by_cases h3 : b < t
      · rw [if_pos h3]
        by_cases h4 : c = 0
        · rw [if_pos (decide_eq_true (by omega)), e0, decide_eq_true (show 0 ≤ b ∧ b < t ∧ c = 0 by omega), Bool.true_and]
        · rw [if_neg (by simp; omega), decide_eq_false (show ¬ (0 ≤ b ∧ b < t ∧ c = 0) by omega)]; rfl
      · rw [if_neg h3, decide_eq_false (show ¬ (0 ≤ b ∧ b < t ∧ c = 0) by omega)]; rfl
    · rw [if_neg h2, decide_eq_false (show ¬ (0 ≤ b ∧ b < t ∧ c = 0) by omega)]; rfl
  · rw [if_neg h1, if_neg h1, script_Right.j0]
    by_cases h2 : a = 2
    · subst h2
      rw [if_pos (by decide), if_pos (by decide), if_pos rfl, within_f 1048576 [c] (by simp) k (by omega), ew]
      simp only [Option.bind_some]
      by_cases h2 : b ≥ 0
      · rw [if_pos h2]
        by_cases h3 : b < t
        · rw [if_pos h3]
          by_cases h4 : 0 ≤ c ∧ c ≤ 1048576
          · rw [if_pos (decide_eq_true h4), e0, decide_eq_true (show 0 ≤ b ∧ b < t ∧ 0 ≤ c ∧ c ≤ 1048576 by omega), Bool.true_and]
          · rw [if_neg (by simp; omega), decide_eq_false (show ¬ (0 ≤ b ∧ b < t ∧ 0 ≤ c ∧ c ≤ 1048576) by omega)]; rfl
        · rw [if_neg h3, decide_eq_false (show ¬ (0 ≤ b ∧ b < t ∧ 0 ≤ c ∧ c ≤ 1048576) by omega)]; rfl
      · rw [if_neg h2, decide_eq_false (show ¬ (0 ≤ b ∧ b < t ∧ 0 ≤ c ∧ c ≤ 1048576) by omega)]; rfl
    · rw [if_neg (show ¬ (a == 2) = true by simp [h2]), if_neg h2]
      by_cases h3 : a = 3
      · rw [if_pos h3, if_pos h3]
        by_cases h4 : b = 0
        · rw [if_pos h4]
          by_cases h5 : c = 0
          · rw [if_pos h5]
            by_cases h6 : (l.length : Int) ≤ 64
            · rw [if_pos h6, within_f 32 l (by omega) k (by omega), decide_eq_true (show b = 0 ∧ c = 0 ∧ l.length ≤ 64 by omega), Bool.true_and]; rfl
            · rw [if_neg h6, decide_eq_false (show ¬ (b = 0 ∧ c = 0 ∧ l.length ≤ 64) by omega)]; rfl
          · rw [if_neg h5, decide_eq_false (show ¬ (b = 0 ∧ c = 0 ∧ l.length ≤ 64) by omega)]; rfl
        · rw [if_neg h4, decide_eq_false (show ¬ (b = 0 ∧ c = 0 ∧ l.length ≤ 64) by omega)]; rfl
      · rw [if_neg h3, if_neg h3]
theorem right_walk (t a b c : Int) (A : Option Addr) (cp : Nat) (l : List Int) (w : World) (hr : Kd.C (Kd.int .i64) w A l.length l) (hc : l.length ≤ cp) :
    Calls Tryd.prog 15 #[.int .i64 t, .agg #[.int .i64 a, .int .i64 b, .int .i64 c, .slice A l.length cp]] w fun e w' => e = .returned (.bool (rightB t a b c l)) ∧ Below w.heap.size w w' :=
  script_Right.calls 70 t a b c A cp l _ w hr hc (right_f t a b c l 70 (Nat.le_refl _))
theorem rd26 (l : List S26) (i : Nat) (h : i < l.length) : rd_T26 l (i : Int) = l[i] := by
  simp [rd_T26, List.getD_eq_getElem?_getD, h]
theorem blk4 {W : World} {g : Nat} {a b c d : Value} (h : W.heap[g]? = some (.cells #[a, b, c, d] 26 (0, 0))) :
    (W.cell? ⟨g, 0, none⟩ = some a ∧ W.cell? ⟨g, 1, none⟩ = some b ∧ W.cell? ⟨g, 2, none⟩ = some c ∧ W.cell? ⟨g, 3, none⟩ = some d) ∧ W.frozen? ⟨g, 0, none⟩ = false ∧ W.frozen? ⟨g, 1, none⟩ = false ∧ W.frozen? ⟨g, 2, none⟩ = false ∧ W.frozen? ⟨g, 3, none⟩ = false :=
  ⟨⟨blk_cell h 0, blk_cell h 1, blk_cell h 2, blk_cell h 3⟩, blk_frozen h 0, blk_frozen h 1, blk_frozen h 2, blk_frozen h 3⟩
end Go.Proofs.YtcnclgneldonfaaDoor.P
