/- script.Next in closed form: the first thread that is on, from a place on, once round. -/
import Derived.Test.YtcnclgneldonfaaDoorPx3
import Derived.Test.YtcnclgneldonfaaDoorHa
namespace Go.Proofs.YtcnclgneldonfaaDoor.P
open Go Go.RowKit Go.Proofs.YtcnclgneldonfaaDoorW.PrintWords Go.Proofs.YtcnclgneldonfaaDoorW.PrintLast Go.Proofs.YtcnclgneldonfaaDoorW.PrintMore
set_option linter.unusedVariables false
set_option linter.unusedSimpArgs false
def onAt (l : List Bool) (b j : Nat) : Bool := l.getD ((b + j) % l.length) false
/-- Where the search begins. -/
def nb (l : List Bool) (a : Int) : Nat := if a < 0 ∨ a ≥ (l.length : Int) then l.length else a.toNat + 1
def nxR (l : List Bool) (b : Nat) : Option Nat → Int
  | some j => ((b + j) % l.length : Nat)
  | none => -1
def nx (l : List Bool) (a : Int) : Int := nxR l (nb l a) ((List.range l.length).find? (onAt l (nb l a)))
theorem next_l0 (l : List Bool) (hl : l.length ≤ 1000000) (x1 : Int) (b : Nat) (hb : x1 + 1 = (b : Int)) (hbl : b ≤ l.length) : ∀ d i k : Nat, i + d = l.length → d < k → script_Next.l0 k l x1 (l.length : Int) (l.length : Int) (i : Int) = some (nxR l b ((List.range' i d).find? (onAt l b)))
  | 0, i, k, hi, hk => by
    obtain ⟨k, rfl⟩ : ∃ m, k = m + 1 := ⟨k - 1, by omega⟩
    simp only [script_Next.l0]
    rw [if_neg (by omega)]
    rfl
  | d + 1, i, k, hi, hk => by
    obtain ⟨k, rfl⟩ : ∃ m, k = m + 1 := ⟨k - 1, by omega⟩
    have e1 : wrap64 (x1 + 1) = (b : Int) := by rw [hb]; exact w64 (by omega) (by omega)
    have e2 : wrap64 ((b : Int) + (i : Int)) = ((b + i : Nat) : Int) := by rw [w64 (by omega) (by omega)]; omega
    have e3 : Int.tmod ((b + i : Nat) : Int) (l.length : Int) = (((b + i) % l.length : Nat) : Int) := by rw [Int.tmod_eq_emod_of_nonneg (by omega)]; rfl
    have hlt : (b + i) % l.length < l.length := Nat.mod_lt _ (by omega)
    simp only [script_Next.l0]
    rw [if_pos (by omega), if_neg (by omega), e1, e2, e3, if_pos (by omega), if_pos (by omega)]
    rw [List.range'_succ, List.find?_cons]
    have e4 : rdOf false l (((b + i) % l.length : Nat) : Int) = onAt l b i := by unfold rdOf onAt; rw [Int.toNat_natCast]
    rw [e4]
    cases ho : onAt l b i with
    | true => simp [nxR]
    | false =>
      simp only [Bool.false_eq_true, if_false]
      rw [w64 (by omega) (by omega), show (i : Int) + 1 = ((i + 1 : Nat) : Int) by omega, next_l0 l hl x1 b hb hbl d (i + 1) k (by omega) (by omega)]
theorem next_f (l : List Bool) (hl : l.length ≤ 1000000) (a : Int) (k : Nat) (hk : l.length + 3 ≤ k) : script_Next.f k l a = some (nx l a) := by
  obtain ⟨k, rfl⟩ : ∃ m, k = m + 2 := ⟨k - 2, by omega⟩
  have hr : List.range l.length = List.range' 0 l.length := List.range_eq_range'
  unfold script_Next.f nx nb
  rw [hr]
  by_cases h0 : a < 0
  · rw [if_pos h0, if_pos (.inl h0)]
    simp only [script_Next.j0, if_true, script_Next.j1]
    exact next_l0 l hl _ l.length (by rw [w64 (by omega) (by omega)]; omega) (Nat.le_refl _) l.length 0 k (by omega) (by omega)
  · rw [if_neg h0]
    by_cases h1 : a ≥ (l.length : Int)
    · rw [if_pos (.inr h1), decide_eq_true h1]
      simp only [script_Next.j0, if_true, script_Next.j1]
      exact next_l0 l hl _ l.length (by rw [w64 (by omega) (by omega)]; omega) (Nat.le_refl _) l.length 0 k (by omega) (by omega)
    · rw [if_neg (by omega), decide_eq_false h1]
      simp only [script_Next.j0, Bool.false_eq_true, if_false, script_Next.j1]
      exact next_l0 l hl _ (a.toNat + 1) (by omega) (by omega) l.length 0 k (by omega) (by omega)
end Go.Proofs.YtcnclgneldonfaaDoor.P
