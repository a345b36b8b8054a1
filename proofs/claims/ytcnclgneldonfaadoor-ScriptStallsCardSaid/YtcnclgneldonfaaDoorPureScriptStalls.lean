/- ScriptStalls, the plain law. -/
import Derived.Test.YtcnclgneldonfaaDoorPx26
import Derived.Test.YtcnclgneldonfaaDoorSa
import Derived.Test.YtcnclgneldonfaaDoorPl
namespace Go.Proofs.YtcnclgneldonfaaDoor.P
open Go Go.RowKit Go.Proofs.YtcnclgneldonfaaDoorW.PrintWords Go.Proofs.YtcnclgneldonfaaDoorW.PrintLast Go.Proofs.YtcnclgneldonfaaDoorW.PrintMore
set_option linter.unusedVariables false
set_option linter.unusedSimpArgs false
theorem lt_big {n : Nat} (h : n ≤ 1000) : n < 2932031007402 := Nat.lt_of_le_of_lt h (by decide)
def stp (t : Int) : S26 := ⟨1, wrap64 (Int.tmod t 3), 0, []⟩
def wantL (b : Int) : List Int → Nat → List S26
  | [], _ => []
  | t :: r, i => if (stp t).f1 = 1 ∧ ¬ (i : Int) + 1 > b then wantL b r (i + 1) else stp t :: wantL b r (i + 1)
theorem stp_range {t : Int} (h : (Lit.int .u8 t).wf = true) : 0 ≤ (stp t).f1 ∧ (stp t).f1 < 3 := by
  have h0 := u8_range h
  unfold stp
  simp only
  rw [Int.tmod_eq_emod_of_nonneg (by omega)]
  have h1 := Int.emod_nonneg t (show (3 : Int) ≠ 0 by omega)
  have h2 := Int.emod_lt_of_pos t (show (0 : Int) < 3 by omega)
  rw [w64 (by omega) (by omega)]
  exact ⟨h1, h2⟩
theorem stp_right {t : Int} (h : (Lit.int .u8 t).wf = true) : rightP 3 (stp t) = true := by
  have := stp_range h
  unfold rightP rightB
  rw [if_pos (show (stp t).f0 = 1 from rfl)]
  have h1 : decide (0 ≤ (stp t).f1 ∧ (stp t).f1 < 3 ∧ (stp t).f2 = 0) = true := decide_eq_true ⟨this.1, this.2, rfl⟩
  rw [h1]; rfl
theorem plO_steps (b : Int) (hb : 0 ≤ b) (u : Int → Int) (h1 : u 1 = 1 + b) (h2 : ∀ k, k ≠ 1 → u k = 0) : ∀ (ts : List Int) (i : Nat), (∀ x ∈ ts, (Lit.int .u8 x).wf = true) → plO 3 (ts.map stp) (i + 1) u = wantL b ts i
  | [], _, _ => rfl
  | t :: r, i, hw => by
    have ih := plO_steps b hb u h1 h2 r (i + 1) (fun x hx => hw x (List.mem_cons_of_mem _ hx))
    have ht := hw t List.mem_cons_self
    have hf0 : (stp t).f0 = 1 := rfl
    rw [List.map_cons, plO_cons, if_pos (stp_right ht), if_neg (by rw [hf0]; decide), if_pos hf0, wantL, ih]
    by_cases h : (stp t).f1 = 1
    · rw [h, h1]
      by_cases hg : (i : Int) + 1 > b
      · rw [if_pos (by omega), if_neg (by simp; omega)]
      · rw [if_neg (by omega), if_pos ⟨rfl, hg⟩]
    · rw [h2 _ h, if_pos (by omega), if_neg (fun hh => h hh.1)]
theorem wantL_len (b : Int) : ∀ (ts : List Int) (i : Nat), (wantL b ts i).length ≤ ts.length
  | [], _ => Nat.le_refl _
  | t :: r, i => by
    have ih := wantL_len b r (i + 1)
    rw [wantL]
    split
    · rw [List.length_cons]; omega
    · rw [List.length_cons, List.length_cons]; omega
theorem wantL_f3 (b : Int) : ∀ (ts : List Int) (i : Nat), ∀ p ∈ wantL b ts i, p.f3.length ≤ 0
  | [], _, p, h => by cases h
  | t :: r, i, p, h => by
    have ih := wantL_f3 b r (i + 1)
    rw [wantL] at h
    split at h
    · exact ih p h
    · rcases List.mem_cons.1 h with rfl | h
      · exact Nat.le_refl _
      · exact ih p h
theorem stalls_l0 (b : Int) (hb : 0 ≤ b ∧ b ≤ 255) (ts : List Int) (hw : ∀ x ∈ ts, (Lit.int .u8 x).wf = true) (hl : ts.length ≤ 200) (d : Nat) : ∀ i k : Nat, ∀ W : List S26, i + d = ts.length → W.length ≤ i → W ++ wantL b (ts.drop i) i = wantL b ts 0 → d + 5000 ≤ k →
    hallmootlaw27_ScriptStalls.l0 k b ts true ((⟨2, 1, b, []⟩ : S26) :: (ts.take i).map stp) W (i : Int) = some true := by
  induction d with
  | zero =>
    intro i k W hi hWl hW hk
    obtain ⟨k, rfl⟩ : ∃ x, k = x + 1 := ⟨k - 1, by omega⟩
    have hii : i = ts.length := by omega
    subst hii
    rw [List.drop_length] at hW
    rw [List.take_length]
    have hW2 : W = wantL b ts 0 := by simpa [wantL] using hW
    have hst : rightP 3 (⟨2, 1, b, []⟩ : S26) = true := by
      unfold rightP rightB
      simp
      omega
    have hpl : plO 3 ((⟨2, 1, b, []⟩ : S26) :: ts.map stp) 0 (fun _ => 0) = wantL b ts 0 := by
      rw [plO_cons, if_pos hst, if_pos rfl]
      exact plO_steps b hb.1 _ (by unfold untilP; simp; omega) (fun k hk => by unfold untilP; simp [hk]) ts 0 hw
    have hwl := wantL_len b ts 0
    have hwt := wt_le (wantL b ts 0) 0 (fun p hp => wantL_f3 b ts 0 p hp)
    simp only [hallmootlaw27_ScriptStalls.l0]
    rw [if_neg (by omega), if_pos trivial, plain_f 3 _ (by simp; omega) (by decide), Option.bind_some, hpl, hW2, same_f _ _ (by omega) (fun p hp => by have := wantL_f3 b ts 0 p hp; omega) k (by omega), Option.bind_some]
    simp
  | succ d ih0 =>
    intro i k W hi hWl hW hk
    obtain ⟨k, rfl⟩ : ∃ x, k = x + 1 := ⟨k - 1, by omega⟩
    have h1 : i < ts.length := by omega
    have c3 : i + 1 ≤ 1000 := by omega
    have c4 : W.length ≤ 1000 := by omega
    have hrd : rd ts (i : Int) = ts[i] := rdI ts i h1
    have hsp : (⟨1, wrap64 (Int.tmod ts[i] 3), 0, ([] : List Int)⟩ : S26) = stp ts[i] := rfl
    have hl6 : ((⟨2, 1, b, []⟩ : S26) :: (ts.take i).map stp).length = i + 1 := by simp; omega
    have htk : (((⟨2, 1, b, []⟩ : S26) :: (ts.take i).map stp) ++ [stp ts[i]]) = (⟨2, 1, b, []⟩ : S26) :: (ts.take (i + 1)).map stp := by
      rw [List.take_succ_eq_append_getElem h1, List.map_append]; rfl
    rw [List.drop_eq_getElem_cons h1, wantL] at hW
    have ih := ih0 (i + 1) k
    clear ih0
    simp only [hallmootlaw27_ScriptStalls.l0]
    have c1 : (i : Int) < (ts.length : Int) := by omega
    have c2 : (0 : Int) ≤ (i : Int) := by omega
    have b5 : -9223372036854775808 ≤ b := by omega
    have b6 : b ≤ 9223372036854775807 := by omega
    have c5 : -9223372036854775808 ≤ ((i + 1 : Nat) : Int) := by omega
    have c6 : ((i + 1 : Nat) : Int) ≤ 9223372036854775807 := by omega
    have hwb : wrap64 b = b := w64 b5 b6
    have hi1 : wrap64 ((i : Int) + 1) = ((i + 1 : Nat) : Int) := w64 c5 c6
    rw [if_pos c1, if_pos c2, hl6, if_pos (lt_big c3), hrd, hsp, Option.bind_some, htk, hi1, hwb]
    have hf1 : wrap64 (Int.tmod ts[i] 3) = (stp ts[i]).f1 := rfl
    rw [hf1]
    clear hf1 hl6 htk hwb hi1 hsp hrd c1 c2 c3 b5 b6 c5 c6
    generalize hst : stp ts[i] = s at *
    by_cases ha : s.f1 = 1
    · rw [if_pos ha]
      by_cases hg : (i : Int) + 1 > b
      · rw [if_pos (show ((i + 1 : Nat) : Int) > b by omega), if_pos (lt_big c4)]
        rw [if_neg (fun hh => hh.2 hg)] at hW
        exact ih _ (by omega) (by simp; omega) (by rw [List.append_assoc]; exact hW) (by omega)
      · rw [if_neg (show ¬ ((i + 1 : Nat) : Int) > b by omega)]
        rw [if_pos ⟨ha, hg⟩] at hW
        exact ih _ (by omega) (by omega) hW (by omega)
    · rw [if_neg ha, if_pos (lt_big c4)]
      rw [if_neg (fun hh => ha hh.1)] at hW
      exact ih _ (by omega) (by simp; omega) (by rw [List.append_assoc]; exact hW) (by omega)
end Go.Proofs.YtcnclgneldonfaaDoor.P
namespace Go.Proofs.YtcnclgneldonfaaDoor.Pure
open Go Go.RowKit Go.Proofs.YtcnclgneldonfaaDoor.P
theorem ScriptStalls (b : Int) (ts : List Int) (w : (Lit.int .u8 b).wf = true) (g : ∀ x ∈ ts, (Lit.int .u8 x).wf = true) : ∃ k, hallmootlaw27_ScriptStalls.f k b ts = some true := by
  refine ⟨10000, ?_⟩
  have hb := u8_range w
  unfold hallmootlaw27_ScriptStalls.f
  rw [sanity_up 10000 (by omega), Option.bind_some]
  split
  · rfl
  · rw [w64 (n := b) (by omega) (by omega)]
    exact stalls_l0 b (by omega) ts g (by omega) ts.length 0 10000 [] (by omega) (by simp) rfl (by omega)
end Go.Proofs.YtcnclgneldonfaaDoor.Pure
