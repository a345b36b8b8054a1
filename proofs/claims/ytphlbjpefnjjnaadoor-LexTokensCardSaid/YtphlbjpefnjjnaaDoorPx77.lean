-- Written by pp.py (this session's program over the kit's printer): functions, contracts. Not trusted: Lean checks it.
import Derived.Test.YtphlbjpefnjjnaaDoorPx0
import Derived.Test.YtphlbjpefnjjnaaDoorYZ
import Derived.Test.YtphlbjpefnjjnaaDoorPx1
import Derived.Test.YtphlbjpefnjjnaaDoorPx63
import Derived.Test.YtphlbjpefnjjnaaDoorPx76
import Derived.Test.YtphlbjpefnjjnaaDoorHb
import Derived.Test.YtphlbjpefnjjnaaDoorHf
namespace Go.Proofs.YtphlbjpefnjjnaaDoor.P
open Go.RowKit Go.Proofs.YtphlbjpefnjjnaaDoorW.PrintWords Go.Proofs.YtphlbjpefnjjnaaDoorW.PrintLast Go.Proofs.YtphlbjpefnjjnaaDoorW.PrintMore
attribute [local go_sem] max2_int min2_int max_two min_two max_three min_three max_four min_four   -- for this text's walks alone
set_option linter.unusedVariables false
set_option linter.unusedSimpArgs false

attribute [local go_sem high] eqA30
/-! ### hallmootlaw04_LexTokens: function 8 -/
mutual
def hallmootlaw04_LexTokens.l0 : Nat → Int → Bool → List (S30) → Int → Int → Option (Bool)
  | 0, _, _, _, _, _ => none
  | k + 1, x1, x5, x6, x7, x8 => if x8 < (x6.length : Int) then (hallmootlaw04_LexTokens.j1 k x1 x5 x6 x7 x8 (x7 == 0)) else (hallmootlaw04_LexTokens.j1 k x1 x5 x6 x7 x8 false)
def hallmootlaw04_LexTokens.j1 : Nat → Int → Bool → List (S30) → Int → Int → Bool → Option (Bool)
  | 0, _, _, _, _, _, _ => none
  | k + 1, x1, x5, x6, x7, x8, x37 => if x37 = true then (if 0 ≤ x8 then (if x8 < (x6.length : Int) then ((lex_Words.f ((rd_T30 x6 x8).f1)).bind fun bt263 => (if bt263.2 = 0 then (hallmootlaw04_LexTokens.j2 k x1 x5 x6 x7 x8 bt263.1 ((bt263.1.length : Int) != 1)) else (hallmootlaw04_LexTokens.j2 k x1 x5 x6 x7 x8 bt263.1 true))) else (none)) else (none)) else ((hallmootlaw04_digits.f k (wrap64 (Int.tmod x1 1099511627777))).bind fun t281 => ((lex_Words.f t281).bind fun bt282 => (if 1 + t281.size ≤ 9223372036854775807 then ((lex_Words.f ((⟨#[48]⟩ : ByteArray) ++ t281)).bind fun bt286 => (if (bt282.1.length : Int) = 1 then (if x5 = true then (if bt282.2 = 0 then (if bt286.2 = 3 then (if 0 < (bt282.1.length : Int) then (some (((rd_T30 bt282.1 0).f0) == 2 && ((((rd_T30 bt282.1 0).f1).toList) == t281.toList && (((rd_T30 bt282.1 0).f2) == (wrap64 (Int.tmod x1 1099511627777)) && (((rd_T30 bt282.1 0).f3) == 0))))) else (none)) else (none)) else (none)) else (none)) else (none))) else (none))))
def hallmootlaw04_LexTokens.j2 : Nat → Int → Bool → List (S30) → Int → Int → List (S30) → Bool → Option (Bool)
  | 0, _, _, _, _, _, _, _ => none
  | k + 1, x1, x5, x6, x7, x8, x9, x55 => if x55 = true then (none) else (if 0 ≤ x8 then (if x8 < (x6.length : Int) then (if 0 < (x9.length : Int) then (if (!(((rd_T30 x9 0).f0) == ((rd_T30 x6 x8).f0)) || (!((((rd_T30 x9 0).f1).toList) == (((rd_T30 x6 x8).f1).toList)) || (!(((rd_T30 x9 0).f2) == ((rd_T30 x6 x8).f2)) || (!(((rd_T30 x9 0).f3) == 0))))) = true then (hallmootlaw04_LexTokens.j3 k x1 x5 x6 x7 x8 true) else (if ((rd_T30 x6 x8).f2) < 0 then (hallmootlaw04_LexTokens.j3 k x1 x5 x6 x7 x8 true) else (if ((rd_T30 x6 x8).f2) > 1099511627776 then (hallmootlaw04_LexTokens.j3 k x1 x5 x6 x7 x8 true) else (if ((rd_T30 x6 x8).f0) = 2 then (hallmootlaw04_LexTokens.j3 k x1 x5 x6 x7 x8 false) else (hallmootlaw04_LexTokens.j3 k x1 x5 x6 x7 x8 (((rd_T30 x6 x8).f2) != 0)))))) else (none)) else (none)) else (none))
def hallmootlaw04_LexTokens.j3 : Nat → Int → Bool → List (S30) → Int → Int → Bool → Option (Bool)
  | 0, _, _, _, _, _, _ => none
  | k + 1, x1, x5, x6, x7, x8, x85 => if x85 = true then (none) else (if x8 > 0 then (if 0 ≤ x8 then (if x8 < (x6.length : Int) then (if ((rd_T30 x6 x8).f0) = 3 then (if 0 ≤ (wrap64 (x8 - 1)) then (if (wrap64 (x8 - 1)) < (x6.length : Int) then (if ((rd_T30 x6 (wrap64 (x8 - 1))).f0) = 3 then (hallmootlaw04_LexTokens.j4 k x1 x5 x6 x7 x8 (((rd_T30 x6 x8).f3) == (wrap64 (((rd_T30 x6 (wrap64 (x8 - 1))).f3) + 1)))) else (hallmootlaw04_LexTokens.j4 k x1 x5 x6 x7 x8 false)) else (none)) else (none)) else (hallmootlaw04_LexTokens.j4 k x1 x5 x6 x7 x8 false)) else (none)) else (none)) else (hallmootlaw04_LexTokens.j4 k x1 x5 x6 x7 x8 false))
def hallmootlaw04_LexTokens.j4 : Nat → Int → Bool → List (S30) → Int → Int → Bool → Option (Bool)
  | 0, _, _, _, _, _, _ => none
  | k + 1, x1, x5, x6, x7, x8, x119 => if x119 = true then (if 0 ≤ (wrap64 (x8 - 1)) then (if (wrap64 (x8 - 1)) < (x6.length : Int) then (if 0 ≤ x8 then (if x8 < (x6.length : Int) then (if ((rd_T30 x6 (wrap64 (x8 - 1))).f1).size + ((rd_T30 x6 x8).f1).size ≤ 9223372036854775807 then ((lex_Words.f (((rd_T30 x6 (wrap64 (x8 - 1))).f1) ++ ((rd_T30 x6 x8).f1))).bind fun bt276 => (if (((rd_T30 x6 (wrap64 (x8 - 1))).f1).size : Int) = 1 then (if bt276.2 = 0 then (if (bt276.1.length : Int) = 2 then (hallmootlaw04_LexTokens.l0 k x1 x5 x6 x7 (wrap64 (x8 + 1))) else (none)) else (none)) else (hallmootlaw04_LexTokens.l0 k x1 x5 x6 x7 (wrap64 (x8 + 1))))) else (none)) else (none)) else (none)) else (none)) else (none)) else (hallmootlaw04_LexTokens.l0 k x1 x5 x6 x7 (wrap64 (x8 + 1)))
end
def hallmootlaw04_LexTokens.f (k : Nat) (a0 : ByteArray) (a1 : Int) : Option (Bool) := (hallmootlaw04_sanity.f k).bind fun t257 => (if (a0.size : Int) > 600 then (some t257) else ((lex_Words.f a0).bind fun bt258 => (hallmootlaw04_LexTokens.l0 k a1 t257 bt258.1 bt258.2 0)))
theorem hallmootlaw04_LexTokens.mono_l : ∀ k, (∀ y0 y1 y2 y3 y4, LeO (hallmootlaw04_LexTokens.l0 k y0 y1 y2 y3 y4) (hallmootlaw04_LexTokens.l0 (k + 1) y0 y1 y2 y3 y4)) ∧ (∀ y0 y1 y2 y3 y4 y5, LeO (hallmootlaw04_LexTokens.j1 k y0 y1 y2 y3 y4 y5) (hallmootlaw04_LexTokens.j1 (k + 1) y0 y1 y2 y3 y4 y5)) ∧ (∀ y0 y1 y2 y3 y4 y5 y6, LeO (hallmootlaw04_LexTokens.j2 k y0 y1 y2 y3 y4 y5 y6) (hallmootlaw04_LexTokens.j2 (k + 1) y0 y1 y2 y3 y4 y5 y6)) ∧ (∀ y0 y1 y2 y3 y4 y5, LeO (hallmootlaw04_LexTokens.j3 k y0 y1 y2 y3 y4 y5) (hallmootlaw04_LexTokens.j3 (k + 1) y0 y1 y2 y3 y4 y5)) ∧ (∀ y0 y1 y2 y3 y4 y5, LeO (hallmootlaw04_LexTokens.j4 k y0 y1 y2 y3 y4 y5) (hallmootlaw04_LexTokens.j4 (k + 1) y0 y1 y2 y3 y4 y5))
  | 0 => ⟨fun _ _ _ _ _ r h => by simp [hallmootlaw04_LexTokens.l0] at h, fun _ _ _ _ _ _ r h => by simp [hallmootlaw04_LexTokens.j1] at h, fun _ _ _ _ _ _ _ r h => by simp [hallmootlaw04_LexTokens.j2] at h, fun _ _ _ _ _ _ r h => by simp [hallmootlaw04_LexTokens.j3] at h, fun _ _ _ _ _ _ r h => by simp [hallmootlaw04_LexTokens.j4] at h⟩
  | k + 1 => by
    obtain ⟨ih0, ih1, ih2, ih3, ih4⟩ := hallmootlaw04_LexTokens.mono_l k
    refine ⟨?_, ?_, ?_, ?_, ?_⟩
    · intro y0 y1 y2 y3 y4
      unfold hallmootlaw04_LexTokens.l0
      repeat' first
      | (with_reducible exact ih0 _ _ _ _ _)
      | (with_reducible exact ih1 _ _ _ _ _ _)
      | (with_reducible exact ih2 _ _ _ _ _ _ _)
      | (with_reducible exact ih3 _ _ _ _ _ _)
      | (with_reducible exact ih4 _ _ _ _ _ _)
      | (with_reducible exact hallmootlaw04_digits.mono _ _)
      | (with_reducible exact hallmootlaw04_sanity.mono _)
      | (with_reducible exact LeO.refl _)
      | (with_reducible exact LeO.none _)
      | (with_reducible refine LeO.ite ?_ ?_)
      | (with_reducible refine LeO.bind ?_ (fun _ => ?_))
      | exact ih0 _ _ _ _ _
      | exact ih1 _ _ _ _ _ _
      | exact ih2 _ _ _ _ _ _ _
      | exact ih3 _ _ _ _ _ _
      | exact ih4 _ _ _ _ _ _
      | exact hallmootlaw04_digits.mono _ _
      | exact hallmootlaw04_sanity.mono _
      | exact LeO.none _
      | refine LeO.ite ?_ ?_
      | refine LeO.bind ?_ (fun _ => ?_)
    · intro y0 y1 y2 y3 y4 y5
      unfold hallmootlaw04_LexTokens.j1
      repeat' first
      | (with_reducible exact ih0 _ _ _ _ _)
      | (with_reducible exact ih1 _ _ _ _ _ _)
      | (with_reducible exact ih2 _ _ _ _ _ _ _)
      | (with_reducible exact ih3 _ _ _ _ _ _)
      | (with_reducible exact ih4 _ _ _ _ _ _)
      | (with_reducible exact hallmootlaw04_digits.mono _ _)
      | (with_reducible exact hallmootlaw04_sanity.mono _)
      | (with_reducible exact LeO.refl _)
      | (with_reducible exact LeO.none _)
      | (with_reducible refine LeO.ite ?_ ?_)
      | (with_reducible refine LeO.bind ?_ (fun _ => ?_))
      | exact ih0 _ _ _ _ _
      | exact ih1 _ _ _ _ _ _
      | exact ih2 _ _ _ _ _ _ _
      | exact ih3 _ _ _ _ _ _
      | exact ih4 _ _ _ _ _ _
      | exact hallmootlaw04_digits.mono _ _
      | exact hallmootlaw04_sanity.mono _
      | exact LeO.none _
      | refine LeO.ite ?_ ?_
      | refine LeO.bind ?_ (fun _ => ?_)
    · intro y0 y1 y2 y3 y4 y5 y6
      unfold hallmootlaw04_LexTokens.j2
      repeat' first
      | (with_reducible exact ih0 _ _ _ _ _)
      | (with_reducible exact ih1 _ _ _ _ _ _)
      | (with_reducible exact ih2 _ _ _ _ _ _ _)
      | (with_reducible exact ih3 _ _ _ _ _ _)
      | (with_reducible exact ih4 _ _ _ _ _ _)
      | (with_reducible exact hallmootlaw04_digits.mono _ _)
      | (with_reducible exact hallmootlaw04_sanity.mono _)
      | (with_reducible exact LeO.refl _)
      | (with_reducible exact LeO.none _)
      | (with_reducible refine LeO.ite ?_ ?_)
      | (with_reducible refine LeO.bind ?_ (fun _ => ?_))
      | exact ih0 _ _ _ _ _
      | exact ih1 _ _ _ _ _ _
      | exact ih2 _ _ _ _ _ _ _
      | exact ih3 _ _ _ _ _ _
      | exact ih4 _ _ _ _ _ _
      | exact hallmootlaw04_digits.mono _ _
      | exact hallmootlaw04_sanity.mono _
      | exact LeO.none _
      | refine LeO.ite ?_ ?_
      | refine LeO.bind ?_ (fun _ => ?_)
    · intro y0 y1 y2 y3 y4 y5
      unfold hallmootlaw04_LexTokens.j3
      repeat' first
      | (with_reducible exact ih0 _ _ _ _ _)
      | (with_reducible exact ih1 _ _ _ _ _ _)
      | (with_reducible exact ih2 _ _ _ _ _ _ _)
      | (with_reducible exact ih3 _ _ _ _ _ _)
      | (with_reducible exact ih4 _ _ _ _ _ _)
      | (with_reducible exact hallmootlaw04_digits.mono _ _)
      | (with_reducible exact hallmootlaw04_sanity.mono _)
      | (with_reducible exact LeO.refl _)
      | (with_reducible exact LeO.none _)
      | (with_reducible refine LeO.ite ?_ ?_)
      | (with_reducible refine LeO.bind ?_ (fun _ => ?_))
      | exact ih0 _ _ _ _ _
      | exact ih1 _ _ _ _ _ _
      | exact ih2 _ _ _ _ _ _ _
      | exact ih3 _ _ _ _ _ _
      | exact ih4 _ _ _ _ _ _
      | exact hallmootlaw04_digits.mono _ _
      | exact hallmootlaw04_sanity.mono _
      | exact LeO.none _
      | refine LeO.ite ?_ ?_
      | refine LeO.bind ?_ (fun _ => ?_)
    · intro y0 y1 y2 y3 y4 y5
      unfold hallmootlaw04_LexTokens.j4
      repeat' first
      | (with_reducible exact ih0 _ _ _ _ _)
      | (with_reducible exact ih1 _ _ _ _ _ _)
      | (with_reducible exact ih2 _ _ _ _ _ _ _)
      | (with_reducible exact ih3 _ _ _ _ _ _)
      | (with_reducible exact ih4 _ _ _ _ _ _)
      | (with_reducible exact hallmootlaw04_digits.mono _ _)
      | (with_reducible exact hallmootlaw04_sanity.mono _)
      | (with_reducible exact LeO.refl _)
      | (with_reducible exact LeO.none _)
      | (with_reducible refine LeO.ite ?_ ?_)
      | (with_reducible refine LeO.bind ?_ (fun _ => ?_))
      | exact ih0 _ _ _ _ _
      | exact ih1 _ _ _ _ _ _
      | exact ih2 _ _ _ _ _ _ _
      | exact ih3 _ _ _ _ _ _
      | exact ih4 _ _ _ _ _ _
      | exact hallmootlaw04_digits.mono _ _
      | exact hallmootlaw04_sanity.mono _
      | exact LeO.none _
      | refine LeO.ite ?_ ?_
      | refine LeO.bind ?_ (fun _ => ?_)
theorem hallmootlaw04_LexTokens.mono : ∀ a0 a1 k, LeO (hallmootlaw04_LexTokens.f k a0 a1) (hallmootlaw04_LexTokens.f (k + 1) a0 a1) := by
 intro a0 a1 k
 obtain ⟨ih0, ih1, ih2, ih3, ih4⟩ := hallmootlaw04_LexTokens.mono_l k
 unfold hallmootlaw04_LexTokens.f
 repeat' first | (with_reducible exact ih0 _ _ _ _ _) | (with_reducible exact ih1 _ _ _ _ _ _) | (with_reducible exact ih2 _ _ _ _ _ _ _) | (with_reducible exact ih3 _ _ _ _ _ _) | (with_reducible exact ih4 _ _ _ _ _ _) | (with_reducible exact hallmootlaw04_digits.mono _ _) | (with_reducible exact hallmootlaw04_sanity.mono _) | (with_reducible exact LeO.refl _) | (with_reducible exact LeO.none _) | (with_reducible refine LeO.ite ?_ ?_) | (with_reducible refine LeO.bind ?_ (fun _ => ?_)) | exact ih0 _ _ _ _ _ | exact ih1 _ _ _ _ _ _ | exact ih2 _ _ _ _ _ _ _ | exact ih3 _ _ _ _ _ _ | exact ih4 _ _ _ _ _ _ | exact hallmootlaw04_digits.mono _ _ | exact hallmootlaw04_sanity.mono _ | exact LeO.none _ | refine LeO.ite ?_ ?_ | refine LeO.bind ?_ (fun _ => ?_)
def hallmootlaw04_LexTokens.T13 : Bool × List (List Nat × List Nat) := (true, [([], []), ([0], [0]), ([1], [1]), ([], []), ([2, 3], [2, 3]), ([4], [4]), ([5], [5]), ([6, 5], [5, 6]), ([7, 5], [5, 7]), ([5, 8], [5, 8]), ([9, 5], [9]), ([10], [10]), ([11, 10], [10, 11]), ([12, 10], [10, 12]), ([10, 13], [10, 13]), ([14, 10], [14]), ([15], [15]), ([16, 15], [15, 16]), ([17, 15], [15, 17]), ([18, 15, 15], [15, 18]), ([19], [19]), ([20, 19], [19, 20]), ([21, 19], [19, 21]), ([19, 22, 15], [15, 19, 22]), ([15, 23], [15, 23])])
def hallmootlaw04_LexTokens.B13 : List Nat := [0, 1, 3, 0, 15, 31, 63, 127, 255, 511, 1023, 2047, 4095, 8191, 16383, 32767, 65535, 131071, 262143, 524287, 1048575, 2097151, 4194303, 8388607, 16777215]
theorem hallmootlaw04_LexTokens.tab13 : rtab .any (opsOf Tryd.f8 13) = hallmootlaw04_LexTokens.T13 := by kernel_rfl
theorem hallmootlaw04_LexTokens.bits13 : waitsOk hallmootlaw04_LexTokens.T13.2 hallmootlaw04_LexTokens.B13 = true := by kernel_rfl
def hallmootlaw04_LexTokens.T15 : Bool × List (List Nat × List Nat) := (true, [([], []), ([0], [0]), ([1], [1]), ([2], [2]), ([2], [2]), ([3, 4, 2], [2, 3, 4]), ([5, 2], [2, 5]), ([6, 2], [2, 6]), ([7, 2], [2, 7]), ([2, 8], [2, 8]), ([9, 2], [9]), ([10], [10]), ([10], [10]), ([12, 10], [10, 12]), ([11, 13, 10], [10, 11, 13]), ([14, 10], [10, 14]), ([15, 10], [10, 15]), ([16, 10], [10, 16]), ([10, 17], [10, 17]), ([18, 10], [18]), ([19], [19]), ([19], [19]), ([20, 21, 19], [19, 20, 21]), ([22, 19], [19, 22]), ([23, 19], [19, 23]), ([19], [19]), ([19], [19]), ([26, 19], [19, 26]), ([25, 27, 19], [19, 25, 27]), ([28, 19], [19, 28]), ([29, 19], [19, 29]), ([30, 19], [19, 30]), ([24, 31, 19], [19, 24, 31]), ([19, 32], [19, 32])])
def hallmootlaw04_LexTokens.B15 : List Nat := [0, 1, 3, 7, 7, 31, 63, 127, 255, 511, 1023, 2047, 2047, 6143, 16383, 32767, 65535, 131071, 262143, 524287, 1048575, 1048575, 4194303, 8388607, 16777215, 1048575, 1048575, 68157439, 235929599, 504365055, 1041235967, 2114977791, 4294967295, 8589934591]
theorem hallmootlaw04_LexTokens.tab15 : rtab .any (opsOf Tryd.f8 15) = hallmootlaw04_LexTokens.T15 := by kernel_rfl
theorem hallmootlaw04_LexTokens.bits15 : waitsOk hallmootlaw04_LexTokens.T15.2 hallmootlaw04_LexTokens.B15 = true := by kernel_rfl
def hallmootlaw04_LexTokens.T16 : Bool × List (List Nat × List Nat) := (true, [([], []), ([], []), ([1], [1]), ([0, 2], [0, 2]), ([3], [3]), ([4], [4]), ([], []), ([], []), ([6, 7], [6, 7]), ([8], [8]), ([9], [9]), ([5, 10], [5, 10]), ([11], [11]), ([12], [12]), ([13], [13]), ([13], [13]), ([14, 12, 0, 1, 2, 3, 4, 5, 6, 7, 8, 9, 10, 11, 12, 13, 14], [14]), ([15, 16, 0, 1, 2, 3, 4, 5, 6, 7, 8, 9, 10, 11, 12, 13, 14, 15, 16], [15])])
def hallmootlaw04_LexTokens.B16 : List Nat := [0, 0, 2, 7, 15, 31, 0, 0, 192, 448, 960, 2047, 4095, 8191, 16383, 16383, 32767, 131071]
theorem hallmootlaw04_LexTokens.tab16 : rtab .any (opsOf Tryd.f8 16) = hallmootlaw04_LexTokens.T16 := by kernel_rfl
theorem hallmootlaw04_LexTokens.bits16 : waitsOk hallmootlaw04_LexTokens.T16.2 hallmootlaw04_LexTokens.B16 = true := by kernel_rfl
set_option maxHeartbeats 8000000 in
set_option maxRecDepth 100000 in
theorem hallmootlaw04_LexTokens.calls (k : Nat) (a0 : ByteArray) (a1 : Int) (r : Bool) (w : World) (h : hallmootlaw04_LexTokens.f k a0 a1 = some r) (hL : Laid w) : Calls Tryd.prog 8 #[.string a0, .int .u64 a1] w fun e w' => e = .returned (.bool r) ∧ Below w.heap.size w w' := by
 have hu30 := Tryd.underlying30
 have HB := aS (Below.refl w.heap.size w)
 have H : ((hallmootlaw04_sanity.f k).bind fun t257 => (if (a0.size : Int) > 600 then (some t257) else ((lex_Words.f a0).bind fun bt258 => (hallmootlaw04_LexTokens.l0 k a1 t257 bt258.1 bt258.2 0)))) = some r := h
 clear h
 replace H := Option.bind_eq_some_iff.mp H
 obtain ⟨t257, A30, H⟩ := H
 replace H : (if (a0.size : Int) > 600 then (some t257) else ((lex_Words.f a0).bind fun bt258 => (hallmootlaw04_LexTokens.l0 k a1 t257 bt258.1 bt258.2 0))) = some r := H
 have A3 := aS A30
 clear A30
 by_cases c4 : (a0.size : Int) > 600
 {
 rw [if_pos c4] at H
 have c4b0 : decide (600 < (a0.size : Int)) = true := decide_eq_true c4
 have c4b1 : decide (600 < a0.size) = true := decide_eq_true (by omega)
 clear c4
 obtain rfl := Option.some.inj H
 go_enter Tryd.func8, Tryd.ntmps8
 go_wp2_with (first | ((with_reducible refine gate_callee (f := 9) rfl ?_); refine goesL_ (some 20) rfl rfl Tryd.func9 (by kernel_rfl) rfl #[] rfl (by (try simp only [List.map_toArray, List.map_cons, List.map_nil]); first | done | rfl | (simp only [List.length_drop, List.length_take]; rfl)) ?_; (with_reducible refine (hallmootlaw04_sanity.calls k  t257 _ A3.out (hL.below bb)).mono ?_); rintro e w5 ⟨rfl, hb⟩; refine ⟨_, rfl, ?_⟩; have n0_ := aS (below_step bb hb); clear HB; have HB := n0_; clear n0_; (try clear hb); (try clear hb2); (try clear hk); (try clear hi)))
 go_ret
 exact ⟨by first | rfl | (simp [errW_none, errW_some] <;> rfl) | (simp [*, errW_none, errW_some] <;> rfl), by repeat (first | (with_reducible first | exact HB.out | apply below_alloc | apply pw_below_drewN | apply below_drew1) | exact HB.out)⟩ }
 {
 rw [if_neg c4] at H
 have c4b0 : decide (600 < (a0.size : Int)) = false := decide_eq_false c4
 have c4b1 : decide (600 < a0.size) = false := decide_eq_false (by omega)
 clear c4
 replace H := Option.bind_eq_some_iff.mp H
 obtain ⟨⟨t258, t259⟩, A60, H⟩ := H
 replace H : (hallmootlaw04_LexTokens.l0 k a1 t257 t258 t259 0) = some r := H
 have A6 := aS A60
 clear A60
 have H' := aS H
 clear H
 go_enter Tryd.func8, Tryd.ntmps8
 go_wp2_with (first | ((with_reducible refine gate_callee (f := 9) rfl ?_); refine goesL_ (some 20) rfl rfl Tryd.func9 (by kernel_rfl) rfl #[] rfl (by (try simp only [List.map_toArray, List.map_cons, List.map_nil]); first | done | rfl | (simp only [List.length_drop, List.length_take]; rfl)) ?_; (with_reducible refine (hallmootlaw04_sanity.calls k  t257 _ A3.out (hL.below bb)).mono ?_); rintro e w7 ⟨rfl, hb⟩; refine ⟨_, rfl, ?_⟩; have n0_ := aS (below_step bb hb); clear HB; have HB := n0_; clear n0_; (try clear hb); (try clear hb2); (try clear hk); (try clear hi)) | ((with_reducible refine gate_callee (f := 10) rfl ?_); refine goesL_ (some 27) rfl rfl Tryd.func10 (by kernel_rfl) rfl #[.string a0] rfl (by (try simp only [List.map_toArray, List.map_cons, List.map_nil]); first | done | rfl | (simp only [List.length_drop, List.length_take]; rfl)) ?_; (with_reducible refine (lex_Words.calls a0 t258 t259 _ A6.out (hL.below bb)).mono ?_); rintro e w8 ⟨v260, rfl, ho0, hb⟩; refine ⟨_, rfl, ?_⟩; have n0_ := aS (Kd.R_lower ho0 bz); have n1_ := aS (below_step bb hb); clear HB; have HO261 := n0_; have HB := n1_; clear n0_ n1_; (try clear hb); (try clear hb2); (try clear hk); (try clear hi); (try clear ho0)))
 go_loopg [8] k (fun kq v8 w' => ∃ (x8_1 : Int), v8 = .int .i64 x8_1 ∧ Aside0 (hallmootlaw04_LexTokens.l0 kq a1 t257 t258 t259 x8_1 = some r) ∧ Aside0 (kq ≤ k) ∧ Aside0 (Kd.R k30 30 w' w.heap.size (fun _ => True) v260 t258) ∧ Aside0 (Below w.heap.size w w'))
 case atStart => exact ⟨(0), (by first | rfl | (simp; done) | (simp [*]; done)), H', ⟨Nat.le_refl _⟩, ⟨by (with_reducible repeat (first | apply Kd.R_alloc | apply Kd.R_drewN | apply Kd.R_drew)); exact HO261.out⟩, ⟨by repeat (first | (with_reducible first | exact HB.out | apply below_alloc | apply pw_below_drewN | apply below_drew1) | exact HB.out)⟩⟩
 case round =>
  clear H'
  try clear c1
  try clear p2
  try clear c4
  try clear c4b0
  try clear c4b1
  try clear c8
  obtain ⟨x8_1, rfl, HA, HK1, HO_6, HB⟩ := hrel
  cases gk with
  | zero => exact absurd HA.out (by simp [hallmootlaw04_LexTokens.l0])
  | succ k1 => {
  have H := HA.out
  clear HA
  simp only [hallmootlaw04_LexTokens.l0] at H
  have HC9 := aS H
  clear H
  go_upto_region 6 with (fail)
  go_cut [37] (fun v37 wc => ∃ (kq : Nat) (x37_8 : Bool), v37 = .bool x37_8 ∧ Aside0 (hallmootlaw04_LexTokens.j1 kq a1 t257 t258 t259 x8_1 x37_8 = some r) ∧ Aside0 (kq ≤ k1) ∧ Aside0 (Kd.R k30 30 wc w.heap.size (fun _ => True) v260 t258) ∧ Aside0 (Below w.heap.size w wc))
  case first =>
   have H := HC9.out
   clear HC9
   by_cases c10 : x8_1 < (t258.length : Int)
   {
   rw [if_pos c10] at H
   have c10b0 : decide (x8_1 < (t258.length : Int)) = true := decide_eq_true c10
   clear c10
   (first | rw [c10b0] | (simp only [i64_w, i32_w]; rw [c10b0]) | skip)
   have H' := aS H
   clear H
   obtain ⟨Ao11, co11, eo11⟩ := Kd.R_slice HO_6.out
   subst eo11
   go_wp2
   go_meet
   case rel => exact ⟨_, ((t259 == 0)), (by first | rfl | (simp; done) | (simp [*]; done)), H', ⟨by have := HK1.out; first | omega | exact Nat.le_refl _⟩, ⟨by (with_reducible repeat (first | apply Kd.R_alloc | apply Kd.R_drewN | apply Kd.R_drew)); exact HO_6.out⟩, ⟨by repeat (first | (with_reducible first | exact HB.out | apply below_alloc | apply pw_below_drewN | apply below_drew1) | exact HB.out)⟩⟩ }
   {
   rw [if_neg c10] at H
   have c10b0 : decide (x8_1 < (t258.length : Int)) = false := decide_eq_false c10
   clear c10
   (first | rw [c10b0] | (simp only [i64_w, i32_w]; rw [c10b0]) | skip)
   have H' := aS H
   clear H
   obtain ⟨Ao12, co12, eo12⟩ := Kd.R_slice HO_6.out
   subst eo12
   go_wp2
   go_meet
   case rel => exact ⟨_, (false), (by first | rfl | (simp; done) | (simp [*]; done)), H', ⟨by have := HK1.out; first | omega | exact Nat.le_refl _⟩, ⟨by (with_reducible repeat (first | apply Kd.R_alloc | apply Kd.R_drewN | apply Kd.R_drew)); exact HO_6.out⟩, ⟨by repeat (first | (with_reducible first | exact HB.out | apply below_alloc | apply pw_below_drewN | apply below_drew1) | exact HB.out)⟩⟩ }
  case rest =>
   clear HC9
   try clear c1
   try clear p2
   try clear c4
   try clear c4b0
   try clear c4b1
   try clear c8
   try clear c9
   try clear c10
   try clear c10b0
   try clear p2
   obtain ⟨kq, x37_8, rfl, HA, HJ8, HO_6, HB⟩ := hcut
   cases kq with
   | zero => exact absurd HA.out (by simp [hallmootlaw04_LexTokens.j1])
   | succ kj8 => {
   have H := HA.out
   clear HA
   simp only [hallmootlaw04_LexTokens.j1] at H
   by_cases c13 : x37_8 = true
   {
   subst c13
   have H1 : (if 0 ≤ x8_1 then (if x8_1 < (t258.length : Int) then ((lex_Words.f ((rd_T30 t258 x8_1).f1)).bind fun bt263 => (if bt263.2 = 0 then (hallmootlaw04_LexTokens.j2 kj8 a1 t257 t258 t259 x8_1 bt263.1 ((bt263.1.length : Int) != 1)) else (hallmootlaw04_LexTokens.j2 kj8 a1 t257 t258 t259 x8_1 bt263.1 true))) else (none)) else (none)) = some r := by rw [if_pos rfl] at H; exact H
   clear H
   have H := H1
   clear H1
   by_cases c14 : 0 ≤ x8_1
   {
   rw [if_pos c14] at H
   have c14b0 : decide (0 ≤ x8_1) = true := decide_eq_true c14
   clear c14
   by_cases c15 : x8_1 < (t258.length : Int)
   {
   rw [if_pos c15] at H
   have c15b0 : decide (x8_1 < (t258.length : Int)) = true := decide_eq_true c15
   clear c15
   replace H := Option.bind_eq_some_iff.mp H
   obtain ⟨⟨t263, t264⟩, A160, H⟩ := H
   replace H : (if t264 = 0 then (hallmootlaw04_LexTokens.j2 kj8 a1 t257 t258 t259 x8_1 t263 ((t263.length : Int) != 1)) else (hallmootlaw04_LexTokens.j2 kj8 a1 t257 t258 t259 x8_1 t263 true)) = some r := H
   have A16 := aS A160
   clear A160
   have HC17 := aS H
   clear H
   obtain ⟨Ao18, co18, eo18⟩ := Kd.R_slice HO_6.out
   subst eo18
   have p262 : 0 ≤ (x8_1 : Int) := dd
   have q262 : x8_1 < (t258.length : Int) := dd
   obtain ⟨ad262, e262, hx262_0, hx262_1, hx262_2, hx262_3⟩ := at_T30 (Kd.R_reads' HO_6.out).2.2 x8_1 p262 q262
   cases e262
   replace p262 := eq_true p262
   replace q262 := eq_true q262
   go_upto_region 9 with (first | ((with_reducible refine gate_callee (f := 10) rfl ?_); refine goesL_ (some 46) rfl rfl Tryd.func10 (by kernel_rfl) rfl #[.string ((rd_T30 t258 x8_1).f1)] rfl (by (try simp only [List.map_toArray, List.map_cons, List.map_nil]); first | done | rfl | (simp only [List.length_drop, List.length_take]; rfl)) ?_; (with_reducible refine (lex_Words.calls ((rd_T30 t258 x8_1).f1) t263 t264 _ A16.out (hL.below bb)).mono ?_); rintro e w19 ⟨v265, rfl, ho0, hb⟩; refine ⟨_, rfl, ?_⟩; have n0_ := aS (Kd.R_elder' (rr HO_6.out) (Kd.R_base ho0) hb); have n1_ := aS (Kd.R_lower (Kd.R_new' ho0 (Kd.R_lt (rr HO_6.out))) bz); have n2_ := aS (below_step bb hb); clear HO_6; clear HB; have HO_6 := n0_; have HO266 := n1_; have HB := n2_; clear n0_ n1_ n2_; (try clear hb); (try clear hb2); (try clear hk); (try clear hi); (try clear ho0)))
   (try simp only [Act.put, List.setIfInBounds_toArray, List.set_cons_zero, List.set_cons_succ])
   go_cut [55] (fun v55 wc => ∃ (kq : Nat) (x55_16 : Bool), v55 = .bool x55_16 ∧ Aside0 (hallmootlaw04_LexTokens.j2 kq a1 t257 t258 t259 x8_1 t263 x55_16 = some r) ∧ Aside0 (kq ≤ kj8) ∧ Aside0 (Kd.R k30 30 wc w.heap.size (fun k_ => some k_ ≠ (v265 : Value).ownBlock) (.slice (some ad262) t258.length co18) t258) ∧ Aside0 (Kd.R k30 30 wc w.heap.size (fun k_ => some k_ ≠ ((.slice (some ad262) t258.length co18) : Value).ownBlock) v265 t263) ∧ Aside0 (Below w.heap.size w wc))
   case first =>
    have H := HC17.out
    clear HC17
    by_cases c20 : t264 = 0
    {
    rw [if_pos c20] at H
    have c20b0 : (t264 == 0) = true := beq_iff_eq.mpr c20
    have c20b1 : (t264 != 0) = false := bne_eq_false_iff_eq.mpr c20
    clear c20
    (first | rw [c20b0] | (simp only [i64_w, i32_w]; rw [c20b0]) | skip)
    have H' := aS H
    clear H
    obtain ⟨Ao21, co21, eo21⟩ := Kd.R_slice HO266.out
    subst eo21
    go_wp2
    go_meet
    case rel => exact ⟨_, (((t263.length : Int) != 1)), (by first | rfl | (simp; done) | (simp [*]; done)), H', ⟨by have := HK1.out; have := HJ8.out; first | omega | exact Nat.le_refl _⟩, ⟨by (with_reducible repeat (first | apply Kd.R_alloc | apply Kd.R_drewN | apply Kd.R_drew)); exact Kd.R_mono HO_6.out (fun _ hk => hk.2)⟩, ⟨by (with_reducible repeat (first | apply Kd.R_alloc | apply Kd.R_drewN | apply Kd.R_drew)); exact Kd.R_mono HO266.out (fun _ hk => hk.2)⟩, ⟨by repeat (first | (with_reducible first | exact HB.out | apply below_alloc | apply pw_below_drewN | apply below_drew1) | exact HB.out)⟩⟩ }
    {
    rw [if_neg c20] at H
    have c20b0 : (t264 == 0) = false := beq_eq_false_iff_ne.mpr c20
    have c20b1 : (t264 != 0) = true := bne_iff_ne.mpr c20
    (first | rw [c20b0] | (simp only [i64_w, i32_w]; rw [c20b0]) | skip)
    have H' := aS H
    clear H
    go_wp2
    go_meet
    case rel => exact ⟨_, (true), (by first | rfl | (simp; done) | (simp [*]; done)), H', ⟨by have := HK1.out; have := HJ8.out; first | omega | exact Nat.le_refl _⟩, ⟨by (with_reducible repeat (first | apply Kd.R_alloc | apply Kd.R_drewN | apply Kd.R_drew)); exact Kd.R_mono HO_6.out (fun _ hk => hk.2)⟩, ⟨by (with_reducible repeat (first | apply Kd.R_alloc | apply Kd.R_drewN | apply Kd.R_drew)); exact Kd.R_mono HO266.out (fun _ hk => hk.2)⟩, ⟨by repeat (first | (with_reducible first | exact HB.out | apply below_alloc | apply pw_below_drewN | apply below_drew1) | exact HB.out)⟩⟩ }
   case rest =>
    clear HC17
    try clear c1
    try clear c2
    try clear p2
    try clear q2
    try clear hx2
    try clear c4
    try clear c4b0
    try clear c4b1
    try clear c8
    try clear c9
    try clear c10
    try clear c10b0
    try clear c13
    try clear c14
    try clear c14b0
    try clear c15
    try clear c15b0
    try clear c20
    try clear c20b0
    try clear c20b1
    try clear hx262_0
    try clear hx262_1
    try clear hx262_2
    try clear hx262_3
    try clear p2
    try clear p262
    try clear q262
    obtain ⟨kq, x55_16, rfl, HA, HJ16, HO_6, HO_9, HB⟩ := hcut
    cases kq with
    | zero => exact absurd HA.out (by simp [hallmootlaw04_LexTokens.j2])
    | succ kj16 => {
    have H := HA.out
    clear HA
    simp only [hallmootlaw04_LexTokens.j2] at H
    by_cases c22 : x55_16 = true
    {
    subst c22
    have H1 : (none) = some r := by rw [if_pos rfl] at H; exact H
    clear H
    have H := H1
    clear H1
    exact absurd H (by simp) }
    {
    replace c22 := Bool.eq_false_iff.mpr c22
    subst c22
    have H1 : (if 0 ≤ x8_1 then (if x8_1 < (t258.length : Int) then (if 0 < (t263.length : Int) then (if (!(((rd_T30 t263 0).f0) == ((rd_T30 t258 x8_1).f0)) || (!((((rd_T30 t263 0).f1).toList) == (((rd_T30 t258 x8_1).f1).toList)) || (!(((rd_T30 t263 0).f2) == ((rd_T30 t258 x8_1).f2)) || (!(((rd_T30 t263 0).f3) == 0))))) = true then (hallmootlaw04_LexTokens.j3 kj16 a1 t257 t258 t259 x8_1 true) else (if ((rd_T30 t258 x8_1).f2) < 0 then (hallmootlaw04_LexTokens.j3 kj16 a1 t257 t258 t259 x8_1 true) else (if ((rd_T30 t258 x8_1).f2) > 1099511627776 then (hallmootlaw04_LexTokens.j3 kj16 a1 t257 t258 t259 x8_1 true) else (if ((rd_T30 t258 x8_1).f0) = 2 then (hallmootlaw04_LexTokens.j3 kj16 a1 t257 t258 t259 x8_1 false) else (hallmootlaw04_LexTokens.j3 kj16 a1 t257 t258 t259 x8_1 (((rd_T30 t258 x8_1).f2) != 0)))))) else (none)) else (none)) else (none)) = some r := by rw [if_neg (show ¬ (false = true) by decide)] at H; exact H
    clear H
    have H := H1
    clear H1
    by_cases c23 : 0 ≤ x8_1
    {
    rw [if_pos c23] at H
    have c23b0 : decide (0 ≤ x8_1) = true := decide_eq_true c23
    clear c23
    by_cases c24 : x8_1 < (t258.length : Int)
    {
    rw [if_pos c24] at H
    have c24b0 : decide (x8_1 < (t258.length : Int)) = true := decide_eq_true c24
    clear c24
    have HC25 := aS H
    clear H
    have p267 : 0 ≤ (x8_1 : Int) := dd
    have q267 : x8_1 < (t258.length : Int) := dd
    obtain ⟨ad267, e267, hx267_0, hx267_1, hx267_2, hx267_3⟩ := at_T30 (Kd.R_reads' HO_6.out).2.2 x8_1 p267 q267
    obtain rfl : ad262 = ad267 := (by injection e267)
    replace p267 := eq_true p267
    replace q267 := eq_true q267
    go_upto_region 13 with (first | ((with_reducible refine gate_dst (N := 11) rfl ?_); (try (refine gate_guard (by rfl) ?_; dsimp only)); refine box_event ?hg (N := 11) ?hd (cs := #[.int .i64 0, .string (⟨#[]⟩ : ByteArray), .int .i64 0, .int .i64 0]) (t := 30) ?hr ?_; (case hd => rfl); (case hg => rfl); (case hr => first | (go_simp; done) | (go_simp; rfl)); intro gb268 hg w26 hbox hb; have n0_ := aS (Kd.R_below (Kd.R_elderB (rr HO_6.out) gb268 (Nat.le_of_eq hg.symm)) hb); have n1_ := aS (Kd.R_below (Kd.R_elderB (rr HO_9.out) gb268 (Nat.le_of_eq hg.symm)) hb); have n2_ := aS (below_step bb hb); have n3_ := aS (hbox); have n4_ := aS ((by rw [hg]; exact bz : w.heap.size ≤ gb268)); have n5_ := aS ((by rw [hg]; exact bz : w.heap.size ≤ gb268)); clear HO_6; clear HO_9; clear HB; have HO_6 := n0_; have HO_9 := n1_; have HB := n2_; have BK268 := n3_; have GW268 := n4_; have GE268 := n5_; clear n0_ n1_ n2_ n3_ n4_ n5_; clear hb hbox hg; have hcz27_0 : w26.cell? ⟨gb268, 0, none⟩ = some (.int .i64 0) := (blk_cell BK268.out 0).trans rfl; have hcz27_1 : w26.cell? ⟨gb268, 1, none⟩ = some (.string (⟨#[]⟩ : ByteArray)) := (blk_cell BK268.out 1).trans rfl; have hcz27_2 : w26.cell? ⟨gb268, 2, none⟩ = some (.int .i64 0) := (blk_cell BK268.out 2).trans rfl; have hcz27_3 : w26.cell? ⟨gb268, 3, none⟩ = some (.int .i64 0) := (blk_cell BK268.out 3).trans rfl; have hfz27_0 := blk_frozen BK268.out 0; have hfz27_1 := blk_frozen BK268.out 1; have hfz27_2 := blk_frozen BK268.out 2; have hfz27_3 := blk_frozen BK268.out 3))
    (try simp only [Act.put, List.setIfInBounds_toArray, List.set_cons_zero, List.set_cons_succ])
    go_cut [85] (fun v85 wc => ∃ (kq : Nat) (x85_24 : Bool), v85 = .bool x85_24 ∧ Aside0 (hallmootlaw04_LexTokens.j3 kq a1 t257 t258 t259 x8_1 x85_24 = some r) ∧ Aside0 (kq ≤ kj16) ∧ Aside0 (Kd.R k30 30 wc w.heap.size (fun k_ => k_ ≠ gb268) (.slice (some ad262) t258.length co18) t258) ∧ Aside0 (wc.heap[gb268]? = some (.cells #[.int .i64 ((rd_T30 t258 x8_1).f0), .string ((rd_T30 t258 x8_1).f1), .int .i64 ((rd_T30 t258 x8_1).f2), .int .i64 0] 30 (0, 0))) ∧ Aside0 (Below w.heap.size w wc))
    case first =>
     have H := HC25.out
     clear HC25
     by_cases c28 : 0 < (t263.length : Int)
     {
     rw [if_pos c28] at H
     have c28b0 : decide (0 < (t263.length : Int)) = true := decide_eq_true c28
     have c28b1 : decide (0 < t263.length) = true := decide_eq_true (by omega)
     clear c28
     (first | rw [c28b0] | (simp only [i64_w, i32_w]; rw [c28b0]) | skip)
     by_cases c29 : (!(((rd_T30 t263 0).f0) == ((rd_T30 t258 x8_1).f0)) || (!((((rd_T30 t263 0).f1).toList) == (((rd_T30 t258 x8_1).f1).toList)) || (!(((rd_T30 t263 0).f2) == ((rd_T30 t258 x8_1).f2)) || (!(((rd_T30 t263 0).f3) == 0))))) = true
     {
     rw [if_pos c29] at H
     have c29b0 : (!(((rd_T30 t263 0).f0) == ((rd_T30 t258 x8_1).f0)) || (!((((rd_T30 t263 0).f1).toList) == (((rd_T30 t258 x8_1).f1).toList)) || (!(((rd_T30 t263 0).f2) == ((rd_T30 t258 x8_1).f2)) || (!(((rd_T30 t263 0).f3) == 0))))) = true := c29
     clear c29
     have H' := aS H
     clear H
     try go_wp2
     have n0_ : Aside0 (Kd.R k30 30 (((((w26.setCell ⟨gb268, 0, none⟩ (.int .i64 ((rd_T30 t258 x8_1).f0))).setCell ⟨gb268, 1, none⟩ (.string ((rd_T30 t258 x8_1).f1))).setCell ⟨gb268, 2, none⟩ (.int .i64 ((rd_T30 t258 x8_1).f2))).setCell ⟨gb268, 3, none⟩ (.int .i64 ((rd_T30 t258 x8_1).f3))).setCell ⟨gb268, 3, none⟩ (.int .i64 0)) w.heap.size (fun k_ => some k_ ≠ (v265 : Value).ownBlock ∧ k_ ≠ gb268) (.slice (some ad262) t258.length co18) t258) := ⟨by (with_reducible repeat (first | apply Kd.R_alloc | apply Kd.R_drewN | apply Kd.R_drew)); exact Kd.R_mono (Kd.R_far (p := ⟨gb268, 3, none⟩) (Kd.R_far (p := ⟨gb268, 3, none⟩) (Kd.R_far (p := ⟨gb268, 2, none⟩) (Kd.R_far (p := ⟨gb268, 1, none⟩) (Kd.R_far (p := ⟨gb268, 0, none⟩) (Kd.R_mono HO_6.out (fun k_ hk => (⟨hk, hk.2⟩ : _ ∧ k_ ≠ gb268))) (fun _ hk => hk.2) (.int .i64 ((rd_T30 t258 x8_1).f0))) (fun _ hk => hk.2) (.string ((rd_T30 t258 x8_1).f1))) (fun _ hk => hk.2) (.int .i64 ((rd_T30 t258 x8_1).f2))) (fun _ hk => hk.2) (.int .i64 ((rd_T30 t258 x8_1).f3))) (fun _ hk => hk.2) (.int .i64 0)) (fun _ hk => ⟨hk.1.1, hk.1.2⟩)⟩
     have n1_ : Aside0 (Kd.R k30 30 (((((w26.setCell ⟨gb268, 0, none⟩ (.int .i64 ((rd_T30 t258 x8_1).f0))).setCell ⟨gb268, 1, none⟩ (.string ((rd_T30 t258 x8_1).f1))).setCell ⟨gb268, 2, none⟩ (.int .i64 ((rd_T30 t258 x8_1).f2))).setCell ⟨gb268, 3, none⟩ (.int .i64 ((rd_T30 t258 x8_1).f3))).setCell ⟨gb268, 3, none⟩ (.int .i64 0)) w.heap.size (fun k_ => some k_ ≠ (.slice (some ad262) t258.length co18 : Value).ownBlock ∧ k_ ≠ gb268) v265 t263) := ⟨by (with_reducible repeat (first | apply Kd.R_alloc | apply Kd.R_drewN | apply Kd.R_drew)); exact Kd.R_mono (Kd.R_far (p := ⟨gb268, 3, none⟩) (Kd.R_far (p := ⟨gb268, 3, none⟩) (Kd.R_far (p := ⟨gb268, 2, none⟩) (Kd.R_far (p := ⟨gb268, 1, none⟩) (Kd.R_far (p := ⟨gb268, 0, none⟩) (Kd.R_mono HO_9.out (fun k_ hk => (⟨hk, hk.2⟩ : _ ∧ k_ ≠ gb268))) (fun _ hk => hk.2) (.int .i64 ((rd_T30 t258 x8_1).f0))) (fun _ hk => hk.2) (.string ((rd_T30 t258 x8_1).f1))) (fun _ hk => hk.2) (.int .i64 ((rd_T30 t258 x8_1).f2))) (fun _ hk => hk.2) (.int .i64 ((rd_T30 t258 x8_1).f3))) (fun _ hk => hk.2) (.int .i64 0)) (fun _ hk => ⟨hk.1.1, hk.1.2⟩)⟩
     have n2_ : Aside0 ((((((w26.setCell ⟨gb268, 0, none⟩ (.int .i64 ((rd_T30 t258 x8_1).f0))).setCell ⟨gb268, 1, none⟩ (.string ((rd_T30 t258 x8_1).f1))).setCell ⟨gb268, 2, none⟩ (.int .i64 ((rd_T30 t258 x8_1).f2))).setCell ⟨gb268, 3, none⟩ (.int .i64 ((rd_T30 t258 x8_1).f3))).setCell ⟨gb268, 3, none⟩ (.int .i64 0)).heap[gb268]? = some (.cells #[.int .i64 ((rd_T30 t258 x8_1).f0), .string ((rd_T30 t258 x8_1).f1), .int .i64 ((rd_T30 t258 x8_1).f2), .int .i64 0] 30 (0, 0))) := ⟨by (with_reducible repeat (first | refine blk_drewN ?_ _ | refine blk_drew ?_ | refine blk_alloc ?_ _)); refine blk_put (cs := #[.int .i64 ((rd_T30 t258 x8_1).f0), .string ((rd_T30 t258 x8_1).f1), .int .i64 ((rd_T30 t258 x8_1).f2), .int .i64 ((rd_T30 t258 x8_1).f3)]) ?_ 3 _ rfl; (with_reducible repeat (first | refine blk_drewN ?_ _ | refine blk_drew ?_ | refine blk_alloc ?_ _)); refine blk_put (cs := #[.int .i64 ((rd_T30 t258 x8_1).f0), .string ((rd_T30 t258 x8_1).f1), .int .i64 ((rd_T30 t258 x8_1).f2), .int .i64 0]) ?_ 3 _ rfl; (with_reducible repeat (first | refine blk_drewN ?_ _ | refine blk_drew ?_ | refine blk_alloc ?_ _)); refine blk_put (cs := #[.int .i64 ((rd_T30 t258 x8_1).f0), .string ((rd_T30 t258 x8_1).f1), .int .i64 0, .int .i64 0]) ?_ 2 _ rfl; (with_reducible repeat (first | refine blk_drewN ?_ _ | refine blk_drew ?_ | refine blk_alloc ?_ _)); refine blk_put (cs := #[.int .i64 ((rd_T30 t258 x8_1).f0), .string (⟨#[]⟩ : ByteArray), .int .i64 0, .int .i64 0]) ?_ 1 _ rfl; (with_reducible repeat (first | refine blk_drewN ?_ _ | refine blk_drew ?_ | refine blk_alloc ?_ _)); refine blk_put (cs := #[.int .i64 0, .string (⟨#[]⟩ : ByteArray), .int .i64 0, .int .i64 0]) ?_ 0 _ rfl; (with_reducible repeat (first | refine blk_drewN ?_ _ | refine blk_drew ?_ | refine blk_alloc ?_ _)); exact BK268.out⟩
     have n3_ : Aside0 (Below w.heap.size w (((((w26.setCell ⟨gb268, 0, none⟩ (.int .i64 ((rd_T30 t258 x8_1).f0))).setCell ⟨gb268, 1, none⟩ (.string ((rd_T30 t258 x8_1).f1))).setCell ⟨gb268, 2, none⟩ (.int .i64 ((rd_T30 t258 x8_1).f2))).setCell ⟨gb268, 3, none⟩ (.int .i64 ((rd_T30 t258 x8_1).f3))).setCell ⟨gb268, 3, none⟩ (.int .i64 0))) := ⟨by repeat (first | (with_reducible first | exact HB.out | apply below_alloc | apply pw_below_drewN | apply below_drew1 | refine below_set ?_ GE268.out) | exact HB.out)⟩
     (try clear HO_6)
     (try clear HO_9)
     (try clear BK268)
     (try clear HB)
     generalize (((((w26.setCell ⟨gb268, 0, none⟩ (.int .i64 ((rd_T30 t258 x8_1).f0))).setCell ⟨gb268, 1, none⟩ (.string ((rd_T30 t258 x8_1).f1))).setCell ⟨gb268, 2, none⟩ (.int .i64 ((rd_T30 t258 x8_1).f2))).setCell ⟨gb268, 3, none⟩ (.int .i64 ((rd_T30 t258 x8_1).f3))).setCell ⟨gb268, 3, none⟩ (.int .i64 0)) = w30 at n0_ n1_ n2_ n3_ ⊢
     have HO_6 := n0_
     have HO_9 := n1_
     have BK268 := n2_
     have HB := n3_
     clear n0_ n1_ n2_ n3_
     have n0_ := aS (Kd.R_drew HO_6.out)
     have n1_ := aS (Kd.R_drew HO_9.out)
     have n2_ := aS (blk_drew BK268.out)
     have n3_ := aS (below_drew1 HB.out)
     clear HO_6
     clear HO_9
     clear BK268
     clear HB
     have HO_6 := n0_
     have HO_9 := n1_
     have BK268 := n2_
     have HB := n3_
     clear n0_ n1_ n2_ n3_
     obtain ⟨Ao32, co32, eo32⟩ := Kd.R_slice HO_9.out
     (first | subst eo32 | (injection eo32 with f1_ f2_ f3_; have f4_ := f1_.symm; have f5_ := f3_.symm; clear f1_ f2_ f3_; subst f4_; subst f5_))
     have p269 : 0 ≤ (0 : Int) := (by omega)
     have q269 : 0 < (t263.length : Int) := dd
     obtain ⟨ad269, e269, hx269_0, hx269_1, hx269_2, hx269_3⟩ := at_T30 (Kd.R_reads' HO_9.out).2.2 0 p269 q269
     cases e269
     have qi269 : (0 < t263.length) = True := eq_true (by omega)
     (try rw [show ((0 : Int)).toNat = 0 from rfl] at hx269_0)
     (try rw [show 0 * 4 = 0 from rfl] at hx269_0)
     (try rw [Addr.add_zero'] at hx269_0)
     (try rw [show ((0 : Int)).toNat = 0 from rfl] at hx269_1)
     (try rw [show 0 * 4 = 0 from rfl] at hx269_1)
     (try rw [Addr.add_zero'] at hx269_1)
     (try rw [show ((0 : Int)).toNat = 0 from rfl] at hx269_2)
     (try rw [show 0 * 4 = 0 from rfl] at hx269_2)
     (try rw [Addr.add_zero'] at hx269_2)
     (try rw [show ((0 : Int)).toNat = 0 from rfl] at hx269_3)
     (try rw [show 0 * 4 = 0 from rfl] at hx269_3)
     (try rw [Addr.add_zero'] at hx269_3)
     replace p269 := eq_true p269
     replace q269 := eq_true q269
     refine start_ (n := 25) (S := fun w' => w'.cell? ⟨gb268, 0, none⟩ = some (.int .i64 ((rd_T30 t258 x8_1).f0)) ∧ w'.cell? ⟨gb268, 1, none⟩ = some (.string ((rd_T30 t258 x8_1).f1)) ∧ w'.cell? ⟨gb268, 2, none⟩ = some (.int .i64 ((rd_T30 t258 x8_1).f2)) ∧ w'.cell? ⟨gb268, 3, none⟩ = some (.int .i64 0) ∧ w'.cell? ad269 = some (.int .i64 ((rd_T30 t263 0).f0)) ∧ w'.cell? ⟨ad269.block, ad269.off + 1, none⟩ = some (.string ((rd_T30 t263 0).f1)) ∧ w'.cell? ⟨ad269.block, ad269.off + 2, none⟩ = some (.int .i64 ((rd_T30 t263 0).f2)) ∧ w'.cell? ⟨ad269.block, ad269.off + 3, none⟩ = some (.int .i64 ((rd_T30 t263 0).f3))) (ds := []) #[false, false, false, false, false, false, false, false, false, false, false, false, false, false, false, false, false, false, false, false, false, false, false, false, false] (by kernel_rfl) rfl rfl ⟨(blk_cell BK268.out 0).trans rfl, (blk_cell BK268.out 1).trans rfl, (blk_cell BK268.out 2).trans rfl, (blk_cell BK268.out 3).trans rfl, hx269_0, hx269_1, hx269_2, hx269_3⟩ (fun hHeld => ?_); refine with_tabW hallmootlaw04_LexTokens.tab13 hallmootlaw04_LexTokens.bits13 (fun HT_ HW_ => ?_)
     generalize w30.drew = w31 at HO_6 HO_9 BK268 HB hx269_0 hx269_1 hx269_2 hx269_3 hHeld ⊢
     refine pure_ (i := 0) (N := some 61) (v := ?_) (a' := ?_) #[true, false, false, false, false, false, false, false, false, false, false, false, false, false, false, false, false, false, false, false, false, false, false, false, false] rfl rfl (any_of HT_.out (by kernel_rfl)) (fun _ _ _ h => h) (Or.inl ⟨by rfl, ?_⟩) ?_ ?_
     rotate_left
     {
     intro w'
     go_simp
     with_reducible rfl }
     rotate_left
     {
     simp only [Act.put, sT, s0, s1, i64_w, i32_w]
     rfl }
     refine pure_ (i := 1) (N := some 62) (v := ?_) (a' := ?_) #[true, true, false, false, false, false, false, false, false, false, false, false, false, false, false, false, false, false, false, false, false, false, false, false, false] rfl rfl (any_of HT_.out (by kernel_rfl)) (fun _ _ _ h => h) (Or.inl ⟨by rfl, ?_⟩) ?_ ?_
     rotate_left
     {
     intro w'
     go_simp
     with_reducible rfl }
     rotate_left
     {
     simp only [Act.put, sT, s0, s1, i64_w, i32_w]
     rfl }
     refine take_ (i := 2) (N := some 63) (v := ?_) (a' := ?_) #[true, true, true, false, false, false, false, false, false, false, false, false, false, false, false, false, false, false, false, false, false, false, false, false, false] rfl rfl (take_ofW HT_.out HW_.out (by kernel_rfl)) (fun _ _ _ h => h) (Or.inl ⟨by rfl, ?_⟩) hHeld ?_ ?_
     rotate_left
     {
     rintro w' ⟨s0, s1, s2, s3, s4, s5, s6, s7⟩
     go_simp
     with_reducible rfl }
     rotate_left
     {
     simp only [Act.put, sT, s0, s1, i64_w, i32_w]
     rfl }
     refine take_ (i := 3) (N := some 64) (v := ?_) (a' := ?_) #[true, true, true, true, false, false, false, false, false, false, false, false, false, false, false, false, false, false, false, false, false, false, false, false, false] rfl rfl (take_ofW HT_.out HW_.out (by kernel_rfl)) (fun _ _ _ h => h) (Or.inl ⟨by rfl, ?_⟩) hHeld ?_ ?_
     rotate_left
     {
     rintro w' ⟨s0, s1, s2, s3, s4, s5, s6, s7⟩
     go_simp
     with_reducible rfl }
     rotate_left
     {
     simp only [Act.put, sT, s0, s1, i64_w, i32_w]
     rfl }
     refine pure_ (i := 4) (N := some 65) (v := ?_) (a' := ?_) #[true, true, true, true, true, false, false, false, false, false, false, false, false, false, false, false, false, false, false, false, false, false, false, false, false] rfl rfl (any_of HT_.out (by kernel_rfl)) (fun _ _ _ h => h) (Or.inl ⟨by rfl, ?_⟩) ?_ ?_
     rotate_left
     {
     intro w'
     go_simp
     with_reducible rfl }
     rotate_left
     {
     simp only [Act.put, sT, s0, s1, i64_w, i32_w]
     rfl }
     refine pure_ (i := 5) (N := some 66) (v := ?_) (a' := ?_) #[true, true, true, true, true, true, false, false, false, false, false, false, false, false, false, false, false, false, false, false, false, false, false, false, false] rfl rfl (any_of HT_.out (by kernel_rfl)) (fun _ _ _ h => h) (Or.inl ⟨by rfl, ?_⟩) ?_ ?_
     rotate_left
     {
     intro w'
     go_simp
     with_reducible rfl }
     rotate_left
     {
     simp only [Act.put, sT, s0, s1, i64_w, i32_w]
     rfl }
     refine pure_ (i := 6) (N := some 67) (v := undef) (a' := ?_) #[true, true, true, true, true, true, true, false, false, false, false, false, false, false, false, false, false, false, false, false, false, false, false, false, false] rfl rfl (any_of HT_.out (by kernel_rfl)) (fun _ _ _ h => h) (Or.inr ⟨by rfl, rfl⟩) ?_ ?_
     rotate_left
     {
     simp only [Act.put, sT, s0, s1, i64_w, i32_w]
     rfl }
     refine pure_ (i := 7) (N := some 68) (v := undef) (a' := ?_) #[true, true, true, true, true, true, true, true, false, false, false, false, false, false, false, false, false, false, false, false, false, false, false, false, false] rfl rfl (any_of HT_.out (by kernel_rfl)) (fun _ _ _ h => h) (Or.inr ⟨by rfl, rfl⟩) ?_ ?_
     rotate_left
     {
     simp only [Act.put, sT, s0, s1, i64_w, i32_w]
     rfl }
     refine pure_ (i := 8) (N := some 69) (v := undef) (a' := ?_) #[true, true, true, true, true, true, true, true, true, false, false, false, false, false, false, false, false, false, false, false, false, false, false, false, false] rfl rfl (any_of HT_.out (by kernel_rfl)) (fun _ _ _ h => h) (Or.inr ⟨by rfl, rfl⟩) ?_ ?_
     rotate_left
     {
     simp only [Act.put, sT, s0, s1, i64_w, i32_w]
     rfl }
     refine pure_ (i := 9) (N := some 70) (v := ?_) (a' := ?_) #[true, true, true, true, true, true, true, true, true, true, false, false, false, false, false, false, false, false, false, false, false, false, false, false, false] rfl rfl (any_of HT_.out (by kernel_rfl)) (fun _ _ _ h => h) (Or.inl ⟨by rfl, ?_⟩) ?_ ?_
     rotate_left
     {
     intro w'
     go_simp
     with_reducible rfl }
     rotate_left
     {
     simp only [Act.put, sT, s0, s1, i64_w, i32_w]
     rfl }
     refine pure_ (i := 10) (N := some 71) (v := ?_) (a' := ?_) #[true, true, true, true, true, true, true, true, true, true, true, false, false, false, false, false, false, false, false, false, false, false, false, false, false] rfl rfl (any_of HT_.out (by kernel_rfl)) (fun _ _ _ h => h) (Or.inl ⟨by rfl, ?_⟩) ?_ ?_
     rotate_left
     {
     intro w'
     go_simp
     with_reducible rfl }
     rotate_left
     {
     simp only [Act.put, sT, s0, s1, i64_w, i32_w]
     rfl }
     refine pure_ (i := 11) (N := some 72) (v := undef) (a' := ?_) #[true, true, true, true, true, true, true, true, true, true, true, true, false, false, false, false, false, false, false, false, false, false, false, false, false] rfl rfl (any_of HT_.out (by kernel_rfl)) (fun _ _ _ h => h) (Or.inr ⟨by rfl, rfl⟩) ?_ ?_
     rotate_left
     {
     simp only [Act.put, sT, s0, s1, i64_w, i32_w]
     rfl }
     refine pure_ (i := 12) (N := some 73) (v := undef) (a' := ?_) #[true, true, true, true, true, true, true, true, true, true, true, true, true, false, false, false, false, false, false, false, false, false, false, false, false] rfl rfl (any_of HT_.out (by kernel_rfl)) (fun _ _ _ h => h) (Or.inr ⟨by rfl, rfl⟩) ?_ ?_
     rotate_left
     {
     simp only [Act.put, sT, s0, s1, i64_w, i32_w]
     rfl }
     refine pure_ (i := 13) (N := some 74) (v := undef) (a' := ?_) #[true, true, true, true, true, true, true, true, true, true, true, true, true, true, false, false, false, false, false, false, false, false, false, false, false] rfl rfl (any_of HT_.out (by kernel_rfl)) (fun _ _ _ h => h) (Or.inr ⟨by rfl, rfl⟩) ?_ ?_
     rotate_left
     {
     simp only [Act.put, sT, s0, s1, i64_w, i32_w]
     rfl }
     refine pure_ (i := 14) (N := some 75) (v := ?_) (a' := ?_) #[true, true, true, true, true, true, true, true, true, true, true, true, true, true, true, false, false, false, false, false, false, false, false, false, false] rfl rfl (any_of HT_.out (by kernel_rfl)) (fun _ _ _ h => h) (Or.inl ⟨by rfl, ?_⟩) ?_ ?_
     rotate_left
     {
     intro w'
     go_simp
     with_reducible rfl }
     rotate_left
     {
     simp only [Act.put, sT, s0, s1, i64_w, i32_w]
     rfl }
     refine pure_ (i := 15) (N := some 76) (v := ?_) (a' := ?_) #[true, true, true, true, true, true, true, true, true, true, true, true, true, true, true, true, false, false, false, false, false, false, false, false, false] rfl rfl (any_of HT_.out (by kernel_rfl)) (fun _ _ _ h => h) (Or.inl ⟨by rfl, ?_⟩) ?_ ?_
     rotate_left
     {
     intro w'
     go_simp
     with_reducible rfl }
     rotate_left
     {
     simp only [Act.put, sT, s0, s1, i64_w, i32_w]
     rfl }
     refine pure_ (i := 16) (N := some 77) (v := undef) (a' := ?_) #[true, true, true, true, true, true, true, true, true, true, true, true, true, true, true, true, true, false, false, false, false, false, false, false, false] rfl rfl (any_of HT_.out (by kernel_rfl)) (fun _ _ _ h => h) (Or.inr ⟨by rfl, rfl⟩) ?_ ?_
     rotate_left
     {
     simp only [Act.put, sT, s0, s1, i64_w, i32_w]
     rfl }
     refine pure_ (i := 17) (N := some 78) (v := undef) (a' := ?_) #[true, true, true, true, true, true, true, true, true, true, true, true, true, true, true, true, true, true, false, false, false, false, false, false, false] rfl rfl (any_of HT_.out (by kernel_rfl)) (fun _ _ _ h => h) (Or.inr ⟨by rfl, rfl⟩) ?_ ?_
     rotate_left
     {
     simp only [Act.put, sT, s0, s1, i64_w, i32_w]
     rfl }
     refine pure_ (i := 18) (N := some 79) (v := undef) (a' := ?_) #[true, true, true, true, true, true, true, true, true, true, true, true, true, true, true, true, true, true, true, false, false, false, false, false, false] rfl rfl (any_of HT_.out (by kernel_rfl)) (fun _ _ _ h => h) (Or.inr ⟨by rfl, rfl⟩) ?_ ?_
     rotate_left
     {
     simp only [Act.put, sT, s0, s1, i64_w, i32_w]
     rfl }
     refine pure_ (i := 19) (N := some 80) (v := undef) (a' := ?_) #[true, true, true, true, true, true, true, true, true, true, true, true, true, true, true, true, true, true, true, true, false, false, false, false, false] rfl rfl (any_of HT_.out (by kernel_rfl)) (fun _ _ _ h => h) (Or.inr ⟨by rfl, rfl⟩) ?_ ?_
     rotate_left
     {
     simp only [Act.put, sT, s0, s1, i64_w, i32_w]
     rfl }
     refine pure_ (i := 20) (N := some 81) (v := undef) (a' := ?_) #[true, true, true, true, true, true, true, true, true, true, true, true, true, true, true, true, true, true, true, true, true, false, false, false, false] rfl rfl (any_of HT_.out (by kernel_rfl)) (fun _ _ _ h => h) (Or.inr ⟨by rfl, rfl⟩) ?_ ?_
     rotate_left
     {
     simp only [Act.put, sT, s0, s1, i64_w, i32_w]
     rfl }
     refine pure_ (i := 21) (N := some 82) (v := undef) (a' := ?_) #[true, true, true, true, true, true, true, true, true, true, true, true, true, true, true, true, true, true, true, true, true, true, false, false, false] rfl rfl (any_of HT_.out (by kernel_rfl)) (fun _ _ _ h => h) (Or.inr ⟨by rfl, rfl⟩) ?_ ?_
     rotate_left
     {
     simp only [Act.put, sT, s0, s1, i64_w, i32_w]
     rfl }
     refine pure_ (i := 22) (N := some 83) (v := undef) (a' := ?_) #[true, true, true, true, true, true, true, true, true, true, true, true, true, true, true, true, true, true, true, true, true, true, true, false, false] rfl rfl (any_of HT_.out (by kernel_rfl)) (fun _ _ _ h => h) (Or.inr ⟨by rfl, rfl⟩) ?_ ?_
     rotate_left
     {
     simp only [Act.put, sT, s0, s1, i64_w, i32_w]
     rfl }
     refine pure_ (i := 23) (N := some 84) (v := undef) (a' := ?_) #[true, true, true, true, true, true, true, true, true, true, true, true, true, true, true, true, true, true, true, true, true, true, true, true, false] rfl rfl (any_of HT_.out (by kernel_rfl)) (fun _ _ _ h => h) (Or.inr ⟨by rfl, rfl⟩) ?_ ?_
     rotate_left
     {
     simp only [Act.put, sT, s0, s1, i64_w, i32_w]
     rfl }
     refine pure_ (i := 24) (N := some 85) (v := ?_) (a' := ?_) #[true, true, true, true, true, true, true, true, true, true, true, true, true, true, true, true, true, true, true, true, true, true, true, true, true] rfl rfl (any_of HT_.out (by kernel_rfl)) (fun _ _ _ h => h) (Or.inl ⟨by rfl, ?_⟩) ?_ ?_
     rotate_left
     {
     intro w'
     go_simp
     with_reducible rfl }
     rotate_left
     {
     simp only [Act.put, sT, s0, s1, i64_w, i32_w]
     rfl }
     refine done_ (done_of HT_.out (by kernel_rfl)) ?_
     try go_wp2
     go_meet
     case rel => exact ⟨_, (true), (by first | rfl | (simp; done) | (simp [*]; done)), H', ⟨by have := HK1.out; have := HJ8.out; have := HJ16.out; first | omega | exact Nat.le_refl _⟩, ⟨by (with_reducible repeat (first | apply Kd.R_alloc | apply Kd.R_drewN | apply Kd.R_drew)); exact Kd.R_mono HO_6.out (fun _ hk => hk.2)⟩, ⟨kk BK268.out⟩, ⟨by repeat (first | (with_reducible first | exact HB.out | apply below_alloc | apply pw_below_drewN | apply below_drew1 | refine below_set ?_ GE268.out) | exact HB.out)⟩⟩ }
     {
     rw [if_neg c29] at H
     have c29b0 : (!(((rd_T30 t263 0).f0) == ((rd_T30 t258 x8_1).f0)) || (!((((rd_T30 t263 0).f1).toList) == (((rd_T30 t258 x8_1).f1).toList)) || (!(((rd_T30 t263 0).f2) == ((rd_T30 t258 x8_1).f2)) || (!(((rd_T30 t263 0).f3) == 0))))) = false := by simpa using c29
     clear c29
     by_cases c33 : ((rd_T30 t258 x8_1).f2) < 0
     {
     rw [if_pos c33] at H
     have c33b0 : decide (((rd_T30 t258 x8_1).f2) < 0) = true := decide_eq_true c33
     clear c33
     have H' := aS H
     clear H
     try go_wp2
     have n0_ : Aside0 (Kd.R k30 30 (((((w26.setCell ⟨gb268, 0, none⟩ (.int .i64 ((rd_T30 t258 x8_1).f0))).setCell ⟨gb268, 1, none⟩ (.string ((rd_T30 t258 x8_1).f1))).setCell ⟨gb268, 2, none⟩ (.int .i64 ((rd_T30 t258 x8_1).f2))).setCell ⟨gb268, 3, none⟩ (.int .i64 ((rd_T30 t258 x8_1).f3))).setCell ⟨gb268, 3, none⟩ (.int .i64 0)) w.heap.size (fun k_ => some k_ ≠ (v265 : Value).ownBlock ∧ k_ ≠ gb268) (.slice (some ad262) t258.length co18) t258) := ⟨by (with_reducible repeat (first | apply Kd.R_alloc | apply Kd.R_drewN | apply Kd.R_drew)); exact Kd.R_mono (Kd.R_far (p := ⟨gb268, 3, none⟩) (Kd.R_far (p := ⟨gb268, 3, none⟩) (Kd.R_far (p := ⟨gb268, 2, none⟩) (Kd.R_far (p := ⟨gb268, 1, none⟩) (Kd.R_far (p := ⟨gb268, 0, none⟩) (Kd.R_mono HO_6.out (fun k_ hk => (⟨hk, hk.2⟩ : _ ∧ k_ ≠ gb268))) (fun _ hk => hk.2) (.int .i64 ((rd_T30 t258 x8_1).f0))) (fun _ hk => hk.2) (.string ((rd_T30 t258 x8_1).f1))) (fun _ hk => hk.2) (.int .i64 ((rd_T30 t258 x8_1).f2))) (fun _ hk => hk.2) (.int .i64 ((rd_T30 t258 x8_1).f3))) (fun _ hk => hk.2) (.int .i64 0)) (fun _ hk => ⟨hk.1.1, hk.1.2⟩)⟩
     have n1_ : Aside0 (Kd.R k30 30 (((((w26.setCell ⟨gb268, 0, none⟩ (.int .i64 ((rd_T30 t258 x8_1).f0))).setCell ⟨gb268, 1, none⟩ (.string ((rd_T30 t258 x8_1).f1))).setCell ⟨gb268, 2, none⟩ (.int .i64 ((rd_T30 t258 x8_1).f2))).setCell ⟨gb268, 3, none⟩ (.int .i64 ((rd_T30 t258 x8_1).f3))).setCell ⟨gb268, 3, none⟩ (.int .i64 0)) w.heap.size (fun k_ => some k_ ≠ (.slice (some ad262) t258.length co18 : Value).ownBlock ∧ k_ ≠ gb268) v265 t263) := ⟨by (with_reducible repeat (first | apply Kd.R_alloc | apply Kd.R_drewN | apply Kd.R_drew)); exact Kd.R_mono (Kd.R_far (p := ⟨gb268, 3, none⟩) (Kd.R_far (p := ⟨gb268, 3, none⟩) (Kd.R_far (p := ⟨gb268, 2, none⟩) (Kd.R_far (p := ⟨gb268, 1, none⟩) (Kd.R_far (p := ⟨gb268, 0, none⟩) (Kd.R_mono HO_9.out (fun k_ hk => (⟨hk, hk.2⟩ : _ ∧ k_ ≠ gb268))) (fun _ hk => hk.2) (.int .i64 ((rd_T30 t258 x8_1).f0))) (fun _ hk => hk.2) (.string ((rd_T30 t258 x8_1).f1))) (fun _ hk => hk.2) (.int .i64 ((rd_T30 t258 x8_1).f2))) (fun _ hk => hk.2) (.int .i64 ((rd_T30 t258 x8_1).f3))) (fun _ hk => hk.2) (.int .i64 0)) (fun _ hk => ⟨hk.1.1, hk.1.2⟩)⟩
     have n2_ : Aside0 ((((((w26.setCell ⟨gb268, 0, none⟩ (.int .i64 ((rd_T30 t258 x8_1).f0))).setCell ⟨gb268, 1, none⟩ (.string ((rd_T30 t258 x8_1).f1))).setCell ⟨gb268, 2, none⟩ (.int .i64 ((rd_T30 t258 x8_1).f2))).setCell ⟨gb268, 3, none⟩ (.int .i64 ((rd_T30 t258 x8_1).f3))).setCell ⟨gb268, 3, none⟩ (.int .i64 0)).heap[gb268]? = some (.cells #[.int .i64 ((rd_T30 t258 x8_1).f0), .string ((rd_T30 t258 x8_1).f1), .int .i64 ((rd_T30 t258 x8_1).f2), .int .i64 0] 30 (0, 0))) := ⟨by (with_reducible repeat (first | refine blk_drewN ?_ _ | refine blk_drew ?_ | refine blk_alloc ?_ _)); refine blk_put (cs := #[.int .i64 ((rd_T30 t258 x8_1).f0), .string ((rd_T30 t258 x8_1).f1), .int .i64 ((rd_T30 t258 x8_1).f2), .int .i64 ((rd_T30 t258 x8_1).f3)]) ?_ 3 _ rfl; (with_reducible repeat (first | refine blk_drewN ?_ _ | refine blk_drew ?_ | refine blk_alloc ?_ _)); refine blk_put (cs := #[.int .i64 ((rd_T30 t258 x8_1).f0), .string ((rd_T30 t258 x8_1).f1), .int .i64 ((rd_T30 t258 x8_1).f2), .int .i64 0]) ?_ 3 _ rfl; (with_reducible repeat (first | refine blk_drewN ?_ _ | refine blk_drew ?_ | refine blk_alloc ?_ _)); refine blk_put (cs := #[.int .i64 ((rd_T30 t258 x8_1).f0), .string ((rd_T30 t258 x8_1).f1), .int .i64 0, .int .i64 0]) ?_ 2 _ rfl; (with_reducible repeat (first | refine blk_drewN ?_ _ | refine blk_drew ?_ | refine blk_alloc ?_ _)); refine blk_put (cs := #[.int .i64 ((rd_T30 t258 x8_1).f0), .string (⟨#[]⟩ : ByteArray), .int .i64 0, .int .i64 0]) ?_ 1 _ rfl; (with_reducible repeat (first | refine blk_drewN ?_ _ | refine blk_drew ?_ | refine blk_alloc ?_ _)); refine blk_put (cs := #[.int .i64 0, .string (⟨#[]⟩ : ByteArray), .int .i64 0, .int .i64 0]) ?_ 0 _ rfl; (with_reducible repeat (first | refine blk_drewN ?_ _ | refine blk_drew ?_ | refine blk_alloc ?_ _)); exact BK268.out⟩
     have n3_ : Aside0 (Below w.heap.size w (((((w26.setCell ⟨gb268, 0, none⟩ (.int .i64 ((rd_T30 t258 x8_1).f0))).setCell ⟨gb268, 1, none⟩ (.string ((rd_T30 t258 x8_1).f1))).setCell ⟨gb268, 2, none⟩ (.int .i64 ((rd_T30 t258 x8_1).f2))).setCell ⟨gb268, 3, none⟩ (.int .i64 ((rd_T30 t258 x8_1).f3))).setCell ⟨gb268, 3, none⟩ (.int .i64 0))) := ⟨by repeat (first | (with_reducible first | exact HB.out | apply below_alloc | apply pw_below_drewN | apply below_drew1 | refine below_set ?_ GE268.out) | exact HB.out)⟩
     (try clear HO_6)
     (try clear HO_9)
     (try clear BK268)
     (try clear HB)
     generalize (((((w26.setCell ⟨gb268, 0, none⟩ (.int .i64 ((rd_T30 t258 x8_1).f0))).setCell ⟨gb268, 1, none⟩ (.string ((rd_T30 t258 x8_1).f1))).setCell ⟨gb268, 2, none⟩ (.int .i64 ((rd_T30 t258 x8_1).f2))).setCell ⟨gb268, 3, none⟩ (.int .i64 ((rd_T30 t258 x8_1).f3))).setCell ⟨gb268, 3, none⟩ (.int .i64 0)) = w34 at n0_ n1_ n2_ n3_ ⊢
     have HO_6 := n0_
     have HO_9 := n1_
     have BK268 := n2_
     have HB := n3_
     clear n0_ n1_ n2_ n3_
     have n0_ := aS (Kd.R_drew HO_6.out)
     have n1_ := aS (Kd.R_drew HO_9.out)
     have n2_ := aS (blk_drew BK268.out)
     have n3_ := aS (below_drew1 HB.out)
     clear HO_6
     clear HO_9
     clear BK268
     clear HB
     have HO_6 := n0_
     have HO_9 := n1_
     have BK268 := n2_
     have HB := n3_
     clear n0_ n1_ n2_ n3_
     obtain ⟨Ao36, co36, eo36⟩ := Kd.R_slice HO_9.out
     (first | subst eo36 | (injection eo36 with f1_ f2_ f3_; have f4_ := f1_.symm; have f5_ := f3_.symm; clear f1_ f2_ f3_; subst f4_; subst f5_))
     have p269 : 0 ≤ (0 : Int) := (by omega)
     have q269 : 0 < (t263.length : Int) := dd
     obtain ⟨ad269, e269, hx269_0, hx269_1, hx269_2, hx269_3⟩ := at_T30 (Kd.R_reads' HO_9.out).2.2 0 p269 q269
     cases e269
     have qi269 : (0 < t263.length) = True := eq_true (by omega)
     (try rw [show ((0 : Int)).toNat = 0 from rfl] at hx269_0)
     (try rw [show 0 * 4 = 0 from rfl] at hx269_0)
     (try rw [Addr.add_zero'] at hx269_0)
     (try rw [show ((0 : Int)).toNat = 0 from rfl] at hx269_1)
     (try rw [show 0 * 4 = 0 from rfl] at hx269_1)
     (try rw [Addr.add_zero'] at hx269_1)
     (try rw [show ((0 : Int)).toNat = 0 from rfl] at hx269_2)
     (try rw [show 0 * 4 = 0 from rfl] at hx269_2)
     (try rw [Addr.add_zero'] at hx269_2)
     (try rw [show ((0 : Int)).toNat = 0 from rfl] at hx269_3)
     (try rw [show 0 * 4 = 0 from rfl] at hx269_3)
     (try rw [Addr.add_zero'] at hx269_3)
     replace p269 := eq_true p269
     replace q269 := eq_true q269
     refine start_ (n := 25) (S := fun w' => w'.cell? ⟨gb268, 0, none⟩ = some (.int .i64 ((rd_T30 t258 x8_1).f0)) ∧ w'.cell? ⟨gb268, 1, none⟩ = some (.string ((rd_T30 t258 x8_1).f1)) ∧ w'.cell? ⟨gb268, 2, none⟩ = some (.int .i64 ((rd_T30 t258 x8_1).f2)) ∧ w'.cell? ⟨gb268, 3, none⟩ = some (.int .i64 0) ∧ w'.cell? ad269 = some (.int .i64 ((rd_T30 t263 0).f0)) ∧ w'.cell? ⟨ad269.block, ad269.off + 1, none⟩ = some (.string ((rd_T30 t263 0).f1)) ∧ w'.cell? ⟨ad269.block, ad269.off + 2, none⟩ = some (.int .i64 ((rd_T30 t263 0).f2)) ∧ w'.cell? ⟨ad269.block, ad269.off + 3, none⟩ = some (.int .i64 ((rd_T30 t263 0).f3))) (ds := []) #[false, false, false, false, false, false, false, false, false, false, false, false, false, false, false, false, false, false, false, false, false, false, false, false, false] (by kernel_rfl) rfl rfl ⟨(blk_cell BK268.out 0).trans rfl, (blk_cell BK268.out 1).trans rfl, (blk_cell BK268.out 2).trans rfl, (blk_cell BK268.out 3).trans rfl, hx269_0, hx269_1, hx269_2, hx269_3⟩ (fun hHeld => ?_); refine with_tabW hallmootlaw04_LexTokens.tab13 hallmootlaw04_LexTokens.bits13 (fun HT_ HW_ => ?_)
     generalize w34.drew = w35 at HO_6 HO_9 BK268 HB hx269_0 hx269_1 hx269_2 hx269_3 hHeld ⊢
     refine pure_ (i := 0) (N := some 61) (v := ?_) (a' := ?_) #[true, false, false, false, false, false, false, false, false, false, false, false, false, false, false, false, false, false, false, false, false, false, false, false, false] rfl rfl (any_of HT_.out (by kernel_rfl)) (fun _ _ _ h => h) (Or.inl ⟨by rfl, ?_⟩) ?_ ?_
     rotate_left
     {
     intro w'
     go_simp
     with_reducible rfl }
     rotate_left
     {
     simp only [Act.put, sT, s0, s1, i64_w, i32_w]
     rfl }
     refine pure_ (i := 1) (N := some 62) (v := ?_) (a' := ?_) #[true, true, false, false, false, false, false, false, false, false, false, false, false, false, false, false, false, false, false, false, false, false, false, false, false] rfl rfl (any_of HT_.out (by kernel_rfl)) (fun _ _ _ h => h) (Or.inl ⟨by rfl, ?_⟩) ?_ ?_
     rotate_left
     {
     intro w'
     go_simp
     with_reducible rfl }
     rotate_left
     {
     simp only [Act.put, sT, s0, s1, i64_w, i32_w]
     rfl }
     refine take_ (i := 2) (N := some 63) (v := ?_) (a' := ?_) #[true, true, true, false, false, false, false, false, false, false, false, false, false, false, false, false, false, false, false, false, false, false, false, false, false] rfl rfl (take_ofW HT_.out HW_.out (by kernel_rfl)) (fun _ _ _ h => h) (Or.inl ⟨by rfl, ?_⟩) hHeld ?_ ?_
     rotate_left
     {
     rintro w' ⟨s0, s1, s2, s3, s4, s5, s6, s7⟩
     go_simp
     with_reducible rfl }
     rotate_left
     {
     simp only [Act.put, sT, s0, s1, i64_w, i32_w]
     rfl }
     refine take_ (i := 3) (N := some 64) (v := ?_) (a' := ?_) #[true, true, true, true, false, false, false, false, false, false, false, false, false, false, false, false, false, false, false, false, false, false, false, false, false] rfl rfl (take_ofW HT_.out HW_.out (by kernel_rfl)) (fun _ _ _ h => h) (Or.inl ⟨by rfl, ?_⟩) hHeld ?_ ?_
     rotate_left
     {
     rintro w' ⟨s0, s1, s2, s3, s4, s5, s6, s7⟩
     go_simp
     with_reducible rfl }
     rotate_left
     {
     simp only [Act.put, sT, s0, s1, i64_w, i32_w]
     rfl }
     refine pure_ (i := 4) (N := some 65) (v := ?_) (a' := ?_) #[true, true, true, true, true, false, false, false, false, false, false, false, false, false, false, false, false, false, false, false, false, false, false, false, false] rfl rfl (any_of HT_.out (by kernel_rfl)) (fun _ _ _ h => h) (Or.inl ⟨by rfl, ?_⟩) ?_ ?_
     rotate_left
     {
     intro w'
     go_simp
     with_reducible rfl }
     rotate_left
     {
     simp only [Act.put, sT, s0, s1, i64_w, i32_w]
     rfl }
     refine pure_ (i := 5) (N := some 66) (v := ?_) (a' := ?_) #[true, true, true, true, true, true, false, false, false, false, false, false, false, false, false, false, false, false, false, false, false, false, false, false, false] rfl rfl (any_of HT_.out (by kernel_rfl)) (fun _ _ _ h => h) (Or.inl ⟨by rfl, ?_⟩) ?_ ?_
     rotate_left
     {
     intro w'
     go_simp
     with_reducible rfl }
     rotate_left
     {
     simp only [Act.put, sT, s0, s1, i64_w, i32_w]
     rfl }
     refine pure_ (i := 6) (N := some 67) (v := ?_) (a' := ?_) #[true, true, true, true, true, true, true, false, false, false, false, false, false, false, false, false, false, false, false, false, false, false, false, false, false] rfl rfl (any_of HT_.out (by kernel_rfl)) (fun _ _ _ h => h) (Or.inl ⟨by rfl, ?_⟩) ?_ ?_
     rotate_left
     {
     intro w'
     go_simp
     with_reducible rfl }
     rotate_left
     {
     simp only [Act.put, sT, s0, s1, i64_w, i32_w]
     rfl }
     refine take_ (i := 7) (N := some 68) (v := ?_) (a' := ?_) #[true, true, true, true, true, true, true, true, false, false, false, false, false, false, false, false, false, false, false, false, false, false, false, false, false] rfl rfl (take_ofW HT_.out HW_.out (by kernel_rfl)) (fun _ _ _ h => h) (Or.inl ⟨by rfl, ?_⟩) hHeld ?_ ?_
     rotate_left
     {
     rintro w' ⟨s0, s1, s2, s3, s4, s5, s6, s7⟩
     go_simp
     with_reducible rfl }
     rotate_left
     {
     simp only [Act.put, sT, s0, s1, i64_w, i32_w]
     rfl }
     refine pure_ (i := 8) (N := some 69) (v := ?_) (a' := ?_) #[true, true, true, true, true, true, true, true, true, false, false, false, false, false, false, false, false, false, false, false, false, false, false, false, false] rfl rfl (any_of HT_.out (by kernel_rfl)) (fun _ _ _ h => h) (Or.inl ⟨by rfl, ?_⟩) ?_ ?_
     rotate_left
     {
     intro w'
     go_simp
     with_reducible rfl }
     rotate_left
     {
     simp only [Act.put, sT, s0, s1, i64_w, i32_w]
     rfl }
     refine pure_ (i := 9) (N := some 70) (v := ?_) (a' := ?_) #[true, true, true, true, true, true, true, true, true, true, false, false, false, false, false, false, false, false, false, false, false, false, false, false, false] rfl rfl (any_of HT_.out (by kernel_rfl)) (fun _ _ _ h => h) (Or.inl ⟨by rfl, ?_⟩) ?_ ?_
     rotate_left
     {
     intro w'
     go_simp
     with_reducible rfl }
     rotate_left
     {
     simp only [Act.put, sT, s0, s1, i64_w, i32_w]
     rfl }
     refine pure_ (i := 10) (N := some 71) (v := ?_) (a' := ?_) #[true, true, true, true, true, true, true, true, true, true, true, false, false, false, false, false, false, false, false, false, false, false, false, false, false] rfl rfl (any_of HT_.out (by kernel_rfl)) (fun _ _ _ h => h) (Or.inl ⟨by rfl, ?_⟩) ?_ ?_
     rotate_left
     {
     intro w'
     go_simp
     with_reducible rfl }
     rotate_left
     {
     simp only [Act.put, sT, s0, s1, i64_w, i32_w]
     rfl }
     refine pure_ (i := 11) (N := some 72) (v := undef) (a' := ?_) #[true, true, true, true, true, true, true, true, true, true, true, true, false, false, false, false, false, false, false, false, false, false, false, false, false] rfl rfl (any_of HT_.out (by kernel_rfl)) (fun _ _ _ h => h) (Or.inr ⟨by rfl, rfl⟩) ?_ ?_
     rotate_left
     {
     simp only [Act.put, sT, s0, s1, i64_w, i32_w]
     rfl }
     refine pure_ (i := 12) (N := some 73) (v := undef) (a' := ?_) #[true, true, true, true, true, true, true, true, true, true, true, true, true, false, false, false, false, false, false, false, false, false, false, false, false] rfl rfl (any_of HT_.out (by kernel_rfl)) (fun _ _ _ h => h) (Or.inr ⟨by rfl, rfl⟩) ?_ ?_
     rotate_left
     {
     simp only [Act.put, sT, s0, s1, i64_w, i32_w]
     rfl }
     refine pure_ (i := 13) (N := some 74) (v := undef) (a' := ?_) #[true, true, true, true, true, true, true, true, true, true, true, true, true, true, false, false, false, false, false, false, false, false, false, false, false] rfl rfl (any_of HT_.out (by kernel_rfl)) (fun _ _ _ h => h) (Or.inr ⟨by rfl, rfl⟩) ?_ ?_
     rotate_left
     {
     simp only [Act.put, sT, s0, s1, i64_w, i32_w]
     rfl }
     refine pure_ (i := 14) (N := some 75) (v := ?_) (a' := ?_) #[true, true, true, true, true, true, true, true, true, true, true, true, true, true, true, false, false, false, false, false, false, false, false, false, false] rfl rfl (any_of HT_.out (by kernel_rfl)) (fun _ _ _ h => h) (Or.inl ⟨by rfl, ?_⟩) ?_ ?_
     rotate_left
     {
     intro w'
     go_simp
     with_reducible rfl }
     rotate_left
     {
     simp only [Act.put, sT, s0, s1, i64_w, i32_w]
     rfl }
     refine pure_ (i := 15) (N := some 76) (v := ?_) (a' := ?_) #[true, true, true, true, true, true, true, true, true, true, true, true, true, true, true, true, false, false, false, false, false, false, false, false, false] rfl rfl (any_of HT_.out (by kernel_rfl)) (fun _ _ _ h => h) (Or.inl ⟨by rfl, ?_⟩) ?_ ?_
     rotate_left
     {
     intro w'
     go_simp
     with_reducible rfl }
     rotate_left
     {
     simp only [Act.put, sT, s0, s1, i64_w, i32_w]
     rfl }
     refine pure_ (i := 16) (N := some 77) (v := undef) (a' := ?_) #[true, true, true, true, true, true, true, true, true, true, true, true, true, true, true, true, true, false, false, false, false, false, false, false, false] rfl rfl (any_of HT_.out (by kernel_rfl)) (fun _ _ _ h => h) (Or.inr ⟨by rfl, rfl⟩) ?_ ?_
     rotate_left
     {
     simp only [Act.put, sT, s0, s1, i64_w, i32_w]
     rfl }
     refine pure_ (i := 17) (N := some 78) (v := undef) (a' := ?_) #[true, true, true, true, true, true, true, true, true, true, true, true, true, true, true, true, true, true, false, false, false, false, false, false, false] rfl rfl (any_of HT_.out (by kernel_rfl)) (fun _ _ _ h => h) (Or.inr ⟨by rfl, rfl⟩) ?_ ?_
     rotate_left
     {
     simp only [Act.put, sT, s0, s1, i64_w, i32_w]
     rfl }
     refine pure_ (i := 18) (N := some 79) (v := undef) (a' := ?_) #[true, true, true, true, true, true, true, true, true, true, true, true, true, true, true, true, true, true, true, false, false, false, false, false, false] rfl rfl (any_of HT_.out (by kernel_rfl)) (fun _ _ _ h => h) (Or.inr ⟨by rfl, rfl⟩) ?_ ?_
     rotate_left
     {
     simp only [Act.put, sT, s0, s1, i64_w, i32_w]
     rfl }
     refine pure_ (i := 19) (N := some 80) (v := undef) (a' := ?_) #[true, true, true, true, true, true, true, true, true, true, true, true, true, true, true, true, true, true, true, true, false, false, false, false, false] rfl rfl (any_of HT_.out (by kernel_rfl)) (fun _ _ _ h => h) (Or.inr ⟨by rfl, rfl⟩) ?_ ?_
     rotate_left
     {
     simp only [Act.put, sT, s0, s1, i64_w, i32_w]
     rfl }
     refine pure_ (i := 20) (N := some 81) (v := undef) (a' := ?_) #[true, true, true, true, true, true, true, true, true, true, true, true, true, true, true, true, true, true, true, true, true, false, false, false, false] rfl rfl (any_of HT_.out (by kernel_rfl)) (fun _ _ _ h => h) (Or.inr ⟨by rfl, rfl⟩) ?_ ?_
     rotate_left
     {
     simp only [Act.put, sT, s0, s1, i64_w, i32_w]
     rfl }
     refine pure_ (i := 21) (N := some 82) (v := undef) (a' := ?_) #[true, true, true, true, true, true, true, true, true, true, true, true, true, true, true, true, true, true, true, true, true, true, false, false, false] rfl rfl (any_of HT_.out (by kernel_rfl)) (fun _ _ _ h => h) (Or.inr ⟨by rfl, rfl⟩) ?_ ?_
     rotate_left
     {
     simp only [Act.put, sT, s0, s1, i64_w, i32_w]
     rfl }
     refine pure_ (i := 22) (N := some 83) (v := undef) (a' := ?_) #[true, true, true, true, true, true, true, true, true, true, true, true, true, true, true, true, true, true, true, true, true, true, true, false, false] rfl rfl (any_of HT_.out (by kernel_rfl)) (fun _ _ _ h => h) (Or.inr ⟨by rfl, rfl⟩) ?_ ?_
     rotate_left
     {
     simp only [Act.put, sT, s0, s1, i64_w, i32_w]
     rfl }
     refine pure_ (i := 23) (N := some 84) (v := undef) (a' := ?_) #[true, true, true, true, true, true, true, true, true, true, true, true, true, true, true, true, true, true, true, true, true, true, true, true, false] rfl rfl (any_of HT_.out (by kernel_rfl)) (fun _ _ _ h => h) (Or.inr ⟨by rfl, rfl⟩) ?_ ?_
     rotate_left
     {
     simp only [Act.put, sT, s0, s1, i64_w, i32_w]
     rfl }
     refine pure_ (i := 24) (N := some 85) (v := ?_) (a' := ?_) #[true, true, true, true, true, true, true, true, true, true, true, true, true, true, true, true, true, true, true, true, true, true, true, true, true] rfl rfl (any_of HT_.out (by kernel_rfl)) (fun _ _ _ h => h) (Or.inl ⟨by rfl, ?_⟩) ?_ ?_
     rotate_left
     {
     intro w'
     go_simp
     with_reducible rfl }
     rotate_left
     {
     simp only [Act.put, sT, s0, s1, i64_w, i32_w]
     rfl }
     refine done_ (done_of HT_.out (by kernel_rfl)) ?_
     try go_wp2
     go_meet
     case rel => exact ⟨_, (true), (by first | rfl | (simp; done) | (simp [*]; done)), H', ⟨by have := HK1.out; have := HJ8.out; have := HJ16.out; first | omega | exact Nat.le_refl _⟩, ⟨by (with_reducible repeat (first | apply Kd.R_alloc | apply Kd.R_drewN | apply Kd.R_drew)); exact Kd.R_mono HO_6.out (fun _ hk => hk.2)⟩, ⟨kk BK268.out⟩, ⟨by repeat (first | (with_reducible first | exact HB.out | apply below_alloc | apply pw_below_drewN | apply below_drew1 | refine below_set ?_ GE268.out) | exact HB.out)⟩⟩ }
     {
     rw [if_neg c33] at H
     have c33b0 : decide (((rd_T30 t258 x8_1).f2) < 0) = false := decide_eq_false c33
     clear c33
     by_cases c37 : ((rd_T30 t258 x8_1).f2) > 1099511627776
     {
     rw [if_pos c37] at H
     have c37b0 : decide (1099511627776 < ((rd_T30 t258 x8_1).f2)) = true := decide_eq_true c37
     clear c37
     have H' := aS H
     clear H
     try go_wp2
     have n0_ : Aside0 (Kd.R k30 30 (((((w26.setCell ⟨gb268, 0, none⟩ (.int .i64 ((rd_T30 t258 x8_1).f0))).setCell ⟨gb268, 1, none⟩ (.string ((rd_T30 t258 x8_1).f1))).setCell ⟨gb268, 2, none⟩ (.int .i64 ((rd_T30 t258 x8_1).f2))).setCell ⟨gb268, 3, none⟩ (.int .i64 ((rd_T30 t258 x8_1).f3))).setCell ⟨gb268, 3, none⟩ (.int .i64 0)) w.heap.size (fun k_ => some k_ ≠ (v265 : Value).ownBlock ∧ k_ ≠ gb268) (.slice (some ad262) t258.length co18) t258) := ⟨by (with_reducible repeat (first | apply Kd.R_alloc | apply Kd.R_drewN | apply Kd.R_drew)); exact Kd.R_mono (Kd.R_far (p := ⟨gb268, 3, none⟩) (Kd.R_far (p := ⟨gb268, 3, none⟩) (Kd.R_far (p := ⟨gb268, 2, none⟩) (Kd.R_far (p := ⟨gb268, 1, none⟩) (Kd.R_far (p := ⟨gb268, 0, none⟩) (Kd.R_mono HO_6.out (fun k_ hk => (⟨hk, hk.2⟩ : _ ∧ k_ ≠ gb268))) (fun _ hk => hk.2) (.int .i64 ((rd_T30 t258 x8_1).f0))) (fun _ hk => hk.2) (.string ((rd_T30 t258 x8_1).f1))) (fun _ hk => hk.2) (.int .i64 ((rd_T30 t258 x8_1).f2))) (fun _ hk => hk.2) (.int .i64 ((rd_T30 t258 x8_1).f3))) (fun _ hk => hk.2) (.int .i64 0)) (fun _ hk => ⟨hk.1.1, hk.1.2⟩)⟩
     have n1_ : Aside0 (Kd.R k30 30 (((((w26.setCell ⟨gb268, 0, none⟩ (.int .i64 ((rd_T30 t258 x8_1).f0))).setCell ⟨gb268, 1, none⟩ (.string ((rd_T30 t258 x8_1).f1))).setCell ⟨gb268, 2, none⟩ (.int .i64 ((rd_T30 t258 x8_1).f2))).setCell ⟨gb268, 3, none⟩ (.int .i64 ((rd_T30 t258 x8_1).f3))).setCell ⟨gb268, 3, none⟩ (.int .i64 0)) w.heap.size (fun k_ => some k_ ≠ (.slice (some ad262) t258.length co18 : Value).ownBlock ∧ k_ ≠ gb268) v265 t263) := ⟨by (with_reducible repeat (first | apply Kd.R_alloc | apply Kd.R_drewN | apply Kd.R_drew)); exact Kd.R_mono (Kd.R_far (p := ⟨gb268, 3, none⟩) (Kd.R_far (p := ⟨gb268, 3, none⟩) (Kd.R_far (p := ⟨gb268, 2, none⟩) (Kd.R_far (p := ⟨gb268, 1, none⟩) (Kd.R_far (p := ⟨gb268, 0, none⟩) (Kd.R_mono HO_9.out (fun k_ hk => (⟨hk, hk.2⟩ : _ ∧ k_ ≠ gb268))) (fun _ hk => hk.2) (.int .i64 ((rd_T30 t258 x8_1).f0))) (fun _ hk => hk.2) (.string ((rd_T30 t258 x8_1).f1))) (fun _ hk => hk.2) (.int .i64 ((rd_T30 t258 x8_1).f2))) (fun _ hk => hk.2) (.int .i64 ((rd_T30 t258 x8_1).f3))) (fun _ hk => hk.2) (.int .i64 0)) (fun _ hk => ⟨hk.1.1, hk.1.2⟩)⟩
     have n2_ : Aside0 ((((((w26.setCell ⟨gb268, 0, none⟩ (.int .i64 ((rd_T30 t258 x8_1).f0))).setCell ⟨gb268, 1, none⟩ (.string ((rd_T30 t258 x8_1).f1))).setCell ⟨gb268, 2, none⟩ (.int .i64 ((rd_T30 t258 x8_1).f2))).setCell ⟨gb268, 3, none⟩ (.int .i64 ((rd_T30 t258 x8_1).f3))).setCell ⟨gb268, 3, none⟩ (.int .i64 0)).heap[gb268]? = some (.cells #[.int .i64 ((rd_T30 t258 x8_1).f0), .string ((rd_T30 t258 x8_1).f1), .int .i64 ((rd_T30 t258 x8_1).f2), .int .i64 0] 30 (0, 0))) := ⟨by (with_reducible repeat (first | refine blk_drewN ?_ _ | refine blk_drew ?_ | refine blk_alloc ?_ _)); refine blk_put (cs := #[.int .i64 ((rd_T30 t258 x8_1).f0), .string ((rd_T30 t258 x8_1).f1), .int .i64 ((rd_T30 t258 x8_1).f2), .int .i64 ((rd_T30 t258 x8_1).f3)]) ?_ 3 _ rfl; (with_reducible repeat (first | refine blk_drewN ?_ _ | refine blk_drew ?_ | refine blk_alloc ?_ _)); refine blk_put (cs := #[.int .i64 ((rd_T30 t258 x8_1).f0), .string ((rd_T30 t258 x8_1).f1), .int .i64 ((rd_T30 t258 x8_1).f2), .int .i64 0]) ?_ 3 _ rfl; (with_reducible repeat (first | refine blk_drewN ?_ _ | refine blk_drew ?_ | refine blk_alloc ?_ _)); refine blk_put (cs := #[.int .i64 ((rd_T30 t258 x8_1).f0), .string ((rd_T30 t258 x8_1).f1), .int .i64 0, .int .i64 0]) ?_ 2 _ rfl; (with_reducible repeat (first | refine blk_drewN ?_ _ | refine blk_drew ?_ | refine blk_alloc ?_ _)); refine blk_put (cs := #[.int .i64 ((rd_T30 t258 x8_1).f0), .string (⟨#[]⟩ : ByteArray), .int .i64 0, .int .i64 0]) ?_ 1 _ rfl; (with_reducible repeat (first | refine blk_drewN ?_ _ | refine blk_drew ?_ | refine blk_alloc ?_ _)); refine blk_put (cs := #[.int .i64 0, .string (⟨#[]⟩ : ByteArray), .int .i64 0, .int .i64 0]) ?_ 0 _ rfl; (with_reducible repeat (first | refine blk_drewN ?_ _ | refine blk_drew ?_ | refine blk_alloc ?_ _)); exact BK268.out⟩
     have n3_ : Aside0 (Below w.heap.size w (((((w26.setCell ⟨gb268, 0, none⟩ (.int .i64 ((rd_T30 t258 x8_1).f0))).setCell ⟨gb268, 1, none⟩ (.string ((rd_T30 t258 x8_1).f1))).setCell ⟨gb268, 2, none⟩ (.int .i64 ((rd_T30 t258 x8_1).f2))).setCell ⟨gb268, 3, none⟩ (.int .i64 ((rd_T30 t258 x8_1).f3))).setCell ⟨gb268, 3, none⟩ (.int .i64 0))) := ⟨by repeat (first | (with_reducible first | exact HB.out | apply below_alloc | apply pw_below_drewN | apply below_drew1 | refine below_set ?_ GE268.out) | exact HB.out)⟩
     (try clear HO_6)
     (try clear HO_9)
     (try clear BK268)
     (try clear HB)
     generalize (((((w26.setCell ⟨gb268, 0, none⟩ (.int .i64 ((rd_T30 t258 x8_1).f0))).setCell ⟨gb268, 1, none⟩ (.string ((rd_T30 t258 x8_1).f1))).setCell ⟨gb268, 2, none⟩ (.int .i64 ((rd_T30 t258 x8_1).f2))).setCell ⟨gb268, 3, none⟩ (.int .i64 ((rd_T30 t258 x8_1).f3))).setCell ⟨gb268, 3, none⟩ (.int .i64 0)) = w38 at n0_ n1_ n2_ n3_ ⊢
     have HO_6 := n0_
     have HO_9 := n1_
     have BK268 := n2_
     have HB := n3_
     clear n0_ n1_ n2_ n3_
     have n0_ := aS (Kd.R_drew HO_6.out)
     have n1_ := aS (Kd.R_drew HO_9.out)
     have n2_ := aS (blk_drew BK268.out)
     have n3_ := aS (below_drew1 HB.out)
     clear HO_6
     clear HO_9
     clear BK268
     clear HB
     have HO_6 := n0_
     have HO_9 := n1_
     have BK268 := n2_
     have HB := n3_
     clear n0_ n1_ n2_ n3_
     obtain ⟨Ao40, co40, eo40⟩ := Kd.R_slice HO_9.out
     (first | subst eo40 | (injection eo40 with f1_ f2_ f3_; have f4_ := f1_.symm; have f5_ := f3_.symm; clear f1_ f2_ f3_; subst f4_; subst f5_))
     have p269 : 0 ≤ (0 : Int) := (by omega)
     have q269 : 0 < (t263.length : Int) := dd
     obtain ⟨ad269, e269, hx269_0, hx269_1, hx269_2, hx269_3⟩ := at_T30 (Kd.R_reads' HO_9.out).2.2 0 p269 q269
     cases e269
     have qi269 : (0 < t263.length) = True := eq_true (by omega)
     (try rw [show ((0 : Int)).toNat = 0 from rfl] at hx269_0)
     (try rw [show 0 * 4 = 0 from rfl] at hx269_0)
     (try rw [Addr.add_zero'] at hx269_0)
     (try rw [show ((0 : Int)).toNat = 0 from rfl] at hx269_1)
     (try rw [show 0 * 4 = 0 from rfl] at hx269_1)
     (try rw [Addr.add_zero'] at hx269_1)
     (try rw [show ((0 : Int)).toNat = 0 from rfl] at hx269_2)
     (try rw [show 0 * 4 = 0 from rfl] at hx269_2)
     (try rw [Addr.add_zero'] at hx269_2)
     (try rw [show ((0 : Int)).toNat = 0 from rfl] at hx269_3)
     (try rw [show 0 * 4 = 0 from rfl] at hx269_3)
     (try rw [Addr.add_zero'] at hx269_3)
     replace p269 := eq_true p269
     replace q269 := eq_true q269
     refine start_ (n := 25) (S := fun w' => w'.cell? ⟨gb268, 0, none⟩ = some (.int .i64 ((rd_T30 t258 x8_1).f0)) ∧ w'.cell? ⟨gb268, 1, none⟩ = some (.string ((rd_T30 t258 x8_1).f1)) ∧ w'.cell? ⟨gb268, 2, none⟩ = some (.int .i64 ((rd_T30 t258 x8_1).f2)) ∧ w'.cell? ⟨gb268, 3, none⟩ = some (.int .i64 0) ∧ w'.cell? ad269 = some (.int .i64 ((rd_T30 t263 0).f0)) ∧ w'.cell? ⟨ad269.block, ad269.off + 1, none⟩ = some (.string ((rd_T30 t263 0).f1)) ∧ w'.cell? ⟨ad269.block, ad269.off + 2, none⟩ = some (.int .i64 ((rd_T30 t263 0).f2)) ∧ w'.cell? ⟨ad269.block, ad269.off + 3, none⟩ = some (.int .i64 ((rd_T30 t263 0).f3))) (ds := []) #[false, false, false, false, false, false, false, false, false, false, false, false, false, false, false, false, false, false, false, false, false, false, false, false, false] (by kernel_rfl) rfl rfl ⟨(blk_cell BK268.out 0).trans rfl, (blk_cell BK268.out 1).trans rfl, (blk_cell BK268.out 2).trans rfl, (blk_cell BK268.out 3).trans rfl, hx269_0, hx269_1, hx269_2, hx269_3⟩ (fun hHeld => ?_); refine with_tabW hallmootlaw04_LexTokens.tab13 hallmootlaw04_LexTokens.bits13 (fun HT_ HW_ => ?_)
     generalize w38.drew = w39 at HO_6 HO_9 BK268 HB hx269_0 hx269_1 hx269_2 hx269_3 hHeld ⊢
     refine pure_ (i := 0) (N := some 61) (v := ?_) (a' := ?_) #[true, false, false, false, false, false, false, false, false, false, false, false, false, false, false, false, false, false, false, false, false, false, false, false, false] rfl rfl (any_of HT_.out (by kernel_rfl)) (fun _ _ _ h => h) (Or.inl ⟨by rfl, ?_⟩) ?_ ?_
     rotate_left
     {
     intro w'
     go_simp
     with_reducible rfl }
     rotate_left
     {
     simp only [Act.put, sT, s0, s1, i64_w, i32_w]
     rfl }
     refine pure_ (i := 1) (N := some 62) (v := ?_) (a' := ?_) #[true, true, false, false, false, false, false, false, false, false, false, false, false, false, false, false, false, false, false, false, false, false, false, false, false] rfl rfl (any_of HT_.out (by kernel_rfl)) (fun _ _ _ h => h) (Or.inl ⟨by rfl, ?_⟩) ?_ ?_
     rotate_left
     {
     intro w'
     go_simp
     with_reducible rfl }
     rotate_left
     {
     simp only [Act.put, sT, s0, s1, i64_w, i32_w]
     rfl }
     refine take_ (i := 2) (N := some 63) (v := ?_) (a' := ?_) #[true, true, true, false, false, false, false, false, false, false, false, false, false, false, false, false, false, false, false, false, false, false, false, false, false] rfl rfl (take_ofW HT_.out HW_.out (by kernel_rfl)) (fun _ _ _ h => h) (Or.inl ⟨by rfl, ?_⟩) hHeld ?_ ?_
     rotate_left
     {
     rintro w' ⟨s0, s1, s2, s3, s4, s5, s6, s7⟩
     go_simp
     with_reducible rfl }
     rotate_left
     {
     simp only [Act.put, sT, s0, s1, i64_w, i32_w]
     rfl }
     refine take_ (i := 3) (N := some 64) (v := ?_) (a' := ?_) #[true, true, true, true, false, false, false, false, false, false, false, false, false, false, false, false, false, false, false, false, false, false, false, false, false] rfl rfl (take_ofW HT_.out HW_.out (by kernel_rfl)) (fun _ _ _ h => h) (Or.inl ⟨by rfl, ?_⟩) hHeld ?_ ?_
     rotate_left
     {
     rintro w' ⟨s0, s1, s2, s3, s4, s5, s6, s7⟩
     go_simp
     with_reducible rfl }
     rotate_left
     {
     simp only [Act.put, sT, s0, s1, i64_w, i32_w]
     rfl }
     refine pure_ (i := 4) (N := some 65) (v := ?_) (a' := ?_) #[true, true, true, true, true, false, false, false, false, false, false, false, false, false, false, false, false, false, false, false, false, false, false, false, false] rfl rfl (any_of HT_.out (by kernel_rfl)) (fun _ _ _ h => h) (Or.inl ⟨by rfl, ?_⟩) ?_ ?_
     rotate_left
     {
     intro w'
     go_simp
     with_reducible rfl }
     rotate_left
     {
     simp only [Act.put, sT, s0, s1, i64_w, i32_w]
     rfl }
     refine pure_ (i := 5) (N := some 66) (v := ?_) (a' := ?_) #[true, true, true, true, true, true, false, false, false, false, false, false, false, false, false, false, false, false, false, false, false, false, false, false, false] rfl rfl (any_of HT_.out (by kernel_rfl)) (fun _ _ _ h => h) (Or.inl ⟨by rfl, ?_⟩) ?_ ?_
     rotate_left
     {
     intro w'
     go_simp
     with_reducible rfl }
     rotate_left
     {
     simp only [Act.put, sT, s0, s1, i64_w, i32_w]
     rfl }
     refine pure_ (i := 6) (N := some 67) (v := ?_) (a' := ?_) #[true, true, true, true, true, true, true, false, false, false, false, false, false, false, false, false, false, false, false, false, false, false, false, false, false] rfl rfl (any_of HT_.out (by kernel_rfl)) (fun _ _ _ h => h) (Or.inl ⟨by rfl, ?_⟩) ?_ ?_
     rotate_left
     {
     intro w'
     go_simp
     with_reducible rfl }
     rotate_left
     {
     simp only [Act.put, sT, s0, s1, i64_w, i32_w]
     rfl }
     refine take_ (i := 7) (N := some 68) (v := ?_) (a' := ?_) #[true, true, true, true, true, true, true, true, false, false, false, false, false, false, false, false, false, false, false, false, false, false, false, false, false] rfl rfl (take_ofW HT_.out HW_.out (by kernel_rfl)) (fun _ _ _ h => h) (Or.inl ⟨by rfl, ?_⟩) hHeld ?_ ?_
     rotate_left
     {
     rintro w' ⟨s0, s1, s2, s3, s4, s5, s6, s7⟩
     go_simp
     with_reducible rfl }
     rotate_left
     {
     simp only [Act.put, sT, s0, s1, i64_w, i32_w]
     rfl }
     refine pure_ (i := 8) (N := some 69) (v := ?_) (a' := ?_) #[true, true, true, true, true, true, true, true, true, false, false, false, false, false, false, false, false, false, false, false, false, false, false, false, false] rfl rfl (any_of HT_.out (by kernel_rfl)) (fun _ _ _ h => h) (Or.inl ⟨by rfl, ?_⟩) ?_ ?_
     rotate_left
     {
     intro w'
     go_simp
     with_reducible rfl }
     rotate_left
     {
     simp only [Act.put, sT, s0, s1, i64_w, i32_w]
     rfl }
     refine pure_ (i := 9) (N := some 70) (v := ?_) (a' := ?_) #[true, true, true, true, true, true, true, true, true, true, false, false, false, false, false, false, false, false, false, false, false, false, false, false, false] rfl rfl (any_of HT_.out (by kernel_rfl)) (fun _ _ _ h => h) (Or.inl ⟨by rfl, ?_⟩) ?_ ?_
     rotate_left
     {
     intro w'
     go_simp
     with_reducible rfl }
     rotate_left
     {
     simp only [Act.put, sT, s0, s1, i64_w, i32_w]
     rfl }
     refine pure_ (i := 10) (N := some 71) (v := ?_) (a' := ?_) #[true, true, true, true, true, true, true, true, true, true, true, false, false, false, false, false, false, false, false, false, false, false, false, false, false] rfl rfl (any_of HT_.out (by kernel_rfl)) (fun _ _ _ h => h) (Or.inl ⟨by rfl, ?_⟩) ?_ ?_
     rotate_left
     {
     intro w'
     go_simp
     with_reducible rfl }
     rotate_left
     {
     simp only [Act.put, sT, s0, s1, i64_w, i32_w]
     rfl }
     refine pure_ (i := 11) (N := some 72) (v := ?_) (a' := ?_) #[true, true, true, true, true, true, true, true, true, true, true, true, false, false, false, false, false, false, false, false, false, false, false, false, false] rfl rfl (any_of HT_.out (by kernel_rfl)) (fun _ _ _ h => h) (Or.inl ⟨by rfl, ?_⟩) ?_ ?_
     rotate_left
     {
     intro w'
     go_simp
     with_reducible rfl }
     rotate_left
     {
     simp only [Act.put, sT, s0, s1, i64_w, i32_w]
     rfl }
     refine take_ (i := 12) (N := some 73) (v := ?_) (a' := ?_) #[true, true, true, true, true, true, true, true, true, true, true, true, true, false, false, false, false, false, false, false, false, false, false, false, false] rfl rfl (take_ofW HT_.out HW_.out (by kernel_rfl)) (fun _ _ _ h => h) (Or.inl ⟨by rfl, ?_⟩) hHeld ?_ ?_
     rotate_left
     {
     rintro w' ⟨s0, s1, s2, s3, s4, s5, s6, s7⟩
     go_simp
     with_reducible rfl }
     rotate_left
     {
     simp only [Act.put, sT, s0, s1, i64_w, i32_w]
     rfl }
     refine pure_ (i := 13) (N := some 74) (v := ?_) (a' := ?_) #[true, true, true, true, true, true, true, true, true, true, true, true, true, true, false, false, false, false, false, false, false, false, false, false, false] rfl rfl (any_of HT_.out (by kernel_rfl)) (fun _ _ _ h => h) (Or.inl ⟨by rfl, ?_⟩) ?_ ?_
     rotate_left
     {
     intro w'
     go_simp
     with_reducible rfl }
     rotate_left
     {
     simp only [Act.put, sT, s0, s1, i64_w, i32_w]
     rfl }
     refine pure_ (i := 14) (N := some 75) (v := ?_) (a' := ?_) #[true, true, true, true, true, true, true, true, true, true, true, true, true, true, true, false, false, false, false, false, false, false, false, false, false] rfl rfl (any_of HT_.out (by kernel_rfl)) (fun _ _ _ h => h) (Or.inl ⟨by rfl, ?_⟩) ?_ ?_
     rotate_left
     {
     intro w'
     go_simp
     with_reducible rfl }
     rotate_left
     {
     simp only [Act.put, sT, s0, s1, i64_w, i32_w]
     rfl }
     refine pure_ (i := 15) (N := some 76) (v := ?_) (a' := ?_) #[true, true, true, true, true, true, true, true, true, true, true, true, true, true, true, true, false, false, false, false, false, false, false, false, false] rfl rfl (any_of HT_.out (by kernel_rfl)) (fun _ _ _ h => h) (Or.inl ⟨by rfl, ?_⟩) ?_ ?_
     rotate_left
     {
     intro w'
     go_simp
     with_reducible rfl }
     rotate_left
     {
     simp only [Act.put, sT, s0, s1, i64_w, i32_w]
     rfl }
     refine pure_ (i := 16) (N := some 77) (v := undef) (a' := ?_) #[true, true, true, true, true, true, true, true, true, true, true, true, true, true, true, true, true, false, false, false, false, false, false, false, false] rfl rfl (any_of HT_.out (by kernel_rfl)) (fun _ _ _ h => h) (Or.inr ⟨by rfl, rfl⟩) ?_ ?_
     rotate_left
     {
     simp only [Act.put, sT, s0, s1, i64_w, i32_w]
     rfl }
     refine pure_ (i := 17) (N := some 78) (v := undef) (a' := ?_) #[true, true, true, true, true, true, true, true, true, true, true, true, true, true, true, true, true, true, false, false, false, false, false, false, false] rfl rfl (any_of HT_.out (by kernel_rfl)) (fun _ _ _ h => h) (Or.inr ⟨by rfl, rfl⟩) ?_ ?_
     rotate_left
     {
     simp only [Act.put, sT, s0, s1, i64_w, i32_w]
     rfl }
     refine pure_ (i := 18) (N := some 79) (v := undef) (a' := ?_) #[true, true, true, true, true, true, true, true, true, true, true, true, true, true, true, true, true, true, true, false, false, false, false, false, false] rfl rfl (any_of HT_.out (by kernel_rfl)) (fun _ _ _ h => h) (Or.inr ⟨by rfl, rfl⟩) ?_ ?_
     rotate_left
     {
     simp only [Act.put, sT, s0, s1, i64_w, i32_w]
     rfl }
     refine pure_ (i := 19) (N := some 80) (v := undef) (a' := ?_) #[true, true, true, true, true, true, true, true, true, true, true, true, true, true, true, true, true, true, true, true, false, false, false, false, false] rfl rfl (any_of HT_.out (by kernel_rfl)) (fun _ _ _ h => h) (Or.inr ⟨by rfl, rfl⟩) ?_ ?_
     rotate_left
     {
     simp only [Act.put, sT, s0, s1, i64_w, i32_w]
     rfl }
     refine pure_ (i := 20) (N := some 81) (v := undef) (a' := ?_) #[true, true, true, true, true, true, true, true, true, true, true, true, true, true, true, true, true, true, true, true, true, false, false, false, false] rfl rfl (any_of HT_.out (by kernel_rfl)) (fun _ _ _ h => h) (Or.inr ⟨by rfl, rfl⟩) ?_ ?_
     rotate_left
     {
     simp only [Act.put, sT, s0, s1, i64_w, i32_w]
     rfl }
     refine pure_ (i := 21) (N := some 82) (v := undef) (a' := ?_) #[true, true, true, true, true, true, true, true, true, true, true, true, true, true, true, true, true, true, true, true, true, true, false, false, false] rfl rfl (any_of HT_.out (by kernel_rfl)) (fun _ _ _ h => h) (Or.inr ⟨by rfl, rfl⟩) ?_ ?_
     rotate_left
     {
     simp only [Act.put, sT, s0, s1, i64_w, i32_w]
     rfl }
     refine pure_ (i := 22) (N := some 83) (v := undef) (a' := ?_) #[true, true, true, true, true, true, true, true, true, true, true, true, true, true, true, true, true, true, true, true, true, true, true, false, false] rfl rfl (any_of HT_.out (by kernel_rfl)) (fun _ _ _ h => h) (Or.inr ⟨by rfl, rfl⟩) ?_ ?_
     rotate_left
     {
     simp only [Act.put, sT, s0, s1, i64_w, i32_w]
     rfl }
     refine pure_ (i := 23) (N := some 84) (v := undef) (a' := ?_) #[true, true, true, true, true, true, true, true, true, true, true, true, true, true, true, true, true, true, true, true, true, true, true, true, false] rfl rfl (any_of HT_.out (by kernel_rfl)) (fun _ _ _ h => h) (Or.inr ⟨by rfl, rfl⟩) ?_ ?_
     rotate_left
     {
     simp only [Act.put, sT, s0, s1, i64_w, i32_w]
     rfl }
     refine pure_ (i := 24) (N := some 85) (v := ?_) (a' := ?_) #[true, true, true, true, true, true, true, true, true, true, true, true, true, true, true, true, true, true, true, true, true, true, true, true, true] rfl rfl (any_of HT_.out (by kernel_rfl)) (fun _ _ _ h => h) (Or.inl ⟨by rfl, ?_⟩) ?_ ?_
     rotate_left
     {
     intro w'
     go_simp
     with_reducible rfl }
     rotate_left
     {
     simp only [Act.put, sT, s0, s1, i64_w, i32_w]
     rfl }
     refine done_ (done_of HT_.out (by kernel_rfl)) ?_
     try go_wp2
     go_meet
     case rel => exact ⟨_, (true), (by first | rfl | (simp; done) | (simp [*]; done)), H', ⟨by have := HK1.out; have := HJ8.out; have := HJ16.out; first | omega | exact Nat.le_refl _⟩, ⟨by (with_reducible repeat (first | apply Kd.R_alloc | apply Kd.R_drewN | apply Kd.R_drew)); exact Kd.R_mono HO_6.out (fun _ hk => hk.2)⟩, ⟨kk BK268.out⟩, ⟨by repeat (first | (with_reducible first | exact HB.out | apply below_alloc | apply pw_below_drewN | apply below_drew1 | refine below_set ?_ GE268.out) | exact HB.out)⟩⟩ }
     {
     rw [if_neg c37] at H
     have c37b0 : decide (1099511627776 < ((rd_T30 t258 x8_1).f2)) = false := decide_eq_false c37
     clear c37
     by_cases c41 : ((rd_T30 t258 x8_1).f0) = 2
     {
     rw [if_pos c41] at H
     have c41b0 : (((rd_T30 t258 x8_1).f0) == 2) = true := beq_iff_eq.mpr c41
     have c41b1 : (((rd_T30 t258 x8_1).f0) != 2) = false := bne_eq_false_iff_eq.mpr c41
     clear c41
     have H' := aS H
     clear H
     try go_wp2
     have n0_ : Aside0 (Kd.R k30 30 (((((w26.setCell ⟨gb268, 0, none⟩ (.int .i64 ((rd_T30 t258 x8_1).f0))).setCell ⟨gb268, 1, none⟩ (.string ((rd_T30 t258 x8_1).f1))).setCell ⟨gb268, 2, none⟩ (.int .i64 ((rd_T30 t258 x8_1).f2))).setCell ⟨gb268, 3, none⟩ (.int .i64 ((rd_T30 t258 x8_1).f3))).setCell ⟨gb268, 3, none⟩ (.int .i64 0)) w.heap.size (fun k_ => some k_ ≠ (v265 : Value).ownBlock ∧ k_ ≠ gb268) (.slice (some ad262) t258.length co18) t258) := ⟨by (with_reducible repeat (first | apply Kd.R_alloc | apply Kd.R_drewN | apply Kd.R_drew)); exact Kd.R_mono (Kd.R_far (p := ⟨gb268, 3, none⟩) (Kd.R_far (p := ⟨gb268, 3, none⟩) (Kd.R_far (p := ⟨gb268, 2, none⟩) (Kd.R_far (p := ⟨gb268, 1, none⟩) (Kd.R_far (p := ⟨gb268, 0, none⟩) (Kd.R_mono HO_6.out (fun k_ hk => (⟨hk, hk.2⟩ : _ ∧ k_ ≠ gb268))) (fun _ hk => hk.2) (.int .i64 ((rd_T30 t258 x8_1).f0))) (fun _ hk => hk.2) (.string ((rd_T30 t258 x8_1).f1))) (fun _ hk => hk.2) (.int .i64 ((rd_T30 t258 x8_1).f2))) (fun _ hk => hk.2) (.int .i64 ((rd_T30 t258 x8_1).f3))) (fun _ hk => hk.2) (.int .i64 0)) (fun _ hk => ⟨hk.1.1, hk.1.2⟩)⟩
     have n1_ : Aside0 (Kd.R k30 30 (((((w26.setCell ⟨gb268, 0, none⟩ (.int .i64 ((rd_T30 t258 x8_1).f0))).setCell ⟨gb268, 1, none⟩ (.string ((rd_T30 t258 x8_1).f1))).setCell ⟨gb268, 2, none⟩ (.int .i64 ((rd_T30 t258 x8_1).f2))).setCell ⟨gb268, 3, none⟩ (.int .i64 ((rd_T30 t258 x8_1).f3))).setCell ⟨gb268, 3, none⟩ (.int .i64 0)) w.heap.size (fun k_ => some k_ ≠ (.slice (some ad262) t258.length co18 : Value).ownBlock ∧ k_ ≠ gb268) v265 t263) := ⟨by (with_reducible repeat (first | apply Kd.R_alloc | apply Kd.R_drewN | apply Kd.R_drew)); exact Kd.R_mono (Kd.R_far (p := ⟨gb268, 3, none⟩) (Kd.R_far (p := ⟨gb268, 3, none⟩) (Kd.R_far (p := ⟨gb268, 2, none⟩) (Kd.R_far (p := ⟨gb268, 1, none⟩) (Kd.R_far (p := ⟨gb268, 0, none⟩) (Kd.R_mono HO_9.out (fun k_ hk => (⟨hk, hk.2⟩ : _ ∧ k_ ≠ gb268))) (fun _ hk => hk.2) (.int .i64 ((rd_T30 t258 x8_1).f0))) (fun _ hk => hk.2) (.string ((rd_T30 t258 x8_1).f1))) (fun _ hk => hk.2) (.int .i64 ((rd_T30 t258 x8_1).f2))) (fun _ hk => hk.2) (.int .i64 ((rd_T30 t258 x8_1).f3))) (fun _ hk => hk.2) (.int .i64 0)) (fun _ hk => ⟨hk.1.1, hk.1.2⟩)⟩
     have n2_ : Aside0 ((((((w26.setCell ⟨gb268, 0, none⟩ (.int .i64 ((rd_T30 t258 x8_1).f0))).setCell ⟨gb268, 1, none⟩ (.string ((rd_T30 t258 x8_1).f1))).setCell ⟨gb268, 2, none⟩ (.int .i64 ((rd_T30 t258 x8_1).f2))).setCell ⟨gb268, 3, none⟩ (.int .i64 ((rd_T30 t258 x8_1).f3))).setCell ⟨gb268, 3, none⟩ (.int .i64 0)).heap[gb268]? = some (.cells #[.int .i64 ((rd_T30 t258 x8_1).f0), .string ((rd_T30 t258 x8_1).f1), .int .i64 ((rd_T30 t258 x8_1).f2), .int .i64 0] 30 (0, 0))) := ⟨by (with_reducible repeat (first | refine blk_drewN ?_ _ | refine blk_drew ?_ | refine blk_alloc ?_ _)); refine blk_put (cs := #[.int .i64 ((rd_T30 t258 x8_1).f0), .string ((rd_T30 t258 x8_1).f1), .int .i64 ((rd_T30 t258 x8_1).f2), .int .i64 ((rd_T30 t258 x8_1).f3)]) ?_ 3 _ rfl; (with_reducible repeat (first | refine blk_drewN ?_ _ | refine blk_drew ?_ | refine blk_alloc ?_ _)); refine blk_put (cs := #[.int .i64 ((rd_T30 t258 x8_1).f0), .string ((rd_T30 t258 x8_1).f1), .int .i64 ((rd_T30 t258 x8_1).f2), .int .i64 0]) ?_ 3 _ rfl; (with_reducible repeat (first | refine blk_drewN ?_ _ | refine blk_drew ?_ | refine blk_alloc ?_ _)); refine blk_put (cs := #[.int .i64 ((rd_T30 t258 x8_1).f0), .string ((rd_T30 t258 x8_1).f1), .int .i64 0, .int .i64 0]) ?_ 2 _ rfl; (with_reducible repeat (first | refine blk_drewN ?_ _ | refine blk_drew ?_ | refine blk_alloc ?_ _)); refine blk_put (cs := #[.int .i64 ((rd_T30 t258 x8_1).f0), .string (⟨#[]⟩ : ByteArray), .int .i64 0, .int .i64 0]) ?_ 1 _ rfl; (with_reducible repeat (first | refine blk_drewN ?_ _ | refine blk_drew ?_ | refine blk_alloc ?_ _)); refine blk_put (cs := #[.int .i64 0, .string (⟨#[]⟩ : ByteArray), .int .i64 0, .int .i64 0]) ?_ 0 _ rfl; (with_reducible repeat (first | refine blk_drewN ?_ _ | refine blk_drew ?_ | refine blk_alloc ?_ _)); exact BK268.out⟩
     have n3_ : Aside0 (Below w.heap.size w (((((w26.setCell ⟨gb268, 0, none⟩ (.int .i64 ((rd_T30 t258 x8_1).f0))).setCell ⟨gb268, 1, none⟩ (.string ((rd_T30 t258 x8_1).f1))).setCell ⟨gb268, 2, none⟩ (.int .i64 ((rd_T30 t258 x8_1).f2))).setCell ⟨gb268, 3, none⟩ (.int .i64 ((rd_T30 t258 x8_1).f3))).setCell ⟨gb268, 3, none⟩ (.int .i64 0))) := ⟨by repeat (first | (with_reducible first | exact HB.out | apply below_alloc | apply pw_below_drewN | apply below_drew1 | refine below_set ?_ GE268.out) | exact HB.out)⟩
     (try clear HO_6)
     (try clear HO_9)
     (try clear BK268)
     (try clear HB)
     generalize (((((w26.setCell ⟨gb268, 0, none⟩ (.int .i64 ((rd_T30 t258 x8_1).f0))).setCell ⟨gb268, 1, none⟩ (.string ((rd_T30 t258 x8_1).f1))).setCell ⟨gb268, 2, none⟩ (.int .i64 ((rd_T30 t258 x8_1).f2))).setCell ⟨gb268, 3, none⟩ (.int .i64 ((rd_T30 t258 x8_1).f3))).setCell ⟨gb268, 3, none⟩ (.int .i64 0)) = w42 at n0_ n1_ n2_ n3_ ⊢
     have HO_6 := n0_
     have HO_9 := n1_
     have BK268 := n2_
     have HB := n3_
     clear n0_ n1_ n2_ n3_
     have n0_ := aS (Kd.R_drew HO_6.out)
     have n1_ := aS (Kd.R_drew HO_9.out)
     have n2_ := aS (blk_drew BK268.out)
     have n3_ := aS (below_drew1 HB.out)
     clear HO_6
     clear HO_9
     clear BK268
     clear HB
     have HO_6 := n0_
     have HO_9 := n1_
     have BK268 := n2_
     have HB := n3_
     clear n0_ n1_ n2_ n3_
     obtain ⟨Ao44, co44, eo44⟩ := Kd.R_slice HO_9.out
     (first | subst eo44 | (injection eo44 with f1_ f2_ f3_; have f4_ := f1_.symm; have f5_ := f3_.symm; clear f1_ f2_ f3_; subst f4_; subst f5_))
     have p269 : 0 ≤ (0 : Int) := (by omega)
     have q269 : 0 < (t263.length : Int) := dd
     obtain ⟨ad269, e269, hx269_0, hx269_1, hx269_2, hx269_3⟩ := at_T30 (Kd.R_reads' HO_9.out).2.2 0 p269 q269
     cases e269
     have qi269 : (0 < t263.length) = True := eq_true (by omega)
     (try rw [show ((0 : Int)).toNat = 0 from rfl] at hx269_0)
     (try rw [show 0 * 4 = 0 from rfl] at hx269_0)
     (try rw [Addr.add_zero'] at hx269_0)
     (try rw [show ((0 : Int)).toNat = 0 from rfl] at hx269_1)
     (try rw [show 0 * 4 = 0 from rfl] at hx269_1)
     (try rw [Addr.add_zero'] at hx269_1)
     (try rw [show ((0 : Int)).toNat = 0 from rfl] at hx269_2)
     (try rw [show 0 * 4 = 0 from rfl] at hx269_2)
     (try rw [Addr.add_zero'] at hx269_2)
     (try rw [show ((0 : Int)).toNat = 0 from rfl] at hx269_3)
     (try rw [show 0 * 4 = 0 from rfl] at hx269_3)
     (try rw [Addr.add_zero'] at hx269_3)
     replace p269 := eq_true p269
     replace q269 := eq_true q269
     refine start_ (n := 25) (S := fun w' => w'.cell? ⟨gb268, 0, none⟩ = some (.int .i64 ((rd_T30 t258 x8_1).f0)) ∧ w'.cell? ⟨gb268, 1, none⟩ = some (.string ((rd_T30 t258 x8_1).f1)) ∧ w'.cell? ⟨gb268, 2, none⟩ = some (.int .i64 ((rd_T30 t258 x8_1).f2)) ∧ w'.cell? ⟨gb268, 3, none⟩ = some (.int .i64 0) ∧ w'.cell? ad269 = some (.int .i64 ((rd_T30 t263 0).f0)) ∧ w'.cell? ⟨ad269.block, ad269.off + 1, none⟩ = some (.string ((rd_T30 t263 0).f1)) ∧ w'.cell? ⟨ad269.block, ad269.off + 2, none⟩ = some (.int .i64 ((rd_T30 t263 0).f2)) ∧ w'.cell? ⟨ad269.block, ad269.off + 3, none⟩ = some (.int .i64 ((rd_T30 t263 0).f3))) (ds := []) #[false, false, false, false, false, false, false, false, false, false, false, false, false, false, false, false, false, false, false, false, false, false, false, false, false] (by kernel_rfl) rfl rfl ⟨(blk_cell BK268.out 0).trans rfl, (blk_cell BK268.out 1).trans rfl, (blk_cell BK268.out 2).trans rfl, (blk_cell BK268.out 3).trans rfl, hx269_0, hx269_1, hx269_2, hx269_3⟩ (fun hHeld => ?_); refine with_tabW hallmootlaw04_LexTokens.tab13 hallmootlaw04_LexTokens.bits13 (fun HT_ HW_ => ?_)
     generalize w42.drew = w43 at HO_6 HO_9 BK268 HB hx269_0 hx269_1 hx269_2 hx269_3 hHeld ⊢
     refine pure_ (i := 0) (N := some 61) (v := ?_) (a' := ?_) #[true, false, false, false, false, false, false, false, false, false, false, false, false, false, false, false, false, false, false, false, false, false, false, false, false] rfl rfl (any_of HT_.out (by kernel_rfl)) (fun _ _ _ h => h) (Or.inl ⟨by rfl, ?_⟩) ?_ ?_
     rotate_left
     {
     intro w'
     go_simp
     with_reducible rfl }
     rotate_left
     {
     simp only [Act.put, sT, s0, s1, i64_w, i32_w]
     rfl }
     refine pure_ (i := 1) (N := some 62) (v := ?_) (a' := ?_) #[true, true, false, false, false, false, false, false, false, false, false, false, false, false, false, false, false, false, false, false, false, false, false, false, false] rfl rfl (any_of HT_.out (by kernel_rfl)) (fun _ _ _ h => h) (Or.inl ⟨by rfl, ?_⟩) ?_ ?_
     rotate_left
     {
     intro w'
     go_simp
     with_reducible rfl }
     rotate_left
     {
     simp only [Act.put, sT, s0, s1, i64_w, i32_w]
     rfl }
     refine take_ (i := 2) (N := some 63) (v := ?_) (a' := ?_) #[true, true, true, false, false, false, false, false, false, false, false, false, false, false, false, false, false, false, false, false, false, false, false, false, false] rfl rfl (take_ofW HT_.out HW_.out (by kernel_rfl)) (fun _ _ _ h => h) (Or.inl ⟨by rfl, ?_⟩) hHeld ?_ ?_
     rotate_left
     {
     rintro w' ⟨s0, s1, s2, s3, s4, s5, s6, s7⟩
     go_simp
     with_reducible rfl }
     rotate_left
     {
     simp only [Act.put, sT, s0, s1, i64_w, i32_w]
     rfl }
     refine take_ (i := 3) (N := some 64) (v := ?_) (a' := ?_) #[true, true, true, true, false, false, false, false, false, false, false, false, false, false, false, false, false, false, false, false, false, false, false, false, false] rfl rfl (take_ofW HT_.out HW_.out (by kernel_rfl)) (fun _ _ _ h => h) (Or.inl ⟨by rfl, ?_⟩) hHeld ?_ ?_
     rotate_left
     {
     rintro w' ⟨s0, s1, s2, s3, s4, s5, s6, s7⟩
     go_simp
     with_reducible rfl }
     rotate_left
     {
     simp only [Act.put, sT, s0, s1, i64_w, i32_w]
     rfl }
     refine pure_ (i := 4) (N := some 65) (v := ?_) (a' := ?_) #[true, true, true, true, true, false, false, false, false, false, false, false, false, false, false, false, false, false, false, false, false, false, false, false, false] rfl rfl (any_of HT_.out (by kernel_rfl)) (fun _ _ _ h => h) (Or.inl ⟨by rfl, ?_⟩) ?_ ?_
     rotate_left
     {
     intro w'
     go_simp
     with_reducible rfl }
     rotate_left
     {
     simp only [Act.put, sT, s0, s1, i64_w, i32_w]
     rfl }
     refine pure_ (i := 5) (N := some 66) (v := ?_) (a' := ?_) #[true, true, true, true, true, true, false, false, false, false, false, false, false, false, false, false, false, false, false, false, false, false, false, false, false] rfl rfl (any_of HT_.out (by kernel_rfl)) (fun _ _ _ h => h) (Or.inl ⟨by rfl, ?_⟩) ?_ ?_
     rotate_left
     {
     intro w'
     go_simp
     with_reducible rfl }
     rotate_left
     {
     simp only [Act.put, sT, s0, s1, i64_w, i32_w]
     rfl }
     refine pure_ (i := 6) (N := some 67) (v := ?_) (a' := ?_) #[true, true, true, true, true, true, true, false, false, false, false, false, false, false, false, false, false, false, false, false, false, false, false, false, false] rfl rfl (any_of HT_.out (by kernel_rfl)) (fun _ _ _ h => h) (Or.inl ⟨by rfl, ?_⟩) ?_ ?_
     rotate_left
     {
     intro w'
     go_simp
     with_reducible rfl }
     rotate_left
     {
     simp only [Act.put, sT, s0, s1, i64_w, i32_w]
     rfl }
     refine take_ (i := 7) (N := some 68) (v := ?_) (a' := ?_) #[true, true, true, true, true, true, true, true, false, false, false, false, false, false, false, false, false, false, false, false, false, false, false, false, false] rfl rfl (take_ofW HT_.out HW_.out (by kernel_rfl)) (fun _ _ _ h => h) (Or.inl ⟨by rfl, ?_⟩) hHeld ?_ ?_
     rotate_left
     {
     rintro w' ⟨s0, s1, s2, s3, s4, s5, s6, s7⟩
     go_simp
     with_reducible rfl }
     rotate_left
     {
     simp only [Act.put, sT, s0, s1, i64_w, i32_w]
     rfl }
     refine pure_ (i := 8) (N := some 69) (v := ?_) (a' := ?_) #[true, true, true, true, true, true, true, true, true, false, false, false, false, false, false, false, false, false, false, false, false, false, false, false, false] rfl rfl (any_of HT_.out (by kernel_rfl)) (fun _ _ _ h => h) (Or.inl ⟨by rfl, ?_⟩) ?_ ?_
     rotate_left
     {
     intro w'
     go_simp
     with_reducible rfl }
     rotate_left
     {
     simp only [Act.put, sT, s0, s1, i64_w, i32_w]
     rfl }
     refine pure_ (i := 9) (N := some 70) (v := ?_) (a' := ?_) #[true, true, true, true, true, true, true, true, true, true, false, false, false, false, false, false, false, false, false, false, false, false, false, false, false] rfl rfl (any_of HT_.out (by kernel_rfl)) (fun _ _ _ h => h) (Or.inl ⟨by rfl, ?_⟩) ?_ ?_
     rotate_left
     {
     intro w'
     go_simp
     with_reducible rfl }
     rotate_left
     {
     simp only [Act.put, sT, s0, s1, i64_w, i32_w]
     rfl }
     refine pure_ (i := 10) (N := some 71) (v := ?_) (a' := ?_) #[true, true, true, true, true, true, true, true, true, true, true, false, false, false, false, false, false, false, false, false, false, false, false, false, false] rfl rfl (any_of HT_.out (by kernel_rfl)) (fun _ _ _ h => h) (Or.inl ⟨by rfl, ?_⟩) ?_ ?_
     rotate_left
     {
     intro w'
     go_simp
     with_reducible rfl }
     rotate_left
     {
     simp only [Act.put, sT, s0, s1, i64_w, i32_w]
     rfl }
     refine pure_ (i := 11) (N := some 72) (v := ?_) (a' := ?_) #[true, true, true, true, true, true, true, true, true, true, true, true, false, false, false, false, false, false, false, false, false, false, false, false, false] rfl rfl (any_of HT_.out (by kernel_rfl)) (fun _ _ _ h => h) (Or.inl ⟨by rfl, ?_⟩) ?_ ?_
     rotate_left
     {
     intro w'
     go_simp
     with_reducible rfl }
     rotate_left
     {
     simp only [Act.put, sT, s0, s1, i64_w, i32_w]
     rfl }
     refine take_ (i := 12) (N := some 73) (v := ?_) (a' := ?_) #[true, true, true, true, true, true, true, true, true, true, true, true, true, false, false, false, false, false, false, false, false, false, false, false, false] rfl rfl (take_ofW HT_.out HW_.out (by kernel_rfl)) (fun _ _ _ h => h) (Or.inl ⟨by rfl, ?_⟩) hHeld ?_ ?_
     rotate_left
     {
     rintro w' ⟨s0, s1, s2, s3, s4, s5, s6, s7⟩
     go_simp
     with_reducible rfl }
     rotate_left
     {
     simp only [Act.put, sT, s0, s1, i64_w, i32_w]
     rfl }
     refine pure_ (i := 13) (N := some 74) (v := ?_) (a' := ?_) #[true, true, true, true, true, true, true, true, true, true, true, true, true, true, false, false, false, false, false, false, false, false, false, false, false] rfl rfl (any_of HT_.out (by kernel_rfl)) (fun _ _ _ h => h) (Or.inl ⟨by rfl, ?_⟩) ?_ ?_
     rotate_left
     {
     intro w'
     go_simp
     with_reducible rfl }
     rotate_left
     {
     simp only [Act.put, sT, s0, s1, i64_w, i32_w]
     rfl }
     refine pure_ (i := 14) (N := some 75) (v := ?_) (a' := ?_) #[true, true, true, true, true, true, true, true, true, true, true, true, true, true, true, false, false, false, false, false, false, false, false, false, false] rfl rfl (any_of HT_.out (by kernel_rfl)) (fun _ _ _ h => h) (Or.inl ⟨by rfl, ?_⟩) ?_ ?_
     rotate_left
     {
     intro w'
     go_simp
     with_reducible rfl }
     rotate_left
     {
     simp only [Act.put, sT, s0, s1, i64_w, i32_w]
     rfl }
     refine pure_ (i := 15) (N := some 76) (v := ?_) (a' := ?_) #[true, true, true, true, true, true, true, true, true, true, true, true, true, true, true, true, false, false, false, false, false, false, false, false, false] rfl rfl (any_of HT_.out (by kernel_rfl)) (fun _ _ _ h => h) (Or.inl ⟨by rfl, ?_⟩) ?_ ?_
     rotate_left
     {
     intro w'
     go_simp
     with_reducible rfl }
     rotate_left
     {
     simp only [Act.put, sT, s0, s1, i64_w, i32_w]
     rfl }
     refine pure_ (i := 16) (N := some 77) (v := ?_) (a' := ?_) #[true, true, true, true, true, true, true, true, true, true, true, true, true, true, true, true, true, false, false, false, false, false, false, false, false] rfl rfl (any_of HT_.out (by kernel_rfl)) (fun _ _ _ h => h) (Or.inl ⟨by rfl, ?_⟩) ?_ ?_
     rotate_left
     {
     intro w'
     go_simp
     with_reducible rfl }
     rotate_left
     {
     simp only [Act.put, sT, s0, s1, i64_w, i32_w]
     rfl }
     refine take_ (i := 17) (N := some 78) (v := ?_) (a' := ?_) #[true, true, true, true, true, true, true, true, true, true, true, true, true, true, true, true, true, true, false, false, false, false, false, false, false] rfl rfl (take_ofW HT_.out HW_.out (by kernel_rfl)) (fun _ _ _ h => h) (Or.inl ⟨by rfl, ?_⟩) hHeld ?_ ?_
     rotate_left
     {
     rintro w' ⟨s0, s1, s2, s3, s4, s5, s6, s7⟩
     go_simp
     with_reducible rfl }
     rotate_left
     {
     simp only [Act.put, sT, s0, s1, i64_w, i32_w]
     rfl }
     refine pure_ (i := 18) (N := some 79) (v := ?_) (a' := ?_) #[true, true, true, true, true, true, true, true, true, true, true, true, true, true, true, true, true, true, true, false, false, false, false, false, false] rfl rfl (any_of HT_.out (by kernel_rfl)) (fun _ _ _ h => h) (Or.inl ⟨by rfl, ?_⟩) ?_ ?_
     rotate_left
     {
     intro w'
     go_simp
     with_reducible rfl }
     rotate_left
     {
     simp only [Act.put, sT, s0, s1, i64_w, i32_w]
     rfl }
     refine pure_ (i := 19) (N := some 80) (v := ?_) (a' := ?_) #[true, true, true, true, true, true, true, true, true, true, true, true, true, true, true, true, true, true, true, true, false, false, false, false, false] rfl rfl (any_of HT_.out (by kernel_rfl)) (fun _ _ _ h => h) (Or.inl ⟨by rfl, ?_⟩) ?_ ?_
     rotate_left
     {
     intro w'
     go_simp
     with_reducible rfl }
     rotate_left
     {
     simp only [Act.put, sT, s0, s1, i64_w, i32_w]
     rfl }
     refine pure_ (i := 20) (N := some 81) (v := undef) (a' := ?_) #[true, true, true, true, true, true, true, true, true, true, true, true, true, true, true, true, true, true, true, true, true, false, false, false, false] rfl rfl (any_of HT_.out (by kernel_rfl)) (fun _ _ _ h => h) (Or.inr ⟨by rfl, rfl⟩) ?_ ?_
     rotate_left
     {
     simp only [Act.put, sT, s0, s1, i64_w, i32_w]
     rfl }
     refine pure_ (i := 21) (N := some 82) (v := undef) (a' := ?_) #[true, true, true, true, true, true, true, true, true, true, true, true, true, true, true, true, true, true, true, true, true, true, false, false, false] rfl rfl (any_of HT_.out (by kernel_rfl)) (fun _ _ _ h => h) (Or.inr ⟨by rfl, rfl⟩) ?_ ?_
     rotate_left
     {
     simp only [Act.put, sT, s0, s1, i64_w, i32_w]
     rfl }
     refine pure_ (i := 22) (N := some 83) (v := undef) (a' := ?_) #[true, true, true, true, true, true, true, true, true, true, true, true, true, true, true, true, true, true, true, true, true, true, true, false, false] rfl rfl (any_of HT_.out (by kernel_rfl)) (fun _ _ _ h => h) (Or.inr ⟨by rfl, rfl⟩) ?_ ?_
     rotate_left
     {
     simp only [Act.put, sT, s0, s1, i64_w, i32_w]
     rfl }
     refine pure_ (i := 23) (N := some 84) (v := ?_) (a' := ?_) #[true, true, true, true, true, true, true, true, true, true, true, true, true, true, true, true, true, true, true, true, true, true, true, true, false] rfl rfl (any_of HT_.out (by kernel_rfl)) (fun _ _ _ h => h) (Or.inl ⟨by rfl, ?_⟩) ?_ ?_
     rotate_left
     {
     intro w'
     go_simp
     with_reducible rfl }
     rotate_left
     {
     simp only [Act.put, sT, s0, s1, i64_w, i32_w]
     rfl }
     refine pure_ (i := 24) (N := some 85) (v := ?_) (a' := ?_) #[true, true, true, true, true, true, true, true, true, true, true, true, true, true, true, true, true, true, true, true, true, true, true, true, true] rfl rfl (any_of HT_.out (by kernel_rfl)) (fun _ _ _ h => h) (Or.inl ⟨by rfl, ?_⟩) ?_ ?_
     rotate_left
     {
     intro w'
     go_simp
     with_reducible rfl }
     rotate_left
     {
     simp only [Act.put, sT, s0, s1, i64_w, i32_w]
     rfl }
     refine done_ (done_of HT_.out (by kernel_rfl)) ?_
     try go_wp2
     go_meet
     case rel => exact ⟨_, (false), (by first | rfl | (simp; done) | (simp [*]; done)), H', ⟨by have := HK1.out; have := HJ8.out; have := HJ16.out; first | omega | exact Nat.le_refl _⟩, ⟨by (with_reducible repeat (first | apply Kd.R_alloc | apply Kd.R_drewN | apply Kd.R_drew)); exact Kd.R_mono HO_6.out (fun _ hk => hk.2)⟩, ⟨kk BK268.out⟩, ⟨by repeat (first | (with_reducible first | exact HB.out | apply below_alloc | apply pw_below_drewN | apply below_drew1 | refine below_set ?_ GE268.out) | exact HB.out)⟩⟩ }
     {
     rw [if_neg c41] at H
     have c41b0 : (((rd_T30 t258 x8_1).f0) == 2) = false := beq_eq_false_iff_ne.mpr c41
     have c41b1 : (((rd_T30 t258 x8_1).f0) != 2) = true := bne_iff_ne.mpr c41
     have H' := aS H
     clear H
     try go_wp2
     have n0_ : Aside0 (Kd.R k30 30 (((((w26.setCell ⟨gb268, 0, none⟩ (.int .i64 ((rd_T30 t258 x8_1).f0))).setCell ⟨gb268, 1, none⟩ (.string ((rd_T30 t258 x8_1).f1))).setCell ⟨gb268, 2, none⟩ (.int .i64 ((rd_T30 t258 x8_1).f2))).setCell ⟨gb268, 3, none⟩ (.int .i64 ((rd_T30 t258 x8_1).f3))).setCell ⟨gb268, 3, none⟩ (.int .i64 0)) w.heap.size (fun k_ => some k_ ≠ (v265 : Value).ownBlock ∧ k_ ≠ gb268) (.slice (some ad262) t258.length co18) t258) := ⟨by (with_reducible repeat (first | apply Kd.R_alloc | apply Kd.R_drewN | apply Kd.R_drew)); exact Kd.R_mono (Kd.R_far (p := ⟨gb268, 3, none⟩) (Kd.R_far (p := ⟨gb268, 3, none⟩) (Kd.R_far (p := ⟨gb268, 2, none⟩) (Kd.R_far (p := ⟨gb268, 1, none⟩) (Kd.R_far (p := ⟨gb268, 0, none⟩) (Kd.R_mono HO_6.out (fun k_ hk => (⟨hk, hk.2⟩ : _ ∧ k_ ≠ gb268))) (fun _ hk => hk.2) (.int .i64 ((rd_T30 t258 x8_1).f0))) (fun _ hk => hk.2) (.string ((rd_T30 t258 x8_1).f1))) (fun _ hk => hk.2) (.int .i64 ((rd_T30 t258 x8_1).f2))) (fun _ hk => hk.2) (.int .i64 ((rd_T30 t258 x8_1).f3))) (fun _ hk => hk.2) (.int .i64 0)) (fun _ hk => ⟨hk.1.1, hk.1.2⟩)⟩
     have n1_ : Aside0 (Kd.R k30 30 (((((w26.setCell ⟨gb268, 0, none⟩ (.int .i64 ((rd_T30 t258 x8_1).f0))).setCell ⟨gb268, 1, none⟩ (.string ((rd_T30 t258 x8_1).f1))).setCell ⟨gb268, 2, none⟩ (.int .i64 ((rd_T30 t258 x8_1).f2))).setCell ⟨gb268, 3, none⟩ (.int .i64 ((rd_T30 t258 x8_1).f3))).setCell ⟨gb268, 3, none⟩ (.int .i64 0)) w.heap.size (fun k_ => some k_ ≠ (.slice (some ad262) t258.length co18 : Value).ownBlock ∧ k_ ≠ gb268) v265 t263) := ⟨by (with_reducible repeat (first | apply Kd.R_alloc | apply Kd.R_drewN | apply Kd.R_drew)); exact Kd.R_mono (Kd.R_far (p := ⟨gb268, 3, none⟩) (Kd.R_far (p := ⟨gb268, 3, none⟩) (Kd.R_far (p := ⟨gb268, 2, none⟩) (Kd.R_far (p := ⟨gb268, 1, none⟩) (Kd.R_far (p := ⟨gb268, 0, none⟩) (Kd.R_mono HO_9.out (fun k_ hk => (⟨hk, hk.2⟩ : _ ∧ k_ ≠ gb268))) (fun _ hk => hk.2) (.int .i64 ((rd_T30 t258 x8_1).f0))) (fun _ hk => hk.2) (.string ((rd_T30 t258 x8_1).f1))) (fun _ hk => hk.2) (.int .i64 ((rd_T30 t258 x8_1).f2))) (fun _ hk => hk.2) (.int .i64 ((rd_T30 t258 x8_1).f3))) (fun _ hk => hk.2) (.int .i64 0)) (fun _ hk => ⟨hk.1.1, hk.1.2⟩)⟩
     have n2_ : Aside0 ((((((w26.setCell ⟨gb268, 0, none⟩ (.int .i64 ((rd_T30 t258 x8_1).f0))).setCell ⟨gb268, 1, none⟩ (.string ((rd_T30 t258 x8_1).f1))).setCell ⟨gb268, 2, none⟩ (.int .i64 ((rd_T30 t258 x8_1).f2))).setCell ⟨gb268, 3, none⟩ (.int .i64 ((rd_T30 t258 x8_1).f3))).setCell ⟨gb268, 3, none⟩ (.int .i64 0)).heap[gb268]? = some (.cells #[.int .i64 ((rd_T30 t258 x8_1).f0), .string ((rd_T30 t258 x8_1).f1), .int .i64 ((rd_T30 t258 x8_1).f2), .int .i64 0] 30 (0, 0))) := ⟨by (with_reducible repeat (first | refine blk_drewN ?_ _ | refine blk_drew ?_ | refine blk_alloc ?_ _)); refine blk_put (cs := #[.int .i64 ((rd_T30 t258 x8_1).f0), .string ((rd_T30 t258 x8_1).f1), .int .i64 ((rd_T30 t258 x8_1).f2), .int .i64 ((rd_T30 t258 x8_1).f3)]) ?_ 3 _ rfl; (with_reducible repeat (first | refine blk_drewN ?_ _ | refine blk_drew ?_ | refine blk_alloc ?_ _)); refine blk_put (cs := #[.int .i64 ((rd_T30 t258 x8_1).f0), .string ((rd_T30 t258 x8_1).f1), .int .i64 ((rd_T30 t258 x8_1).f2), .int .i64 0]) ?_ 3 _ rfl; (with_reducible repeat (first | refine blk_drewN ?_ _ | refine blk_drew ?_ | refine blk_alloc ?_ _)); refine blk_put (cs := #[.int .i64 ((rd_T30 t258 x8_1).f0), .string ((rd_T30 t258 x8_1).f1), .int .i64 0, .int .i64 0]) ?_ 2 _ rfl; (with_reducible repeat (first | refine blk_drewN ?_ _ | refine blk_drew ?_ | refine blk_alloc ?_ _)); refine blk_put (cs := #[.int .i64 ((rd_T30 t258 x8_1).f0), .string (⟨#[]⟩ : ByteArray), .int .i64 0, .int .i64 0]) ?_ 1 _ rfl; (with_reducible repeat (first | refine blk_drewN ?_ _ | refine blk_drew ?_ | refine blk_alloc ?_ _)); refine blk_put (cs := #[.int .i64 0, .string (⟨#[]⟩ : ByteArray), .int .i64 0, .int .i64 0]) ?_ 0 _ rfl; (with_reducible repeat (first | refine blk_drewN ?_ _ | refine blk_drew ?_ | refine blk_alloc ?_ _)); exact BK268.out⟩
     have n3_ : Aside0 (Below w.heap.size w (((((w26.setCell ⟨gb268, 0, none⟩ (.int .i64 ((rd_T30 t258 x8_1).f0))).setCell ⟨gb268, 1, none⟩ (.string ((rd_T30 t258 x8_1).f1))).setCell ⟨gb268, 2, none⟩ (.int .i64 ((rd_T30 t258 x8_1).f2))).setCell ⟨gb268, 3, none⟩ (.int .i64 ((rd_T30 t258 x8_1).f3))).setCell ⟨gb268, 3, none⟩ (.int .i64 0))) := ⟨by repeat (first | (with_reducible first | exact HB.out | apply below_alloc | apply pw_below_drewN | apply below_drew1 | refine below_set ?_ GE268.out) | exact HB.out)⟩
     (try clear HO_6)
     (try clear HO_9)
     (try clear BK268)
     (try clear HB)
     generalize (((((w26.setCell ⟨gb268, 0, none⟩ (.int .i64 ((rd_T30 t258 x8_1).f0))).setCell ⟨gb268, 1, none⟩ (.string ((rd_T30 t258 x8_1).f1))).setCell ⟨gb268, 2, none⟩ (.int .i64 ((rd_T30 t258 x8_1).f2))).setCell ⟨gb268, 3, none⟩ (.int .i64 ((rd_T30 t258 x8_1).f3))).setCell ⟨gb268, 3, none⟩ (.int .i64 0)) = w45 at n0_ n1_ n2_ n3_ ⊢
     have HO_6 := n0_
     have HO_9 := n1_
     have BK268 := n2_
     have HB := n3_
     clear n0_ n1_ n2_ n3_
     have n0_ := aS (Kd.R_drew HO_6.out)
     have n1_ := aS (Kd.R_drew HO_9.out)
     have n2_ := aS (blk_drew BK268.out)
     have n3_ := aS (below_drew1 HB.out)
     clear HO_6
     clear HO_9
     clear BK268
     clear HB
     have HO_6 := n0_
     have HO_9 := n1_
     have BK268 := n2_
     have HB := n3_
     clear n0_ n1_ n2_ n3_
     obtain ⟨Ao47, co47, eo47⟩ := Kd.R_slice HO_9.out
     (first | subst eo47 | (injection eo47 with f1_ f2_ f3_; have f4_ := f1_.symm; have f5_ := f3_.symm; clear f1_ f2_ f3_; subst f4_; subst f5_))
     have p269 : 0 ≤ (0 : Int) := (by omega)
     have q269 : 0 < (t263.length : Int) := dd
     obtain ⟨ad269, e269, hx269_0, hx269_1, hx269_2, hx269_3⟩ := at_T30 (Kd.R_reads' HO_9.out).2.2 0 p269 q269
     cases e269
     have qi269 : (0 < t263.length) = True := eq_true (by omega)
     (try rw [show ((0 : Int)).toNat = 0 from rfl] at hx269_0)
     (try rw [show 0 * 4 = 0 from rfl] at hx269_0)
     (try rw [Addr.add_zero'] at hx269_0)
     (try rw [show ((0 : Int)).toNat = 0 from rfl] at hx269_1)
     (try rw [show 0 * 4 = 0 from rfl] at hx269_1)
     (try rw [Addr.add_zero'] at hx269_1)
     (try rw [show ((0 : Int)).toNat = 0 from rfl] at hx269_2)
     (try rw [show 0 * 4 = 0 from rfl] at hx269_2)
     (try rw [Addr.add_zero'] at hx269_2)
     (try rw [show ((0 : Int)).toNat = 0 from rfl] at hx269_3)
     (try rw [show 0 * 4 = 0 from rfl] at hx269_3)
     (try rw [Addr.add_zero'] at hx269_3)
     replace p269 := eq_true p269
     replace q269 := eq_true q269
     refine start_ (n := 25) (S := fun w' => w'.cell? ⟨gb268, 0, none⟩ = some (.int .i64 ((rd_T30 t258 x8_1).f0)) ∧ w'.cell? ⟨gb268, 1, none⟩ = some (.string ((rd_T30 t258 x8_1).f1)) ∧ w'.cell? ⟨gb268, 2, none⟩ = some (.int .i64 ((rd_T30 t258 x8_1).f2)) ∧ w'.cell? ⟨gb268, 3, none⟩ = some (.int .i64 0) ∧ w'.cell? ad269 = some (.int .i64 ((rd_T30 t263 0).f0)) ∧ w'.cell? ⟨ad269.block, ad269.off + 1, none⟩ = some (.string ((rd_T30 t263 0).f1)) ∧ w'.cell? ⟨ad269.block, ad269.off + 2, none⟩ = some (.int .i64 ((rd_T30 t263 0).f2)) ∧ w'.cell? ⟨ad269.block, ad269.off + 3, none⟩ = some (.int .i64 ((rd_T30 t263 0).f3))) (ds := []) #[false, false, false, false, false, false, false, false, false, false, false, false, false, false, false, false, false, false, false, false, false, false, false, false, false] (by kernel_rfl) rfl rfl ⟨(blk_cell BK268.out 0).trans rfl, (blk_cell BK268.out 1).trans rfl, (blk_cell BK268.out 2).trans rfl, (blk_cell BK268.out 3).trans rfl, hx269_0, hx269_1, hx269_2, hx269_3⟩ (fun hHeld => ?_); refine with_tabW hallmootlaw04_LexTokens.tab13 hallmootlaw04_LexTokens.bits13 (fun HT_ HW_ => ?_)
     generalize w45.drew = w46 at HO_6 HO_9 BK268 HB hx269_0 hx269_1 hx269_2 hx269_3 hHeld ⊢
     refine pure_ (i := 0) (N := some 61) (v := ?_) (a' := ?_) #[true, false, false, false, false, false, false, false, false, false, false, false, false, false, false, false, false, false, false, false, false, false, false, false, false] rfl rfl (any_of HT_.out (by kernel_rfl)) (fun _ _ _ h => h) (Or.inl ⟨by rfl, ?_⟩) ?_ ?_
     rotate_left
     {
     intro w'
     go_simp
     with_reducible rfl }
     rotate_left
     {
     simp only [Act.put, sT, s0, s1, i64_w, i32_w]
     rfl }
     refine pure_ (i := 1) (N := some 62) (v := ?_) (a' := ?_) #[true, true, false, false, false, false, false, false, false, false, false, false, false, false, false, false, false, false, false, false, false, false, false, false, false] rfl rfl (any_of HT_.out (by kernel_rfl)) (fun _ _ _ h => h) (Or.inl ⟨by rfl, ?_⟩) ?_ ?_
     rotate_left
     {
     intro w'
     go_simp
     with_reducible rfl }
     rotate_left
     {
     simp only [Act.put, sT, s0, s1, i64_w, i32_w]
     rfl }
     refine take_ (i := 2) (N := some 63) (v := ?_) (a' := ?_) #[true, true, true, false, false, false, false, false, false, false, false, false, false, false, false, false, false, false, false, false, false, false, false, false, false] rfl rfl (take_ofW HT_.out HW_.out (by kernel_rfl)) (fun _ _ _ h => h) (Or.inl ⟨by rfl, ?_⟩) hHeld ?_ ?_
     rotate_left
     {
     rintro w' ⟨s0, s1, s2, s3, s4, s5, s6, s7⟩
     go_simp
     with_reducible rfl }
     rotate_left
     {
     simp only [Act.put, sT, s0, s1, i64_w, i32_w]
     rfl }
     refine take_ (i := 3) (N := some 64) (v := ?_) (a' := ?_) #[true, true, true, true, false, false, false, false, false, false, false, false, false, false, false, false, false, false, false, false, false, false, false, false, false] rfl rfl (take_ofW HT_.out HW_.out (by kernel_rfl)) (fun _ _ _ h => h) (Or.inl ⟨by rfl, ?_⟩) hHeld ?_ ?_
     rotate_left
     {
     rintro w' ⟨s0, s1, s2, s3, s4, s5, s6, s7⟩
     go_simp
     with_reducible rfl }
     rotate_left
     {
     simp only [Act.put, sT, s0, s1, i64_w, i32_w]
     rfl }
     refine pure_ (i := 4) (N := some 65) (v := ?_) (a' := ?_) #[true, true, true, true, true, false, false, false, false, false, false, false, false, false, false, false, false, false, false, false, false, false, false, false, false] rfl rfl (any_of HT_.out (by kernel_rfl)) (fun _ _ _ h => h) (Or.inl ⟨by rfl, ?_⟩) ?_ ?_
     rotate_left
     {
     intro w'
     go_simp
     with_reducible rfl }
     rotate_left
     {
     simp only [Act.put, sT, s0, s1, i64_w, i32_w]
     rfl }
     refine pure_ (i := 5) (N := some 66) (v := ?_) (a' := ?_) #[true, true, true, true, true, true, false, false, false, false, false, false, false, false, false, false, false, false, false, false, false, false, false, false, false] rfl rfl (any_of HT_.out (by kernel_rfl)) (fun _ _ _ h => h) (Or.inl ⟨by rfl, ?_⟩) ?_ ?_
     rotate_left
     {
     intro w'
     go_simp
     with_reducible rfl }
     rotate_left
     {
     simp only [Act.put, sT, s0, s1, i64_w, i32_w]
     rfl }
     refine pure_ (i := 6) (N := some 67) (v := ?_) (a' := ?_) #[true, true, true, true, true, true, true, false, false, false, false, false, false, false, false, false, false, false, false, false, false, false, false, false, false] rfl rfl (any_of HT_.out (by kernel_rfl)) (fun _ _ _ h => h) (Or.inl ⟨by rfl, ?_⟩) ?_ ?_
     rotate_left
     {
     intro w'
     go_simp
     with_reducible rfl }
     rotate_left
     {
     simp only [Act.put, sT, s0, s1, i64_w, i32_w]
     rfl }
     refine take_ (i := 7) (N := some 68) (v := ?_) (a' := ?_) #[true, true, true, true, true, true, true, true, false, false, false, false, false, false, false, false, false, false, false, false, false, false, false, false, false] rfl rfl (take_ofW HT_.out HW_.out (by kernel_rfl)) (fun _ _ _ h => h) (Or.inl ⟨by rfl, ?_⟩) hHeld ?_ ?_
     rotate_left
     {
     rintro w' ⟨s0, s1, s2, s3, s4, s5, s6, s7⟩
     go_simp
     with_reducible rfl }
     rotate_left
     {
     simp only [Act.put, sT, s0, s1, i64_w, i32_w]
     rfl }
     refine pure_ (i := 8) (N := some 69) (v := ?_) (a' := ?_) #[true, true, true, true, true, true, true, true, true, false, false, false, false, false, false, false, false, false, false, false, false, false, false, false, false] rfl rfl (any_of HT_.out (by kernel_rfl)) (fun _ _ _ h => h) (Or.inl ⟨by rfl, ?_⟩) ?_ ?_
     rotate_left
     {
     intro w'
     go_simp
     with_reducible rfl }
     rotate_left
     {
     simp only [Act.put, sT, s0, s1, i64_w, i32_w]
     rfl }
     refine pure_ (i := 9) (N := some 70) (v := ?_) (a' := ?_) #[true, true, true, true, true, true, true, true, true, true, false, false, false, false, false, false, false, false, false, false, false, false, false, false, false] rfl rfl (any_of HT_.out (by kernel_rfl)) (fun _ _ _ h => h) (Or.inl ⟨by rfl, ?_⟩) ?_ ?_
     rotate_left
     {
     intro w'
     go_simp
     with_reducible rfl }
     rotate_left
     {
     simp only [Act.put, sT, s0, s1, i64_w, i32_w]
     rfl }
     refine pure_ (i := 10) (N := some 71) (v := ?_) (a' := ?_) #[true, true, true, true, true, true, true, true, true, true, true, false, false, false, false, false, false, false, false, false, false, false, false, false, false] rfl rfl (any_of HT_.out (by kernel_rfl)) (fun _ _ _ h => h) (Or.inl ⟨by rfl, ?_⟩) ?_ ?_
     rotate_left
     {
     intro w'
     go_simp
     with_reducible rfl }
     rotate_left
     {
     simp only [Act.put, sT, s0, s1, i64_w, i32_w]
     rfl }
     refine pure_ (i := 11) (N := some 72) (v := ?_) (a' := ?_) #[true, true, true, true, true, true, true, true, true, true, true, true, false, false, false, false, false, false, false, false, false, false, false, false, false] rfl rfl (any_of HT_.out (by kernel_rfl)) (fun _ _ _ h => h) (Or.inl ⟨by rfl, ?_⟩) ?_ ?_
     rotate_left
     {
     intro w'
     go_simp
     with_reducible rfl }
     rotate_left
     {
     simp only [Act.put, sT, s0, s1, i64_w, i32_w]
     rfl }
     refine take_ (i := 12) (N := some 73) (v := ?_) (a' := ?_) #[true, true, true, true, true, true, true, true, true, true, true, true, true, false, false, false, false, false, false, false, false, false, false, false, false] rfl rfl (take_ofW HT_.out HW_.out (by kernel_rfl)) (fun _ _ _ h => h) (Or.inl ⟨by rfl, ?_⟩) hHeld ?_ ?_
     rotate_left
     {
     rintro w' ⟨s0, s1, s2, s3, s4, s5, s6, s7⟩
     go_simp
     with_reducible rfl }
     rotate_left
     {
     simp only [Act.put, sT, s0, s1, i64_w, i32_w]
     rfl }
     refine pure_ (i := 13) (N := some 74) (v := ?_) (a' := ?_) #[true, true, true, true, true, true, true, true, true, true, true, true, true, true, false, false, false, false, false, false, false, false, false, false, false] rfl rfl (any_of HT_.out (by kernel_rfl)) (fun _ _ _ h => h) (Or.inl ⟨by rfl, ?_⟩) ?_ ?_
     rotate_left
     {
     intro w'
     go_simp
     with_reducible rfl }
     rotate_left
     {
     simp only [Act.put, sT, s0, s1, i64_w, i32_w]
     rfl }
     refine pure_ (i := 14) (N := some 75) (v := ?_) (a' := ?_) #[true, true, true, true, true, true, true, true, true, true, true, true, true, true, true, false, false, false, false, false, false, false, false, false, false] rfl rfl (any_of HT_.out (by kernel_rfl)) (fun _ _ _ h => h) (Or.inl ⟨by rfl, ?_⟩) ?_ ?_
     rotate_left
     {
     intro w'
     go_simp
     with_reducible rfl }
     rotate_left
     {
     simp only [Act.put, sT, s0, s1, i64_w, i32_w]
     rfl }
     refine pure_ (i := 15) (N := some 76) (v := ?_) (a' := ?_) #[true, true, true, true, true, true, true, true, true, true, true, true, true, true, true, true, false, false, false, false, false, false, false, false, false] rfl rfl (any_of HT_.out (by kernel_rfl)) (fun _ _ _ h => h) (Or.inl ⟨by rfl, ?_⟩) ?_ ?_
     rotate_left
     {
     intro w'
     go_simp
     with_reducible rfl }
     rotate_left
     {
     simp only [Act.put, sT, s0, s1, i64_w, i32_w]
     rfl }
     refine pure_ (i := 16) (N := some 77) (v := ?_) (a' := ?_) #[true, true, true, true, true, true, true, true, true, true, true, true, true, true, true, true, true, false, false, false, false, false, false, false, false] rfl rfl (any_of HT_.out (by kernel_rfl)) (fun _ _ _ h => h) (Or.inl ⟨by rfl, ?_⟩) ?_ ?_
     rotate_left
     {
     intro w'
     go_simp
     with_reducible rfl }
     rotate_left
     {
     simp only [Act.put, sT, s0, s1, i64_w, i32_w]
     rfl }
     refine take_ (i := 17) (N := some 78) (v := ?_) (a' := ?_) #[true, true, true, true, true, true, true, true, true, true, true, true, true, true, true, true, true, true, false, false, false, false, false, false, false] rfl rfl (take_ofW HT_.out HW_.out (by kernel_rfl)) (fun _ _ _ h => h) (Or.inl ⟨by rfl, ?_⟩) hHeld ?_ ?_
     rotate_left
     {
     rintro w' ⟨s0, s1, s2, s3, s4, s5, s6, s7⟩
     go_simp
     with_reducible rfl }
     rotate_left
     {
     simp only [Act.put, sT, s0, s1, i64_w, i32_w]
     rfl }
     refine pure_ (i := 18) (N := some 79) (v := ?_) (a' := ?_) #[true, true, true, true, true, true, true, true, true, true, true, true, true, true, true, true, true, true, true, false, false, false, false, false, false] rfl rfl (any_of HT_.out (by kernel_rfl)) (fun _ _ _ h => h) (Or.inl ⟨by rfl, ?_⟩) ?_ ?_
     rotate_left
     {
     intro w'
     go_simp
     with_reducible rfl }
     rotate_left
     {
     simp only [Act.put, sT, s0, s1, i64_w, i32_w]
     rfl }
     refine pure_ (i := 19) (N := some 80) (v := ?_) (a' := ?_) #[true, true, true, true, true, true, true, true, true, true, true, true, true, true, true, true, true, true, true, true, false, false, false, false, false] rfl rfl (any_of HT_.out (by kernel_rfl)) (fun _ _ _ h => h) (Or.inl ⟨by rfl, ?_⟩) ?_ ?_
     rotate_left
     {
     intro w'
     go_simp
     with_reducible rfl }
     rotate_left
     {
     simp only [Act.put, sT, s0, s1, i64_w, i32_w]
     rfl }
     refine pure_ (i := 20) (N := some 81) (v := ?_) (a' := ?_) #[true, true, true, true, true, true, true, true, true, true, true, true, true, true, true, true, true, true, true, true, true, false, false, false, false] rfl rfl (any_of HT_.out (by kernel_rfl)) (fun _ _ _ h => h) (Or.inl ⟨by rfl, ?_⟩) ?_ ?_
     rotate_left
     {
     intro w'
     go_simp
     with_reducible rfl }
     rotate_left
     {
     simp only [Act.put, sT, s0, s1, i64_w, i32_w]
     rfl }
     refine take_ (i := 21) (N := some 82) (v := ?_) (a' := ?_) #[true, true, true, true, true, true, true, true, true, true, true, true, true, true, true, true, true, true, true, true, true, true, false, false, false] rfl rfl (take_ofW HT_.out HW_.out (by kernel_rfl)) (fun _ _ _ h => h) (Or.inl ⟨by rfl, ?_⟩) hHeld ?_ ?_
     rotate_left
     {
     rintro w' ⟨s0, s1, s2, s3, s4, s5, s6, s7⟩
     go_simp
     with_reducible rfl }
     rotate_left
     {
     simp only [Act.put, sT, s0, s1, i64_w, i32_w]
     rfl }
     refine pure_ (i := 22) (N := some 83) (v := ?_) (a' := ?_) #[true, true, true, true, true, true, true, true, true, true, true, true, true, true, true, true, true, true, true, true, true, true, true, false, false] rfl rfl (any_of HT_.out (by kernel_rfl)) (fun _ _ _ h => h) (Or.inl ⟨by rfl, ?_⟩) ?_ ?_
     rotate_left
     {
     intro w'
     go_simp
     with_reducible rfl }
     rotate_left
     {
     simp only [Act.put, sT, s0, s1, i64_w, i32_w]
     rfl }
     refine pure_ (i := 23) (N := some 84) (v := ?_) (a' := ?_) #[true, true, true, true, true, true, true, true, true, true, true, true, true, true, true, true, true, true, true, true, true, true, true, true, false] rfl rfl (any_of HT_.out (by kernel_rfl)) (fun _ _ _ h => h) (Or.inl ⟨by rfl, ?_⟩) ?_ ?_
     rotate_left
     {
     intro w'
     go_simp
     with_reducible rfl }
     rotate_left
     {
     simp only [Act.put, sT, s0, s1, i64_w, i32_w]
     rfl }
     refine pure_ (i := 24) (N := some 85) (v := ?_) (a' := ?_) #[true, true, true, true, true, true, true, true, true, true, true, true, true, true, true, true, true, true, true, true, true, true, true, true, true] rfl rfl (any_of HT_.out (by kernel_rfl)) (fun _ _ _ h => h) (Or.inl ⟨by rfl, ?_⟩) ?_ ?_
     rotate_left
     {
     intro w'
     go_simp
     with_reducible rfl }
     rotate_left
     {
     simp only [Act.put, sT, s0, s1, i64_w, i32_w]
     rfl }
     refine done_ (done_of HT_.out (by kernel_rfl)) ?_
     try go_wp2
     go_meet
     case rel => exact ⟨_, ((((rd_T30 t258 x8_1).f2) != 0)), (by first | rfl | (simp; done) | (simp [*]; done)), H', ⟨by have := HK1.out; have := HJ8.out; have := HJ16.out; first | omega | exact Nat.le_refl _⟩, ⟨by (with_reducible repeat (first | apply Kd.R_alloc | apply Kd.R_drewN | apply Kd.R_drew)); exact Kd.R_mono HO_6.out (fun _ hk => hk.2)⟩, ⟨kk BK268.out⟩, ⟨by repeat (first | (with_reducible first | exact HB.out | apply below_alloc | apply pw_below_drewN | apply below_drew1 | refine below_set ?_ GE268.out) | exact HB.out)⟩⟩ } } } } }
     {
     rw [if_neg c28] at H
     exact absurd H (by simp) }
    case rest =>
     clear HC25
     try clear c2
     try clear p2
     try clear q2
     try clear hx2
     try clear qi2
     try clear c3
     try clear c4
     try clear p26
     try clear q26
     try clear hx26
     try clear qi26
     try clear c28
     try clear c37
     try clear c37b0
     try clear c41
     try clear c41b0
     try clear c41b1
     try clear hx269_0
     try clear hx269_1
     try clear hx269_2
     try clear hx269_3
     try clear p269
     try clear q269
     obtain ⟨kq, x85_24, rfl, HA, HJ24, HO_6, BK268, HB⟩ := hcut
     cases kq with
     | zero => exact absurd HA.out (by simp [hallmootlaw04_LexTokens.j3])
     | succ kj24 => {
     have H := HA.out
     clear HA
     simp only [hallmootlaw04_LexTokens.j3] at H
     by_cases c48 : x85_24 = true
     {
     subst c48
     have H1 : (none) = some r := by rw [if_pos rfl] at H; exact H
     clear H
     have H := H1
     clear H1
     exact absurd H (by simp) }
     {
     replace c48 := Bool.eq_false_iff.mpr c48
     subst c48
     have H1 : (if x8_1 > 0 then (if 0 ≤ x8_1 then (if x8_1 < (t258.length : Int) then (if ((rd_T30 t258 x8_1).f0) = 3 then (if 0 ≤ (wrap64 (x8_1 - 1)) then (if (wrap64 (x8_1 - 1)) < (t258.length : Int) then (if ((rd_T30 t258 (wrap64 (x8_1 - 1))).f0) = 3 then (hallmootlaw04_LexTokens.j4 kj24 a1 t257 t258 t259 x8_1 (((rd_T30 t258 x8_1).f3) == (wrap64 (((rd_T30 t258 (wrap64 (x8_1 - 1))).f3) + 1)))) else (hallmootlaw04_LexTokens.j4 kj24 a1 t257 t258 t259 x8_1 false)) else (none)) else (none)) else (hallmootlaw04_LexTokens.j4 kj24 a1 t257 t258 t259 x8_1 false)) else (none)) else (none)) else (hallmootlaw04_LexTokens.j4 kj24 a1 t257 t258 t259 x8_1 false)) = some r := by rw [if_neg (show ¬ (false = true) by decide)] at H; exact H
     clear H
     have H := H1
     clear H1
     have HC49 := aS H
     clear H
     go_upto_region 15 with (fail)
     go_cut [119] (fun v119 wc => ∃ (kq : Nat) (x119_48 : Bool), v119 = .bool x119_48 ∧ Aside0 (hallmootlaw04_LexTokens.j4 kq a1 t257 t258 t259 x8_1 x119_48 = some r) ∧ Aside0 (kq ≤ kj24) ∧ Aside0 (Kd.R k30 30 wc w.heap.size (fun k_ => k_ ≠ gb268) (.slice (some ad262) t258.length co18) t258) ∧ Aside0 (wc.heap[gb268]? = some (.cells #[.int .i64 ((rd_T30 t258 x8_1).f0), .string ((rd_T30 t258 x8_1).f1), .int .i64 ((rd_T30 t258 x8_1).f2), .int .i64 0] 30 (0, 0))) ∧ Aside0 (Below w.heap.size w wc))
     case first =>
      have H := HC49.out
      clear HC49
      by_cases c50 : x8_1 > 0
      {
      rw [if_pos c50] at H
      have c50b0 : decide (0 < x8_1) = true := decide_eq_true c50
      clear c50
      (first | rw [c50b0] | (simp only [i64_w, i32_w]; rw [c50b0]) | skip)
      by_cases c51 : 0 ≤ x8_1
      {
      rw [if_pos c51] at H
      have c51b0 : decide (0 ≤ x8_1) = true := decide_eq_true c51
      clear c51
      by_cases c52 : x8_1 < (t258.length : Int)
      {
      rw [if_pos c52] at H
      have c52b0 : decide (x8_1 < (t258.length : Int)) = true := decide_eq_true c52
      clear c52
      by_cases c53 : ((rd_T30 t258 x8_1).f0) = 3
      {
      rw [if_pos c53] at H
      have c53b0 : (((rd_T30 t258 x8_1).f0) == 3) = true := beq_iff_eq.mpr c53
      have c53b1 : (((rd_T30 t258 x8_1).f0) != 3) = false := bne_eq_false_iff_eq.mpr c53
      clear c53
      obtain ⟨ji54, hji54⟩ : ∃ j_ : Int, (wrap64 (x8_1 - 1)) = j_ := ⟨_, rfl⟩
      replace H : (if 0 ≤ (ji54) then (if (ji54) < (t258.length : Int) then (if ((rd_T30 t258 (ji54)).f0) = 3 then (hallmootlaw04_LexTokens.j4 kj24 a1 t257 t258 t259 x8_1 (((rd_T30 t258 x8_1).f3) == (wrap64 (((rd_T30 t258 (ji54)).f3) + 1)))) else (hallmootlaw04_LexTokens.j4 kj24 a1 t257 t258 t259 x8_1 false)) else (none)) else (none)) = some r := by first | (rw [hji54] at H; exact H) | (simp only [hji54] at H ⊢; exact H)
      have hji54w : (IntKind.i64.wrap (x8_1 - 1)) = ji54 := (i64_w _).trans hji54
      by_cases c55 : 0 ≤ (ji54)
      {
      rw [if_pos c55] at H
      have c55b0 : decide (0 ≤ (ji54)) = true := decide_eq_true c55
      clear c55
      by_cases c56 : (ji54) < (t258.length : Int)
      {
      rw [if_pos c56] at H
      have c56b0 : decide ((ji54) < (t258.length : Int)) = true := decide_eq_true c56
      clear c56
      by_cases c57 : ((rd_T30 t258 (ji54)).f0) = 3
      {
      rw [if_pos c57] at H
      have c57b0 : (((rd_T30 t258 (ji54)).f0) == 3) = true := beq_iff_eq.mpr c57
      have c57b1 : (((rd_T30 t258 (ji54)).f0) != 3) = false := bne_eq_false_iff_eq.mpr c57
      clear c57
      have H' := aS H
      clear H
      try go_wp2
      have n0_ := aS (Kd.R_drew HO_6.out)
      have n1_ := aS (blk_drew BK268.out)
      have n2_ := aS (below_drew1 HB.out)
      clear HO_6
      clear BK268
      clear HB
      have HO_6 := n0_
      have BK268 := n1_
      have HB := n2_
      clear n0_ n1_ n2_
      have p270 : 0 ≤ (x8_1 : Int) := dd
      have q270 : x8_1 < (t258.length : Int) := dd
      obtain ⟨ad270, e270, hx270_0, hx270_1, hx270_2, hx270_3⟩ := at_T30 (Kd.R_reads' HO_6.out).2.2 x8_1 p270 q270
      obtain rfl : ad262 = ad270 := (by injection e270)
      replace p270 := eq_true p270
      replace q270 := eq_true q270
      have p271 : 0 ≤ ((ji54) : Int) := dd
      have q271 : (ji54) < (t258.length : Int) := dd
      obtain ⟨ad271, e271, hx271_0, hx271_1, hx271_2, hx271_3⟩ := at_T30 (Kd.R_reads' HO_6.out).2.2 (ji54) p271 q271
      obtain rfl : ad262 = ad271 := (by injection e271)
      replace p271 := eq_true p271
      replace q271 := eq_true q271
      have p272 : 0 ≤ (x8_1 : Int) := dd
      have q272 : x8_1 < (t258.length : Int) := dd
      obtain ⟨ad272, e272, hx272_0, hx272_1, hx272_2, hx272_3⟩ := at_T30 (Kd.R_reads' HO_6.out).2.2 x8_1 p272 q272
      obtain rfl : ad262 = ad272 := (by injection e272)
      replace p272 := eq_true p272
      replace q272 := eq_true q272
      have p273 : 0 ≤ ((ji54) : Int) := dd
      have q273 : (ji54) < (t258.length : Int) := dd
      obtain ⟨ad273, e273, hx273_0, hx273_1, hx273_2, hx273_3⟩ := at_T30 (Kd.R_reads' HO_6.out).2.2 (ji54) p273 q273
      obtain rfl : ad262 = ad273 := (by injection e273)
      replace p273 := eq_true p273
      replace q273 := eq_true q273
      refine start_ (n := 34) (S := fun w' => w'.cell? (ad262.add ((x8_1).toNat * 4)) = some (.int .i64 ((rd_T30 t258 x8_1).f0)) ∧ w'.cell? ⟨(ad262.add ((x8_1).toNat * 4)).block, (ad262.add ((x8_1).toNat * 4)).off + 1, none⟩ = some (.string ((rd_T30 t258 x8_1).f1)) ∧ w'.cell? ⟨(ad262.add ((x8_1).toNat * 4)).block, (ad262.add ((x8_1).toNat * 4)).off + 2, none⟩ = some (.int .i64 ((rd_T30 t258 x8_1).f2)) ∧ w'.cell? ⟨(ad262.add ((x8_1).toNat * 4)).block, (ad262.add ((x8_1).toNat * 4)).off + 3, none⟩ = some (.int .i64 ((rd_T30 t258 x8_1).f3)) ∧ w'.cell? (ad262.add (((ji54)).toNat * 4)) = some (.int .i64 ((rd_T30 t258 (ji54)).f0)) ∧ w'.cell? ⟨(ad262.add (((ji54)).toNat * 4)).block, (ad262.add (((ji54)).toNat * 4)).off + 1, none⟩ = some (.string ((rd_T30 t258 (ji54)).f1)) ∧ w'.cell? ⟨(ad262.add (((ji54)).toNat * 4)).block, (ad262.add (((ji54)).toNat * 4)).off + 2, none⟩ = some (.int .i64 ((rd_T30 t258 (ji54)).f2)) ∧ w'.cell? ⟨(ad262.add (((ji54)).toNat * 4)).block, (ad262.add (((ji54)).toNat * 4)).off + 3, none⟩ = some (.int .i64 ((rd_T30 t258 (ji54)).f3)) ∧ w'.cell? (ad262.add ((x8_1).toNat * 4)) = some (.int .i64 ((rd_T30 t258 x8_1).f0)) ∧ w'.cell? ⟨(ad262.add ((x8_1).toNat * 4)).block, (ad262.add ((x8_1).toNat * 4)).off + 1, none⟩ = some (.string ((rd_T30 t258 x8_1).f1)) ∧ w'.cell? ⟨(ad262.add ((x8_1).toNat * 4)).block, (ad262.add ((x8_1).toNat * 4)).off + 2, none⟩ = some (.int .i64 ((rd_T30 t258 x8_1).f2)) ∧ w'.cell? ⟨(ad262.add ((x8_1).toNat * 4)).block, (ad262.add ((x8_1).toNat * 4)).off + 3, none⟩ = some (.int .i64 ((rd_T30 t258 x8_1).f3)) ∧ w'.cell? (ad262.add (((ji54)).toNat * 4)) = some (.int .i64 ((rd_T30 t258 (ji54)).f0)) ∧ w'.cell? ⟨(ad262.add (((ji54)).toNat * 4)).block, (ad262.add (((ji54)).toNat * 4)).off + 1, none⟩ = some (.string ((rd_T30 t258 (ji54)).f1)) ∧ w'.cell? ⟨(ad262.add (((ji54)).toNat * 4)).block, (ad262.add (((ji54)).toNat * 4)).off + 2, none⟩ = some (.int .i64 ((rd_T30 t258 (ji54)).f2)) ∧ w'.cell? ⟨(ad262.add (((ji54)).toNat * 4)).block, (ad262.add (((ji54)).toNat * 4)).off + 3, none⟩ = some (.int .i64 ((rd_T30 t258 (ji54)).f3))) (ds := []) #[false, false, false, false, false, false, false, false, false, false, false, false, false, false, false, false, false, false, false, false, false, false, false, false, false, false, false, false, false, false, false, false, false, false] (by kernel_rfl) rfl rfl ⟨hx270_0, hx270_1, hx270_2, hx270_3, hx271_0, hx271_1, hx271_2, hx271_3, hx272_0, hx272_1, hx272_2, hx272_3, hx273_0, hx273_1, hx273_2, hx273_3⟩ (fun hHeld => ?_); refine with_tabW hallmootlaw04_LexTokens.tab15 hallmootlaw04_LexTokens.bits15 (fun HT_ HW_ => ?_)
      generalize wc.drew = w58 at HO_6 BK268 HB hx270_0 hx270_1 hx270_2 hx270_3 hx271_0 hx271_1 hx271_2 hx271_3 hx272_0 hx272_1 hx272_2 hx272_3 hx273_0 hx273_1 hx273_2 hx273_3 hHeld ⊢
      refine pure_ (i := 0) (N := some 86) (v := ?_) (a' := ?_) #[true, false, false, false, false, false, false, false, false, false, false, false, false, false, false, false, false, false, false, false, false, false, false, false, false, false, false, false, false, false, false, false, false, false] rfl rfl (any_of HT_.out (by kernel_rfl)) (fun _ _ _ h => h) (Or.inl ⟨by rfl, ?_⟩) ?_ ?_
      rotate_left
      {
      intro w'
      go_simp
      with_reducible rfl }
      rotate_left
      {
      simp only [Act.put, sT, s0, s1, i64_w, i32_w]
      rfl }
      refine pure_ (i := 1) (N := some 87) (v := ?_) (a' := ?_) #[true, true, false, false, false, false, false, false, false, false, false, false, false, false, false, false, false, false, false, false, false, false, false, false, false, false, false, false, false, false, false, false, false, false] rfl rfl (any_of HT_.out (by kernel_rfl)) (fun _ _ _ h => h) (Or.inl ⟨by rfl, ?_⟩) ?_ ?_
      rotate_left
      {
      intro w'
      go_simp
      with_reducible rfl }
      rotate_left
      {
      simp only [Act.put, sT, s0, s1, i64_w, i32_w]
      rfl }
      refine pure_ (i := 2) (N := some 88) (v := ?_) (a' := ?_) #[true, true, true, false, false, false, false, false, false, false, false, false, false, false, false, false, false, false, false, false, false, false, false, false, false, false, false, false, false, false, false, false, false, false] rfl rfl (any_of HT_.out (by kernel_rfl)) (fun _ _ _ h => h) (Or.inl ⟨by rfl, ?_⟩) ?_ ?_
      rotate_left
      {
      intro w'
      go_simp
      with_reducible rfl }
      rotate_left
      {
      simp only [Act.put, sT, s0, s1, i64_w, i32_w]
      rfl }
      refine pure_ (i := 3) (N := some 89) (v := ?_) (a' := ?_) #[true, true, true, true, false, false, false, false, false, false, false, false, false, false, false, false, false, false, false, false, false, false, false, false, false, false, false, false, false, false, false, false, false, false] rfl rfl (any_of HT_.out (by kernel_rfl)) (fun _ _ _ h => h) (Or.inl ⟨by rfl, ?_⟩) ?_ ?_
      rotate_left
      {
      intro w'
      go_simp
      with_reducible rfl }
      rotate_left
      {
      simp only [Act.put, sT, s0, s1, i64_w, i32_w]
      rfl }
      refine pure_ (i := 4) (N := some 90) (v := ?_) (a' := ?_) #[true, true, true, true, true, false, false, false, false, false, false, false, false, false, false, false, false, false, false, false, false, false, false, false, false, false, false, false, false, false, false, false, false, false] rfl rfl (any_of HT_.out (by kernel_rfl)) (fun _ _ _ h => h) (Or.inl ⟨by rfl, ?_⟩) ?_ ?_
      rotate_left
      {
      intro w'
      go_simp
      with_reducible rfl }
      rotate_left
      {
      simp only [Act.put, sT, s0, s1, i64_w, i32_w]
      rfl }
      refine pure_ (i := 5) (N := some 91) (v := ?_) (a' := ?_) #[true, true, true, true, true, true, false, false, false, false, false, false, false, false, false, false, false, false, false, false, false, false, false, false, false, false, false, false, false, false, false, false, false, false] rfl rfl (any_of HT_.out (by kernel_rfl)) (fun _ _ _ h => h) (Or.inl ⟨by rfl, ?_⟩) ?_ ?_
      rotate_left
      {
      intro w'
      go_simp
      with_reducible rfl }
      rotate_left
      {
      simp only [Act.put, sT, s0, s1, i64_w, i32_w]
      rfl }
      refine pure_ (i := 6) (N := some 92) (v := ?_) (a' := ?_) #[true, true, true, true, true, true, true, false, false, false, false, false, false, false, false, false, false, false, false, false, false, false, false, false, false, false, false, false, false, false, false, false, false, false] rfl rfl (any_of HT_.out (by kernel_rfl)) (fun _ _ _ h => h) (Or.inl ⟨by rfl, ?_⟩) ?_ ?_
      rotate_left
      {
      intro w'
      go_simp
      with_reducible rfl }
      rotate_left
      {
      simp only [Act.put, sT, s0, s1, i64_w, i32_w]
      rfl }
      refine take_ (i := 7) (N := some 93) (v := ?_) (a' := ?_) #[true, true, true, true, true, true, true, true, false, false, false, false, false, false, false, false, false, false, false, false, false, false, false, false, false, false, false, false, false, false, false, false, false, false] rfl rfl (take_ofW HT_.out HW_.out (by kernel_rfl)) (fun _ _ _ h => h) (Or.inl ⟨by rfl, ?_⟩) hHeld ?_ ?_
      rotate_left
      {
      rintro w' ⟨s0, s1, s2, s3, s4, s5, s6, s7, s8, s9, s10, s11, s12, s13, s14, s15⟩
      go_simp
      with_reducible rfl }
      rotate_left
      {
      simp only [Act.put, sT, s0, s1, i64_w, i32_w]
      rfl }
      refine pure_ (i := 8) (N := some 94) (v := ?_) (a' := ?_) #[true, true, true, true, true, true, true, true, true, false, false, false, false, false, false, false, false, false, false, false, false, false, false, false, false, false, false, false, false, false, false, false, false, false] rfl rfl (any_of HT_.out (by kernel_rfl)) (fun _ _ _ h => h) (Or.inl ⟨by rfl, ?_⟩) ?_ ?_
      rotate_left
      {
      intro w'
      go_simp
      with_reducible rfl }
      rotate_left
      {
      simp only [Act.put, sT, s0, s1, i64_w, i32_w]
      rfl }
      refine pure_ (i := 9) (N := some 95) (v := ?_) (a' := ?_) #[true, true, true, true, true, true, true, true, true, true, false, false, false, false, false, false, false, false, false, false, false, false, false, false, false, false, false, false, false, false, false, false, false, false] rfl rfl (any_of HT_.out (by kernel_rfl)) (fun _ _ _ h => h) (Or.inl ⟨by rfl, ?_⟩) ?_ ?_
      rotate_left
      {
      intro w'
      go_simp
      with_reducible rfl }
      rotate_left
      {
      simp only [Act.put, sT, s0, s1, i64_w, i32_w]
      rfl }
      refine pure_ (i := 10) (N := some 96) (v := ?_) (a' := ?_) #[true, true, true, true, true, true, true, true, true, true, true, false, false, false, false, false, false, false, false, false, false, false, false, false, false, false, false, false, false, false, false, false, false, false] rfl rfl (any_of HT_.out (by kernel_rfl)) (fun _ _ _ h => h) (Or.inl ⟨by rfl, ?_⟩) ?_ ?_
      rotate_left
      {
      intro w'
      go_simp
      with_reducible rfl }
      rotate_left
      {
      simp only [Act.put, sT, s0, s1, i64_w, i32_w]
      rfl }
      refine pure_ (i := 11) (N := some 97) (v := ?_) (a' := ?_) #[true, true, true, true, true, true, true, true, true, true, true, true, false, false, false, false, false, false, false, false, false, false, false, false, false, false, false, false, false, false, false, false, false, false] rfl rfl (any_of HT_.out (by kernel_rfl)) (fun _ _ _ h => h) (Or.inl ⟨by rfl, ?_⟩) ?_ ?_
      rotate_left
      {
      intro w'
      go_simp
      with_reducible rfl }
      rotate_left
      {
      simp only [Act.put, sT, s0, s1, i64_w, i32_w]
      rfl }
      refine pure_ (i := 12) (N := some 98) (v := ?_) (a' := ?_) #[true, true, true, true, true, true, true, true, true, true, true, true, true, false, false, false, false, false, false, false, false, false, false, false, false, false, false, false, false, false, false, false, false, false] rfl rfl (any_of HT_.out (by kernel_rfl)) (fun _ _ _ h => h) (Or.inl ⟨by rfl, ?_⟩) ?_ ?_
      rotate_left
      {
      intro w'
      go_simp
      with_reducible rfl }
      rotate_left
      {
      simp only [Act.put, sT, s0, s1, i64_w, i32_w]
      rfl }
      refine pure_ (i := 13) (N := some 99) (v := ?_) (a' := ?_) #[true, true, true, true, true, true, true, true, true, true, true, true, true, true, false, false, false, false, false, false, false, false, false, false, false, false, false, false, false, false, false, false, false, false] rfl rfl (any_of HT_.out (by kernel_rfl)) (fun _ _ _ h => h) (Or.inl ⟨by rfl, ?_⟩) ?_ ?_
      rotate_left
      {
      intro w'
      go_simp
      with_reducible rfl }
      rotate_left
      {
      simp only [Act.put, sT, s0, s1, i64_w, i32_w]
      rfl }
      refine pure_ (i := 14) (N := some 100) (v := ?_) (a' := ?_) #[true, true, true, true, true, true, true, true, true, true, true, true, true, true, true, false, false, false, false, false, false, false, false, false, false, false, false, false, false, false, false, false, false, false] rfl rfl (any_of HT_.out (by kernel_rfl)) (fun _ _ _ h => h) (Or.inl ⟨by rfl, ?_⟩) ?_ ?_
      rotate_left
      {
      intro w'
      go_simp
      with_reducible rfl }
      rotate_left
      {
      simp only [Act.put, sT, s0, s1, i64_w, i32_w]
      rfl }
      refine pure_ (i := 15) (N := some 101) (v := ?_) (a' := ?_) #[true, true, true, true, true, true, true, true, true, true, true, true, true, true, true, true, false, false, false, false, false, false, false, false, false, false, false, false, false, false, false, false, false, false] rfl rfl (any_of HT_.out (by kernel_rfl)) (fun _ _ _ h => h) (Or.inl ⟨by rfl, ?_⟩) ?_ ?_
      rotate_left
      {
      intro w'
      go_simp
      with_reducible rfl }
      rotate_left
      {
      simp only [Act.put, sT, s0, s1, i64_w, i32_w]
      rfl }
      refine take_ (i := 16) (N := some 102) (v := ?_) (a' := ?_) #[true, true, true, true, true, true, true, true, true, true, true, true, true, true, true, true, true, false, false, false, false, false, false, false, false, false, false, false, false, false, false, false, false, false] rfl rfl (take_ofW HT_.out HW_.out (by kernel_rfl)) (fun _ _ _ h => h) (Or.inl ⟨by rfl, ?_⟩) hHeld ?_ ?_
      rotate_left
      {
      rintro w' ⟨s0, s1, s2, s3, s4, s5, s6, s7, s8, s9, s10, s11, s12, s13, s14, s15⟩
      go_simp
      with_reducible rfl }
      rotate_left
      {
      simp only [Act.put, sT, s0, s1, i64_w, i32_w]
      rfl }
      refine pure_ (i := 17) (N := some 103) (v := ?_) (a' := ?_) #[true, true, true, true, true, true, true, true, true, true, true, true, true, true, true, true, true, true, false, false, false, false, false, false, false, false, false, false, false, false, false, false, false, false] rfl rfl (any_of HT_.out (by kernel_rfl)) (fun _ _ _ h => h) (Or.inl ⟨by rfl, ?_⟩) ?_ ?_
      rotate_left
      {
      intro w'
      go_simp
      with_reducible rfl }
      rotate_left
      {
      simp only [Act.put, sT, s0, s1, i64_w, i32_w]
      rfl }
      refine pure_ (i := 18) (N := some 104) (v := ?_) (a' := ?_) #[true, true, true, true, true, true, true, true, true, true, true, true, true, true, true, true, true, true, true, false, false, false, false, false, false, false, false, false, false, false, false, false, false, false] rfl rfl (any_of HT_.out (by kernel_rfl)) (fun _ _ _ h => h) (Or.inl ⟨by rfl, ?_⟩) ?_ ?_
      rotate_left
      {
      intro w'
      go_simp
      with_reducible rfl }
      rotate_left
      {
      simp only [Act.put, sT, s0, s1, i64_w, i32_w]
      rfl }
      refine pure_ (i := 19) (N := some 105) (v := ?_) (a' := ?_) #[true, true, true, true, true, true, true, true, true, true, true, true, true, true, true, true, true, true, true, true, false, false, false, false, false, false, false, false, false, false, false, false, false, false] rfl rfl (any_of HT_.out (by kernel_rfl)) (fun _ _ _ h => h) (Or.inl ⟨by rfl, ?_⟩) ?_ ?_
      rotate_left
      {
      intro w'
      go_simp
      with_reducible rfl }
      rotate_left
      {
      simp only [Act.put, sT, s0, s1, i64_w, i32_w]
      rfl }
      refine pure_ (i := 20) (N := some 106) (v := ?_) (a' := ?_) #[true, true, true, true, true, true, true, true, true, true, true, true, true, true, true, true, true, true, true, true, true, false, false, false, false, false, false, false, false, false, false, false, false, false] rfl rfl (any_of HT_.out (by kernel_rfl)) (fun _ _ _ h => h) (Or.inl ⟨by rfl, ?_⟩) ?_ ?_
      rotate_left
      {
      intro w'
      go_simp
      with_reducible rfl }
      rotate_left
      {
      simp only [Act.put, sT, s0, s1, i64_w, i32_w]
      rfl }
      refine pure_ (i := 21) (N := some 107) (v := ?_) (a' := ?_) #[true, true, true, true, true, true, true, true, true, true, true, true, true, true, true, true, true, true, true, true, true, true, false, false, false, false, false, false, false, false, false, false, false, false] rfl rfl (any_of HT_.out (by kernel_rfl)) (fun _ _ _ h => h) (Or.inl ⟨by rfl, ?_⟩) ?_ ?_
      rotate_left
      {
      intro w'
      go_simp
      with_reducible rfl }
      rotate_left
      {
      simp only [Act.put, sT, s0, s1, i64_w, i32_w]
      rfl }
      refine pure_ (i := 22) (N := some 108) (v := ?_) (a' := ?_) #[true, true, true, true, true, true, true, true, true, true, true, true, true, true, true, true, true, true, true, true, true, true, true, false, false, false, false, false, false, false, false, false, false, false] rfl rfl (any_of HT_.out (by kernel_rfl)) (fun _ _ _ h => h) (Or.inl ⟨by rfl, ?_⟩) ?_ ?_
      rotate_left
      {
      intro w'
      go_simp
      with_reducible rfl }
      rotate_left
      {
      simp only [Act.put, sT, s0, s1, i64_w, i32_w]
      rfl }
      refine pure_ (i := 23) (N := some 109) (v := ?_) (a' := ?_) #[true, true, true, true, true, true, true, true, true, true, true, true, true, true, true, true, true, true, true, true, true, true, true, true, false, false, false, false, false, false, false, false, false, false] rfl rfl (any_of HT_.out (by kernel_rfl)) (fun _ _ _ h => h) (Or.inl ⟨by rfl, ?_⟩) ?_ ?_
      rotate_left
      {
      intro w'
      go_simp
      with_reducible rfl }
      rotate_left
      {
      simp only [Act.put, sT, s0, s1, i64_w, i32_w]
      rfl }
      refine pure_ (i := 25) (N := some 111) (v := ?_) (a' := ?_) #[true, true, true, true, true, true, true, true, true, true, true, true, true, true, true, true, true, true, true, true, true, true, true, true, false, true, false, false, false, false, false, false, false, false] rfl rfl (any_of HT_.out (by kernel_rfl)) (fun _ _ _ h => h) (Or.inl ⟨by rfl, ?_⟩) ?_ ?_
      rotate_left
      {
      intro w'
      go_simp
      with_reducible rfl }
      rotate_left
      {
      simp only [Act.put, sT, s0, s1, i64_w, i32_w]
      rfl }
      refine pure_ (i := 26) (N := some 112) (v := ?_) (a' := ?_) #[true, true, true, true, true, true, true, true, true, true, true, true, true, true, true, true, true, true, true, true, true, true, true, true, false, true, true, false, false, false, false, false, false, false] rfl rfl (any_of HT_.out (by kernel_rfl)) (fun _ _ _ h => h) (Or.inl ⟨by rfl, ?_⟩) ?_ ?_
      rotate_left
      {
      intro w'
      go_simp
      with_reducible rfl }
      rotate_left
      {
      simp only [Act.put, sT, s0, s1, i64_w, i32_w]
      rfl }
      refine pure_ (i := 27) (N := some 113) (v := ?_) (a' := ?_) #[true, true, true, true, true, true, true, true, true, true, true, true, true, true, true, true, true, true, true, true, true, true, true, true, false, true, true, true, false, false, false, false, false, false] rfl rfl (any_of HT_.out (by kernel_rfl)) (fun _ _ _ h => h) (Or.inl ⟨by rfl, ?_⟩) ?_ ?_
      rotate_left
      {
      intro w'
      go_simp
      with_reducible rfl }
      rotate_left
      {
      simp only [Act.put, sT, s0, s1, i64_w, i32_w]
      rfl }
      refine pure_ (i := 28) (N := some 114) (v := ?_) (a' := ?_) #[true, true, true, true, true, true, true, true, true, true, true, true, true, true, true, true, true, true, true, true, true, true, true, true, false, true, true, true, true, false, false, false, false, false] rfl rfl (any_of HT_.out (by kernel_rfl)) (fun _ _ _ h => h) (Or.inl ⟨by rfl, ?_⟩) ?_ ?_
      rotate_left
      {
      intro w'
      go_simp
      with_reducible rfl }
      rotate_left
      {
      simp only [Act.put, sT, s0, s1, i64_w, i32_w]
      rfl }
      refine pure_ (i := 29) (N := some 115) (v := ?_) (a' := ?_) #[true, true, true, true, true, true, true, true, true, true, true, true, true, true, true, true, true, true, true, true, true, true, true, true, false, true, true, true, true, true, false, false, false, false] rfl rfl (any_of HT_.out (by kernel_rfl)) (fun _ _ _ h => h) (Or.inl ⟨by rfl, ?_⟩) ?_ ?_
      rotate_left
      {
      intro w'
      go_simp
      with_reducible rfl }
      rotate_left
      {
      simp only [Act.put, sT, s0, s1, i64_w, i32_w]
      rfl }
      refine take_ (i := 24) (N := some 110) (v := ?_) (a' := ?_) #[true, true, true, true, true, true, true, true, true, true, true, true, true, true, true, true, true, true, true, true, true, true, true, true, true, true, true, true, true, true, false, false, false, false] rfl rfl (take_ofW HT_.out HW_.out (by kernel_rfl)) (fun _ _ _ h => h) (Or.inl ⟨by rfl, ?_⟩) hHeld ?_ ?_
      rotate_left
      {
      rintro w' ⟨s0, s1, s2, s3, s4, s5, s6, s7, s8, s9, s10, s11, s12, s13, s14, s15⟩
      go_simp
      with_reducible rfl }
      rotate_left
      {
      simp only [Act.put, sT, s0, s1, i64_w, i32_w]
      rfl }
      refine take_ (i := 30) (N := some 116) (v := ?_) (a' := ?_) #[true, true, true, true, true, true, true, true, true, true, true, true, true, true, true, true, true, true, true, true, true, true, true, true, true, true, true, true, true, true, true, false, false, false] rfl rfl (take_ofW HT_.out HW_.out (by kernel_rfl)) (fun _ _ _ h => h) (Or.inl ⟨by rfl, ?_⟩) hHeld ?_ ?_
      rotate_left
      {
      rintro w' ⟨s0, s1, s2, s3, s4, s5, s6, s7, s8, s9, s10, s11, s12, s13, s14, s15⟩
      go_simp
      with_reducible rfl }
      rotate_left
      {
      simp only [Act.put, sT, s0, s1, i64_w, i32_w]
      rfl }
      refine pure_ (i := 31) (N := some 117) (v := ?_) (a' := ?_) #[true, true, true, true, true, true, true, true, true, true, true, true, true, true, true, true, true, true, true, true, true, true, true, true, true, true, true, true, true, true, true, true, false, false] rfl rfl (any_of HT_.out (by kernel_rfl)) (fun _ _ _ h => h) (Or.inl ⟨by rfl, ?_⟩) ?_ ?_
      rotate_left
      {
      intro w'
      go_simp
      with_reducible rfl }
      rotate_left
      {
      simp only [Act.put, sT, s0, s1, i64_w, i32_w]
      rfl }
      refine pure_ (i := 32) (N := some 118) (v := ?_) (a' := ?_) #[true, true, true, true, true, true, true, true, true, true, true, true, true, true, true, true, true, true, true, true, true, true, true, true, true, true, true, true, true, true, true, true, true, false] rfl rfl (any_of HT_.out (by kernel_rfl)) (fun _ _ _ h => h) (Or.inl ⟨by rfl, ?_⟩) ?_ ?_
      rotate_left
      {
      intro w'
      go_simp
      with_reducible rfl }
      rotate_left
      {
      simp only [Act.put, sT, s0, s1, i64_w, i32_w]
      rfl }
      refine pure_ (i := 33) (N := some 119) (v := ?_) (a' := ?_) #[true, true, true, true, true, true, true, true, true, true, true, true, true, true, true, true, true, true, true, true, true, true, true, true, true, true, true, true, true, true, true, true, true, true] rfl rfl (any_of HT_.out (by kernel_rfl)) (fun _ _ _ h => h) (Or.inl ⟨by rfl, ?_⟩) ?_ ?_
      rotate_left
      {
      intro w'
      go_simp
      with_reducible rfl }
      rotate_left
      {
      simp only [Act.put, sT, s0, s1, i64_w, i32_w]
      rfl }
      refine done_ (done_of HT_.out (by kernel_rfl)) ?_
      try go_wp2
      go_meet
      case rel => exact ⟨_, ((((rd_T30 t258 x8_1).f3) == (wrap64 (((rd_T30 t258 (ji54)).f3) + 1)))), (by first | rfl | (simp; done) | (simp only [← hji54] <;> (first | rfl | simp)) | (simp [*]; done)), H', ⟨by have := HK1.out; have := HJ8.out; have := HJ16.out; have := HJ24.out; first | omega | exact Nat.le_refl _⟩, ⟨by (with_reducible repeat (first | apply Kd.R_alloc | apply Kd.R_drewN | apply Kd.R_drew)); exact HO_6.out⟩, ⟨kk BK268.out⟩, ⟨by repeat (first | (with_reducible first | exact HB.out | apply below_alloc | apply pw_below_drewN | apply below_drew1 | refine below_set ?_ GE268.out) | exact HB.out)⟩⟩ }
      {
      rw [if_neg c57] at H
      have c57b0 : (((rd_T30 t258 (ji54)).f0) == 3) = false := beq_eq_false_iff_ne.mpr c57
      have c57b1 : (((rd_T30 t258 (ji54)).f0) != 3) = true := bne_iff_ne.mpr c57
      have H' := aS H
      clear H
      try go_wp2
      have n0_ := aS (Kd.R_drew HO_6.out)
      have n1_ := aS (blk_drew BK268.out)
      have n2_ := aS (below_drew1 HB.out)
      clear HO_6
      clear BK268
      clear HB
      have HO_6 := n0_
      have BK268 := n1_
      have HB := n2_
      clear n0_ n1_ n2_
      have p270 : 0 ≤ (x8_1 : Int) := dd
      have q270 : x8_1 < (t258.length : Int) := dd
      obtain ⟨ad270, e270, hx270_0, hx270_1, hx270_2, hx270_3⟩ := at_T30 (Kd.R_reads' HO_6.out).2.2 x8_1 p270 q270
      obtain rfl : ad262 = ad270 := (by injection e270)
      replace p270 := eq_true p270
      replace q270 := eq_true q270
      have p271 : 0 ≤ ((ji54) : Int) := dd
      have q271 : (ji54) < (t258.length : Int) := dd
      obtain ⟨ad271, e271, hx271_0, hx271_1, hx271_2, hx271_3⟩ := at_T30 (Kd.R_reads' HO_6.out).2.2 (ji54) p271 q271
      obtain rfl : ad262 = ad271 := (by injection e271)
      replace p271 := eq_true p271
      replace q271 := eq_true q271
      refine start_ (n := 34) (S := fun w' => w'.cell? (ad262.add ((x8_1).toNat * 4)) = some (.int .i64 ((rd_T30 t258 x8_1).f0)) ∧ w'.cell? ⟨(ad262.add ((x8_1).toNat * 4)).block, (ad262.add ((x8_1).toNat * 4)).off + 1, none⟩ = some (.string ((rd_T30 t258 x8_1).f1)) ∧ w'.cell? ⟨(ad262.add ((x8_1).toNat * 4)).block, (ad262.add ((x8_1).toNat * 4)).off + 2, none⟩ = some (.int .i64 ((rd_T30 t258 x8_1).f2)) ∧ w'.cell? ⟨(ad262.add ((x8_1).toNat * 4)).block, (ad262.add ((x8_1).toNat * 4)).off + 3, none⟩ = some (.int .i64 ((rd_T30 t258 x8_1).f3)) ∧ w'.cell? (ad262.add (((ji54)).toNat * 4)) = some (.int .i64 ((rd_T30 t258 (ji54)).f0)) ∧ w'.cell? ⟨(ad262.add (((ji54)).toNat * 4)).block, (ad262.add (((ji54)).toNat * 4)).off + 1, none⟩ = some (.string ((rd_T30 t258 (ji54)).f1)) ∧ w'.cell? ⟨(ad262.add (((ji54)).toNat * 4)).block, (ad262.add (((ji54)).toNat * 4)).off + 2, none⟩ = some (.int .i64 ((rd_T30 t258 (ji54)).f2)) ∧ w'.cell? ⟨(ad262.add (((ji54)).toNat * 4)).block, (ad262.add (((ji54)).toNat * 4)).off + 3, none⟩ = some (.int .i64 ((rd_T30 t258 (ji54)).f3))) (ds := []) #[false, false, false, false, false, false, false, false, false, false, false, false, false, false, false, false, false, false, false, false, false, false, false, false, false, false, false, false, false, false, false, false, false, false] (by kernel_rfl) rfl rfl ⟨hx270_0, hx270_1, hx270_2, hx270_3, hx271_0, hx271_1, hx271_2, hx271_3⟩ (fun hHeld => ?_); refine with_tabW hallmootlaw04_LexTokens.tab15 hallmootlaw04_LexTokens.bits15 (fun HT_ HW_ => ?_)
      generalize wc.drew = w59 at HO_6 BK268 HB hx270_0 hx270_1 hx270_2 hx270_3 hx271_0 hx271_1 hx271_2 hx271_3 hHeld ⊢
      refine pure_ (i := 0) (N := some 86) (v := ?_) (a' := ?_) #[true, false, false, false, false, false, false, false, false, false, false, false, false, false, false, false, false, false, false, false, false, false, false, false, false, false, false, false, false, false, false, false, false, false] rfl rfl (any_of HT_.out (by kernel_rfl)) (fun _ _ _ h => h) (Or.inl ⟨by rfl, ?_⟩) ?_ ?_
      rotate_left
      {
      intro w'
      go_simp
      with_reducible rfl }
      rotate_left
      {
      simp only [Act.put, sT, s0, s1, i64_w, i32_w]
      rfl }
      refine pure_ (i := 1) (N := some 87) (v := ?_) (a' := ?_) #[true, true, false, false, false, false, false, false, false, false, false, false, false, false, false, false, false, false, false, false, false, false, false, false, false, false, false, false, false, false, false, false, false, false] rfl rfl (any_of HT_.out (by kernel_rfl)) (fun _ _ _ h => h) (Or.inl ⟨by rfl, ?_⟩) ?_ ?_
      rotate_left
      {
      intro w'
      go_simp
      with_reducible rfl }
      rotate_left
      {
      simp only [Act.put, sT, s0, s1, i64_w, i32_w]
      rfl }
      refine pure_ (i := 2) (N := some 88) (v := ?_) (a' := ?_) #[true, true, true, false, false, false, false, false, false, false, false, false, false, false, false, false, false, false, false, false, false, false, false, false, false, false, false, false, false, false, false, false, false, false] rfl rfl (any_of HT_.out (by kernel_rfl)) (fun _ _ _ h => h) (Or.inl ⟨by rfl, ?_⟩) ?_ ?_
      rotate_left
      {
      intro w'
      go_simp
      with_reducible rfl }
      rotate_left
      {
      simp only [Act.put, sT, s0, s1, i64_w, i32_w]
      rfl }
      refine pure_ (i := 3) (N := some 89) (v := ?_) (a' := ?_) #[true, true, true, true, false, false, false, false, false, false, false, false, false, false, false, false, false, false, false, false, false, false, false, false, false, false, false, false, false, false, false, false, false, false] rfl rfl (any_of HT_.out (by kernel_rfl)) (fun _ _ _ h => h) (Or.inl ⟨by rfl, ?_⟩) ?_ ?_
      rotate_left
      {
      intro w'
      go_simp
      with_reducible rfl }
      rotate_left
      {
      simp only [Act.put, sT, s0, s1, i64_w, i32_w]
      rfl }
      refine pure_ (i := 4) (N := some 90) (v := ?_) (a' := ?_) #[true, true, true, true, true, false, false, false, false, false, false, false, false, false, false, false, false, false, false, false, false, false, false, false, false, false, false, false, false, false, false, false, false, false] rfl rfl (any_of HT_.out (by kernel_rfl)) (fun _ _ _ h => h) (Or.inl ⟨by rfl, ?_⟩) ?_ ?_
      rotate_left
      {
      intro w'
      go_simp
      with_reducible rfl }
      rotate_left
      {
      simp only [Act.put, sT, s0, s1, i64_w, i32_w]
      rfl }
      refine pure_ (i := 5) (N := some 91) (v := ?_) (a' := ?_) #[true, true, true, true, true, true, false, false, false, false, false, false, false, false, false, false, false, false, false, false, false, false, false, false, false, false, false, false, false, false, false, false, false, false] rfl rfl (any_of HT_.out (by kernel_rfl)) (fun _ _ _ h => h) (Or.inl ⟨by rfl, ?_⟩) ?_ ?_
      rotate_left
      {
      intro w'
      go_simp
      with_reducible rfl }
      rotate_left
      {
      simp only [Act.put, sT, s0, s1, i64_w, i32_w]
      rfl }
      refine pure_ (i := 6) (N := some 92) (v := ?_) (a' := ?_) #[true, true, true, true, true, true, true, false, false, false, false, false, false, false, false, false, false, false, false, false, false, false, false, false, false, false, false, false, false, false, false, false, false, false] rfl rfl (any_of HT_.out (by kernel_rfl)) (fun _ _ _ h => h) (Or.inl ⟨by rfl, ?_⟩) ?_ ?_
      rotate_left
      {
      intro w'
      go_simp
      with_reducible rfl }
      rotate_left
      {
      simp only [Act.put, sT, s0, s1, i64_w, i32_w]
      rfl }
      refine take_ (i := 7) (N := some 93) (v := ?_) (a' := ?_) #[true, true, true, true, true, true, true, true, false, false, false, false, false, false, false, false, false, false, false, false, false, false, false, false, false, false, false, false, false, false, false, false, false, false] rfl rfl (take_ofW HT_.out HW_.out (by kernel_rfl)) (fun _ _ _ h => h) (Or.inl ⟨by rfl, ?_⟩) hHeld ?_ ?_
      rotate_left
      {
      rintro w' ⟨s0, s1, s2, s3, s4, s5, s6, s7⟩
      go_simp
      with_reducible rfl }
      rotate_left
      {
      simp only [Act.put, sT, s0, s1, i64_w, i32_w]
      rfl }
      refine pure_ (i := 8) (N := some 94) (v := ?_) (a' := ?_) #[true, true, true, true, true, true, true, true, true, false, false, false, false, false, false, false, false, false, false, false, false, false, false, false, false, false, false, false, false, false, false, false, false, false] rfl rfl (any_of HT_.out (by kernel_rfl)) (fun _ _ _ h => h) (Or.inl ⟨by rfl, ?_⟩) ?_ ?_
      rotate_left
      {
      intro w'
      go_simp
      with_reducible rfl }
      rotate_left
      {
      simp only [Act.put, sT, s0, s1, i64_w, i32_w]
      rfl }
      refine pure_ (i := 9) (N := some 95) (v := ?_) (a' := ?_) #[true, true, true, true, true, true, true, true, true, true, false, false, false, false, false, false, false, false, false, false, false, false, false, false, false, false, false, false, false, false, false, false, false, false] rfl rfl (any_of HT_.out (by kernel_rfl)) (fun _ _ _ h => h) (Or.inl ⟨by rfl, ?_⟩) ?_ ?_
      rotate_left
      {
      intro w'
      go_simp
      with_reducible rfl }
      rotate_left
      {
      simp only [Act.put, sT, s0, s1, i64_w, i32_w]
      rfl }
      refine pure_ (i := 10) (N := some 96) (v := ?_) (a' := ?_) #[true, true, true, true, true, true, true, true, true, true, true, false, false, false, false, false, false, false, false, false, false, false, false, false, false, false, false, false, false, false, false, false, false, false] rfl rfl (any_of HT_.out (by kernel_rfl)) (fun _ _ _ h => h) (Or.inl ⟨by rfl, ?_⟩) ?_ ?_
      rotate_left
      {
      intro w'
      go_simp
      with_reducible rfl }
      rotate_left
      {
      simp only [Act.put, sT, s0, s1, i64_w, i32_w]
      rfl }
      refine pure_ (i := 11) (N := some 97) (v := ?_) (a' := ?_) #[true, true, true, true, true, true, true, true, true, true, true, true, false, false, false, false, false, false, false, false, false, false, false, false, false, false, false, false, false, false, false, false, false, false] rfl rfl (any_of HT_.out (by kernel_rfl)) (fun _ _ _ h => h) (Or.inl ⟨by rfl, ?_⟩) ?_ ?_
      rotate_left
      {
      intro w'
      go_simp
      with_reducible rfl }
      rotate_left
      {
      simp only [Act.put, sT, s0, s1, i64_w, i32_w]
      rfl }
      refine pure_ (i := 12) (N := some 98) (v := ?_) (a' := ?_) #[true, true, true, true, true, true, true, true, true, true, true, true, true, false, false, false, false, false, false, false, false, false, false, false, false, false, false, false, false, false, false, false, false, false] rfl rfl (any_of HT_.out (by kernel_rfl)) (fun _ _ _ h => h) (Or.inl ⟨by rfl, ?_⟩) ?_ ?_
      rotate_left
      {
      intro w'
      go_simp
      with_reducible rfl }
      rotate_left
      {
      simp only [Act.put, sT, s0, s1, i64_w, i32_w]
      rfl }
      refine pure_ (i := 13) (N := some 99) (v := ?_) (a' := ?_) #[true, true, true, true, true, true, true, true, true, true, true, true, true, true, false, false, false, false, false, false, false, false, false, false, false, false, false, false, false, false, false, false, false, false] rfl rfl (any_of HT_.out (by kernel_rfl)) (fun _ _ _ h => h) (Or.inl ⟨by rfl, ?_⟩) ?_ ?_
      rotate_left
      {
      intro w'
      go_simp
      with_reducible rfl }
      rotate_left
      {
      simp only [Act.put, sT, s0, s1, i64_w, i32_w]
      rfl }
      refine pure_ (i := 14) (N := some 100) (v := ?_) (a' := ?_) #[true, true, true, true, true, true, true, true, true, true, true, true, true, true, true, false, false, false, false, false, false, false, false, false, false, false, false, false, false, false, false, false, false, false] rfl rfl (any_of HT_.out (by kernel_rfl)) (fun _ _ _ h => h) (Or.inl ⟨by rfl, ?_⟩) ?_ ?_
      rotate_left
      {
      intro w'
      go_simp
      with_reducible rfl }
      rotate_left
      {
      simp only [Act.put, sT, s0, s1, i64_w, i32_w]
      rfl }
      refine pure_ (i := 15) (N := some 101) (v := ?_) (a' := ?_) #[true, true, true, true, true, true, true, true, true, true, true, true, true, true, true, true, false, false, false, false, false, false, false, false, false, false, false, false, false, false, false, false, false, false] rfl rfl (any_of HT_.out (by kernel_rfl)) (fun _ _ _ h => h) (Or.inl ⟨by rfl, ?_⟩) ?_ ?_
      rotate_left
      {
      intro w'
      go_simp
      with_reducible rfl }
      rotate_left
      {
      simp only [Act.put, sT, s0, s1, i64_w, i32_w]
      rfl }
      refine take_ (i := 16) (N := some 102) (v := ?_) (a' := ?_) #[true, true, true, true, true, true, true, true, true, true, true, true, true, true, true, true, true, false, false, false, false, false, false, false, false, false, false, false, false, false, false, false, false, false] rfl rfl (take_ofW HT_.out HW_.out (by kernel_rfl)) (fun _ _ _ h => h) (Or.inl ⟨by rfl, ?_⟩) hHeld ?_ ?_
      rotate_left
      {
      rintro w' ⟨s0, s1, s2, s3, s4, s5, s6, s7⟩
      go_simp
      with_reducible rfl }
      rotate_left
      {
      simp only [Act.put, sT, s0, s1, i64_w, i32_w]
      rfl }
      refine pure_ (i := 17) (N := some 103) (v := ?_) (a' := ?_) #[true, true, true, true, true, true, true, true, true, true, true, true, true, true, true, true, true, true, false, false, false, false, false, false, false, false, false, false, false, false, false, false, false, false] rfl rfl (any_of HT_.out (by kernel_rfl)) (fun _ _ _ h => h) (Or.inl ⟨by rfl, ?_⟩) ?_ ?_
      rotate_left
      {
      intro w'
      go_simp
      with_reducible rfl }
      rotate_left
      {
      simp only [Act.put, sT, s0, s1, i64_w, i32_w]
      rfl }
      refine pure_ (i := 18) (N := some 104) (v := ?_) (a' := ?_) #[true, true, true, true, true, true, true, true, true, true, true, true, true, true, true, true, true, true, true, false, false, false, false, false, false, false, false, false, false, false, false, false, false, false] rfl rfl (any_of HT_.out (by kernel_rfl)) (fun _ _ _ h => h) (Or.inl ⟨by rfl, ?_⟩) ?_ ?_
      rotate_left
      {
      intro w'
      go_simp
      with_reducible rfl }
      rotate_left
      {
      simp only [Act.put, sT, s0, s1, i64_w, i32_w]
      rfl }
      refine pure_ (i := 19) (N := some 105) (v := ?_) (a' := ?_) #[true, true, true, true, true, true, true, true, true, true, true, true, true, true, true, true, true, true, true, true, false, false, false, false, false, false, false, false, false, false, false, false, false, false] rfl rfl (any_of HT_.out (by kernel_rfl)) (fun _ _ _ h => h) (Or.inl ⟨by rfl, ?_⟩) ?_ ?_
      rotate_left
      {
      intro w'
      go_simp
      with_reducible rfl }
      rotate_left
      {
      simp only [Act.put, sT, s0, s1, i64_w, i32_w]
      rfl }
      refine pure_ (i := 20) (N := some 106) (v := undef) (a' := ?_) #[true, true, true, true, true, true, true, true, true, true, true, true, true, true, true, true, true, true, true, true, true, false, false, false, false, false, false, false, false, false, false, false, false, false] rfl rfl (any_of HT_.out (by kernel_rfl)) (fun _ _ _ h => h) (Or.inr ⟨by rfl, rfl⟩) ?_ ?_
      rotate_left
      {
      simp only [Act.put, sT, s0, s1, i64_w, i32_w]
      rfl }
      refine pure_ (i := 21) (N := some 107) (v := undef) (a' := ?_) #[true, true, true, true, true, true, true, true, true, true, true, true, true, true, true, true, true, true, true, true, true, true, false, false, false, false, false, false, false, false, false, false, false, false] rfl rfl (any_of HT_.out (by kernel_rfl)) (fun _ _ _ h => h) (Or.inr ⟨by rfl, rfl⟩) ?_ ?_
      rotate_left
      {
      simp only [Act.put, sT, s0, s1, i64_w, i32_w]
      rfl }
      refine pure_ (i := 22) (N := some 108) (v := undef) (a' := ?_) #[true, true, true, true, true, true, true, true, true, true, true, true, true, true, true, true, true, true, true, true, true, true, true, false, false, false, false, false, false, false, false, false, false, false] rfl rfl (any_of HT_.out (by kernel_rfl)) (fun _ _ _ h => h) (Or.inr ⟨by rfl, rfl⟩) ?_ ?_
      rotate_left
      {
      simp only [Act.put, sT, s0, s1, i64_w, i32_w]
      rfl }
      refine pure_ (i := 23) (N := some 109) (v := undef) (a' := ?_) #[true, true, true, true, true, true, true, true, true, true, true, true, true, true, true, true, true, true, true, true, true, true, true, true, false, false, false, false, false, false, false, false, false, false] rfl rfl (any_of HT_.out (by kernel_rfl)) (fun _ _ _ h => h) (Or.inr ⟨by rfl, rfl⟩) ?_ ?_
      rotate_left
      {
      simp only [Act.put, sT, s0, s1, i64_w, i32_w]
      rfl }
      refine pure_ (i := 24) (N := some 110) (v := undef) (a' := ?_) #[true, true, true, true, true, true, true, true, true, true, true, true, true, true, true, true, true, true, true, true, true, true, true, true, true, false, false, false, false, false, false, false, false, false] rfl rfl (any_of HT_.out (by kernel_rfl)) (fun _ _ _ h => h) (Or.inr ⟨by rfl, rfl⟩) ?_ ?_
      rotate_left
      {
      simp only [Act.put, sT, s0, s1, i64_w, i32_w]
      rfl }
      refine pure_ (i := 25) (N := some 111) (v := undef) (a' := ?_) #[true, true, true, true, true, true, true, true, true, true, true, true, true, true, true, true, true, true, true, true, true, true, true, true, true, true, false, false, false, false, false, false, false, false] rfl rfl (any_of HT_.out (by kernel_rfl)) (fun _ _ _ h => h) (Or.inr ⟨by rfl, rfl⟩) ?_ ?_
      rotate_left
      {
      simp only [Act.put, sT, s0, s1, i64_w, i32_w]
      rfl }
      refine pure_ (i := 26) (N := some 112) (v := undef) (a' := ?_) #[true, true, true, true, true, true, true, true, true, true, true, true, true, true, true, true, true, true, true, true, true, true, true, true, true, true, true, false, false, false, false, false, false, false] rfl rfl (any_of HT_.out (by kernel_rfl)) (fun _ _ _ h => h) (Or.inr ⟨by rfl, rfl⟩) ?_ ?_
      rotate_left
      {
      simp only [Act.put, sT, s0, s1, i64_w, i32_w]
      rfl }
      refine pure_ (i := 27) (N := some 113) (v := undef) (a' := ?_) #[true, true, true, true, true, true, true, true, true, true, true, true, true, true, true, true, true, true, true, true, true, true, true, true, true, true, true, true, false, false, false, false, false, false] rfl rfl (any_of HT_.out (by kernel_rfl)) (fun _ _ _ h => h) (Or.inr ⟨by rfl, rfl⟩) ?_ ?_
      rotate_left
      {
      simp only [Act.put, sT, s0, s1, i64_w, i32_w]
      rfl }
      refine pure_ (i := 28) (N := some 114) (v := undef) (a' := ?_) #[true, true, true, true, true, true, true, true, true, true, true, true, true, true, true, true, true, true, true, true, true, true, true, true, true, true, true, true, true, false, false, false, false, false] rfl rfl (any_of HT_.out (by kernel_rfl)) (fun _ _ _ h => h) (Or.inr ⟨by rfl, rfl⟩) ?_ ?_
      rotate_left
      {
      simp only [Act.put, sT, s0, s1, i64_w, i32_w]
      rfl }
      refine pure_ (i := 29) (N := some 115) (v := undef) (a' := ?_) #[true, true, true, true, true, true, true, true, true, true, true, true, true, true, true, true, true, true, true, true, true, true, true, true, true, true, true, true, true, true, false, false, false, false] rfl rfl (any_of HT_.out (by kernel_rfl)) (fun _ _ _ h => h) (Or.inr ⟨by rfl, rfl⟩) ?_ ?_
      rotate_left
      {
      simp only [Act.put, sT, s0, s1, i64_w, i32_w]
      rfl }
      refine pure_ (i := 30) (N := some 116) (v := undef) (a' := ?_) #[true, true, true, true, true, true, true, true, true, true, true, true, true, true, true, true, true, true, true, true, true, true, true, true, true, true, true, true, true, true, true, false, false, false] rfl rfl (any_of HT_.out (by kernel_rfl)) (fun _ _ _ h => h) (Or.inr ⟨by rfl, rfl⟩) ?_ ?_
      rotate_left
      {
      simp only [Act.put, sT, s0, s1, i64_w, i32_w]
      rfl }
      refine pure_ (i := 31) (N := some 117) (v := undef) (a' := ?_) #[true, true, true, true, true, true, true, true, true, true, true, true, true, true, true, true, true, true, true, true, true, true, true, true, true, true, true, true, true, true, true, true, false, false] rfl rfl (any_of HT_.out (by kernel_rfl)) (fun _ _ _ h => h) (Or.inr ⟨by rfl, rfl⟩) ?_ ?_
      rotate_left
      {
      simp only [Act.put, sT, s0, s1, i64_w, i32_w]
      rfl }
      refine pure_ (i := 32) (N := some 118) (v := undef) (a' := ?_) #[true, true, true, true, true, true, true, true, true, true, true, true, true, true, true, true, true, true, true, true, true, true, true, true, true, true, true, true, true, true, true, true, true, false] rfl rfl (any_of HT_.out (by kernel_rfl)) (fun _ _ _ h => h) (Or.inr ⟨by rfl, rfl⟩) ?_ ?_
      rotate_left
      {
      simp only [Act.put, sT, s0, s1, i64_w, i32_w]
      rfl }
      refine pure_ (i := 33) (N := some 119) (v := ?_) (a' := ?_) #[true, true, true, true, true, true, true, true, true, true, true, true, true, true, true, true, true, true, true, true, true, true, true, true, true, true, true, true, true, true, true, true, true, true] rfl rfl (any_of HT_.out (by kernel_rfl)) (fun _ _ _ h => h) (Or.inl ⟨by rfl, ?_⟩) ?_ ?_
      rotate_left
      {
      intro w'
      go_simp
      with_reducible rfl }
      rotate_left
      {
      simp only [Act.put, sT, s0, s1, i64_w, i32_w]
      rfl }
      refine done_ (done_of HT_.out (by kernel_rfl)) ?_
      try go_wp2
      go_meet
      case rel => exact ⟨_, (false), (by first | rfl | (simp; done) | (simp [*]; done)), H', ⟨by have := HK1.out; have := HJ8.out; have := HJ16.out; have := HJ24.out; first | omega | exact Nat.le_refl _⟩, ⟨by (with_reducible repeat (first | apply Kd.R_alloc | apply Kd.R_drewN | apply Kd.R_drew)); exact HO_6.out⟩, ⟨kk BK268.out⟩, ⟨by repeat (first | (with_reducible first | exact HB.out | apply below_alloc | apply pw_below_drewN | apply below_drew1 | refine below_set ?_ GE268.out) | exact HB.out)⟩⟩ } }
      {
      rw [if_neg c56] at H
      exact absurd H (by simp) } }
      {
      rw [if_neg c55] at H
      exact absurd H (by simp) } }
      {
      rw [if_neg c53] at H
      have c53b0 : (((rd_T30 t258 x8_1).f0) == 3) = false := beq_eq_false_iff_ne.mpr c53
      have c53b1 : (((rd_T30 t258 x8_1).f0) != 3) = true := bne_iff_ne.mpr c53
      have H' := aS H
      clear H
      try go_wp2
      have n0_ := aS (Kd.R_drew HO_6.out)
      have n1_ := aS (blk_drew BK268.out)
      have n2_ := aS (below_drew1 HB.out)
      clear HO_6
      clear BK268
      clear HB
      have HO_6 := n0_
      have BK268 := n1_
      have HB := n2_
      clear n0_ n1_ n2_
      have p270 : 0 ≤ (x8_1 : Int) := dd
      have q270 : x8_1 < (t258.length : Int) := dd
      obtain ⟨ad270, e270, hx270_0, hx270_1, hx270_2, hx270_3⟩ := at_T30 (Kd.R_reads' HO_6.out).2.2 x8_1 p270 q270
      obtain rfl : ad262 = ad270 := (by injection e270)
      replace p270 := eq_true p270
      replace q270 := eq_true q270
      refine start_ (n := 34) (S := fun w' => w'.cell? (ad262.add ((x8_1).toNat * 4)) = some (.int .i64 ((rd_T30 t258 x8_1).f0)) ∧ w'.cell? ⟨(ad262.add ((x8_1).toNat * 4)).block, (ad262.add ((x8_1).toNat * 4)).off + 1, none⟩ = some (.string ((rd_T30 t258 x8_1).f1)) ∧ w'.cell? ⟨(ad262.add ((x8_1).toNat * 4)).block, (ad262.add ((x8_1).toNat * 4)).off + 2, none⟩ = some (.int .i64 ((rd_T30 t258 x8_1).f2)) ∧ w'.cell? ⟨(ad262.add ((x8_1).toNat * 4)).block, (ad262.add ((x8_1).toNat * 4)).off + 3, none⟩ = some (.int .i64 ((rd_T30 t258 x8_1).f3))) (ds := []) #[false, false, false, false, false, false, false, false, false, false, false, false, false, false, false, false, false, false, false, false, false, false, false, false, false, false, false, false, false, false, false, false, false, false] (by kernel_rfl) rfl rfl ⟨hx270_0, hx270_1, hx270_2, hx270_3⟩ (fun hHeld => ?_); refine with_tabW hallmootlaw04_LexTokens.tab15 hallmootlaw04_LexTokens.bits15 (fun HT_ HW_ => ?_)
      generalize wc.drew = w60 at HO_6 BK268 HB hx270_0 hx270_1 hx270_2 hx270_3 hHeld ⊢
      refine pure_ (i := 0) (N := some 86) (v := ?_) (a' := ?_) #[true, false, false, false, false, false, false, false, false, false, false, false, false, false, false, false, false, false, false, false, false, false, false, false, false, false, false, false, false, false, false, false, false, false] rfl rfl (any_of HT_.out (by kernel_rfl)) (fun _ _ _ h => h) (Or.inl ⟨by rfl, ?_⟩) ?_ ?_
      rotate_left
      {
      intro w'
      go_simp
      with_reducible rfl }
      rotate_left
      {
      simp only [Act.put, sT, s0, s1, i64_w, i32_w]
      rfl }
      refine pure_ (i := 1) (N := some 87) (v := ?_) (a' := ?_) #[true, true, false, false, false, false, false, false, false, false, false, false, false, false, false, false, false, false, false, false, false, false, false, false, false, false, false, false, false, false, false, false, false, false] rfl rfl (any_of HT_.out (by kernel_rfl)) (fun _ _ _ h => h) (Or.inl ⟨by rfl, ?_⟩) ?_ ?_
      rotate_left
      {
      intro w'
      go_simp
      with_reducible rfl }
      rotate_left
      {
      simp only [Act.put, sT, s0, s1, i64_w, i32_w]
      rfl }
      refine pure_ (i := 2) (N := some 88) (v := ?_) (a' := ?_) #[true, true, true, false, false, false, false, false, false, false, false, false, false, false, false, false, false, false, false, false, false, false, false, false, false, false, false, false, false, false, false, false, false, false] rfl rfl (any_of HT_.out (by kernel_rfl)) (fun _ _ _ h => h) (Or.inl ⟨by rfl, ?_⟩) ?_ ?_
      rotate_left
      {
      intro w'
      go_simp
      with_reducible rfl }
      rotate_left
      {
      simp only [Act.put, sT, s0, s1, i64_w, i32_w]
      rfl }
      refine pure_ (i := 3) (N := some 89) (v := ?_) (a' := ?_) #[true, true, true, true, false, false, false, false, false, false, false, false, false, false, false, false, false, false, false, false, false, false, false, false, false, false, false, false, false, false, false, false, false, false] rfl rfl (any_of HT_.out (by kernel_rfl)) (fun _ _ _ h => h) (Or.inl ⟨by rfl, ?_⟩) ?_ ?_
      rotate_left
      {
      intro w'
      go_simp
      with_reducible rfl }
      rotate_left
      {
      simp only [Act.put, sT, s0, s1, i64_w, i32_w]
      rfl }
      refine pure_ (i := 4) (N := some 90) (v := ?_) (a' := ?_) #[true, true, true, true, true, false, false, false, false, false, false, false, false, false, false, false, false, false, false, false, false, false, false, false, false, false, false, false, false, false, false, false, false, false] rfl rfl (any_of HT_.out (by kernel_rfl)) (fun _ _ _ h => h) (Or.inl ⟨by rfl, ?_⟩) ?_ ?_
      rotate_left
      {
      intro w'
      go_simp
      with_reducible rfl }
      rotate_left
      {
      simp only [Act.put, sT, s0, s1, i64_w, i32_w]
      rfl }
      refine pure_ (i := 5) (N := some 91) (v := ?_) (a' := ?_) #[true, true, true, true, true, true, false, false, false, false, false, false, false, false, false, false, false, false, false, false, false, false, false, false, false, false, false, false, false, false, false, false, false, false] rfl rfl (any_of HT_.out (by kernel_rfl)) (fun _ _ _ h => h) (Or.inl ⟨by rfl, ?_⟩) ?_ ?_
      rotate_left
      {
      intro w'
      go_simp
      with_reducible rfl }
      rotate_left
      {
      simp only [Act.put, sT, s0, s1, i64_w, i32_w]
      rfl }
      refine pure_ (i := 6) (N := some 92) (v := ?_) (a' := ?_) #[true, true, true, true, true, true, true, false, false, false, false, false, false, false, false, false, false, false, false, false, false, false, false, false, false, false, false, false, false, false, false, false, false, false] rfl rfl (any_of HT_.out (by kernel_rfl)) (fun _ _ _ h => h) (Or.inl ⟨by rfl, ?_⟩) ?_ ?_
      rotate_left
      {
      intro w'
      go_simp
      with_reducible rfl }
      rotate_left
      {
      simp only [Act.put, sT, s0, s1, i64_w, i32_w]
      rfl }
      refine take_ (i := 7) (N := some 93) (v := ?_) (a' := ?_) #[true, true, true, true, true, true, true, true, false, false, false, false, false, false, false, false, false, false, false, false, false, false, false, false, false, false, false, false, false, false, false, false, false, false] rfl rfl (take_ofW HT_.out HW_.out (by kernel_rfl)) (fun _ _ _ h => h) (Or.inl ⟨by rfl, ?_⟩) hHeld ?_ ?_
      rotate_left
      {
      rintro w' ⟨s0, s1, s2, s3⟩
      go_simp
      with_reducible rfl }
      rotate_left
      {
      simp only [Act.put, sT, s0, s1, i64_w, i32_w]
      rfl }
      refine pure_ (i := 8) (N := some 94) (v := ?_) (a' := ?_) #[true, true, true, true, true, true, true, true, true, false, false, false, false, false, false, false, false, false, false, false, false, false, false, false, false, false, false, false, false, false, false, false, false, false] rfl rfl (any_of HT_.out (by kernel_rfl)) (fun _ _ _ h => h) (Or.inl ⟨by rfl, ?_⟩) ?_ ?_
      rotate_left
      {
      intro w'
      go_simp
      with_reducible rfl }
      rotate_left
      {
      simp only [Act.put, sT, s0, s1, i64_w, i32_w]
      rfl }
      refine pure_ (i := 9) (N := some 95) (v := ?_) (a' := ?_) #[true, true, true, true, true, true, true, true, true, true, false, false, false, false, false, false, false, false, false, false, false, false, false, false, false, false, false, false, false, false, false, false, false, false] rfl rfl (any_of HT_.out (by kernel_rfl)) (fun _ _ _ h => h) (Or.inl ⟨by rfl, ?_⟩) ?_ ?_
      rotate_left
      {
      intro w'
      go_simp
      with_reducible rfl }
      rotate_left
      {
      simp only [Act.put, sT, s0, s1, i64_w, i32_w]
      rfl }
      refine pure_ (i := 10) (N := some 96) (v := ?_) (a' := ?_) #[true, true, true, true, true, true, true, true, true, true, true, false, false, false, false, false, false, false, false, false, false, false, false, false, false, false, false, false, false, false, false, false, false, false] rfl rfl (any_of HT_.out (by kernel_rfl)) (fun _ _ _ h => h) (Or.inl ⟨by rfl, ?_⟩) ?_ ?_
      rotate_left
      {
      intro w'
      go_simp
      with_reducible rfl }
      rotate_left
      {
      simp only [Act.put, sT, s0, s1, i64_w, i32_w]
      rfl }
      refine pure_ (i := 11) (N := some 97) (v := undef) (a' := ?_) #[true, true, true, true, true, true, true, true, true, true, true, true, false, false, false, false, false, false, false, false, false, false, false, false, false, false, false, false, false, false, false, false, false, false] rfl rfl (any_of HT_.out (by kernel_rfl)) (fun _ _ _ h => h) (Or.inr ⟨by rfl, rfl⟩) ?_ ?_
      rotate_left
      {
      simp only [Act.put, sT, s0, s1, i64_w, i32_w]
      rfl }
      refine pure_ (i := 12) (N := some 98) (v := undef) (a' := ?_) #[true, true, true, true, true, true, true, true, true, true, true, true, true, false, false, false, false, false, false, false, false, false, false, false, false, false, false, false, false, false, false, false, false, false] rfl rfl (any_of HT_.out (by kernel_rfl)) (fun _ _ _ h => h) (Or.inr ⟨by rfl, rfl⟩) ?_ ?_
      rotate_left
      {
      simp only [Act.put, sT, s0, s1, i64_w, i32_w]
      rfl }
      refine pure_ (i := 13) (N := some 99) (v := undef) (a' := ?_) #[true, true, true, true, true, true, true, true, true, true, true, true, true, true, false, false, false, false, false, false, false, false, false, false, false, false, false, false, false, false, false, false, false, false] rfl rfl (any_of HT_.out (by kernel_rfl)) (fun _ _ _ h => h) (Or.inr ⟨by rfl, rfl⟩) ?_ ?_
      rotate_left
      {
      simp only [Act.put, sT, s0, s1, i64_w, i32_w]
      rfl }
      refine pure_ (i := 14) (N := some 100) (v := undef) (a' := ?_) #[true, true, true, true, true, true, true, true, true, true, true, true, true, true, true, false, false, false, false, false, false, false, false, false, false, false, false, false, false, false, false, false, false, false] rfl rfl (any_of HT_.out (by kernel_rfl)) (fun _ _ _ h => h) (Or.inr ⟨by rfl, rfl⟩) ?_ ?_
      rotate_left
      {
      simp only [Act.put, sT, s0, s1, i64_w, i32_w]
      rfl }
      refine pure_ (i := 15) (N := some 101) (v := undef) (a' := ?_) #[true, true, true, true, true, true, true, true, true, true, true, true, true, true, true, true, false, false, false, false, false, false, false, false, false, false, false, false, false, false, false, false, false, false] rfl rfl (any_of HT_.out (by kernel_rfl)) (fun _ _ _ h => h) (Or.inr ⟨by rfl, rfl⟩) ?_ ?_
      rotate_left
      {
      simp only [Act.put, sT, s0, s1, i64_w, i32_w]
      rfl }
      refine pure_ (i := 16) (N := some 102) (v := undef) (a' := ?_) #[true, true, true, true, true, true, true, true, true, true, true, true, true, true, true, true, true, false, false, false, false, false, false, false, false, false, false, false, false, false, false, false, false, false] rfl rfl (any_of HT_.out (by kernel_rfl)) (fun _ _ _ h => h) (Or.inr ⟨by rfl, rfl⟩) ?_ ?_
      rotate_left
      {
      simp only [Act.put, sT, s0, s1, i64_w, i32_w]
      rfl }
      refine pure_ (i := 17) (N := some 103) (v := undef) (a' := ?_) #[true, true, true, true, true, true, true, true, true, true, true, true, true, true, true, true, true, true, false, false, false, false, false, false, false, false, false, false, false, false, false, false, false, false] rfl rfl (any_of HT_.out (by kernel_rfl)) (fun _ _ _ h => h) (Or.inr ⟨by rfl, rfl⟩) ?_ ?_
      rotate_left
      {
      simp only [Act.put, sT, s0, s1, i64_w, i32_w]
      rfl }
      refine pure_ (i := 18) (N := some 104) (v := ?_) (a' := ?_) #[true, true, true, true, true, true, true, true, true, true, true, true, true, true, true, true, true, true, true, false, false, false, false, false, false, false, false, false, false, false, false, false, false, false] rfl rfl (any_of HT_.out (by kernel_rfl)) (fun _ _ _ h => h) (Or.inl ⟨by rfl, ?_⟩) ?_ ?_
      rotate_left
      {
      intro w'
      go_simp
      with_reducible rfl }
      rotate_left
      {
      simp only [Act.put, sT, s0, s1, i64_w, i32_w]
      rfl }
      refine pure_ (i := 19) (N := some 105) (v := ?_) (a' := ?_) #[true, true, true, true, true, true, true, true, true, true, true, true, true, true, true, true, true, true, true, true, false, false, false, false, false, false, false, false, false, false, false, false, false, false] rfl rfl (any_of HT_.out (by kernel_rfl)) (fun _ _ _ h => h) (Or.inl ⟨by rfl, ?_⟩) ?_ ?_
      rotate_left
      {
      intro w'
      go_simp
      with_reducible rfl }
      rotate_left
      {
      simp only [Act.put, sT, s0, s1, i64_w, i32_w]
      rfl }
      refine pure_ (i := 20) (N := some 106) (v := undef) (a' := ?_) #[true, true, true, true, true, true, true, true, true, true, true, true, true, true, true, true, true, true, true, true, true, false, false, false, false, false, false, false, false, false, false, false, false, false] rfl rfl (any_of HT_.out (by kernel_rfl)) (fun _ _ _ h => h) (Or.inr ⟨by rfl, rfl⟩) ?_ ?_
      rotate_left
      {
      simp only [Act.put, sT, s0, s1, i64_w, i32_w]
      rfl }
      refine pure_ (i := 21) (N := some 107) (v := undef) (a' := ?_) #[true, true, true, true, true, true, true, true, true, true, true, true, true, true, true, true, true, true, true, true, true, true, false, false, false, false, false, false, false, false, false, false, false, false] rfl rfl (any_of HT_.out (by kernel_rfl)) (fun _ _ _ h => h) (Or.inr ⟨by rfl, rfl⟩) ?_ ?_
      rotate_left
      {
      simp only [Act.put, sT, s0, s1, i64_w, i32_w]
      rfl }
      refine pure_ (i := 22) (N := some 108) (v := undef) (a' := ?_) #[true, true, true, true, true, true, true, true, true, true, true, true, true, true, true, true, true, true, true, true, true, true, true, false, false, false, false, false, false, false, false, false, false, false] rfl rfl (any_of HT_.out (by kernel_rfl)) (fun _ _ _ h => h) (Or.inr ⟨by rfl, rfl⟩) ?_ ?_
      rotate_left
      {
      simp only [Act.put, sT, s0, s1, i64_w, i32_w]
      rfl }
      refine pure_ (i := 23) (N := some 109) (v := undef) (a' := ?_) #[true, true, true, true, true, true, true, true, true, true, true, true, true, true, true, true, true, true, true, true, true, true, true, true, false, false, false, false, false, false, false, false, false, false] rfl rfl (any_of HT_.out (by kernel_rfl)) (fun _ _ _ h => h) (Or.inr ⟨by rfl, rfl⟩) ?_ ?_
      rotate_left
      {
      simp only [Act.put, sT, s0, s1, i64_w, i32_w]
      rfl }
      refine pure_ (i := 24) (N := some 110) (v := undef) (a' := ?_) #[true, true, true, true, true, true, true, true, true, true, true, true, true, true, true, true, true, true, true, true, true, true, true, true, true, false, false, false, false, false, false, false, false, false] rfl rfl (any_of HT_.out (by kernel_rfl)) (fun _ _ _ h => h) (Or.inr ⟨by rfl, rfl⟩) ?_ ?_
      rotate_left
      {
      simp only [Act.put, sT, s0, s1, i64_w, i32_w]
      rfl }
      refine pure_ (i := 25) (N := some 111) (v := undef) (a' := ?_) #[true, true, true, true, true, true, true, true, true, true, true, true, true, true, true, true, true, true, true, true, true, true, true, true, true, true, false, false, false, false, false, false, false, false] rfl rfl (any_of HT_.out (by kernel_rfl)) (fun _ _ _ h => h) (Or.inr ⟨by rfl, rfl⟩) ?_ ?_
      rotate_left
      {
      simp only [Act.put, sT, s0, s1, i64_w, i32_w]
      rfl }
      refine pure_ (i := 26) (N := some 112) (v := undef) (a' := ?_) #[true, true, true, true, true, true, true, true, true, true, true, true, true, true, true, true, true, true, true, true, true, true, true, true, true, true, true, false, false, false, false, false, false, false] rfl rfl (any_of HT_.out (by kernel_rfl)) (fun _ _ _ h => h) (Or.inr ⟨by rfl, rfl⟩) ?_ ?_
      rotate_left
      {
      simp only [Act.put, sT, s0, s1, i64_w, i32_w]
      rfl }
      refine pure_ (i := 27) (N := some 113) (v := undef) (a' := ?_) #[true, true, true, true, true, true, true, true, true, true, true, true, true, true, true, true, true, true, true, true, true, true, true, true, true, true, true, true, false, false, false, false, false, false] rfl rfl (any_of HT_.out (by kernel_rfl)) (fun _ _ _ h => h) (Or.inr ⟨by rfl, rfl⟩) ?_ ?_
      rotate_left
      {
      simp only [Act.put, sT, s0, s1, i64_w, i32_w]
      rfl }
      refine pure_ (i := 28) (N := some 114) (v := undef) (a' := ?_) #[true, true, true, true, true, true, true, true, true, true, true, true, true, true, true, true, true, true, true, true, true, true, true, true, true, true, true, true, true, false, false, false, false, false] rfl rfl (any_of HT_.out (by kernel_rfl)) (fun _ _ _ h => h) (Or.inr ⟨by rfl, rfl⟩) ?_ ?_
      rotate_left
      {
      simp only [Act.put, sT, s0, s1, i64_w, i32_w]
      rfl }
      refine pure_ (i := 29) (N := some 115) (v := undef) (a' := ?_) #[true, true, true, true, true, true, true, true, true, true, true, true, true, true, true, true, true, true, true, true, true, true, true, true, true, true, true, true, true, true, false, false, false, false] rfl rfl (any_of HT_.out (by kernel_rfl)) (fun _ _ _ h => h) (Or.inr ⟨by rfl, rfl⟩) ?_ ?_
      rotate_left
      {
      simp only [Act.put, sT, s0, s1, i64_w, i32_w]
      rfl }
      refine pure_ (i := 30) (N := some 116) (v := undef) (a' := ?_) #[true, true, true, true, true, true, true, true, true, true, true, true, true, true, true, true, true, true, true, true, true, true, true, true, true, true, true, true, true, true, true, false, false, false] rfl rfl (any_of HT_.out (by kernel_rfl)) (fun _ _ _ h => h) (Or.inr ⟨by rfl, rfl⟩) ?_ ?_
      rotate_left
      {
      simp only [Act.put, sT, s0, s1, i64_w, i32_w]
      rfl }
      refine pure_ (i := 31) (N := some 117) (v := undef) (a' := ?_) #[true, true, true, true, true, true, true, true, true, true, true, true, true, true, true, true, true, true, true, true, true, true, true, true, true, true, true, true, true, true, true, true, false, false] rfl rfl (any_of HT_.out (by kernel_rfl)) (fun _ _ _ h => h) (Or.inr ⟨by rfl, rfl⟩) ?_ ?_
      rotate_left
      {
      simp only [Act.put, sT, s0, s1, i64_w, i32_w]
      rfl }
      refine pure_ (i := 32) (N := some 118) (v := undef) (a' := ?_) #[true, true, true, true, true, true, true, true, true, true, true, true, true, true, true, true, true, true, true, true, true, true, true, true, true, true, true, true, true, true, true, true, true, false] rfl rfl (any_of HT_.out (by kernel_rfl)) (fun _ _ _ h => h) (Or.inr ⟨by rfl, rfl⟩) ?_ ?_
      rotate_left
      {
      simp only [Act.put, sT, s0, s1, i64_w, i32_w]
      rfl }
      refine pure_ (i := 33) (N := some 119) (v := ?_) (a' := ?_) #[true, true, true, true, true, true, true, true, true, true, true, true, true, true, true, true, true, true, true, true, true, true, true, true, true, true, true, true, true, true, true, true, true, true] rfl rfl (any_of HT_.out (by kernel_rfl)) (fun _ _ _ h => h) (Or.inl ⟨by rfl, ?_⟩) ?_ ?_
      rotate_left
      {
      intro w'
      go_simp
      with_reducible rfl }
      rotate_left
      {
      simp only [Act.put, sT, s0, s1, i64_w, i32_w]
      rfl }
      refine done_ (done_of HT_.out (by kernel_rfl)) ?_
      try go_wp2
      go_meet
      case rel => exact ⟨_, (false), (by first | rfl | (simp; done) | (simp [*]; done)), H', ⟨by have := HK1.out; have := HJ8.out; have := HJ16.out; have := HJ24.out; first | omega | exact Nat.le_refl _⟩, ⟨by (with_reducible repeat (first | apply Kd.R_alloc | apply Kd.R_drewN | apply Kd.R_drew)); exact HO_6.out⟩, ⟨kk BK268.out⟩, ⟨by repeat (first | (with_reducible first | exact HB.out | apply below_alloc | apply pw_below_drewN | apply below_drew1 | refine below_set ?_ GE268.out) | exact HB.out)⟩⟩ } }
      {
      rw [if_neg c52] at H
      exact absurd H (by simp) } }
      {
      rw [if_neg c51] at H
      exact absurd H (by simp) } }
      {
      rw [if_neg c50] at H
      have c50b0 : decide (0 < x8_1) = false := decide_eq_false c50
      clear c50
      (first | rw [c50b0] | (simp only [i64_w, i32_w]; rw [c50b0]) | skip)
      have H' := aS H
      clear H
      try go_wp2
      have n0_ := aS (Kd.R_drew HO_6.out)
      have n1_ := aS (blk_drew BK268.out)
      have n2_ := aS (below_drew1 HB.out)
      clear HO_6
      clear BK268
      clear HB
      have HO_6 := n0_
      have BK268 := n1_
      have HB := n2_
      clear n0_ n1_ n2_
      refine start_ (n := 34) (S := fun w' => True) (ds := []) #[false, false, false, false, false, false, false, false, false, false, false, false, false, false, false, false, false, false, false, false, false, false, false, false, false, false, false, false, false, false, false, false, false, false] (by kernel_rfl) rfl rfl trivial (fun hHeld => ?_); refine with_tabW hallmootlaw04_LexTokens.tab15 hallmootlaw04_LexTokens.bits15 (fun HT_ HW_ => ?_)
      generalize wc.drew = w61 at HO_6 BK268 HB hHeld ⊢
      refine pure_ (i := 0) (N := some 86) (v := ?_) (a' := ?_) #[true, false, false, false, false, false, false, false, false, false, false, false, false, false, false, false, false, false, false, false, false, false, false, false, false, false, false, false, false, false, false, false, false, false] rfl rfl (any_of HT_.out (by kernel_rfl)) (fun _ _ _ h => h) (Or.inl ⟨by rfl, ?_⟩) ?_ ?_
      rotate_left
      {
      intro w'
      go_simp
      with_reducible rfl }
      rotate_left
      {
      simp only [Act.put, sT, s0, s1, i64_w, i32_w]
      rfl }
      refine pure_ (i := 1) (N := some 87) (v := ?_) (a' := ?_) #[true, true, false, false, false, false, false, false, false, false, false, false, false, false, false, false, false, false, false, false, false, false, false, false, false, false, false, false, false, false, false, false, false, false] rfl rfl (any_of HT_.out (by kernel_rfl)) (fun _ _ _ h => h) (Or.inl ⟨by rfl, ?_⟩) ?_ ?_
      rotate_left
      {
      intro w'
      go_simp
      with_reducible rfl }
      rotate_left
      {
      simp only [Act.put, sT, s0, s1, i64_w, i32_w]
      rfl }
      refine pure_ (i := 2) (N := some 88) (v := ?_) (a' := ?_) #[true, true, true, false, false, false, false, false, false, false, false, false, false, false, false, false, false, false, false, false, false, false, false, false, false, false, false, false, false, false, false, false, false, false] rfl rfl (any_of HT_.out (by kernel_rfl)) (fun _ _ _ h => h) (Or.inl ⟨by rfl, ?_⟩) ?_ ?_
      rotate_left
      {
      intro w'
      go_simp
      with_reducible rfl }
      rotate_left
      {
      simp only [Act.put, sT, s0, s1, i64_w, i32_w]
      rfl }
      refine pure_ (i := 3) (N := some 89) (v := undef) (a' := ?_) #[true, true, true, true, false, false, false, false, false, false, false, false, false, false, false, false, false, false, false, false, false, false, false, false, false, false, false, false, false, false, false, false, false, false] rfl rfl (any_of HT_.out (by kernel_rfl)) (fun _ _ _ h => h) (Or.inr ⟨by rfl, rfl⟩) ?_ ?_
      rotate_left
      {
      simp only [Act.put, sT, s0, s1, i64_w, i32_w]
      rfl }
      refine pure_ (i := 4) (N := some 90) (v := undef) (a' := ?_) #[true, true, true, true, true, false, false, false, false, false, false, false, false, false, false, false, false, false, false, false, false, false, false, false, false, false, false, false, false, false, false, false, false, false] rfl rfl (any_of HT_.out (by kernel_rfl)) (fun _ _ _ h => h) (Or.inr ⟨by rfl, rfl⟩) ?_ ?_
      rotate_left
      {
      simp only [Act.put, sT, s0, s1, i64_w, i32_w]
      rfl }
      refine pure_ (i := 5) (N := some 91) (v := undef) (a' := ?_) #[true, true, true, true, true, true, false, false, false, false, false, false, false, false, false, false, false, false, false, false, false, false, false, false, false, false, false, false, false, false, false, false, false, false] rfl rfl (any_of HT_.out (by kernel_rfl)) (fun _ _ _ h => h) (Or.inr ⟨by rfl, rfl⟩) ?_ ?_
      rotate_left
      {
      simp only [Act.put, sT, s0, s1, i64_w, i32_w]
      rfl }
      refine pure_ (i := 6) (N := some 92) (v := undef) (a' := ?_) #[true, true, true, true, true, true, true, false, false, false, false, false, false, false, false, false, false, false, false, false, false, false, false, false, false, false, false, false, false, false, false, false, false, false] rfl rfl (any_of HT_.out (by kernel_rfl)) (fun _ _ _ h => h) (Or.inr ⟨by rfl, rfl⟩) ?_ ?_
      rotate_left
      {
      simp only [Act.put, sT, s0, s1, i64_w, i32_w]
      rfl }
      refine pure_ (i := 7) (N := some 93) (v := undef) (a' := ?_) #[true, true, true, true, true, true, true, true, false, false, false, false, false, false, false, false, false, false, false, false, false, false, false, false, false, false, false, false, false, false, false, false, false, false] rfl rfl (any_of HT_.out (by kernel_rfl)) (fun _ _ _ h => h) (Or.inr ⟨by rfl, rfl⟩) ?_ ?_
      rotate_left
      {
      simp only [Act.put, sT, s0, s1, i64_w, i32_w]
      rfl }
      refine pure_ (i := 8) (N := some 94) (v := undef) (a' := ?_) #[true, true, true, true, true, true, true, true, true, false, false, false, false, false, false, false, false, false, false, false, false, false, false, false, false, false, false, false, false, false, false, false, false, false] rfl rfl (any_of HT_.out (by kernel_rfl)) (fun _ _ _ h => h) (Or.inr ⟨by rfl, rfl⟩) ?_ ?_
      rotate_left
      {
      simp only [Act.put, sT, s0, s1, i64_w, i32_w]
      rfl }
      refine pure_ (i := 9) (N := some 95) (v := ?_) (a' := ?_) #[true, true, true, true, true, true, true, true, true, true, false, false, false, false, false, false, false, false, false, false, false, false, false, false, false, false, false, false, false, false, false, false, false, false] rfl rfl (any_of HT_.out (by kernel_rfl)) (fun _ _ _ h => h) (Or.inl ⟨by rfl, ?_⟩) ?_ ?_
      rotate_left
      {
      intro w'
      go_simp
      with_reducible rfl }
      rotate_left
      {
      simp only [Act.put, sT, s0, s1, i64_w, i32_w]
      rfl }
      refine pure_ (i := 10) (N := some 96) (v := ?_) (a' := ?_) #[true, true, true, true, true, true, true, true, true, true, true, false, false, false, false, false, false, false, false, false, false, false, false, false, false, false, false, false, false, false, false, false, false, false] rfl rfl (any_of HT_.out (by kernel_rfl)) (fun _ _ _ h => h) (Or.inl ⟨by rfl, ?_⟩) ?_ ?_
      rotate_left
      {
      intro w'
      go_simp
      with_reducible rfl }
      rotate_left
      {
      simp only [Act.put, sT, s0, s1, i64_w, i32_w]
      rfl }
      refine pure_ (i := 11) (N := some 97) (v := undef) (a' := ?_) #[true, true, true, true, true, true, true, true, true, true, true, true, false, false, false, false, false, false, false, false, false, false, false, false, false, false, false, false, false, false, false, false, false, false] rfl rfl (any_of HT_.out (by kernel_rfl)) (fun _ _ _ h => h) (Or.inr ⟨by rfl, rfl⟩) ?_ ?_
      rotate_left
      {
      simp only [Act.put, sT, s0, s1, i64_w, i32_w]
      rfl }
      refine pure_ (i := 12) (N := some 98) (v := undef) (a' := ?_) #[true, true, true, true, true, true, true, true, true, true, true, true, true, false, false, false, false, false, false, false, false, false, false, false, false, false, false, false, false, false, false, false, false, false] rfl rfl (any_of HT_.out (by kernel_rfl)) (fun _ _ _ h => h) (Or.inr ⟨by rfl, rfl⟩) ?_ ?_
      rotate_left
      {
      simp only [Act.put, sT, s0, s1, i64_w, i32_w]
      rfl }
      refine pure_ (i := 13) (N := some 99) (v := undef) (a' := ?_) #[true, true, true, true, true, true, true, true, true, true, true, true, true, true, false, false, false, false, false, false, false, false, false, false, false, false, false, false, false, false, false, false, false, false] rfl rfl (any_of HT_.out (by kernel_rfl)) (fun _ _ _ h => h) (Or.inr ⟨by rfl, rfl⟩) ?_ ?_
      rotate_left
      {
      simp only [Act.put, sT, s0, s1, i64_w, i32_w]
      rfl }
      refine pure_ (i := 14) (N := some 100) (v := undef) (a' := ?_) #[true, true, true, true, true, true, true, true, true, true, true, true, true, true, true, false, false, false, false, false, false, false, false, false, false, false, false, false, false, false, false, false, false, false] rfl rfl (any_of HT_.out (by kernel_rfl)) (fun _ _ _ h => h) (Or.inr ⟨by rfl, rfl⟩) ?_ ?_
      rotate_left
      {
      simp only [Act.put, sT, s0, s1, i64_w, i32_w]
      rfl }
      refine pure_ (i := 15) (N := some 101) (v := undef) (a' := ?_) #[true, true, true, true, true, true, true, true, true, true, true, true, true, true, true, true, false, false, false, false, false, false, false, false, false, false, false, false, false, false, false, false, false, false] rfl rfl (any_of HT_.out (by kernel_rfl)) (fun _ _ _ h => h) (Or.inr ⟨by rfl, rfl⟩) ?_ ?_
      rotate_left
      {
      simp only [Act.put, sT, s0, s1, i64_w, i32_w]
      rfl }
      refine pure_ (i := 16) (N := some 102) (v := undef) (a' := ?_) #[true, true, true, true, true, true, true, true, true, true, true, true, true, true, true, true, true, false, false, false, false, false, false, false, false, false, false, false, false, false, false, false, false, false] rfl rfl (any_of HT_.out (by kernel_rfl)) (fun _ _ _ h => h) (Or.inr ⟨by rfl, rfl⟩) ?_ ?_
      rotate_left
      {
      simp only [Act.put, sT, s0, s1, i64_w, i32_w]
      rfl }
      refine pure_ (i := 17) (N := some 103) (v := undef) (a' := ?_) #[true, true, true, true, true, true, true, true, true, true, true, true, true, true, true, true, true, true, false, false, false, false, false, false, false, false, false, false, false, false, false, false, false, false] rfl rfl (any_of HT_.out (by kernel_rfl)) (fun _ _ _ h => h) (Or.inr ⟨by rfl, rfl⟩) ?_ ?_
      rotate_left
      {
      simp only [Act.put, sT, s0, s1, i64_w, i32_w]
      rfl }
      refine pure_ (i := 18) (N := some 104) (v := ?_) (a' := ?_) #[true, true, true, true, true, true, true, true, true, true, true, true, true, true, true, true, true, true, true, false, false, false, false, false, false, false, false, false, false, false, false, false, false, false] rfl rfl (any_of HT_.out (by kernel_rfl)) (fun _ _ _ h => h) (Or.inl ⟨by rfl, ?_⟩) ?_ ?_
      rotate_left
      {
      intro w'
      go_simp
      with_reducible rfl }
      rotate_left
      {
      simp only [Act.put, sT, s0, s1, i64_w, i32_w]
      rfl }
      refine pure_ (i := 19) (N := some 105) (v := ?_) (a' := ?_) #[true, true, true, true, true, true, true, true, true, true, true, true, true, true, true, true, true, true, true, true, false, false, false, false, false, false, false, false, false, false, false, false, false, false] rfl rfl (any_of HT_.out (by kernel_rfl)) (fun _ _ _ h => h) (Or.inl ⟨by rfl, ?_⟩) ?_ ?_
      rotate_left
      {
      intro w'
      go_simp
      with_reducible rfl }
      rotate_left
      {
      simp only [Act.put, sT, s0, s1, i64_w, i32_w]
      rfl }
      refine pure_ (i := 20) (N := some 106) (v := undef) (a' := ?_) #[true, true, true, true, true, true, true, true, true, true, true, true, true, true, true, true, true, true, true, true, true, false, false, false, false, false, false, false, false, false, false, false, false, false] rfl rfl (any_of HT_.out (by kernel_rfl)) (fun _ _ _ h => h) (Or.inr ⟨by rfl, rfl⟩) ?_ ?_
      rotate_left
      {
      simp only [Act.put, sT, s0, s1, i64_w, i32_w]
      rfl }
      refine pure_ (i := 21) (N := some 107) (v := undef) (a' := ?_) #[true, true, true, true, true, true, true, true, true, true, true, true, true, true, true, true, true, true, true, true, true, true, false, false, false, false, false, false, false, false, false, false, false, false] rfl rfl (any_of HT_.out (by kernel_rfl)) (fun _ _ _ h => h) (Or.inr ⟨by rfl, rfl⟩) ?_ ?_
      rotate_left
      {
      simp only [Act.put, sT, s0, s1, i64_w, i32_w]
      rfl }
      refine pure_ (i := 22) (N := some 108) (v := undef) (a' := ?_) #[true, true, true, true, true, true, true, true, true, true, true, true, true, true, true, true, true, true, true, true, true, true, true, false, false, false, false, false, false, false, false, false, false, false] rfl rfl (any_of HT_.out (by kernel_rfl)) (fun _ _ _ h => h) (Or.inr ⟨by rfl, rfl⟩) ?_ ?_
      rotate_left
      {
      simp only [Act.put, sT, s0, s1, i64_w, i32_w]
      rfl }
      refine pure_ (i := 23) (N := some 109) (v := undef) (a' := ?_) #[true, true, true, true, true, true, true, true, true, true, true, true, true, true, true, true, true, true, true, true, true, true, true, true, false, false, false, false, false, false, false, false, false, false] rfl rfl (any_of HT_.out (by kernel_rfl)) (fun _ _ _ h => h) (Or.inr ⟨by rfl, rfl⟩) ?_ ?_
      rotate_left
      {
      simp only [Act.put, sT, s0, s1, i64_w, i32_w]
      rfl }
      refine pure_ (i := 24) (N := some 110) (v := undef) (a' := ?_) #[true, true, true, true, true, true, true, true, true, true, true, true, true, true, true, true, true, true, true, true, true, true, true, true, true, false, false, false, false, false, false, false, false, false] rfl rfl (any_of HT_.out (by kernel_rfl)) (fun _ _ _ h => h) (Or.inr ⟨by rfl, rfl⟩) ?_ ?_
      rotate_left
      {
      simp only [Act.put, sT, s0, s1, i64_w, i32_w]
      rfl }
      refine pure_ (i := 25) (N := some 111) (v := undef) (a' := ?_) #[true, true, true, true, true, true, true, true, true, true, true, true, true, true, true, true, true, true, true, true, true, true, true, true, true, true, false, false, false, false, false, false, false, false] rfl rfl (any_of HT_.out (by kernel_rfl)) (fun _ _ _ h => h) (Or.inr ⟨by rfl, rfl⟩) ?_ ?_
      rotate_left
      {
      simp only [Act.put, sT, s0, s1, i64_w, i32_w]
      rfl }
      refine pure_ (i := 26) (N := some 112) (v := undef) (a' := ?_) #[true, true, true, true, true, true, true, true, true, true, true, true, true, true, true, true, true, true, true, true, true, true, true, true, true, true, true, false, false, false, false, false, false, false] rfl rfl (any_of HT_.out (by kernel_rfl)) (fun _ _ _ h => h) (Or.inr ⟨by rfl, rfl⟩) ?_ ?_
      rotate_left
      {
      simp only [Act.put, sT, s0, s1, i64_w, i32_w]
      rfl }
      refine pure_ (i := 27) (N := some 113) (v := undef) (a' := ?_) #[true, true, true, true, true, true, true, true, true, true, true, true, true, true, true, true, true, true, true, true, true, true, true, true, true, true, true, true, false, false, false, false, false, false] rfl rfl (any_of HT_.out (by kernel_rfl)) (fun _ _ _ h => h) (Or.inr ⟨by rfl, rfl⟩) ?_ ?_
      rotate_left
      {
      simp only [Act.put, sT, s0, s1, i64_w, i32_w]
      rfl }
      refine pure_ (i := 28) (N := some 114) (v := undef) (a' := ?_) #[true, true, true, true, true, true, true, true, true, true, true, true, true, true, true, true, true, true, true, true, true, true, true, true, true, true, true, true, true, false, false, false, false, false] rfl rfl (any_of HT_.out (by kernel_rfl)) (fun _ _ _ h => h) (Or.inr ⟨by rfl, rfl⟩) ?_ ?_
      rotate_left
      {
      simp only [Act.put, sT, s0, s1, i64_w, i32_w]
      rfl }
      refine pure_ (i := 29) (N := some 115) (v := undef) (a' := ?_) #[true, true, true, true, true, true, true, true, true, true, true, true, true, true, true, true, true, true, true, true, true, true, true, true, true, true, true, true, true, true, false, false, false, false] rfl rfl (any_of HT_.out (by kernel_rfl)) (fun _ _ _ h => h) (Or.inr ⟨by rfl, rfl⟩) ?_ ?_
      rotate_left
      {
      simp only [Act.put, sT, s0, s1, i64_w, i32_w]
      rfl }
      refine pure_ (i := 30) (N := some 116) (v := undef) (a' := ?_) #[true, true, true, true, true, true, true, true, true, true, true, true, true, true, true, true, true, true, true, true, true, true, true, true, true, true, true, true, true, true, true, false, false, false] rfl rfl (any_of HT_.out (by kernel_rfl)) (fun _ _ _ h => h) (Or.inr ⟨by rfl, rfl⟩) ?_ ?_
      rotate_left
      {
      simp only [Act.put, sT, s0, s1, i64_w, i32_w]
      rfl }
      refine pure_ (i := 31) (N := some 117) (v := undef) (a' := ?_) #[true, true, true, true, true, true, true, true, true, true, true, true, true, true, true, true, true, true, true, true, true, true, true, true, true, true, true, true, true, true, true, true, false, false] rfl rfl (any_of HT_.out (by kernel_rfl)) (fun _ _ _ h => h) (Or.inr ⟨by rfl, rfl⟩) ?_ ?_
      rotate_left
      {
      simp only [Act.put, sT, s0, s1, i64_w, i32_w]
      rfl }
      refine pure_ (i := 32) (N := some 118) (v := undef) (a' := ?_) #[true, true, true, true, true, true, true, true, true, true, true, true, true, true, true, true, true, true, true, true, true, true, true, true, true, true, true, true, true, true, true, true, true, false] rfl rfl (any_of HT_.out (by kernel_rfl)) (fun _ _ _ h => h) (Or.inr ⟨by rfl, rfl⟩) ?_ ?_
      rotate_left
      {
      simp only [Act.put, sT, s0, s1, i64_w, i32_w]
      rfl }
      refine pure_ (i := 33) (N := some 119) (v := ?_) (a' := ?_) #[true, true, true, true, true, true, true, true, true, true, true, true, true, true, true, true, true, true, true, true, true, true, true, true, true, true, true, true, true, true, true, true, true, true] rfl rfl (any_of HT_.out (by kernel_rfl)) (fun _ _ _ h => h) (Or.inl ⟨by rfl, ?_⟩) ?_ ?_
      rotate_left
      {
      intro w'
      go_simp
      with_reducible rfl }
      rotate_left
      {
      simp only [Act.put, sT, s0, s1, i64_w, i32_w]
      rfl }
      refine done_ (done_of HT_.out (by kernel_rfl)) ?_
      try go_wp2
      go_meet
      case rel => exact ⟨_, (false), (by first | rfl | (simp; done) | (simp [*]; done)), H', ⟨by have := HK1.out; have := HJ8.out; have := HJ16.out; have := HJ24.out; first | omega | exact Nat.le_refl _⟩, ⟨by (with_reducible repeat (first | apply Kd.R_alloc | apply Kd.R_drewN | apply Kd.R_drew)); exact HO_6.out⟩, ⟨kk BK268.out⟩, ⟨by repeat (first | (with_reducible first | exact HB.out | apply below_alloc | apply pw_below_drewN | apply below_drew1 | refine below_set ?_ GE268.out) | exact HB.out)⟩⟩ }
     case rest =>
      clear HC49
      try clear p2
      try clear q2
      try clear hx2
      try clear c5
      try clear p27
      try clear q27
      try clear hx27
      try clear c50
      try clear c50b0
      try clear c51
      try clear c52
      try clear c53
      try clear c53b0
      try clear c53b1
      try clear c55
      try clear c56
      try clear hx270_0
      try clear hx270_1
      try clear hx270_2
      try clear hx270_3
      try clear p270
      try clear q270
      obtain ⟨kq, x119_48, rfl, HA, HJ48, HO_6, BK268, HB⟩ := hcut
      cases kq with
      | zero => exact absurd HA.out (by simp [hallmootlaw04_LexTokens.j4])
      | succ kj48 => {
      have H := HA.out
      clear HA
      simp only [hallmootlaw04_LexTokens.j4] at H
      by_cases c62 : x119_48 = true
      {
      subst c62
      have H1 : (if 0 ≤ (wrap64 (x8_1 - 1)) then (if (wrap64 (x8_1 - 1)) < (t258.length : Int) then (if 0 ≤ x8_1 then (if x8_1 < (t258.length : Int) then (if ((rd_T30 t258 (wrap64 (x8_1 - 1))).f1).size + ((rd_T30 t258 x8_1).f1).size ≤ 9223372036854775807 then ((lex_Words.f (((rd_T30 t258 (wrap64 (x8_1 - 1))).f1) ++ ((rd_T30 t258 x8_1).f1))).bind fun bt276 => (if (((rd_T30 t258 (wrap64 (x8_1 - 1))).f1).size : Int) = 1 then (if bt276.2 = 0 then (if (bt276.1.length : Int) = 2 then (hallmootlaw04_LexTokens.l0 kj48 a1 t257 t258 t259 (wrap64 (x8_1 + 1))) else (none)) else (none)) else (hallmootlaw04_LexTokens.l0 kj48 a1 t257 t258 t259 (wrap64 (x8_1 + 1))))) else (none)) else (none)) else (none)) else (none)) else (none)) = some r := by rw [if_pos rfl] at H; exact H
      clear H
      have H := H1
      clear H1
      obtain ⟨ji63, hji63⟩ : ∃ j_ : Int, (wrap64 (x8_1 - 1)) = j_ := ⟨_, rfl⟩
      replace H : (if 0 ≤ (ji63) then (if (ji63) < (t258.length : Int) then (if 0 ≤ x8_1 then (if x8_1 < (t258.length : Int) then (if ((rd_T30 t258 (ji63)).f1).size + ((rd_T30 t258 x8_1).f1).size ≤ 9223372036854775807 then ((lex_Words.f (((rd_T30 t258 (ji63)).f1) ++ ((rd_T30 t258 x8_1).f1))).bind fun bt276 => (if (((rd_T30 t258 (ji63)).f1).size : Int) = 1 then (if bt276.2 = 0 then (if (bt276.1.length : Int) = 2 then (hallmootlaw04_LexTokens.l0 kj48 a1 t257 t258 t259 (wrap64 (x8_1 + 1))) else (none)) else (none)) else (hallmootlaw04_LexTokens.l0 kj48 a1 t257 t258 t259 (wrap64 (x8_1 + 1))))) else (none)) else (none)) else (none)) else (none)) else (none)) = some r := by first | (rw [hji63] at H; exact H) | (simp only [hji63] at H ⊢; exact H)
      have hji63w : (IntKind.i64.wrap (x8_1 - 1)) = ji63 := (i64_w _).trans hji63
      by_cases c64 : 0 ≤ (ji63)
      {
      rw [if_pos c64] at H
      have c64b0 : decide (0 ≤ (ji63)) = true := decide_eq_true c64
      clear c64
      by_cases c65 : (ji63) < (t258.length : Int)
      {
      rw [if_pos c65] at H
      have c65b0 : decide ((ji63) < (t258.length : Int)) = true := decide_eq_true c65
      clear c65
      by_cases c66 : 0 ≤ x8_1
      {
      rw [if_pos c66] at H
      have c66b0 : decide (0 ≤ x8_1) = true := decide_eq_true c66
      clear c66
      by_cases c67 : x8_1 < (t258.length : Int)
      {
      rw [if_pos c67] at H
      have c67b0 : decide (x8_1 < (t258.length : Int)) = true := decide_eq_true c67
      clear c67
      by_cases c68 : ((rd_T30 t258 (ji63)).f1).size + ((rd_T30 t258 x8_1).f1).size ≤ 9223372036854775807
      {
      rw [if_pos c68] at H
      have c68b0 := eq_true c68
      have c68b1 : decide (((rd_T30 t258 (ji63)).f1).size + ((rd_T30 t258 x8_1).f1).size ≤ 9223372036854775807) = true := decide_eq_true c68
      try have c68b2 : (9223372036854775807 < ((rd_T30 t258 (ji63)).f1).size + ((rd_T30 t258 x8_1).f1).size) = False := eq_false (Nat.not_lt.2 c68)
      replace H := Option.bind_eq_some_iff.mp H
      obtain ⟨⟨t276, t277⟩, A690, H⟩ := H
      replace H : (if (((rd_T30 t258 (ji63)).f1).size : Int) = 1 then (if t277 = 0 then (if (t276.length : Int) = 2 then (hallmootlaw04_LexTokens.l0 kj48 a1 t257 t258 t259 (wrap64 (x8_1 + 1))) else (none)) else (none)) else (hallmootlaw04_LexTokens.l0 kj48 a1 t257 t258 t259 (wrap64 (x8_1 + 1)))) = some r := H
      have A69 := aS A690
      clear A690
      by_cases c70 : (((rd_T30 t258 (ji63)).f1).size : Int) = 1
      {
      rw [if_pos c70] at H
      have c70b0 : ((((rd_T30 t258 (ji63)).f1).size : Int) == 1) = true := beq_iff_eq.mpr c70
      have c70b1 : ((((rd_T30 t258 (ji63)).f1).size : Int) != 1) = false := bne_eq_false_iff_eq.mpr c70
      clear c70
      by_cases c71 : t277 = 0
      {
      rw [if_pos c71] at H
      have c71b0 : (t277 == 0) = true := beq_iff_eq.mpr c71
      have c71b1 : (t277 != 0) = false := bne_eq_false_iff_eq.mpr c71
      clear c71
      by_cases c72 : (t276.length : Int) = 2
      {
      rw [if_pos c72] at H
      have c72b0 : ((t276.length : Int) == 2) = true := beq_iff_eq.mpr c72
      have c72b1 : ((t276.length : Int) != 2) = false := bne_eq_false_iff_eq.mpr c72
      clear c72
      have H' := aS H
      clear H
      try go_wp2
      have n0_ := aS (Kd.R_drew HO_6.out)
      have n1_ := aS (blk_drew BK268.out)
      have n2_ := aS (below_drew1 HB.out)
      clear HO_6
      clear BK268
      clear HB
      have HO_6 := n0_
      have BK268 := n1_
      have HB := n2_
      clear n0_ n1_ n2_
      have p274 : 0 ≤ ((ji63) : Int) := dd
      have q274 : (ji63) < (t258.length : Int) := dd
      obtain ⟨ad274, e274, hx274_0, hx274_1, hx274_2, hx274_3⟩ := at_T30 (Kd.R_reads' HO_6.out).2.2 (ji63) p274 q274
      obtain rfl : ad262 = ad274 := (by injection e274)
      replace p274 := eq_true p274
      replace q274 := eq_true q274
      have p275 : 0 ≤ (x8_1 : Int) := dd
      have q275 : x8_1 < (t258.length : Int) := dd
      obtain ⟨ad275, e275, hx275_0, hx275_1, hx275_2, hx275_3⟩ := at_T30 (Kd.R_reads' HO_6.out).2.2 x8_1 p275 q275
      obtain rfl : ad262 = ad275 := (by injection e275)
      replace p275 := eq_true p275
      replace q275 := eq_true q275
      refine start_ (n := 18) (S := fun w' => w'.cell? (ad262.add (((ji63)).toNat * 4)) = some (.int .i64 ((rd_T30 t258 (ji63)).f0)) ∧ w'.cell? ⟨(ad262.add (((ji63)).toNat * 4)).block, (ad262.add (((ji63)).toNat * 4)).off + 1, none⟩ = some (.string ((rd_T30 t258 (ji63)).f1)) ∧ w'.cell? ⟨(ad262.add (((ji63)).toNat * 4)).block, (ad262.add (((ji63)).toNat * 4)).off + 2, none⟩ = some (.int .i64 ((rd_T30 t258 (ji63)).f2)) ∧ w'.cell? ⟨(ad262.add (((ji63)).toNat * 4)).block, (ad262.add (((ji63)).toNat * 4)).off + 3, none⟩ = some (.int .i64 ((rd_T30 t258 (ji63)).f3)) ∧ w'.cell? (ad262.add ((x8_1).toNat * 4)) = some (.int .i64 ((rd_T30 t258 x8_1).f0)) ∧ w'.cell? ⟨(ad262.add ((x8_1).toNat * 4)).block, (ad262.add ((x8_1).toNat * 4)).off + 1, none⟩ = some (.string ((rd_T30 t258 x8_1).f1)) ∧ w'.cell? ⟨(ad262.add ((x8_1).toNat * 4)).block, (ad262.add ((x8_1).toNat * 4)).off + 2, none⟩ = some (.int .i64 ((rd_T30 t258 x8_1).f2)) ∧ w'.cell? ⟨(ad262.add ((x8_1).toNat * 4)).block, (ad262.add ((x8_1).toNat * 4)).off + 3, none⟩ = some (.int .i64 ((rd_T30 t258 x8_1).f3))) (ds := []) #[false, false, false, false, false, false, false, false, false, false, false, false, false, false, false, false, false, false] (by kernel_rfl) rfl rfl ⟨hx274_0, hx274_1, hx274_2, hx274_3, hx275_0, hx275_1, hx275_2, hx275_3⟩ (fun hHeld => ?_); refine with_tabW hallmootlaw04_LexTokens.tab16 hallmootlaw04_LexTokens.bits16 (fun HT_ HW_ => ?_)
      generalize wc.drew = w73 at HO_6 BK268 HB hx274_0 hx274_1 hx274_2 hx274_3 hx275_0 hx275_1 hx275_2 hx275_3 hHeld ⊢
      refine pure_ (i := 0) (N := some 121) (v := ?_) (a' := ?_) #[true, false, false, false, false, false, false, false, false, false, false, false, false, false, false, false, false, false] rfl rfl (any_of HT_.out (by kernel_rfl)) (fun _ _ _ h => h) (Or.inl ⟨by rfl, ?_⟩) ?_ ?_
      rotate_left
      {
      intro w'
      go_simp
      with_reducible rfl }
      rotate_left
      {
      simp only [Act.put, sT, s0, s1, i64_w, i32_w]
      rfl }
      refine pure_ (i := 1) (N := some 122) (v := ?_) (a' := ?_) #[true, true, false, false, false, false, false, false, false, false, false, false, false, false, false, false, false, false] rfl rfl (any_of HT_.out (by kernel_rfl)) (fun _ _ _ h => h) (Or.inl ⟨by rfl, ?_⟩) ?_ ?_
      rotate_left
      {
      intro w'
      go_simp
      with_reducible rfl }
      rotate_left
      {
      simp only [Act.put, sT, s0, s1, i64_w, i32_w]
      rfl }
      refine pure_ (i := 2) (N := some 123) (v := ?_) (a' := ?_) #[true, true, true, false, false, false, false, false, false, false, false, false, false, false, false, false, false, false] rfl rfl (any_of HT_.out (by kernel_rfl)) (fun _ _ _ h => h) (Or.inl ⟨by rfl, ?_⟩) ?_ ?_
      rotate_left
      {
      intro w'
      go_simp
      with_reducible rfl }
      rotate_left
      {
      simp only [Act.put, sT, s0, s1, i64_w, i32_w]
      rfl }
      refine pure_ (i := 3) (N := some 124) (v := ?_) (a' := ?_) #[true, true, true, true, false, false, false, false, false, false, false, false, false, false, false, false, false, false] rfl rfl (any_of HT_.out (by kernel_rfl)) (fun _ _ _ h => h) (Or.inl ⟨by rfl, ?_⟩) ?_ ?_
      rotate_left
      {
      intro w'
      go_simp
      with_reducible rfl }
      rotate_left
      {
      simp only [Act.put, sT, s0, s1, i64_w, i32_w]
      rfl }
      refine pure_ (i := 4) (N := some 125) (v := ?_) (a' := ?_) #[true, true, true, true, true, false, false, false, false, false, false, false, false, false, false, false, false, false] rfl rfl (any_of HT_.out (by kernel_rfl)) (fun _ _ _ h => h) (Or.inl ⟨by rfl, ?_⟩) ?_ ?_
      rotate_left
      {
      intro w'
      go_simp
      with_reducible rfl }
      rotate_left
      {
      simp only [Act.put, sT, s0, s1, i64_w, i32_w]
      rfl }
      refine pure_ (i := 6) (N := some 127) (v := ?_) (a' := ?_) #[true, true, true, true, true, false, true, false, false, false, false, false, false, false, false, false, false, false] rfl rfl (any_of HT_.out (by kernel_rfl)) (fun _ _ _ h => h) (Or.inl ⟨by rfl, ?_⟩) ?_ ?_
      rotate_left
      {
      intro w'
      go_simp
      with_reducible rfl }
      rotate_left
      {
      simp only [Act.put, sT, s0, s1, i64_w, i32_w]
      rfl }
      refine pure_ (i := 7) (N := some 128) (v := ?_) (a' := ?_) #[true, true, true, true, true, false, true, true, false, false, false, false, false, false, false, false, false, false] rfl rfl (any_of HT_.out (by kernel_rfl)) (fun _ _ _ h => h) (Or.inl ⟨by rfl, ?_⟩) ?_ ?_
      rotate_left
      {
      intro w'
      go_simp
      with_reducible rfl }
      rotate_left
      {
      simp only [Act.put, sT, s0, s1, i64_w, i32_w]
      rfl }
      refine pure_ (i := 8) (N := some 129) (v := ?_) (a' := ?_) #[true, true, true, true, true, false, true, true, true, false, false, false, false, false, false, false, false, false] rfl rfl (any_of HT_.out (by kernel_rfl)) (fun _ _ _ h => h) (Or.inl ⟨by rfl, ?_⟩) ?_ ?_
      rotate_left
      {
      intro w'
      go_simp
      with_reducible rfl }
      rotate_left
      {
      simp only [Act.put, sT, s0, s1, i64_w, i32_w]
      rfl }
      refine pure_ (i := 9) (N := some 130) (v := ?_) (a' := ?_) #[true, true, true, true, true, false, true, true, true, true, false, false, false, false, false, false, false, false] rfl rfl (any_of HT_.out (by kernel_rfl)) (fun _ _ _ h => h) (Or.inl ⟨by rfl, ?_⟩) ?_ ?_
      rotate_left
      {
      intro w'
      go_simp
      with_reducible rfl }
      rotate_left
      {
      simp only [Act.put, sT, s0, s1, i64_w, i32_w]
      rfl }
      refine take_ (i := 5) (N := some 126) (v := ?_) (a' := ?_) #[true, true, true, true, true, true, true, true, true, true, false, false, false, false, false, false, false, false] rfl rfl (take_ofW HT_.out HW_.out (by kernel_rfl)) (fun _ _ _ h => h) (Or.inl ⟨by rfl, ?_⟩) hHeld ?_ ?_
      rotate_left
      {
      rintro w' ⟨s0, s1, s2, s3, s4, s5, s6, s7⟩
      go_simp
      with_reducible rfl }
      rotate_left
      {
      simp only [Act.put, sT, s0, s1, i64_w, i32_w]
      rfl }
      refine take_ (i := 10) (N := some 131) (v := ?_) (a' := ?_) #[true, true, true, true, true, true, true, true, true, true, true, false, false, false, false, false, false, false] rfl rfl (take_ofW HT_.out HW_.out (by kernel_rfl)) (fun _ _ _ h => h) (Or.inl ⟨by rfl, ?_⟩) hHeld ?_ ?_
      rotate_left
      {
      rintro w' ⟨s0, s1, s2, s3, s4, s5, s6, s7⟩
      go_simp
      with_reducible rfl }
      rotate_left
      {
      simp only [Act.put, sT, s0, s1, i64_w, i32_w]
      rfl }
      refine pure_ (i := 11) (N := some 132) (v := ?_) (a' := ?_) #[true, true, true, true, true, true, true, true, true, true, true, true, false, false, false, false, false, false] rfl rfl (any_of HT_.out (by kernel_rfl)) (fun _ _ _ h => h) (Or.inl ⟨by rfl, ?_⟩) ?_ ?_
      rotate_left
      {
      intro w'
      go_simp
      with_reducible rfl }
      rotate_left
      {
      simp only [Act.put, sT, s0, s1, i64_w, i32_w]
      rfl }
      refine one_ (i := 12) (N := some 133) #[true, true, true, true, true, true, true, true, true, true, true, true, true, false, false, false, false, false] rfl rfl (one_of HT_.out (by kernel_rfl)) (by decide) (fun K hK => ?_)
      refine goes_ Tryd.func10 (by kernel_rfl) rfl #[.string (((rd_T30 t258 (ji63)).f1) ++ ((rd_T30 t258 x8_1).f1))] (by rfl) rfl rfl (by (try simp only [List.map_toArray, List.map_cons, List.map_nil]); first | done | (simp only [hji63]; rfl) | rfl | (simp only [List.length_drop, List.length_take]; rfl)) ?_
      with_reducible refine (lex_Words.calls (((rd_T30 t258 (ji63)).f1) ++ ((rd_T30 t258 x8_1).f1)) t276 t277 _ A69.out (hL.below bb)).mono ?_
      rintro e w74 ⟨v278, rfl, ho0, hb⟩
      have HS0_ := (hb.cell (World.block_lt_of_cell? _ _ (hHeld.1))).trans (hHeld.1)
      have HS1_ := (hb.cell (World.block_lt_of_cell? _ _ (hHeld.2.1))).trans (hHeld.2.1)
      have HS2_ := (hb.cell (World.block_lt_of_cell? _ _ (hHeld.2.2.1))).trans (hHeld.2.2.1)
      have HS3_ := (hb.cell (World.block_lt_of_cell? _ _ (hHeld.2.2.2.1))).trans (hHeld.2.2.2.1)
      have HS4_ := (hb.cell (World.block_lt_of_cell? _ _ (hHeld.2.2.2.2.1))).trans (hHeld.2.2.2.2.1)
      have HS5_ := (hb.cell (World.block_lt_of_cell? _ _ (hHeld.2.2.2.2.2.1))).trans (hHeld.2.2.2.2.2.1)
      have HS6_ := (hb.cell (World.block_lt_of_cell? _ _ (hHeld.2.2.2.2.2.2.1))).trans (hHeld.2.2.2.2.2.2.1)
      have HS7_ := (hb.cell (World.block_lt_of_cell? _ _ (hHeld.2.2.2.2.2.2.2))).trans (hHeld.2.2.2.2.2.2.2)
      refine ⟨_, rfl, ?_⟩
      have n0_ := aS (Kd.R_elder' (rr HO_6.out) (Kd.R_base ho0) hb)
      have n1_ := aS (Kd.R_lower (Kd.R_newB (Kd.R_new' ho0 (Kd.R_lt (rr HO_6.out))) (g := gb268) (o := .cells #[.int .i64 ((rd_T30 t258 x8_1).f0), .string ((rd_T30 t258 x8_1).f1), .int .i64 ((rd_T30 t258 x8_1).f2), .int .i64 0] 30 (0, 0)) (kk BK268.out)) bz)
      have n2_ := aS (kb BK268.out hb)
      have n3_ := aS (below_step bb hb)
      clear HO_6
      clear BK268
      clear HB
      have HO_6 := n0_
      have HO279 := n1_
      have BK268 := n2_
      have HB := n3_
      clear n0_ n1_ n2_ n3_
      (try clear hb)
      (try clear hb2)
      (try clear hk)
      (try clear hi)
      (try clear ho0)
      refine hK.out _ _ ⟨HS0_, HS1_, HS2_, HS3_, HS4_, HS5_, HS6_, HS7_⟩ (fun hHeld => ?_)
      clear hK K
      refine norm_ (a' := ?_) ?_ ?_
      rotate_left
      {
      show Act.put _ (some 133) _ = _
      simp only [Act.put, sT, s0, s1, i64_w, i32_w]
      rfl }
      refine pure_ (i := 13) (N := some 120) (v := ?_) (a' := ?_) #[true, true, true, true, true, true, true, true, true, true, true, true, true, true, false, false, false, false] rfl rfl (any_of HT_.out (by kernel_rfl)) (fun _ _ _ h => h) (Or.inl ⟨by rfl, ?_⟩) ?_ ?_
      rotate_left
      {
      intro w'
      go_simp
      with_reducible rfl }
      rotate_left
      {
      simp only [Act.put, sT, s0, s1, i64_w, i32_w]
      rfl }
      refine pure_ (i := 14) (N := some 134) (v := ?_) (a' := ?_) #[true, true, true, true, true, true, true, true, true, true, true, true, true, true, true, false, false, false] rfl rfl (any_of HT_.out (by kernel_rfl)) (fun _ _ _ h => h) (Or.inl ⟨by rfl, ?_⟩) ?_ ?_
      rotate_left
      {
      intro w'
      go_simp
      with_reducible rfl }
      rotate_left
      {
      simp only [Act.put, sT, s0, s1, i64_w, i32_w]
      rfl }
      refine pure_ (i := 15) (N := some 135) (v := ?_) (a' := ?_) #[true, true, true, true, true, true, true, true, true, true, true, true, true, true, true, true, false, false] rfl rfl (any_of HT_.out (by kernel_rfl)) (fun _ _ _ h => h) (Or.inl ⟨by rfl, ?_⟩) ?_ ?_
      rotate_left
      {
      intro w'
      go_simp
      with_reducible rfl }
      rotate_left
      {
      simp only [Act.put, sT, s0, s1, i64_w, i32_w]
      rfl }
      refine pure_ (i := 16) (N := some 12) (v := ?_) (a' := ?_) #[true, true, true, true, true, true, true, true, true, true, true, true, true, true, true, true, true, false] rfl rfl (any_of HT_.out (by kernel_rfl)) (fun _ _ _ h => h) (Or.inl ⟨by rfl, ?_⟩) ?_ ?_
      rotate_left
      {
      intro w'
      go_simp
      with_reducible rfl }
      rotate_left
      {
      simp only [Act.put, sT, s0, s1, i64_w, i32_w]
      rfl }
      refine pure_ (i := 17) (N := some 13) (v := ?_) (a' := ?_) #[true, true, true, true, true, true, true, true, true, true, true, true, true, true, true, true, true, true] rfl rfl (any_of HT_.out (by kernel_rfl)) (fun _ _ _ h => h) (Or.inl ⟨by rfl, ?_⟩) ?_ ?_
      rotate_left
      {
      intro w'
      go_simp
      with_reducible rfl }
      rotate_left
      {
      simp only [Act.put, sT, s0, s1, i64_w, i32_w]
      rfl }
      refine done_ (done_of HT_.out (by kernel_rfl)) ?_
      have p280 : 0 ≤ ((ji63) : Int) := dd
      have q280 : (ji63) < (t258.length : Int) := dd
      obtain ⟨ad280, e280, hx280_0, hx280_1, hx280_2, hx280_3⟩ := at_T30 (Kd.R_reads' HO_6.out).2.2 (ji63) p280 q280
      obtain rfl : ad262 = ad280 := (by injection e280)
      replace p280 := eq_true p280
      replace q280 := eq_true q280
      obtain ⟨Ao75, co75, eo75⟩ := Kd.R_slice HO279.out
      subst eo75
      try go_wp2
      go_roundg kj48
      case measure => have := HK1.out; have := HJ8.out; have := HJ16.out; have := HJ24.out; have := HJ48.out; omega
      case rel => exact ⟨(wrap64 (x8_1 + 1)), (by first | rfl | (simp; done) | (simp [*]; done)), H', ⟨by have := HK1.out; have := HJ8.out; have := HJ16.out; have := HJ24.out; have := HJ48.out; omega⟩, ⟨by (with_reducible repeat (first | apply Kd.R_alloc | apply Kd.R_drewN | apply Kd.R_drew)); exact Kd.R_mono HO_6.out (fun _ hk => trivial)⟩, ⟨by repeat (first | (with_reducible first | exact HB.out | apply below_alloc | apply pw_below_drewN | apply below_drew1 | refine below_set ?_ GE268.out) | exact HB.out)⟩⟩ }
      {
      rw [if_neg c72] at H
      exact absurd H (by simp) } }
      {
      rw [if_neg c71] at H
      exact absurd H (by simp) } }
      {
      rw [if_neg c70] at H
      have c70b0 : ((((rd_T30 t258 (ji63)).f1).size : Int) == 1) = false := beq_eq_false_iff_ne.mpr c70
      have c70b1 : ((((rd_T30 t258 (ji63)).f1).size : Int) != 1) = true := bne_iff_ne.mpr c70
      have H' := aS H
      clear H
      try go_wp2
      have n0_ := aS (Kd.R_drew HO_6.out)
      have n1_ := aS (blk_drew BK268.out)
      have n2_ := aS (below_drew1 HB.out)
      clear HO_6
      clear BK268
      clear HB
      have HO_6 := n0_
      have BK268 := n1_
      have HB := n2_
      clear n0_ n1_ n2_
      have p274 : 0 ≤ ((ji63) : Int) := dd
      have q274 : (ji63) < (t258.length : Int) := dd
      obtain ⟨ad274, e274, hx274_0, hx274_1, hx274_2, hx274_3⟩ := at_T30 (Kd.R_reads' HO_6.out).2.2 (ji63) p274 q274
      obtain rfl : ad262 = ad274 := (by injection e274)
      replace p274 := eq_true p274
      replace q274 := eq_true q274
      have p275 : 0 ≤ (x8_1 : Int) := dd
      have q275 : x8_1 < (t258.length : Int) := dd
      obtain ⟨ad275, e275, hx275_0, hx275_1, hx275_2, hx275_3⟩ := at_T30 (Kd.R_reads' HO_6.out).2.2 x8_1 p275 q275
      obtain rfl : ad262 = ad275 := (by injection e275)
      replace p275 := eq_true p275
      replace q275 := eq_true q275
      refine start_ (n := 18) (S := fun w' => w'.cell? (ad262.add (((ji63)).toNat * 4)) = some (.int .i64 ((rd_T30 t258 (ji63)).f0)) ∧ w'.cell? ⟨(ad262.add (((ji63)).toNat * 4)).block, (ad262.add (((ji63)).toNat * 4)).off + 1, none⟩ = some (.string ((rd_T30 t258 (ji63)).f1)) ∧ w'.cell? ⟨(ad262.add (((ji63)).toNat * 4)).block, (ad262.add (((ji63)).toNat * 4)).off + 2, none⟩ = some (.int .i64 ((rd_T30 t258 (ji63)).f2)) ∧ w'.cell? ⟨(ad262.add (((ji63)).toNat * 4)).block, (ad262.add (((ji63)).toNat * 4)).off + 3, none⟩ = some (.int .i64 ((rd_T30 t258 (ji63)).f3)) ∧ w'.cell? (ad262.add ((x8_1).toNat * 4)) = some (.int .i64 ((rd_T30 t258 x8_1).f0)) ∧ w'.cell? ⟨(ad262.add ((x8_1).toNat * 4)).block, (ad262.add ((x8_1).toNat * 4)).off + 1, none⟩ = some (.string ((rd_T30 t258 x8_1).f1)) ∧ w'.cell? ⟨(ad262.add ((x8_1).toNat * 4)).block, (ad262.add ((x8_1).toNat * 4)).off + 2, none⟩ = some (.int .i64 ((rd_T30 t258 x8_1).f2)) ∧ w'.cell? ⟨(ad262.add ((x8_1).toNat * 4)).block, (ad262.add ((x8_1).toNat * 4)).off + 3, none⟩ = some (.int .i64 ((rd_T30 t258 x8_1).f3))) (ds := []) #[false, false, false, false, false, false, false, false, false, false, false, false, false, false, false, false, false, false] (by kernel_rfl) rfl rfl ⟨hx274_0, hx274_1, hx274_2, hx274_3, hx275_0, hx275_1, hx275_2, hx275_3⟩ (fun hHeld => ?_); refine with_tabW hallmootlaw04_LexTokens.tab16 hallmootlaw04_LexTokens.bits16 (fun HT_ HW_ => ?_)
      generalize wc.drew = w76 at HO_6 BK268 HB hx274_0 hx274_1 hx274_2 hx274_3 hx275_0 hx275_1 hx275_2 hx275_3 hHeld ⊢
      refine pure_ (i := 0) (N := some 121) (v := ?_) (a' := ?_) #[true, false, false, false, false, false, false, false, false, false, false, false, false, false, false, false, false, false] rfl rfl (any_of HT_.out (by kernel_rfl)) (fun _ _ _ h => h) (Or.inl ⟨by rfl, ?_⟩) ?_ ?_
      rotate_left
      {
      intro w'
      go_simp
      with_reducible rfl }
      rotate_left
      {
      simp only [Act.put, sT, s0, s1, i64_w, i32_w]
      rfl }
      refine pure_ (i := 1) (N := some 122) (v := ?_) (a' := ?_) #[true, true, false, false, false, false, false, false, false, false, false, false, false, false, false, false, false, false] rfl rfl (any_of HT_.out (by kernel_rfl)) (fun _ _ _ h => h) (Or.inl ⟨by rfl, ?_⟩) ?_ ?_
      rotate_left
      {
      intro w'
      go_simp
      with_reducible rfl }
      rotate_left
      {
      simp only [Act.put, sT, s0, s1, i64_w, i32_w]
      rfl }
      refine pure_ (i := 2) (N := some 123) (v := ?_) (a' := ?_) #[true, true, true, false, false, false, false, false, false, false, false, false, false, false, false, false, false, false] rfl rfl (any_of HT_.out (by kernel_rfl)) (fun _ _ _ h => h) (Or.inl ⟨by rfl, ?_⟩) ?_ ?_
      rotate_left
      {
      intro w'
      go_simp
      with_reducible rfl }
      rotate_left
      {
      simp only [Act.put, sT, s0, s1, i64_w, i32_w]
      rfl }
      refine pure_ (i := 3) (N := some 124) (v := ?_) (a' := ?_) #[true, true, true, true, false, false, false, false, false, false, false, false, false, false, false, false, false, false] rfl rfl (any_of HT_.out (by kernel_rfl)) (fun _ _ _ h => h) (Or.inl ⟨by rfl, ?_⟩) ?_ ?_
      rotate_left
      {
      intro w'
      go_simp
      with_reducible rfl }
      rotate_left
      {
      simp only [Act.put, sT, s0, s1, i64_w, i32_w]
      rfl }
      refine pure_ (i := 4) (N := some 125) (v := ?_) (a' := ?_) #[true, true, true, true, true, false, false, false, false, false, false, false, false, false, false, false, false, false] rfl rfl (any_of HT_.out (by kernel_rfl)) (fun _ _ _ h => h) (Or.inl ⟨by rfl, ?_⟩) ?_ ?_
      rotate_left
      {
      intro w'
      go_simp
      with_reducible rfl }
      rotate_left
      {
      simp only [Act.put, sT, s0, s1, i64_w, i32_w]
      rfl }
      refine pure_ (i := 6) (N := some 127) (v := ?_) (a' := ?_) #[true, true, true, true, true, false, true, false, false, false, false, false, false, false, false, false, false, false] rfl rfl (any_of HT_.out (by kernel_rfl)) (fun _ _ _ h => h) (Or.inl ⟨by rfl, ?_⟩) ?_ ?_
      rotate_left
      {
      intro w'
      go_simp
      with_reducible rfl }
      rotate_left
      {
      simp only [Act.put, sT, s0, s1, i64_w, i32_w]
      rfl }
      refine pure_ (i := 7) (N := some 128) (v := ?_) (a' := ?_) #[true, true, true, true, true, false, true, true, false, false, false, false, false, false, false, false, false, false] rfl rfl (any_of HT_.out (by kernel_rfl)) (fun _ _ _ h => h) (Or.inl ⟨by rfl, ?_⟩) ?_ ?_
      rotate_left
      {
      intro w'
      go_simp
      with_reducible rfl }
      rotate_left
      {
      simp only [Act.put, sT, s0, s1, i64_w, i32_w]
      rfl }
      refine pure_ (i := 8) (N := some 129) (v := ?_) (a' := ?_) #[true, true, true, true, true, false, true, true, true, false, false, false, false, false, false, false, false, false] rfl rfl (any_of HT_.out (by kernel_rfl)) (fun _ _ _ h => h) (Or.inl ⟨by rfl, ?_⟩) ?_ ?_
      rotate_left
      {
      intro w'
      go_simp
      with_reducible rfl }
      rotate_left
      {
      simp only [Act.put, sT, s0, s1, i64_w, i32_w]
      rfl }
      refine pure_ (i := 9) (N := some 130) (v := ?_) (a' := ?_) #[true, true, true, true, true, false, true, true, true, true, false, false, false, false, false, false, false, false] rfl rfl (any_of HT_.out (by kernel_rfl)) (fun _ _ _ h => h) (Or.inl ⟨by rfl, ?_⟩) ?_ ?_
      rotate_left
      {
      intro w'
      go_simp
      with_reducible rfl }
      rotate_left
      {
      simp only [Act.put, sT, s0, s1, i64_w, i32_w]
      rfl }
      refine take_ (i := 5) (N := some 126) (v := ?_) (a' := ?_) #[true, true, true, true, true, true, true, true, true, true, false, false, false, false, false, false, false, false] rfl rfl (take_ofW HT_.out HW_.out (by kernel_rfl)) (fun _ _ _ h => h) (Or.inl ⟨by rfl, ?_⟩) hHeld ?_ ?_
      rotate_left
      {
      rintro w' ⟨s0, s1, s2, s3, s4, s5, s6, s7⟩
      go_simp
      with_reducible rfl }
      rotate_left
      {
      simp only [Act.put, sT, s0, s1, i64_w, i32_w]
      rfl }
      refine take_ (i := 10) (N := some 131) (v := ?_) (a' := ?_) #[true, true, true, true, true, true, true, true, true, true, true, false, false, false, false, false, false, false] rfl rfl (take_ofW HT_.out HW_.out (by kernel_rfl)) (fun _ _ _ h => h) (Or.inl ⟨by rfl, ?_⟩) hHeld ?_ ?_
      rotate_left
      {
      rintro w' ⟨s0, s1, s2, s3, s4, s5, s6, s7⟩
      go_simp
      with_reducible rfl }
      rotate_left
      {
      simp only [Act.put, sT, s0, s1, i64_w, i32_w]
      rfl }
      refine pure_ (i := 11) (N := some 132) (v := ?_) (a' := ?_) #[true, true, true, true, true, true, true, true, true, true, true, true, false, false, false, false, false, false] rfl rfl (any_of HT_.out (by kernel_rfl)) (fun _ _ _ h => h) (Or.inl ⟨by rfl, ?_⟩) ?_ ?_
      rotate_left
      {
      intro w'
      go_simp
      with_reducible rfl }
      rotate_left
      {
      simp only [Act.put, sT, s0, s1, i64_w, i32_w]
      rfl }
      refine one_ (i := 12) (N := some 133) #[true, true, true, true, true, true, true, true, true, true, true, true, true, false, false, false, false, false] rfl rfl (one_of HT_.out (by kernel_rfl)) (by decide) (fun K hK => ?_)
      refine goes_ Tryd.func10 (by kernel_rfl) rfl #[.string (((rd_T30 t258 (ji63)).f1) ++ ((rd_T30 t258 x8_1).f1))] (by rfl) rfl rfl (by (try simp only [List.map_toArray, List.map_cons, List.map_nil]); first | done | (simp only [hji63]; rfl) | rfl | (simp only [List.length_drop, List.length_take]; rfl)) ?_
      with_reducible refine (lex_Words.calls (((rd_T30 t258 (ji63)).f1) ++ ((rd_T30 t258 x8_1).f1)) t276 t277 _ A69.out (hL.below bb)).mono ?_
      rintro e w77 ⟨v278, rfl, ho0, hb⟩
      have HS0_ := (hb.cell (World.block_lt_of_cell? _ _ (hHeld.1))).trans (hHeld.1)
      have HS1_ := (hb.cell (World.block_lt_of_cell? _ _ (hHeld.2.1))).trans (hHeld.2.1)
      have HS2_ := (hb.cell (World.block_lt_of_cell? _ _ (hHeld.2.2.1))).trans (hHeld.2.2.1)
      have HS3_ := (hb.cell (World.block_lt_of_cell? _ _ (hHeld.2.2.2.1))).trans (hHeld.2.2.2.1)
      have HS4_ := (hb.cell (World.block_lt_of_cell? _ _ (hHeld.2.2.2.2.1))).trans (hHeld.2.2.2.2.1)
      have HS5_ := (hb.cell (World.block_lt_of_cell? _ _ (hHeld.2.2.2.2.2.1))).trans (hHeld.2.2.2.2.2.1)
      have HS6_ := (hb.cell (World.block_lt_of_cell? _ _ (hHeld.2.2.2.2.2.2.1))).trans (hHeld.2.2.2.2.2.2.1)
      have HS7_ := (hb.cell (World.block_lt_of_cell? _ _ (hHeld.2.2.2.2.2.2.2))).trans (hHeld.2.2.2.2.2.2.2)
      refine ⟨_, rfl, ?_⟩
      have n0_ := aS (Kd.R_elder' (rr HO_6.out) (Kd.R_base ho0) hb)
      have n1_ := aS (Kd.R_lower (Kd.R_newB (Kd.R_new' ho0 (Kd.R_lt (rr HO_6.out))) (g := gb268) (o := .cells #[.int .i64 ((rd_T30 t258 x8_1).f0), .string ((rd_T30 t258 x8_1).f1), .int .i64 ((rd_T30 t258 x8_1).f2), .int .i64 0] 30 (0, 0)) (kk BK268.out)) bz)
      have n2_ := aS (kb BK268.out hb)
      have n3_ := aS (below_step bb hb)
      clear HO_6
      clear BK268
      clear HB
      have HO_6 := n0_
      have HO279 := n1_
      have BK268 := n2_
      have HB := n3_
      clear n0_ n1_ n2_ n3_
      (try clear hb)
      (try clear hb2)
      (try clear hk)
      (try clear hi)
      (try clear ho0)
      refine hK.out _ _ ⟨HS0_, HS1_, HS2_, HS3_, HS4_, HS5_, HS6_, HS7_⟩ (fun hHeld => ?_)
      clear hK K
      refine norm_ (a' := ?_) ?_ ?_
      rotate_left
      {
      show Act.put _ (some 133) _ = _
      simp only [Act.put, sT, s0, s1, i64_w, i32_w]
      rfl }
      refine pure_ (i := 13) (N := some 120) (v := ?_) (a' := ?_) #[true, true, true, true, true, true, true, true, true, true, true, true, true, true, false, false, false, false] rfl rfl (any_of HT_.out (by kernel_rfl)) (fun _ _ _ h => h) (Or.inl ⟨by rfl, ?_⟩) ?_ ?_
      rotate_left
      {
      intro w'
      go_simp
      with_reducible rfl }
      rotate_left
      {
      simp only [Act.put, sT, s0, s1, i64_w, i32_w]
      rfl }
      refine pure_ (i := 14) (N := some 134) (v := ?_) (a' := ?_) #[true, true, true, true, true, true, true, true, true, true, true, true, true, true, true, false, false, false] rfl rfl (any_of HT_.out (by kernel_rfl)) (fun _ _ _ h => h) (Or.inl ⟨by rfl, ?_⟩) ?_ ?_
      rotate_left
      {
      intro w'
      go_simp
      with_reducible rfl }
      rotate_left
      {
      simp only [Act.put, sT, s0, s1, i64_w, i32_w]
      rfl }
      refine pure_ (i := 15) (N := some 135) (v := ?_) (a' := ?_) #[true, true, true, true, true, true, true, true, true, true, true, true, true, true, true, true, false, false] rfl rfl (any_of HT_.out (by kernel_rfl)) (fun _ _ _ h => h) (Or.inl ⟨by rfl, ?_⟩) ?_ ?_
      rotate_left
      {
      intro w'
      go_simp
      with_reducible rfl }
      rotate_left
      {
      simp only [Act.put, sT, s0, s1, i64_w, i32_w]
      rfl }
      refine pure_ (i := 16) (N := some 12) (v := ?_) (a' := ?_) #[true, true, true, true, true, true, true, true, true, true, true, true, true, true, true, true, true, false] rfl rfl (any_of HT_.out (by kernel_rfl)) (fun _ _ _ h => h) (Or.inl ⟨by rfl, ?_⟩) ?_ ?_
      rotate_left
      {
      intro w'
      go_simp
      with_reducible rfl }
      rotate_left
      {
      simp only [Act.put, sT, s0, s1, i64_w, i32_w]
      rfl }
      refine pure_ (i := 17) (N := some 13) (v := ?_) (a' := ?_) #[true, true, true, true, true, true, true, true, true, true, true, true, true, true, true, true, true, true] rfl rfl (any_of HT_.out (by kernel_rfl)) (fun _ _ _ h => h) (Or.inl ⟨by rfl, ?_⟩) ?_ ?_
      rotate_left
      {
      intro w'
      go_simp
      with_reducible rfl }
      rotate_left
      {
      simp only [Act.put, sT, s0, s1, i64_w, i32_w]
      rfl }
      refine done_ (done_of HT_.out (by kernel_rfl)) ?_
      have p280 : 0 ≤ ((ji63) : Int) := dd
      have q280 : (ji63) < (t258.length : Int) := dd
      obtain ⟨ad280, e280, hx280_0, hx280_1, hx280_2, hx280_3⟩ := at_T30 (Kd.R_reads' HO_6.out).2.2 (ji63) p280 q280
      obtain rfl : ad262 = ad280 := (by injection e280)
      replace p280 := eq_true p280
      replace q280 := eq_true q280
      try go_wp2
      go_roundg kj48
      case measure => have := HK1.out; have := HJ8.out; have := HJ16.out; have := HJ24.out; have := HJ48.out; omega
      case rel => exact ⟨(wrap64 (x8_1 + 1)), (by first | rfl | (simp; done) | (simp [*]; done)), H', ⟨by have := HK1.out; have := HJ8.out; have := HJ16.out; have := HJ24.out; have := HJ48.out; omega⟩, ⟨by (with_reducible repeat (first | apply Kd.R_alloc | apply Kd.R_drewN | apply Kd.R_drew)); exact Kd.R_mono HO_6.out (fun _ hk => trivial)⟩, ⟨by repeat (first | (with_reducible first | exact HB.out | apply below_alloc | apply pw_below_drewN | apply below_drew1 | refine below_set ?_ GE268.out) | exact HB.out)⟩⟩ } }
      {
      rw [if_neg c68] at H
      exact absurd H (by simp) } }
      {
      rw [if_neg c67] at H
      exact absurd H (by simp) } }
      {
      rw [if_neg c66] at H
      exact absurd H (by simp) } }
      {
      rw [if_neg c65] at H
      exact absurd H (by simp) } }
      {
      rw [if_neg c64] at H
      exact absurd H (by simp) } }
      {
      replace c62 := Bool.eq_false_iff.mpr c62
      subst c62
      have H1 : (hallmootlaw04_LexTokens.l0 kj48 a1 t257 t258 t259 (wrap64 (x8_1 + 1))) = some r := by rw [if_neg (show ¬ (false = true) by decide)] at H; exact H
      clear H
      have H := H1
      clear H1
      have H' := aS H
      clear H
      go_wp2
      go_roundg kj48
      case measure => have := HK1.out; have := HJ8.out; have := HJ16.out; have := HJ24.out; have := HJ48.out; omega
      case rel => exact ⟨(wrap64 (x8_1 + 1)), (by first | rfl | (simp; done) | (simp [*]; done)), H', ⟨by have := HK1.out; have := HJ8.out; have := HJ16.out; have := HJ24.out; have := HJ48.out; omega⟩, ⟨by (with_reducible repeat (first | apply Kd.R_alloc | apply Kd.R_drewN | apply Kd.R_drew)); exact Kd.R_mono HO_6.out (fun _ hk => trivial)⟩, ⟨by repeat (first | (with_reducible first | exact HB.out | apply below_alloc | apply pw_below_drewN | apply below_drew1 | refine below_set ?_ GE268.out) | exact HB.out)⟩⟩ } } } } }
    {
    rw [if_neg c24] at H
    exact absurd H (by simp) } }
    {
    rw [if_neg c23] at H
    exact absurd H (by simp) } } } }
   {
   rw [if_neg c15] at H
   exact absurd H (by simp) } }
   {
   rw [if_neg c14] at H
   exact absurd H (by simp) } }
   {
   replace c13 := Bool.eq_false_iff.mpr c13
   subst c13
   have H1 : ((hallmootlaw04_digits.f kj8 (wrap64 (Int.tmod a1 1099511627777))).bind fun t281 => ((lex_Words.f t281).bind fun bt282 => (if 1 + t281.size ≤ 9223372036854775807 then ((lex_Words.f ((⟨#[48]⟩ : ByteArray) ++ t281)).bind fun bt286 => (if (bt282.1.length : Int) = 1 then (if t257 = true then (if bt282.2 = 0 then (if bt286.2 = 3 then (if 0 < (bt282.1.length : Int) then (some (((rd_T30 bt282.1 0).f0) == 2 && ((((rd_T30 bt282.1 0).f1).toList) == t281.toList && (((rd_T30 bt282.1 0).f2) == (wrap64 (Int.tmod a1 1099511627777)) && (((rd_T30 bt282.1 0).f3) == 0))))) else (none)) else (none)) else (none)) else (none)) else (none))) else (none)))) = some r := by rw [if_neg (show ¬ (false = true) by decide)] at H; exact H
   clear H
   have H := H1
   clear H1
   replace H := Option.bind_eq_some_iff.mp H
   obtain ⟨t281, A780, H⟩ := H
   replace H : ((lex_Words.f t281).bind fun bt282 => (if 1 + t281.size ≤ 9223372036854775807 then ((lex_Words.f ((⟨#[48]⟩ : ByteArray) ++ t281)).bind fun bt286 => (if (bt282.1.length : Int) = 1 then (if t257 = true then (if bt282.2 = 0 then (if bt286.2 = 3 then (if 0 < (bt282.1.length : Int) then (some (((rd_T30 bt282.1 0).f0) == 2 && ((((rd_T30 bt282.1 0).f1).toList) == t281.toList && (((rd_T30 bt282.1 0).f2) == (wrap64 (Int.tmod a1 1099511627777)) && (((rd_T30 bt282.1 0).f3) == 0))))) else (none)) else (none)) else (none)) else (none)) else (none))) else (none))) = some r := H
   have A78 := aS A780
   clear A780
   replace H := Option.bind_eq_some_iff.mp H
   obtain ⟨⟨t282, t283⟩, A790, H⟩ := H
   replace H : (if 1 + t281.size ≤ 9223372036854775807 then ((lex_Words.f ((⟨#[48]⟩ : ByteArray) ++ t281)).bind fun bt286 => (if (t282.length : Int) = 1 then (if t257 = true then (if t283 = 0 then (if bt286.2 = 3 then (if 0 < (t282.length : Int) then (some (((rd_T30 t282 0).f0) == 2 && ((((rd_T30 t282 0).f1).toList) == t281.toList && (((rd_T30 t282 0).f2) == (wrap64 (Int.tmod a1 1099511627777)) && (((rd_T30 t282 0).f3) == 0))))) else (none)) else (none)) else (none)) else (none)) else (none))) else (none)) = some r := H
   have A79 := aS A790
   clear A790
   by_cases c80 : 1 + t281.size ≤ 9223372036854775807
   {
   rw [if_pos c80] at H
   have c80b0 := eq_true c80
   have c80b1 : decide (1 + t281.size ≤ 9223372036854775807) = true := decide_eq_true c80
   try have c80b2 : (9223372036854775807 < 1 + t281.size) = False := eq_false (Nat.not_lt.2 c80)
   replace H := Option.bind_eq_some_iff.mp H
   obtain ⟨⟨t286, t287⟩, A810, H⟩ := H
   replace H : (if (t282.length : Int) = 1 then (if t257 = true then (if t283 = 0 then (if t287 = 3 then (if 0 < (t282.length : Int) then (some (((rd_T30 t282 0).f0) == 2 && ((((rd_T30 t282 0).f1).toList) == t281.toList && (((rd_T30 t282 0).f2) == (wrap64 (Int.tmod a1 1099511627777)) && (((rd_T30 t282 0).f3) == 0))))) else (none)) else (none)) else (none)) else (none)) else (none)) = some r := H
   have A81 := aS A810
   clear A810
   by_cases c82 : (t282.length : Int) = 1
   {
   rw [if_pos c82] at H
   have c82b0 : ((t282.length : Int) == 1) = true := beq_iff_eq.mpr c82
   have c82b1 : ((t282.length : Int) != 1) = false := bne_eq_false_iff_eq.mpr c82
   clear c82
   by_cases c83 : t257 = true
   {
   subst c83
   have H1 : (if t283 = 0 then (if t287 = 3 then (if 0 < (t282.length : Int) then (some (((rd_T30 t282 0).f0) == 2 && ((((rd_T30 t282 0).f1).toList) == t281.toList && (((rd_T30 t282 0).f2) == (wrap64 (Int.tmod a1 1099511627777)) && (((rd_T30 t282 0).f3) == 0))))) else (none)) else (none)) else (none)) = some r := by rw [if_pos rfl] at H; exact H
   clear H
   have H := H1
   clear H1
   by_cases c84 : t283 = 0
   {
   rw [if_pos c84] at H
   have c84b0 : (t283 == 0) = true := beq_iff_eq.mpr c84
   have c84b1 : (t283 != 0) = false := bne_eq_false_iff_eq.mpr c84
   clear c84
   by_cases c85 : t287 = 3
   {
   rw [if_pos c85] at H
   have c85b0 : (t287 == 3) = true := beq_iff_eq.mpr c85
   have c85b1 : (t287 != 3) = false := bne_eq_false_iff_eq.mpr c85
   clear c85
   by_cases c86 : 0 < (t282.length : Int)
   {
   rw [if_pos c86] at H
   have c86b0 : decide (0 < (t282.length : Int)) = true := decide_eq_true c86
   have c86b1 : decide (0 < t282.length) = true := decide_eq_true (by omega)
   clear c86
   obtain rfl := Option.some.inj H
   go_wp2_with (first | ((with_reducible refine gate_callee (f := 17) rfl ?_); refine goesL_ (some 157) rfl rfl Tryd.func17 (by kernel_rfl) rfl #[.int .i64 (wrap64 (Int.tmod a1 1099511627777))] rfl (by (try simp only [List.map_toArray, List.map_cons, List.map_nil]); first | done | rfl | (simp only [List.length_drop, List.length_take]; rfl)) ?_; (with_reducible refine (hallmootlaw04_digits.calls kj8 (wrap64 (Int.tmod a1 1099511627777)) t281 _ A78.out).mono ?_); rintro e w87 ⟨rfl, hb⟩; refine ⟨_, rfl, ?_⟩; have n0_ := aS (Kd.R_below (rr HO_6.out) hb); have n1_ := aS (below_step bb hb); clear HO_6; clear HB; have HO_6 := n0_; have HB := n1_; clear n0_ n1_; (try clear hb); (try clear hb2); (try clear hk); (try clear hi)) | ((with_reducible refine gate_callee (f := 10) rfl ?_); refine goesL_ (some 160) rfl rfl Tryd.func10 (by kernel_rfl) rfl #[.string t281] rfl (by (try simp only [List.map_toArray, List.map_cons, List.map_nil]); first | done | rfl | (simp only [List.length_drop, List.length_take]; rfl)) ?_; (with_reducible refine (lex_Words.calls t281 t282 t283 _ A79.out (hL.below bb)).mono ?_); rintro e w88 ⟨v284, rfl, ho0, hb⟩; refine ⟨_, rfl, ?_⟩; have n0_ := aS (Kd.R_elder' (rr HO_6.out) (Kd.R_base ho0) hb); have n1_ := aS (Kd.R_lower (Kd.R_new' ho0 (Kd.R_lt (rr HO_6.out))) bz); have n2_ := aS (below_step bb hb); clear HO_6; clear HB; have HO_6 := n0_; have HO285 := n1_; have HB := n2_; clear n0_ n1_ n2_; (try clear hb); (try clear hb2); (try clear hk); (try clear hi); (try clear ho0)) | ((with_reducible refine gate_callee (f := 10) rfl ?_); refine goesL_ (some 166) rfl rfl Tryd.func10 (by kernel_rfl) rfl #[.string ((⟨#[48]⟩ : ByteArray) ++ t281)] rfl (by (try simp only [List.map_toArray, List.map_cons, List.map_nil]); first | done | rfl | (simp only [List.length_drop, List.length_take]; rfl)) ?_; (with_reducible refine (lex_Words.calls ((⟨#[48]⟩ : ByteArray) ++ t281) t286 t287 _ A81.out (hL.below bb)).mono ?_); rintro e w89 ⟨v288, rfl, ho0, hb⟩; refine ⟨_, rfl, ?_⟩; have n0_ := aS (Kd.R_elder' (rr HO_6.out) (Kd.R_base ho0) hb); have n1_ := aS (Kd.R_elder' (rr HO285.out) (Kd.R_base ho0) hb); have n2_ := aS (Kd.R_lower (Kd.R_new' (Kd.R_new' ho0 (Kd.R_lt (rr HO_6.out))) (Kd.R_lt (rr HO285.out))) bz); have n3_ := aS (below_step bb hb); clear HO_6; clear HO285; clear HB; have HO_6 := n0_; have HO285 := n1_; have HO289 := n2_; have HB := n3_; clear n0_ n1_ n2_ n3_; (try clear hb); (try clear hb2); (try clear hk); (try clear hi); (try clear ho0); obtain ⟨Ao90, co90, eo90⟩ := Kd.R_slice HO285.out; subst eo90; have p290 : 0 ≤ (0 : Int) := (by omega); have q290 : 0 < (t282.length : Int) := dd; obtain ⟨ad290, e290, hx290_0, hx290_1, hx290_2, hx290_3⟩ := at_T30 (Kd.R_reads' HO285.out).2.2 0 p290 q290; cases e290; have qi290 : (0 < t282.length) = True := eq_true (by omega); (try rw [show ((0 : Int)).toNat = 0 from rfl] at hx290_0); (try rw [show 0 * 4 = 0 from rfl] at hx290_0); (try rw [Addr.add_zero'] at hx290_0); (try rw [show ((0 : Int)).toNat = 0 from rfl] at hx290_1); (try rw [show 0 * 4 = 0 from rfl] at hx290_1); (try rw [Addr.add_zero'] at hx290_1); (try rw [show ((0 : Int)).toNat = 0 from rfl] at hx290_2); (try rw [show 0 * 4 = 0 from rfl] at hx290_2); (try rw [Addr.add_zero'] at hx290_2); (try rw [show ((0 : Int)).toNat = 0 from rfl] at hx290_3); (try rw [show 0 * 4 = 0 from rfl] at hx290_3); (try rw [Addr.add_zero'] at hx290_3); replace p290 := eq_true p290; replace q290 := eq_true q290))
   go_ret
   exact ⟨by first | rfl | (simp [errW_none, errW_some] <;> rfl) | (simp [*, errW_none, errW_some] <;> rfl), by repeat (first | (with_reducible first | exact HB.out | apply below_alloc | apply pw_below_drewN | apply below_drew1) | exact HB.out)⟩ }
   {
   rw [if_neg c86] at H
   exact absurd H (by simp) } }
   {
   rw [if_neg c85] at H
   exact absurd H (by simp) } }
   {
   rw [if_neg c84] at H
   exact absurd H (by simp) } }
   {
   replace c83 := Bool.eq_false_iff.mpr c83
   subst c83
   have H1 : (none) = some r := by rw [if_neg (show ¬ (false = true) by decide)] at H; exact H
   clear H
   have H := H1
   clear H1
   exact absurd H (by simp) } }
   {
   rw [if_neg c82] at H
   exact absurd H (by simp) } }
   {
   rw [if_neg c80] at H
   exact absurd H (by simp) } } } } }

/-- THE ONE PURE STATEMENT of hallmootlaw04_LexTokens: yours. -/
def hallmootlaw04_LexTokens.Pure : Prop := ∀ (a0 : ByteArray) (a1 : Int), a0.size ≤ 140737488351232 → (Lit.int .u64 a1).wf = true → ∃ k, hallmootlaw04_LexTokens.f k a0 a1 = some true
theorem hallmootlaw04_LexTokens.walk (P : hallmootlaw04_LexTokens.Pure) (a0 : ByteArray) (a1 : Int) (w : World) (w0 : a0.size ≤ 140737488351232) (w1 : (Lit.int .u64 a1).wf = true) (hL : Laid w) : Calls Tryd.prog 8 #[.string a0, .int .u64 a1] w fun e w' => e = .returned (.bool true) ∧ Below w.heap.size w w' := by
 obtain ⟨k, h⟩ := P a0 a1 w0 w1
 refine (hallmootlaw04_LexTokens.calls k a0 a1 true w h hL).mono ?_
 rintro e w' ⟨rfl, hd⟩
 exact ⟨rfl, hd⟩

end Go.Proofs.YtphlbjpefnjjnaaDoor.P
