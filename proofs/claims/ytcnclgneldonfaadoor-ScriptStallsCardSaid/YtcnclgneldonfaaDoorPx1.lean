-- Written by pp.py (this session's program over the kit's printer): functions, contracts. Not trusted: Lean checks it.
import Derived.Test.YtcnclgneldonfaaDoorPx0
import Derived.Test.YtcnclgneldonfaaDoorYZ
namespace Go.Proofs.YtcnclgneldonfaaDoor.P
open Go.RowKit Go.Proofs.YtcnclgneldonfaaDoorW.PrintWords Go.Proofs.YtcnclgneldonfaaDoorW.PrintLast Go.Proofs.YtcnclgneldonfaaDoorW.PrintMore
attribute [local go_sem] max2_int min2_int max_two min_two max_three min_three max_four min_four   -- for this text's walks alone
set_option linter.unusedVariables false
set_option linter.unusedSimpArgs false

/-! ### script_within: function 24 -/
def script_within.l0 : Nat → Int → List Int → Int → Int → Option (Bool)
  | 0, _, _, _, _ => none
  | k + 1, x0, x7, x8, x9 => if x9 < x8 then (if 0 ≤ x9 then (if x9 < (x7.length : Int) then (if (rd x7 x9) < 0 then (some false) else (if (rd x7 x9) > x0 then (some false) else (script_within.l0 k x0 x7 x8 (wrap64 (x9 + 1))))) else (none)) else (none)) else (some true)
def script_within.f (k : Nat) (a0 : Int) (l1 : List Int) : Option (Bool) := script_within.l0 k a0 l1 (l1.length : Int) 0
theorem script_within.mono_l : ∀ k, (∀ y0 y1 y2 y3, LeO (script_within.l0 k y0 y1 y2 y3) (script_within.l0 (k + 1) y0 y1 y2 y3))
  | 0 => fun _ _ _ _ r h => by simp [script_within.l0] at h
  | k + 1 => by
    have ih0 := script_within.mono_l k
    · intro y0 y1 y2 y3
      unfold script_within.l0
      repeat' first
      | (with_reducible exact ih0 _ _ _ _)
      | (with_reducible exact LeO.refl _)
      | (with_reducible exact LeO.none _)
      | (with_reducible refine LeO.ite ?_ ?_)
      | (with_reducible refine LeO.bind ?_ (fun _ => ?_))
      | exact ih0 _ _ _ _
      | exact LeO.none _
      | refine LeO.ite ?_ ?_
      | refine LeO.bind ?_ (fun _ => ?_)
theorem script_within.mono : ∀ a0 a1 k, LeO (script_within.f k a0 a1) (script_within.f (k + 1) a0 a1) := by
 intro a0 a1 k
 have ih0 := script_within.mono_l k
 unfold script_within.f
 repeat' first | (with_reducible exact ih0 _ _ _ _) | (with_reducible exact LeO.refl _) | (with_reducible exact LeO.none _) | (with_reducible refine LeO.ite ?_ ?_) | (with_reducible refine LeO.bind ?_ (fun _ => ?_)) | exact ih0 _ _ _ _ | exact LeO.none _ | refine LeO.ite ?_ ?_ | refine LeO.bind ?_ (fun _ => ?_)
set_option maxHeartbeats 8000000 in
set_option maxRecDepth 100000 in
theorem script_within.calls (k : Nat) (a0 : Int) (A1 : Option Addr) (c1 : Nat) (l1 : List Int) (r : Bool) (w : World) (hr1 : Kd.C (Kd.int .i64) w A1 l1.length l1) (hc1 : l1.length ≤ c1) (h : script_within.f k a0 l1 = some r) : Calls Tryd.prog 24 #[.int .i64 a0, .slice A1 l1.length c1] w fun e w' => e = .returned (.bool r) ∧ Drawn0 w w' := by
 have HR1 := aS hr1
 have HC1 := aS hc1
 clear hr1 hc1
 have H : (script_within.l0 k a0 l1 (l1.length : Int) 0) = some r := h
 clear h
 have H' := aS H
 clear H
 go_enter Tryd.func24, Tryd.ntmps24
 go_wp2
 go_loopg [9] k (fun kq v9 w' => ∃ (x9_1 : Int), v9 = .int .i64 x9_1 ∧ Aside0 (script_within.l0 kq a0 l1 (l1.length : Int) x9_1 = some r) ∧ Aside0 (kq ≤ k) ∧ Drawn0 w w')
 case atStart => exact ⟨(0), (by first | rfl | (simp; done) | (simp [*]; done)), H', ⟨Nat.le_refl _⟩, by repeat (first | exact Drawn0.refl _ | apply Drawn0.step)⟩
 case round =>
  clear H'
  try clear c1
  try clear c2
  try clear p2
  obtain ⟨x9_1, rfl, HA, HK1, ⟨m1, rfl⟩⟩ := hrel
  cases gk with
  | zero => exact absurd HA.out (by simp [script_within.l0])
  | succ k1 => {
  have H := HA.out
  clear HA
  simp only [script_within.l0] at H
  by_cases c3 : x9_1 < (l1.length : Int)
  {
  rw [if_pos c3] at H
  have c3b0 : decide (x9_1 < (l1.length : Int)) = true := decide_eq_true c3
  clear c3
  by_cases c4 : 0 ≤ x9_1
  {
  rw [if_pos c4] at H
  have c4b0 : decide (0 ≤ x9_1) = true := decide_eq_true c4
  clear c4
  by_cases c5 : x9_1 < (l1.length : Int)
  {
  rw [if_pos c5] at H
  have c5b0 : decide (x9_1 < (l1.length : Int)) = true := decide_eq_true c5
  clear c5
  by_cases c6 : (rd l1 x9_1) < 0
  {
  rw [if_pos c6] at H
  have c6b0 : decide ((rd l1 x9_1) < 0) = true := decide_eq_true c6
  clear c6
  obtain rfl := Option.some.inj H
  have p101 : 0 ≤ (x9_1 : Int) := dd
  have q101 : x9_1 < (l1.length : Int) := dd
  obtain ⟨ad101, e101, hx101_0⟩ := Kd.at_int HR1.out x9_1 p101 q101
  cases e101
  replace p101 := eq_true p101
  replace q101 := eq_true q101
  go_wp2
  go_ret
  exact ⟨by first | rfl | (simp; done) | (simp [*]; done), by repeat (first | exact Drawn0.refl _ | apply Drawn0.step)⟩ }
  {
  rw [if_neg c6] at H
  have c6b0 : decide ((rd l1 x9_1) < 0) = false := decide_eq_false c6
  clear c6
  by_cases c7 : (rd l1 x9_1) > a0
  {
  rw [if_pos c7] at H
  have c7b0 : decide (a0 < (rd l1 x9_1)) = true := decide_eq_true c7
  clear c7
  obtain rfl := Option.some.inj H
  have p101 : 0 ≤ (x9_1 : Int) := dd
  have q101 : x9_1 < (l1.length : Int) := dd
  obtain ⟨ad101, e101, hx101_0⟩ := Kd.at_int HR1.out x9_1 p101 q101
  cases e101
  replace p101 := eq_true p101
  replace q101 := eq_true q101
  go_wp2
  go_ret
  exact ⟨by first | rfl | (simp; done) | (simp [*]; done), by repeat (first | exact Drawn0.refl _ | apply Drawn0.step)⟩ }
  {
  rw [if_neg c7] at H
  have c7b0 : decide (a0 < (rd l1 x9_1)) = false := decide_eq_false c7
  clear c7
  have H' := aS H
  clear H
  have p101 : 0 ≤ (x9_1 : Int) := dd
  have q101 : x9_1 < (l1.length : Int) := dd
  obtain ⟨ad101, e101, hx101_0⟩ := Kd.at_int HR1.out x9_1 p101 q101
  cases e101
  replace p101 := eq_true p101
  replace q101 := eq_true q101
  go_wp2
  go_roundg k1
  case measure => have := HK1.out; omega
  case rel => exact ⟨(wrap64 (x9_1 + 1)), (by first | rfl | (simp; done) | (simp [*]; done)), H', ⟨by have := HK1.out; omega⟩, by repeat (first | exact Drawn0.refl _ | apply Drawn0.step)⟩ } } }
  {
  rw [if_neg c5] at H
  exact absurd H (by simp) } }
  {
  rw [if_neg c4] at H
  exact absurd H (by simp) } }
  {
  rw [if_neg c3] at H
  have c3b0 : decide (x9_1 < (l1.length : Int)) = false := decide_eq_false c3
  clear c3
  obtain rfl := Option.some.inj H
  go_wp2
  go_ret
  exact ⟨by first | rfl | (simp; done) | (simp [*]; done), by repeat (first | exact Drawn0.refl _ | apply Drawn0.step)⟩ } }

end Go.Proofs.YtcnclgneldonfaaDoor.P
