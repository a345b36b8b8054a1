-- Written by pp.py (this session's program over the kit's printer): functions, contracts. Not trusted: Lean checks it.
import Derived.Test.YtcnclgneldonfaaDoorPx0
import Derived.Test.YtcnclgneldonfaaDoorYZ
namespace Go.Proofs.YtcnclgneldonfaaDoor.P
open Go.RowKit Go.Proofs.YtcnclgneldonfaaDoorW.PrintWords Go.Proofs.YtcnclgneldonfaaDoorW.PrintLast Go.Proofs.YtcnclgneldonfaaDoorW.PrintMore
attribute [local go_sem] max2_int min2_int max_two min_two max_three min_three max_four min_four   -- for this text's walks alone
set_option linter.unusedVariables false
set_option linter.unusedSimpArgs false

/-! ### hallmootref27_Few: function 14 -/
def hallmootref27_Few.l0 : Nat → List (S26) → Int → Option (Bool)
  | 0, _, _ => none
  | k + 1, x0, x5 => if x5 < (x0.length : Int) then (if 0 ≤ x5 then (if (((rd_T26 x0 x5).f3).length : Int) > 80 then (some false) else (hallmootref27_Few.l0 k x0 (wrap64 (x5 + 1)))) else (none)) else (some true)
def hallmootref27_Few.f (k : Nat) (l0 : List (S26)) (a1 : Int) : Option (Bool) := if (l0.length : Int) > a1 then (some false) else (hallmootref27_Few.l0 k l0 0)
theorem hallmootref27_Few.mono_l : ∀ k, (∀ y0 y1, LeO (hallmootref27_Few.l0 k y0 y1) (hallmootref27_Few.l0 (k + 1) y0 y1))
  | 0 => fun _ _ r h => by simp [hallmootref27_Few.l0] at h
  | k + 1 => by
    have ih0 := hallmootref27_Few.mono_l k
    · intro y0 y1
      unfold hallmootref27_Few.l0
      repeat' first
      | (with_reducible exact ih0 _ _)
      | (with_reducible exact LeO.refl _)
      | (with_reducible exact LeO.none _)
      | (with_reducible refine LeO.ite ?_ ?_)
      | (with_reducible refine LeO.bind ?_ (fun _ => ?_))
      | exact ih0 _ _
      | exact LeO.none _
      | refine LeO.ite ?_ ?_
      | refine LeO.bind ?_ (fun _ => ?_)
theorem hallmootref27_Few.mono : ∀ a0 a1 k, LeO (hallmootref27_Few.f k a0 a1) (hallmootref27_Few.f (k + 1) a0 a1) := by
 intro a0 a1 k
 have ih0 := hallmootref27_Few.mono_l k
 unfold hallmootref27_Few.f
 repeat' first | (with_reducible exact ih0 _ _) | (with_reducible exact LeO.refl _) | (with_reducible exact LeO.none _) | (with_reducible refine LeO.ite ?_ ?_) | (with_reducible refine LeO.bind ?_ (fun _ => ?_)) | exact ih0 _ _ | exact LeO.none _ | refine LeO.ite ?_ ?_ | refine LeO.bind ?_ (fun _ => ?_)
set_option maxHeartbeats 8000000 in
set_option maxRecDepth 100000 in
theorem hallmootref27_Few.calls (k : Nat) (A0 : Option Addr) (c0 : Nat) (l0 : List (S26)) (a1 : Int) (r : Bool) (w : World) (hr0 : Kd.C k26 w A0 l0.length l0) (hc0 : l0.length ≤ c0) (h : hallmootref27_Few.f k l0 a1 = some r) : Calls Tryd.prog 14 #[.slice A0 l0.length c0, .int .i64 a1] w fun e w' => e = .returned (.bool r) ∧ Drawn0 w w' := by
 have HR0 := aS hr0
 have HC0 := aS hc0
 clear hr0 hc0
 have H : (if (l0.length : Int) > a1 then (some false) else (hallmootref27_Few.l0 k l0 0)) = some r := h
 clear h
 by_cases c3 : (l0.length : Int) > a1
 {
 rw [if_pos c3] at H
 have c3b0 : decide (a1 < (l0.length : Int)) = true := decide_eq_true c3
 clear c3
 obtain rfl := Option.some.inj H
 go_enter Tryd.func14, Tryd.ntmps14
 go_wp2
 go_ret
 exact ⟨by first | rfl | (simp; done) | (simp [*]; done), by repeat (first | exact Drawn0.refl _ | apply Drawn0.step)⟩ }
 {
 rw [if_neg c3] at H
 have c3b0 : decide (a1 < (l0.length : Int)) = false := decide_eq_false c3
 clear c3
 have H' := aS H
 clear H
 go_enter Tryd.func14, Tryd.ntmps14
 go_wp2
 go_loopg [5] k (fun kq v5 w' => ∃ (x5_1 : Int), v5 = .int .i64 x5_1 ∧ Aside0 (hallmootref27_Few.l0 kq l0 x5_1 = some r) ∧ Aside0 (kq ≤ k) ∧ Drawn0 w w')
 case atStart => exact ⟨(0), (by first | rfl | (simp; done) | (simp [*]; done)), H', ⟨Nat.le_refl _⟩, by repeat (first | exact Drawn0.refl _ | apply Drawn0.step)⟩
 case round =>
  clear H'
  try clear c1
  try clear p2
  try clear c3
  try clear c3b0
  obtain ⟨x5_1, rfl, HA, HK1, ⟨m1, rfl⟩⟩ := hrel
  cases gk with
  | zero => exact absurd HA.out (by simp [hallmootref27_Few.l0])
  | succ k1 => {
  have H := HA.out
  clear HA
  simp only [hallmootref27_Few.l0] at H
  by_cases c4 : x5_1 < (l0.length : Int)
  {
  rw [if_pos c4] at H
  have c4b0 : decide (x5_1 < (l0.length : Int)) = true := decide_eq_true c4
  clear c4
  by_cases c5 : 0 ≤ x5_1
  {
  rw [if_pos c5] at H
  have c5b0 : decide (0 ≤ x5_1) = true := decide_eq_true c5
  clear c5
  by_cases c6 : (((rd_T26 l0 x5_1).f3).length : Int) > 80
  {
  rw [if_pos c6] at H
  have c6b0 : decide (80 < (((rd_T26 l0 x5_1).f3).length : Int)) = true := decide_eq_true c6
  have c6b1 : decide (80 < ((rd_T26 l0 x5_1).f3).length) = true := decide_eq_true (by omega)
  clear c6
  obtain rfl := Option.some.inj H
  have p195 : 0 ≤ (x5_1 : Int) := dd
  have q195 : x5_1 < (l0.length : Int) := dd
  obtain ⟨ad195, A195_3, c195_3, e195, hx195_0, hx195_1, hx195_2, hx195_3, hl195_3, hi195_3⟩ := at_T26 HR0.out x5_1 p195 q195
  cases e195
  have HR195_3 := aS hi195_3
  have HC195_3 := aS hl195_3
  clear hi195_3 hl195_3
  replace p195 := eq_true p195
  replace q195 := eq_true q195
  go_wp2
  go_ret
  exact ⟨by first | rfl | (simp; done) | (simp [*]; done), by repeat (first | exact Drawn0.refl _ | apply Drawn0.step)⟩ }
  {
  rw [if_neg c6] at H
  have c6b0 : decide (80 < (((rd_T26 l0 x5_1).f3).length : Int)) = false := decide_eq_false c6
  have c6b1 : decide (80 < ((rd_T26 l0 x5_1).f3).length) = false := decide_eq_false (by omega)
  clear c6
  have H' := aS H
  clear H
  have p195 : 0 ≤ (x5_1 : Int) := dd
  have q195 : x5_1 < (l0.length : Int) := dd
  obtain ⟨ad195, A195_3, c195_3, e195, hx195_0, hx195_1, hx195_2, hx195_3, hl195_3, hi195_3⟩ := at_T26 HR0.out x5_1 p195 q195
  cases e195
  have HR195_3 := aS hi195_3
  have HC195_3 := aS hl195_3
  clear hi195_3 hl195_3
  replace p195 := eq_true p195
  replace q195 := eq_true q195
  go_wp2
  go_roundg k1
  case measure => have := HK1.out; omega
  case rel => exact ⟨(wrap64 (x5_1 + 1)), (by first | rfl | (simp; done) | (simp [*]; done)), H', ⟨by have := HK1.out; omega⟩, by repeat (first | exact Drawn0.refl _ | apply Drawn0.step)⟩ } }
  {
  rw [if_neg c5] at H
  exact absurd H (by simp) } }
  {
  rw [if_neg c4] at H
  have c4b0 : decide (x5_1 < (l0.length : Int)) = false := decide_eq_false c4
  clear c4
  obtain rfl := Option.some.inj H
  go_wp2
  go_ret
  exact ⟨by first | rfl | (simp; done) | (simp [*]; done), by repeat (first | exact Drawn0.refl _ | apply Drawn0.step)⟩ } } }

end Go.Proofs.YtcnclgneldonfaaDoor.P
