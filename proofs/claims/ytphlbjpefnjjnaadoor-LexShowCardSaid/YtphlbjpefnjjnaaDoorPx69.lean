-- Written by pp.py (this session's program over the kit's printer): functions, contracts. Not trusted: Lean checks it.
import Derived.Test.YtphlbjpefnjjnaaDoorPx0
import Derived.Test.YtphlbjpefnjjnaaDoorYZ
namespace Go.Proofs.YtphlbjpefnjjnaaDoor.P
open Go.RowKit Go.Proofs.YtphlbjpefnjjnaaDoorW.PrintWords Go.Proofs.YtphlbjpefnjjnaaDoorW.PrintLast Go.Proofs.YtphlbjpefnjjnaaDoorW.PrintMore
attribute [local go_sem] max2_int min2_int max_two min_two max_three min_three max_four min_four   -- for this text's walks alone
set_option linter.unusedVariables false
set_option linter.unusedSimpArgs false

/-! ### hallmootref04_Show: function 14 -/
def hallmootref04_Show.l0 : Nat → List (S30) → ByteArray → Int → Option (ByteArray)
  | 0, _, _, _ => none
  | k + 1, x0, x3, x4 => if x4 < (x0.length : Int) then (if x4 > 0 then (if x3.size + 1 ≤ 9223372036854775807 then (if 0 ≤ x4 then (if (x3 ++ (⟨#[32]⟩ : ByteArray)).size + ((rd_T30 x0 x4).f1).size ≤ 9223372036854775807 then (hallmootref04_Show.l0 k x0 ((x3 ++ (⟨#[32]⟩ : ByteArray)) ++ ((rd_T30 x0 x4).f1)) (wrap64 (x4 + 1))) else (none)) else (none)) else (none)) else (if 0 ≤ x4 then (if x3.size + ((rd_T30 x0 x4).f1).size ≤ 9223372036854775807 then (hallmootref04_Show.l0 k x0 (x3 ++ ((rd_T30 x0 x4).f1)) (wrap64 (x4 + 1))) else (none)) else (none))) else (some x3)
def hallmootref04_Show.f (k : Nat) (l0 : List (S30)) : Option (ByteArray) := hallmootref04_Show.l0 k l0 (⟨#[]⟩ : ByteArray) 0
theorem hallmootref04_Show.mono_l : ∀ k, (∀ y0 y1 y2, LeO (hallmootref04_Show.l0 k y0 y1 y2) (hallmootref04_Show.l0 (k + 1) y0 y1 y2))
  | 0 => fun _ _ _ r h => by simp [hallmootref04_Show.l0] at h
  | k + 1 => by
    have ih0 := hallmootref04_Show.mono_l k
    · intro y0 y1 y2
      unfold hallmootref04_Show.l0
      repeat' first
      | (with_reducible exact ih0 _ _ _)
      | (with_reducible exact LeO.refl _)
      | (with_reducible exact LeO.none _)
      | (with_reducible refine LeO.ite ?_ ?_)
      | (with_reducible refine LeO.bind ?_ (fun _ => ?_))
      | exact ih0 _ _ _
      | exact LeO.none _
      | refine LeO.ite ?_ ?_
      | refine LeO.bind ?_ (fun _ => ?_)
theorem hallmootref04_Show.mono : ∀ a0 k, LeO (hallmootref04_Show.f k a0) (hallmootref04_Show.f (k + 1) a0) := by
 intro a0 k
 have ih0 := hallmootref04_Show.mono_l k
 unfold hallmootref04_Show.f
 repeat' first | (with_reducible exact ih0 _ _ _) | (with_reducible exact LeO.refl _) | (with_reducible exact LeO.none _) | (with_reducible refine LeO.ite ?_ ?_) | (with_reducible refine LeO.bind ?_ (fun _ => ?_)) | exact ih0 _ _ _ | exact LeO.none _ | refine LeO.ite ?_ ?_ | refine LeO.bind ?_ (fun _ => ?_)
set_option maxHeartbeats 8000000 in
set_option maxRecDepth 100000 in
theorem hallmootref04_Show.calls (k : Nat) (A0 : Option Addr) (c0 : Nat) (l0 : List (S30)) (r : ByteArray) (w : World) (hr0 : Kd.C k30 w A0 l0.length l0) (hc0 : l0.length ≤ c0) (h : hallmootref04_Show.f k l0 = some r) : Calls Tryd.prog 14 #[.slice A0 l0.length c0] w fun e w' => e = .returned (.string r) ∧ Drawn0 w w' := by
 have HR0 := aS hr0
 have HC0 := aS hc0
 clear hr0 hc0
 have H : (hallmootref04_Show.l0 k l0 (⟨#[]⟩ : ByteArray) 0) = some r := h
 clear h
 have H' := aS H
 clear H
 go_enter Tryd.func14, Tryd.ntmps14
 go_wp2
 go_loopg [3, 4] k (fun kq v3 v4 w' => ∃ (x3_1 : ByteArray) (x4_1 : Int), v3 = .string x3_1 ∧ v4 = .int .i64 x4_1 ∧ Aside0 (hallmootref04_Show.l0 kq l0 x3_1 x4_1 = some r) ∧ Aside0 (kq ≤ k) ∧ Drawn0 w w')
 case atStart => exact ⟨((⟨#[]⟩ : ByteArray)), (0), (by first | rfl | (simp; done) | (simp [*]; done)), (by first | rfl | (simp; done) | (simp [*]; done)), H', ⟨Nat.le_refl _⟩, by repeat (first | exact Drawn0.refl _ | apply Drawn0.step)⟩
 case round =>
  clear H'
  try clear c1
  obtain ⟨x3_1, x4_1, rfl, rfl, HA, HK1, ⟨m1, rfl⟩⟩ := hrel
  cases gk with
  | zero => exact absurd HA.out (by simp [hallmootref04_Show.l0])
  | succ k1 => {
  have H := HA.out
  clear HA
  simp only [hallmootref04_Show.l0] at H
  by_cases c2 : x4_1 < (l0.length : Int)
  {
  rw [if_pos c2] at H
  have c2b0 : decide (x4_1 < (l0.length : Int)) = true := decide_eq_true c2
  clear c2
  by_cases c3 : x4_1 > 0
  {
  rw [if_pos c3] at H
  have c3b0 : decide (0 < x4_1) = true := decide_eq_true c3
  clear c3
  by_cases c4 : x3_1.size + 1 ≤ 9223372036854775807
  {
  rw [if_pos c4] at H
  have c4b0 := eq_true c4
  have c4b1 : decide (x3_1.size + 1 ≤ 9223372036854775807) = true := decide_eq_true c4
  try have c4b2 : (9223372036854775807 < x3_1.size + 1) = False := eq_false (Nat.not_lt.2 c4)
  by_cases c5 : 0 ≤ x4_1
  {
  rw [if_pos c5] at H
  have c5b0 : decide (0 ≤ x4_1) = true := decide_eq_true c5
  clear c5
  by_cases c6 : (x3_1 ++ (⟨#[32]⟩ : ByteArray)).size + ((rd_T30 l0 x4_1).f1).size ≤ 9223372036854775807
  {
  rw [if_pos c6] at H
  have c6b0 := eq_true c6
  have c6b1 : decide ((x3_1 ++ (⟨#[32]⟩ : ByteArray)).size + ((rd_T30 l0 x4_1).f1).size ≤ 9223372036854775807) = true := decide_eq_true c6
  try have c6b2 : (9223372036854775807 < (x3_1 ++ (⟨#[32]⟩ : ByteArray)).size + ((rd_T30 l0 x4_1).f1).size) = False := eq_false (Nat.not_lt.2 c6)
  have H' := aS H
  clear H
  have p186 : 0 ≤ (x4_1 : Int) := dd
  have q186 : x4_1 < (l0.length : Int) := dd
  obtain ⟨ad186, e186, hx186_0, hx186_1, hx186_2, hx186_3⟩ := at_T30 HR0.out x4_1 p186 q186
  cases e186
  replace p186 := eq_true p186
  replace q186 := eq_true q186
  go_wp2
  go_roundg k1
  case measure => have := HK1.out; omega
  case rel => exact ⟨((x3_1 ++ (⟨#[32]⟩ : ByteArray)) ++ ((rd_T30 l0 x4_1).f1)), (wrap64 (x4_1 + 1)), (by first | rfl | (simp; done) | (simp [*]; done)), (by first | rfl | (simp; done) | (simp [*]; done)), H', ⟨by have := HK1.out; omega⟩, by repeat (first | exact Drawn0.refl _ | apply Drawn0.step)⟩ }
  {
  rw [if_neg c6] at H
  exact absurd H (by simp) } }
  {
  rw [if_neg c5] at H
  exact absurd H (by simp) } }
  {
  rw [if_neg c4] at H
  exact absurd H (by simp) } }
  {
  rw [if_neg c3] at H
  have c3b0 : decide (0 < x4_1) = false := decide_eq_false c3
  clear c3
  by_cases c7 : 0 ≤ x4_1
  {
  rw [if_pos c7] at H
  have c7b0 : decide (0 ≤ x4_1) = true := decide_eq_true c7
  clear c7
  by_cases c8 : x3_1.size + ((rd_T30 l0 x4_1).f1).size ≤ 9223372036854775807
  {
  rw [if_pos c8] at H
  have c8b0 := eq_true c8
  have c8b1 : decide (x3_1.size + ((rd_T30 l0 x4_1).f1).size ≤ 9223372036854775807) = true := decide_eq_true c8
  try have c8b2 : (9223372036854775807 < x3_1.size + ((rd_T30 l0 x4_1).f1).size) = False := eq_false (Nat.not_lt.2 c8)
  have H' := aS H
  clear H
  have p187 : 0 ≤ (x4_1 : Int) := dd
  have q187 : x4_1 < (l0.length : Int) := dd
  obtain ⟨ad187, e187, hx187_0, hx187_1, hx187_2, hx187_3⟩ := at_T30 HR0.out x4_1 p187 q187
  cases e187
  replace p187 := eq_true p187
  replace q187 := eq_true q187
  go_wp2
  go_roundg k1
  case measure => have := HK1.out; omega
  case rel => exact ⟨(x3_1 ++ ((rd_T30 l0 x4_1).f1)), (wrap64 (x4_1 + 1)), (by first | rfl | (simp; done) | (simp [*]; done)), (by first | rfl | (simp; done) | (simp [*]; done)), H', ⟨by have := HK1.out; omega⟩, by repeat (first | exact Drawn0.refl _ | apply Drawn0.step)⟩ }
  {
  rw [if_neg c8] at H
  exact absurd H (by simp) } }
  {
  rw [if_neg c7] at H
  exact absurd H (by simp) } } }
  {
  rw [if_neg c2] at H
  have c2b0 : decide (x4_1 < (l0.length : Int)) = false := decide_eq_false c2
  clear c2
  obtain rfl := Option.some.inj H
  go_wp2
  go_ret
  exact ⟨by first | rfl | (simp; done) | (simp [*]; done), by repeat (first | exact Drawn0.refl _ | apply Drawn0.step)⟩ } }

end Go.Proofs.YtphlbjpefnjjnaaDoor.P
