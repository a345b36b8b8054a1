-- Written by pp.py (this session's program over the kit's printer): functions, contracts. Not trusted: Lean checks it.
import Derived.Test.YtphlbjpefnjjnaaDoorPx0
import Derived.Test.YtphlbjpefnjjnaaDoorYZ
namespace Go.Proofs.YtphlbjpefnjjnaaDoor.P
open Go.RowKit Go.Proofs.YtphlbjpefnjjnaaDoorW.PrintWords Go.Proofs.YtphlbjpefnjjnaaDoorW.PrintLast Go.Proofs.YtphlbjpefnjjnaaDoorW.PrintMore
attribute [local go_sem] max2_int min2_int max_two min_two max_three min_three max_four min_four   -- for this text's walks alone
set_option linter.unusedVariables false
set_option linter.unusedSimpArgs false

/-! ### hallmootref04_sign: function 21 -/
def hallmootref04_sign.j0 : Nat → ByteArray → Int → ByteArray → Option (Int)
  | 0, _, _, _ => none
  | k + 1, x0, x1, x5 => if x5.toList = ([59, 59] : List UInt8) then (some 2) else (if x5.toList = ([124, 124] : List UInt8) then (some 2) else (if x5.toList = ([38, 38] : List UInt8) then (some 2) else (if x5.toList = ([61, 61] : List UInt8) then (some 2) else (if x5.toList = ([46, 91] : List UInt8) then (some 2) else (if x5.toList = ([58, 61] : List UInt8) then (some 2) else (if x5.toList = ([45, 62] : List UInt8) then (some 2) else (if 0 ≤ x1 then (if x1 < (x0.size : Int) then (if (bt x0 x1) = 40 then (some 1) else (if (bt x0 x1) = 41 then (some 1) else (if (bt x0 x1) = 93 then (some 1) else (if (bt x0 x1) = 59 then (some 1) else (if (bt x0 x1) = 44 then (some 1) else (if (bt x0 x1) = 124 then (some 1) else (if (bt x0 x1) = 61 then (some 1) else (if (bt x0 x1) = 60 then (some 1) else (if (bt x0 x1) = 43 then (some 1) else (if (bt x0 x1) = 45 then (some 1) else (if (bt x0 x1) = 42 then (some 1) else (if (bt x0 x1) = 33 then (some 1) else (some 0))))))))))))) else (none)) else (none))))))))
def hallmootref04_sign.f (k : Nat) (a0 : ByteArray) (a1 : Int) : Option (Int) := if (wrap64 (a1 + 2)) ≤ (a0.size : Int) then (if 0 ≤ a1 then (if a1 ≤ (wrap64 (a1 + 2)) then (hallmootref04_sign.j0 k a0 a1 (a0.extract (a1 : Int).toNat ((wrap64 (a1 + 2)) : Int).toNat)) else (none)) else (none)) else (hallmootref04_sign.j0 k a0 a1 (⟨#[]⟩ : ByteArray))
theorem hallmootref04_sign.mono_l : ∀ k, (∀ y0 y1 y2, LeO (hallmootref04_sign.j0 k y0 y1 y2) (hallmootref04_sign.j0 (k + 1) y0 y1 y2))
  | 0 => fun _ _ _ r h => by simp [hallmootref04_sign.j0] at h
  | k + 1 => by
    have ih0 := hallmootref04_sign.mono_l k
    · intro y0 y1 y2
      unfold hallmootref04_sign.j0
      repeat' first
      | (with_reducible exact ih0 _ _ _)
      | (with_reducible exact LeO.refl _)
      | (with_reducible exact LeO.none _)
      | (with_reducible refine LeO.ite ?_ ?_)
      | (with_reducible refine LeO.bind ?_ (fun _ => ?_))
      | exact ih0 _ _ _
      | exact LeO.none _
      | refine LeO.ite ?_ ?_
      | refine LeO.bind ?_ (fun _ => ?_)
theorem hallmootref04_sign.mono : ∀ a0 a1 k, LeO (hallmootref04_sign.f k a0 a1) (hallmootref04_sign.f (k + 1) a0 a1) := by
 intro a0 a1 k
 have ih0 := hallmootref04_sign.mono_l k
 unfold hallmootref04_sign.f
 repeat' first | (with_reducible exact ih0 _ _ _) | (with_reducible exact LeO.refl _) | (with_reducible exact LeO.none _) | (with_reducible refine LeO.ite ?_ ?_) | (with_reducible refine LeO.bind ?_ (fun _ => ?_)) | exact ih0 _ _ _ | exact LeO.none _ | refine LeO.ite ?_ ?_ | refine LeO.bind ?_ (fun _ => ?_)
set_option maxHeartbeats 8000000 in
set_option maxRecDepth 100000 in
theorem hallmootref04_sign.calls (k : Nat) (a0 : ByteArray) (a1 : Int) (r : Int) (w : World) (h : hallmootref04_sign.f k a0 a1 = some r) : Calls Tryd.prog 21 #[.string a0, .int .i64 a1] w fun e w' => e = .returned (.int .i64 r) ∧ Drawn0 w w' := by
 have H : (if (wrap64 (a1 + 2)) ≤ (a0.size : Int) then (if 0 ≤ a1 then (if a1 ≤ (wrap64 (a1 + 2)) then (hallmootref04_sign.j0 k a0 a1 (a0.extract (a1 : Int).toNat ((wrap64 (a1 + 2)) : Int).toNat)) else (none)) else (none)) else (hallmootref04_sign.j0 k a0 a1 (⟨#[]⟩ : ByteArray))) = some r := h
 clear h
 have HC3 := aS H
 clear H
 go_enter Tryd.func21, Tryd.ntmps21
 go_upto_if 10 with (fail)
 go_cut [5] (fun v5 wc => ∃ (kq : Nat) (x5_2 : ByteArray), v5 = .string x5_2 ∧ Aside0 (hallmootref04_sign.j0 kq a0 a1 x5_2 = some r) ∧ Aside0 (kq ≤ k) ∧ Drawn0 w wc)
 case first =>
  have H := HC3.out
  clear HC3
  by_cases c4 : (wrap64 (a1 + 2)) ≤ (a0.size : Int)
  {
  rw [if_pos c4] at H
  have c4b0 : decide ((wrap64 (a1 + 2)) ≤ (a0.size : Int)) = true := decide_eq_true c4
  clear c4
  (first | rw [c4b0] | (simp only [i64_w, i32_w]; rw [c4b0]) | skip)
  by_cases c5 : 0 ≤ a1
  {
  rw [if_pos c5] at H
  have c5b0 := eq_true c5
  have c5b1 : decide (0 ≤ a1) = true := decide_eq_true c5
  clear c5
  by_cases c6 : a1 ≤ (wrap64 (a1 + 2))
  {
  rw [if_pos c6] at H
  have c6b0 := eq_true c6
  have c6b1 : decide (a1 ≤ (wrap64 (a1 + 2))) = true := decide_eq_true c6
  have c7b0 := eq_true (dd : (wrap64 (a1 + 2)) ≤ (a0.size : Int))
  have H' := aS H
  clear H
  go_wp2
  go_meet
  case rel => exact ⟨_, (a0.extract (a1 : Int).toNat ((wrap64 (a1 + 2)) : Int).toNat), (by first | rfl | (simp; done) | (simp [*]; done)), H', ⟨by first | omega | exact Nat.le_refl _⟩, by repeat (first | exact Drawn0.refl _ | apply Drawn0.step)⟩ }
  {
  rw [if_neg c6] at H
  exact absurd H (by simp) } }
  {
  rw [if_neg c5] at H
  exact absurd H (by simp) } }
  {
  rw [if_neg c4] at H
  have c4b0 : decide ((wrap64 (a1 + 2)) ≤ (a0.size : Int)) = false := decide_eq_false c4
  clear c4
  (first | rw [c4b0] | (simp only [i64_w, i32_w]; rw [c4b0]) | skip)
  have H' := aS H
  clear H
  go_wp2
  go_meet
  case rel => exact ⟨_, ((⟨#[]⟩ : ByteArray)), (by first | rfl | (simp; done) | (simp [*]; done)), H', ⟨by first | omega | exact Nat.le_refl _⟩, by repeat (first | exact Drawn0.refl _ | apply Drawn0.step)⟩ }
 case rest =>
  clear HC3
  try clear c2
  try clear p2
  try clear c4
  try clear c4b0
  try clear c5
  try clear c5b0
  try clear c5b1
  try clear c6
  try clear c6b0
  try clear c6b1
  try clear p6
  try clear c7
  try clear c7b0
  obtain ⟨kq, x5_2, rfl, HA, HJ2, ⟨mc2, rfl⟩⟩ := hcut
  cases kq with
  | zero => exact absurd HA.out (by simp [hallmootref04_sign.j0])
  | succ kj2 => {
  have H := HA.out
  clear HA
  simp only [hallmootref04_sign.j0] at H
  by_cases c8 : x5_2.toList = ([59, 59] : List UInt8)
  {
  rw [if_pos c8] at H
  have c8b0 : (x5_2.toList == ([59, 59] : List UInt8)) = true := beq_iff_eq.mpr c8
  have c8b1 : (x5_2.toList != ([59, 59] : List UInt8)) = false := bne_eq_false_iff_eq.mpr c8
  clear c8
  obtain rfl := Option.some.inj H
  go_wp2
  go_ret
  exact ⟨by first | rfl | (simp; done) | (simp [*]; done), by repeat (first | exact Drawn0.refl _ | apply Drawn0.step)⟩ }
  {
  rw [if_neg c8] at H
  have c8b0 : (x5_2.toList == ([59, 59] : List UInt8)) = false := beq_eq_false_iff_ne.mpr c8
  have c8b1 : (x5_2.toList != ([59, 59] : List UInt8)) = true := bne_iff_ne.mpr c8
  by_cases c9 : x5_2.toList = ([124, 124] : List UInt8)
  {
  rw [if_pos c9] at H
  have c9b0 : (x5_2.toList == ([124, 124] : List UInt8)) = true := beq_iff_eq.mpr c9
  have c9b1 : (x5_2.toList != ([124, 124] : List UInt8)) = false := bne_eq_false_iff_eq.mpr c9
  clear c9
  obtain rfl := Option.some.inj H
  go_wp2
  go_ret
  exact ⟨by first | rfl | (simp; done) | (simp [*]; done), by repeat (first | exact Drawn0.refl _ | apply Drawn0.step)⟩ }
  {
  rw [if_neg c9] at H
  have c9b0 : (x5_2.toList == ([124, 124] : List UInt8)) = false := beq_eq_false_iff_ne.mpr c9
  have c9b1 : (x5_2.toList != ([124, 124] : List UInt8)) = true := bne_iff_ne.mpr c9
  by_cases c10 : x5_2.toList = ([38, 38] : List UInt8)
  {
  rw [if_pos c10] at H
  have c10b0 : (x5_2.toList == ([38, 38] : List UInt8)) = true := beq_iff_eq.mpr c10
  have c10b1 : (x5_2.toList != ([38, 38] : List UInt8)) = false := bne_eq_false_iff_eq.mpr c10
  clear c10
  obtain rfl := Option.some.inj H
  go_wp2
  go_ret
  exact ⟨by first | rfl | (simp; done) | (simp [*]; done), by repeat (first | exact Drawn0.refl _ | apply Drawn0.step)⟩ }
  {
  rw [if_neg c10] at H
  have c10b0 : (x5_2.toList == ([38, 38] : List UInt8)) = false := beq_eq_false_iff_ne.mpr c10
  have c10b1 : (x5_2.toList != ([38, 38] : List UInt8)) = true := bne_iff_ne.mpr c10
  by_cases c11 : x5_2.toList = ([61, 61] : List UInt8)
  {
  rw [if_pos c11] at H
  have c11b0 : (x5_2.toList == ([61, 61] : List UInt8)) = true := beq_iff_eq.mpr c11
  have c11b1 : (x5_2.toList != ([61, 61] : List UInt8)) = false := bne_eq_false_iff_eq.mpr c11
  clear c11
  obtain rfl := Option.some.inj H
  go_wp2
  go_ret
  exact ⟨by first | rfl | (simp; done) | (simp [*]; done), by repeat (first | exact Drawn0.refl _ | apply Drawn0.step)⟩ }
  {
  rw [if_neg c11] at H
  have c11b0 : (x5_2.toList == ([61, 61] : List UInt8)) = false := beq_eq_false_iff_ne.mpr c11
  have c11b1 : (x5_2.toList != ([61, 61] : List UInt8)) = true := bne_iff_ne.mpr c11
  by_cases c12 : x5_2.toList = ([46, 91] : List UInt8)
  {
  rw [if_pos c12] at H
  have c12b0 : (x5_2.toList == ([46, 91] : List UInt8)) = true := beq_iff_eq.mpr c12
  have c12b1 : (x5_2.toList != ([46, 91] : List UInt8)) = false := bne_eq_false_iff_eq.mpr c12
  clear c12
  obtain rfl := Option.some.inj H
  go_wp2
  go_ret
  exact ⟨by first | rfl | (simp; done) | (simp [*]; done), by repeat (first | exact Drawn0.refl _ | apply Drawn0.step)⟩ }
  {
  rw [if_neg c12] at H
  have c12b0 : (x5_2.toList == ([46, 91] : List UInt8)) = false := beq_eq_false_iff_ne.mpr c12
  have c12b1 : (x5_2.toList != ([46, 91] : List UInt8)) = true := bne_iff_ne.mpr c12
  by_cases c13 : x5_2.toList = ([58, 61] : List UInt8)
  {
  rw [if_pos c13] at H
  have c13b0 : (x5_2.toList == ([58, 61] : List UInt8)) = true := beq_iff_eq.mpr c13
  have c13b1 : (x5_2.toList != ([58, 61] : List UInt8)) = false := bne_eq_false_iff_eq.mpr c13
  clear c13
  obtain rfl := Option.some.inj H
  go_wp2
  go_ret
  exact ⟨by first | rfl | (simp; done) | (simp [*]; done), by repeat (first | exact Drawn0.refl _ | apply Drawn0.step)⟩ }
  {
  rw [if_neg c13] at H
  have c13b0 : (x5_2.toList == ([58, 61] : List UInt8)) = false := beq_eq_false_iff_ne.mpr c13
  have c13b1 : (x5_2.toList != ([58, 61] : List UInt8)) = true := bne_iff_ne.mpr c13
  by_cases c14 : x5_2.toList = ([45, 62] : List UInt8)
  {
  rw [if_pos c14] at H
  have c14b0 : (x5_2.toList == ([45, 62] : List UInt8)) = true := beq_iff_eq.mpr c14
  have c14b1 : (x5_2.toList != ([45, 62] : List UInt8)) = false := bne_eq_false_iff_eq.mpr c14
  clear c14
  obtain rfl := Option.some.inj H
  go_wp2
  go_ret
  exact ⟨by first | rfl | (simp; done) | (simp [*]; done), by repeat (first | exact Drawn0.refl _ | apply Drawn0.step)⟩ }
  {
  rw [if_neg c14] at H
  have c14b0 : (x5_2.toList == ([45, 62] : List UInt8)) = false := beq_eq_false_iff_ne.mpr c14
  have c14b1 : (x5_2.toList != ([45, 62] : List UInt8)) = true := bne_iff_ne.mpr c14
  by_cases c15 : 0 ≤ a1
  {
  rw [if_pos c15] at H
  have c15b0 : decide (0 ≤ a1) = true := decide_eq_true c15
  clear c15
  by_cases c16 : a1 < (a0.size : Int)
  {
  rw [if_pos c16] at H
  have c16b0 : decide (a1 < (a0.size : Int)) = true := decide_eq_true c16
  clear c16
  by_cases c18 : (bt a0 a1) = 40
  {
  rw [if_pos c18] at H
  have c18b0 : ((bt a0 a1) == 40) = true := beq_iff_eq.mpr c18
  have c18b1 : ((bt a0 a1) != 40) = false := bne_eq_false_iff_eq.mpr c18
  clear c18
  obtain rfl := Option.some.inj H
  have p17 : 0 ≤ (a1 : Int) := dd
  have q17 : a1 < (a0.size : Int) := dd
  have hx17 := bt_at a0 a1
  replace p17 := eq_true p17
  replace q17 := eq_true q17
  go_wp2
  go_ret
  exact ⟨by first | rfl | (simp; done) | (simp [*]; done), by repeat (first | exact Drawn0.refl _ | apply Drawn0.step)⟩ }
  {
  rw [if_neg c18] at H
  have c18b0 : ((bt a0 a1) == 40) = false := beq_eq_false_iff_ne.mpr c18
  have c18b1 : ((bt a0 a1) != 40) = true := bne_iff_ne.mpr c18
  by_cases c19 : (bt a0 a1) = 41
  {
  rw [if_pos c19] at H
  have c19b0 : ((bt a0 a1) == 41) = true := beq_iff_eq.mpr c19
  have c19b1 : ((bt a0 a1) != 41) = false := bne_eq_false_iff_eq.mpr c19
  clear c19
  obtain rfl := Option.some.inj H
  have p17 : 0 ≤ (a1 : Int) := dd
  have q17 : a1 < (a0.size : Int) := dd
  have hx17 := bt_at a0 a1
  replace p17 := eq_true p17
  replace q17 := eq_true q17
  go_wp2
  go_ret
  exact ⟨by first | rfl | (simp; done) | (simp [*]; done), by repeat (first | exact Drawn0.refl _ | apply Drawn0.step)⟩ }
  {
  rw [if_neg c19] at H
  have c19b0 : ((bt a0 a1) == 41) = false := beq_eq_false_iff_ne.mpr c19
  have c19b1 : ((bt a0 a1) != 41) = true := bne_iff_ne.mpr c19
  by_cases c20 : (bt a0 a1) = 93
  {
  rw [if_pos c20] at H
  have c20b0 : ((bt a0 a1) == 93) = true := beq_iff_eq.mpr c20
  have c20b1 : ((bt a0 a1) != 93) = false := bne_eq_false_iff_eq.mpr c20
  clear c20
  obtain rfl := Option.some.inj H
  have p17 : 0 ≤ (a1 : Int) := dd
  have q17 : a1 < (a0.size : Int) := dd
  have hx17 := bt_at a0 a1
  replace p17 := eq_true p17
  replace q17 := eq_true q17
  go_wp2
  go_ret
  exact ⟨by first | rfl | (simp; done) | (simp [*]; done), by repeat (first | exact Drawn0.refl _ | apply Drawn0.step)⟩ }
  {
  rw [if_neg c20] at H
  have c20b0 : ((bt a0 a1) == 93) = false := beq_eq_false_iff_ne.mpr c20
  have c20b1 : ((bt a0 a1) != 93) = true := bne_iff_ne.mpr c20
  by_cases c21 : (bt a0 a1) = 59
  {
  rw [if_pos c21] at H
  have c21b0 : ((bt a0 a1) == 59) = true := beq_iff_eq.mpr c21
  have c21b1 : ((bt a0 a1) != 59) = false := bne_eq_false_iff_eq.mpr c21
  clear c21
  obtain rfl := Option.some.inj H
  have p17 : 0 ≤ (a1 : Int) := dd
  have q17 : a1 < (a0.size : Int) := dd
  have hx17 := bt_at a0 a1
  replace p17 := eq_true p17
  replace q17 := eq_true q17
  go_wp2
  go_ret
  exact ⟨by first | rfl | (simp; done) | (simp [*]; done), by repeat (first | exact Drawn0.refl _ | apply Drawn0.step)⟩ }
  {
  rw [if_neg c21] at H
  have c21b0 : ((bt a0 a1) == 59) = false := beq_eq_false_iff_ne.mpr c21
  have c21b1 : ((bt a0 a1) != 59) = true := bne_iff_ne.mpr c21
  by_cases c22 : (bt a0 a1) = 44
  {
  rw [if_pos c22] at H
  have c22b0 : ((bt a0 a1) == 44) = true := beq_iff_eq.mpr c22
  have c22b1 : ((bt a0 a1) != 44) = false := bne_eq_false_iff_eq.mpr c22
  clear c22
  obtain rfl := Option.some.inj H
  have p17 : 0 ≤ (a1 : Int) := dd
  have q17 : a1 < (a0.size : Int) := dd
  have hx17 := bt_at a0 a1
  replace p17 := eq_true p17
  replace q17 := eq_true q17
  go_wp2
  go_ret
  exact ⟨by first | rfl | (simp; done) | (simp [*]; done), by repeat (first | exact Drawn0.refl _ | apply Drawn0.step)⟩ }
  {
  rw [if_neg c22] at H
  have c22b0 : ((bt a0 a1) == 44) = false := beq_eq_false_iff_ne.mpr c22
  have c22b1 : ((bt a0 a1) != 44) = true := bne_iff_ne.mpr c22
  by_cases c23 : (bt a0 a1) = 124
  {
  rw [if_pos c23] at H
  have c23b0 : ((bt a0 a1) == 124) = true := beq_iff_eq.mpr c23
  have c23b1 : ((bt a0 a1) != 124) = false := bne_eq_false_iff_eq.mpr c23
  clear c23
  obtain rfl := Option.some.inj H
  have p17 : 0 ≤ (a1 : Int) := dd
  have q17 : a1 < (a0.size : Int) := dd
  have hx17 := bt_at a0 a1
  replace p17 := eq_true p17
  replace q17 := eq_true q17
  go_wp2
  go_ret
  exact ⟨by first | rfl | (simp; done) | (simp [*]; done), by repeat (first | exact Drawn0.refl _ | apply Drawn0.step)⟩ }
  {
  rw [if_neg c23] at H
  have c23b0 : ((bt a0 a1) == 124) = false := beq_eq_false_iff_ne.mpr c23
  have c23b1 : ((bt a0 a1) != 124) = true := bne_iff_ne.mpr c23
  by_cases c24 : (bt a0 a1) = 61
  {
  rw [if_pos c24] at H
  have c24b0 : ((bt a0 a1) == 61) = true := beq_iff_eq.mpr c24
  have c24b1 : ((bt a0 a1) != 61) = false := bne_eq_false_iff_eq.mpr c24
  clear c24
  obtain rfl := Option.some.inj H
  have p17 : 0 ≤ (a1 : Int) := dd
  have q17 : a1 < (a0.size : Int) := dd
  have hx17 := bt_at a0 a1
  replace p17 := eq_true p17
  replace q17 := eq_true q17
  go_wp2
  go_ret
  exact ⟨by first | rfl | (simp; done) | (simp [*]; done), by repeat (first | exact Drawn0.refl _ | apply Drawn0.step)⟩ }
  {
  rw [if_neg c24] at H
  have c24b0 : ((bt a0 a1) == 61) = false := beq_eq_false_iff_ne.mpr c24
  have c24b1 : ((bt a0 a1) != 61) = true := bne_iff_ne.mpr c24
  by_cases c25 : (bt a0 a1) = 60
  {
  rw [if_pos c25] at H
  have c25b0 : ((bt a0 a1) == 60) = true := beq_iff_eq.mpr c25
  have c25b1 : ((bt a0 a1) != 60) = false := bne_eq_false_iff_eq.mpr c25
  clear c25
  obtain rfl := Option.some.inj H
  have p17 : 0 ≤ (a1 : Int) := dd
  have q17 : a1 < (a0.size : Int) := dd
  have hx17 := bt_at a0 a1
  replace p17 := eq_true p17
  replace q17 := eq_true q17
  go_wp2
  go_ret
  exact ⟨by first | rfl | (simp; done) | (simp [*]; done), by repeat (first | exact Drawn0.refl _ | apply Drawn0.step)⟩ }
  {
  rw [if_neg c25] at H
  have c25b0 : ((bt a0 a1) == 60) = false := beq_eq_false_iff_ne.mpr c25
  have c25b1 : ((bt a0 a1) != 60) = true := bne_iff_ne.mpr c25
  by_cases c26 : (bt a0 a1) = 43
  {
  rw [if_pos c26] at H
  have c26b0 : ((bt a0 a1) == 43) = true := beq_iff_eq.mpr c26
  have c26b1 : ((bt a0 a1) != 43) = false := bne_eq_false_iff_eq.mpr c26
  clear c26
  obtain rfl := Option.some.inj H
  have p17 : 0 ≤ (a1 : Int) := dd
  have q17 : a1 < (a0.size : Int) := dd
  have hx17 := bt_at a0 a1
  replace p17 := eq_true p17
  replace q17 := eq_true q17
  go_wp2
  go_ret
  exact ⟨by first | rfl | (simp; done) | (simp [*]; done), by repeat (first | exact Drawn0.refl _ | apply Drawn0.step)⟩ }
  {
  rw [if_neg c26] at H
  have c26b0 : ((bt a0 a1) == 43) = false := beq_eq_false_iff_ne.mpr c26
  have c26b1 : ((bt a0 a1) != 43) = true := bne_iff_ne.mpr c26
  by_cases c27 : (bt a0 a1) = 45
  {
  rw [if_pos c27] at H
  have c27b0 : ((bt a0 a1) == 45) = true := beq_iff_eq.mpr c27
  have c27b1 : ((bt a0 a1) != 45) = false := bne_eq_false_iff_eq.mpr c27
  clear c27
  obtain rfl := Option.some.inj H
  have p17 : 0 ≤ (a1 : Int) := dd
  have q17 : a1 < (a0.size : Int) := dd
  have hx17 := bt_at a0 a1
  replace p17 := eq_true p17
  replace q17 := eq_true q17
  go_wp2
  go_ret
  exact ⟨by first | rfl | (simp; done) | (simp [*]; done), by repeat (first | exact Drawn0.refl _ | apply Drawn0.step)⟩ }
  {
  rw [if_neg c27] at H
  have c27b0 : ((bt a0 a1) == 45) = false := beq_eq_false_iff_ne.mpr c27
  have c27b1 : ((bt a0 a1) != 45) = true := bne_iff_ne.mpr c27
  by_cases c28 : (bt a0 a1) = 42
  {
  rw [if_pos c28] at H
  have c28b0 : ((bt a0 a1) == 42) = true := beq_iff_eq.mpr c28
  have c28b1 : ((bt a0 a1) != 42) = false := bne_eq_false_iff_eq.mpr c28
  clear c28
  obtain rfl := Option.some.inj H
  have p17 : 0 ≤ (a1 : Int) := dd
  have q17 : a1 < (a0.size : Int) := dd
  have hx17 := bt_at a0 a1
  replace p17 := eq_true p17
  replace q17 := eq_true q17
  go_wp2
  go_ret
  exact ⟨by first | rfl | (simp; done) | (simp [*]; done), by repeat (first | exact Drawn0.refl _ | apply Drawn0.step)⟩ }
  {
  rw [if_neg c28] at H
  have c28b0 : ((bt a0 a1) == 42) = false := beq_eq_false_iff_ne.mpr c28
  have c28b1 : ((bt a0 a1) != 42) = true := bne_iff_ne.mpr c28
  by_cases c29 : (bt a0 a1) = 33
  {
  rw [if_pos c29] at H
  have c29b0 : ((bt a0 a1) == 33) = true := beq_iff_eq.mpr c29
  have c29b1 : ((bt a0 a1) != 33) = false := bne_eq_false_iff_eq.mpr c29
  clear c29
  obtain rfl := Option.some.inj H
  have p17 : 0 ≤ (a1 : Int) := dd
  have q17 : a1 < (a0.size : Int) := dd
  have hx17 := bt_at a0 a1
  replace p17 := eq_true p17
  replace q17 := eq_true q17
  go_wp2
  go_ret
  exact ⟨by first | rfl | (simp; done) | (simp [*]; done), by repeat (first | exact Drawn0.refl _ | apply Drawn0.step)⟩ }
  {
  rw [if_neg c29] at H
  have c29b0 : ((bt a0 a1) == 33) = false := beq_eq_false_iff_ne.mpr c29
  have c29b1 : ((bt a0 a1) != 33) = true := bne_iff_ne.mpr c29
  obtain rfl := Option.some.inj H
  have p17 : 0 ≤ (a1 : Int) := dd
  have q17 : a1 < (a0.size : Int) := dd
  have hx17 := bt_at a0 a1
  replace p17 := eq_true p17
  replace q17 := eq_true q17
  go_wp2
  go_ret
  exact ⟨by first | rfl | (simp; done) | (simp [*]; done), by repeat (first | exact Drawn0.refl _ | apply Drawn0.step)⟩ } } } } } } } } } } } } }
  {
  rw [if_neg c16] at H
  exact absurd H (by simp) } }
  {
  rw [if_neg c15] at H
  exact absurd H (by simp) } } } } } } } } }

end Go.Proofs.YtphlbjpefnjjnaaDoor.P
