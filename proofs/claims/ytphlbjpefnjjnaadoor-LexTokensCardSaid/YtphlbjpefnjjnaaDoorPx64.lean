-- Written by pp.py (this session's program over the kit's printer): functions, contracts. Not trusted: Lean checks it.
import Derived.Test.YtphlbjpefnjjnaaDoorPx0
import Derived.Test.YtphlbjpefnjjnaaDoorYZ
namespace Go.Proofs.YtphlbjpefnjjnaaDoor.P
open Go.RowKit Go.Proofs.YtphlbjpefnjjnaaDoorW.PrintWords Go.Proofs.YtphlbjpefnjjnaaDoorW.PrintLast Go.Proofs.YtphlbjpefnjjnaaDoorW.PrintMore
attribute [local go_sem] max2_int min2_int max_two min_two max_three min_three max_four min_four   -- for this text's walks alone
set_option linter.unusedVariables false
set_option linter.unusedSimpArgs false

/-! ### hallmootref04_class: function 20 -/
mutual
def hallmootref04_class.j0 : Nat → Int → Bool → Option (Int)
  | 0, _, _ => none
  | k + 1, x0, x3 => if x3 = true then (some 1) else (if x0 ≥ 48 then (hallmootref04_class.j1 k x0 (decide (x0 ≤ 57))) else (hallmootref04_class.j1 k x0 false))
def hallmootref04_class.j1 : Nat → Int → Bool → Option (Int)
  | 0, _, _ => none
  | k + 1, x0, x18 => if x18 = true then (some 2) else (if x0 = 95 then (some 3) else (if x0 = 9 then (some 4) else (if x0 = 10 then (some 4) else (if x0 = 32 then (some 4) else (some 0)))))
end
def hallmootref04_class.f (k : Nat) (a0 : Int) : Option (Int) := if a0 ≥ 97 then (if a0 ≤ 122 then (hallmootref04_class.j0 k a0 true) else (if a0 ≥ 65 then (hallmootref04_class.j0 k a0 (decide (a0 ≤ 90))) else (hallmootref04_class.j0 k a0 false))) else (if a0 ≥ 65 then (hallmootref04_class.j0 k a0 (decide (a0 ≤ 90))) else (hallmootref04_class.j0 k a0 false))
theorem hallmootref04_class.mono_l : ∀ k, (∀ y0 y1, LeO (hallmootref04_class.j0 k y0 y1) (hallmootref04_class.j0 (k + 1) y0 y1)) ∧ (∀ y0 y1, LeO (hallmootref04_class.j1 k y0 y1) (hallmootref04_class.j1 (k + 1) y0 y1))
  | 0 => ⟨fun _ _ r h => by simp [hallmootref04_class.j0] at h, fun _ _ r h => by simp [hallmootref04_class.j1] at h⟩
  | k + 1 => by
    obtain ⟨ih0, ih1⟩ := hallmootref04_class.mono_l k
    refine ⟨?_, ?_⟩
    · intro y0 y1
      unfold hallmootref04_class.j0
      repeat' first
      | (with_reducible exact ih0 _ _)
      | (with_reducible exact ih1 _ _)
      | (with_reducible exact LeO.refl _)
      | (with_reducible exact LeO.none _)
      | (with_reducible refine LeO.ite ?_ ?_)
      | (with_reducible refine LeO.bind ?_ (fun _ => ?_))
      | exact ih0 _ _
      | exact ih1 _ _
      | exact LeO.none _
      | refine LeO.ite ?_ ?_
      | refine LeO.bind ?_ (fun _ => ?_)
    · intro y0 y1
      unfold hallmootref04_class.j1
      repeat' first
      | (with_reducible exact ih0 _ _)
      | (with_reducible exact ih1 _ _)
      | (with_reducible exact LeO.refl _)
      | (with_reducible exact LeO.none _)
      | (with_reducible refine LeO.ite ?_ ?_)
      | (with_reducible refine LeO.bind ?_ (fun _ => ?_))
      | exact ih0 _ _
      | exact ih1 _ _
      | exact LeO.none _
      | refine LeO.ite ?_ ?_
      | refine LeO.bind ?_ (fun _ => ?_)
theorem hallmootref04_class.mono : ∀ a0 k, LeO (hallmootref04_class.f k a0) (hallmootref04_class.f (k + 1) a0) := by
 intro a0 k
 obtain ⟨ih0, ih1⟩ := hallmootref04_class.mono_l k
 unfold hallmootref04_class.f
 repeat' first | (with_reducible exact ih0 _ _) | (with_reducible exact ih1 _ _) | (with_reducible exact LeO.refl _) | (with_reducible exact LeO.none _) | (with_reducible refine LeO.ite ?_ ?_) | (with_reducible refine LeO.bind ?_ (fun _ => ?_)) | exact ih0 _ _ | exact ih1 _ _ | exact LeO.none _ | refine LeO.ite ?_ ?_ | refine LeO.bind ?_ (fun _ => ?_)
set_option maxHeartbeats 8000000 in
set_option maxRecDepth 100000 in
theorem hallmootref04_class.calls (k : Nat) (a0 : Int) (r : Int) (w : World) (h : hallmootref04_class.f k a0 = some r) : Calls Tryd.prog 20 #[.int .u8 a0] w fun e w' => e = .returned (.int .i64 r) ∧ Drawn0 w w' := by
 have H : (if a0 ≥ 97 then (if a0 ≤ 122 then (hallmootref04_class.j0 k a0 true) else (if a0 ≥ 65 then (hallmootref04_class.j0 k a0 (decide (a0 ≤ 90))) else (hallmootref04_class.j0 k a0 false))) else (if a0 ≥ 65 then (hallmootref04_class.j0 k a0 (decide (a0 ≤ 90))) else (hallmootref04_class.j0 k a0 false))) = some r := h
 clear h
 have HC2 := aS H
 clear H
 go_enter Tryd.func20, Tryd.ntmps20
 go_upto_region 1 with (fail)
 go_cut [3] (fun v3 wc => ∃ (kq : Nat) (x3_1 : Bool), v3 = .bool x3_1 ∧ Aside0 (hallmootref04_class.j0 kq a0 x3_1 = some r) ∧ Aside0 (kq ≤ k) ∧ Drawn0 w wc)
 case first =>
  have H := HC2.out
  clear HC2
  by_cases c3 : a0 ≥ 97
  {
  rw [if_pos c3] at H
  have c3b0 : decide (97 ≤ a0) = true := decide_eq_true c3
  clear c3
  (first | rw [c3b0] | (simp only [i64_w, i32_w]; rw [c3b0]) | skip)
  by_cases c4 : a0 ≤ 122
  {
  rw [if_pos c4] at H
  have c4b0 : decide (a0 ≤ 122) = true := decide_eq_true c4
  clear c4
  have H' := aS H
  clear H
  go_wp2
  go_meet
  case rel => exact ⟨_, (true), (by first | rfl | (simp; done) | (simp [*]; done)), H', ⟨by first | omega | exact Nat.le_refl _⟩, by repeat (first | exact Drawn0.refl _ | apply Drawn0.step)⟩ }
  {
  rw [if_neg c4] at H
  have c4b0 : decide (a0 ≤ 122) = false := decide_eq_false c4
  clear c4
  by_cases c5 : a0 ≥ 65
  {
  rw [if_pos c5] at H
  have c5b0 : decide (65 ≤ a0) = true := decide_eq_true c5
  clear c5
  have H' := aS H
  clear H
  go_wp2
  go_meet
  case rel => exact ⟨_, (decide (a0 ≤ 90)), (by first | rfl | (simp; done) | (simp [*]; done)), H', ⟨by first | omega | exact Nat.le_refl _⟩, by repeat (first | exact Drawn0.refl _ | apply Drawn0.step)⟩ }
  {
  rw [if_neg c5] at H
  have c5b0 : decide (65 ≤ a0) = false := decide_eq_false c5
  clear c5
  have H' := aS H
  clear H
  go_wp2
  go_meet
  case rel => exact ⟨_, (false), (by first | rfl | (simp; done) | (simp [*]; done)), H', ⟨by first | omega | exact Nat.le_refl _⟩, by repeat (first | exact Drawn0.refl _ | apply Drawn0.step)⟩ } } }
  {
  rw [if_neg c3] at H
  have c3b0 : decide (97 ≤ a0) = false := decide_eq_false c3
  clear c3
  (first | rw [c3b0] | (simp only [i64_w, i32_w]; rw [c3b0]) | skip)
  by_cases c6 : a0 ≥ 65
  {
  rw [if_pos c6] at H
  have c6b0 : decide (65 ≤ a0) = true := decide_eq_true c6
  clear c6
  have H' := aS H
  clear H
  go_wp2
  go_meet
  case rel => exact ⟨_, (decide (a0 ≤ 90)), (by first | rfl | (simp; done) | (simp [*]; done)), H', ⟨by first | omega | exact Nat.le_refl _⟩, by repeat (first | exact Drawn0.refl _ | apply Drawn0.step)⟩ }
  {
  rw [if_neg c6] at H
  have c6b0 : decide (65 ≤ a0) = false := decide_eq_false c6
  clear c6
  have H' := aS H
  clear H
  go_wp2
  go_meet
  case rel => exact ⟨_, (false), (by first | rfl | (simp; done) | (simp [*]; done)), H', ⟨by first | omega | exact Nat.le_refl _⟩, by repeat (first | exact Drawn0.refl _ | apply Drawn0.step)⟩ } }
 case rest =>
  clear HC2
  try clear c2
  try clear p2
  try clear c3
  try clear c3b0
  try clear c4
  try clear c4b0
  try clear c5
  try clear c5b0
  try clear c6
  try clear c6b0
  obtain ⟨kq, x3_1, rfl, HA, HJ1, ⟨mc1, rfl⟩⟩ := hcut
  cases kq with
  | zero => exact absurd HA.out (by simp [hallmootref04_class.j0])
  | succ kj1 => {
  have H := HA.out
  clear HA
  simp only [hallmootref04_class.j0] at H
  by_cases c7 : x3_1 = true
  {
  subst c7
  have H1 : (some 1) = some r := by rw [if_pos rfl] at H; exact H
  clear H
  have H := H1
  clear H1
  obtain rfl := Option.some.inj H
  go_wp2
  go_ret
  exact ⟨by first | rfl | (simp; done) | (simp [*]; done), by repeat (first | exact Drawn0.refl _ | apply Drawn0.step)⟩ }
  {
  replace c7 := Bool.eq_false_iff.mpr c7
  subst c7
  have H1 : (if a0 ≥ 48 then (hallmootref04_class.j1 kj1 a0 (decide (a0 ≤ 57))) else (hallmootref04_class.j1 kj1 a0 false)) = some r := by rw [if_neg (show ¬ (false = true) by decide)] at H; exact H
  clear H
  have H := H1
  clear H1
  have HC8 := aS H
  clear H
  go_upto_region 3 with (fail)
  go_cut [18] (fun v18 wc => ∃ (kq : Nat) (x18_7 : Bool), v18 = .bool x18_7 ∧ Aside0 (hallmootref04_class.j1 kq a0 x18_7 = some r) ∧ Aside0 (kq ≤ kj1) ∧ Drawn0 w wc)
  case first =>
   have H := HC8.out
   clear HC8
   by_cases c9 : a0 ≥ 48
   {
   rw [if_pos c9] at H
   have c9b0 : decide (48 ≤ a0) = true := decide_eq_true c9
   clear c9
   (first | rw [c9b0] | (simp only [i64_w, i32_w]; rw [c9b0]) | skip)
   have H' := aS H
   clear H
   go_wp2
   go_meet
   case rel => exact ⟨_, (decide (a0 ≤ 57)), (by first | rfl | (simp; done) | (simp [*]; done)), H', ⟨by have := HJ1.out; first | omega | exact Nat.le_refl _⟩, by repeat (first | exact Drawn0.refl _ | apply Drawn0.step)⟩ }
   {
   rw [if_neg c9] at H
   have c9b0 : decide (48 ≤ a0) = false := decide_eq_false c9
   clear c9
   (first | rw [c9b0] | (simp only [i64_w, i32_w]; rw [c9b0]) | skip)
   have H' := aS H
   clear H
   go_wp2
   go_meet
   case rel => exact ⟨_, (false), (by first | rfl | (simp; done) | (simp [*]; done)), H', ⟨by have := HJ1.out; first | omega | exact Nat.le_refl _⟩, by repeat (first | exact Drawn0.refl _ | apply Drawn0.step)⟩ }
  case rest =>
   clear HC8
   try clear c1
   try clear c2
   try clear p2
   try clear c3
   try clear c3b0
   try clear c4
   try clear c4b0
   try clear c5
   try clear c5b0
   try clear c6
   try clear c6b0
   try clear c7
   try clear c9
   try clear c9b0
   try clear p2
   obtain ⟨kq, x18_7, rfl, HA, HJ7, ⟨mc7, rfl⟩⟩ := hcut
   cases kq with
   | zero => exact absurd HA.out (by simp [hallmootref04_class.j1])
   | succ kj7 => {
   have H := HA.out
   clear HA
   simp only [hallmootref04_class.j1] at H
   by_cases c10 : x18_7 = true
   {
   subst c10
   have H1 : (some 2) = some r := by rw [if_pos rfl] at H; exact H
   clear H
   have H := H1
   clear H1
   obtain rfl := Option.some.inj H
   go_wp2
   go_ret
   exact ⟨by first | rfl | (simp; done) | (simp [*]; done), by repeat (first | exact Drawn0.refl _ | apply Drawn0.step)⟩ }
   {
   replace c10 := Bool.eq_false_iff.mpr c10
   subst c10
   have H1 : (if a0 = 95 then (some 3) else (if a0 = 9 then (some 4) else (if a0 = 10 then (some 4) else (if a0 = 32 then (some 4) else (some 0))))) = some r := by rw [if_neg (show ¬ (false = true) by decide)] at H; exact H
   clear H
   have H := H1
   clear H1
   by_cases c11 : a0 = 95
   {
   rw [if_pos c11] at H
   have c11b0 : (a0 == 95) = true := beq_iff_eq.mpr c11
   have c11b1 : (a0 != 95) = false := bne_eq_false_iff_eq.mpr c11
   clear c11
   obtain rfl := Option.some.inj H
   go_wp2
   go_ret
   exact ⟨by first | rfl | (simp; done) | (simp [*]; done), by repeat (first | exact Drawn0.refl _ | apply Drawn0.step)⟩ }
   {
   rw [if_neg c11] at H
   have c11b0 : (a0 == 95) = false := beq_eq_false_iff_ne.mpr c11
   have c11b1 : (a0 != 95) = true := bne_iff_ne.mpr c11
   by_cases c12 : a0 = 9
   {
   rw [if_pos c12] at H
   have c12b0 : (a0 == 9) = true := beq_iff_eq.mpr c12
   have c12b1 : (a0 != 9) = false := bne_eq_false_iff_eq.mpr c12
   clear c12
   obtain rfl := Option.some.inj H
   go_wp2
   go_ret
   exact ⟨by first | rfl | (simp; done) | (simp [*]; done), by repeat (first | exact Drawn0.refl _ | apply Drawn0.step)⟩ }
   {
   rw [if_neg c12] at H
   have c12b0 : (a0 == 9) = false := beq_eq_false_iff_ne.mpr c12
   have c12b1 : (a0 != 9) = true := bne_iff_ne.mpr c12
   by_cases c13 : a0 = 10
   {
   rw [if_pos c13] at H
   have c13b0 : (a0 == 10) = true := beq_iff_eq.mpr c13
   have c13b1 : (a0 != 10) = false := bne_eq_false_iff_eq.mpr c13
   clear c13
   obtain rfl := Option.some.inj H
   go_wp2
   go_ret
   exact ⟨by first | rfl | (simp; done) | (simp [*]; done), by repeat (first | exact Drawn0.refl _ | apply Drawn0.step)⟩ }
   {
   rw [if_neg c13] at H
   have c13b0 : (a0 == 10) = false := beq_eq_false_iff_ne.mpr c13
   have c13b1 : (a0 != 10) = true := bne_iff_ne.mpr c13
   by_cases c14 : a0 = 32
   {
   rw [if_pos c14] at H
   have c14b0 : (a0 == 32) = true := beq_iff_eq.mpr c14
   have c14b1 : (a0 != 32) = false := bne_eq_false_iff_eq.mpr c14
   clear c14
   obtain rfl := Option.some.inj H
   go_wp2
   go_ret
   exact ⟨by first | rfl | (simp; done) | (simp [*]; done), by repeat (first | exact Drawn0.refl _ | apply Drawn0.step)⟩ }
   {
   rw [if_neg c14] at H
   have c14b0 : (a0 == 32) = false := beq_eq_false_iff_ne.mpr c14
   have c14b1 : (a0 != 32) = true := bne_iff_ne.mpr c14
   obtain rfl := Option.some.inj H
   go_wp2
   go_ret
   exact ⟨by first | rfl | (simp; done) | (simp [*]; done), by repeat (first | exact Drawn0.refl _ | apply Drawn0.step)⟩ } } } } } } } }

end Go.Proofs.YtphlbjpefnjjnaaDoor.P
