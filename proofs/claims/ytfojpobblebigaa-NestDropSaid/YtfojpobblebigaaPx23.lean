-- Written by pp.py (this session's program over the kit's printer): functions, contracts. Not trusted: Lean checks it.
import Derived.Test.YtfojpobblebigaaPx0
namespace Go.Proofs.Ytfojpobblebigaa.P
open Go.RowKit Go.Proofs.YtfojpobblebigaaW.PrintWords Go.Proofs.YtfojpobblebigaaW.PrintLast Go.Proofs.YtfojpobblebigaaW.PrintMore
attribute [local go_sem] max2_int min2_int max_two min_two max_three min_three max_four min_four   -- for this text's walks alone
set_option linter.unusedVariables false
set_option linter.unusedSimpArgs false

/-! ### hallmootlaw13_once: function 32 -/
mutual
def hallmootlaw13_once.l0 : Nat → List (S62) → Int → Option (Bool)
  | 0, _, _ => none
  | k + 1, x0, x3 => if x3 < (x0.length : Int) then (hallmootlaw13_once.l1 k x0 x3 0) else (some true)
def hallmootlaw13_once.l1 : Nat → List (S62) → Int → Int → Option (Bool)
  | 0, _, _, _ => none
  | k + 1, x0, x3, x4 => if 0 ≤ x3 then (if x3 < (x0.length : Int) then (if x4 < (((rd_T62 x0 x3).f1).length : Int) then (hallmootlaw13_once.l2 k x0 x3 x4 0) else (hallmootlaw13_once.l0 k x0 (wrap64 (x3 + 1)))) else (none)) else (none)
def hallmootlaw13_once.l2 : Nat → List (S62) → Int → Int → Int → Option (Bool)
  | 0, _, _, _, _ => none
  | k + 1, x0, x3, x4, x5 => if x5 < x4 then (if 0 ≤ x3 then (if x3 < (x0.length : Int) then (if 0 ≤ x5 then (if x5 < (((rd_T62 x0 x3).f1).length : Int) then (if 0 ≤ x4 then (if x4 < (((rd_T62 x0 x3).f1).length : Int) then (if ((rd_T33 ((rd_T62 x0 x3).f1) x5).f0) = ((rd_T33 ((rd_T62 x0 x3).f1) x4).f0) then (some false) else (hallmootlaw13_once.l2 k x0 x3 x4 (wrap64 (x5 + 1)))) else (none)) else (none)) else (none)) else (none)) else (none)) else (none)) else (hallmootlaw13_once.l1 k x0 x3 (wrap64 (x4 + 1)))
end
def hallmootlaw13_once.f (k : Nat) (l0 : List (S62)) : Option (Bool) := hallmootlaw13_once.l0 k l0 0
theorem hallmootlaw13_once.mono_l : ∀ k, (∀ y0 y1, LeO (hallmootlaw13_once.l0 k y0 y1) (hallmootlaw13_once.l0 (k + 1) y0 y1)) ∧ (∀ y0 y1 y2, LeO (hallmootlaw13_once.l1 k y0 y1 y2) (hallmootlaw13_once.l1 (k + 1) y0 y1 y2)) ∧ (∀ y0 y1 y2 y3, LeO (hallmootlaw13_once.l2 k y0 y1 y2 y3) (hallmootlaw13_once.l2 (k + 1) y0 y1 y2 y3))
  | 0 => ⟨fun _ _ r h => by simp [hallmootlaw13_once.l0] at h, fun _ _ _ r h => by simp [hallmootlaw13_once.l1] at h, fun _ _ _ _ r h => by simp [hallmootlaw13_once.l2] at h⟩
  | k + 1 => by
    obtain ⟨ih0, ih1, ih2⟩ := hallmootlaw13_once.mono_l k
    refine ⟨?_, ?_, ?_⟩
    · intro y0 y1
      unfold hallmootlaw13_once.l0
      repeat' first
      | (with_reducible exact ih0 _ _)
      | (with_reducible exact ih1 _ _ _)
      | (with_reducible exact ih2 _ _ _ _)
      | (with_reducible exact LeO.refl _)
      | (with_reducible exact LeO.none _)
      | (with_reducible refine LeO.ite ?_ ?_)
      | (with_reducible refine LeO.bind ?_ (fun _ => ?_))
      | exact ih0 _ _
      | exact ih1 _ _ _
      | exact ih2 _ _ _ _
      | exact LeO.none _
      | refine LeO.ite ?_ ?_
      | refine LeO.bind ?_ (fun _ => ?_)
    · intro y0 y1 y2
      unfold hallmootlaw13_once.l1
      repeat' first
      | (with_reducible exact ih0 _ _)
      | (with_reducible exact ih1 _ _ _)
      | (with_reducible exact ih2 _ _ _ _)
      | (with_reducible exact LeO.refl _)
      | (with_reducible exact LeO.none _)
      | (with_reducible refine LeO.ite ?_ ?_)
      | (with_reducible refine LeO.bind ?_ (fun _ => ?_))
      | exact ih0 _ _
      | exact ih1 _ _ _
      | exact ih2 _ _ _ _
      | exact LeO.none _
      | refine LeO.ite ?_ ?_
      | refine LeO.bind ?_ (fun _ => ?_)
    · intro y0 y1 y2 y3
      unfold hallmootlaw13_once.l2
      repeat' first
      | (with_reducible exact ih0 _ _)
      | (with_reducible exact ih1 _ _ _)
      | (with_reducible exact ih2 _ _ _ _)
      | (with_reducible exact LeO.refl _)
      | (with_reducible exact LeO.none _)
      | (with_reducible refine LeO.ite ?_ ?_)
      | (with_reducible refine LeO.bind ?_ (fun _ => ?_))
      | exact ih0 _ _
      | exact ih1 _ _ _
      | exact ih2 _ _ _ _
      | exact LeO.none _
      | refine LeO.ite ?_ ?_
      | refine LeO.bind ?_ (fun _ => ?_)
theorem hallmootlaw13_once.mono : ∀ a0 k, LeO (hallmootlaw13_once.f k a0) (hallmootlaw13_once.f (k + 1) a0) := by
 intro a0 k
 obtain ⟨ih0, ih1, ih2⟩ := hallmootlaw13_once.mono_l k
 unfold hallmootlaw13_once.f
 repeat' first | (with_reducible exact ih0 _ _) | (with_reducible exact ih1 _ _ _) | (with_reducible exact ih2 _ _ _ _) | (with_reducible exact LeO.refl _) | (with_reducible exact LeO.none _) | (with_reducible refine LeO.ite ?_ ?_) | (with_reducible refine LeO.bind ?_ (fun _ => ?_)) | exact ih0 _ _ | exact ih1 _ _ _ | exact ih2 _ _ _ _ | exact LeO.none _ | refine LeO.ite ?_ ?_ | refine LeO.bind ?_ (fun _ => ?_)
set_option maxHeartbeats 8000000 in
set_option maxRecDepth 100000 in
theorem hallmootlaw13_once.calls (k : Nat) (A0 : Option Addr) (c0 : Nat) (l0 : List (S62)) (r : Bool) (w : World) (hr0 : Kd.C k62 w A0 l0.length l0) (hc0 : l0.length ≤ c0) (h : hallmootlaw13_once.f k l0 = some r) : Calls Try.prog 32 #[.slice A0 l0.length c0] w fun e w' => e = .returned (.bool r) ∧ Drawn0 w w' := by
 have HR0 := Aside0.mk hr0
 have HC0 := Aside0.mk hc0
 clear hr0 hc0
 have H : (hallmootlaw13_once.l0 k l0 0) = some r := h
 clear h
 have H' := Aside0.mk H
 clear H
 go_enter Try.func32, Try.ntmps32
 go_wp2
 repeat (go_quiet (fail); try go_wp2)
 go_loopg [3] k (fun kq v3 w' => ∃ (x3_1 : Int), v3 = .int .i64 x3_1 ∧ Aside0 (hallmootlaw13_once.l0 kq l0 x3_1 = some r) ∧ Aside0 (kq ≤ k) ∧ Drawn0 w w')
 case atStart => exact ⟨(0), (by first | rfl | (simp; done) | (simp [*]; done)), H', ⟨Nat.le_refl _⟩, by repeat (first | exact Drawn0.refl _ | apply Drawn0.step)⟩
 case round =>
  clear H'
  obtain ⟨x3_1, rfl, HA, HK1, ⟨m1, rfl⟩⟩ := hrel
  cases gk with
  | zero => exact absurd HA.out (by simp [hallmootlaw13_once.l0])
  | succ k1 => {
  have H := HA.out
  clear HA
  simp only [hallmootlaw13_once.l0] at H
  by_cases c2 : x3_1 < (l0.length : Int)
  {
  rw [if_pos c2] at H
  have c2b0 : decide (x3_1 < (l0.length : Int)) = true := decide_eq_true c2
  clear c2
  have H' := Aside0.mk H
  clear H
  go_wp2
  repeat (go_quiet (fail); try go_wp2)
  go_loopg [4] k1 (fun kq v4 w' => ∃ (x4_2 : Int), v4 = .int .i64 x4_2 ∧ Aside0 (hallmootlaw13_once.l1 kq l0 x3_1 x4_2 = some r) ∧ Aside0 (kq ≤ k1) ∧ Drawn0 w w')
  case atStart => exact ⟨(0), (by first | rfl | (simp; done) | (simp [*]; done)), H', ⟨Nat.le_refl _⟩, by repeat (first | exact Drawn0.refl _ | apply Drawn0.step)⟩
  case round =>
   clear H'
   try clear c2
   try clear c2b0
   try clear p2
   obtain ⟨x4_2, rfl, HA, HK2, ⟨m2, rfl⟩⟩ := hrel
   cases gk with
   | zero => exact absurd HA.out (by simp [hallmootlaw13_once.l1])
   | succ k2 => {
   have H := HA.out
   clear HA
   simp only [hallmootlaw13_once.l1] at H
   by_cases c3 : 0 ≤ x3_1
   {
   rw [if_pos c3] at H
   have c3b0 : decide (0 ≤ x3_1) = true := decide_eq_true c3
   clear c3
   by_cases c4 : x3_1 < (l0.length : Int)
   {
   rw [if_pos c4] at H
   have c4b0 : decide (x3_1 < (l0.length : Int)) = true := decide_eq_true c4
   clear c4
   by_cases c5 : x4_2 < (((rd_T62 l0 x3_1).f1).length : Int)
   {
   rw [if_pos c5] at H
   have c5b0 : decide (x4_2 < (((rd_T62 l0 x3_1).f1).length : Int)) = true := decide_eq_true c5
   clear c5
   have H' := Aside0.mk H
   clear H
   have p448 : 0 ≤ (x3_1 : Int) := of_decide_eq_true (by first | (with_reducible assumption) | assumption)
   have q448 : x3_1 < (l0.length : Int) := of_decide_eq_true (by first | (with_reducible assumption) | assumption)
   obtain ⟨ad448, A448_0, c448_0, A448_1, c448_1, A448_2, c448_2, e448, hx448_0, hx448_1, hx448_2, hl448_0, hi448_0, hl448_1, hi448_1, hl448_2, hi448_2⟩ := at_T62 HR0.out x3_1 p448 q448
   cases e448
   have HR448_0 := Aside0.mk hi448_0
   have HC448_0 := Aside0.mk hl448_0
   clear hi448_0 hl448_0
   have HR448_1 := Aside0.mk hi448_1
   have HC448_1 := Aside0.mk hl448_1
   clear hi448_1 hl448_1
   have HR448_2 := Aside0.mk hi448_2
   have HC448_2 := Aside0.mk hl448_2
   clear hi448_2 hl448_2
   replace p448 := eq_true p448
   replace q448 := eq_true q448
   go_wp2
   repeat (go_quiet (fail); try go_wp2)
   go_loopg [5] k2 (fun kq v5 w' => ∃ (x5_3 : Int), v5 = .int .i64 x5_3 ∧ Aside0 (hallmootlaw13_once.l2 kq l0 x3_1 x4_2 x5_3 = some r) ∧ Aside0 (kq ≤ k2) ∧ Drawn0 w w')
   case atStart => exact ⟨(0), (by first | rfl | (simp; done) | (simp [*]; done)), H', ⟨Nat.le_refl _⟩, by repeat (first | exact Drawn0.refl _ | apply Drawn0.step)⟩
   case round =>
    clear H'
    try clear c2
    try clear c2b0
    try clear p2
    try clear c3
    try clear c3b0
    try clear c4
    try clear c4b0
    try clear p4
    try clear q4
    try clear hx4
    try clear c5
    try clear c5b0
    try clear hx448_0
    try clear hx448_1
    try clear hx448_2
    try clear p2
    try clear p448
    try clear q448
    obtain ⟨x5_3, rfl, HA, HK3, ⟨m3, rfl⟩⟩ := hrel
    cases gk with
    | zero => exact absurd HA.out (by simp [hallmootlaw13_once.l2])
    | succ k3 => {
    have H := HA.out
    clear HA
    simp only [hallmootlaw13_once.l2] at H
    by_cases c6 : x5_3 < x4_2
    {
    rw [if_pos c6] at H
    have c6b0 : decide (x5_3 < x4_2) = true := decide_eq_true c6
    clear c6
    by_cases c7 : 0 ≤ x3_1
    {
    rw [if_pos c7] at H
    have c7b0 : decide (0 ≤ x3_1) = true := decide_eq_true c7
    clear c7
    by_cases c8 : x3_1 < (l0.length : Int)
    {
    rw [if_pos c8] at H
    have c8b0 : decide (x3_1 < (l0.length : Int)) = true := decide_eq_true c8
    clear c8
    by_cases c9 : 0 ≤ x5_3
    {
    rw [if_pos c9] at H
    have c9b0 : decide (0 ≤ x5_3) = true := decide_eq_true c9
    clear c9
    by_cases c10 : x5_3 < (((rd_T62 l0 x3_1).f1).length : Int)
    {
    rw [if_pos c10] at H
    have c10b0 : decide (x5_3 < (((rd_T62 l0 x3_1).f1).length : Int)) = true := decide_eq_true c10
    clear c10
    by_cases c11 : 0 ≤ x4_2
    {
    rw [if_pos c11] at H
    have c11b0 : decide (0 ≤ x4_2) = true := decide_eq_true c11
    clear c11
    by_cases c12 : x4_2 < (((rd_T62 l0 x3_1).f1).length : Int)
    {
    rw [if_pos c12] at H
    have c12b0 : decide (x4_2 < (((rd_T62 l0 x3_1).f1).length : Int)) = true := decide_eq_true c12
    clear c12
    by_cases c13 : ((rd_T33 ((rd_T62 l0 x3_1).f1) x5_3).f0) = ((rd_T33 ((rd_T62 l0 x3_1).f1) x4_2).f0)
    {
    rw [if_pos c13] at H
    have c13b0 : (((rd_T33 ((rd_T62 l0 x3_1).f1) x5_3).f0) == ((rd_T33 ((rd_T62 l0 x3_1).f1) x4_2).f0)) = true := beq_iff_eq.mpr c13
    have c13b1 : (((rd_T33 ((rd_T62 l0 x3_1).f1) x5_3).f0) != ((rd_T33 ((rd_T62 l0 x3_1).f1) x4_2).f0)) = false := bne_eq_false_iff_eq.mpr c13
    clear c13
    obtain rfl := Option.some.inj H
    have p449 : 0 ≤ (x3_1 : Int) := of_decide_eq_true (by first | (with_reducible assumption) | assumption)
    have q449 : x3_1 < (l0.length : Int) := of_decide_eq_true (by first | (with_reducible assumption) | assumption)
    obtain ⟨ad449, A449_0, c449_0, A449_1, c449_1, A449_2, c449_2, e449, hx449_0, hx449_1, hx449_2, hl449_0, hi449_0, hl449_1, hi449_1, hl449_2, hi449_2⟩ := at_T62 HR0.out x3_1 p449 q449
    obtain rfl : ad448 = ad449 := (by injection e449)
    have HR449_0 := Aside0.mk hi449_0
    have HC449_0 := Aside0.mk hl449_0
    clear hi449_0 hl449_0
    have HR449_1 := Aside0.mk hi449_1
    have HC449_1 := Aside0.mk hl449_1
    clear hi449_1 hl449_1
    have HR449_2 := Aside0.mk hi449_2
    have HC449_2 := Aside0.mk hl449_2
    clear hi449_2 hl449_2
    replace p449 := eq_true p449
    replace q449 := eq_true q449
    have p450 : 0 ≤ (x5_3 : Int) := of_decide_eq_true (by first | (with_reducible assumption) | assumption)
    have q450 : x5_3 < (((rd_T62 l0 x3_1).f1).length : Int) := of_decide_eq_true (by first | (with_reducible assumption) | assumption)
    obtain ⟨ad450, e450, hx450_0, hx450_1⟩ := at_T33 HR449_1.out x5_3 p450 q450
    cases e450
    replace p450 := eq_true p450
    replace q450 := eq_true q450
    have p451 : 0 ≤ (x3_1 : Int) := of_decide_eq_true (by first | (with_reducible assumption) | assumption)
    have q451 : x3_1 < (l0.length : Int) := of_decide_eq_true (by first | (with_reducible assumption) | assumption)
    obtain ⟨ad451, A451_0, c451_0, A451_1, c451_1, A451_2, c451_2, e451, hx451_0, hx451_1, hx451_2, hl451_0, hi451_0, hl451_1, hi451_1, hl451_2, hi451_2⟩ := at_T62 HR0.out x3_1 p451 q451
    obtain rfl : ad448 = ad451 := (by injection e451)
    have HR451_0 := Aside0.mk hi451_0
    have HC451_0 := Aside0.mk hl451_0
    clear hi451_0 hl451_0
    have HR451_1 := Aside0.mk hi451_1
    have HC451_1 := Aside0.mk hl451_1
    clear hi451_1 hl451_1
    have HR451_2 := Aside0.mk hi451_2
    have HC451_2 := Aside0.mk hl451_2
    clear hi451_2 hl451_2
    replace p451 := eq_true p451
    replace q451 := eq_true q451
    have ea_ := Option.some.inj (hx449_0.symm.trans hx451_0)
    injection ea_ with ea_ en_ ec_
    subst ea_
    subst ec_
    clear en_
    have ea_ := Option.some.inj (hx449_1.symm.trans hx451_1)
    injection ea_ with ea_ en_ ec_
    subst ea_
    subst ec_
    clear en_
    have ea_ := Option.some.inj (hx449_2.symm.trans hx451_2)
    injection ea_ with ea_ en_ ec_
    subst ea_
    subst ec_
    clear en_
    have p452 : 0 ≤ (x4_2 : Int) := of_decide_eq_true (by first | (with_reducible assumption) | assumption)
    have q452 : x4_2 < (((rd_T62 l0 x3_1).f1).length : Int) := of_decide_eq_true (by first | (with_reducible assumption) | assumption)
    obtain ⟨ad452, e452, hx452_0, hx452_1⟩ := at_T33 HR451_1.out x4_2 p452 q452
    cases e452
    replace p452 := eq_true p452
    replace q452 := eq_true q452
    go_wp2
    repeat (go_quiet (fail); try go_wp2)
    go_ret
    exact ⟨by first | rfl | (simp; done) | (simp [*]; done), by repeat (first | exact Drawn0.refl _ | apply Drawn0.step)⟩ }
    {
    rw [if_neg c13] at H
    have c13b0 : (((rd_T33 ((rd_T62 l0 x3_1).f1) x5_3).f0) == ((rd_T33 ((rd_T62 l0 x3_1).f1) x4_2).f0)) = false := beq_eq_false_iff_ne.mpr c13
    have c13b1 : (((rd_T33 ((rd_T62 l0 x3_1).f1) x5_3).f0) != ((rd_T33 ((rd_T62 l0 x3_1).f1) x4_2).f0)) = true := bne_iff_ne.mpr c13
    have H' := Aside0.mk H
    clear H
    have p449 : 0 ≤ (x3_1 : Int) := of_decide_eq_true (by first | (with_reducible assumption) | assumption)
    have q449 : x3_1 < (l0.length : Int) := of_decide_eq_true (by first | (with_reducible assumption) | assumption)
    obtain ⟨ad449, A449_0, c449_0, A449_1, c449_1, A449_2, c449_2, e449, hx449_0, hx449_1, hx449_2, hl449_0, hi449_0, hl449_1, hi449_1, hl449_2, hi449_2⟩ := at_T62 HR0.out x3_1 p449 q449
    obtain rfl : ad448 = ad449 := (by injection e449)
    have HR449_0 := Aside0.mk hi449_0
    have HC449_0 := Aside0.mk hl449_0
    clear hi449_0 hl449_0
    have HR449_1 := Aside0.mk hi449_1
    have HC449_1 := Aside0.mk hl449_1
    clear hi449_1 hl449_1
    have HR449_2 := Aside0.mk hi449_2
    have HC449_2 := Aside0.mk hl449_2
    clear hi449_2 hl449_2
    replace p449 := eq_true p449
    replace q449 := eq_true q449
    have p450 : 0 ≤ (x5_3 : Int) := of_decide_eq_true (by first | (with_reducible assumption) | assumption)
    have q450 : x5_3 < (((rd_T62 l0 x3_1).f1).length : Int) := of_decide_eq_true (by first | (with_reducible assumption) | assumption)
    obtain ⟨ad450, e450, hx450_0, hx450_1⟩ := at_T33 HR449_1.out x5_3 p450 q450
    cases e450
    replace p450 := eq_true p450
    replace q450 := eq_true q450
    have p451 : 0 ≤ (x3_1 : Int) := of_decide_eq_true (by first | (with_reducible assumption) | assumption)
    have q451 : x3_1 < (l0.length : Int) := of_decide_eq_true (by first | (with_reducible assumption) | assumption)
    obtain ⟨ad451, A451_0, c451_0, A451_1, c451_1, A451_2, c451_2, e451, hx451_0, hx451_1, hx451_2, hl451_0, hi451_0, hl451_1, hi451_1, hl451_2, hi451_2⟩ := at_T62 HR0.out x3_1 p451 q451
    obtain rfl : ad448 = ad451 := (by injection e451)
    have HR451_0 := Aside0.mk hi451_0
    have HC451_0 := Aside0.mk hl451_0
    clear hi451_0 hl451_0
    have HR451_1 := Aside0.mk hi451_1
    have HC451_1 := Aside0.mk hl451_1
    clear hi451_1 hl451_1
    have HR451_2 := Aside0.mk hi451_2
    have HC451_2 := Aside0.mk hl451_2
    clear hi451_2 hl451_2
    replace p451 := eq_true p451
    replace q451 := eq_true q451
    have ea_ := Option.some.inj (hx449_0.symm.trans hx451_0)
    injection ea_ with ea_ en_ ec_
    subst ea_
    subst ec_
    clear en_
    have ea_ := Option.some.inj (hx449_1.symm.trans hx451_1)
    injection ea_ with ea_ en_ ec_
    subst ea_
    subst ec_
    clear en_
    have ea_ := Option.some.inj (hx449_2.symm.trans hx451_2)
    injection ea_ with ea_ en_ ec_
    subst ea_
    subst ec_
    clear en_
    have p452 : 0 ≤ (x4_2 : Int) := of_decide_eq_true (by first | (with_reducible assumption) | assumption)
    have q452 : x4_2 < (((rd_T62 l0 x3_1).f1).length : Int) := of_decide_eq_true (by first | (with_reducible assumption) | assumption)
    obtain ⟨ad452, e452, hx452_0, hx452_1⟩ := at_T33 HR451_1.out x4_2 p452 q452
    cases e452
    replace p452 := eq_true p452
    replace q452 := eq_true q452
    go_wp2
    repeat (go_quiet (fail); try go_wp2)
    go_roundg k3
    case measure => have := HK1.out; have := HK2.out; have := HK3.out; omega
    case rel => exact ⟨(wrap64 (x5_3 + 1)), (by first | rfl | (simp; done) | (simp [*]; done)), H', ⟨by have := HK1.out; have := HK2.out; have := HK3.out; omega⟩, by repeat (first | exact Drawn0.refl _ | apply Drawn0.step)⟩ } }
    {
    rw [if_neg c12] at H
    exact absurd H (by simp) } }
    {
    rw [if_neg c11] at H
    exact absurd H (by simp) } }
    {
    rw [if_neg c10] at H
    exact absurd H (by simp) } }
    {
    rw [if_neg c9] at H
    exact absurd H (by simp) } }
    {
    rw [if_neg c8] at H
    exact absurd H (by simp) } }
    {
    rw [if_neg c7] at H
    exact absurd H (by simp) } }
    {
    rw [if_neg c6] at H
    have c6b0 : decide (x5_3 < x4_2) = false := decide_eq_false c6
    clear c6
    have H' := Aside0.mk H
    clear H
    go_wp2
    repeat (go_quiet (fail); try go_wp2)
    go_roundg k3
    case measure => have := HK1.out; have := HK2.out; have := HK3.out; omega
    case rel => exact ⟨(wrap64 (x4_2 + 1)), (by first | rfl | (simp; done) | (simp [*]; done)), H', ⟨by have := HK1.out; have := HK2.out; have := HK3.out; omega⟩, by repeat (first | exact Drawn0.refl _ | apply Drawn0.step)⟩ } } }
   {
   rw [if_neg c5] at H
   have c5b0 : decide (x4_2 < (((rd_T62 l0 x3_1).f1).length : Int)) = false := decide_eq_false c5
   clear c5
   have H' := Aside0.mk H
   clear H
   have p448 : 0 ≤ (x3_1 : Int) := of_decide_eq_true (by first | (with_reducible assumption) | assumption)
   have q448 : x3_1 < (l0.length : Int) := of_decide_eq_true (by first | (with_reducible assumption) | assumption)
   obtain ⟨ad448, A448_0, c448_0, A448_1, c448_1, A448_2, c448_2, e448, hx448_0, hx448_1, hx448_2, hl448_0, hi448_0, hl448_1, hi448_1, hl448_2, hi448_2⟩ := at_T62 HR0.out x3_1 p448 q448
   cases e448
   have HR448_0 := Aside0.mk hi448_0
   have HC448_0 := Aside0.mk hl448_0
   clear hi448_0 hl448_0
   have HR448_1 := Aside0.mk hi448_1
   have HC448_1 := Aside0.mk hl448_1
   clear hi448_1 hl448_1
   have HR448_2 := Aside0.mk hi448_2
   have HC448_2 := Aside0.mk hl448_2
   clear hi448_2 hl448_2
   replace p448 := eq_true p448
   replace q448 := eq_true q448
   go_wp2
   repeat (go_quiet (fail); try go_wp2)
   go_roundg k2
   case measure => have := HK1.out; have := HK2.out; omega
   case rel => exact ⟨(wrap64 (x3_1 + 1)), (by first | rfl | (simp; done) | (simp [*]; done)), H', ⟨by have := HK1.out; have := HK2.out; omega⟩, by repeat (first | exact Drawn0.refl _ | apply Drawn0.step)⟩ } }
   {
   rw [if_neg c4] at H
   exact absurd H (by simp) } }
   {
   rw [if_neg c3] at H
   exact absurd H (by simp) } } }
  {
  rw [if_neg c2] at H
  have c2b0 : decide (x3_1 < (l0.length : Int)) = false := decide_eq_false c2
  clear c2
  obtain rfl := Option.some.inj H
  go_wp2
  repeat (go_quiet (fail); try go_wp2)
  go_ret
  exact ⟨by first | rfl | (simp; done) | (simp [*]; done), by repeat (first | exact Drawn0.refl _ | apply Drawn0.step)⟩ } }

end Go.Proofs.Ytfojpobblebigaa.P
