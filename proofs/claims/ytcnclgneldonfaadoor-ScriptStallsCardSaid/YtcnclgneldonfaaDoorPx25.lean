-- Written by pp.py (this session's program over the kit's printer): functions, contracts. Not trusted: Lean checks it.
import Derived.Test.YtcnclgneldonfaaDoorPx0
import Derived.Test.YtcnclgneldonfaaDoorYZ
namespace Go.Proofs.YtcnclgneldonfaaDoor.P
open Go.RowKit Go.Proofs.YtcnclgneldonfaaDoorW.PrintWords Go.Proofs.YtcnclgneldonfaaDoorW.PrintLast Go.Proofs.YtcnclgneldonfaaDoorW.PrintMore
attribute [local go_sem] max2_int min2_int max_two min_two max_three min_three max_four min_four   -- for this text's walks alone
set_option linter.unusedVariables false
set_option linter.unusedSimpArgs false

/-! ### hallmootref27_Same: function 11 -/
mutual
def hallmootref27_Same.l0 : Nat → List (S26) → List (S26) → Int → Option (Bool)
  | 0, _, _, _ => none
  | k + 1, x0, x1, x5 => if x5 < (x0.length : Int) then (if 0 ≤ x5 then (if x5 < (x1.length : Int) then (if ((rd_T26 x0 x5).f0) = ((rd_T26 x1 x5).f0) then (if ((rd_T26 x0 x5).f1) = ((rd_T26 x1 x5).f1) then (if ((rd_T26 x0 x5).f2) = ((rd_T26 x1 x5).f2) then (hallmootref27_Same.j1 k x0 x1 x5 ((((rd_T26 x0 x5).f3).length : Int) != (((rd_T26 x1 x5).f3).length : Int))) else (hallmootref27_Same.j1 k x0 x1 x5 true)) else (hallmootref27_Same.j1 k x0 x1 x5 true)) else (hallmootref27_Same.j1 k x0 x1 x5 true)) else (none)) else (none)) else (some true)
def hallmootref27_Same.j1 : Nat → List (S26) → List (S26) → Int → Bool → Option (Bool)
  | 0, _, _, _, _ => none
  | k + 1, x0, x1, x5, x69 => if x69 = true then (some false) else (hallmootref27_Same.l1 k x0 x1 x5 0)
def hallmootref27_Same.l1 : Nat → List (S26) → List (S26) → Int → Int → Option (Bool)
  | 0, _, _, _, _ => none
  | k + 1, x0, x1, x5, x6 => if 0 ≤ x5 then (if x5 < (x0.length : Int) then (if x6 < (((rd_T26 x0 x5).f3).length : Int) then (if 0 ≤ x6 then (if x5 < (x1.length : Int) then (if x6 < (((rd_T26 x1 x5).f3).length : Int) then (if (rd ((rd_T26 x0 x5).f3) x6) = (rd ((rd_T26 x1 x5).f3) x6) then (hallmootref27_Same.l1 k x0 x1 x5 (wrap64 (x6 + 1))) else (some false)) else (none)) else (none)) else (none)) else (hallmootref27_Same.l0 k x0 x1 (wrap64 (x5 + 1)))) else (none)) else (none)
end
def hallmootref27_Same.f (k : Nat) (l0 : List (S26)) (l1 : List (S26)) : Option (Bool) := if (l0.length : Int) = (l1.length : Int) then (hallmootref27_Same.l0 k l0 l1 0) else (some false)
theorem hallmootref27_Same.mono_l : ∀ k, (∀ y0 y1 y2, LeO (hallmootref27_Same.l0 k y0 y1 y2) (hallmootref27_Same.l0 (k + 1) y0 y1 y2)) ∧ (∀ y0 y1 y2 y3, LeO (hallmootref27_Same.j1 k y0 y1 y2 y3) (hallmootref27_Same.j1 (k + 1) y0 y1 y2 y3)) ∧ (∀ y0 y1 y2 y3, LeO (hallmootref27_Same.l1 k y0 y1 y2 y3) (hallmootref27_Same.l1 (k + 1) y0 y1 y2 y3))
  | 0 => ⟨fun _ _ _ r h => by simp [hallmootref27_Same.l0] at h, fun _ _ _ _ r h => by simp [hallmootref27_Same.j1] at h, fun _ _ _ _ r h => by simp [hallmootref27_Same.l1] at h⟩
  | k + 1 => by
    obtain ⟨ih0, ih1, ih2⟩ := hallmootref27_Same.mono_l k
    refine ⟨?_, ?_, ?_⟩
    · intro y0 y1 y2
      unfold hallmootref27_Same.l0
      repeat' first
      | (with_reducible exact ih0 _ _ _)
      | (with_reducible exact ih1 _ _ _ _)
      | (with_reducible exact ih2 _ _ _ _)
      | (with_reducible exact LeO.refl _)
      | (with_reducible exact LeO.none _)
      | (with_reducible refine LeO.ite ?_ ?_)
      | (with_reducible refine LeO.bind ?_ (fun _ => ?_))
      | exact ih0 _ _ _
      | exact ih1 _ _ _ _
      | exact ih2 _ _ _ _
      | exact LeO.none _
      | refine LeO.ite ?_ ?_
      | refine LeO.bind ?_ (fun _ => ?_)
    · intro y0 y1 y2 y3
      unfold hallmootref27_Same.j1
      repeat' first
      | (with_reducible exact ih0 _ _ _)
      | (with_reducible exact ih1 _ _ _ _)
      | (with_reducible exact ih2 _ _ _ _)
      | (with_reducible exact LeO.refl _)
      | (with_reducible exact LeO.none _)
      | (with_reducible refine LeO.ite ?_ ?_)
      | (with_reducible refine LeO.bind ?_ (fun _ => ?_))
      | exact ih0 _ _ _
      | exact ih1 _ _ _ _
      | exact ih2 _ _ _ _
      | exact LeO.none _
      | refine LeO.ite ?_ ?_
      | refine LeO.bind ?_ (fun _ => ?_)
    · intro y0 y1 y2 y3
      unfold hallmootref27_Same.l1
      repeat' first
      | (with_reducible exact ih0 _ _ _)
      | (with_reducible exact ih1 _ _ _ _)
      | (with_reducible exact ih2 _ _ _ _)
      | (with_reducible exact LeO.refl _)
      | (with_reducible exact LeO.none _)
      | (with_reducible refine LeO.ite ?_ ?_)
      | (with_reducible refine LeO.bind ?_ (fun _ => ?_))
      | exact ih0 _ _ _
      | exact ih1 _ _ _ _
      | exact ih2 _ _ _ _
      | exact LeO.none _
      | refine LeO.ite ?_ ?_
      | refine LeO.bind ?_ (fun _ => ?_)
theorem hallmootref27_Same.mono : ∀ a0 a1 k, LeO (hallmootref27_Same.f k a0 a1) (hallmootref27_Same.f (k + 1) a0 a1) := by
 intro a0 a1 k
 obtain ⟨ih0, ih1, ih2⟩ := hallmootref27_Same.mono_l k
 unfold hallmootref27_Same.f
 repeat' first | (with_reducible exact ih0 _ _ _) | (with_reducible exact ih1 _ _ _ _) | (with_reducible exact ih2 _ _ _ _) | (with_reducible exact LeO.refl _) | (with_reducible exact LeO.none _) | (with_reducible refine LeO.ite ?_ ?_) | (with_reducible refine LeO.bind ?_ (fun _ => ?_)) | exact ih0 _ _ _ | exact ih1 _ _ _ _ | exact ih2 _ _ _ _ | exact LeO.none _ | refine LeO.ite ?_ ?_ | refine LeO.bind ?_ (fun _ => ?_)
set_option maxHeartbeats 8000000 in
set_option maxRecDepth 100000 in
theorem hallmootref27_Same.calls (k : Nat) (A0 : Option Addr) (c0 : Nat) (l0 : List (S26)) (A1 : Option Addr) (c1 : Nat) (l1 : List (S26)) (r : Bool) (w : World) (hr0 : Kd.C k26 w A0 l0.length l0) (hc0 : l0.length ≤ c0) (hr1 : Kd.C k26 w A1 l1.length l1) (hc1 : l1.length ≤ c1) (h : hallmootref27_Same.f k l0 l1 = some r) : Calls Tryd.prog 11 #[.slice A0 l0.length c0, .slice A1 l1.length c1] w fun e w' => e = .returned (.bool r) ∧ Drawn0 w w' := by
 have HR0 := aS hr0
 have HC0 := aS hc0
 clear hr0 hc0
 have HR1 := aS hr1
 have HC1 := aS hc1
 clear hr1 hc1
 have H : (if (l0.length : Int) = (l1.length : Int) then (hallmootref27_Same.l0 k l0 l1 0) else (some false)) = some r := h
 clear h
 by_cases c3 : (l0.length : Int) = (l1.length : Int)
 {
 rw [if_pos c3] at H
 have c3b0 : ((l0.length : Int) == (l1.length : Int)) = true := beq_iff_eq.mpr c3
 have c3b1 : ((l0.length : Int) != (l1.length : Int)) = false := bne_eq_false_iff_eq.mpr c3
 have c3b2 : (l0.length == l1.length) = true := by first | simpa using c3 | (simp at c3 ⊢; omega)
 clear c3
 have H' := aS H
 clear H
 go_enter Tryd.func11, Tryd.ntmps11
 go_wp2
 repeat (go_quiet (fail); try go_wp2)
 go_loopg [5] k (fun kq v5 w' => ∃ (x5_1 : Int), v5 = .int .i64 x5_1 ∧ Aside0 (hallmootref27_Same.l0 kq l0 l1 x5_1 = some r) ∧ Aside0 (kq ≤ k) ∧ Drawn0 w w')
 case atStart => exact ⟨(0), (by first | rfl | (simp; done) | (simp [*]; done)), H', ⟨Nat.le_refl _⟩, by repeat (first | exact Drawn0.refl _ | apply Drawn0.step)⟩
 case round =>
  clear H'
  try clear c1
  try clear p2
  try clear c3
  try clear c3b0
  try clear c3b1
  try clear c3b2
  obtain ⟨x5_1, rfl, HA, HK1, ⟨m1, rfl⟩⟩ := hrel
  cases gk with
  | zero => exact absurd HA.out (by simp [hallmootref27_Same.l0])
  | succ k1 => {
  have H := HA.out
  clear HA
  simp only [hallmootref27_Same.l0] at H
  by_cases c4 : x5_1 < (l0.length : Int)
  {
  rw [if_pos c4] at H
  have c4b0 : decide (x5_1 < (l0.length : Int)) = true := decide_eq_true c4
  clear c4
  have HC5 := aS H
  clear H
  go_upto_region 6 with (fail)
  repeat (go_quiet (fail); go_upto_region 6 with (fail))
  go_cut [69] (fun v69 wc => ∃ (kq : Nat) (x69_4 : Bool), v69 = .bool x69_4 ∧ Aside0 (hallmootref27_Same.j1 kq l0 l1 x5_1 x69_4 = some r) ∧ Aside0 (kq ≤ k1) ∧ Drawn0 w wc)
  case first =>
   have H := HC5.out
   clear HC5
   by_cases c6 : 0 ≤ x5_1
   {
   rw [if_pos c6] at H
   have c6b0 : decide (0 ≤ x5_1) = true := decide_eq_true c6
   clear c6
   (first | rw [c6b0] | (simp only [i64_w, i32_w]; rw [c6b0]) | skip)
   by_cases c7 : x5_1 < (l1.length : Int)
   {
   rw [if_pos c7] at H
   have c7b0 : decide (x5_1 < (l1.length : Int)) = true := decide_eq_true c7
   clear c7
   by_cases c8 : ((rd_T26 l0 x5_1).f0) = ((rd_T26 l1 x5_1).f0)
   {
   rw [if_pos c8] at H
   have c8b0 : (((rd_T26 l0 x5_1).f0) == ((rd_T26 l1 x5_1).f0)) = true := beq_iff_eq.mpr c8
   have c8b1 : (((rd_T26 l0 x5_1).f0) != ((rd_T26 l1 x5_1).f0)) = false := bne_eq_false_iff_eq.mpr c8
   clear c8
   by_cases c9 : ((rd_T26 l0 x5_1).f1) = ((rd_T26 l1 x5_1).f1)
   {
   rw [if_pos c9] at H
   have c9b0 : (((rd_T26 l0 x5_1).f1) == ((rd_T26 l1 x5_1).f1)) = true := beq_iff_eq.mpr c9
   have c9b1 : (((rd_T26 l0 x5_1).f1) != ((rd_T26 l1 x5_1).f1)) = false := bne_eq_false_iff_eq.mpr c9
   clear c9
   by_cases c10 : ((rd_T26 l0 x5_1).f2) = ((rd_T26 l1 x5_1).f2)
   {
   rw [if_pos c10] at H
   have c10b0 : (((rd_T26 l0 x5_1).f2) == ((rd_T26 l1 x5_1).f2)) = true := beq_iff_eq.mpr c10
   have c10b1 : (((rd_T26 l0 x5_1).f2) != ((rd_T26 l1 x5_1).f2)) = false := bne_eq_false_iff_eq.mpr c10
   clear c10
   have H' := aS H
   clear H
   have p153 : 0 ≤ (x5_1 : Int) := dd
   have q153 : x5_1 < (l0.length : Int) := dd
   obtain ⟨ad153, A153_3, c153_3, e153, hx153_0, hx153_1, hx153_2, hx153_3, hl153_3, hi153_3⟩ := at_T26 HR0.out x5_1 p153 q153
   cases e153
   have HR153_3 := aS hi153_3
   have HC153_3 := aS hl153_3
   clear hi153_3 hl153_3
   replace p153 := eq_true p153
   replace q153 := eq_true q153
   have p154 : 0 ≤ (x5_1 : Int) := dd
   have q154 : x5_1 < (l1.length : Int) := dd
   obtain ⟨ad154, A154_3, c154_3, e154, hx154_0, hx154_1, hx154_2, hx154_3, hl154_3, hi154_3⟩ := at_T26 HR1.out x5_1 p154 q154
   cases e154
   have HR154_3 := aS hi154_3
   have HC154_3 := aS hl154_3
   clear hi154_3 hl154_3
   replace p154 := eq_true p154
   replace q154 := eq_true q154
   have p155 : 0 ≤ (x5_1 : Int) := dd
   have q155 : x5_1 < (l0.length : Int) := dd
   obtain ⟨ad155, A155_3, c155_3, e155, hx155_0, hx155_1, hx155_2, hx155_3, hl155_3, hi155_3⟩ := at_T26 HR0.out x5_1 p155 q155
   obtain rfl : ad153 = ad155 := (by injection e155)
   have HR155_3 := aS hi155_3
   have HC155_3 := aS hl155_3
   clear hi155_3 hl155_3
   replace p155 := eq_true p155
   replace q155 := eq_true q155
   have ea_ := Option.some.inj (hx153_3.symm.trans hx155_3)
   injection ea_ with ea_ en_ ec_
   subst ea_
   subst ec_
   clear en_
   have p156 : 0 ≤ (x5_1 : Int) := dd
   have q156 : x5_1 < (l1.length : Int) := dd
   obtain ⟨ad156, A156_3, c156_3, e156, hx156_0, hx156_1, hx156_2, hx156_3, hl156_3, hi156_3⟩ := at_T26 HR1.out x5_1 p156 q156
   obtain rfl : ad154 = ad156 := (by injection e156)
   have HR156_3 := aS hi156_3
   have HC156_3 := aS hl156_3
   clear hi156_3 hl156_3
   replace p156 := eq_true p156
   replace q156 := eq_true q156
   have ea_ := Option.some.inj (hx154_3.symm.trans hx156_3)
   injection ea_ with ea_ en_ ec_
   subst ea_
   subst ec_
   clear en_
   have p157 : 0 ≤ (x5_1 : Int) := dd
   have q157 : x5_1 < (l0.length : Int) := dd
   obtain ⟨ad157, A157_3, c157_3, e157, hx157_0, hx157_1, hx157_2, hx157_3, hl157_3, hi157_3⟩ := at_T26 HR0.out x5_1 p157 q157
   obtain rfl : ad153 = ad157 := (by injection e157)
   have HR157_3 := aS hi157_3
   have HC157_3 := aS hl157_3
   clear hi157_3 hl157_3
   replace p157 := eq_true p157
   replace q157 := eq_true q157
   have ea_ := Option.some.inj (hx153_3.symm.trans hx157_3)
   injection ea_ with ea_ en_ ec_
   subst ea_
   subst ec_
   clear en_
   have p158 : 0 ≤ (x5_1 : Int) := dd
   have q158 : x5_1 < (l1.length : Int) := dd
   obtain ⟨ad158, A158_3, c158_3, e158, hx158_0, hx158_1, hx158_2, hx158_3, hl158_3, hi158_3⟩ := at_T26 HR1.out x5_1 p158 q158
   obtain rfl : ad154 = ad158 := (by injection e158)
   have HR158_3 := aS hi158_3
   have HC158_3 := aS hl158_3
   clear hi158_3 hl158_3
   replace p158 := eq_true p158
   replace q158 := eq_true q158
   have ea_ := Option.some.inj (hx154_3.symm.trans hx158_3)
   injection ea_ with ea_ en_ ec_
   subst ea_
   subst ec_
   clear en_
   have p159 : 0 ≤ (x5_1 : Int) := dd
   have q159 : x5_1 < (l0.length : Int) := dd
   obtain ⟨ad159, A159_3, c159_3, e159, hx159_0, hx159_1, hx159_2, hx159_3, hl159_3, hi159_3⟩ := at_T26 HR0.out x5_1 p159 q159
   obtain rfl : ad153 = ad159 := (by injection e159)
   have HR159_3 := aS hi159_3
   have HC159_3 := aS hl159_3
   clear hi159_3 hl159_3
   replace p159 := eq_true p159
   replace q159 := eq_true q159
   have ea_ := Option.some.inj (hx153_3.symm.trans hx159_3)
   injection ea_ with ea_ en_ ec_
   subst ea_
   subst ec_
   clear en_
   have p160 : 0 ≤ (x5_1 : Int) := dd
   have q160 : x5_1 < (l1.length : Int) := dd
   obtain ⟨ad160, A160_3, c160_3, e160, hx160_0, hx160_1, hx160_2, hx160_3, hl160_3, hi160_3⟩ := at_T26 HR1.out x5_1 p160 q160
   obtain rfl : ad154 = ad160 := (by injection e160)
   have HR160_3 := aS hi160_3
   have HC160_3 := aS hl160_3
   clear hi160_3 hl160_3
   replace p160 := eq_true p160
   replace q160 := eq_true q160
   have ea_ := Option.some.inj (hx154_3.symm.trans hx160_3)
   injection ea_ with ea_ en_ ec_
   subst ea_
   subst ec_
   clear en_
   go_wp2
   repeat (go_quiet (fail); try go_wp2)
   go_meet
   case rel => exact ⟨_, (((((rd_T26 l0 x5_1).f3).length : Int) != (((rd_T26 l1 x5_1).f3).length : Int))), (by first | rfl | (simp; done) | (simp [*]; done)), H', ⟨by have := HK1.out; first | omega | exact Nat.le_refl _⟩, by repeat (first | exact Drawn0.refl _ | apply Drawn0.step)⟩ }
   {
   rw [if_neg c10] at H
   have c10b0 : (((rd_T26 l0 x5_1).f2) == ((rd_T26 l1 x5_1).f2)) = false := beq_eq_false_iff_ne.mpr c10
   have c10b1 : (((rd_T26 l0 x5_1).f2) != ((rd_T26 l1 x5_1).f2)) = true := bne_iff_ne.mpr c10
   have H' := aS H
   clear H
   have p153 : 0 ≤ (x5_1 : Int) := dd
   have q153 : x5_1 < (l0.length : Int) := dd
   obtain ⟨ad153, A153_3, c153_3, e153, hx153_0, hx153_1, hx153_2, hx153_3, hl153_3, hi153_3⟩ := at_T26 HR0.out x5_1 p153 q153
   cases e153
   have HR153_3 := aS hi153_3
   have HC153_3 := aS hl153_3
   clear hi153_3 hl153_3
   replace p153 := eq_true p153
   replace q153 := eq_true q153
   have p154 : 0 ≤ (x5_1 : Int) := dd
   have q154 : x5_1 < (l1.length : Int) := dd
   obtain ⟨ad154, A154_3, c154_3, e154, hx154_0, hx154_1, hx154_2, hx154_3, hl154_3, hi154_3⟩ := at_T26 HR1.out x5_1 p154 q154
   cases e154
   have HR154_3 := aS hi154_3
   have HC154_3 := aS hl154_3
   clear hi154_3 hl154_3
   replace p154 := eq_true p154
   replace q154 := eq_true q154
   have p155 : 0 ≤ (x5_1 : Int) := dd
   have q155 : x5_1 < (l0.length : Int) := dd
   obtain ⟨ad155, A155_3, c155_3, e155, hx155_0, hx155_1, hx155_2, hx155_3, hl155_3, hi155_3⟩ := at_T26 HR0.out x5_1 p155 q155
   obtain rfl : ad153 = ad155 := (by injection e155)
   have HR155_3 := aS hi155_3
   have HC155_3 := aS hl155_3
   clear hi155_3 hl155_3
   replace p155 := eq_true p155
   replace q155 := eq_true q155
   have ea_ := Option.some.inj (hx153_3.symm.trans hx155_3)
   injection ea_ with ea_ en_ ec_
   subst ea_
   subst ec_
   clear en_
   have p156 : 0 ≤ (x5_1 : Int) := dd
   have q156 : x5_1 < (l1.length : Int) := dd
   obtain ⟨ad156, A156_3, c156_3, e156, hx156_0, hx156_1, hx156_2, hx156_3, hl156_3, hi156_3⟩ := at_T26 HR1.out x5_1 p156 q156
   obtain rfl : ad154 = ad156 := (by injection e156)
   have HR156_3 := aS hi156_3
   have HC156_3 := aS hl156_3
   clear hi156_3 hl156_3
   replace p156 := eq_true p156
   replace q156 := eq_true q156
   have ea_ := Option.some.inj (hx154_3.symm.trans hx156_3)
   injection ea_ with ea_ en_ ec_
   subst ea_
   subst ec_
   clear en_
   have p157 : 0 ≤ (x5_1 : Int) := dd
   have q157 : x5_1 < (l0.length : Int) := dd
   obtain ⟨ad157, A157_3, c157_3, e157, hx157_0, hx157_1, hx157_2, hx157_3, hl157_3, hi157_3⟩ := at_T26 HR0.out x5_1 p157 q157
   obtain rfl : ad153 = ad157 := (by injection e157)
   have HR157_3 := aS hi157_3
   have HC157_3 := aS hl157_3
   clear hi157_3 hl157_3
   replace p157 := eq_true p157
   replace q157 := eq_true q157
   have ea_ := Option.some.inj (hx153_3.symm.trans hx157_3)
   injection ea_ with ea_ en_ ec_
   subst ea_
   subst ec_
   clear en_
   have p158 : 0 ≤ (x5_1 : Int) := dd
   have q158 : x5_1 < (l1.length : Int) := dd
   obtain ⟨ad158, A158_3, c158_3, e158, hx158_0, hx158_1, hx158_2, hx158_3, hl158_3, hi158_3⟩ := at_T26 HR1.out x5_1 p158 q158
   obtain rfl : ad154 = ad158 := (by injection e158)
   have HR158_3 := aS hi158_3
   have HC158_3 := aS hl158_3
   clear hi158_3 hl158_3
   replace p158 := eq_true p158
   replace q158 := eq_true q158
   have ea_ := Option.some.inj (hx154_3.symm.trans hx158_3)
   injection ea_ with ea_ en_ ec_
   subst ea_
   subst ec_
   clear en_
   go_wp2
   repeat (go_quiet (fail); try go_wp2)
   go_meet
   case rel => exact ⟨_, (true), (by first | rfl | (simp; done) | (simp [*]; done)), H', ⟨by have := HK1.out; first | omega | exact Nat.le_refl _⟩, by repeat (first | exact Drawn0.refl _ | apply Drawn0.step)⟩ } }
   {
   rw [if_neg c9] at H
   have c9b0 : (((rd_T26 l0 x5_1).f1) == ((rd_T26 l1 x5_1).f1)) = false := beq_eq_false_iff_ne.mpr c9
   have c9b1 : (((rd_T26 l0 x5_1).f1) != ((rd_T26 l1 x5_1).f1)) = true := bne_iff_ne.mpr c9
   have H' := aS H
   clear H
   have p153 : 0 ≤ (x5_1 : Int) := dd
   have q153 : x5_1 < (l0.length : Int) := dd
   obtain ⟨ad153, A153_3, c153_3, e153, hx153_0, hx153_1, hx153_2, hx153_3, hl153_3, hi153_3⟩ := at_T26 HR0.out x5_1 p153 q153
   cases e153
   have HR153_3 := aS hi153_3
   have HC153_3 := aS hl153_3
   clear hi153_3 hl153_3
   replace p153 := eq_true p153
   replace q153 := eq_true q153
   have p154 : 0 ≤ (x5_1 : Int) := dd
   have q154 : x5_1 < (l1.length : Int) := dd
   obtain ⟨ad154, A154_3, c154_3, e154, hx154_0, hx154_1, hx154_2, hx154_3, hl154_3, hi154_3⟩ := at_T26 HR1.out x5_1 p154 q154
   cases e154
   have HR154_3 := aS hi154_3
   have HC154_3 := aS hl154_3
   clear hi154_3 hl154_3
   replace p154 := eq_true p154
   replace q154 := eq_true q154
   have p155 : 0 ≤ (x5_1 : Int) := dd
   have q155 : x5_1 < (l0.length : Int) := dd
   obtain ⟨ad155, A155_3, c155_3, e155, hx155_0, hx155_1, hx155_2, hx155_3, hl155_3, hi155_3⟩ := at_T26 HR0.out x5_1 p155 q155
   obtain rfl : ad153 = ad155 := (by injection e155)
   have HR155_3 := aS hi155_3
   have HC155_3 := aS hl155_3
   clear hi155_3 hl155_3
   replace p155 := eq_true p155
   replace q155 := eq_true q155
   have ea_ := Option.some.inj (hx153_3.symm.trans hx155_3)
   injection ea_ with ea_ en_ ec_
   subst ea_
   subst ec_
   clear en_
   have p156 : 0 ≤ (x5_1 : Int) := dd
   have q156 : x5_1 < (l1.length : Int) := dd
   obtain ⟨ad156, A156_3, c156_3, e156, hx156_0, hx156_1, hx156_2, hx156_3, hl156_3, hi156_3⟩ := at_T26 HR1.out x5_1 p156 q156
   obtain rfl : ad154 = ad156 := (by injection e156)
   have HR156_3 := aS hi156_3
   have HC156_3 := aS hl156_3
   clear hi156_3 hl156_3
   replace p156 := eq_true p156
   replace q156 := eq_true q156
   have ea_ := Option.some.inj (hx154_3.symm.trans hx156_3)
   injection ea_ with ea_ en_ ec_
   subst ea_
   subst ec_
   clear en_
   go_wp2
   repeat (go_quiet (fail); try go_wp2)
   go_meet
   case rel => exact ⟨_, (true), (by first | rfl | (simp; done) | (simp [*]; done)), H', ⟨by have := HK1.out; first | omega | exact Nat.le_refl _⟩, by repeat (first | exact Drawn0.refl _ | apply Drawn0.step)⟩ } }
   {
   rw [if_neg c8] at H
   have c8b0 : (((rd_T26 l0 x5_1).f0) == ((rd_T26 l1 x5_1).f0)) = false := beq_eq_false_iff_ne.mpr c8
   have c8b1 : (((rd_T26 l0 x5_1).f0) != ((rd_T26 l1 x5_1).f0)) = true := bne_iff_ne.mpr c8
   have H' := aS H
   clear H
   have p153 : 0 ≤ (x5_1 : Int) := dd
   have q153 : x5_1 < (l0.length : Int) := dd
   obtain ⟨ad153, A153_3, c153_3, e153, hx153_0, hx153_1, hx153_2, hx153_3, hl153_3, hi153_3⟩ := at_T26 HR0.out x5_1 p153 q153
   cases e153
   have HR153_3 := aS hi153_3
   have HC153_3 := aS hl153_3
   clear hi153_3 hl153_3
   replace p153 := eq_true p153
   replace q153 := eq_true q153
   have p154 : 0 ≤ (x5_1 : Int) := dd
   have q154 : x5_1 < (l1.length : Int) := dd
   obtain ⟨ad154, A154_3, c154_3, e154, hx154_0, hx154_1, hx154_2, hx154_3, hl154_3, hi154_3⟩ := at_T26 HR1.out x5_1 p154 q154
   cases e154
   have HR154_3 := aS hi154_3
   have HC154_3 := aS hl154_3
   clear hi154_3 hl154_3
   replace p154 := eq_true p154
   replace q154 := eq_true q154
   go_wp2
   repeat (go_quiet (fail); try go_wp2)
   go_meet
   case rel => exact ⟨_, (true), (by first | rfl | (simp; done) | (simp [*]; done)), H', ⟨by have := HK1.out; first | omega | exact Nat.le_refl _⟩, by repeat (first | exact Drawn0.refl _ | apply Drawn0.step)⟩ } }
   {
   rw [if_neg c7] at H
   exact absurd H (by simp) } }
   {
   rw [if_neg c6] at H
   exact absurd H (by simp) }
  case rest =>
   clear HC5
   try clear c1
   try clear p1
   try clear q1
   try clear hx1
   try clear p2
   try clear c3
   try clear c3b0
   try clear c3b1
   try clear c3b2
   try clear c4
   try clear c4b0
   try clear c6
   try clear c6b0
   try clear c7
   try clear c7b0
   try clear c8
   try clear c8b0
   try clear c8b1
   try clear c9
   try clear c9b0
   try clear c9b1
   try clear c10
   try clear c10b0
   try clear c10b1
   try clear hx153_0
   try clear hx153_1
   try clear hx153_2
   try clear hx153_3
   try clear hx154_0
   try clear hx154_1
   try clear hx154_2
   try clear hx154_3
   try clear hx155_0
   try clear hx155_1
   try clear hx155_2
   try clear hx155_3
   try clear hx156_0
   try clear hx156_1
   try clear hx156_2
   try clear hx156_3
   try clear hx157_0
   try clear hx157_1
   try clear hx157_2
   try clear hx157_3
   try clear hx158_0
   try clear hx158_1
   try clear hx158_2
   try clear hx158_3
   try clear hx159_0
   try clear hx159_1
   try clear hx159_2
   try clear hx159_3
   try clear hx160_0
   try clear hx160_1
   try clear hx160_2
   try clear hx160_3
   try clear p153
   try clear p154
   try clear p155
   try clear p156
   try clear p157
   try clear p158
   try clear p159
   try clear p160
   try clear p2
   try clear q153
   try clear q154
   try clear q155
   try clear q156
   try clear q157
   try clear q158
   try clear q159
   try clear q160
   obtain ⟨kq, x69_4, rfl, HA, HJ4, ⟨mc4, rfl⟩⟩ := hcut
   cases kq with
   | zero => exact absurd HA.out (by simp [hallmootref27_Same.j1])
   | succ kj4 => {
   have H := HA.out
   clear HA
   simp only [hallmootref27_Same.j1] at H
   by_cases c11 : x69_4 = true
   {
   subst c11
   have H1 : (some false) = some r := by rw [if_pos rfl] at H; exact H
   clear H
   have H := H1
   clear H1
   obtain rfl := Option.some.inj H
   go_wp2
   repeat (go_quiet (fail); try go_wp2)
   go_ret
   exact ⟨by first | rfl | (simp; done) | (simp [*]; done), by repeat (first | exact Drawn0.refl _ | apply Drawn0.step)⟩ }
   {
   replace c11 := Bool.eq_false_iff.mpr c11
   subst c11
   have H1 : (hallmootref27_Same.l1 kj4 l0 l1 x5_1 0) = some r := by rw [if_neg (show ¬ (false = true) by decide)] at H; exact H
   clear H
   have H := H1
   clear H1
   have H' := aS H
   clear H
   go_wp2
   repeat (go_quiet (fail); try go_wp2)
   go_loopg [6] kj4 (fun kq v6 w' => ∃ (x6_3 : Int), v6 = .int .i64 x6_3 ∧ Aside0 (hallmootref27_Same.l1 kq l0 l1 x5_1 x6_3 = some r) ∧ Aside0 (kq ≤ kj4) ∧ Drawn0 w w')
   case atStart => exact ⟨(0), (by first | rfl | (simp; done) | (simp [*]; done)), H', ⟨Nat.le_refl _⟩, by repeat (first | exact Drawn0.refl _ | apply Drawn0.step)⟩
   case round =>
    clear H'
    try clear c1
    try clear p1
    try clear q1
    try clear hx1
    try clear p2
    try clear c3
    try clear c3b0
    try clear c3b1
    try clear c3b2
    try clear c4
    try clear c4b0
    try clear c6
    try clear c6b0
    try clear c7
    try clear c7b0
    try clear c8
    try clear c8b0
    try clear c8b1
    try clear c9
    try clear c9b0
    try clear c9b1
    try clear c10
    try clear c10b0
    try clear c10b1
    try clear c11
    try clear hx153_0
    try clear hx153_1
    try clear hx153_2
    try clear hx153_3
    try clear hx154_0
    try clear hx154_1
    try clear hx154_2
    try clear hx154_3
    try clear hx155_0
    try clear hx155_1
    try clear hx155_2
    try clear hx155_3
    try clear hx156_0
    try clear hx156_1
    try clear hx156_2
    try clear hx156_3
    try clear hx157_0
    try clear hx157_1
    try clear hx157_2
    try clear hx157_3
    try clear hx158_0
    try clear hx158_1
    try clear hx158_2
    try clear hx158_3
    try clear hx159_0
    try clear hx159_1
    try clear hx159_2
    try clear hx159_3
    try clear hx160_0
    try clear hx160_1
    try clear hx160_2
    try clear hx160_3
    try clear p1
    try clear p153
    try clear p154
    try clear p155
    try clear p156
    try clear p157
    try clear p158
    try clear p159
    try clear p160
    try clear p2
    try clear q1
    try clear q153
    try clear q154
    try clear q155
    try clear q156
    try clear q157
    try clear q158
    try clear q159
    try clear q160
    obtain ⟨x6_3, rfl, HA, HK3, ⟨m3, rfl⟩⟩ := hrel
    cases gk with
    | zero => exact absurd HA.out (by simp [hallmootref27_Same.l1])
    | succ k3 => {
    have H := HA.out
    clear HA
    simp only [hallmootref27_Same.l1] at H
    by_cases c12 : 0 ≤ x5_1
    {
    rw [if_pos c12] at H
    have c12b0 : decide (0 ≤ x5_1) = true := decide_eq_true c12
    clear c12
    by_cases c13 : x5_1 < (l0.length : Int)
    {
    rw [if_pos c13] at H
    have c13b0 : decide (x5_1 < (l0.length : Int)) = true := decide_eq_true c13
    clear c13
    by_cases c14 : x6_3 < (((rd_T26 l0 x5_1).f3).length : Int)
    {
    rw [if_pos c14] at H
    have c14b0 : decide (x6_3 < (((rd_T26 l0 x5_1).f3).length : Int)) = true := decide_eq_true c14
    clear c14
    by_cases c15 : 0 ≤ x6_3
    {
    rw [if_pos c15] at H
    have c15b0 : decide (0 ≤ x6_3) = true := decide_eq_true c15
    clear c15
    by_cases c16 : x5_1 < (l1.length : Int)
    {
    rw [if_pos c16] at H
    have c16b0 : decide (x5_1 < (l1.length : Int)) = true := decide_eq_true c16
    clear c16
    by_cases c17 : x6_3 < (((rd_T26 l1 x5_1).f3).length : Int)
    {
    rw [if_pos c17] at H
    have c17b0 : decide (x6_3 < (((rd_T26 l1 x5_1).f3).length : Int)) = true := decide_eq_true c17
    clear c17
    by_cases c18 : (rd ((rd_T26 l0 x5_1).f3) x6_3) = (rd ((rd_T26 l1 x5_1).f3) x6_3)
    {
    rw [if_pos c18] at H
    have c18b0 : ((rd ((rd_T26 l0 x5_1).f3) x6_3) == (rd ((rd_T26 l1 x5_1).f3) x6_3)) = true := beq_iff_eq.mpr c18
    have c18b1 : ((rd ((rd_T26 l0 x5_1).f3) x6_3) != (rd ((rd_T26 l1 x5_1).f3) x6_3)) = false := bne_eq_false_iff_eq.mpr c18
    clear c18
    have H' := aS H
    clear H
    have p161 : 0 ≤ (x5_1 : Int) := dd
    have q161 : x5_1 < (l0.length : Int) := dd
    obtain ⟨ad161, A161_3, c161_3, e161, hx161_0, hx161_1, hx161_2, hx161_3, hl161_3, hi161_3⟩ := at_T26 HR0.out x5_1 p161 q161
    cases e161
    have HR161_3 := aS hi161_3
    have HC161_3 := aS hl161_3
    clear hi161_3 hl161_3
    replace p161 := eq_true p161
    replace q161 := eq_true q161
    have p162 : 0 ≤ (x5_1 : Int) := dd
    have q162 : x5_1 < (l0.length : Int) := dd
    obtain ⟨ad162, A162_3, c162_3, e162, hx162_0, hx162_1, hx162_2, hx162_3, hl162_3, hi162_3⟩ := at_T26 HR0.out x5_1 p162 q162
    obtain rfl : ad161 = ad162 := (by injection e162)
    have HR162_3 := aS hi162_3
    have HC162_3 := aS hl162_3
    clear hi162_3 hl162_3
    replace p162 := eq_true p162
    replace q162 := eq_true q162
    have ea_ := Option.some.inj (hx161_3.symm.trans hx162_3)
    injection ea_ with ea_ en_ ec_
    subst ea_
    subst ec_
    clear en_
    have p163 : 0 ≤ (x6_3 : Int) := dd
    have q163 : x6_3 < (((rd_T26 l0 x5_1).f3).length : Int) := dd
    obtain ⟨ad163, e163, hx163_0⟩ := Kd.at_int HR162_3.out x6_3 p163 q163
    cases e163
    replace p163 := eq_true p163
    replace q163 := eq_true q163
    have p164 : 0 ≤ (x5_1 : Int) := dd
    have q164 : x5_1 < (l1.length : Int) := dd
    obtain ⟨ad164, A164_3, c164_3, e164, hx164_0, hx164_1, hx164_2, hx164_3, hl164_3, hi164_3⟩ := at_T26 HR1.out x5_1 p164 q164
    cases e164
    have HR164_3 := aS hi164_3
    have HC164_3 := aS hl164_3
    clear hi164_3 hl164_3
    replace p164 := eq_true p164
    replace q164 := eq_true q164
    have p165 : 0 ≤ (x6_3 : Int) := dd
    have q165 : x6_3 < (((rd_T26 l1 x5_1).f3).length : Int) := dd
    obtain ⟨ad165, e165, hx165_0⟩ := Kd.at_int HR164_3.out x6_3 p165 q165
    cases e165
    replace p165 := eq_true p165
    replace q165 := eq_true q165
    go_wp2
    repeat (go_quiet (fail); try go_wp2)
    go_roundg k3
    case measure => have := HK1.out; have := HJ4.out; have := HK3.out; omega
    case rel => exact ⟨(wrap64 (x6_3 + 1)), (by first | rfl | (simp; done) | (simp [*]; done)), H', ⟨by have := HK1.out; have := HJ4.out; have := HK3.out; omega⟩, by repeat (first | exact Drawn0.refl _ | apply Drawn0.step)⟩ }
    {
    rw [if_neg c18] at H
    have c18b0 : ((rd ((rd_T26 l0 x5_1).f3) x6_3) == (rd ((rd_T26 l1 x5_1).f3) x6_3)) = false := beq_eq_false_iff_ne.mpr c18
    have c18b1 : ((rd ((rd_T26 l0 x5_1).f3) x6_3) != (rd ((rd_T26 l1 x5_1).f3) x6_3)) = true := bne_iff_ne.mpr c18
    obtain rfl := Option.some.inj H
    have p161 : 0 ≤ (x5_1 : Int) := dd
    have q161 : x5_1 < (l0.length : Int) := dd
    obtain ⟨ad161, A161_3, c161_3, e161, hx161_0, hx161_1, hx161_2, hx161_3, hl161_3, hi161_3⟩ := at_T26 HR0.out x5_1 p161 q161
    cases e161
    have HR161_3 := aS hi161_3
    have HC161_3 := aS hl161_3
    clear hi161_3 hl161_3
    replace p161 := eq_true p161
    replace q161 := eq_true q161
    have p162 : 0 ≤ (x5_1 : Int) := dd
    have q162 : x5_1 < (l0.length : Int) := dd
    obtain ⟨ad162, A162_3, c162_3, e162, hx162_0, hx162_1, hx162_2, hx162_3, hl162_3, hi162_3⟩ := at_T26 HR0.out x5_1 p162 q162
    obtain rfl : ad161 = ad162 := (by injection e162)
    have HR162_3 := aS hi162_3
    have HC162_3 := aS hl162_3
    clear hi162_3 hl162_3
    replace p162 := eq_true p162
    replace q162 := eq_true q162
    have ea_ := Option.some.inj (hx161_3.symm.trans hx162_3)
    injection ea_ with ea_ en_ ec_
    subst ea_
    subst ec_
    clear en_
    have p163 : 0 ≤ (x6_3 : Int) := dd
    have q163 : x6_3 < (((rd_T26 l0 x5_1).f3).length : Int) := dd
    obtain ⟨ad163, e163, hx163_0⟩ := Kd.at_int HR162_3.out x6_3 p163 q163
    cases e163
    replace p163 := eq_true p163
    replace q163 := eq_true q163
    have p164 : 0 ≤ (x5_1 : Int) := dd
    have q164 : x5_1 < (l1.length : Int) := dd
    obtain ⟨ad164, A164_3, c164_3, e164, hx164_0, hx164_1, hx164_2, hx164_3, hl164_3, hi164_3⟩ := at_T26 HR1.out x5_1 p164 q164
    cases e164
    have HR164_3 := aS hi164_3
    have HC164_3 := aS hl164_3
    clear hi164_3 hl164_3
    replace p164 := eq_true p164
    replace q164 := eq_true q164
    have p165 : 0 ≤ (x6_3 : Int) := dd
    have q165 : x6_3 < (((rd_T26 l1 x5_1).f3).length : Int) := dd
    obtain ⟨ad165, e165, hx165_0⟩ := Kd.at_int HR164_3.out x6_3 p165 q165
    cases e165
    replace p165 := eq_true p165
    replace q165 := eq_true q165
    go_wp2
    repeat (go_quiet (fail); try go_wp2)
    go_ret
    exact ⟨by first | rfl | (simp; done) | (simp [*]; done), by repeat (first | exact Drawn0.refl _ | apply Drawn0.step)⟩ } }
    {
    rw [if_neg c17] at H
    exact absurd H (by simp) } }
    {
    rw [if_neg c16] at H
    exact absurd H (by simp) } }
    {
    rw [if_neg c15] at H
    exact absurd H (by simp) } }
    {
    rw [if_neg c14] at H
    have c14b0 : decide (x6_3 < (((rd_T26 l0 x5_1).f3).length : Int)) = false := decide_eq_false c14
    clear c14
    have H' := aS H
    clear H
    have p161 : 0 ≤ (x5_1 : Int) := dd
    have q161 : x5_1 < (l0.length : Int) := dd
    obtain ⟨ad161, A161_3, c161_3, e161, hx161_0, hx161_1, hx161_2, hx161_3, hl161_3, hi161_3⟩ := at_T26 HR0.out x5_1 p161 q161
    cases e161
    have HR161_3 := aS hi161_3
    have HC161_3 := aS hl161_3
    clear hi161_3 hl161_3
    replace p161 := eq_true p161
    replace q161 := eq_true q161
    go_wp2
    repeat (go_quiet (fail); try go_wp2)
    go_roundg k3
    case measure => have := HK1.out; have := HJ4.out; have := HK3.out; omega
    case rel => exact ⟨(wrap64 (x5_1 + 1)), (by first | rfl | (simp; done) | (simp [*]; done)), H', ⟨by have := HK1.out; have := HJ4.out; have := HK3.out; omega⟩, by repeat (first | exact Drawn0.refl _ | apply Drawn0.step)⟩ } }
    {
    rw [if_neg c13] at H
    exact absurd H (by simp) } }
    {
    rw [if_neg c12] at H
    exact absurd H (by simp) } } } } }
  {
  rw [if_neg c4] at H
  have c4b0 : decide (x5_1 < (l0.length : Int)) = false := decide_eq_false c4
  clear c4
  obtain rfl := Option.some.inj H
  go_wp2
  repeat (go_quiet (fail); try go_wp2)
  go_ret
  exact ⟨by first | rfl | (simp; done) | (simp [*]; done), by repeat (first | exact Drawn0.refl _ | apply Drawn0.step)⟩ } } }
 {
 rw [if_neg c3] at H
 have c3b0 : ((l0.length : Int) == (l1.length : Int)) = false := beq_eq_false_iff_ne.mpr c3
 have c3b1 : ((l0.length : Int) != (l1.length : Int)) = true := bne_iff_ne.mpr c3
 have c3b2 : (l0.length == l1.length) = false := by first | simpa using c3 | (simp at c3 ⊢; omega)
 obtain rfl := Option.some.inj H
 go_enter Tryd.func11, Tryd.ntmps11
 go_wp2
 repeat (go_quiet (fail); try go_wp2)
 go_ret
 exact ⟨by first | rfl | (simp; done) | (simp [*]; done), by repeat (first | exact Drawn0.refl _ | apply Drawn0.step)⟩ }

end Go.Proofs.YtcnclgneldonfaaDoor.P
