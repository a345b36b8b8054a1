-- Written by pp.py (this session's program over the kit's printer): functions, contracts. Not trusted: Lean checks it.
import Derived.Test.YtphlbjpefnjjnaaDoorPx0
import Derived.Test.YtphlbjpefnjjnaaDoorYZ
import Derived.Test.YtphlbjpefnjjnaaDoorPx63
import Derived.Test.YtphlbjpefnjjnaaDoorPx71
import Derived.Test.YtphlbjpefnjjnaaDoorHb
import Derived.Test.YtphlbjpefnjjnaaDoorHf
namespace Go.Proofs.YtphlbjpefnjjnaaDoor.P
open Go.RowKit Go.Proofs.YtphlbjpefnjjnaaDoorW.PrintWords Go.Proofs.YtphlbjpefnjjnaaDoorW.PrintLast Go.Proofs.YtphlbjpefnjjnaaDoorW.PrintMore
attribute [local go_sem] max2_int min2_int max_two min_two max_three min_three max_four min_four   -- for this text's walks alone
set_option linter.unusedVariables false
set_option linter.unusedSimpArgs false

/-! ### hallmootlaw04_LexOffsets: function 5 -/
mutual
def hallmootlaw04_LexOffsets.l0 : Nat → ByteArray → Bool → List (S30) → Int → Int → Option (Bool)
  | 0, _, _, _, _, _ => none
  | k + 1, x0, x3, x4, x6, x7 => if x7 ≤ (x4.length : Int) then (if x7 < (x4.length : Int) then (if 0 ≤ x7 then (if ((rd_T30 x4 x7).f3) < x6 then (none) else (if (wrap64 (((rd_T30 x4 x7).f3) + (((rd_T30 x4 x7).f1).size : Int))) > (x0.size : Int) then (none) else (if (((rd_T30 x4 x7).f1).size : Int) = 0 then (none) else (hallmootlaw04_LexOffsets.j1 k x0 x3 x4 x6 x7 ((rd_T30 x4 x7).f3))))) else (none)) else (hallmootlaw04_LexOffsets.j1 k x0 x3 x4 x6 x7 (x0.size : Int))) else (some x3)
def hallmootlaw04_LexOffsets.j1 : Nat → ByteArray → Bool → List (S30) → Int → Int → Int → Option (Bool)
  | 0, _, _, _, _, _, _ => none
  | k + 1, x0, x3, x4, x6, x7, x8 => hallmootlaw04_LexOffsets.l1 k x0 x3 x4 x6 x7 x8 x6
def hallmootlaw04_LexOffsets.l1 : Nat → ByteArray → Bool → List (S30) → Int → Int → Int → Int → Option (Bool)
  | 0, _, _, _, _, _, _, _ => none
  | k + 1, x0, x3, x4, x6, x7, x8, x9 => if x9 < x8 then (if 0 ≤ x9 then (if x9 < (x0.size : Int) then ((hallmootref04_Blank.f k (bt x0 x9)).bind fun t201 => (if t201 = true then (hallmootlaw04_LexOffsets.l1 k x0 x3 x4 x6 x7 x8 (wrap64 (x9 + 1))) else (none))) else (none)) else (none)) else (if x7 < (x4.length : Int) then (if 0 ≤ x7 then (if 0 ≤ x8 then (if x8 ≤ (wrap64 (x8 + (((rd_T30 x4 x7).f1).size : Int))) then (if (wrap64 (x8 + (((rd_T30 x4 x7).f1).size : Int))) ≤ (x0.size : Int) then (if (x0.extract (x8 : Int).toNat ((wrap64 (x8 + (((rd_T30 x4 x7).f1).size : Int))) : Int).toNat).toList = ((rd_T30 x4 x7).f1).toList then (hallmootlaw04_LexOffsets.l0 k x0 x3 x4 (wrap64 (x8 + (((rd_T30 x4 x7).f1).size : Int))) (wrap64 (x7 + 1))) else (none)) else (none)) else (none)) else (none)) else (none)) else (hallmootlaw04_LexOffsets.l0 k x0 x3 x4 x6 (wrap64 (x7 + 1))))
end
def hallmootlaw04_LexOffsets.f (k : Nat) (a0 : ByteArray) : Option (Bool) := (hallmootlaw04_sanity.f k).bind fun t193 => (if (a0.size : Int) > 600 then (some t193) else ((lex_Words.f a0).bind fun bt194 => (if bt194.2 = 0 then (hallmootlaw04_LexOffsets.l0 k a0 t193 bt194.1 0 0) else (if t193 = true then (some ((bt194.1.length : Int) == 0)) else (none)))))
theorem hallmootlaw04_LexOffsets.mono_l : ∀ k, (∀ y0 y1 y2 y3 y4, LeO (hallmootlaw04_LexOffsets.l0 k y0 y1 y2 y3 y4) (hallmootlaw04_LexOffsets.l0 (k + 1) y0 y1 y2 y3 y4)) ∧ (∀ y0 y1 y2 y3 y4 y5, LeO (hallmootlaw04_LexOffsets.j1 k y0 y1 y2 y3 y4 y5) (hallmootlaw04_LexOffsets.j1 (k + 1) y0 y1 y2 y3 y4 y5)) ∧ (∀ y0 y1 y2 y3 y4 y5 y6, LeO (hallmootlaw04_LexOffsets.l1 k y0 y1 y2 y3 y4 y5 y6) (hallmootlaw04_LexOffsets.l1 (k + 1) y0 y1 y2 y3 y4 y5 y6))
  | 0 => ⟨fun _ _ _ _ _ r h => by simp [hallmootlaw04_LexOffsets.l0] at h, fun _ _ _ _ _ _ r h => by simp [hallmootlaw04_LexOffsets.j1] at h, fun _ _ _ _ _ _ _ r h => by simp [hallmootlaw04_LexOffsets.l1] at h⟩
  | k + 1 => by
    obtain ⟨ih0, ih1, ih2⟩ := hallmootlaw04_LexOffsets.mono_l k
    refine ⟨?_, ?_, ?_⟩
    · intro y0 y1 y2 y3 y4
      unfold hallmootlaw04_LexOffsets.l0
      repeat' first
      | (with_reducible exact ih0 _ _ _ _ _)
      | (with_reducible exact ih1 _ _ _ _ _ _)
      | (with_reducible exact ih2 _ _ _ _ _ _ _)
      | (with_reducible exact hallmootlaw04_sanity.mono _)
      | (with_reducible exact hallmootref04_Blank.mono _ _)
      | (with_reducible exact LeO.refl _)
      | (with_reducible exact LeO.none _)
      | (with_reducible refine LeO.ite ?_ ?_)
      | (with_reducible refine LeO.bind ?_ (fun _ => ?_))
      | exact ih0 _ _ _ _ _
      | exact ih1 _ _ _ _ _ _
      | exact ih2 _ _ _ _ _ _ _
      | exact hallmootlaw04_sanity.mono _
      | exact hallmootref04_Blank.mono _ _
      | exact LeO.none _
      | refine LeO.ite ?_ ?_
      | refine LeO.bind ?_ (fun _ => ?_)
    · intro y0 y1 y2 y3 y4 y5
      unfold hallmootlaw04_LexOffsets.j1
      repeat' first
      | (with_reducible exact ih0 _ _ _ _ _)
      | (with_reducible exact ih1 _ _ _ _ _ _)
      | (with_reducible exact ih2 _ _ _ _ _ _ _)
      | (with_reducible exact hallmootlaw04_sanity.mono _)
      | (with_reducible exact hallmootref04_Blank.mono _ _)
      | (with_reducible exact LeO.refl _)
      | (with_reducible exact LeO.none _)
      | (with_reducible refine LeO.ite ?_ ?_)
      | (with_reducible refine LeO.bind ?_ (fun _ => ?_))
      | exact ih0 _ _ _ _ _
      | exact ih1 _ _ _ _ _ _
      | exact ih2 _ _ _ _ _ _ _
      | exact hallmootlaw04_sanity.mono _
      | exact hallmootref04_Blank.mono _ _
      | exact LeO.none _
      | refine LeO.ite ?_ ?_
      | refine LeO.bind ?_ (fun _ => ?_)
    · intro y0 y1 y2 y3 y4 y5 y6
      unfold hallmootlaw04_LexOffsets.l1
      repeat' first
      | (with_reducible exact ih0 _ _ _ _ _)
      | (with_reducible exact ih1 _ _ _ _ _ _)
      | (with_reducible exact ih2 _ _ _ _ _ _ _)
      | (with_reducible exact hallmootlaw04_sanity.mono _)
      | (with_reducible exact hallmootref04_Blank.mono _ _)
      | (with_reducible exact LeO.refl _)
      | (with_reducible exact LeO.none _)
      | (with_reducible refine LeO.ite ?_ ?_)
      | (with_reducible refine LeO.bind ?_ (fun _ => ?_))
      | exact ih0 _ _ _ _ _
      | exact ih1 _ _ _ _ _ _
      | exact ih2 _ _ _ _ _ _ _
      | exact hallmootlaw04_sanity.mono _
      | exact hallmootref04_Blank.mono _ _
      | exact LeO.none _
      | refine LeO.ite ?_ ?_
      | refine LeO.bind ?_ (fun _ => ?_)
theorem hallmootlaw04_LexOffsets.mono : ∀ a0 k, LeO (hallmootlaw04_LexOffsets.f k a0) (hallmootlaw04_LexOffsets.f (k + 1) a0) := by
 intro a0 k
 obtain ⟨ih0, ih1, ih2⟩ := hallmootlaw04_LexOffsets.mono_l k
 unfold hallmootlaw04_LexOffsets.f
 repeat' first | (with_reducible exact ih0 _ _ _ _ _) | (with_reducible exact ih1 _ _ _ _ _ _) | (with_reducible exact ih2 _ _ _ _ _ _ _) | (with_reducible exact hallmootlaw04_sanity.mono _) | (with_reducible exact hallmootref04_Blank.mono _ _) | (with_reducible exact LeO.refl _) | (with_reducible exact LeO.none _) | (with_reducible refine LeO.ite ?_ ?_) | (with_reducible refine LeO.bind ?_ (fun _ => ?_)) | exact ih0 _ _ _ _ _ | exact ih1 _ _ _ _ _ _ | exact ih2 _ _ _ _ _ _ _ | exact hallmootlaw04_sanity.mono _ | exact hallmootref04_Blank.mono _ _ | exact LeO.none _ | refine LeO.ite ?_ ?_ | refine LeO.bind ?_ (fun _ => ?_)
set_option maxHeartbeats 8000000 in
set_option maxRecDepth 100000 in
theorem hallmootlaw04_LexOffsets.calls (k : Nat) (a0 : ByteArray) (r : Bool) (w : World) (h : hallmootlaw04_LexOffsets.f k a0 = some r) (hL : Laid w) : Calls Tryd.prog 5 #[.string a0] w fun e w' => e = .returned (.bool r) ∧ Below w.heap.size w w' := by
 have HB := aS (Below.refl w.heap.size w)
 have H : ((hallmootlaw04_sanity.f k).bind fun t193 => (if (a0.size : Int) > 600 then (some t193) else ((lex_Words.f a0).bind fun bt194 => (if bt194.2 = 0 then (hallmootlaw04_LexOffsets.l0 k a0 t193 bt194.1 0 0) else (if t193 = true then (some ((bt194.1.length : Int) == 0)) else (none)))))) = some r := h
 clear h
 replace H := Option.bind_eq_some_iff.mp H
 obtain ⟨t193, A20, H⟩ := H
 replace H : (if (a0.size : Int) > 600 then (some t193) else ((lex_Words.f a0).bind fun bt194 => (if bt194.2 = 0 then (hallmootlaw04_LexOffsets.l0 k a0 t193 bt194.1 0 0) else (if t193 = true then (some ((bt194.1.length : Int) == 0)) else (none))))) = some r := H
 have A2 := aS A20
 clear A20
 by_cases c3 : (a0.size : Int) > 600
 {
 rw [if_pos c3] at H
 have c3b0 : decide (600 < (a0.size : Int)) = true := decide_eq_true c3
 have c3b1 : decide (600 < a0.size) = true := decide_eq_true (by omega)
 clear c3
 obtain rfl := Option.some.inj H
 go_enter Tryd.func5, Tryd.ntmps5
 go_wp2_with (first | (go_at_call 9; (with_reducible refine (hallmootlaw04_sanity.calls k  t193 _ A2.out (hL.below bb)).mono ?_); rintro e w4 ⟨rfl, hb⟩; have n0_ := aS (below_step bb hb); clear HB; have HB := n0_; clear n0_; (try clear hb); (try clear hb2); (try clear hk); (try clear hi)))
 repeat (go_quiet (first | (go_at_call 9; (with_reducible refine (hallmootlaw04_sanity.calls k  t193 _ A2.out (hL.below bb)).mono ?_); rintro e w4 ⟨rfl, hb⟩; have n0_ := aS (below_step bb hb); clear HB; have HB := n0_; clear n0_; (try clear hb); (try clear hb2); (try clear hk); (try clear hi))); try go_wp2_with (first | (go_at_call 9; (with_reducible refine (hallmootlaw04_sanity.calls k  t193 _ A2.out (hL.below bb)).mono ?_); rintro e w4 ⟨rfl, hb⟩; have n0_ := aS (below_step bb hb); clear HB; have HB := n0_; clear n0_; (try clear hb); (try clear hb2); (try clear hk); (try clear hi))))
 go_ret
 exact ⟨by first | rfl | (simp [errW_none, errW_some] <;> rfl) | (simp [*, errW_none, errW_some] <;> rfl), by repeat (first | (with_reducible first | exact HB.out | apply below_alloc | apply pw_below_drewN | apply below_drew1) | exact HB.out)⟩ }
 {
 rw [if_neg c3] at H
 have c3b0 : decide (600 < (a0.size : Int)) = false := decide_eq_false c3
 have c3b1 : decide (600 < a0.size) = false := decide_eq_false (by omega)
 clear c3
 replace H := Option.bind_eq_some_iff.mp H
 obtain ⟨⟨t194, t195⟩, A50, H⟩ := H
 replace H : (if t195 = 0 then (hallmootlaw04_LexOffsets.l0 k a0 t193 t194 0 0) else (if t193 = true then (some ((t194.length : Int) == 0)) else (none))) = some r := H
 have A5 := aS A50
 clear A50
 by_cases c6 : t195 = 0
 {
 rw [if_pos c6] at H
 have c6b0 : (t195 == 0) = true := beq_iff_eq.mpr c6
 have c6b1 : (t195 != 0) = false := bne_eq_false_iff_eq.mpr c6
 clear c6
 have H' := aS H
 clear H
 go_enter Tryd.func5, Tryd.ntmps5
 go_wp2_with (first | (go_at_call 9; (with_reducible refine (hallmootlaw04_sanity.calls k  t193 _ A2.out (hL.below bb)).mono ?_); rintro e w7 ⟨rfl, hb⟩; have n0_ := aS (below_step bb hb); clear HB; have HB := n0_; clear n0_; (try clear hb); (try clear hb2); (try clear hk); (try clear hi)) | (go_at_call 10; (with_reducible refine (lex_Words.calls a0 t194 t195 _ A5.out (hL.below bb)).mono ?_); rintro e w8 ⟨v196, rfl, ho0, hb⟩; have n0_ := aS (Kd.R_lower ho0 bz); have n1_ := aS (below_step bb hb); clear HB; have HO197 := n0_; have HB := n1_; clear n0_ n1_; (try clear hb); (try clear hb2); (try clear hk); (try clear hi); (try clear ho0)))
 repeat (go_quiet (first | (go_at_call 9; (with_reducible refine (hallmootlaw04_sanity.calls k  t193 _ A2.out (hL.below bb)).mono ?_); rintro e w7 ⟨rfl, hb⟩; have n0_ := aS (below_step bb hb); clear HB; have HB := n0_; clear n0_; (try clear hb); (try clear hb2); (try clear hk); (try clear hi)) | (go_at_call 10; (with_reducible refine (lex_Words.calls a0 t194 t195 _ A5.out (hL.below bb)).mono ?_); rintro e w8 ⟨v196, rfl, ho0, hb⟩; have n0_ := aS (Kd.R_lower ho0 bz); have n1_ := aS (below_step bb hb); clear HB; have HO197 := n0_; have HB := n1_; clear n0_ n1_; (try clear hb); (try clear hb2); (try clear hk); (try clear hi); (try clear ho0))); try go_wp2_with (first | (go_at_call 9; (with_reducible refine (hallmootlaw04_sanity.calls k  t193 _ A2.out (hL.below bb)).mono ?_); rintro e w7 ⟨rfl, hb⟩; have n0_ := aS (below_step bb hb); clear HB; have HB := n0_; clear n0_; (try clear hb); (try clear hb2); (try clear hk); (try clear hi)) | (go_at_call 10; (with_reducible refine (lex_Words.calls a0 t194 t195 _ A5.out (hL.below bb)).mono ?_); rintro e w8 ⟨v196, rfl, ho0, hb⟩; have n0_ := aS (Kd.R_lower ho0 bz); have n1_ := aS (below_step bb hb); clear HB; have HO197 := n0_; have HB := n1_; clear n0_ n1_; (try clear hb); (try clear hb2); (try clear hk); (try clear hi); (try clear ho0))))
 go_loopg [6, 7] k (fun kq v6 v7 w' => ∃ (x6_1 : Int) (x7_1 : Int), v6 = .int .i64 x6_1 ∧ v7 = .int .i64 x7_1 ∧ Aside0 (hallmootlaw04_LexOffsets.l0 kq a0 t193 t194 x6_1 x7_1 = some r) ∧ Aside0 (kq ≤ k) ∧ Aside0 (Kd.R k30 30 w' w.heap.size (fun _ => True) v196 t194) ∧ Aside0 (Below w.heap.size w w'))
 case atStart => exact ⟨(0), (0), (by first | rfl | (simp; done) | (simp [*]; done)), (by first | rfl | (simp; done) | (simp [*]; done)), H', ⟨Nat.le_refl _⟩, ⟨by (with_reducible repeat (first | apply Kd.R_alloc | apply Kd.R_drewN | apply Kd.R_drew)); exact HO197.out⟩, ⟨by repeat (first | (with_reducible first | exact HB.out | apply below_alloc | apply pw_below_drewN | apply below_drew1) | exact HB.out)⟩⟩
 case round =>
  clear H'
  try clear p2
  try clear c3
  try clear c3b0
  try clear c3b1
  try clear c5
  try clear c6
  try clear c6b0
  try clear c6b1
  obtain ⟨x6_1, x7_1, rfl, rfl, HA, HK1, HO_4, HB⟩ := hrel
  cases gk with
  | zero => exact absurd HA.out (by simp [hallmootlaw04_LexOffsets.l0])
  | succ k1 => {
  have H := HA.out
  clear HA
  simp only [hallmootlaw04_LexOffsets.l0] at H
  by_cases c9 : x7_1 ≤ (t194.length : Int)
  {
  rw [if_pos c9] at H
  have c9b0 : decide (x7_1 ≤ (t194.length : Int)) = true := decide_eq_true c9
  clear c9
  have HC10 := aS H
  clear H
  obtain ⟨Ao11, co11, eo11⟩ := Kd.R_slice HO_4.out
  subst eo11
  go_upto_if 40 with (fail)
  repeat (go_quiet (fail); go_upto_if 40 with (fail))
  go_cut [8] (fun v8 wc => ∃ (kq : Nat) (x8_9 : Int), v8 = .int .i64 x8_9 ∧ Aside0 (hallmootlaw04_LexOffsets.j1 kq a0 t193 t194 x6_1 x7_1 x8_9 = some r) ∧ Aside0 (kq ≤ k1) ∧ Aside0 (Kd.R k30 30 wc w.heap.size (fun _ => True) (.slice Ao11 t194.length co11) t194) ∧ Aside0 (Below w.heap.size w wc))
  case first =>
   have H := HC10.out
   clear HC10
   by_cases c12 : x7_1 < (t194.length : Int)
   {
   rw [if_pos c12] at H
   have c12b0 : decide (x7_1 < (t194.length : Int)) = true := decide_eq_true c12
   clear c12
   (first | rw [c12b0] | (simp only [i64_w, i32_w]; rw [c12b0]) | skip)
   by_cases c13 : 0 ≤ x7_1
   {
   rw [if_pos c13] at H
   have c13b0 : decide (0 ≤ x7_1) = true := decide_eq_true c13
   clear c13
   by_cases c14 : ((rd_T30 t194 x7_1).f3) < x6_1
   {
   rw [if_pos c14] at H
   exact absurd H (by simp) }
   {
   rw [if_neg c14] at H
   have c14b0 : decide (((rd_T30 t194 x7_1).f3) < x6_1) = false := decide_eq_false c14
   clear c14
   by_cases c15 : (wrap64 (((rd_T30 t194 x7_1).f3) + (((rd_T30 t194 x7_1).f1).size : Int))) > (a0.size : Int)
   {
   rw [if_pos c15] at H
   exact absurd H (by simp) }
   {
   rw [if_neg c15] at H
   have c15b0 : decide ((a0.size : Int) < (wrap64 (((rd_T30 t194 x7_1).f3) + (((rd_T30 t194 x7_1).f1).size : Int)))) = false := decide_eq_false c15
   clear c15
   by_cases c16 : (((rd_T30 t194 x7_1).f1).size : Int) = 0
   {
   rw [if_pos c16] at H
   exact absurd H (by simp) }
   {
   rw [if_neg c16] at H
   have c16b0 : ((((rd_T30 t194 x7_1).f1).size : Int) == 0) = false := beq_eq_false_iff_ne.mpr c16
   have c16b1 : ((((rd_T30 t194 x7_1).f1).size : Int) != 0) = true := bne_iff_ne.mpr c16
   have H' := aS H
   clear H
   have p198 : 0 ≤ (x7_1 : Int) := dd
   have q198 : x7_1 < (t194.length : Int) := dd
   obtain ⟨ad198, e198, hx198_0, hx198_1, hx198_2, hx198_3⟩ := at_T30 (Kd.R_reads' HO_4.out).2.2 x7_1 p198 q198
   cases e198
   replace p198 := eq_true p198
   replace q198 := eq_true q198
   have p199 : 0 ≤ (x7_1 : Int) := dd
   have q199 : x7_1 < (t194.length : Int) := dd
   obtain ⟨ad199, e199, hx199_0, hx199_1, hx199_2, hx199_3⟩ := at_T30 (Kd.R_reads' HO_4.out).2.2 x7_1 p199 q199
   obtain rfl : ad198 = ad199 := (by injection e199)
   replace p199 := eq_true p199
   replace q199 := eq_true q199
   have p200 : 0 ≤ (x7_1 : Int) := dd
   have q200 : x7_1 < (t194.length : Int) := dd
   obtain ⟨ad200, e200, hx200_0, hx200_1, hx200_2, hx200_3⟩ := at_T30 (Kd.R_reads' HO_4.out).2.2 x7_1 p200 q200
   obtain rfl : ad198 = ad200 := (by injection e200)
   replace p200 := eq_true p200
   replace q200 := eq_true q200
   go_wp2
   repeat (go_quiet (fail); try go_wp2)
   go_meet
   case rel => exact ⟨_, ((rd_T30 t194 x7_1).f3), (by first | rfl | (simp; done) | (simp [*]; done)), H', ⟨by have := HK1.out; first | omega | exact Nat.le_refl _⟩, ⟨by (with_reducible repeat (first | apply Kd.R_alloc | apply Kd.R_drewN | apply Kd.R_drew)); exact HO_4.out⟩, ⟨by repeat (first | (with_reducible first | exact HB.out | apply below_alloc | apply pw_below_drewN | apply below_drew1) | exact HB.out)⟩⟩ } } } }
   {
   rw [if_neg c13] at H
   exact absurd H (by simp) } }
   {
   rw [if_neg c12] at H
   have c12b0 : decide (x7_1 < (t194.length : Int)) = false := decide_eq_false c12
   clear c12
   (first | rw [c12b0] | (simp only [i64_w, i32_w]; rw [c12b0]) | skip)
   have H' := aS H
   clear H
   go_wp2
   repeat (go_quiet (fail); try go_wp2)
   go_meet
   case rel => exact ⟨_, ((a0.size : Int)), (by first | rfl | (simp; done) | (simp [*]; done)), H', ⟨by have := HK1.out; first | omega | exact Nat.le_refl _⟩, ⟨by (with_reducible repeat (first | apply Kd.R_alloc | apply Kd.R_drewN | apply Kd.R_drew)); exact HO_4.out⟩, ⟨by repeat (first | (with_reducible first | exact HB.out | apply below_alloc | apply pw_below_drewN | apply below_drew1) | exact HB.out)⟩⟩ }
  case rest =>
   clear HC10
   try clear c1
   try clear p1
   try clear q1
   try clear hx1
   try clear p2
   try clear q2
   try clear hx2
   try clear c3
   try clear c3b0
   try clear c3b1
   try clear c5
   try clear c6
   try clear c6b0
   try clear c6b1
   try clear p6
   try clear c9
   try clear c9b0
   try clear c12
   try clear c12b0
   try clear c13
   try clear c13b0
   try clear c14
   try clear c14b0
   try clear c15
   try clear c15b0
   try clear c16
   try clear c16b0
   try clear c16b1
   try clear hx198_0
   try clear hx198_1
   try clear hx198_2
   try clear hx198_3
   try clear hx199_0
   try clear hx199_1
   try clear hx199_2
   try clear hx199_3
   try clear hx200_0
   try clear hx200_1
   try clear hx200_2
   try clear hx200_3
   try clear p198
   try clear p199
   try clear p2
   try clear p200
   try clear q198
   try clear q199
   try clear q200
   obtain ⟨kq, x8_9, rfl, HA, HJ9, HO_4, HB⟩ := hcut
   cases kq with
   | zero => exact absurd HA.out (by simp [hallmootlaw04_LexOffsets.j1])
   | succ kj9 => {
   have H := HA.out
   clear HA
   simp only [hallmootlaw04_LexOffsets.j1] at H
   have H' := aS H
   clear H
   go_wp2
   repeat (go_quiet (fail); try go_wp2)
   go_loopg [9] kj9 (fun kq v9 w' => ∃ (x9_3 : Int), v9 = .int .i64 x9_3 ∧ Aside0 (hallmootlaw04_LexOffsets.l1 kq a0 t193 t194 x6_1 x7_1 x8_9 x9_3 = some r) ∧ Aside0 (kq ≤ kj9) ∧ Aside0 (Kd.R k30 30 w' w.heap.size (fun _ => True) (.slice Ao11 t194.length co11) t194) ∧ Aside0 (Below w.heap.size w w'))
   case atStart => exact ⟨(x6_1), (by first | rfl | (simp; done) | (simp [*]; done)), H', ⟨Nat.le_refl _⟩, ⟨by (with_reducible repeat (first | apply Kd.R_alloc | apply Kd.R_drewN | apply Kd.R_drew)); exact HO_4.out⟩, ⟨by repeat (first | (with_reducible first | exact HB.out | apply below_alloc | apply pw_below_drewN | apply below_drew1) | exact HB.out)⟩⟩
   case round =>
    clear H'
    try clear c1
    try clear p1
    try clear q1
    try clear hx1
    try clear p2
    try clear q2
    try clear hx2
    try clear c3
    try clear c3b0
    try clear c3b1
    try clear c5
    try clear c6
    try clear c6b0
    try clear c6b1
    try clear p6
    try clear c9
    try clear c9b0
    try clear c12
    try clear c12b0
    try clear c13
    try clear c13b0
    try clear c14
    try clear c14b0
    try clear c15
    try clear c15b0
    try clear c16
    try clear c16b0
    try clear c16b1
    try clear hx198_0
    try clear hx198_1
    try clear hx198_2
    try clear hx198_3
    try clear hx199_0
    try clear hx199_1
    try clear hx199_2
    try clear hx199_3
    try clear hx200_0
    try clear hx200_1
    try clear hx200_2
    try clear hx200_3
    try clear p1
    try clear p198
    try clear p199
    try clear p2
    try clear p200
    try clear p6
    try clear q1
    try clear q198
    try clear q199
    try clear q2
    try clear q200
    obtain ⟨x9_3, rfl, HA, HK3, HO_4, HB⟩ := hrel
    cases gk with
    | zero => exact absurd HA.out (by simp [hallmootlaw04_LexOffsets.l1])
    | succ k3 => {
    have H := HA.out
    clear HA
    simp only [hallmootlaw04_LexOffsets.l1] at H
    by_cases c17 : x9_3 < x8_9
    {
    rw [if_pos c17] at H
    have c17b0 : decide (x9_3 < x8_9) = true := decide_eq_true c17
    clear c17
    by_cases c18 : 0 ≤ x9_3
    {
    rw [if_pos c18] at H
    have c18b0 : decide (0 ≤ x9_3) = true := decide_eq_true c18
    clear c18
    by_cases c19 : x9_3 < (a0.size : Int)
    {
    rw [if_pos c19] at H
    have c19b0 : decide (x9_3 < (a0.size : Int)) = true := decide_eq_true c19
    clear c19
    replace H := Option.bind_eq_some_iff.mp H
    obtain ⟨t201, A210, H⟩ := H
    replace H : (if t201 = true then (hallmootlaw04_LexOffsets.l1 k3 a0 t193 t194 x6_1 x7_1 x8_9 (wrap64 (x9_3 + 1))) else (none)) = some r := H
    have A21 := aS A210
    clear A210
    by_cases c22 : t201 = true
    {
    subst c22
    have H1 : (hallmootlaw04_LexOffsets.l1 k3 a0 t193 t194 x6_1 x7_1 x8_9 (wrap64 (x9_3 + 1))) = some r := by rw [if_pos rfl] at H; exact H
    clear H
    have H := H1
    clear H1
    have H' := aS H
    clear H
    have p20 : 0 ≤ (x9_3 : Int) := dd
    have q20 : x9_3 < (a0.size : Int) := dd
    have hx20 := bt_at a0 x9_3
    replace p20 := eq_true p20
    replace q20 := eq_true q20
    go_wp2_with (first | (go_at_call 15; (with_reducible refine (hallmootref04_Blank.calls k3 (bt a0 x9_3) true _ A21.out).mono ?_); rintro e w' ⟨rfl, ⟨nd, rfl⟩⟩; (try first | exact ⟨rfl, _, World.drewN_drewN _ _ _⟩ | exact ⟨rfl, _, Eq.trans (World.drewN_drewN _ _ _) (congrArg (World.drewN _) (Nat.add_assoc _ _ _))⟩)))
    repeat (go_quiet (first | (go_at_call 15; (with_reducible refine (hallmootref04_Blank.calls k3 (bt a0 x9_3) true _ A21.out).mono ?_); rintro e w' ⟨rfl, ⟨nd, rfl⟩⟩; (try first | exact ⟨rfl, _, World.drewN_drewN _ _ _⟩ | exact ⟨rfl, _, Eq.trans (World.drewN_drewN _ _ _) (congrArg (World.drewN _) (Nat.add_assoc _ _ _))⟩))); try go_wp2_with (first | (go_at_call 15; (with_reducible refine (hallmootref04_Blank.calls k3 (bt a0 x9_3) true _ A21.out).mono ?_); rintro e w' ⟨rfl, ⟨nd, rfl⟩⟩; (try first | exact ⟨rfl, _, World.drewN_drewN _ _ _⟩ | exact ⟨rfl, _, Eq.trans (World.drewN_drewN _ _ _) (congrArg (World.drewN _) (Nat.add_assoc _ _ _))⟩))))
    go_roundg k3
    case measure => have := HK1.out; have := HJ9.out; have := HK3.out; omega
    case rel => exact ⟨(wrap64 (x9_3 + 1)), (by first | rfl | (simp; done) | (simp [*]; done)), H', ⟨by have := HK1.out; have := HJ9.out; have := HK3.out; omega⟩, ⟨by (with_reducible repeat (first | apply Kd.R_alloc | apply Kd.R_drewN | apply Kd.R_drew)); exact HO_4.out⟩, ⟨by repeat (first | (with_reducible first | exact HB.out | apply below_alloc | apply pw_below_drewN | apply below_drew1) | exact HB.out)⟩⟩ }
    {
    replace c22 := Bool.eq_false_iff.mpr c22
    subst c22
    have H1 : (none) = some r := by rw [if_neg (show ¬ (false = true) by decide)] at H; exact H
    clear H
    have H := H1
    clear H1
    exact absurd H (by simp) } }
    {
    rw [if_neg c19] at H
    exact absurd H (by simp) } }
    {
    rw [if_neg c18] at H
    exact absurd H (by simp) } }
    {
    rw [if_neg c17] at H
    have c17b0 : decide (x9_3 < x8_9) = false := decide_eq_false c17
    clear c17
    by_cases c23 : x7_1 < (t194.length : Int)
    {
    rw [if_pos c23] at H
    have c23b0 : decide (x7_1 < (t194.length : Int)) = true := decide_eq_true c23
    clear c23
    by_cases c24 : 0 ≤ x7_1
    {
    rw [if_pos c24] at H
    have c24b0 : decide (0 ≤ x7_1) = true := decide_eq_true c24
    clear c24
    by_cases c25 : 0 ≤ x8_9
    {
    rw [if_pos c25] at H
    have c25b0 := eq_true c25
    have c25b1 : decide (0 ≤ x8_9) = true := decide_eq_true c25
    clear c25
    by_cases c26 : x8_9 ≤ (wrap64 (x8_9 + (((rd_T30 t194 x7_1).f1).size : Int)))
    {
    rw [if_pos c26] at H
    have c26b0 := eq_true c26
    have c26b1 : decide (x8_9 ≤ (wrap64 (x8_9 + (((rd_T30 t194 x7_1).f1).size : Int)))) = true := decide_eq_true c26
    by_cases c27 : (wrap64 (x8_9 + (((rd_T30 t194 x7_1).f1).size : Int))) ≤ (a0.size : Int)
    {
    rw [if_pos c27] at H
    have c27b0 := eq_true c27
    have c27b1 : decide ((wrap64 (x8_9 + (((rd_T30 t194 x7_1).f1).size : Int))) ≤ (a0.size : Int)) = true := decide_eq_true c27
    by_cases c28 : (a0.extract (x8_9 : Int).toNat ((wrap64 (x8_9 + (((rd_T30 t194 x7_1).f1).size : Int))) : Int).toNat).toList = ((rd_T30 t194 x7_1).f1).toList
    {
    rw [if_pos c28] at H
    have c28b0 : ((a0.extract (x8_9 : Int).toNat ((wrap64 (x8_9 + (((rd_T30 t194 x7_1).f1).size : Int))) : Int).toNat).toList == ((rd_T30 t194 x7_1).f1).toList) = true := beq_iff_eq.mpr c28
    have c28b1 : ((a0.extract (x8_9 : Int).toNat ((wrap64 (x8_9 + (((rd_T30 t194 x7_1).f1).size : Int))) : Int).toNat).toList != ((rd_T30 t194 x7_1).f1).toList) = false := bne_eq_false_iff_eq.mpr c28
    clear c28
    have H' := aS H
    clear H
    have p202 : 0 ≤ (x7_1 : Int) := dd
    have q202 : x7_1 < (t194.length : Int) := dd
    obtain ⟨ad202, e202, hx202_0, hx202_1, hx202_2, hx202_3⟩ := at_T30 (Kd.R_reads' HO_4.out).2.2 x7_1 p202 q202
    cases e202
    replace p202 := eq_true p202
    replace q202 := eq_true q202
    have p203 : 0 ≤ (x7_1 : Int) := dd
    have q203 : x7_1 < (t194.length : Int) := dd
    obtain ⟨ad203, e203, hx203_0, hx203_1, hx203_2, hx203_3⟩ := at_T30 (Kd.R_reads' HO_4.out).2.2 x7_1 p203 q203
    obtain rfl : ad202 = ad203 := (by injection e203)
    replace p203 := eq_true p203
    replace q203 := eq_true q203
    go_wp2
    repeat (go_quiet (fail); try go_wp2)
    go_roundg k3
    case measure => have := HK1.out; have := HJ9.out; have := HK3.out; omega
    case rel => exact ⟨(wrap64 (x8_9 + (((rd_T30 t194 x7_1).f1).size : Int))), (wrap64 (x7_1 + 1)), (by first | rfl | (simp; done) | (simp [*]; done)), (by first | rfl | (simp; done) | (simp [*]; done)), H', ⟨by have := HK1.out; have := HJ9.out; have := HK3.out; omega⟩, ⟨by (with_reducible repeat (first | apply Kd.R_alloc | apply Kd.R_drewN | apply Kd.R_drew)); exact HO_4.out⟩, ⟨by repeat (first | (with_reducible first | exact HB.out | apply below_alloc | apply pw_below_drewN | apply below_drew1) | exact HB.out)⟩⟩ }
    {
    rw [if_neg c28] at H
    exact absurd H (by simp) } }
    {
    rw [if_neg c27] at H
    exact absurd H (by simp) } }
    {
    rw [if_neg c26] at H
    exact absurd H (by simp) } }
    {
    rw [if_neg c25] at H
    exact absurd H (by simp) } }
    {
    rw [if_neg c24] at H
    exact absurd H (by simp) } }
    {
    rw [if_neg c23] at H
    have c23b0 : decide (x7_1 < (t194.length : Int)) = false := decide_eq_false c23
    clear c23
    have H' := aS H
    clear H
    go_wp2
    repeat (go_quiet (fail); try go_wp2)
    go_roundg k3
    case measure => have := HK1.out; have := HJ9.out; have := HK3.out; omega
    case rel => exact ⟨(x6_1), (wrap64 (x7_1 + 1)), (by first | rfl | (simp; done) | (simp [*]; done)), (by first | rfl | (simp; done) | (simp [*]; done)), H', ⟨by have := HK1.out; have := HJ9.out; have := HK3.out; omega⟩, ⟨by (with_reducible repeat (first | apply Kd.R_alloc | apply Kd.R_drewN | apply Kd.R_drew)); exact HO_4.out⟩, ⟨by repeat (first | (with_reducible first | exact HB.out | apply below_alloc | apply pw_below_drewN | apply below_drew1) | exact HB.out)⟩⟩ } } } } }
  {
  rw [if_neg c9] at H
  have c9b0 : decide (x7_1 ≤ (t194.length : Int)) = false := decide_eq_false c9
  clear c9
  obtain rfl := Option.some.inj H
  obtain ⟨Ao29, co29, eo29⟩ := Kd.R_slice HO_4.out
  subst eo29
  go_wp2
  repeat (go_quiet (fail); try go_wp2)
  go_ret
  exact ⟨by first | rfl | (simp [errW_none, errW_some] <;> rfl) | (simp [*, errW_none, errW_some] <;> rfl), by repeat (first | (with_reducible first | exact HB.out | apply below_alloc | apply pw_below_drewN | apply below_drew1) | exact HB.out)⟩ } } }
 {
 rw [if_neg c6] at H
 have c6b0 : (t195 == 0) = false := beq_eq_false_iff_ne.mpr c6
 have c6b1 : (t195 != 0) = true := bne_iff_ne.mpr c6
 by_cases c30 : t193 = true
 {
 subst c30
 have H1 : (some ((t194.length : Int) == 0)) = some r := by rw [if_pos rfl] at H; exact H
 clear H
 have H := H1
 clear H1
 obtain rfl := Option.some.inj H
 go_enter Tryd.func5, Tryd.ntmps5
 go_wp2_with (first | (go_at_call 9; (with_reducible refine (hallmootlaw04_sanity.calls k  true _ A2.out (hL.below bb)).mono ?_); rintro e w31 ⟨rfl, hb⟩; have n0_ := aS (below_step bb hb); clear HB; have HB := n0_; clear n0_; (try clear hb); (try clear hb2); (try clear hk); (try clear hi)) | (go_at_call 10; (with_reducible refine (lex_Words.calls a0 t194 t195 _ A5.out (hL.below bb)).mono ?_); rintro e w32 ⟨v196, rfl, ho0, hb⟩; have n0_ := aS (Kd.R_lower ho0 bz); have n1_ := aS (below_step bb hb); clear HB; have HO197 := n0_; have HB := n1_; clear n0_ n1_; (try clear hb); (try clear hb2); (try clear hk); (try clear hi); (try clear ho0); obtain ⟨Ao33, co33, eo33⟩ := Kd.R_slice HO197.out; subst eo33))
 repeat (go_quiet (first | (go_at_call 9; (with_reducible refine (hallmootlaw04_sanity.calls k  true _ A2.out (hL.below bb)).mono ?_); rintro e w31 ⟨rfl, hb⟩; have n0_ := aS (below_step bb hb); clear HB; have HB := n0_; clear n0_; (try clear hb); (try clear hb2); (try clear hk); (try clear hi)) | (go_at_call 10; (with_reducible refine (lex_Words.calls a0 t194 t195 _ A5.out (hL.below bb)).mono ?_); rintro e w32 ⟨v196, rfl, ho0, hb⟩; have n0_ := aS (Kd.R_lower ho0 bz); have n1_ := aS (below_step bb hb); clear HB; have HO197 := n0_; have HB := n1_; clear n0_ n1_; (try clear hb); (try clear hb2); (try clear hk); (try clear hi); (try clear ho0); obtain ⟨Ao33, co33, eo33⟩ := Kd.R_slice HO197.out; subst eo33)); try go_wp2_with (first | (go_at_call 9; (with_reducible refine (hallmootlaw04_sanity.calls k  true _ A2.out (hL.below bb)).mono ?_); rintro e w31 ⟨rfl, hb⟩; have n0_ := aS (below_step bb hb); clear HB; have HB := n0_; clear n0_; (try clear hb); (try clear hb2); (try clear hk); (try clear hi)) | (go_at_call 10; (with_reducible refine (lex_Words.calls a0 t194 t195 _ A5.out (hL.below bb)).mono ?_); rintro e w32 ⟨v196, rfl, ho0, hb⟩; have n0_ := aS (Kd.R_lower ho0 bz); have n1_ := aS (below_step bb hb); clear HB; have HO197 := n0_; have HB := n1_; clear n0_ n1_; (try clear hb); (try clear hb2); (try clear hk); (try clear hi); (try clear ho0); obtain ⟨Ao33, co33, eo33⟩ := Kd.R_slice HO197.out; subst eo33)))
 go_ret
 exact ⟨by first | rfl | (simp [errW_none, errW_some] <;> rfl) | (simp [*, errW_none, errW_some] <;> rfl), by repeat (first | (with_reducible first | exact HB.out | apply below_alloc | apply pw_below_drewN | apply below_drew1) | exact HB.out)⟩ }
 {
 replace c30 := Bool.eq_false_iff.mpr c30
 subst c30
 have H1 : (none) = some r := by rw [if_neg (show ¬ (false = true) by decide)] at H; exact H
 clear H
 have H := H1
 clear H1
 exact absurd H (by simp) } } }

/-- THE ONE PURE STATEMENT of hallmootlaw04_LexOffsets: yours. -/
def hallmootlaw04_LexOffsets.Pure : Prop := ∀ (a0 : ByteArray), a0.size ≤ 140737488351232 → ∃ k, hallmootlaw04_LexOffsets.f k a0 = some true
theorem hallmootlaw04_LexOffsets.walk (P : hallmootlaw04_LexOffsets.Pure) (a0 : ByteArray) (w : World) (w0 : a0.size ≤ 140737488351232) (hL : Laid w) : Calls Tryd.prog 5 #[.string a0] w fun e w' => e = .returned (.bool true) ∧ Below w.heap.size w w' := by
 obtain ⟨k, h⟩ := P a0 w0
 refine (hallmootlaw04_LexOffsets.calls k a0 true w h hL).mono ?_
 rintro e w' ⟨rfl, hd⟩
 exact ⟨rfl, hd⟩

end Go.Proofs.YtphlbjpefnjjnaaDoor.P
