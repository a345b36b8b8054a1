-- Written by pp.py (this session's program over the kit's printer): functions, contracts. Not trusted: Lean checks it.
import Derived.Test.YtcnclgneldonfaaDoorPx0
import Derived.Test.YtcnclgneldonfaaDoorYZ
import Derived.Test.YtcnclgneldonfaaDoorPx1
namespace Go.Proofs.YtcnclgneldonfaaDoor.P
open Go.RowKit Go.Proofs.YtcnclgneldonfaaDoorW.PrintWords Go.Proofs.YtcnclgneldonfaaDoorW.PrintLast Go.Proofs.YtcnclgneldonfaaDoorW.PrintMore
attribute [local go_sem] max2_int min2_int max_two min_two max_three min_three max_four min_four   -- for this text's walks alone
set_option linter.unusedVariables false
set_option linter.unusedSimpArgs false

/-! ### script_Right: function 15 -/
def script_Right.j0 : Nat → Int → Int → Bool → Int → Int → Int → List Int → Option (Bool)
  | 0, _, _, _, _, _, _, _ => none
  | k + 1, x0, x7, x8, x103000, x103001, x103002, x103003 => if x8 = true then (if x103000 = 2 then (if x103001 ≥ 0 then (if x103001 < x0 then ((script_within.f k 1048576 (([x103002] : List Int))).bind fun t106 => (if t106 = true then (some ((x103003.length : Int) == 0)) else (some false))) else (some false)) else (some false)) else (if x103001 ≥ 0 then (if x103001 < x0 then ((script_within.f k 0 (([x103002] : List Int))).bind fun t110 => (if t110 = true then (some ((x103003.length : Int) == 0)) else (some false))) else (some false)) else (some false))) else (if x7 = 3 then (if x103001 = 0 then (if x103002 = 0 then (if (x103003.length : Int) ≤ 64 then ((script_within.f k 32 x103003).bind fun t111 => (some t111)) else (some false)) else (some false)) else (some false)) else (some false))
def script_Right.f (k : Nat) (a0 : Int) (a1_0 : Int) (a1_1 : Int) (a1_2 : Int) (l1_3 : List Int) : Option (Bool) := if a1_0 = 1 then (script_Right.j0 k a0 a1_0 (a1_0 == 1) a1_0 a1_1 a1_2 l1_3) else (script_Right.j0 k a0 a1_0 (a1_0 == 2) a1_0 a1_1 a1_2 l1_3)
theorem script_Right.mono_l : ∀ k, (∀ y0 y1 y2 y3 y4 y5 y6, LeO (script_Right.j0 k y0 y1 y2 y3 y4 y5 y6) (script_Right.j0 (k + 1) y0 y1 y2 y3 y4 y5 y6))
  | 0 => fun _ _ _ _ _ _ _ r h => by simp [script_Right.j0] at h
  | k + 1 => by
    have ih0 := script_Right.mono_l k
    · intro y0 y1 y2 y3 y4 y5 y6
      unfold script_Right.j0
      repeat' first
      | (with_reducible exact ih0 _ _ _ _ _ _ _)
      | (with_reducible exact script_within.mono _ _ _)
      | (with_reducible exact LeO.refl _)
      | (with_reducible exact LeO.none _)
      | (with_reducible refine LeO.ite ?_ ?_)
      | (with_reducible refine LeO.bind ?_ (fun _ => ?_))
      | exact ih0 _ _ _ _ _ _ _
      | exact script_within.mono _ _ _
      | exact LeO.none _
      | refine LeO.ite ?_ ?_
      | refine LeO.bind ?_ (fun _ => ?_)
theorem script_Right.mono : ∀ a0 a1 a2 a3 a4 k, LeO (script_Right.f k a0 a1 a2 a3 a4) (script_Right.f (k + 1) a0 a1 a2 a3 a4) := by
 intro a0 a1 a2 a3 a4 k
 have ih0 := script_Right.mono_l k
 unfold script_Right.f
 repeat' first | (with_reducible exact ih0 _ _ _ _ _ _ _) | (with_reducible exact script_within.mono _ _ _) | (with_reducible exact LeO.refl _) | (with_reducible exact LeO.none _) | (with_reducible refine LeO.ite ?_ ?_) | (with_reducible refine LeO.bind ?_ (fun _ => ?_)) | exact ih0 _ _ _ _ _ _ _ | exact script_within.mono _ _ _ | exact LeO.none _ | refine LeO.ite ?_ ?_ | refine LeO.bind ?_ (fun _ => ?_)
set_option maxHeartbeats 8000000 in
set_option maxRecDepth 100000 in
theorem script_Right.calls (k : Nat) (a0 : Int) (a1_0 : Int) (a1_1 : Int) (a1_2 : Int) (A1_3 : Option Addr) (c1_3 : Nat) (l1_3 : List Int) (r : Bool) (w : World) (hr1_3 : Kd.C (Kd.int .i64) w A1_3 l1_3.length l1_3) (hc1_3 : l1_3.length ≤ c1_3) (h : script_Right.f k a0 a1_0 a1_1 a1_2 l1_3 = some r) : Calls Tryd.prog 15 #[.int .i64 a0, .agg #[.int .i64 a1_0, .int .i64 a1_1, .int .i64 a1_2, .slice A1_3 l1_3.length c1_3]] w fun e w' => e = .returned (.bool r) ∧ Below w.heap.size w w' := by
 have hu26 := Tryd.underlying26
 have HR1_3 := aS hr1_3
 have HC1_3 := aS hc1_3
 clear hr1_3 hc1_3
 have HB := aS (Below.refl w.heap.size w)
 have H : (if a1_0 = 1 then (script_Right.j0 k a0 a1_0 (a1_0 == 1) a1_0 a1_1 a1_2 l1_3) else (script_Right.j0 k a0 a1_0 (a1_0 == 2) a1_0 a1_1 a1_2 l1_3)) = some r := h
 clear h
 have HC3 := aS H
 clear H
 go_enter Tryd.func15, Tryd.ntmps15
 go_upto_if 8 with (first | ((with_reducible refine gate_dst (N := 3) rfl ?_); (try (refine gate_guard (by rfl) ?_; dsimp only)); refine box_event ?hg (N := 3) ?hd (cs := #[.int .i64 a1_0, .int .i64 a1_1, .int .i64 a1_2, .slice A1_3 l1_3.length c1_3]) (t := 26) ?hr ?_; (case hd => rfl); (case hg => rfl); (case hr => first | (go_simp; done) | (go_simp; rfl)); intro gb102 hg w4 hbox hb; have n0_ := aS (below_step bb hb); have n1_ := aS (hbox); have n2_ := aS ((by rw [hg]; exact bz : w.heap.size ≤ gb102)); have n3_ := aS ((by rw [hg]; exact bz : w.heap.size ≤ gb102)); clear HB; have HB := n0_; have BK102 := n1_; have GW102 := n2_; have GE102 := n3_; clear n0_ n1_ n2_ n3_; clear hb hbox hg; have hcz5_0 : w4.cell? ⟨gb102, 0, none⟩ = some (.int .i64 a1_0) := (blk_cell BK102.out 0).trans rfl; have hcz5_1 : w4.cell? ⟨gb102, 1, none⟩ = some (.int .i64 a1_1) := (blk_cell BK102.out 1).trans rfl; have hcz5_2 : w4.cell? ⟨gb102, 2, none⟩ = some (.int .i64 a1_2) := (blk_cell BK102.out 2).trans rfl; have hcz5_3 : w4.cell? ⟨gb102, 3, none⟩ = some (.slice A1_3 l1_3.length c1_3) := (blk_cell BK102.out 3).trans rfl; have hfz5_0 := blk_frozen BK102.out 0; have hfz5_1 := blk_frozen BK102.out 1; have hfz5_2 := blk_frozen BK102.out 2; have hfz5_3 := blk_frozen BK102.out 3))
 (try simp only [Act.put, List.setIfInBounds_toArray, List.set_cons_zero, List.set_cons_succ])
 go_cut [8] (fun v8 wc => ∃ (kq : Nat) (x8_2 : Bool), v8 = .bool x8_2 ∧ Aside0 (script_Right.j0 kq a0 a1_0 x8_2 a1_0 a1_1 a1_2 l1_3 = some r) ∧ Aside0 (kq ≤ k) ∧ Aside0 (wc.heap[gb102]? = some (.cells #[.int .i64 a1_0, .int .i64 a1_1, .int .i64 a1_2, (.slice A1_3 l1_3.length c1_3)] 26 (0, 0))) ∧ Aside0 (Below w.heap.size w wc))
 case first =>
  have H := HC3.out
  clear HC3
  by_cases c6 : a1_0 = 1
  {
  rw [if_pos c6] at H
  have c6b0 : (a1_0 == 1) = true := beq_iff_eq.mpr c6
  have c6b1 : (a1_0 != 1) = false := bne_eq_false_iff_eq.mpr c6
  clear c6
  (first | rw [c6b0] | (simp only [i64_w, i32_w]; rw [c6b0]) | skip)
  have H' := aS H
  clear H
  go_wp2
  go_meet
  case rel => exact ⟨_, ((a1_0 == 1)), (by first | rfl | (simp; done) | (simp [*]; done)), H', ⟨by first | omega | exact Nat.le_refl _⟩, ⟨kk BK102.out⟩, ⟨by repeat (first | (with_reducible first | exact HB.out | apply below_alloc | apply pw_below_drewN | apply below_drew1 | refine below_set ?_ GE102.out) | exact HB.out)⟩⟩ }
  {
  rw [if_neg c6] at H
  have c6b0 : (a1_0 == 1) = false := beq_eq_false_iff_ne.mpr c6
  have c6b1 : (a1_0 != 1) = true := bne_iff_ne.mpr c6
  (first | rw [c6b0] | (simp only [i64_w, i32_w]; rw [c6b0]) | skip)
  have H' := aS H
  clear H
  go_wp2
  go_meet
  case rel => exact ⟨_, ((a1_0 == 2)), (by first | rfl | (simp; done) | (simp [*]; done)), H', ⟨by first | omega | exact Nat.le_refl _⟩, ⟨kk BK102.out⟩, ⟨by repeat (first | (with_reducible first | exact HB.out | apply below_alloc | apply pw_below_drewN | apply below_drew1 | refine below_set ?_ GE102.out) | exact HB.out)⟩⟩ }
 case rest =>
  clear HC3
  try clear c1
  try clear p2
  try clear c6
  try clear c6b0
  try clear c6b1
  try clear hcz5_0
  try clear hcz5_1
  try clear hcz5_2
  try clear hcz5_3
  try clear hfz5_0
  try clear hfz5_1
  try clear hfz5_2
  try clear hfz5_3
  obtain ⟨kq, x8_2, rfl, HA, HJ2, BK102, HB⟩ := hcut
  cases kq with
  | zero => exact absurd HA.out (by simp [script_Right.j0])
  | succ kj2 => {
  have H := HA.out
  clear HA
  simp only [script_Right.j0] at H
  by_cases c7 : x8_2 = true
  {
  subst c7
  have H1 : (if a1_0 = 2 then (if a1_1 ≥ 0 then (if a1_1 < a0 then ((script_within.f kj2 1048576 (([a1_2] : List Int))).bind fun t106 => (if t106 = true then (some ((l1_3.length : Int) == 0)) else (some false))) else (some false)) else (some false)) else (if a1_1 ≥ 0 then (if a1_1 < a0 then ((script_within.f kj2 0 (([a1_2] : List Int))).bind fun t110 => (if t110 = true then (some ((l1_3.length : Int) == 0)) else (some false))) else (some false)) else (some false))) = some r := by rw [if_pos rfl] at H; exact H
  clear H
  have H := H1
  clear H1
  by_cases c8 : a1_0 = 2
  {
  rw [if_pos c8] at H
  have c8b0 : (a1_0 == 2) = true := beq_iff_eq.mpr c8
  have c8b1 : (a1_0 != 2) = false := bne_eq_false_iff_eq.mpr c8
  clear c8
  by_cases c9 : a1_1 ≥ 0
  {
  rw [if_pos c9] at H
  have c9b0 : decide (0 ≤ a1_1) = true := decide_eq_true c9
  clear c9
  by_cases c10 : a1_1 < a0
  {
  rw [if_pos c10] at H
  have c10b0 : decide (a1_1 < a0) = true := decide_eq_true c10
  clear c10
  obtain ⟨y103, hy103⟩ : ∃ y_ : List Int, y_ = (([a1_2] : List Int)) := ⟨_, rfl⟩
  replace H : ((script_within.f kj2 1048576 y103).bind fun t106 => (if t106 = true then (some ((l1_3.length : Int) == 0)) else (some false))) = some r := by first | (rw [hy103]; with_reducible exact H) | (have H2_ := (Option.bind_some _ _).symm.trans H; rw [hy103]; with_reducible exact H2_) | (have H2_ := (Option.bind_some _ _).symm.trans H; with_reducible exact H2_) | with_reducible exact H | (rw [hy103]; exact H) | exact H
  have Ny103 := aS hy103
  clear hy103
  replace H := Option.bind_eq_some_iff.mp H
  obtain ⟨t106, A110, H⟩ := H
  replace H : (if t106 = true then (some ((l1_3.length : Int) == 0)) else (some false)) = some r := H
  have A11 := aS A110
  clear A110
  by_cases c12 : t106 = true
  {
  subst c12
  have H1 : (some ((l1_3.length : Int) == 0)) = some r := by rw [if_pos rfl] at H; exact H
  clear H
  have H := H1
  clear H1
  obtain rfl := Option.some.inj H
  have hcz13_0 : wc.cell? ⟨gb102, 0, none⟩ = some (.int .i64 a1_0) := (blk_cell BK102.out 0).trans rfl
  have hcz13_1 : wc.cell? ⟨gb102, 1, none⟩ = some (.int .i64 a1_1) := (blk_cell BK102.out 1).trans rfl
  have hcz13_2 : wc.cell? ⟨gb102, 2, none⟩ = some (.int .i64 a1_2) := (blk_cell BK102.out 2).trans rfl
  have hcz13_3 : wc.cell? ⟨gb102, 3, none⟩ = some (.slice A1_3 l1_3.length c1_3) := (blk_cell BK102.out 3).trans rfl
  have hfz13_0 := blk_frozen BK102.out 0
  have hfz13_1 := blk_frozen BK102.out 1
  have hfz13_2 := blk_frozen BK102.out 2
  have hfz13_3 := blk_frozen BK102.out 3
  go_wp2_with (first | ((with_reducible refine gate_dst (N := 27) rfl ?_); (try (refine gate_guard (by rfl) ?_; dsimp only)); refine Kd.R_lit (Kd.int .i64) _ 3 ?hg (N := 27) ?hd (xs := ([a1_2] : List Int)) (inner := [.int .i64 a1_2]) (ok := fun _ => True) (okp := fun _ => True) ?hr ?hp (fun _ hk => hk) trivial (Below.refl _ _) (Nat.le_refl _) (by simp) ?_; (case hd => rfl); (case hg => rfl); (case hr => first | (go_simp; done) | (go_simp; rfl)); (case hp => exact (Reps.one (show Kd.M (Kd.int .i64) _ _ _ a1_2 [.int .i64 a1_2] from rfl) (Reps.none _ _))); intro v104 w14 ho15 hb hg_ hnew_; clear hg_ hnew_; (first | rw [← Ny103.out] at ho15 | (simp only [Int.reduceToNat] at ho15; rw [← Ny103.out] at ho15)); have n0_ := aS (Kd.R_lower ho15 bz); have n1_ := aS (kb BK102.out hb); have n2_ := aS (below_step bb hb); clear BK102; clear HB; have HO105 := n0_; have BK102 := n1_; have HB := n2_; clear n0_ n1_ n2_; clear hb ho15; obtain ⟨Ao16, co16, eo16⟩ := Kd.R_slice HO105.out; subst eo16) | (go_at_call 24; (with_reducible refine (script_within.calls kj2 1048576 _ _ y103 true _ ?side1 ?side2 A11.out).mono ?_); (case side1 => repeat (first | exact (Kd.R_reads' HO105.out).2.2 | (with_reducible refine Kd.C_alloc ?_ _) | (with_reducible refine Kd.C_drewN ?_ _) | (with_reducible refine Kd.C_drew ?_))); (case side2 => exact (Kd.R_reads' HO105.out).2.1); rintro e w' ⟨rfl, ⟨nd, rfl⟩⟩; have hcz17_0 : w14.cell? ⟨gb102, 0, none⟩ = some (.int .i64 a1_0) := (blk_cell BK102.out 0).trans rfl; have hcz17_1 : w14.cell? ⟨gb102, 1, none⟩ = some (.int .i64 a1_1) := (blk_cell BK102.out 1).trans rfl; have hcz17_2 : w14.cell? ⟨gb102, 2, none⟩ = some (.int .i64 a1_2) := (blk_cell BK102.out 2).trans rfl; have hcz17_3 : w14.cell? ⟨gb102, 3, none⟩ = some (.slice A1_3 l1_3.length c1_3) := (blk_cell BK102.out 3).trans rfl; have hfz17_0 := blk_frozen BK102.out 0; have hfz17_1 := blk_frozen BK102.out 1; have hfz17_2 := blk_frozen BK102.out 2; have hfz17_3 := blk_frozen BK102.out 3))
  go_ret
  exact ⟨by first | rfl | (simp [errW_none, errW_some] <;> rfl) | (simp [*, errW_none, errW_some] <;> rfl), by repeat (first | (with_reducible first | exact HB.out | apply below_alloc | apply pw_below_drewN | apply below_drew1 | refine below_set ?_ GE102.out) | exact HB.out)⟩ }
  {
  replace c12 := Bool.eq_false_iff.mpr c12
  subst c12
  have H1 : (some false) = some r := by rw [if_neg (show ¬ (false = true) by decide)] at H; exact H
  clear H
  have H := H1
  clear H1
  obtain rfl := Option.some.inj H
  have hcz18_0 : wc.cell? ⟨gb102, 0, none⟩ = some (.int .i64 a1_0) := (blk_cell BK102.out 0).trans rfl
  have hcz18_1 : wc.cell? ⟨gb102, 1, none⟩ = some (.int .i64 a1_1) := (blk_cell BK102.out 1).trans rfl
  have hcz18_2 : wc.cell? ⟨gb102, 2, none⟩ = some (.int .i64 a1_2) := (blk_cell BK102.out 2).trans rfl
  have hcz18_3 : wc.cell? ⟨gb102, 3, none⟩ = some (.slice A1_3 l1_3.length c1_3) := (blk_cell BK102.out 3).trans rfl
  have hfz18_0 := blk_frozen BK102.out 0
  have hfz18_1 := blk_frozen BK102.out 1
  have hfz18_2 := blk_frozen BK102.out 2
  have hfz18_3 := blk_frozen BK102.out 3
  go_wp2_with (first | ((with_reducible refine gate_dst (N := 27) rfl ?_); (try (refine gate_guard (by rfl) ?_; dsimp only)); refine Kd.R_lit (Kd.int .i64) _ 3 ?hg (N := 27) ?hd (xs := ([a1_2] : List Int)) (inner := [.int .i64 a1_2]) (ok := fun _ => True) (okp := fun _ => True) ?hr ?hp (fun _ hk => hk) trivial (Below.refl _ _) (Nat.le_refl _) (by simp) ?_; (case hd => rfl); (case hg => rfl); (case hr => first | (go_simp; done) | (go_simp; rfl)); (case hp => exact (Reps.one (show Kd.M (Kd.int .i64) _ _ _ a1_2 [.int .i64 a1_2] from rfl) (Reps.none _ _))); intro v104 w19 ho20 hb hg_ hnew_; clear hg_ hnew_; (first | rw [← Ny103.out] at ho20 | (simp only [Int.reduceToNat] at ho20; rw [← Ny103.out] at ho20)); have n0_ := aS (Kd.R_lower ho20 bz); have n1_ := aS (kb BK102.out hb); have n2_ := aS (below_step bb hb); clear BK102; clear HB; have HO105 := n0_; have BK102 := n1_; have HB := n2_; clear n0_ n1_ n2_; clear hb ho20; obtain ⟨Ao21, co21, eo21⟩ := Kd.R_slice HO105.out; subst eo21) | (go_at_call 24; (with_reducible refine (script_within.calls kj2 1048576 _ _ y103 false _ ?side1 ?side2 A11.out).mono ?_); (case side1 => repeat (first | exact (Kd.R_reads' HO105.out).2.2 | (with_reducible refine Kd.C_alloc ?_ _) | (with_reducible refine Kd.C_drewN ?_ _) | (with_reducible refine Kd.C_drew ?_))); (case side2 => exact (Kd.R_reads' HO105.out).2.1); rintro e w' ⟨rfl, ⟨nd, rfl⟩⟩))
  go_ret
  exact ⟨by first | rfl | (simp [errW_none, errW_some] <;> rfl) | (simp [*, errW_none, errW_some] <;> rfl), by repeat (first | (with_reducible first | exact HB.out | apply below_alloc | apply pw_below_drewN | apply below_drew1 | refine below_set ?_ GE102.out) | exact HB.out)⟩ } }
  {
  rw [if_neg c10] at H
  have c10b0 : decide (a1_1 < a0) = false := decide_eq_false c10
  clear c10
  obtain rfl := Option.some.inj H
  have hcz22_0 : wc.cell? ⟨gb102, 0, none⟩ = some (.int .i64 a1_0) := (blk_cell BK102.out 0).trans rfl
  have hcz22_1 : wc.cell? ⟨gb102, 1, none⟩ = some (.int .i64 a1_1) := (blk_cell BK102.out 1).trans rfl
  have hcz22_2 : wc.cell? ⟨gb102, 2, none⟩ = some (.int .i64 a1_2) := (blk_cell BK102.out 2).trans rfl
  have hcz22_3 : wc.cell? ⟨gb102, 3, none⟩ = some (.slice A1_3 l1_3.length c1_3) := (blk_cell BK102.out 3).trans rfl
  have hfz22_0 := blk_frozen BK102.out 0
  have hfz22_1 := blk_frozen BK102.out 1
  have hfz22_2 := blk_frozen BK102.out 2
  have hfz22_3 := blk_frozen BK102.out 3
  go_wp2
  go_ret
  exact ⟨by first | rfl | (simp [errW_none, errW_some] <;> rfl) | (simp [*, errW_none, errW_some] <;> rfl), by repeat (first | (with_reducible first | exact HB.out | apply below_alloc | apply pw_below_drewN | apply below_drew1 | refine below_set ?_ GE102.out) | exact HB.out)⟩ } }
  {
  rw [if_neg c9] at H
  have c9b0 : decide (0 ≤ a1_1) = false := decide_eq_false c9
  clear c9
  obtain rfl := Option.some.inj H
  have hcz23_0 : wc.cell? ⟨gb102, 0, none⟩ = some (.int .i64 a1_0) := (blk_cell BK102.out 0).trans rfl
  have hcz23_1 : wc.cell? ⟨gb102, 1, none⟩ = some (.int .i64 a1_1) := (blk_cell BK102.out 1).trans rfl
  have hcz23_2 : wc.cell? ⟨gb102, 2, none⟩ = some (.int .i64 a1_2) := (blk_cell BK102.out 2).trans rfl
  have hcz23_3 : wc.cell? ⟨gb102, 3, none⟩ = some (.slice A1_3 l1_3.length c1_3) := (blk_cell BK102.out 3).trans rfl
  have hfz23_0 := blk_frozen BK102.out 0
  have hfz23_1 := blk_frozen BK102.out 1
  have hfz23_2 := blk_frozen BK102.out 2
  have hfz23_3 := blk_frozen BK102.out 3
  go_wp2
  go_ret
  exact ⟨by first | rfl | (simp [errW_none, errW_some] <;> rfl) | (simp [*, errW_none, errW_some] <;> rfl), by repeat (first | (with_reducible first | exact HB.out | apply below_alloc | apply pw_below_drewN | apply below_drew1 | refine below_set ?_ GE102.out) | exact HB.out)⟩ } }
  {
  rw [if_neg c8] at H
  have c8b0 : (a1_0 == 2) = false := beq_eq_false_iff_ne.mpr c8
  have c8b1 : (a1_0 != 2) = true := bne_iff_ne.mpr c8
  by_cases c24 : a1_1 ≥ 0
  {
  rw [if_pos c24] at H
  have c24b0 : decide (0 ≤ a1_1) = true := decide_eq_true c24
  clear c24
  by_cases c25 : a1_1 < a0
  {
  rw [if_pos c25] at H
  have c25b0 : decide (a1_1 < a0) = true := decide_eq_true c25
  clear c25
  obtain ⟨y107, hy107⟩ : ∃ y_ : List Int, y_ = (([a1_2] : List Int)) := ⟨_, rfl⟩
  replace H : ((script_within.f kj2 0 y107).bind fun t110 => (if t110 = true then (some ((l1_3.length : Int) == 0)) else (some false))) = some r := by first | (rw [hy107]; with_reducible exact H) | (have H2_ := (Option.bind_some _ _).symm.trans H; rw [hy107]; with_reducible exact H2_) | (have H2_ := (Option.bind_some _ _).symm.trans H; with_reducible exact H2_) | with_reducible exact H | (rw [hy107]; exact H) | exact H
  have Ny107 := aS hy107
  clear hy107
  replace H := Option.bind_eq_some_iff.mp H
  obtain ⟨t110, A260, H⟩ := H
  replace H : (if t110 = true then (some ((l1_3.length : Int) == 0)) else (some false)) = some r := H
  have A26 := aS A260
  clear A260
  by_cases c27 : t110 = true
  {
  subst c27
  have H1 : (some ((l1_3.length : Int) == 0)) = some r := by rw [if_pos rfl] at H; exact H
  clear H
  have H := H1
  clear H1
  obtain rfl := Option.some.inj H
  have hcz28_0 : wc.cell? ⟨gb102, 0, none⟩ = some (.int .i64 a1_0) := (blk_cell BK102.out 0).trans rfl
  have hcz28_1 : wc.cell? ⟨gb102, 1, none⟩ = some (.int .i64 a1_1) := (blk_cell BK102.out 1).trans rfl
  have hcz28_2 : wc.cell? ⟨gb102, 2, none⟩ = some (.int .i64 a1_2) := (blk_cell BK102.out 2).trans rfl
  have hcz28_3 : wc.cell? ⟨gb102, 3, none⟩ = some (.slice A1_3 l1_3.length c1_3) := (blk_cell BK102.out 3).trans rfl
  have hfz28_0 := blk_frozen BK102.out 0
  have hfz28_1 := blk_frozen BK102.out 1
  have hfz28_2 := blk_frozen BK102.out 2
  have hfz28_3 := blk_frozen BK102.out 3
  go_wp2_with (first | ((with_reducible refine gate_dst (N := 27) rfl ?_); (try (refine gate_guard (by rfl) ?_; dsimp only)); refine Kd.R_lit (Kd.int .i64) _ 3 ?hg (N := 27) ?hd (xs := ([a1_2] : List Int)) (inner := [.int .i64 a1_2]) (ok := fun _ => True) (okp := fun _ => True) ?hr ?hp (fun _ hk => hk) trivial (Below.refl _ _) (Nat.le_refl _) (by simp) ?_; (case hd => rfl); (case hg => rfl); (case hr => first | (go_simp; done) | (go_simp; rfl)); (case hp => exact (Reps.one (show Kd.M (Kd.int .i64) _ _ _ a1_2 [.int .i64 a1_2] from rfl) (Reps.none _ _))); intro v108 w29 ho30 hb hg_ hnew_; clear hg_ hnew_; (first | rw [← Ny107.out] at ho30 | (simp only [Int.reduceToNat] at ho30; rw [← Ny107.out] at ho30)); have n0_ := aS (Kd.R_lower ho30 bz); have n1_ := aS (kb BK102.out hb); have n2_ := aS (below_step bb hb); clear BK102; clear HB; have HO109 := n0_; have BK102 := n1_; have HB := n2_; clear n0_ n1_ n2_; clear hb ho30; obtain ⟨Ao31, co31, eo31⟩ := Kd.R_slice HO109.out; subst eo31) | (go_at_call 24; (with_reducible refine (script_within.calls kj2 0 _ _ y107 true _ ?side1 ?side2 A26.out).mono ?_); (case side1 => repeat (first | exact (Kd.R_reads' HO109.out).2.2 | (with_reducible refine Kd.C_alloc ?_ _) | (with_reducible refine Kd.C_drewN ?_ _) | (with_reducible refine Kd.C_drew ?_))); (case side2 => exact (Kd.R_reads' HO109.out).2.1); rintro e w' ⟨rfl, ⟨nd, rfl⟩⟩; have hcz32_0 : w29.cell? ⟨gb102, 0, none⟩ = some (.int .i64 a1_0) := (blk_cell BK102.out 0).trans rfl; have hcz32_1 : w29.cell? ⟨gb102, 1, none⟩ = some (.int .i64 a1_1) := (blk_cell BK102.out 1).trans rfl; have hcz32_2 : w29.cell? ⟨gb102, 2, none⟩ = some (.int .i64 a1_2) := (blk_cell BK102.out 2).trans rfl; have hcz32_3 : w29.cell? ⟨gb102, 3, none⟩ = some (.slice A1_3 l1_3.length c1_3) := (blk_cell BK102.out 3).trans rfl; have hfz32_0 := blk_frozen BK102.out 0; have hfz32_1 := blk_frozen BK102.out 1; have hfz32_2 := blk_frozen BK102.out 2; have hfz32_3 := blk_frozen BK102.out 3))
  go_ret
  exact ⟨by first | rfl | (simp [errW_none, errW_some] <;> rfl) | (simp [*, errW_none, errW_some] <;> rfl), by repeat (first | (with_reducible first | exact HB.out | apply below_alloc | apply pw_below_drewN | apply below_drew1 | refine below_set ?_ GE102.out) | exact HB.out)⟩ }
  {
  replace c27 := Bool.eq_false_iff.mpr c27
  subst c27
  have H1 : (some false) = some r := by rw [if_neg (show ¬ (false = true) by decide)] at H; exact H
  clear H
  have H := H1
  clear H1
  obtain rfl := Option.some.inj H
  have hcz33_0 : wc.cell? ⟨gb102, 0, none⟩ = some (.int .i64 a1_0) := (blk_cell BK102.out 0).trans rfl
  have hcz33_1 : wc.cell? ⟨gb102, 1, none⟩ = some (.int .i64 a1_1) := (blk_cell BK102.out 1).trans rfl
  have hcz33_2 : wc.cell? ⟨gb102, 2, none⟩ = some (.int .i64 a1_2) := (blk_cell BK102.out 2).trans rfl
  have hcz33_3 : wc.cell? ⟨gb102, 3, none⟩ = some (.slice A1_3 l1_3.length c1_3) := (blk_cell BK102.out 3).trans rfl
  have hfz33_0 := blk_frozen BK102.out 0
  have hfz33_1 := blk_frozen BK102.out 1
  have hfz33_2 := blk_frozen BK102.out 2
  have hfz33_3 := blk_frozen BK102.out 3
  go_wp2_with (first | ((with_reducible refine gate_dst (N := 27) rfl ?_); (try (refine gate_guard (by rfl) ?_; dsimp only)); refine Kd.R_lit (Kd.int .i64) _ 3 ?hg (N := 27) ?hd (xs := ([a1_2] : List Int)) (inner := [.int .i64 a1_2]) (ok := fun _ => True) (okp := fun _ => True) ?hr ?hp (fun _ hk => hk) trivial (Below.refl _ _) (Nat.le_refl _) (by simp) ?_; (case hd => rfl); (case hg => rfl); (case hr => first | (go_simp; done) | (go_simp; rfl)); (case hp => exact (Reps.one (show Kd.M (Kd.int .i64) _ _ _ a1_2 [.int .i64 a1_2] from rfl) (Reps.none _ _))); intro v108 w34 ho35 hb hg_ hnew_; clear hg_ hnew_; (first | rw [← Ny107.out] at ho35 | (simp only [Int.reduceToNat] at ho35; rw [← Ny107.out] at ho35)); have n0_ := aS (Kd.R_lower ho35 bz); have n1_ := aS (kb BK102.out hb); have n2_ := aS (below_step bb hb); clear BK102; clear HB; have HO109 := n0_; have BK102 := n1_; have HB := n2_; clear n0_ n1_ n2_; clear hb ho35; obtain ⟨Ao36, co36, eo36⟩ := Kd.R_slice HO109.out; subst eo36) | (go_at_call 24; (with_reducible refine (script_within.calls kj2 0 _ _ y107 false _ ?side1 ?side2 A26.out).mono ?_); (case side1 => repeat (first | exact (Kd.R_reads' HO109.out).2.2 | (with_reducible refine Kd.C_alloc ?_ _) | (with_reducible refine Kd.C_drewN ?_ _) | (with_reducible refine Kd.C_drew ?_))); (case side2 => exact (Kd.R_reads' HO109.out).2.1); rintro e w' ⟨rfl, ⟨nd, rfl⟩⟩))
  go_ret
  exact ⟨by first | rfl | (simp [errW_none, errW_some] <;> rfl) | (simp [*, errW_none, errW_some] <;> rfl), by repeat (first | (with_reducible first | exact HB.out | apply below_alloc | apply pw_below_drewN | apply below_drew1 | refine below_set ?_ GE102.out) | exact HB.out)⟩ } }
  {
  rw [if_neg c25] at H
  have c25b0 : decide (a1_1 < a0) = false := decide_eq_false c25
  clear c25
  obtain rfl := Option.some.inj H
  have hcz37_0 : wc.cell? ⟨gb102, 0, none⟩ = some (.int .i64 a1_0) := (blk_cell BK102.out 0).trans rfl
  have hcz37_1 : wc.cell? ⟨gb102, 1, none⟩ = some (.int .i64 a1_1) := (blk_cell BK102.out 1).trans rfl
  have hcz37_2 : wc.cell? ⟨gb102, 2, none⟩ = some (.int .i64 a1_2) := (blk_cell BK102.out 2).trans rfl
  have hcz37_3 : wc.cell? ⟨gb102, 3, none⟩ = some (.slice A1_3 l1_3.length c1_3) := (blk_cell BK102.out 3).trans rfl
  have hfz37_0 := blk_frozen BK102.out 0
  have hfz37_1 := blk_frozen BK102.out 1
  have hfz37_2 := blk_frozen BK102.out 2
  have hfz37_3 := blk_frozen BK102.out 3
  go_wp2
  go_ret
  exact ⟨by first | rfl | (simp [errW_none, errW_some] <;> rfl) | (simp [*, errW_none, errW_some] <;> rfl), by repeat (first | (with_reducible first | exact HB.out | apply below_alloc | apply pw_below_drewN | apply below_drew1 | refine below_set ?_ GE102.out) | exact HB.out)⟩ } }
  {
  rw [if_neg c24] at H
  have c24b0 : decide (0 ≤ a1_1) = false := decide_eq_false c24
  clear c24
  obtain rfl := Option.some.inj H
  have hcz38_0 : wc.cell? ⟨gb102, 0, none⟩ = some (.int .i64 a1_0) := (blk_cell BK102.out 0).trans rfl
  have hcz38_1 : wc.cell? ⟨gb102, 1, none⟩ = some (.int .i64 a1_1) := (blk_cell BK102.out 1).trans rfl
  have hcz38_2 : wc.cell? ⟨gb102, 2, none⟩ = some (.int .i64 a1_2) := (blk_cell BK102.out 2).trans rfl
  have hcz38_3 : wc.cell? ⟨gb102, 3, none⟩ = some (.slice A1_3 l1_3.length c1_3) := (blk_cell BK102.out 3).trans rfl
  have hfz38_0 := blk_frozen BK102.out 0
  have hfz38_1 := blk_frozen BK102.out 1
  have hfz38_2 := blk_frozen BK102.out 2
  have hfz38_3 := blk_frozen BK102.out 3
  go_wp2
  go_ret
  exact ⟨by first | rfl | (simp [errW_none, errW_some] <;> rfl) | (simp [*, errW_none, errW_some] <;> rfl), by repeat (first | (with_reducible first | exact HB.out | apply below_alloc | apply pw_below_drewN | apply below_drew1 | refine below_set ?_ GE102.out) | exact HB.out)⟩ } } }
  {
  replace c7 := Bool.eq_false_iff.mpr c7
  subst c7
  have H1 : (if a1_0 = 3 then (if a1_1 = 0 then (if a1_2 = 0 then (if (l1_3.length : Int) ≤ 64 then ((script_within.f kj2 32 l1_3).bind fun t111 => (some t111)) else (some false)) else (some false)) else (some false)) else (some false)) = some r := by rw [if_neg (show ¬ (false = true) by decide)] at H; exact H
  clear H
  have H := H1
  clear H1
  by_cases c39 : a1_0 = 3
  {
  rw [if_pos c39] at H
  have c39b0 : (a1_0 == 3) = true := beq_iff_eq.mpr c39
  have c39b1 : (a1_0 != 3) = false := bne_eq_false_iff_eq.mpr c39
  clear c39
  by_cases c40 : a1_1 = 0
  {
  rw [if_pos c40] at H
  have c40b0 : (a1_1 == 0) = true := beq_iff_eq.mpr c40
  have c40b1 : (a1_1 != 0) = false := bne_eq_false_iff_eq.mpr c40
  clear c40
  by_cases c41 : a1_2 = 0
  {
  rw [if_pos c41] at H
  have c41b0 : (a1_2 == 0) = true := beq_iff_eq.mpr c41
  have c41b1 : (a1_2 != 0) = false := bne_eq_false_iff_eq.mpr c41
  clear c41
  by_cases c42 : (l1_3.length : Int) ≤ 64
  {
  rw [if_pos c42] at H
  have c42b0 : decide ((l1_3.length : Int) ≤ 64) = true := decide_eq_true c42
  have c42b1 : decide (l1_3.length ≤ 64) = true := decide_eq_true (by omega)
  clear c42
  replace H := Option.bind_eq_some_iff.mp H
  obtain ⟨t111, A430, H⟩ := H
  replace H : (some t111) = some r := H
  have A43 := aS A430
  clear A430
  obtain rfl := Option.some.inj H
  have hcz44_0 : wc.cell? ⟨gb102, 0, none⟩ = some (.int .i64 a1_0) := (blk_cell BK102.out 0).trans rfl
  have hcz44_1 : wc.cell? ⟨gb102, 1, none⟩ = some (.int .i64 a1_1) := (blk_cell BK102.out 1).trans rfl
  have hcz44_2 : wc.cell? ⟨gb102, 2, none⟩ = some (.int .i64 a1_2) := (blk_cell BK102.out 2).trans rfl
  have hcz44_3 : wc.cell? ⟨gb102, 3, none⟩ = some (.slice A1_3 l1_3.length c1_3) := (blk_cell BK102.out 3).trans rfl
  have hfz44_0 := blk_frozen BK102.out 0
  have hfz44_1 := blk_frozen BK102.out 1
  have hfz44_2 := blk_frozen BK102.out 2
  have hfz44_3 := blk_frozen BK102.out 3
  go_wp2_with (first | (go_at_call 24; (with_reducible refine (script_within.calls kj2 32 _ _ l1_3 t111 _ ?side1 ?side2 A43.out).mono ?_); (case side1 => exact Kd.C_below HR1_3.out bb); (case side2 => exact HC1_3.out); rintro e w' ⟨rfl, ⟨nd, rfl⟩⟩))
  go_ret
  exact ⟨by first | rfl | (simp [errW_none, errW_some] <;> rfl) | (simp [*, errW_none, errW_some] <;> rfl), by repeat (first | (with_reducible first | exact HB.out | apply below_alloc | apply pw_below_drewN | apply below_drew1 | refine below_set ?_ GE102.out) | exact HB.out)⟩ }
  {
  rw [if_neg c42] at H
  have c42b0 : decide ((l1_3.length : Int) ≤ 64) = false := decide_eq_false c42
  have c42b1 : decide (l1_3.length ≤ 64) = false := decide_eq_false (by omega)
  clear c42
  obtain rfl := Option.some.inj H
  have hcz45_0 : wc.cell? ⟨gb102, 0, none⟩ = some (.int .i64 a1_0) := (blk_cell BK102.out 0).trans rfl
  have hcz45_1 : wc.cell? ⟨gb102, 1, none⟩ = some (.int .i64 a1_1) := (blk_cell BK102.out 1).trans rfl
  have hcz45_2 : wc.cell? ⟨gb102, 2, none⟩ = some (.int .i64 a1_2) := (blk_cell BK102.out 2).trans rfl
  have hcz45_3 : wc.cell? ⟨gb102, 3, none⟩ = some (.slice A1_3 l1_3.length c1_3) := (blk_cell BK102.out 3).trans rfl
  have hfz45_0 := blk_frozen BK102.out 0
  have hfz45_1 := blk_frozen BK102.out 1
  have hfz45_2 := blk_frozen BK102.out 2
  have hfz45_3 := blk_frozen BK102.out 3
  go_wp2
  go_ret
  exact ⟨by first | rfl | (simp [errW_none, errW_some] <;> rfl) | (simp [*, errW_none, errW_some] <;> rfl), by repeat (first | (with_reducible first | exact HB.out | apply below_alloc | apply pw_below_drewN | apply below_drew1 | refine below_set ?_ GE102.out) | exact HB.out)⟩ } }
  {
  rw [if_neg c41] at H
  have c41b0 : (a1_2 == 0) = false := beq_eq_false_iff_ne.mpr c41
  have c41b1 : (a1_2 != 0) = true := bne_iff_ne.mpr c41
  obtain rfl := Option.some.inj H
  have hcz46_0 : wc.cell? ⟨gb102, 0, none⟩ = some (.int .i64 a1_0) := (blk_cell BK102.out 0).trans rfl
  have hcz46_1 : wc.cell? ⟨gb102, 1, none⟩ = some (.int .i64 a1_1) := (blk_cell BK102.out 1).trans rfl
  have hcz46_2 : wc.cell? ⟨gb102, 2, none⟩ = some (.int .i64 a1_2) := (blk_cell BK102.out 2).trans rfl
  have hcz46_3 : wc.cell? ⟨gb102, 3, none⟩ = some (.slice A1_3 l1_3.length c1_3) := (blk_cell BK102.out 3).trans rfl
  have hfz46_0 := blk_frozen BK102.out 0
  have hfz46_1 := blk_frozen BK102.out 1
  have hfz46_2 := blk_frozen BK102.out 2
  have hfz46_3 := blk_frozen BK102.out 3
  go_wp2
  go_ret
  exact ⟨by first | rfl | (simp [errW_none, errW_some] <;> rfl) | (simp [*, errW_none, errW_some] <;> rfl), by repeat (first | (with_reducible first | exact HB.out | apply below_alloc | apply pw_below_drewN | apply below_drew1 | refine below_set ?_ GE102.out) | exact HB.out)⟩ } }
  {
  rw [if_neg c40] at H
  have c40b0 : (a1_1 == 0) = false := beq_eq_false_iff_ne.mpr c40
  have c40b1 : (a1_1 != 0) = true := bne_iff_ne.mpr c40
  obtain rfl := Option.some.inj H
  have hcz47_0 : wc.cell? ⟨gb102, 0, none⟩ = some (.int .i64 a1_0) := (blk_cell BK102.out 0).trans rfl
  have hcz47_1 : wc.cell? ⟨gb102, 1, none⟩ = some (.int .i64 a1_1) := (blk_cell BK102.out 1).trans rfl
  have hcz47_2 : wc.cell? ⟨gb102, 2, none⟩ = some (.int .i64 a1_2) := (blk_cell BK102.out 2).trans rfl
  have hcz47_3 : wc.cell? ⟨gb102, 3, none⟩ = some (.slice A1_3 l1_3.length c1_3) := (blk_cell BK102.out 3).trans rfl
  have hfz47_0 := blk_frozen BK102.out 0
  have hfz47_1 := blk_frozen BK102.out 1
  have hfz47_2 := blk_frozen BK102.out 2
  have hfz47_3 := blk_frozen BK102.out 3
  go_wp2
  go_ret
  exact ⟨by first | rfl | (simp [errW_none, errW_some] <;> rfl) | (simp [*, errW_none, errW_some] <;> rfl), by repeat (first | (with_reducible first | exact HB.out | apply below_alloc | apply pw_below_drewN | apply below_drew1 | refine below_set ?_ GE102.out) | exact HB.out)⟩ } }
  {
  rw [if_neg c39] at H
  have c39b0 : (a1_0 == 3) = false := beq_eq_false_iff_ne.mpr c39
  have c39b1 : (a1_0 != 3) = true := bne_iff_ne.mpr c39
  obtain rfl := Option.some.inj H
  go_wp2
  go_ret
  exact ⟨by first | rfl | (simp [errW_none, errW_some] <;> rfl) | (simp [*, errW_none, errW_some] <;> rfl), by repeat (first | (with_reducible first | exact HB.out | apply below_alloc | apply pw_below_drewN | apply below_drew1 | refine below_set ?_ GE102.out) | exact HB.out)⟩ } } }

end Go.Proofs.YtcnclgneldonfaaDoor.P
