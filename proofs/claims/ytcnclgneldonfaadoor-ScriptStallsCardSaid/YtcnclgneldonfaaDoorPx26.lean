-- Written by pp.py (this session's program over the kit's printer): functions, contracts. Not trusted: Lean checks it.
import Derived.Test.YtcnclgneldonfaaDoorPx0
import Derived.Test.YtcnclgneldonfaaDoorYZ
import Derived.Test.YtcnclgneldonfaaDoorPx24
import Derived.Test.YtcnclgneldonfaaDoorPx25
import Derived.Test.YtcnclgneldonfaaDoorHb
import Derived.Test.YtcnclgneldonfaaDoorHc
namespace Go.Proofs.YtcnclgneldonfaaDoor.P
open Go.RowKit Go.Proofs.YtcnclgneldonfaaDoorW.PrintWords Go.Proofs.YtcnclgneldonfaaDoorW.PrintLast Go.Proofs.YtcnclgneldonfaaDoorW.PrintMore
attribute [local go_sem] max2_int min2_int max_two min_two max_three min_three max_four min_four   -- for this text's walks alone
set_option linter.unusedVariables false
set_option linter.unusedSimpArgs false

/-! ### hallmootlaw27_ScriptStalls: function 3 -/
def hallmootlaw27_ScriptStalls.l0 : Nat → Int → List Int → Bool → List (S26) → List (S26) → Int → Option (Bool)
  | 0, _, _, _, _, _, _ => none
  | k + 1, x0, x1, x5, x6, x7, x8 => if x8 < (x1.length : Int) then (if 0 ≤ x8 then (if x6.length < 2932031007402 then ((some (x6 ++ [(⟨1, wrap64 (Int.tmod (rd x1 x8) 3), 0, ([] : List Int)⟩ : S26)] : List (S26))).bind fun y172 => (if (wrap64 (Int.tmod (rd x1 x8) 3)) = 1 then (if (wrap64 (x8 + 1)) > (wrap64 (x0)) then (if x7.length < 2932031007402 then (hallmootlaw27_ScriptStalls.l0 k x0 x1 x5 y172 (x7 ++ [(⟨1, wrap64 (Int.tmod (rd x1 x8) 3), 0, ([] : List Int)⟩ : S26)]) (wrap64 (x8 + 1))) else (none)) else (hallmootlaw27_ScriptStalls.l0 k x0 x1 x5 y172 x7 (wrap64 (x8 + 1)))) else (if x7.length < 2932031007402 then (hallmootlaw27_ScriptStalls.l0 k x0 x1 x5 y172 (x7 ++ [(⟨1, wrap64 (Int.tmod (rd x1 x8) 3), 0, ([] : List Int)⟩ : S26)]) (wrap64 (x8 + 1))) else (none)))) else (none)) else (none)) else (if x5 = true then ((sPlain.f 3 x6).bind fun t181 => ((hallmootref27_Same.f k t181 x7).bind fun t184 => (some t184))) else (none))
def hallmootlaw27_ScriptStalls.f (k : Nat) (a0 : Int) (l1 : List Int) : Option (Bool) := (hallmootlaw27_sanity.f k).bind fun t166 => (if (l1.length : Int) > 200 then (some t166) else (hallmootlaw27_ScriptStalls.l0 k a0 l1 t166 (([(⟨2, 1, wrap64 (a0), ([] : List Int)⟩ : S26)] : List (S26))) ([] : List (S26)) 0))
theorem hallmootlaw27_ScriptStalls.mono_l : ∀ k, (∀ y0 y1 y2 y3 y4 y5, LeO (hallmootlaw27_ScriptStalls.l0 k y0 y1 y2 y3 y4 y5) (hallmootlaw27_ScriptStalls.l0 (k + 1) y0 y1 y2 y3 y4 y5))
  | 0 => fun _ _ _ _ _ _ r h => by simp [hallmootlaw27_ScriptStalls.l0] at h
  | k + 1 => by
    have ih0 := hallmootlaw27_ScriptStalls.mono_l k
    · intro y0 y1 y2 y3 y4 y5
      unfold hallmootlaw27_ScriptStalls.l0
      repeat' first
      | (with_reducible exact ih0 _ _ _ _ _ _)
      | (with_reducible exact hallmootlaw27_sanity.mono _)
      | (with_reducible exact hallmootref27_Same.mono _ _ _)
      | (with_reducible exact LeO.refl _)
      | (with_reducible exact LeO.none _)
      | (with_reducible refine LeO.ite ?_ ?_)
      | (with_reducible refine LeO.bind ?_ (fun _ => ?_))
      | exact ih0 _ _ _ _ _ _
      | exact hallmootlaw27_sanity.mono _
      | exact hallmootref27_Same.mono _ _ _
      | exact LeO.none _
      | refine LeO.ite ?_ ?_
      | refine LeO.bind ?_ (fun _ => ?_)
theorem hallmootlaw27_ScriptStalls.mono : ∀ a0 a1 k, LeO (hallmootlaw27_ScriptStalls.f k a0 a1) (hallmootlaw27_ScriptStalls.f (k + 1) a0 a1) := by
 intro a0 a1 k
 have ih0 := hallmootlaw27_ScriptStalls.mono_l k
 unfold hallmootlaw27_ScriptStalls.f
 repeat' first | (with_reducible exact ih0 _ _ _ _ _ _) | (with_reducible exact hallmootlaw27_sanity.mono _) | (with_reducible exact hallmootref27_Same.mono _ _ _) | (with_reducible exact LeO.refl _) | (with_reducible exact LeO.none _) | (with_reducible refine LeO.ite ?_ ?_) | (with_reducible refine LeO.bind ?_ (fun _ => ?_)) | exact ih0 _ _ _ _ _ _ | exact hallmootlaw27_sanity.mono _ | exact hallmootref27_Same.mono _ _ _ | exact LeO.none _ | refine LeO.ite ?_ ?_ | refine LeO.bind ?_ (fun _ => ?_)
set_option maxHeartbeats 8000000 in
set_option maxRecDepth 100000 in
theorem hallmootlaw27_ScriptStalls.calls (k : Nat) (a0 : Int) (A1 : Option Addr) (c1 : Nat) (l1 : List Int) (r : Bool) (w : World) (hr1 : Kd.C (Kd.int .u8) w A1 l1.length l1) (hc1 : l1.length ≤ c1) (h : hallmootlaw27_ScriptStalls.f k a0 l1 = some r) (hL : Laid w) : Calls Tryd.prog 3 #[.int .u8 a0, .slice A1 l1.length c1] w fun e w' => e = .returned (.bool r) ∧ Below w.heap.size w w' := by
 have hu26 := Tryd.underlying26
 have HR1 := aS hr1
 have HC1 := aS hc1
 clear hr1 hc1
 have HB := aS (Below.refl w.heap.size w)
 have H : ((hallmootlaw27_sanity.f k).bind fun t166 => (if (l1.length : Int) > 200 then (some t166) else (hallmootlaw27_ScriptStalls.l0 k a0 l1 t166 (([(⟨2, 1, wrap64 (a0), ([] : List Int)⟩ : S26)] : List (S26))) ([] : List (S26)) 0))) = some r := h
 clear h
 replace H := Option.bind_eq_some_iff.mp H
 obtain ⟨t166, A30, H⟩ := H
 replace H : (if (l1.length : Int) > 200 then (some t166) else (hallmootlaw27_ScriptStalls.l0 k a0 l1 t166 (([(⟨2, 1, wrap64 (a0), ([] : List Int)⟩ : S26)] : List (S26))) ([] : List (S26)) 0)) = some r := H
 have A3 := aS A30
 clear A30
 by_cases c4 : (l1.length : Int) > 200
 {
 rw [if_pos c4] at H
 have c4b0 : decide (200 < (l1.length : Int)) = true := decide_eq_true c4
 have c4b1 : decide (200 < l1.length) = true := decide_eq_true (by omega)
 clear c4
 obtain rfl := Option.some.inj H
 go_enter Tryd.func3, Tryd.ntmps3
 go_wp2_with (first | ((with_reducible refine gate_callee (f := 10) rfl ?_); refine goesL_ (some 10) rfl rfl Tryd.func10 (by kernel_rfl) rfl #[] rfl (by (try simp only [List.map_toArray, List.map_cons, List.map_nil]); first | done | rfl | (simp only [List.length_drop, List.length_take]; rfl)) ?_; (with_reducible refine (hallmootlaw27_sanity.calls k  t166 _ A3.out (hL.below bb)).mono ?_); rintro e w5 ⟨rfl, hb⟩; refine ⟨_, rfl, ?_⟩; have n0_ := aS (below_step bb hb); clear HB; have HB := n0_; clear n0_; (try clear hb); (try clear hb2); (try clear hk); (try clear hi)))
 go_ret
 exact ⟨by first | rfl | (simp [errW_none, errW_some] <;> rfl) | (simp [*, errW_none, errW_some] <;> rfl), by repeat (first | (with_reducible first | exact HB.out | apply below_alloc | apply pw_below_drewN | apply below_drew1) | exact HB.out)⟩ }
 {
 rw [if_neg c4] at H
 have c4b0 : decide (200 < (l1.length : Int)) = false := decide_eq_false c4
 have c4b1 : decide (200 < l1.length) = false := decide_eq_false (by omega)
 clear c4
 obtain ⟨y167, hy167⟩ : ∃ y_ : List (S26), y_ = (([(⟨2, 1, wrap64 (a0), ([] : List Int)⟩ : S26)] : List (S26))) := ⟨_, rfl⟩
 replace H : (hallmootlaw27_ScriptStalls.l0 k a0 l1 t166 y167 ([] : List (S26)) 0) = some r := by first | (rw [hy167]; with_reducible exact H) | (have H2_ := (Option.bind_some _ _).symm.trans H; rw [hy167]; with_reducible exact H2_) | (have H2_ := (Option.bind_some _ _).symm.trans H; with_reducible exact H2_) | with_reducible exact H | (rw [hy167]; exact H) | exact H
 have Ny167 := aS hy167
 clear hy167
 have H' := aS H
 clear H
 go_enter Tryd.func3, Tryd.ntmps3
 go_wp2_with (first | ((with_reducible refine gate_callee (f := 10) rfl ?_); refine goesL_ (some 10) rfl rfl Tryd.func10 (by kernel_rfl) rfl #[] rfl (by (try simp only [List.map_toArray, List.map_cons, List.map_nil]); first | done | rfl | (simp only [List.length_drop, List.length_take]; rfl)) ?_; (with_reducible refine (hallmootlaw27_sanity.calls k  t166 _ A3.out (hL.below bb)).mono ?_); rintro e w6 ⟨rfl, hb⟩; refine ⟨_, rfl, ?_⟩; have n0_ := aS (below_step bb hb); clear HB; have HB := n0_; clear n0_; (try clear hb); (try clear hb2); (try clear hk); (try clear hi)) | ((with_reducible refine gate_dst (N := 18) rfl ?_); refine Kd.S_lit k26 _ 26 ?hg (N := 18) ?hd (xs := ([(⟨2, 1, wrap64 (a0), ([] : List Int)⟩ : S26)] : List (S26))) (inner := [.int .i64 2, .int .i64 1, .int .i64 (wrap64 (a0)), .slice none 0 0]) (ok := fun _ => True) (okp := fun _ => True) ?hr ?hp (fun _ hk => hk) trivial (Below.refl _ _) (Nat.le_refl _) (by simp) ?_; (case hd => rfl); (case hg => rfl); (case hr => first | (go_simp; done) | (go_simp; rfl)); (case hp => exact (Reps.c4 (show Kd.M k26 _ _ _ (⟨2, 1, wrap64 (a0), ([] : List Int)⟩ : S26) [.int .i64 2, .int .i64 1, .int .i64 (wrap64 (a0)), .slice none 0 0] from (k26_mkM _ _ _ (⟨2, 1, wrap64 (a0), ([] : List Int)⟩ : S26) (Kd.R_nil _ _ _ _ _))) (Reps.none _ _))); intro v168 w7 ho8 hb hg_ hnew_; clear hg_ hnew_; (first | rw [← Ny167.out] at ho8 | (simp only [Int.reduceToNat] at ho8; rw [← Ny167.out] at ho8)); have n0_ := aS (Kd.S_lower ho8 bz); have n1_ := aS (below_step bb hb); clear HB; have HO169 := n0_; have HB := n1_; clear n0_ n1_; clear hb ho8))
 go_loopg [6, 7, 8] k (fun kq v6 v7 v8 w' => ∃ (x6_1 : List (S26)) (x7_1 : List (S26)) (x8_1 : Int), v8 = .int .i64 x8_1 ∧ Aside0 (hallmootlaw27_ScriptStalls.l0 kq a0 l1 t166 x6_1 x7_1 x8_1 = some r) ∧ Aside0 (kq ≤ k) ∧ Aside0 (Kd.S k26 26 w' w.heap.size (fun k_ => some k_ ≠ (v7 : Value).ownBlock) v6 x6_1) ∧ Aside0 (Kd.S k26 26 w' w.heap.size (fun k_ => some k_ ≠ (v6 : Value).ownBlock) v7 x7_1) ∧ Aside0 (Below w.heap.size w w'))
 case atStart => exact ⟨(y167), (([] : List (S26))), (0), (by first | rfl | (simp; done) | (simp [*]; done)), H', ⟨Nat.le_refl _⟩, ⟨by (with_reducible repeat (first | apply Kd.S_alloc | apply Kd.S_drewN | apply Kd.S_drew)); exact Kd.S_mono HO169.out (fun _ hk => (by simp [Value.ownBlock]))⟩, ⟨by first | exact Kd.S_nil _ _ _ _ _ | exact Kd.N_nil _ _ _ _ _ | exact Kd.V_nil _ _ _ _ _ | exact Kd.Q_nil _ _ _ _ _ | exact Kd.R_nil _ _ _ _ _⟩, ⟨by repeat (first | (with_reducible first | exact HB.out | apply below_alloc | apply pw_below_drewN | apply below_drew1) | exact HB.out)⟩⟩
 case round =>
  clear H'
  try clear c1
  try clear p2
  try clear c3
  try clear c4
  try clear c4b0
  try clear c4b1
  try clear p6
  obtain ⟨x6_1, x7_1, x8_1, rfl, HA, HK1, HO_6, HO_7, HB⟩ := hrel
  cases gk with
  | zero => exact absurd HA.out (by simp [hallmootlaw27_ScriptStalls.l0])
  | succ k1 => {
  have H := HA.out
  clear HA
  simp only [hallmootlaw27_ScriptStalls.l0] at H
  by_cases c9 : x8_1 < (l1.length : Int)
  {
  rw [if_pos c9] at H
  have c9b0 : decide (x8_1 < (l1.length : Int)) = true := decide_eq_true c9
  clear c9
  by_cases c10 : 0 ≤ x8_1
  {
  rw [if_pos c10] at H
  have c10b0 : decide (0 ≤ x8_1) = true := decide_eq_true c10
  clear c10
  by_cases c11 : x6_1.length < 2932031007402
  {
  rw [if_pos c11] at H
  have LMc11 := aS c11
  clear c11
  obtain ⟨y172, hy172⟩ : ∃ y_ : List (S26), y_ = (x6_1 ++ [(⟨1, wrap64 (Int.tmod (rd l1 x8_1) 3), 0, ([] : List Int)⟩ : S26)]) := ⟨_, rfl⟩
  replace H : (if (wrap64 (Int.tmod (rd l1 x8_1) 3)) = 1 then (if (wrap64 (x8_1 + 1)) > (wrap64 (a0)) then (if x7_1.length < 2932031007402 then (hallmootlaw27_ScriptStalls.l0 k1 a0 l1 t166 y172 (x7_1 ++ [(⟨1, wrap64 (Int.tmod (rd l1 x8_1) 3), 0, ([] : List Int)⟩ : S26)]) (wrap64 (x8_1 + 1))) else (none)) else (hallmootlaw27_ScriptStalls.l0 k1 a0 l1 t166 y172 x7_1 (wrap64 (x8_1 + 1)))) else (if x7_1.length < 2932031007402 then (hallmootlaw27_ScriptStalls.l0 k1 a0 l1 t166 y172 (x7_1 ++ [(⟨1, wrap64 (Int.tmod (rd l1 x8_1) 3), 0, ([] : List Int)⟩ : S26)]) (wrap64 (x8_1 + 1))) else (none))) = some r := by first | (rw [hy172]; with_reducible exact H) | (have H2_ := (Option.bind_some _ _).symm.trans H; rw [hy172]; with_reducible exact H2_) | (have H2_ := (Option.bind_some _ _).symm.trans H; with_reducible exact H2_) | with_reducible exact H | (rw [hy172]; exact H) | exact H
  have Ny172 := aS hy172
  clear hy172
  by_cases c12 : (wrap64 (Int.tmod (rd l1 x8_1) 3)) = 1
  {
  rw [if_pos c12] at H
  have c12b0 : ((wrap64 (Int.tmod (rd l1 x8_1) 3)) == 1) = true := beq_iff_eq.mpr c12
  have c12b1 : ((wrap64 (Int.tmod (rd l1 x8_1) 3)) != 1) = false := bne_eq_false_iff_eq.mpr c12
  clear c12
  by_cases c13 : (wrap64 (x8_1 + 1)) > (wrap64 (a0))
  {
  rw [if_pos c13] at H
  have c13b0 : decide ((wrap64 (a0)) < (wrap64 (x8_1 + 1))) = true := decide_eq_true c13
  clear c13
  by_cases c14 : x7_1.length < 2932031007402
  {
  rw [if_pos c14] at H
  have LMc14 := aS c14
  clear c14
  obtain ⟨y175, hy175⟩ : ∃ y_ : List (S26), y_ = (x7_1 ++ [(⟨1, wrap64 (Int.tmod (rd l1 x8_1) 3), 0, ([] : List Int)⟩ : S26)]) := ⟨_, rfl⟩
  replace H : (hallmootlaw27_ScriptStalls.l0 k1 a0 l1 t166 y172 y175 (wrap64 (x8_1 + 1))) = some r := by first | (rw [hy175]; with_reducible exact H) | (have H2_ := (Option.bind_some _ _).symm.trans H; rw [hy175]; with_reducible exact H2_) | (have H2_ := (Option.bind_some _ _).symm.trans H; with_reducible exact H2_) | with_reducible exact H | (rw [hy175]; exact H) | exact H
  have Ny175 := aS hy175
  clear hy175
  have H' := aS H
  clear H
  have p170 : 0 ≤ (x8_1 : Int) := dd
  have q170 : x8_1 < (l1.length : Int) := dd
  obtain ⟨ad170, e170, hx170_0⟩ := Kd.at_int HR1.out x8_1 p170 q170
  cases e170
  replace hx170_0 := cc HB.out hx170_0
  replace p170 := eq_true p170
  replace q170 := eq_true q170
  go_wp2_with (first | ((with_reducible refine gate_dst (N := 9) rfl ?_); refine box_event ?hg (N := 9) ?hd (cs := #[.int .i64 0, .int .i64 0, .int .i64 0, .slice none 0 0]) (t := 26) ?hr ?_; (case hd => rfl); (case hg => rfl); (case hr => first | (go_simp; done) | (go_simp; rfl)); intro gb171 hg w15 hbox hb; have n0_ := aS (Kd.S_below (Kd.S_elderB (by (with_reducible repeat (first | apply Kd.S_alloc | apply Kd.S_drewN | apply Kd.S_drew)); exact HO_6.out) gb171 (Nat.le_of_eq hg.symm)) hb); have n1_ := aS (Kd.S_below (Kd.S_elderB (by (with_reducible repeat (first | apply Kd.S_alloc | apply Kd.S_drewN | apply Kd.S_drew)); exact HO_7.out) gb171 (Nat.le_of_eq hg.symm)) hb); have n2_ := aS (below_step bb hb); have n3_ := aS (hbox); have n4_ := aS ((by rw [hg]; exact bz : w.heap.size ≤ gb171)); have n5_ := aS ((by rw [hg]; exact bz : w.heap.size ≤ gb171)); clear HO_6; clear HO_7; clear HB; have HO_6 := n0_; have HO_7 := n1_; have HB := n2_; have BK171 := n3_; have GW171 := n4_; have GE171 := n5_; clear n0_ n1_ n2_ n3_ n4_ n5_; clear hb hbox hg; have hcz16_0 : w15.cell? ⟨gb171, 0, none⟩ = some (.int .i64 0) := (blk_cell BK171.out 0).trans rfl; have hcz16_1 : w15.cell? ⟨gb171, 1, none⟩ = some (.int .i64 0) := (blk_cell BK171.out 1).trans rfl; have hcz16_2 : w15.cell? ⟨gb171, 2, none⟩ = some (.int .i64 0) := (blk_cell BK171.out 2).trans rfl; have hcz16_3 : w15.cell? ⟨gb171, 3, none⟩ = some (.slice none 0 0) := (blk_cell BK171.out 3).trans rfl; have hfz16_0 := blk_frozen BK171.out 0; have hfz16_1 := blk_frozen BK171.out 1; have hfz16_2 := blk_frozen BK171.out 2; have hfz16_3 := blk_frozen BK171.out 3) | ((with_reducible refine gate_builtin (b := .append) (xs := #[.tmp 32, .tmp 34]) rfl ?_); at_builtin; refine Kd.S_append k26 (w0 := w) w.heap.size rfl (.tmp 32) (.tmp 34) 27 26 (.agg #[(.int .i64 0), (.int .i64 0), (.int .i64 0), (.slice none 0 0)]) 48 rfl Tryd.underlying27 info26 rfl (by decide) (by omega) u6 x6_1 (⟨1, wrap64 (Int.tmod (rd l1 x8_1) 3), 0, ([] : List Int)⟩ : S26) [.int .i64 1, .int .i64 (wrap64 (Int.tmod (rd l1 x8_1) 3)), .int .i64 0, .slice none 0 0] (fun k_ => some k_ ≠ (u7 : Value).ownBlock ∧ k_ ≠ gb171) (fun _ => False) rfl (by first | (go_simp; done) | (go_simp; rfl)) ?aP (fun k_ hk_ => hk_.elim) ?aF ?aO ?aB ?aS ?aL ?_; (case aP => exact k26_mkM _ _ _ (⟨1, wrap64 (Int.tmod (rd l1 x8_1) 3), 0, ([] : List Int)⟩ : S26) (Kd.R_nil _ _ _ _ _)); (case aB => exact bb); (case aF => exact (fun k_ hk => ⟨Kd.fresh' (Kd.S_lt (by (with_reducible repeat (first | apply Kd.S_alloc | apply Kd.S_drewN | apply Kd.S_drew)); exact (Kd.S_mono (Kd.S_far (p := ⟨gb171, 3, none⟩) (Kd.S_far (p := ⟨gb171, 2, none⟩) (Kd.S_far (p := ⟨gb171, 1, none⟩) (Kd.S_far (p := ⟨gb171, 0, none⟩) (Kd.S_mono HO_7.out (fun k_ hk => (⟨hk, hk.2⟩ : _ ∧ k_ ≠ gb171))) (fun _ hk => hk.2) (.int .i64 1)) (fun _ hk => hk.2) (.int .i64 (wrap64 (Int.tmod (rd l1 x8_1) 3)))) (fun _ hk => hk.2) (.int .i64 0)) (fun _ hk => hk.2) (.slice none 0 0)) (fun _ h_ => h_.1)))) k_ hk, Kd.freshB (g := gb171) (o := .cells #[.int .i64 1, .int .i64 (wrap64 (Int.tmod (rd l1 x8_1) 3)), .int .i64 0, .slice none 0 0] 26 (0, 0)) (by (with_reducible repeat (first | refine blk_drewN ?_ _ | refine blk_drew ?_ | refine blk_alloc ?_ _)); refine blk_put (cs := #[.int .i64 1, .int .i64 (wrap64 (Int.tmod (rd l1 x8_1) 3)), .int .i64 0, .slice none 0 0]) ?_ 3 _ rfl; (with_reducible repeat (first | refine blk_drewN ?_ _ | refine blk_drew ?_ | refine blk_alloc ?_ _)); refine blk_put (cs := #[.int .i64 1, .int .i64 (wrap64 (Int.tmod (rd l1 x8_1) 3)), .int .i64 0, .slice none 0 0]) ?_ 2 _ rfl; (with_reducible repeat (first | refine blk_drewN ?_ _ | refine blk_drew ?_ | refine blk_alloc ?_ _)); refine blk_put (cs := #[.int .i64 1, .int .i64 0, .int .i64 0, .slice none 0 0]) ?_ 1 _ rfl; (with_reducible repeat (first | refine blk_drewN ?_ _ | refine blk_drew ?_ | refine blk_alloc ?_ _)); refine blk_put (cs := #[.int .i64 0, .int .i64 0, .int .i64 0, .slice none 0 0]) ?_ 0 _ rfl; (with_reducible repeat (first | refine blk_drewN ?_ _ | refine blk_drew ?_ | refine blk_alloc ?_ _)); exact BK171.out) k_ hk⟩)); (case aO => exact (by (with_reducible repeat (first | apply Kd.S_alloc | apply Kd.S_drewN | apply Kd.S_drew)); exact Kd.S_mono (Kd.S_far (p := ⟨gb171, 3, none⟩) (Kd.S_far (p := ⟨gb171, 2, none⟩) (Kd.S_far (p := ⟨gb171, 1, none⟩) (Kd.S_far (p := ⟨gb171, 0, none⟩) (Kd.S_mono HO_6.out (fun k_ hk => (⟨hk, hk.2⟩ : _ ∧ k_ ≠ gb171))) (fun _ hk => hk.2) (.int .i64 1)) (fun _ hk => hk.2) (.int .i64 (wrap64 (Int.tmod (rd l1 x8_1) 3)))) (fun _ hk => hk.2) (.int .i64 0)) (fun _ hk => hk.2) (.slice none 0 0)) (fun k_ hk => ⟨⟨hk.1.1, hk.1.2⟩, fun e_ => e_⟩))); (case aS => exact bz); (case aL => have := LMc11.out; omega); intro v173 w17 ho hb hg hat; rw [← Ny172.out] at ho; have n0_ := aS (Kd.S_after (ok := (fun k_ => k_ ≠ gb171)) (by (with_reducible repeat (first | apply Kd.S_alloc | apply Kd.S_drewN | apply Kd.S_drew)); exact Kd.S_mono (Kd.S_far (p := ⟨gb171, 3, none⟩) (Kd.S_far (p := ⟨gb171, 2, none⟩) (Kd.S_far (p := ⟨gb171, 1, none⟩) (Kd.S_far (p := ⟨gb171, 0, none⟩) (Kd.S_mono HO_7.out (fun k_ hk => (⟨hk, hk.2⟩ : _ ∧ k_ ≠ gb171))) (fun _ hk => hk.2) (.int .i64 1)) (fun _ hk => hk.2) (.int .i64 (wrap64 (Int.tmod (rd l1 x8_1) 3)))) (fun _ hk => hk.2) (.int .i64 0)) (fun _ hk => hk.2) (.slice none 0 0)) (fun _ hk => ⟨hk.1.2, hk.1.1⟩)) hg hat); have n1_ := aS (blk_grown (g := gb171) (o := .cells #[.int .i64 1, .int .i64 (wrap64 (Int.tmod (rd l1 x8_1) 3)), .int .i64 0, .slice none 0 0] 26 (0, 0)) (by (with_reducible repeat (first | refine blk_drewN ?_ _ | refine blk_drew ?_ | refine blk_alloc ?_ _)); refine blk_put (cs := #[.int .i64 1, .int .i64 (wrap64 (Int.tmod (rd l1 x8_1) 3)), .int .i64 0, .slice none 0 0]) ?_ 3 _ rfl; (with_reducible repeat (first | refine blk_drewN ?_ _ | refine blk_drew ?_ | refine blk_alloc ?_ _)); refine blk_put (cs := #[.int .i64 1, .int .i64 (wrap64 (Int.tmod (rd l1 x8_1) 3)), .int .i64 0, .slice none 0 0]) ?_ 2 _ rfl; (with_reducible repeat (first | refine blk_drewN ?_ _ | refine blk_drew ?_ | refine blk_alloc ?_ _)); refine blk_put (cs := #[.int .i64 1, .int .i64 0, .int .i64 0, .slice none 0 0]) ?_ 1 _ rfl; (with_reducible repeat (first | refine blk_drewN ?_ _ | refine blk_drew ?_ | refine blk_alloc ?_ _)); refine blk_put (cs := #[.int .i64 0, .int .i64 0, .int .i64 0, .slice none 0 0]) ?_ 0 _ rfl; (with_reducible repeat (first | refine blk_drewN ?_ _ | refine blk_drew ?_ | refine blk_alloc ?_ _)); exact BK171.out) hg (Kd.S_away HO_6.out (fun _ hk => hk.2))); have n2_ := aS (hb); have n3_ := aS (ho); clear HO_7; clear BK171; clear HB; clear HO_6; have HO_7 := n0_; have BK171 := n1_; have HB := n2_; have HO174 := n3_; clear n0_ n1_ n2_ n3_; clear ho hb hg hat; have hcz18_0 : w17.cell? ⟨gb171, 0, none⟩ = some (.int .i64 1) := (blk_cell BK171.out 0).trans rfl; have hcz18_1 : w17.cell? ⟨gb171, 1, none⟩ = some (.int .i64 (wrap64 (Int.tmod (rd l1 x8_1) 3))) := (blk_cell BK171.out 1).trans rfl; have hcz18_2 : w17.cell? ⟨gb171, 2, none⟩ = some (.int .i64 0) := (blk_cell BK171.out 2).trans rfl; have hcz18_3 : w17.cell? ⟨gb171, 3, none⟩ = some (.slice none 0 0) := (blk_cell BK171.out 3).trans rfl; have hfz18_0 := blk_frozen BK171.out 0; have hfz18_1 := blk_frozen BK171.out 1; have hfz18_2 := blk_frozen BK171.out 2; have hfz18_3 := blk_frozen BK171.out 3) | ((with_reducible refine gate_builtin (b := .append) (xs := #[.tmp 46, .tmp 48]) rfl ?_); at_builtin; refine Kd.S_append k26 (w0 := w) w.heap.size rfl (.tmp 46) (.tmp 48) 27 26 (.agg #[(.int .i64 0), (.int .i64 0), (.int .i64 0), (.slice none 0 0)]) 48 rfl Tryd.underlying27 info26 rfl (by decide) (by omega) u7 x7_1 (⟨1, wrap64 (Int.tmod (rd l1 x8_1) 3), 0, ([] : List Int)⟩ : S26) [.int .i64 1, .int .i64 (wrap64 (Int.tmod (rd l1 x8_1) 3)), .int .i64 0, .slice none 0 0] (fun k_ => some k_ ≠ (v173 : Value).ownBlock ∧ k_ ≠ gb171) (fun _ => False) rfl rfl ?aP (fun k_ hk_ => hk_.elim) ?aF ?aO ?aB ?aS ?aL ?_; (case aP => exact k26_mkM _ _ _ (⟨1, wrap64 (Int.tmod (rd l1 x8_1) 3), 0, ([] : List Int)⟩ : S26) (Kd.R_nil _ _ _ _ _)); (case aB => exact bb); (case aF => exact (fun k_ hk => ⟨Kd.fresh' (Kd.S_lt (by (with_reducible repeat (first | apply Kd.S_alloc | apply Kd.S_drewN | apply Kd.S_drew)); exact HO174.out)) k_ hk, Kd.freshB (g := gb171) (o := .cells #[.int .i64 1, .int .i64 (wrap64 (Int.tmod (rd l1 x8_1) 3)), .int .i64 0, .slice none 0 0] 26 (0, 0)) (kk BK171.out) k_ hk⟩)); (case aO => exact (by (with_reducible repeat (first | apply Kd.S_alloc | apply Kd.S_drewN | apply Kd.S_drew)); exact Kd.S_mono HO_7.out (fun k_ hk => ⟨⟨hk.2, hk.1⟩, fun e_ => e_⟩))); (case aS => exact bz); (case aL => have := LMc14.out; omega); intro v176 w19 ho hb hg hat; rw [← Ny175.out] at ho; have n0_ := aS (blk_grown (g := gb171) (o := .cells #[.int .i64 1, .int .i64 (wrap64 (Int.tmod (rd l1 x8_1) 3)), .int .i64 0, .slice none 0 0] 26 (0, 0)) (kk BK171.out) hg (Kd.S_away HO_7.out (fun _ hk => hk.1))); have n1_ := aS (Kd.S_after (ok := (fun k_ => k_ ≠ gb171)) (by (with_reducible repeat (first | apply Kd.S_alloc | apply Kd.S_drewN | apply Kd.S_drew)); exact Kd.S_mono HO174.out (fun _ hk => ⟨hk.2, hk.1⟩)) hg hat); have n2_ := aS (hb); have n3_ := aS (ho); clear BK171; clear HO174; clear HB; clear HO_7; have BK171 := n0_; have HO174 := n1_; have HB := n2_; have HO177 := n3_; clear n0_ n1_ n2_ n3_; clear ho hb hg hat))
  go_roundg k1
  case measure => have := HK1.out; omega
  case rel => exact ⟨(y172), (y175), (wrap64 (x8_1 + 1)), (by first | rfl | (simp; done) | (simp [*]; done)), H', ⟨by have := HK1.out; omega⟩, ⟨by (with_reducible repeat (first | apply Kd.S_alloc | apply Kd.S_drewN | apply Kd.S_drew)); exact Kd.S_mono HO174.out (fun _ hk => hk.2)⟩, ⟨by (with_reducible repeat (first | apply Kd.S_alloc | apply Kd.S_drewN | apply Kd.S_drew)); exact Kd.S_mono HO177.out (fun _ hk => hk.1)⟩, ⟨by repeat (first | (with_reducible first | exact HB.out | apply below_alloc | apply pw_below_drewN | apply below_drew1 | refine below_set ?_ GE171.out) | exact HB.out)⟩⟩ }
  {
  rw [if_neg c14] at H
  exact absurd H (by simp) } }
  {
  rw [if_neg c13] at H
  have c13b0 : decide ((wrap64 (a0)) < (wrap64 (x8_1 + 1))) = false := decide_eq_false c13
  clear c13
  have H' := aS H
  clear H
  have p170 : 0 ≤ (x8_1 : Int) := dd
  have q170 : x8_1 < (l1.length : Int) := dd
  obtain ⟨ad170, e170, hx170_0⟩ := Kd.at_int HR1.out x8_1 p170 q170
  cases e170
  replace hx170_0 := cc HB.out hx170_0
  replace p170 := eq_true p170
  replace q170 := eq_true q170
  go_wp2_with (first | ((with_reducible refine gate_dst (N := 9) rfl ?_); refine box_event ?hg (N := 9) ?hd (cs := #[.int .i64 0, .int .i64 0, .int .i64 0, .slice none 0 0]) (t := 26) ?hr ?_; (case hd => rfl); (case hg => rfl); (case hr => first | (go_simp; done) | (go_simp; rfl)); intro gb171 hg w20 hbox hb; have n0_ := aS (Kd.S_below (Kd.S_elderB (by (with_reducible repeat (first | apply Kd.S_alloc | apply Kd.S_drewN | apply Kd.S_drew)); exact HO_6.out) gb171 (Nat.le_of_eq hg.symm)) hb); have n1_ := aS (Kd.S_below (Kd.S_elderB (by (with_reducible repeat (first | apply Kd.S_alloc | apply Kd.S_drewN | apply Kd.S_drew)); exact HO_7.out) gb171 (Nat.le_of_eq hg.symm)) hb); have n2_ := aS (below_step bb hb); have n3_ := aS (hbox); have n4_ := aS ((by rw [hg]; exact bz : w.heap.size ≤ gb171)); have n5_ := aS ((by rw [hg]; exact bz : w.heap.size ≤ gb171)); clear HO_6; clear HO_7; clear HB; have HO_6 := n0_; have HO_7 := n1_; have HB := n2_; have BK171 := n3_; have GW171 := n4_; have GE171 := n5_; clear n0_ n1_ n2_ n3_ n4_ n5_; clear hb hbox hg; have hcz21_0 : w20.cell? ⟨gb171, 0, none⟩ = some (.int .i64 0) := (blk_cell BK171.out 0).trans rfl; have hcz21_1 : w20.cell? ⟨gb171, 1, none⟩ = some (.int .i64 0) := (blk_cell BK171.out 1).trans rfl; have hcz21_2 : w20.cell? ⟨gb171, 2, none⟩ = some (.int .i64 0) := (blk_cell BK171.out 2).trans rfl; have hcz21_3 : w20.cell? ⟨gb171, 3, none⟩ = some (.slice none 0 0) := (blk_cell BK171.out 3).trans rfl; have hfz21_0 := blk_frozen BK171.out 0; have hfz21_1 := blk_frozen BK171.out 1; have hfz21_2 := blk_frozen BK171.out 2; have hfz21_3 := blk_frozen BK171.out 3) | ((with_reducible refine gate_builtin (b := .append) (xs := #[.tmp 32, .tmp 34]) rfl ?_); at_builtin; refine Kd.S_append k26 (w0 := w) w.heap.size rfl (.tmp 32) (.tmp 34) 27 26 (.agg #[(.int .i64 0), (.int .i64 0), (.int .i64 0), (.slice none 0 0)]) 48 rfl Tryd.underlying27 info26 rfl (by decide) (by omega) u6 x6_1 (⟨1, wrap64 (Int.tmod (rd l1 x8_1) 3), 0, ([] : List Int)⟩ : S26) [.int .i64 1, .int .i64 (wrap64 (Int.tmod (rd l1 x8_1) 3)), .int .i64 0, .slice none 0 0] (fun k_ => some k_ ≠ (u7 : Value).ownBlock ∧ k_ ≠ gb171) (fun _ => False) rfl (by first | (go_simp; done) | (go_simp; rfl)) ?aP (fun k_ hk_ => hk_.elim) ?aF ?aO ?aB ?aS ?aL ?_; (case aP => exact k26_mkM _ _ _ (⟨1, wrap64 (Int.tmod (rd l1 x8_1) 3), 0, ([] : List Int)⟩ : S26) (Kd.R_nil _ _ _ _ _)); (case aB => exact bb); (case aF => exact (fun k_ hk => ⟨Kd.fresh' (Kd.S_lt (by (with_reducible repeat (first | apply Kd.S_alloc | apply Kd.S_drewN | apply Kd.S_drew)); exact (Kd.S_mono (Kd.S_far (p := ⟨gb171, 3, none⟩) (Kd.S_far (p := ⟨gb171, 2, none⟩) (Kd.S_far (p := ⟨gb171, 1, none⟩) (Kd.S_far (p := ⟨gb171, 0, none⟩) (Kd.S_mono HO_7.out (fun k_ hk => (⟨hk, hk.2⟩ : _ ∧ k_ ≠ gb171))) (fun _ hk => hk.2) (.int .i64 1)) (fun _ hk => hk.2) (.int .i64 (wrap64 (Int.tmod (rd l1 x8_1) 3)))) (fun _ hk => hk.2) (.int .i64 0)) (fun _ hk => hk.2) (.slice none 0 0)) (fun _ h_ => h_.1)))) k_ hk, Kd.freshB (g := gb171) (o := .cells #[.int .i64 1, .int .i64 (wrap64 (Int.tmod (rd l1 x8_1) 3)), .int .i64 0, .slice none 0 0] 26 (0, 0)) (by (with_reducible repeat (first | refine blk_drewN ?_ _ | refine blk_drew ?_ | refine blk_alloc ?_ _)); refine blk_put (cs := #[.int .i64 1, .int .i64 (wrap64 (Int.tmod (rd l1 x8_1) 3)), .int .i64 0, .slice none 0 0]) ?_ 3 _ rfl; (with_reducible repeat (first | refine blk_drewN ?_ _ | refine blk_drew ?_ | refine blk_alloc ?_ _)); refine blk_put (cs := #[.int .i64 1, .int .i64 (wrap64 (Int.tmod (rd l1 x8_1) 3)), .int .i64 0, .slice none 0 0]) ?_ 2 _ rfl; (with_reducible repeat (first | refine blk_drewN ?_ _ | refine blk_drew ?_ | refine blk_alloc ?_ _)); refine blk_put (cs := #[.int .i64 1, .int .i64 0, .int .i64 0, .slice none 0 0]) ?_ 1 _ rfl; (with_reducible repeat (first | refine blk_drewN ?_ _ | refine blk_drew ?_ | refine blk_alloc ?_ _)); refine blk_put (cs := #[.int .i64 0, .int .i64 0, .int .i64 0, .slice none 0 0]) ?_ 0 _ rfl; (with_reducible repeat (first | refine blk_drewN ?_ _ | refine blk_drew ?_ | refine blk_alloc ?_ _)); exact BK171.out) k_ hk⟩)); (case aO => exact (by (with_reducible repeat (first | apply Kd.S_alloc | apply Kd.S_drewN | apply Kd.S_drew)); exact Kd.S_mono (Kd.S_far (p := ⟨gb171, 3, none⟩) (Kd.S_far (p := ⟨gb171, 2, none⟩) (Kd.S_far (p := ⟨gb171, 1, none⟩) (Kd.S_far (p := ⟨gb171, 0, none⟩) (Kd.S_mono HO_6.out (fun k_ hk => (⟨hk, hk.2⟩ : _ ∧ k_ ≠ gb171))) (fun _ hk => hk.2) (.int .i64 1)) (fun _ hk => hk.2) (.int .i64 (wrap64 (Int.tmod (rd l1 x8_1) 3)))) (fun _ hk => hk.2) (.int .i64 0)) (fun _ hk => hk.2) (.slice none 0 0)) (fun k_ hk => ⟨⟨hk.1.1, hk.1.2⟩, fun e_ => e_⟩))); (case aS => exact bz); (case aL => have := LMc11.out; omega); intro v173 w22 ho hb hg hat; rw [← Ny172.out] at ho; have n0_ := aS (Kd.S_after (ok := (fun k_ => k_ ≠ gb171)) (by (with_reducible repeat (first | apply Kd.S_alloc | apply Kd.S_drewN | apply Kd.S_drew)); exact Kd.S_mono (Kd.S_far (p := ⟨gb171, 3, none⟩) (Kd.S_far (p := ⟨gb171, 2, none⟩) (Kd.S_far (p := ⟨gb171, 1, none⟩) (Kd.S_far (p := ⟨gb171, 0, none⟩) (Kd.S_mono HO_7.out (fun k_ hk => (⟨hk, hk.2⟩ : _ ∧ k_ ≠ gb171))) (fun _ hk => hk.2) (.int .i64 1)) (fun _ hk => hk.2) (.int .i64 (wrap64 (Int.tmod (rd l1 x8_1) 3)))) (fun _ hk => hk.2) (.int .i64 0)) (fun _ hk => hk.2) (.slice none 0 0)) (fun _ hk => ⟨hk.1.2, hk.1.1⟩)) hg hat); have n1_ := aS (blk_grown (g := gb171) (o := .cells #[.int .i64 1, .int .i64 (wrap64 (Int.tmod (rd l1 x8_1) 3)), .int .i64 0, .slice none 0 0] 26 (0, 0)) (by (with_reducible repeat (first | refine blk_drewN ?_ _ | refine blk_drew ?_ | refine blk_alloc ?_ _)); refine blk_put (cs := #[.int .i64 1, .int .i64 (wrap64 (Int.tmod (rd l1 x8_1) 3)), .int .i64 0, .slice none 0 0]) ?_ 3 _ rfl; (with_reducible repeat (first | refine blk_drewN ?_ _ | refine blk_drew ?_ | refine blk_alloc ?_ _)); refine blk_put (cs := #[.int .i64 1, .int .i64 (wrap64 (Int.tmod (rd l1 x8_1) 3)), .int .i64 0, .slice none 0 0]) ?_ 2 _ rfl; (with_reducible repeat (first | refine blk_drewN ?_ _ | refine blk_drew ?_ | refine blk_alloc ?_ _)); refine blk_put (cs := #[.int .i64 1, .int .i64 0, .int .i64 0, .slice none 0 0]) ?_ 1 _ rfl; (with_reducible repeat (first | refine blk_drewN ?_ _ | refine blk_drew ?_ | refine blk_alloc ?_ _)); refine blk_put (cs := #[.int .i64 0, .int .i64 0, .int .i64 0, .slice none 0 0]) ?_ 0 _ rfl; (with_reducible repeat (first | refine blk_drewN ?_ _ | refine blk_drew ?_ | refine blk_alloc ?_ _)); exact BK171.out) hg (Kd.S_away HO_6.out (fun _ hk => hk.2))); have n2_ := aS (hb); have n3_ := aS (ho); clear HO_7; clear BK171; clear HB; clear HO_6; have HO_7 := n0_; have BK171 := n1_; have HB := n2_; have HO174 := n3_; clear n0_ n1_ n2_ n3_; clear ho hb hg hat; have hcz23_0 : w22.cell? ⟨gb171, 0, none⟩ = some (.int .i64 1) := (blk_cell BK171.out 0).trans rfl; have hcz23_1 : w22.cell? ⟨gb171, 1, none⟩ = some (.int .i64 (wrap64 (Int.tmod (rd l1 x8_1) 3))) := (blk_cell BK171.out 1).trans rfl; have hcz23_2 : w22.cell? ⟨gb171, 2, none⟩ = some (.int .i64 0) := (blk_cell BK171.out 2).trans rfl; have hcz23_3 : w22.cell? ⟨gb171, 3, none⟩ = some (.slice none 0 0) := (blk_cell BK171.out 3).trans rfl; have hfz23_0 := blk_frozen BK171.out 0; have hfz23_1 := blk_frozen BK171.out 1; have hfz23_2 := blk_frozen BK171.out 2; have hfz23_3 := blk_frozen BK171.out 3))
  go_roundg k1
  case measure => have := HK1.out; omega
  case rel => exact ⟨(y172), (x7_1), (wrap64 (x8_1 + 1)), (by first | rfl | (simp; done) | (simp [*]; done)), H', ⟨by have := HK1.out; omega⟩, ⟨by (with_reducible repeat (first | apply Kd.S_alloc | apply Kd.S_drewN | apply Kd.S_drew)); exact Kd.S_mono HO174.out (fun _ hk => hk.1)⟩, ⟨by (with_reducible repeat (first | apply Kd.S_alloc | apply Kd.S_drewN | apply Kd.S_drew)); exact Kd.S_mono HO_7.out (fun _ hk => hk.2)⟩, ⟨by repeat (first | (with_reducible first | exact HB.out | apply below_alloc | apply pw_below_drewN | apply below_drew1 | refine below_set ?_ GE171.out) | exact HB.out)⟩⟩ } }
  {
  rw [if_neg c12] at H
  have c12b0 : ((wrap64 (Int.tmod (rd l1 x8_1) 3)) == 1) = false := beq_eq_false_iff_ne.mpr c12
  have c12b1 : ((wrap64 (Int.tmod (rd l1 x8_1) 3)) != 1) = true := bne_iff_ne.mpr c12
  by_cases c24 : x7_1.length < 2932031007402
  {
  rw [if_pos c24] at H
  have LMc24 := aS c24
  clear c24
  obtain ⟨y178, hy178⟩ : ∃ y_ : List (S26), y_ = (x7_1 ++ [(⟨1, wrap64 (Int.tmod (rd l1 x8_1) 3), 0, ([] : List Int)⟩ : S26)]) := ⟨_, rfl⟩
  replace H : (hallmootlaw27_ScriptStalls.l0 k1 a0 l1 t166 y172 y178 (wrap64 (x8_1 + 1))) = some r := by first | (rw [hy178]; with_reducible exact H) | (have H2_ := (Option.bind_some _ _).symm.trans H; rw [hy178]; with_reducible exact H2_) | (have H2_ := (Option.bind_some _ _).symm.trans H; with_reducible exact H2_) | with_reducible exact H | (rw [hy178]; exact H) | exact H
  have Ny178 := aS hy178
  clear hy178
  have H' := aS H
  clear H
  have p170 : 0 ≤ (x8_1 : Int) := dd
  have q170 : x8_1 < (l1.length : Int) := dd
  obtain ⟨ad170, e170, hx170_0⟩ := Kd.at_int HR1.out x8_1 p170 q170
  cases e170
  replace hx170_0 := cc HB.out hx170_0
  replace p170 := eq_true p170
  replace q170 := eq_true q170
  go_wp2_with (first | ((with_reducible refine gate_dst (N := 9) rfl ?_); refine box_event ?hg (N := 9) ?hd (cs := #[.int .i64 0, .int .i64 0, .int .i64 0, .slice none 0 0]) (t := 26) ?hr ?_; (case hd => rfl); (case hg => rfl); (case hr => first | (go_simp; done) | (go_simp; rfl)); intro gb171 hg w25 hbox hb; have n0_ := aS (Kd.S_below (Kd.S_elderB (by (with_reducible repeat (first | apply Kd.S_alloc | apply Kd.S_drewN | apply Kd.S_drew)); exact HO_6.out) gb171 (Nat.le_of_eq hg.symm)) hb); have n1_ := aS (Kd.S_below (Kd.S_elderB (by (with_reducible repeat (first | apply Kd.S_alloc | apply Kd.S_drewN | apply Kd.S_drew)); exact HO_7.out) gb171 (Nat.le_of_eq hg.symm)) hb); have n2_ := aS (below_step bb hb); have n3_ := aS (hbox); have n4_ := aS ((by rw [hg]; exact bz : w.heap.size ≤ gb171)); have n5_ := aS ((by rw [hg]; exact bz : w.heap.size ≤ gb171)); clear HO_6; clear HO_7; clear HB; have HO_6 := n0_; have HO_7 := n1_; have HB := n2_; have BK171 := n3_; have GW171 := n4_; have GE171 := n5_; clear n0_ n1_ n2_ n3_ n4_ n5_; clear hb hbox hg; have hcz26_0 : w25.cell? ⟨gb171, 0, none⟩ = some (.int .i64 0) := (blk_cell BK171.out 0).trans rfl; have hcz26_1 : w25.cell? ⟨gb171, 1, none⟩ = some (.int .i64 0) := (blk_cell BK171.out 1).trans rfl; have hcz26_2 : w25.cell? ⟨gb171, 2, none⟩ = some (.int .i64 0) := (blk_cell BK171.out 2).trans rfl; have hcz26_3 : w25.cell? ⟨gb171, 3, none⟩ = some (.slice none 0 0) := (blk_cell BK171.out 3).trans rfl; have hfz26_0 := blk_frozen BK171.out 0; have hfz26_1 := blk_frozen BK171.out 1; have hfz26_2 := blk_frozen BK171.out 2; have hfz26_3 := blk_frozen BK171.out 3) | ((with_reducible refine gate_builtin (b := .append) (xs := #[.tmp 32, .tmp 34]) rfl ?_); at_builtin; refine Kd.S_append k26 (w0 := w) w.heap.size rfl (.tmp 32) (.tmp 34) 27 26 (.agg #[(.int .i64 0), (.int .i64 0), (.int .i64 0), (.slice none 0 0)]) 48 rfl Tryd.underlying27 info26 rfl (by decide) (by omega) u6 x6_1 (⟨1, wrap64 (Int.tmod (rd l1 x8_1) 3), 0, ([] : List Int)⟩ : S26) [.int .i64 1, .int .i64 (wrap64 (Int.tmod (rd l1 x8_1) 3)), .int .i64 0, .slice none 0 0] (fun k_ => some k_ ≠ (u7 : Value).ownBlock ∧ k_ ≠ gb171) (fun _ => False) rfl (by first | (go_simp; done) | (go_simp; rfl)) ?aP (fun k_ hk_ => hk_.elim) ?aF ?aO ?aB ?aS ?aL ?_; (case aP => exact k26_mkM _ _ _ (⟨1, wrap64 (Int.tmod (rd l1 x8_1) 3), 0, ([] : List Int)⟩ : S26) (Kd.R_nil _ _ _ _ _)); (case aB => exact bb); (case aF => exact (fun k_ hk => ⟨Kd.fresh' (Kd.S_lt (by (with_reducible repeat (first | apply Kd.S_alloc | apply Kd.S_drewN | apply Kd.S_drew)); exact (Kd.S_mono (Kd.S_far (p := ⟨gb171, 3, none⟩) (Kd.S_far (p := ⟨gb171, 2, none⟩) (Kd.S_far (p := ⟨gb171, 1, none⟩) (Kd.S_far (p := ⟨gb171, 0, none⟩) (Kd.S_mono HO_7.out (fun k_ hk => (⟨hk, hk.2⟩ : _ ∧ k_ ≠ gb171))) (fun _ hk => hk.2) (.int .i64 1)) (fun _ hk => hk.2) (.int .i64 (wrap64 (Int.tmod (rd l1 x8_1) 3)))) (fun _ hk => hk.2) (.int .i64 0)) (fun _ hk => hk.2) (.slice none 0 0)) (fun _ h_ => h_.1)))) k_ hk, Kd.freshB (g := gb171) (o := .cells #[.int .i64 1, .int .i64 (wrap64 (Int.tmod (rd l1 x8_1) 3)), .int .i64 0, .slice none 0 0] 26 (0, 0)) (by (with_reducible repeat (first | refine blk_drewN ?_ _ | refine blk_drew ?_ | refine blk_alloc ?_ _)); refine blk_put (cs := #[.int .i64 1, .int .i64 (wrap64 (Int.tmod (rd l1 x8_1) 3)), .int .i64 0, .slice none 0 0]) ?_ 3 _ rfl; (with_reducible repeat (first | refine blk_drewN ?_ _ | refine blk_drew ?_ | refine blk_alloc ?_ _)); refine blk_put (cs := #[.int .i64 1, .int .i64 (wrap64 (Int.tmod (rd l1 x8_1) 3)), .int .i64 0, .slice none 0 0]) ?_ 2 _ rfl; (with_reducible repeat (first | refine blk_drewN ?_ _ | refine blk_drew ?_ | refine blk_alloc ?_ _)); refine blk_put (cs := #[.int .i64 1, .int .i64 0, .int .i64 0, .slice none 0 0]) ?_ 1 _ rfl; (with_reducible repeat (first | refine blk_drewN ?_ _ | refine blk_drew ?_ | refine blk_alloc ?_ _)); refine blk_put (cs := #[.int .i64 0, .int .i64 0, .int .i64 0, .slice none 0 0]) ?_ 0 _ rfl; (with_reducible repeat (first | refine blk_drewN ?_ _ | refine blk_drew ?_ | refine blk_alloc ?_ _)); exact BK171.out) k_ hk⟩)); (case aO => exact (by (with_reducible repeat (first | apply Kd.S_alloc | apply Kd.S_drewN | apply Kd.S_drew)); exact Kd.S_mono (Kd.S_far (p := ⟨gb171, 3, none⟩) (Kd.S_far (p := ⟨gb171, 2, none⟩) (Kd.S_far (p := ⟨gb171, 1, none⟩) (Kd.S_far (p := ⟨gb171, 0, none⟩) (Kd.S_mono HO_6.out (fun k_ hk => (⟨hk, hk.2⟩ : _ ∧ k_ ≠ gb171))) (fun _ hk => hk.2) (.int .i64 1)) (fun _ hk => hk.2) (.int .i64 (wrap64 (Int.tmod (rd l1 x8_1) 3)))) (fun _ hk => hk.2) (.int .i64 0)) (fun _ hk => hk.2) (.slice none 0 0)) (fun k_ hk => ⟨⟨hk.1.1, hk.1.2⟩, fun e_ => e_⟩))); (case aS => exact bz); (case aL => have := LMc11.out; omega); intro v173 w27 ho hb hg hat; rw [← Ny172.out] at ho; have n0_ := aS (Kd.S_after (ok := (fun k_ => k_ ≠ gb171)) (by (with_reducible repeat (first | apply Kd.S_alloc | apply Kd.S_drewN | apply Kd.S_drew)); exact Kd.S_mono (Kd.S_far (p := ⟨gb171, 3, none⟩) (Kd.S_far (p := ⟨gb171, 2, none⟩) (Kd.S_far (p := ⟨gb171, 1, none⟩) (Kd.S_far (p := ⟨gb171, 0, none⟩) (Kd.S_mono HO_7.out (fun k_ hk => (⟨hk, hk.2⟩ : _ ∧ k_ ≠ gb171))) (fun _ hk => hk.2) (.int .i64 1)) (fun _ hk => hk.2) (.int .i64 (wrap64 (Int.tmod (rd l1 x8_1) 3)))) (fun _ hk => hk.2) (.int .i64 0)) (fun _ hk => hk.2) (.slice none 0 0)) (fun _ hk => ⟨hk.1.2, hk.1.1⟩)) hg hat); have n1_ := aS (blk_grown (g := gb171) (o := .cells #[.int .i64 1, .int .i64 (wrap64 (Int.tmod (rd l1 x8_1) 3)), .int .i64 0, .slice none 0 0] 26 (0, 0)) (by (with_reducible repeat (first | refine blk_drewN ?_ _ | refine blk_drew ?_ | refine blk_alloc ?_ _)); refine blk_put (cs := #[.int .i64 1, .int .i64 (wrap64 (Int.tmod (rd l1 x8_1) 3)), .int .i64 0, .slice none 0 0]) ?_ 3 _ rfl; (with_reducible repeat (first | refine blk_drewN ?_ _ | refine blk_drew ?_ | refine blk_alloc ?_ _)); refine blk_put (cs := #[.int .i64 1, .int .i64 (wrap64 (Int.tmod (rd l1 x8_1) 3)), .int .i64 0, .slice none 0 0]) ?_ 2 _ rfl; (with_reducible repeat (first | refine blk_drewN ?_ _ | refine blk_drew ?_ | refine blk_alloc ?_ _)); refine blk_put (cs := #[.int .i64 1, .int .i64 0, .int .i64 0, .slice none 0 0]) ?_ 1 _ rfl; (with_reducible repeat (first | refine blk_drewN ?_ _ | refine blk_drew ?_ | refine blk_alloc ?_ _)); refine blk_put (cs := #[.int .i64 0, .int .i64 0, .int .i64 0, .slice none 0 0]) ?_ 0 _ rfl; (with_reducible repeat (first | refine blk_drewN ?_ _ | refine blk_drew ?_ | refine blk_alloc ?_ _)); exact BK171.out) hg (Kd.S_away HO_6.out (fun _ hk => hk.2))); have n2_ := aS (hb); have n3_ := aS (ho); clear HO_7; clear BK171; clear HB; clear HO_6; have HO_7 := n0_; have BK171 := n1_; have HB := n2_; have HO174 := n3_; clear n0_ n1_ n2_ n3_; clear ho hb hg hat; have hcz28_0 : w27.cell? ⟨gb171, 0, none⟩ = some (.int .i64 1) := (blk_cell BK171.out 0).trans rfl; have hcz28_1 : w27.cell? ⟨gb171, 1, none⟩ = some (.int .i64 (wrap64 (Int.tmod (rd l1 x8_1) 3))) := (blk_cell BK171.out 1).trans rfl; have hcz28_2 : w27.cell? ⟨gb171, 2, none⟩ = some (.int .i64 0) := (blk_cell BK171.out 2).trans rfl; have hcz28_3 : w27.cell? ⟨gb171, 3, none⟩ = some (.slice none 0 0) := (blk_cell BK171.out 3).trans rfl; have hfz28_0 := blk_frozen BK171.out 0; have hfz28_1 := blk_frozen BK171.out 1; have hfz28_2 := blk_frozen BK171.out 2; have hfz28_3 := blk_frozen BK171.out 3) | ((with_reducible refine gate_builtin (b := .append) (xs := #[.tmp 46, .tmp 48]) rfl ?_); at_builtin; refine Kd.S_append k26 (w0 := w) w.heap.size rfl (.tmp 46) (.tmp 48) 27 26 (.agg #[(.int .i64 0), (.int .i64 0), (.int .i64 0), (.slice none 0 0)]) 48 rfl Tryd.underlying27 info26 rfl (by decide) (by omega) u7 x7_1 (⟨1, wrap64 (Int.tmod (rd l1 x8_1) 3), 0, ([] : List Int)⟩ : S26) [.int .i64 1, .int .i64 (wrap64 (Int.tmod (rd l1 x8_1) 3)), .int .i64 0, .slice none 0 0] (fun k_ => some k_ ≠ (v173 : Value).ownBlock ∧ k_ ≠ gb171) (fun _ => False) rfl rfl ?aP (fun k_ hk_ => hk_.elim) ?aF ?aO ?aB ?aS ?aL ?_; (case aP => exact k26_mkM _ _ _ (⟨1, wrap64 (Int.tmod (rd l1 x8_1) 3), 0, ([] : List Int)⟩ : S26) (Kd.R_nil _ _ _ _ _)); (case aB => exact bb); (case aF => exact (fun k_ hk => ⟨Kd.fresh' (Kd.S_lt (by (with_reducible repeat (first | apply Kd.S_alloc | apply Kd.S_drewN | apply Kd.S_drew)); exact HO174.out)) k_ hk, Kd.freshB (g := gb171) (o := .cells #[.int .i64 1, .int .i64 (wrap64 (Int.tmod (rd l1 x8_1) 3)), .int .i64 0, .slice none 0 0] 26 (0, 0)) (kk BK171.out) k_ hk⟩)); (case aO => exact (by (with_reducible repeat (first | apply Kd.S_alloc | apply Kd.S_drewN | apply Kd.S_drew)); exact Kd.S_mono HO_7.out (fun k_ hk => ⟨⟨hk.2, hk.1⟩, fun e_ => e_⟩))); (case aS => exact bz); (case aL => have := LMc24.out; omega); intro v179 w29 ho hb hg hat; rw [← Ny178.out] at ho; have n0_ := aS (blk_grown (g := gb171) (o := .cells #[.int .i64 1, .int .i64 (wrap64 (Int.tmod (rd l1 x8_1) 3)), .int .i64 0, .slice none 0 0] 26 (0, 0)) (kk BK171.out) hg (Kd.S_away HO_7.out (fun _ hk => hk.1))); have n1_ := aS (Kd.S_after (ok := (fun k_ => k_ ≠ gb171)) (by (with_reducible repeat (first | apply Kd.S_alloc | apply Kd.S_drewN | apply Kd.S_drew)); exact Kd.S_mono HO174.out (fun _ hk => ⟨hk.2, hk.1⟩)) hg hat); have n2_ := aS (hb); have n3_ := aS (ho); clear BK171; clear HO174; clear HB; clear HO_7; have BK171 := n0_; have HO174 := n1_; have HB := n2_; have HO180 := n3_; clear n0_ n1_ n2_ n3_; clear ho hb hg hat))
  go_roundg k1
  case measure => have := HK1.out; omega
  case rel => exact ⟨(y172), (y178), (wrap64 (x8_1 + 1)), (by first | rfl | (simp; done) | (simp [*]; done)), H', ⟨by have := HK1.out; omega⟩, ⟨by (with_reducible repeat (first | apply Kd.S_alloc | apply Kd.S_drewN | apply Kd.S_drew)); exact Kd.S_mono HO174.out (fun _ hk => hk.2)⟩, ⟨by (with_reducible repeat (first | apply Kd.S_alloc | apply Kd.S_drewN | apply Kd.S_drew)); exact Kd.S_mono HO180.out (fun _ hk => hk.1)⟩, ⟨by repeat (first | (with_reducible first | exact HB.out | apply below_alloc | apply pw_below_drewN | apply below_drew1 | refine below_set ?_ GE171.out) | exact HB.out)⟩⟩ }
  {
  rw [if_neg c24] at H
  exact absurd H (by simp) } } }
  {
  rw [if_neg c11] at H
  exact absurd H (by simp) } }
  {
  rw [if_neg c10] at H
  exact absurd H (by simp) } }
  {
  rw [if_neg c9] at H
  have c9b0 : decide (x8_1 < (l1.length : Int)) = false := decide_eq_false c9
  clear c9
  by_cases c30 : t166 = true
  {
  subst c30
  have H1 : ((sPlain.f 3 x6_1).bind fun t181 => ((hallmootref27_Same.f k1 t181 x7_1).bind fun t184 => (some t184))) = some r := by rw [if_pos rfl] at H; exact H
  clear H
  have H := H1
  clear H1
  replace H := Option.bind_eq_some_iff.mp H
  obtain ⟨t181, A310, H⟩ := H
  replace H : ((hallmootref27_Same.f k1 t181 x7_1).bind fun t184 => (some t184)) = some r := H
  have A31 := aS A310
  clear A310
  replace H := Option.bind_eq_some_iff.mp H
  obtain ⟨t184, A320, H⟩ := H
  replace H : (some t184) = some r := H
  have A32 := aS A320
  clear A320
  obtain rfl := Option.some.inj H
  obtain ⟨Ao33, co33, eo33⟩ := Kd.S_slice HO_6.out
  subst eo33
  go_wp2_with (first | (go_at_call 12; (with_reducible refine (sPlain.calls 3 _ _ x6_1 t181 _ ?side1 ?side2 A31.out).mono ?_); (case side1 => repeat (first | exact (Kd.S_reads' HO_6.out).2.2 | (with_reducible refine Kd.C_alloc ?_ _) | (with_reducible refine Kd.C_drewN ?_ _) | (with_reducible refine Kd.C_drew ?_))); (case side2 => exact (Kd.S_reads' HO_6.out).2.1); rintro e w34 ⟨v182, rfl, ho0, hb⟩; have n0_ := aS (Kd.S_below (by (with_reducible repeat (first | apply Kd.S_alloc | apply Kd.S_drewN | apply Kd.S_drew)); exact HO_6.out) hb); have n1_ := aS (Kd.S_below (by (with_reducible repeat (first | apply Kd.S_alloc | apply Kd.S_drewN | apply Kd.S_drew)); exact HO_7.out) hb); have n2_ := aS (Kd.V_lower ho0 bz); have n3_ := aS (below_step bb hb); clear HO_6; clear HO_7; clear HB; have HO_6 := n0_; have HO_7 := n1_; have HO183 := n2_; have HB := n3_; clear n0_ n1_ n2_ n3_; (try clear hb); (try clear hb2); (try clear hk); (try clear hi); (try clear ho0); obtain ⟨Ao35, co35, eo35⟩ := Kd.V_slice HO183.out; subst eo35; obtain ⟨Ao36, co36, eo36⟩ := Kd.S_slice HO_7.out; subst eo36) | (go_at_call 11; (with_reducible refine (hallmootref27_Same.calls k1 _ _ t181 _ _ x7_1 t184 _ ?side1 ?side2 ?side3 ?side4 A32.out).mono ?_); (case side1 => repeat (first | exact (Kd.V_reads' HO183.out).2.2 | (with_reducible refine Kd.C_alloc ?_ _) | (with_reducible refine Kd.C_drewN ?_ _) | (with_reducible refine Kd.C_drew ?_))); (case side2 => exact (Kd.V_reads' HO183.out).2.1); (case side3 => repeat (first | exact (Kd.S_reads' HO_7.out).2.2 | (with_reducible refine Kd.C_alloc ?_ _) | (with_reducible refine Kd.C_drewN ?_ _) | (with_reducible refine Kd.C_drew ?_))); (case side4 => exact (Kd.S_reads' HO_7.out).2.1); rintro e w' ⟨rfl, ⟨nd, rfl⟩⟩))
  go_ret
  exact ⟨by first | rfl | (simp [errW_none, errW_some] <;> rfl) | (simp [*, errW_none, errW_some] <;> rfl), by repeat (first | (with_reducible first | exact HB.out | apply below_alloc | apply pw_below_drewN | apply below_drew1) | exact HB.out)⟩ }
  {
  replace c30 := Bool.eq_false_iff.mpr c30
  subst c30
  have H1 : (none) = some r := by rw [if_neg (show ¬ (false = true) by decide)] at H; exact H
  clear H
  have H := H1
  clear H1
  exact absurd H (by simp) } } } }

/-- THE ONE PURE STATEMENT of hallmootlaw27_ScriptStalls: yours. -/
def hallmootlaw27_ScriptStalls.Pure : Prop := ∀ (a0 : Int) (l1 : List Int), (Lit.int .u8 a0).wf = true → l1.length ≤ maxLen → l1.length * 1 ≤ 140737488351232 → (∀ x ∈ l1, (Lit.int .u8 x).wf = true) → ∃ k, hallmootlaw27_ScriptStalls.f k a0 l1 = some true
theorem hallmootlaw27_ScriptStalls.walk (P : hallmootlaw27_ScriptStalls.Pure) (a0 : Int) (a1 : Option Addr) (len1 cap1 : Nat) (z1 : List Int) (w : World) (w0 : (Lit.int .u8 a0).wf = true) (w1 : (a1 = none ∧ len1 = 0 ∧ cap1 = 0 ∧ z1 = []) ∨ ∃ x, a1 = some x ∧ len1 ≤ cap1 ∧ cap1 ≤ maxLen ∧ z1.length = cap1 ∧ (∀ i, i < z1.length → w.cell? (x.add i) = some (.int .u8 (z1.getD i 0))) ∧ ∀ n ∈ z1, (Lit.int .u8 n).wf = true) (y1 : len1 * 1 ≤ 140737488351232) (hL : Laid w) : Calls Tryd.prog 3 #[.int .u8 a0, .slice a1 len1 cap1] w fun e w' => e = .returned (.bool true) ∧ Below w.heap.size w w' := by
 obtain ⟨l1, rfl, hr1, hm1, hw1, hc1⟩ := ReadsInt.ofRowC w1
 obtain ⟨k, h⟩ := P a0 l1 w0 hm1 y1 hw1
 refine (hallmootlaw27_ScriptStalls.calls k a0 _ _ l1 true w (Kd.C_of_reads (d := (0 : Int)) (h1 := fun _ => rfl) hr1) hc1 h hL).mono ?_
 rintro e w' ⟨rfl, hd⟩
 exact ⟨rfl, hd⟩

end Go.Proofs.YtcnclgneldonfaaDoor.P
