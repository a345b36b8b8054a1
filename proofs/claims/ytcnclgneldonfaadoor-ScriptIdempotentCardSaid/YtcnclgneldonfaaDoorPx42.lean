-- Written by pp.py (this session's program over the kit's printer): functions, contracts. Not trusted: Lean checks it.
import Derived.Test.YtcnclgneldonfaaDoorPx0
import Derived.Test.YtcnclgneldonfaaDoorYZ
import Derived.Test.YtcnclgneldonfaaDoorPx2
import Derived.Test.YtcnclgneldonfaaDoorPx24
import Derived.Test.YtcnclgneldonfaaDoorPx25
import Derived.Test.YtcnclgneldonfaaDoorPx28
import Derived.Test.YtcnclgneldonfaaDoorHb
import Derived.Test.YtcnclgneldonfaaDoorHc
namespace Go.Proofs.YtcnclgneldonfaaDoor.P
open Go.RowKit Go.Proofs.YtcnclgneldonfaaDoorW.PrintWords Go.Proofs.YtcnclgneldonfaaDoorW.PrintLast Go.Proofs.YtcnclgneldonfaaDoorW.PrintMore
attribute [local go_sem] max2_int min2_int max_two min_two max_three min_three max_four min_four   -- for this text's walks alone
set_option linter.unusedVariables false
set_option linter.unusedSimpArgs false

/-! ### hallmootlaw27_ScriptIdempotent: function 8 -/
def hallmootlaw27_ScriptIdempotent.l0 : Nat → List (S26) → Bool → Int → List (S26) → Int → Option (Bool)
  | 0, _, _, _, _, _ => none
  | k + 1, x1, x5, x6, x7, x8 => if x8 < (x7.length : Int) then (if 0 ≤ x8 then ((script_Right.f k x6 ((rd_T26 x7 x8).f0) ((rd_T26 x7 x8).f1) ((rd_T26 x7 x8).f2) ((rd_T26 x7 x8).f3)).bind fun t302 => (if t302 = true then (if ((rd_T26 x7 x8).f0) = 2 then (none) else (if ((rd_T26 x7 x8).f0) = 3 then (if x8 < (wrap64 ((x7.length : Int) - 1)) then (none) else (hallmootlaw27_ScriptIdempotent.l0 k x1 x5 x6 x7 (wrap64 (x8 + 1)))) else (hallmootlaw27_ScriptIdempotent.l0 k x1 x5 x6 x7 (wrap64 (x8 + 1))))) else (none))) else (none)) else (if x5 = true then ((sPlain.f x6 x7).bind fun t305 => ((hallmootref27_Same.f k t305 x7).bind fun t308 => (if t308 = true then (some (decide ((x7.length : Int) ≤ (x1.length : Int)))) else (none)))) else (none))
def hallmootlaw27_ScriptIdempotent.f (k : Nat) (a0 : Int) (l1 : List (S26)) : Option (Bool) := (hallmootlaw27_sanity.f k).bind fun t296 => ((hallmootref27_Few.f k l1 250).bind fun t297 => (if t297 = true then ((sPlain.f (wrap64 (Int.tmod a0 5)) l1).bind fun t298 => (hallmootlaw27_ScriptIdempotent.l0 k l1 t296 (wrap64 (Int.tmod a0 5)) t298 0)) else (some t296)))
theorem hallmootlaw27_ScriptIdempotent.mono_l : ∀ k, (∀ y0 y1 y2 y3 y4, LeO (hallmootlaw27_ScriptIdempotent.l0 k y0 y1 y2 y3 y4) (hallmootlaw27_ScriptIdempotent.l0 (k + 1) y0 y1 y2 y3 y4))
  | 0 => fun _ _ _ _ _ r h => by simp [hallmootlaw27_ScriptIdempotent.l0] at h
  | k + 1 => by
    have ih0 := hallmootlaw27_ScriptIdempotent.mono_l k
    · intro y0 y1 y2 y3 y4
      unfold hallmootlaw27_ScriptIdempotent.l0
      repeat' first
      | (with_reducible exact ih0 _ _ _ _ _)
      | (with_reducible exact hallmootlaw27_sanity.mono _)
      | (with_reducible exact hallmootref27_Few.mono _ _ _)
      | (with_reducible exact hallmootref27_Same.mono _ _ _)
      | (with_reducible exact script_Right.mono _ _ _ _ _ _)
      | (with_reducible exact LeO.refl _)
      | (with_reducible exact LeO.none _)
      | (with_reducible refine LeO.ite ?_ ?_)
      | (with_reducible refine LeO.bind ?_ (fun _ => ?_))
      | exact ih0 _ _ _ _ _
      | exact hallmootlaw27_sanity.mono _
      | exact hallmootref27_Few.mono _ _ _
      | exact hallmootref27_Same.mono _ _ _
      | exact script_Right.mono _ _ _ _ _ _
      | exact LeO.none _
      | refine LeO.ite ?_ ?_
      | refine LeO.bind ?_ (fun _ => ?_)
theorem hallmootlaw27_ScriptIdempotent.mono : ∀ a0 a1 k, LeO (hallmootlaw27_ScriptIdempotent.f k a0 a1) (hallmootlaw27_ScriptIdempotent.f (k + 1) a0 a1) := by
 intro a0 a1 k
 have ih0 := hallmootlaw27_ScriptIdempotent.mono_l k
 unfold hallmootlaw27_ScriptIdempotent.f
 repeat' first | (with_reducible exact ih0 _ _ _ _ _) | (with_reducible exact hallmootlaw27_sanity.mono _) | (with_reducible exact hallmootref27_Few.mono _ _ _) | (with_reducible exact hallmootref27_Same.mono _ _ _) | (with_reducible exact script_Right.mono _ _ _ _ _ _) | (with_reducible exact LeO.refl _) | (with_reducible exact LeO.none _) | (with_reducible refine LeO.ite ?_ ?_) | (with_reducible refine LeO.bind ?_ (fun _ => ?_)) | exact ih0 _ _ _ _ _ | exact hallmootlaw27_sanity.mono _ | exact hallmootref27_Few.mono _ _ _ | exact hallmootref27_Same.mono _ _ _ | exact script_Right.mono _ _ _ _ _ _ | exact LeO.none _ | refine LeO.ite ?_ ?_ | refine LeO.bind ?_ (fun _ => ?_)
set_option maxHeartbeats 8000000 in
set_option maxRecDepth 100000 in
theorem hallmootlaw27_ScriptIdempotent.calls (k : Nat) (a0 : Int) (A1 : Option Addr) (c1 : Nat) (l1 : List (S26)) (r : Bool) (w : World) (hr1 : Kd.C k26 w A1 l1.length l1) (hc1 : l1.length ≤ c1) (h : hallmootlaw27_ScriptIdempotent.f k a0 l1 = some r) (hL : Laid w) : Calls Tryd.prog 8 #[.int .u8 a0, .slice A1 l1.length c1] w fun e w' => e = .returned (.bool r) ∧ Below w.heap.size w w' := by
 have hu26 := Tryd.underlying26
 have HR1 := aS hr1
 have HC1 := aS hc1
 clear hr1 hc1
 have HB := aS (Below.refl w.heap.size w)
 have H : ((hallmootlaw27_sanity.f k).bind fun t296 => ((hallmootref27_Few.f k l1 250).bind fun t297 => (if t297 = true then ((sPlain.f (wrap64 (Int.tmod a0 5)) l1).bind fun t298 => (hallmootlaw27_ScriptIdempotent.l0 k l1 t296 (wrap64 (Int.tmod a0 5)) t298 0)) else (some t296)))) = some r := h
 clear h
 replace H := Option.bind_eq_some_iff.mp H
 obtain ⟨t296, A30, H⟩ := H
 replace H : ((hallmootref27_Few.f k l1 250).bind fun t297 => (if t297 = true then ((sPlain.f (wrap64 (Int.tmod a0 5)) l1).bind fun t298 => (hallmootlaw27_ScriptIdempotent.l0 k l1 t296 (wrap64 (Int.tmod a0 5)) t298 0)) else (some t296))) = some r := H
 have A3 := aS A30
 clear A30
 replace H := Option.bind_eq_some_iff.mp H
 obtain ⟨t297, A40, H⟩ := H
 replace H : (if t297 = true then ((sPlain.f (wrap64 (Int.tmod a0 5)) l1).bind fun t298 => (hallmootlaw27_ScriptIdempotent.l0 k l1 t296 (wrap64 (Int.tmod a0 5)) t298 0)) else (some t296)) = some r := H
 have A4 := aS A40
 clear A40
 by_cases c5 : t297 = true
 {
 subst c5
 have H1 : ((sPlain.f (wrap64 (Int.tmod a0 5)) l1).bind fun t298 => (hallmootlaw27_ScriptIdempotent.l0 k l1 t296 (wrap64 (Int.tmod a0 5)) t298 0)) = some r := by rw [if_pos rfl] at H; exact H
 clear H
 have H := H1
 clear H1
 replace H := Option.bind_eq_some_iff.mp H
 obtain ⟨t298, A60, H⟩ := H
 replace H : (hallmootlaw27_ScriptIdempotent.l0 k l1 t296 (wrap64 (Int.tmod a0 5)) t298 0) = some r := H
 have A6 := aS A60
 clear A60
 have H' := aS H
 clear H
 go_enter Tryd.func8, Tryd.ntmps8
 go_wp2_with (first | ((with_reducible refine gate_callee (f := 10) rfl ?_); refine goesL_ (some 9) rfl rfl Tryd.func10 (by kernel_rfl) rfl #[] rfl (by (try simp only [List.map_toArray, List.map_cons, List.map_nil]); first | done | rfl | (simp only [List.length_drop, List.length_take]; rfl)) ?_; (with_reducible refine (hallmootlaw27_sanity.calls k  t296 _ A3.out (hL.below bb)).mono ?_); rintro e w7 ⟨rfl, hb⟩; refine ⟨_, rfl, ?_⟩; have n0_ := aS (below_step bb hb); clear HB; have HB := n0_; clear n0_; (try clear hb); (try clear hb2); (try clear hk); (try clear hi)) | ((with_reducible refine gate_callee (f := 14) rfl ?_); refine goesL_ (some 11) rfl rfl Tryd.func14 (by kernel_rfl) rfl #[.slice A1 l1.length c1, .int .i64 250] rfl (by (try simp only [List.map_toArray, List.map_cons, List.map_nil]); first | done | rfl | (simp only [List.length_drop, List.length_take]; rfl)) ?_; (with_reducible refine (hallmootref27_Few.calls k _ _ l1 250 true _ ?side1 ?side2 A4.out).mono ?_); (case side1 => exact Kd.C_below HR1.out bb); (case side2 => exact HC1.out); rintro e w' ⟨rfl, ⟨nd, rfl⟩⟩; refine ⟨_, rfl, ?_⟩) | ((with_reducible refine gate_callee (f := 12) rfl ?_); refine goesL_ (some 19) rfl rfl Tryd.func12 (by kernel_rfl) rfl #[.int .i64 (wrap64 (Int.tmod a0 5)), .slice A1 l1.length c1] rfl (by (try simp only [List.map_toArray, List.map_cons, List.map_nil]); first | done | rfl | (simp only [List.length_drop, List.length_take]; rfl)) ?_; (with_reducible refine (sPlain.calls (wrap64 (Int.tmod a0 5)) _ _ l1 t298 _ ?side1 ?side2 A6.out).mono ?_); (case side1 => repeat (first | exact (Kd.C_below HR1.out bb) | (with_reducible refine Kd.C_alloc ?_ _) | (with_reducible refine Kd.C_drewN ?_ _) | (with_reducible refine Kd.C_drew ?_))); (case side2 => exact HC1.out); rintro e w8 ⟨v299, rfl, ho0, hb⟩; refine ⟨_, rfl, ?_⟩; have n0_ := aS (Kd.V_lower (Kd.V_mono (ok' := fun k_ => True) ho0 (fun k_ hk_ => trivial)) bz); have n1_ := aS (below_step bb hb); clear HB; have HO300 := n0_; have HB := n1_; clear n0_ n1_; (try clear hb); (try clear hb2); (try clear hk); (try clear hi); (try clear ho0)))
 go_loopg [8] k (fun kq v8 w' => ∃ (x8_1 : Int), v8 = .int .i64 x8_1 ∧ Aside0 (hallmootlaw27_ScriptIdempotent.l0 kq l1 t296 (wrap64 (Int.tmod a0 5)) t298 x8_1 = some r) ∧ Aside0 (kq ≤ k) ∧ Aside0 (Kd.V k26 26 w' w.heap.size (fun _ => True) v299 t298) ∧ Aside0 (Below w.heap.size w w'))
 case atStart => exact ⟨(0), (by first | rfl | (simp; done) | (simp [*]; done)), H', ⟨Nat.le_refl _⟩, ⟨by (with_reducible repeat (first | apply Kd.V_alloc | apply Kd.V_drewN | apply Kd.V_drew)); exact HO300.out⟩, ⟨by repeat (first | (with_reducible first | exact HB.out | apply below_alloc | apply pw_below_drewN | apply below_drew1) | exact HB.out)⟩⟩
 case round =>
  clear H'
  try clear c1
  try clear p2
  try clear c5
  try clear p6
  try clear c8
  obtain ⟨x8_1, rfl, HA, HK1, HO_7, HB⟩ := hrel
  cases gk with
  | zero => exact absurd HA.out (by simp [hallmootlaw27_ScriptIdempotent.l0])
  | succ k1 => {
  have H := HA.out
  clear HA
  simp only [hallmootlaw27_ScriptIdempotent.l0] at H
  by_cases c9 : x8_1 < (t298.length : Int)
  {
  rw [if_pos c9] at H
  have c9b0 : decide (x8_1 < (t298.length : Int)) = true := decide_eq_true c9
  clear c9
  by_cases c10 : 0 ≤ x8_1
  {
  rw [if_pos c10] at H
  have c10b0 : decide (0 ≤ x8_1) = true := decide_eq_true c10
  clear c10
  replace H := Option.bind_eq_some_iff.mp H
  obtain ⟨t302, A110, H⟩ := H
  replace H : (if t302 = true then (if ((rd_T26 t298 x8_1).f0) = 2 then (none) else (if ((rd_T26 t298 x8_1).f0) = 3 then (if x8_1 < (wrap64 ((t298.length : Int) - 1)) then (none) else (hallmootlaw27_ScriptIdempotent.l0 k1 l1 t296 (wrap64 (Int.tmod a0 5)) t298 (wrap64 (x8_1 + 1)))) else (hallmootlaw27_ScriptIdempotent.l0 k1 l1 t296 (wrap64 (Int.tmod a0 5)) t298 (wrap64 (x8_1 + 1))))) else (none)) = some r := H
  have A11 := aS A110
  clear A110
  by_cases c12 : t302 = true
  {
  subst c12
  have H1 : (if ((rd_T26 t298 x8_1).f0) = 2 then (none) else (if ((rd_T26 t298 x8_1).f0) = 3 then (if x8_1 < (wrap64 ((t298.length : Int) - 1)) then (none) else (hallmootlaw27_ScriptIdempotent.l0 k1 l1 t296 (wrap64 (Int.tmod a0 5)) t298 (wrap64 (x8_1 + 1)))) else (hallmootlaw27_ScriptIdempotent.l0 k1 l1 t296 (wrap64 (Int.tmod a0 5)) t298 (wrap64 (x8_1 + 1))))) = some r := by rw [if_pos rfl] at H; exact H
  clear H
  have H := H1
  clear H1
  by_cases c13 : ((rd_T26 t298 x8_1).f0) = 2
  {
  rw [if_pos c13] at H
  exact absurd H (by simp) }
  {
  rw [if_neg c13] at H
  have c13b0 : (((rd_T26 t298 x8_1).f0) == 2) = false := beq_eq_false_iff_ne.mpr c13
  have c13b1 : (((rd_T26 t298 x8_1).f0) != 2) = true := bne_iff_ne.mpr c13
  by_cases c14 : ((rd_T26 t298 x8_1).f0) = 3
  {
  rw [if_pos c14] at H
  have c14b0 : (((rd_T26 t298 x8_1).f0) == 3) = true := beq_iff_eq.mpr c14
  have c14b1 : (((rd_T26 t298 x8_1).f0) != 3) = false := bne_eq_false_iff_eq.mpr c14
  clear c14
  by_cases c15 : x8_1 < (wrap64 ((t298.length : Int) - 1))
  {
  rw [if_pos c15] at H
  exact absurd H (by simp) }
  {
  rw [if_neg c15] at H
  have c15b0 : decide (x8_1 < (wrap64 ((t298.length : Int) - 1))) = false := decide_eq_false c15
  clear c15
  have H' := aS H
  clear H
  obtain ⟨Ao16, co16, eo16⟩ := Kd.V_slice HO_7.out
  subst eo16
  have p301 : 0 ≤ (x8_1 : Int) := dd
  have q301 : x8_1 < (t298.length : Int) := dd
  obtain ⟨ad301, A301_3, c301_3, e301, hx301_0, hx301_1, hx301_2, hx301_3, hl301_3, hi301_3⟩ := at_T26 (Kd.V_reads' HO_7.out).2.2 x8_1 p301 q301
  cases e301
  obtain ⟨ce301, hce301, hMe301, hcc301⟩ := Kd.V_get HO_7.out z26 x8_1 p301 (by first | exact q301 | exact dd | (have e_ := (Kd.V_reads' HO_7.out).1; omega))
  obtain ⟨ua301_3, uc301_3, rfl, ul301_3, ge301_3⟩ := k26_openF hMe301
  have hv301_3 := hcc301 3 _ rfl
  rw [add_field _ _ 3 (by omega)] at hv301_3
  replace hv301_3 := Option.some.inj (hv301_3.symm.trans hx301_3)
  injection hv301_3 with hva_ hvn_ hvc_
  rw [hva_] at ge301_3
  rw [hvc_] at ul301_3
  have HL301_3 := aS (show Kd.V (Kd.int .i64) 3 _ w.heap.size _ _ ((rd_T26 t298 x8_1).f3) from Kd.V_mk ul301_3 ge301_3)
  clear hva_ hvn_ hvc_ ge301_3 ul301_3
  clear hcc301 hce301
  have HR301_3 := aS hi301_3
  have HC301_3 := aS hl301_3
  clear hi301_3 hl301_3
  replace p301 := eq_true p301
  replace q301 := eq_true q301
  go_wp2_with (first | ((with_reducible refine gate_callee (f := 15) rfl ?_); refine goesL_ (some 31) rfl rfl Tryd.func15 (by kernel_rfl) rfl #[.int .i64 (wrap64 (Int.tmod a0 5)), .agg #[.int .i64 ((rd_T26 t298 x8_1).f0), .int .i64 ((rd_T26 t298 x8_1).f1), .int .i64 ((rd_T26 t298 x8_1).f2), .slice A301_3 ((rd_T26 t298 x8_1).f3).length c301_3]] rfl (by (try simp only [List.map_toArray, List.map_cons, List.map_nil]); first | done | rfl | (simp only [List.length_drop, List.length_take]; rfl)) ?_; (with_reducible refine (script_Right.calls k1 (wrap64 (Int.tmod a0 5)) ((rd_T26 t298 x8_1).f0) ((rd_T26 t298 x8_1).f1) ((rd_T26 t298 x8_1).f2) _ _ ((rd_T26 t298 x8_1).f3) true _ ?side1 ?side2 A11.out).mono ?_); (case side1 => repeat (first | exact (by repeat (first | (with_reducible exact HR301_3.out) | (with_reducible refine Kd.C_alloc ?_ _) | (with_reducible refine Kd.C_drewN ?_ _) | (with_reducible refine Kd.C_drew ?_) | exact HR301_3.out)) | (with_reducible refine Kd.C_alloc ?_ _) | (with_reducible refine Kd.C_drewN ?_ _) | (with_reducible refine Kd.C_drew ?_))); (case side2 => exact HC301_3.out); rintro e w17 ⟨rfl, hb⟩; refine ⟨_, rfl, ?_⟩; have n0_ := aS (Kd.V_below (vv HO_7.out) hb); have n1_ := aS (Kd.V_below (vv HL301_3.out) hb); have n2_ := aS (Kd.C_below (by repeat (first | (with_reducible exact HR301_3.out) | (with_reducible refine Kd.C_alloc ?_ _) | (with_reducible refine Kd.C_drewN ?_ _) | (with_reducible refine Kd.C_drew ?_) | exact HR301_3.out)) hb); have n3_ := aS (below_step bb hb); clear HO_7; clear HL301_3; clear HR301_3; clear HB; have HO_7 := n0_; have HL301_3 := n1_; have HR301_3 := n2_; have HB := n3_; clear n0_ n1_ n2_ n3_; (try clear hb); (try clear hb2); (try clear hk); (try clear hi); have p303 : 0 ≤ (x8_1 : Int) := dd; have q303 : x8_1 < (t298.length : Int) := dd; obtain ⟨ad303, A303_3, c303_3, e303, hx303_0, hx303_1, hx303_2, hx303_3, hl303_3, hi303_3⟩ := at_T26 (Kd.V_reads' HO_7.out).2.2 x8_1 p303 q303; obtain rfl : ad301 = ad303 := (by injection e303); obtain ⟨ce303, hce303, hMe303, hcc303⟩ := Kd.V_get HO_7.out z26 x8_1 p303 (by first | exact q303 | exact dd | (have e_ := (Kd.V_reads' HO_7.out).1; omega)); obtain ⟨ua303_3, uc303_3, rfl, ul303_3, ge303_3⟩ := k26_openF hMe303; have hv303_3 := hcc303 3 _ rfl; rw [add_field _ _ 3 (by omega)] at hv303_3; replace hv303_3 := Option.some.inj (hv303_3.symm.trans hx303_3); injection hv303_3 with hva_ hvn_ hvc_; rw [hva_] at ge303_3; rw [hvc_] at ul303_3; have HL303_3 := aS (show Kd.V (Kd.int .i64) 3 _ w.heap.size _ _ ((rd_T26 t298 x8_1).f3) from Kd.V_mk ul303_3 ge303_3); clear hva_ hvn_ hvc_ ge303_3 ul303_3; clear hcc303 hce303; have HR303_3 := aS hi303_3; have HC303_3 := aS hl303_3; clear hi303_3 hl303_3; replace p303 := eq_true p303; replace q303 := eq_true q303; have p304 : 0 ≤ (x8_1 : Int) := dd; have q304 : x8_1 < (t298.length : Int) := dd; obtain ⟨ad304, A304_3, c304_3, e304, hx304_0, hx304_1, hx304_2, hx304_3, hl304_3, hi304_3⟩ := at_T26 (Kd.V_reads' HO_7.out).2.2 x8_1 p304 q304; obtain rfl : ad301 = ad304 := (by injection e304); obtain ⟨ce304, hce304, hMe304, hcc304⟩ := Kd.V_get HO_7.out z26 x8_1 p304 (by first | exact q304 | exact dd | (have e_ := (Kd.V_reads' HO_7.out).1; omega)); obtain ⟨ua304_3, uc304_3, rfl, ul304_3, ge304_3⟩ := k26_openF hMe304; have hv304_3 := hcc304 3 _ rfl; rw [add_field _ _ 3 (by omega)] at hv304_3; replace hv304_3 := Option.some.inj (hv304_3.symm.trans hx304_3); injection hv304_3 with hva_ hvn_ hvc_; rw [hva_] at ge304_3; rw [hvc_] at ul304_3; have HL304_3 := aS (show Kd.V (Kd.int .i64) 3 _ w.heap.size _ _ ((rd_T26 t298 x8_1).f3) from Kd.V_mk ul304_3 ge304_3); clear hva_ hvn_ hvc_ ge304_3 ul304_3; clear hcc304 hce304; have HR304_3 := aS hi304_3; have HC304_3 := aS hl304_3; clear hi304_3 hl304_3; replace p304 := eq_true p304; replace q304 := eq_true q304; have ea_ := Option.some.inj (hx303_3.symm.trans hx304_3); injection ea_ with ea_ en_ ec_; subst ea_; subst ec_; clear en_))
  go_roundg k1
  case measure => have := HK1.out; omega
  case rel => exact ⟨(wrap64 (x8_1 + 1)), (by first | rfl | (simp; done) | (simp [*]; done)), H', ⟨by have := HK1.out; omega⟩, ⟨by (with_reducible repeat (first | apply Kd.V_alloc | apply Kd.V_drewN | apply Kd.V_drew)); exact HO_7.out⟩, ⟨by repeat (first | (with_reducible first | exact HB.out | apply below_alloc | apply pw_below_drewN | apply below_drew1) | exact HB.out)⟩⟩ } }
  {
  rw [if_neg c14] at H
  have c14b0 : (((rd_T26 t298 x8_1).f0) == 3) = false := beq_eq_false_iff_ne.mpr c14
  have c14b1 : (((rd_T26 t298 x8_1).f0) != 3) = true := bne_iff_ne.mpr c14
  have H' := aS H
  clear H
  obtain ⟨Ao18, co18, eo18⟩ := Kd.V_slice HO_7.out
  subst eo18
  have p301 : 0 ≤ (x8_1 : Int) := dd
  have q301 : x8_1 < (t298.length : Int) := dd
  obtain ⟨ad301, A301_3, c301_3, e301, hx301_0, hx301_1, hx301_2, hx301_3, hl301_3, hi301_3⟩ := at_T26 (Kd.V_reads' HO_7.out).2.2 x8_1 p301 q301
  cases e301
  obtain ⟨ce301, hce301, hMe301, hcc301⟩ := Kd.V_get HO_7.out z26 x8_1 p301 (by first | exact q301 | exact dd | (have e_ := (Kd.V_reads' HO_7.out).1; omega))
  obtain ⟨ua301_3, uc301_3, rfl, ul301_3, ge301_3⟩ := k26_openF hMe301
  have hv301_3 := hcc301 3 _ rfl
  rw [add_field _ _ 3 (by omega)] at hv301_3
  replace hv301_3 := Option.some.inj (hv301_3.symm.trans hx301_3)
  injection hv301_3 with hva_ hvn_ hvc_
  rw [hva_] at ge301_3
  rw [hvc_] at ul301_3
  have HL301_3 := aS (show Kd.V (Kd.int .i64) 3 _ w.heap.size _ _ ((rd_T26 t298 x8_1).f3) from Kd.V_mk ul301_3 ge301_3)
  clear hva_ hvn_ hvc_ ge301_3 ul301_3
  clear hcc301 hce301
  have HR301_3 := aS hi301_3
  have HC301_3 := aS hl301_3
  clear hi301_3 hl301_3
  replace p301 := eq_true p301
  replace q301 := eq_true q301
  go_wp2_with (first | ((with_reducible refine gate_callee (f := 15) rfl ?_); refine goesL_ (some 31) rfl rfl Tryd.func15 (by kernel_rfl) rfl #[.int .i64 (wrap64 (Int.tmod a0 5)), .agg #[.int .i64 ((rd_T26 t298 x8_1).f0), .int .i64 ((rd_T26 t298 x8_1).f1), .int .i64 ((rd_T26 t298 x8_1).f2), .slice A301_3 ((rd_T26 t298 x8_1).f3).length c301_3]] rfl (by (try simp only [List.map_toArray, List.map_cons, List.map_nil]); first | done | rfl | (simp only [List.length_drop, List.length_take]; rfl)) ?_; (with_reducible refine (script_Right.calls k1 (wrap64 (Int.tmod a0 5)) ((rd_T26 t298 x8_1).f0) ((rd_T26 t298 x8_1).f1) ((rd_T26 t298 x8_1).f2) _ _ ((rd_T26 t298 x8_1).f3) true _ ?side1 ?side2 A11.out).mono ?_); (case side1 => repeat (first | exact (by repeat (first | (with_reducible exact HR301_3.out) | (with_reducible refine Kd.C_alloc ?_ _) | (with_reducible refine Kd.C_drewN ?_ _) | (with_reducible refine Kd.C_drew ?_) | exact HR301_3.out)) | (with_reducible refine Kd.C_alloc ?_ _) | (with_reducible refine Kd.C_drewN ?_ _) | (with_reducible refine Kd.C_drew ?_))); (case side2 => exact HC301_3.out); rintro e w19 ⟨rfl, hb⟩; refine ⟨_, rfl, ?_⟩; have n0_ := aS (Kd.V_below (vv HO_7.out) hb); have n1_ := aS (Kd.V_below (vv HL301_3.out) hb); have n2_ := aS (Kd.C_below (by repeat (first | (with_reducible exact HR301_3.out) | (with_reducible refine Kd.C_alloc ?_ _) | (with_reducible refine Kd.C_drewN ?_ _) | (with_reducible refine Kd.C_drew ?_) | exact HR301_3.out)) hb); have n3_ := aS (below_step bb hb); clear HO_7; clear HL301_3; clear HR301_3; clear HB; have HO_7 := n0_; have HL301_3 := n1_; have HR301_3 := n2_; have HB := n3_; clear n0_ n1_ n2_ n3_; (try clear hb); (try clear hb2); (try clear hk); (try clear hi); have p303 : 0 ≤ (x8_1 : Int) := dd; have q303 : x8_1 < (t298.length : Int) := dd; obtain ⟨ad303, A303_3, c303_3, e303, hx303_0, hx303_1, hx303_2, hx303_3, hl303_3, hi303_3⟩ := at_T26 (Kd.V_reads' HO_7.out).2.2 x8_1 p303 q303; obtain rfl : ad301 = ad303 := (by injection e303); obtain ⟨ce303, hce303, hMe303, hcc303⟩ := Kd.V_get HO_7.out z26 x8_1 p303 (by first | exact q303 | exact dd | (have e_ := (Kd.V_reads' HO_7.out).1; omega)); obtain ⟨ua303_3, uc303_3, rfl, ul303_3, ge303_3⟩ := k26_openF hMe303; have hv303_3 := hcc303 3 _ rfl; rw [add_field _ _ 3 (by omega)] at hv303_3; replace hv303_3 := Option.some.inj (hv303_3.symm.trans hx303_3); injection hv303_3 with hva_ hvn_ hvc_; rw [hva_] at ge303_3; rw [hvc_] at ul303_3; have HL303_3 := aS (show Kd.V (Kd.int .i64) 3 _ w.heap.size _ _ ((rd_T26 t298 x8_1).f3) from Kd.V_mk ul303_3 ge303_3); clear hva_ hvn_ hvc_ ge303_3 ul303_3; clear hcc303 hce303; have HR303_3 := aS hi303_3; have HC303_3 := aS hl303_3; clear hi303_3 hl303_3; replace p303 := eq_true p303; replace q303 := eq_true q303; have p304 : 0 ≤ (x8_1 : Int) := dd; have q304 : x8_1 < (t298.length : Int) := dd; obtain ⟨ad304, A304_3, c304_3, e304, hx304_0, hx304_1, hx304_2, hx304_3, hl304_3, hi304_3⟩ := at_T26 (Kd.V_reads' HO_7.out).2.2 x8_1 p304 q304; obtain rfl : ad301 = ad304 := (by injection e304); obtain ⟨ce304, hce304, hMe304, hcc304⟩ := Kd.V_get HO_7.out z26 x8_1 p304 (by first | exact q304 | exact dd | (have e_ := (Kd.V_reads' HO_7.out).1; omega)); obtain ⟨ua304_3, uc304_3, rfl, ul304_3, ge304_3⟩ := k26_openF hMe304; have hv304_3 := hcc304 3 _ rfl; rw [add_field _ _ 3 (by omega)] at hv304_3; replace hv304_3 := Option.some.inj (hv304_3.symm.trans hx304_3); injection hv304_3 with hva_ hvn_ hvc_; rw [hva_] at ge304_3; rw [hvc_] at ul304_3; have HL304_3 := aS (show Kd.V (Kd.int .i64) 3 _ w.heap.size _ _ ((rd_T26 t298 x8_1).f3) from Kd.V_mk ul304_3 ge304_3); clear hva_ hvn_ hvc_ ge304_3 ul304_3; clear hcc304 hce304; have HR304_3 := aS hi304_3; have HC304_3 := aS hl304_3; clear hi304_3 hl304_3; replace p304 := eq_true p304; replace q304 := eq_true q304; have ea_ := Option.some.inj (hx303_3.symm.trans hx304_3); injection ea_ with ea_ en_ ec_; subst ea_; subst ec_; clear en_))
  go_roundg k1
  case measure => have := HK1.out; omega
  case rel => exact ⟨(wrap64 (x8_1 + 1)), (by first | rfl | (simp; done) | (simp [*]; done)), H', ⟨by have := HK1.out; omega⟩, ⟨by (with_reducible repeat (first | apply Kd.V_alloc | apply Kd.V_drewN | apply Kd.V_drew)); exact HO_7.out⟩, ⟨by repeat (first | (with_reducible first | exact HB.out | apply below_alloc | apply pw_below_drewN | apply below_drew1) | exact HB.out)⟩⟩ } } }
  {
  replace c12 := Bool.eq_false_iff.mpr c12
  subst c12
  have H1 : (none) = some r := by rw [if_neg (show ¬ (false = true) by decide)] at H; exact H
  clear H
  have H := H1
  clear H1
  exact absurd H (by simp) } }
  {
  rw [if_neg c10] at H
  exact absurd H (by simp) } }
  {
  rw [if_neg c9] at H
  have c9b0 : decide (x8_1 < (t298.length : Int)) = false := decide_eq_false c9
  clear c9
  by_cases c20 : t296 = true
  {
  subst c20
  have H1 : ((sPlain.f (wrap64 (Int.tmod a0 5)) t298).bind fun t305 => ((hallmootref27_Same.f k1 t305 t298).bind fun t308 => (if t308 = true then (some (decide ((t298.length : Int) ≤ (l1.length : Int)))) else (none)))) = some r := by rw [if_pos rfl] at H; exact H
  clear H
  have H := H1
  clear H1
  replace H := Option.bind_eq_some_iff.mp H
  obtain ⟨t305, A210, H⟩ := H
  replace H : ((hallmootref27_Same.f k1 t305 t298).bind fun t308 => (if t308 = true then (some (decide ((t298.length : Int) ≤ (l1.length : Int)))) else (none))) = some r := H
  have A21 := aS A210
  clear A210
  replace H := Option.bind_eq_some_iff.mp H
  obtain ⟨t308, A220, H⟩ := H
  replace H : (if t308 = true then (some (decide ((t298.length : Int) ≤ (l1.length : Int)))) else (none)) = some r := H
  have A22 := aS A220
  clear A220
  by_cases c23 : t308 = true
  {
  subst c23
  have H1 : (some (decide ((t298.length : Int) ≤ (l1.length : Int)))) = some r := by rw [if_pos rfl] at H; exact H
  clear H
  have H := H1
  clear H1
  obtain rfl := Option.some.inj H
  obtain ⟨Ao24, co24, eo24⟩ := Kd.V_slice HO_7.out
  subst eo24
  go_wp2_with (first | (go_at_call 12; (with_reducible refine (sPlain.calls (wrap64 (Int.tmod a0 5)) _ _ t298 t305 _ ?side1 ?side2 A21.out).mono ?_); (case side1 => repeat (first | exact (Kd.V_reads' HO_7.out).2.2 | (with_reducible refine Kd.C_alloc ?_ _) | (with_reducible refine Kd.C_drewN ?_ _) | (with_reducible refine Kd.C_drew ?_))); (case side2 => exact (Kd.V_reads' HO_7.out).2.1); rintro e w25 ⟨v306, rfl, ho0, hb⟩; have n0_ := aS (Kd.V_below (vv HO_7.out) hb); have n1_ := aS (Kd.V_lower (Kd.V_mono (ok' := fun k_ => True) ho0 (fun k_ hk_ => trivial)) bz); have n2_ := aS (below_step bb hb); clear HO_7; clear HB; have HO_7 := n0_; have HO307 := n1_; have HB := n2_; clear n0_ n1_ n2_; (try clear hb); (try clear hb2); (try clear hk); (try clear hi); (try clear ho0); obtain ⟨Ao26, co26, eo26⟩ := Kd.V_slice HO307.out; subst eo26) | (go_at_call 11; (with_reducible refine (hallmootref27_Same.calls k1 _ _ t305 _ _ t298 true _ ?side1 ?side2 ?side3 ?side4 A22.out).mono ?_); (case side1 => repeat (first | exact (Kd.V_reads' HO307.out).2.2 | (with_reducible refine Kd.C_alloc ?_ _) | (with_reducible refine Kd.C_drewN ?_ _) | (with_reducible refine Kd.C_drew ?_))); (case side2 => exact (Kd.V_reads' HO307.out).2.1); (case side3 => repeat (first | exact (Kd.V_reads' HO_7.out).2.2 | (with_reducible refine Kd.C_alloc ?_ _) | (with_reducible refine Kd.C_drewN ?_ _) | (with_reducible refine Kd.C_drew ?_))); (case side4 => exact (Kd.V_reads' HO_7.out).2.1); rintro e w' ⟨rfl, ⟨nd, rfl⟩⟩))
  go_ret
  exact ⟨by first | rfl | (simp [errW_none, errW_some] <;> rfl) | (simp [*, errW_none, errW_some] <;> rfl), by repeat (first | (with_reducible first | exact HB.out | apply below_alloc | apply pw_below_drewN | apply below_drew1) | exact HB.out)⟩ }
  {
  replace c23 := Bool.eq_false_iff.mpr c23
  subst c23
  have H1 : (none) = some r := by rw [if_neg (show ¬ (false = true) by decide)] at H; exact H
  clear H
  have H := H1
  clear H1
  exact absurd H (by simp) } }
  {
  replace c20 := Bool.eq_false_iff.mpr c20
  subst c20
  have H1 : (none) = some r := by rw [if_neg (show ¬ (false = true) by decide)] at H; exact H
  clear H
  have H := H1
  clear H1
  exact absurd H (by simp) } } } }
 {
 replace c5 := Bool.eq_false_iff.mpr c5
 subst c5
 have H1 : (some t296) = some r := by rw [if_neg (show ¬ (false = true) by decide)] at H; exact H
 clear H
 have H := H1
 clear H1
 obtain rfl := Option.some.inj H
 go_enter Tryd.func8, Tryd.ntmps8
 go_wp2_with (first | ((with_reducible refine gate_callee (f := 10) rfl ?_); refine goesL_ (some 9) rfl rfl Tryd.func10 (by kernel_rfl) rfl #[] rfl (by (try simp only [List.map_toArray, List.map_cons, List.map_nil]); first | done | rfl | (simp only [List.length_drop, List.length_take]; rfl)) ?_; (with_reducible refine (hallmootlaw27_sanity.calls k  t296 _ A3.out (hL.below bb)).mono ?_); rintro e w27 ⟨rfl, hb⟩; refine ⟨_, rfl, ?_⟩; have n0_ := aS (below_step bb hb); clear HB; have HB := n0_; clear n0_; (try clear hb); (try clear hb2); (try clear hk); (try clear hi)) | ((with_reducible refine gate_callee (f := 14) rfl ?_); refine goesL_ (some 11) rfl rfl Tryd.func14 (by kernel_rfl) rfl #[.slice A1 l1.length c1, .int .i64 250] rfl (by (try simp only [List.map_toArray, List.map_cons, List.map_nil]); first | done | rfl | (simp only [List.length_drop, List.length_take]; rfl)) ?_; (with_reducible refine (hallmootref27_Few.calls k _ _ l1 250 false _ ?side1 ?side2 A4.out).mono ?_); (case side1 => exact Kd.C_below HR1.out bb); (case side2 => exact HC1.out); rintro e w' ⟨rfl, ⟨nd, rfl⟩⟩; refine ⟨_, rfl, ?_⟩))
 go_ret
 exact ⟨by first | rfl | (simp [errW_none, errW_some] <;> rfl) | (simp [*, errW_none, errW_some] <;> rfl), by repeat (first | (with_reducible first | exact HB.out | apply below_alloc | apply pw_below_drewN | apply below_drew1) | exact HB.out)⟩ }

end Go.Proofs.YtcnclgneldonfaaDoor.P
