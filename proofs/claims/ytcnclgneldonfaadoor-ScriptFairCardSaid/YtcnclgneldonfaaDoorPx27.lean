-- Written by pp.py (this session's program over the kit's printer): functions, contracts. Not trusted: Lean checks it.
import Derived.Test.YtcnclgneldonfaaDoorPx0
import Derived.Test.YtcnclgneldonfaaDoorYZ
import Derived.Test.YtcnclgneldonfaaDoorPx24
import Derived.Test.YtcnclgneldonfaaDoorPx3
import Derived.Test.YtcnclgneldonfaaDoorHc
namespace Go.Proofs.YtcnclgneldonfaaDoor.P
open Go.RowKit Go.Proofs.YtcnclgneldonfaaDoorW.PrintWords Go.Proofs.YtcnclgneldonfaaDoorW.PrintLast Go.Proofs.YtcnclgneldonfaaDoorW.PrintMore
attribute [local go_sem] max2_int min2_int max_two min_two max_three min_three max_four min_four   -- for this text's walks alone
set_option linter.unusedVariables false
set_option linter.unusedSimpArgs false

/-! ### hallmootlaw27_ScriptFair: function 4 -/
mutual
def hallmootlaw27_ScriptFair.l0 : Nat → List Bool → Int → Bool → Int → Int → Option (Bool)
  | 0, _, _, _, _, _ => none
  | k + 1, x0, x1, x5, x6, x7 => if x7 < (x0.length : Int) then (if 0 ≤ x7 then (if rdOf false x0 x7 = true then (hallmootlaw27_ScriptFair.l0 k x0 x1 x5 (wrap64 (x6 + 1)) (wrap64 (x7 + 1))) else (hallmootlaw27_ScriptFair.l0 k x0 x1 x5 x6 (wrap64 (x7 + 1)))) else (none)) else (if 0 ≤ (x0.length : Int) then (if ((x0.length : Int) : Int).toNat ≤ 281474976710656 then ((script_Next.f k x0 x1).bind fun t190 => (if x6 = 0 then (if x5 = true then (some (t190 == (-1))) else (none)) else (hallmootlaw27_ScriptFair.l1 k x0 x5 x6 (List.replicate ((x0.length : Int) : Int).toNat false) t190 t190 0))) else (none)) else (none))
def hallmootlaw27_ScriptFair.l1 : Nat → List Bool → Bool → Int → List Bool → Int → Int → Int → Option (Bool)
  | 0, _, _, _, _, _, _, _ => none
  | k + 1, x0, x5, x6, x8, x9, x10, x11 => if x11 < x6 then (if x9 < 0 then (hallmootlaw27_ScriptFair.j2 k x0 x5 x6 x8 x9 x10 x11 true) else (hallmootlaw27_ScriptFair.j2 k x0 x5 x6 x8 x9 x10 x11 (decide (x9 ≥ (x0.length : Int))))) else (if x5 = true then (some (x9 == x10)) else (none))
def hallmootlaw27_ScriptFair.j2 : Nat → List Bool → Bool → Int → List Bool → Int → Int → Int → Bool → Option (Bool)
  | 0, _, _, _, _, _, _, _, _ => none
  | k + 1, x0, x5, x6, x8, x9, x10, x11, x55 => if x55 = true then (none) else (if 0 ≤ x9 then (if x9 < (x0.length : Int) then (if rdOf false x0 x9 = true then (if x9 < (x8.length : Int) then (if rdOf false x8 x9 = true then (none) else ((script_Next.f k x0 x9).bind fun t194 => (hallmootlaw27_ScriptFair.l1 k x0 x5 x6 (x8.set (x9 : Int).toNat true) t194 x10 (wrap64 (x11 + 1))))) else (none)) else (none)) else (none)) else (none))
end
def hallmootlaw27_ScriptFair.f (k : Nat) (l0 : List Bool) (a1 : Int) : Option (Bool) := (hallmootlaw27_sanity.f k).bind fun t185 => (if (l0.length : Int) > 40 then (some t185) else (hallmootlaw27_ScriptFair.l0 k l0 a1 t185 0 0))
theorem hallmootlaw27_ScriptFair.mono_l : ∀ k, (∀ y0 y1 y2 y3 y4, LeO (hallmootlaw27_ScriptFair.l0 k y0 y1 y2 y3 y4) (hallmootlaw27_ScriptFair.l0 (k + 1) y0 y1 y2 y3 y4)) ∧ (∀ y0 y1 y2 y3 y4 y5 y6, LeO (hallmootlaw27_ScriptFair.l1 k y0 y1 y2 y3 y4 y5 y6) (hallmootlaw27_ScriptFair.l1 (k + 1) y0 y1 y2 y3 y4 y5 y6)) ∧ (∀ y0 y1 y2 y3 y4 y5 y6 y7, LeO (hallmootlaw27_ScriptFair.j2 k y0 y1 y2 y3 y4 y5 y6 y7) (hallmootlaw27_ScriptFair.j2 (k + 1) y0 y1 y2 y3 y4 y5 y6 y7))
  | 0 => ⟨fun _ _ _ _ _ r h => by simp [hallmootlaw27_ScriptFair.l0] at h, fun _ _ _ _ _ _ _ r h => by simp [hallmootlaw27_ScriptFair.l1] at h, fun _ _ _ _ _ _ _ _ r h => by simp [hallmootlaw27_ScriptFair.j2] at h⟩
  | k + 1 => by
    obtain ⟨ih0, ih1, ih2⟩ := hallmootlaw27_ScriptFair.mono_l k
    refine ⟨?_, ?_, ?_⟩
    · intro y0 y1 y2 y3 y4
      unfold hallmootlaw27_ScriptFair.l0
      repeat' first
      | (with_reducible exact ih0 _ _ _ _ _)
      | (with_reducible exact ih1 _ _ _ _ _ _ _)
      | (with_reducible exact ih2 _ _ _ _ _ _ _ _)
      | (with_reducible exact hallmootlaw27_sanity.mono _)
      | (with_reducible exact script_Next.mono _ _ _)
      | (with_reducible exact LeO.refl _)
      | (with_reducible exact LeO.none _)
      | (with_reducible refine LeO.ite ?_ ?_)
      | (with_reducible refine LeO.bind ?_ (fun _ => ?_))
      | exact ih0 _ _ _ _ _
      | exact ih1 _ _ _ _ _ _ _
      | exact ih2 _ _ _ _ _ _ _ _
      | exact hallmootlaw27_sanity.mono _
      | exact script_Next.mono _ _ _
      | exact LeO.none _
      | refine LeO.ite ?_ ?_
      | refine LeO.bind ?_ (fun _ => ?_)
    · intro y0 y1 y2 y3 y4 y5 y6
      unfold hallmootlaw27_ScriptFair.l1
      repeat' first
      | (with_reducible exact ih0 _ _ _ _ _)
      | (with_reducible exact ih1 _ _ _ _ _ _ _)
      | (with_reducible exact ih2 _ _ _ _ _ _ _ _)
      | (with_reducible exact hallmootlaw27_sanity.mono _)
      | (with_reducible exact script_Next.mono _ _ _)
      | (with_reducible exact LeO.refl _)
      | (with_reducible exact LeO.none _)
      | (with_reducible refine LeO.ite ?_ ?_)
      | (with_reducible refine LeO.bind ?_ (fun _ => ?_))
      | exact ih0 _ _ _ _ _
      | exact ih1 _ _ _ _ _ _ _
      | exact ih2 _ _ _ _ _ _ _ _
      | exact hallmootlaw27_sanity.mono _
      | exact script_Next.mono _ _ _
      | exact LeO.none _
      | refine LeO.ite ?_ ?_
      | refine LeO.bind ?_ (fun _ => ?_)
    · intro y0 y1 y2 y3 y4 y5 y6 y7
      unfold hallmootlaw27_ScriptFair.j2
      repeat' first
      | (with_reducible exact ih0 _ _ _ _ _)
      | (with_reducible exact ih1 _ _ _ _ _ _ _)
      | (with_reducible exact ih2 _ _ _ _ _ _ _ _)
      | (with_reducible exact hallmootlaw27_sanity.mono _)
      | (with_reducible exact script_Next.mono _ _ _)
      | (with_reducible exact LeO.refl _)
      | (with_reducible exact LeO.none _)
      | (with_reducible refine LeO.ite ?_ ?_)
      | (with_reducible refine LeO.bind ?_ (fun _ => ?_))
      | exact ih0 _ _ _ _ _
      | exact ih1 _ _ _ _ _ _ _
      | exact ih2 _ _ _ _ _ _ _ _
      | exact hallmootlaw27_sanity.mono _
      | exact script_Next.mono _ _ _
      | exact LeO.none _
      | refine LeO.ite ?_ ?_
      | refine LeO.bind ?_ (fun _ => ?_)
theorem hallmootlaw27_ScriptFair.mono : ∀ a0 a1 k, LeO (hallmootlaw27_ScriptFair.f k a0 a1) (hallmootlaw27_ScriptFair.f (k + 1) a0 a1) := by
 intro a0 a1 k
 obtain ⟨ih0, ih1, ih2⟩ := hallmootlaw27_ScriptFair.mono_l k
 unfold hallmootlaw27_ScriptFair.f
 repeat' first | (with_reducible exact ih0 _ _ _ _ _) | (with_reducible exact ih1 _ _ _ _ _ _ _) | (with_reducible exact ih2 _ _ _ _ _ _ _ _) | (with_reducible exact hallmootlaw27_sanity.mono _) | (with_reducible exact script_Next.mono _ _ _) | (with_reducible exact LeO.refl _) | (with_reducible exact LeO.none _) | (with_reducible refine LeO.ite ?_ ?_) | (with_reducible refine LeO.bind ?_ (fun _ => ?_)) | exact ih0 _ _ _ _ _ | exact ih1 _ _ _ _ _ _ _ | exact ih2 _ _ _ _ _ _ _ _ | exact hallmootlaw27_sanity.mono _ | exact script_Next.mono _ _ _ | exact LeO.none _ | refine LeO.ite ?_ ?_ | refine LeO.bind ?_ (fun _ => ?_)
set_option maxHeartbeats 8000000 in
set_option maxRecDepth 100000 in
theorem hallmootlaw27_ScriptFair.calls (k : Nat) (A0 : Option Addr) (c0 : Nat) (l0 : List Bool) (a1 : Int) (r : Bool) (w : World) (hr0 : Kd.C Kd.bool w A0 l0.length l0) (hc0 : l0.length ≤ c0) (h : hallmootlaw27_ScriptFair.f k l0 a1 = some r) (hL : Laid w) : Calls Tryd.prog 4 #[.slice A0 l0.length c0, .int .i64 a1] w fun e w' => e = .returned (.bool r) ∧ Below w.heap.size w w' := by
 have HR0 := aS hr0
 have HC0 := aS hc0
 clear hr0 hc0
 have HB := aS (Below.refl w.heap.size w)
 have H : ((hallmootlaw27_sanity.f k).bind fun t185 => (if (l0.length : Int) > 40 then (some t185) else (hallmootlaw27_ScriptFair.l0 k l0 a1 t185 0 0))) = some r := h
 clear h
 replace H := Option.bind_eq_some_iff.mp H
 obtain ⟨t185, A30, H⟩ := H
 replace H : (if (l0.length : Int) > 40 then (some t185) else (hallmootlaw27_ScriptFair.l0 k l0 a1 t185 0 0)) = some r := H
 have A3 := aS A30
 clear A30
 by_cases c4 : (l0.length : Int) > 40
 {
 rw [if_pos c4] at H
 have c4b0 : decide (40 < (l0.length : Int)) = true := decide_eq_true c4
 have c4b1 : decide (40 < l0.length) = true := decide_eq_true (by omega)
 clear c4
 obtain rfl := Option.some.inj H
 go_enter Tryd.func4, Tryd.ntmps4
 go_wp2_with (first | ((with_reducible refine gate_callee (f := 10) rfl ?_); refine goesL_ (some 12) rfl rfl Tryd.func10 (by kernel_rfl) rfl #[] rfl (by (try simp only [List.map_toArray, List.map_cons, List.map_nil]); first | done | rfl | (simp only [List.length_drop, List.length_take]; rfl)) ?_; (with_reducible refine (hallmootlaw27_sanity.calls k  t185 _ A3.out (hL.below bb)).mono ?_); rintro e w5 ⟨rfl, hb⟩; refine ⟨_, rfl, ?_⟩; have n0_ := aS (below_step bb hb); clear HB; have HB := n0_; clear n0_; (try clear hb); (try clear hb2); (try clear hk); (try clear hi)))
 go_ret
 exact ⟨by first | rfl | (simp [errW_none, errW_some] <;> rfl) | (simp [*, errW_none, errW_some] <;> rfl), by repeat (first | (with_reducible first | exact HB.out | apply below_alloc | apply pw_below_drewN | apply below_drew1) | exact HB.out)⟩ }
 {
 rw [if_neg c4] at H
 have c4b0 : decide (40 < (l0.length : Int)) = false := decide_eq_false c4
 have c4b1 : decide (40 < l0.length) = false := decide_eq_false (by omega)
 clear c4
 have H' := aS H
 clear H
 go_enter Tryd.func4, Tryd.ntmps4
 go_wp2_with (first | ((with_reducible refine gate_callee (f := 10) rfl ?_); refine goesL_ (some 12) rfl rfl Tryd.func10 (by kernel_rfl) rfl #[] rfl (by (try simp only [List.map_toArray, List.map_cons, List.map_nil]); first | done | rfl | (simp only [List.length_drop, List.length_take]; rfl)) ?_; (with_reducible refine (hallmootlaw27_sanity.calls k  t185 _ A3.out (hL.below bb)).mono ?_); rintro e w6 ⟨rfl, hb⟩; refine ⟨_, rfl, ?_⟩; have n0_ := aS (below_step bb hb); clear HB; have HB := n0_; clear n0_; (try clear hb); (try clear hb2); (try clear hk); (try clear hi)))
 go_loopg [6, 7] k (fun kq v6 v7 w' => ∃ (x6_1 : Int) (x7_1 : Int), v6 = .int .i64 x6_1 ∧ v7 = .int .i64 x7_1 ∧ Aside0 (hallmootlaw27_ScriptFair.l0 kq l0 a1 t185 x6_1 x7_1 = some r) ∧ Aside0 (kq ≤ k) ∧ Aside0 (Below w.heap.size w w'))
 case atStart => exact ⟨(0), (0), (by first | rfl | (simp; done) | (simp [*]; done)), (by first | rfl | (simp; done) | (simp [*]; done)), H', ⟨Nat.le_refl _⟩, ⟨by repeat (first | (with_reducible first | exact HB.out | apply below_alloc | apply pw_below_drewN | apply below_drew1) | exact HB.out)⟩⟩
 case round =>
  clear H'
  try clear c1
  try clear p2
  try clear c4
  try clear c4b0
  try clear c4b1
  obtain ⟨x6_1, x7_1, rfl, rfl, HA, HK1, HB⟩ := hrel
  cases gk with
  | zero => exact absurd HA.out (by simp [hallmootlaw27_ScriptFair.l0])
  | succ k1 => {
  have H := HA.out
  clear HA
  simp only [hallmootlaw27_ScriptFair.l0] at H
  by_cases c7 : x7_1 < (l0.length : Int)
  {
  rw [if_pos c7] at H
  have c7b0 : decide (x7_1 < (l0.length : Int)) = true := decide_eq_true c7
  clear c7
  by_cases c8 : 0 ≤ x7_1
  {
  rw [if_pos c8] at H
  have c8b0 : decide (0 ≤ x7_1) = true := decide_eq_true c8
  clear c8
  obtain ⟨bq9, hbq9⟩ : ∃ b_ : Bool, b_ = (rdOf false l0 x7_1) := ⟨_, rfl⟩
  replace H : (if bq9 = true then (hallmootlaw27_ScriptFair.l0 k1 l0 a1 t185 (wrap64 (x6_1 + 1)) (wrap64 (x7_1 + 1))) else (hallmootlaw27_ScriptFair.l0 k1 l0 a1 t185 x6_1 (wrap64 (x7_1 + 1)))) = some r := by rw [← hbq9] at H; exact H
  have Nbq9 := aS hbq9
  clear hbq9
  by_cases c10 : bq9 = true
  {
  subst c10
  have H1 : (hallmootlaw27_ScriptFair.l0 k1 l0 a1 t185 (wrap64 (x6_1 + 1)) (wrap64 (x7_1 + 1))) = some r := by rw [if_pos rfl] at H; exact H
  clear H
  have H := H1
  clear H1
  have H' := aS H
  clear H
  have p186 : 0 ≤ (x7_1 : Int) := dd
  have q186 : x7_1 < (l0.length : Int) := dd
  obtain ⟨ad186, e186, hx186_0⟩ := Kd.at_bool HR0.out x7_1 p186 q186
  (try rw [← Nbq9.out] at hx186_0)
  cases e186
  replace hx186_0 := cc HB.out hx186_0
  replace p186 := eq_true p186
  replace q186 := eq_true q186
  go_wp2
  go_roundg k1
  case measure => have := HK1.out; omega
  case rel => exact ⟨(wrap64 (x6_1 + 1)), (wrap64 (x7_1 + 1)), (by first | rfl | (simp; done) | (simp [*]; done)), (by first | rfl | (simp; done) | (simp [*]; done)), H', ⟨by have := HK1.out; omega⟩, ⟨by repeat (first | (with_reducible first | exact HB.out | apply below_alloc | apply pw_below_drewN | apply below_drew1) | exact HB.out)⟩⟩ }
  {
  replace c10 := Bool.eq_false_iff.mpr c10
  subst c10
  have H1 : (hallmootlaw27_ScriptFair.l0 k1 l0 a1 t185 x6_1 (wrap64 (x7_1 + 1))) = some r := by rw [if_neg (show ¬ (false = true) by decide)] at H; exact H
  clear H
  have H := H1
  clear H1
  have H' := aS H
  clear H
  have p186 : 0 ≤ (x7_1 : Int) := dd
  have q186 : x7_1 < (l0.length : Int) := dd
  obtain ⟨ad186, e186, hx186_0⟩ := Kd.at_bool HR0.out x7_1 p186 q186
  (try rw [← Nbq9.out] at hx186_0)
  cases e186
  replace hx186_0 := cc HB.out hx186_0
  replace p186 := eq_true p186
  replace q186 := eq_true q186
  go_wp2
  go_roundg k1
  case measure => have := HK1.out; omega
  case rel => exact ⟨(x6_1), (wrap64 (x7_1 + 1)), (by first | rfl | (simp; done) | (simp [*]; done)), (by first | rfl | (simp; done) | (simp [*]; done)), H', ⟨by have := HK1.out; omega⟩, ⟨by repeat (first | (with_reducible first | exact HB.out | apply below_alloc | apply pw_below_drewN | apply below_drew1) | exact HB.out)⟩⟩ } }
  {
  rw [if_neg c8] at H
  exact absurd H (by simp) } }
  {
  rw [if_neg c7] at H
  have c7b0 : decide (x7_1 < (l0.length : Int)) = false := decide_eq_false c7
  clear c7
  by_cases c11 : 0 ≤ (l0.length : Int)
  {
  rw [if_pos c11] at H
  have c11b0 := eq_true c11
  have c11b1 : decide (0 ≤ (l0.length : Int)) = true := decide_eq_true c11
  clear c11
  by_cases c12 : ((l0.length : Int) : Int).toNat ≤ 281474976710656
  {
  rw [if_pos c12] at H
  have c12b0 := eq_true c12
  have c12b1 : decide (((l0.length : Int) : Int).toNat ≤ 281474976710656) = true := decide_eq_true c12
  clear c12
  obtain ⟨y187, hy187⟩ : ∃ y_ : List Bool, y_ = (List.replicate ((l0.length : Int) : Int).toNat false) := ⟨_, rfl⟩
  replace H : ((script_Next.f k1 l0 a1).bind fun t190 => (if x6_1 = 0 then (if t185 = true then (some (t190 == (-1))) else (none)) else (hallmootlaw27_ScriptFair.l1 k1 l0 t185 x6_1 y187 t190 t190 0))) = some r := by first | (rw [hy187]; with_reducible exact H) | (have H2_ := (Option.bind_some _ _).symm.trans H; rw [hy187]; with_reducible exact H2_) | (have H2_ := (Option.bind_some _ _).symm.trans H; with_reducible exact H2_) | with_reducible exact H | (rw [hy187]; exact H) | exact H
  have Ny187 := aS hy187
  clear hy187
  replace H := Option.bind_eq_some_iff.mp H
  obtain ⟨t190, A130, H⟩ := H
  replace H : (if x6_1 = 0 then (if t185 = true then (some (t190 == (-1))) else (none)) else (hallmootlaw27_ScriptFair.l1 k1 l0 t185 x6_1 y187 t190 t190 0)) = some r := H
  have A13 := aS A130
  clear A130
  by_cases c14 : x6_1 = 0
  {
  rw [if_pos c14] at H
  have c14b0 : (x6_1 == 0) = true := beq_iff_eq.mpr c14
  have c14b1 : (x6_1 != 0) = false := bne_eq_false_iff_eq.mpr c14
  clear c14
  by_cases c15 : t185 = true
  {
  subst c15
  have H1 : (some (t190 == (-1))) = some r := by rw [if_pos rfl] at H; exact H
  clear H
  have H := H1
  clear H1
  obtain rfl := Option.some.inj H
  go_wp2_with (first | ((with_reducible refine gate_dst (N := 31) rfl ?_); (try (refine gate_guard (by rfl) ?_; dsimp only)); refine Kd.R_make Kd.bool _ 4 rfl (N := 31) rfl 31 _ _ rfl (l0.length : Int) rfl rfl Tryd.underlying31 (.bool false) 1 info4 rfl (by decide) (by omega) false (ok := fun _ => True) (okp := fun _ => True) rfl (fun _ hk => hk) trivial (dd) (Nat.le_trans (Nat.mul_le_mul_right _ (dd : (l0.length : Int).toNat ≤ 281474976710656)) (by omega)) (Below.refl _ _) (Nat.le_refl _) ?_; intro v188 w16 ho17 hb hg_ hnew_; clear hg_ hnew_; (first | rw [← Ny187.out] at ho17 | (simp only [Int.reduceToNat] at ho17; rw [← Ny187.out] at ho17)); have n0_ := aS (Kd.R_lower ho17 bz); have n1_ := aS (below_step bb hb); clear HB; have HO189 := n0_; have HB := n1_; clear n0_ n1_; clear hb ho17) | ((with_reducible refine gate_callee (f := 13) rfl ?_); refine goesL_ (some 34) rfl rfl Tryd.func13 (by kernel_rfl) rfl #[.slice A0 l0.length c0, .int .i64 a1] rfl (by (try simp only [List.map_toArray, List.map_cons, List.map_nil]); first | done | rfl | (simp only [List.length_drop, List.length_take]; rfl)) ?_; (with_reducible refine (script_Next.calls k1 _ _ l0 a1 t190 _ ?side1 ?side2 A13.out).mono ?_); (case side1 => exact Kd.C_below HR0.out bb); (case side2 => exact HC0.out); rintro e w' ⟨rfl, ⟨nd, rfl⟩⟩; refine ⟨_, rfl, ?_⟩))
  go_ret
  exact ⟨by first | rfl | (simp [errW_none, errW_some] <;> rfl) | (simp [*, errW_none, errW_some] <;> rfl), by repeat (first | (with_reducible first | exact HB.out | apply below_alloc | apply pw_below_drewN | apply below_drew1) | exact HB.out)⟩ }
  {
  replace c15 := Bool.eq_false_iff.mpr c15
  subst c15
  have H1 : (none) = some r := by rw [if_neg (show ¬ (false = true) by decide)] at H; exact H
  clear H
  have H := H1
  clear H1
  exact absurd H (by simp) } }
  {
  rw [if_neg c14] at H
  have c14b0 : (x6_1 == 0) = false := beq_eq_false_iff_ne.mpr c14
  have c14b1 : (x6_1 != 0) = true := bne_iff_ne.mpr c14
  have H' := aS H
  clear H
  go_wp2_with (first | ((with_reducible refine gate_dst (N := 31) rfl ?_); (try (refine gate_guard (by rfl) ?_; dsimp only)); refine Kd.R_make Kd.bool _ 4 rfl (N := 31) rfl 31 _ _ rfl (l0.length : Int) rfl rfl Tryd.underlying31 (.bool false) 1 info4 rfl (by decide) (by omega) false (ok := fun _ => True) (okp := fun _ => True) rfl (fun _ hk => hk) trivial (dd) (Nat.le_trans (Nat.mul_le_mul_right _ (dd : (l0.length : Int).toNat ≤ 281474976710656)) (by omega)) (Below.refl _ _) (Nat.le_refl _) ?_; intro v188 w18 ho19 hb hg_ hnew_; clear hg_ hnew_; (first | rw [← Ny187.out] at ho19 | (simp only [Int.reduceToNat] at ho19; rw [← Ny187.out] at ho19)); have n0_ := aS (Kd.R_lower ho19 bz); have n1_ := aS (below_step bb hb); clear HB; have HO189 := n0_; have HB := n1_; clear n0_ n1_; clear hb ho19) | ((with_reducible refine gate_callee (f := 13) rfl ?_); refine goesL_ (some 34) rfl rfl Tryd.func13 (by kernel_rfl) rfl #[.slice A0 l0.length c0, .int .i64 a1] rfl (by (try simp only [List.map_toArray, List.map_cons, List.map_nil]); first | done | rfl | (simp only [List.length_drop, List.length_take]; rfl)) ?_; (with_reducible refine (script_Next.calls k1 _ _ l0 a1 t190 _ ?side1 ?side2 A13.out).mono ?_); (case side1 => exact Kd.C_below HR0.out bb); (case side2 => exact HC0.out); rintro e w' ⟨rfl, ⟨nd, rfl⟩⟩; refine ⟨_, rfl, ?_⟩))
  go_loopg [9, 11] k1 (fun kq v9 v11 w' => ∃ (x8_2 : List Bool) (x9_2 : Int) (x11_2 : Int), v9 = .int .i64 x9_2 ∧ v11 = .int .i64 x11_2 ∧ Aside0 (hallmootlaw27_ScriptFair.l1 kq l0 t185 x6_1 x8_2 x9_2 t190 x11_2 = some r) ∧ Aside0 (kq ≤ k1) ∧ Aside0 (Kd.R Kd.bool 4 w' w.heap.size (fun _ => True) v188 x8_2) ∧ Aside0 (Below w.heap.size w w'))
  case atStart => exact ⟨(y187), (t190), (0), (by first | rfl | (simp; done) | (simp [*]; done)), (by first | rfl | (simp; done) | (simp [*]; done)), H', ⟨Nat.le_refl _⟩, ⟨by (with_reducible repeat (first | apply Kd.R_alloc | apply Kd.R_drewN | apply Kd.R_drew)); exact HO189.out⟩, ⟨by repeat (first | (with_reducible first | exact HB.out | apply below_alloc | apply pw_below_drewN | apply below_drew1) | exact HB.out)⟩⟩
  case round =>
   clear H'
   try clear c1
   try clear p1
   try clear q1
   try clear hx1
   try clear p2
   try clear c4
   try clear c4b0
   try clear c4b1
   try clear p6
   try clear c7
   try clear c7b0
   try clear c8
   try clear c8b0
   try clear q9
   try clear c10
   try clear c11
   try clear c11b0
   try clear c11b1
   try clear c12
   try clear c12b0
   try clear c12b1
   try clear c13
   try clear c14
   try clear c14b0
   try clear c14b1
   try clear c15
   try clear p18
   try clear q18
   try clear hx18
   try clear hx186_0
   try clear p186
   try clear p2
   try clear q186
   obtain ⟨x8_2, x9_2, x11_2, rfl, rfl, HA, HK2, HO_8, HB⟩ := hrel
   cases gk with
   | zero => exact absurd HA.out (by simp [hallmootlaw27_ScriptFair.l1])
   | succ k2 => {
   have H := HA.out
   clear HA
   simp only [hallmootlaw27_ScriptFair.l1] at H
   by_cases c20 : x11_2 < x6_1
   {
   rw [if_pos c20] at H
   have c20b0 : decide (x11_2 < x6_1) = true := decide_eq_true c20
   clear c20
   have HC21 := aS H
   clear H
   go_upto_region 18 with (fail)
   go_cut [55] (fun v55 wc => ∃ (kq : Nat) (x55_20 : Bool), v55 = .bool x55_20 ∧ Aside0 (hallmootlaw27_ScriptFair.j2 kq l0 t185 x6_1 x8_2 x9_2 t190 x11_2 x55_20 = some r) ∧ Aside0 (kq ≤ k2) ∧ Aside0 (Kd.R Kd.bool 4 wc w.heap.size (fun _ => True) v188 x8_2) ∧ Aside0 (Below w.heap.size w wc))
   case first =>
    have H := HC21.out
    clear HC21
    by_cases c22 : x9_2 < 0
    {
    rw [if_pos c22] at H
    have c22b0 : decide (x9_2 < 0) = true := decide_eq_true c22
    clear c22
    (first | rw [c22b0] | (simp only [i64_w, i32_w]; rw [c22b0]) | skip)
    have H' := aS H
    clear H
    go_wp2
    go_meet
    case rel => exact ⟨_, (true), (by first | rfl | (simp; done) | (simp [*]; done)), H', ⟨by have := HK1.out; have := HK2.out; first | omega | exact Nat.le_refl _⟩, ⟨by (with_reducible repeat (first | apply Kd.R_alloc | apply Kd.R_drewN | apply Kd.R_drew)); exact HO_8.out⟩, ⟨by repeat (first | (with_reducible first | exact HB.out | apply below_alloc | apply pw_below_drewN | apply below_drew1) | exact HB.out)⟩⟩ }
    {
    rw [if_neg c22] at H
    have c22b0 : decide (x9_2 < 0) = false := decide_eq_false c22
    clear c22
    (first | rw [c22b0] | (simp only [i64_w, i32_w]; rw [c22b0]) | skip)
    have H' := aS H
    clear H
    go_wp2
    go_meet
    case rel => exact ⟨_, (decide (x9_2 ≥ (l0.length : Int))), (by first | rfl | (simp; done) | (simp [*]; done)), H', ⟨by have := HK1.out; have := HK2.out; first | omega | exact Nat.le_refl _⟩, ⟨by (with_reducible repeat (first | apply Kd.R_alloc | apply Kd.R_drewN | apply Kd.R_drew)); exact HO_8.out⟩, ⟨by repeat (first | (with_reducible first | exact HB.out | apply below_alloc | apply pw_below_drewN | apply below_drew1) | exact HB.out)⟩⟩ }
   case rest =>
    clear HC21
    try clear c1
    try clear p1
    try clear q1
    try clear hx1
    try clear c2
    try clear p2
    try clear c4
    try clear c4b0
    try clear c4b1
    try clear p6
    try clear c7
    try clear c7b0
    try clear c8
    try clear c8b0
    try clear q9
    try clear c10
    try clear c11
    try clear c11b0
    try clear c11b1
    try clear c12
    try clear c12b0
    try clear c12b1
    try clear c13
    try clear c14
    try clear c14b0
    try clear c14b1
    try clear c15
    try clear p18
    try clear q18
    try clear hx18
    try clear c20
    try clear c20b0
    try clear c22
    try clear c22b0
    try clear hx186_0
    try clear p1
    try clear p18
    try clear p186
    try clear p2
    try clear p6
    try clear q1
    try clear q18
    try clear q186
    try clear q9
    obtain ⟨kq, x55_20, rfl, HA, HJ20, HO_8, HB⟩ := hcut
    cases kq with
    | zero => exact absurd HA.out (by simp [hallmootlaw27_ScriptFair.j2])
    | succ kj20 => {
    have H := HA.out
    clear HA
    simp only [hallmootlaw27_ScriptFair.j2] at H
    by_cases c23 : x55_20 = true
    {
    subst c23
    have H1 : (none) = some r := by rw [if_pos rfl] at H; exact H
    clear H
    have H := H1
    clear H1
    exact absurd H (by simp) }
    {
    replace c23 := Bool.eq_false_iff.mpr c23
    subst c23
    have H1 : (if 0 ≤ x9_2 then (if x9_2 < (l0.length : Int) then (if rdOf false l0 x9_2 = true then (if x9_2 < (x8_2.length : Int) then (if rdOf false x8_2 x9_2 = true then (none) else ((script_Next.f kj20 l0 x9_2).bind fun t194 => (hallmootlaw27_ScriptFair.l1 kj20 l0 t185 x6_1 (x8_2.set (x9_2 : Int).toNat true) t194 t190 (wrap64 (x11_2 + 1))))) else (none)) else (none)) else (none)) else (none)) = some r := by rw [if_neg (show ¬ (false = true) by decide)] at H; exact H
    clear H
    have H := H1
    clear H1
    by_cases c24 : 0 ≤ x9_2
    {
    rw [if_pos c24] at H
    have c24b0 : decide (0 ≤ x9_2) = true := decide_eq_true c24
    clear c24
    by_cases c25 : x9_2 < (l0.length : Int)
    {
    rw [if_pos c25] at H
    have c25b0 : decide (x9_2 < (l0.length : Int)) = true := decide_eq_true c25
    clear c25
    obtain ⟨bq26, hbq26⟩ : ∃ b_ : Bool, b_ = (rdOf false l0 x9_2) := ⟨_, rfl⟩
    replace H : (if bq26 = true then (if x9_2 < (x8_2.length : Int) then (if rdOf false x8_2 x9_2 = true then (none) else ((script_Next.f kj20 l0 x9_2).bind fun t194 => (hallmootlaw27_ScriptFair.l1 kj20 l0 t185 x6_1 (x8_2.set (x9_2 : Int).toNat true) t194 t190 (wrap64 (x11_2 + 1))))) else (none)) else (none)) = some r := by rw [← hbq26] at H; exact H
    have Nbq26 := aS hbq26
    clear hbq26
    by_cases c27 : bq26 = true
    {
    subst c27
    have H1 : (if x9_2 < (x8_2.length : Int) then (if rdOf false x8_2 x9_2 = true then (none) else ((script_Next.f kj20 l0 x9_2).bind fun t194 => (hallmootlaw27_ScriptFair.l1 kj20 l0 t185 x6_1 (x8_2.set (x9_2 : Int).toNat true) t194 t190 (wrap64 (x11_2 + 1))))) else (none)) = some r := by rw [if_pos rfl] at H; exact H
    clear H
    have H := H1
    clear H1
    by_cases c28 : x9_2 < (x8_2.length : Int)
    {
    rw [if_pos c28] at H
    have c28b0 : decide (x9_2 < (x8_2.length : Int)) = true := decide_eq_true c28
    clear c28
    obtain ⟨bq29, hbq29⟩ : ∃ b_ : Bool, b_ = (rdOf false x8_2 x9_2) := ⟨_, rfl⟩
    replace H : (if bq29 = true then (none) else ((script_Next.f kj20 l0 x9_2).bind fun t194 => (hallmootlaw27_ScriptFair.l1 kj20 l0 t185 x6_1 (x8_2.set (x9_2 : Int).toNat true) t194 t190 (wrap64 (x11_2 + 1))))) = some r := by rw [← hbq29] at H; exact H
    have Nbq29 := aS hbq29
    clear hbq29
    by_cases c30 : bq29 = true
    {
    subst c30
    have H1 : (none) = some r := by rw [if_pos rfl] at H; exact H
    clear H
    have H := H1
    clear H1
    exact absurd H (by simp) }
    {
    replace c30 := Bool.eq_false_iff.mpr c30
    subst c30
    have H1 : ((script_Next.f kj20 l0 x9_2).bind fun t194 => (hallmootlaw27_ScriptFair.l1 kj20 l0 t185 x6_1 (x8_2.set (x9_2 : Int).toNat true) t194 t190 (wrap64 (x11_2 + 1)))) = some r := by rw [if_neg (show ¬ (false = true) by decide)] at H; exact H
    clear H
    have H := H1
    clear H1
    obtain ⟨y193, hy193⟩ : ∃ y_ : List Bool, y_ = (x8_2.set (x9_2 : Int).toNat true) := ⟨_, rfl⟩
    replace H : ((script_Next.f kj20 l0 x9_2).bind fun t194 => (hallmootlaw27_ScriptFair.l1 kj20 l0 t185 x6_1 y193 t194 t190 (wrap64 (x11_2 + 1)))) = some r := by first | (rw [hy193]; with_reducible exact H) | (have H2_ := (Option.bind_some _ _).symm.trans H; rw [hy193]; with_reducible exact H2_) | (have H2_ := (Option.bind_some _ _).symm.trans H; with_reducible exact H2_) | with_reducible exact H | (rw [hy193]; exact H) | exact H
    have Ny193 := aS hy193
    clear hy193
    replace H := Option.bind_eq_some_iff.mp H
    obtain ⟨t194, A320, H⟩ := H
    replace H : (hallmootlaw27_ScriptFair.l1 kj20 l0 t185 x6_1 y193 t194 t190 (wrap64 (x11_2 + 1))) = some r := H
    have A32 := aS A320
    clear A320
    have H' := aS H
    clear H
    have p191 : 0 ≤ (x9_2 : Int) := dd
    have q191 : x9_2 < (l0.length : Int) := dd
    obtain ⟨ad191, e191, hx191_0⟩ := Kd.at_bool HR0.out x9_2 p191 q191
    (try rw [← Nbq26.out] at hx191_0)
    (try rw [← Nbq29.out] at hx191_0)
    cases e191
    replace hx191_0 := cc HB.out hx191_0
    replace p191 := eq_true p191
    replace q191 := eq_true q191
    obtain ⟨Ao33, co33, eo33⟩ := Kd.R_slice HO_8.out
    subst eo33
    have p192 : 0 ≤ (x9_2 : Int) := dd
    have q192 : x9_2 < (x8_2.length : Int) := dd
    obtain ⟨ad192, e192, hx192_0⟩ := Kd.at_bool (Kd.R_reads' HO_8.out).2.2 x9_2 p192 q192
    (try rw [← Nbq26.out] at hx192_0)
    (try rw [← Nbq29.out] at hx192_0)
    cases e192
    replace p192 := eq_true p192
    replace q192 := eq_true q192
    have p31 : 0 ≤ (x9_2 : Int) := dd
    have q31 : (x9_2 : Int) < ((x8_2.length : Int) : Int) := dd
    obtain ⟨go31, co31, eo31, gb31, gl31, cl31, HG31⟩ := Kd.R_form HO_8.out (by omega)
    (first | cases eo31 | (injection eo31 with ea_ en_ ec_; (first | subst ea_ | (injection ea_ with ea_; subst ea_)); subst ec_; clear en_))
    have GB31 := aS gb31
    have GG31 := aS HG31
    clear gb31 gl31 HG31
    (first | simp only [add_plain] at hx192_0 | skip)
    obtain ⟨hx31_0, hf31_0⟩ := Kd.R_celln false HO_8.out (x9_2 : Int) p31 q31
    replace p31 := eq_true p31
    replace q31 := eq_true q31
    have HP34 := Kd.R_putg HO_8.out (x9_2 : Int) true
    go_wp2_with (first | ((with_reducible refine gate_store (t := 4) (p := 69) rfl ?_); refine store_event (t := 4) (p := 69) (v := ?vo_w35) (w1 := (wc.setCell ⟨go31, (x9_2 : Int).toNat, none⟩ (.bool true))) ?hg ?ho ?hn ?hr ?_; (case ho => rfl); (case hg => rfl); (case hn => rfl); (case hr => first | (go_simp; done) | (go_simp; rfl)); intro w35 hw; have hg : wc.grownBy w35 (some go31) := (by rw [hw]; exact HP34.2); have hp_ : Kd.R Kd.bool 4 w35 w.heap.size (fun _ => True) (.slice (some ⟨go31, 0, none⟩) x8_2.length co33) y193 := (by rw [hw, Ny193.out]; exact HP34.1); clear HP34; have n0_ := aS (hp_); have n1_ := aS ((by rw [hw]; exact below_set (HB.out) GB31.out : Below w.heap.size w w35)); clear HO_8; clear HB; have HO_8 := n0_; have HB := n1_; clear n0_ n1_; clear hg hw hp_) | ((with_reducible refine gate_callee (f := 13) rfl ?_); refine goesL_ (some 72) rfl rfl Tryd.func13 (by kernel_rfl) rfl #[.slice (some ad191) l0.length c0, .int .i64 x9_2] rfl (by (try simp only [List.map_toArray, List.map_cons, List.map_nil]); first | done | rfl | (simp only [List.length_drop, List.length_take]; rfl)) ?_; (with_reducible refine (script_Next.calls kj20 _ _ l0 x9_2 t194 _ ?side1 ?side2 A32.out).mono ?_); (case side1 => exact Kd.C_below HR0.out bb); (case side2 => exact HC0.out); rintro e w' ⟨rfl, ⟨nd, rfl⟩⟩; refine ⟨_, rfl, ?_⟩))
    go_roundg kj20
    case measure => have := HK1.out; have := HK2.out; have := HJ20.out; omega
    case rel => exact ⟨(y193), (t194), (wrap64 (x11_2 + 1)), (by first | rfl | (simp; done) | (simp [*]; done)), (by first | rfl | (simp; done) | (simp [*]; done)), H', ⟨by have := HK1.out; have := HK2.out; have := HJ20.out; omega⟩, ⟨by (with_reducible repeat (first | apply Kd.R_alloc | apply Kd.R_drewN | apply Kd.R_drew)); exact HO_8.out⟩, ⟨by repeat (first | (with_reducible first | exact HB.out | apply below_alloc | apply pw_below_drewN | apply below_drew1) | exact HB.out)⟩⟩ } }
    {
    rw [if_neg c28] at H
    exact absurd H (by simp) } }
    {
    replace c27 := Bool.eq_false_iff.mpr c27
    subst c27
    have H1 : (none) = some r := by rw [if_neg (show ¬ (false = true) by decide)] at H; exact H
    clear H
    have H := H1
    clear H1
    exact absurd H (by simp) } }
    {
    rw [if_neg c25] at H
    exact absurd H (by simp) } }
    {
    rw [if_neg c24] at H
    exact absurd H (by simp) } } } }
   {
   rw [if_neg c20] at H
   have c20b0 : decide (x11_2 < x6_1) = false := decide_eq_false c20
   clear c20
   by_cases c36 : t185 = true
   {
   subst c36
   have H1 : (some (x9_2 == t190)) = some r := by rw [if_pos rfl] at H; exact H
   clear H
   have H := H1
   clear H1
   obtain rfl := Option.some.inj H
   go_wp2
   go_ret
   exact ⟨by first | rfl | (simp [errW_none, errW_some] <;> rfl) | (simp [*, errW_none, errW_some] <;> rfl), by repeat (first | (with_reducible first | exact HB.out | apply below_alloc | apply pw_below_drewN | apply below_drew1) | exact HB.out)⟩ }
   {
   replace c36 := Bool.eq_false_iff.mpr c36
   subst c36
   have H1 : (none) = some r := by rw [if_neg (show ¬ (false = true) by decide)] at H; exact H
   clear H
   have H := H1
   clear H1
   exact absurd H (by simp) } } } } }
  {
  rw [if_neg c12] at H
  exact absurd H (by simp) } }
  {
  rw [if_neg c11] at H
  exact absurd H (by simp) } } } }

end Go.Proofs.YtcnclgneldonfaaDoor.P
