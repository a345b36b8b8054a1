-- Written by pp.py (this session's program over the kit's printer): functions, contracts. Not trusted: Lean checks it.
import Derived.Test.YtphlbjpefnjjnaaDoorPx0
import Derived.Test.YtphlbjpefnjjnaaDoorYZ
import Derived.Test.YtphlbjpefnjjnaaDoorPx64
import Derived.Test.YtphlbjpefnjjnaaDoorPx65
import Derived.Test.YtphlbjpefnjjnaaDoorPx66
namespace Go.Proofs.YtphlbjpefnjjnaaDoor.P
open Go.RowKit Go.Proofs.YtphlbjpefnjjnaaDoorW.PrintWords Go.Proofs.YtphlbjpefnjjnaaDoorW.PrintLast Go.Proofs.YtphlbjpefnjjnaaDoorW.PrintMore
attribute [local go_sem] max2_int min2_int max_two min_two max_three min_three max_four min_four   -- for this text's walks alone
set_option linter.unusedVariables false
set_option linter.unusedSimpArgs false

/-! ### hallmootref04_Words: function 11 -/
mutual
def hallmootref04_Words.l0 : Nat → ByteArray → List (S30) → Int → Option ((List (S30)) × Int)
  | 0, _, _, _ => none
  | k + 1, x0, x4, x5 => if x5 < (x0.size : Int) then (if 0 ≤ x5 then ((hallmootref04_class.f k (bt x0 x5)).bind fun t158 => (if t158 = 4 then (hallmootref04_Words.l0 k x0 x4 (wrap64 (x5 + 1))) else (if t158 = 3 then (some (([] : List (S30)), 3)) else (if t158 = 0 then ((hallmootref04_sign.f k x0 x5).bind fun t159 => (if t159 = 0 then (some (([] : List (S30)), 3)) else (if x5 ≤ (wrap64 (x5 + t159)) then (if (wrap64 (x5 + t159)) ≤ (x0.size : Int) then (if x4.length < 3518437208883 then (hallmootref04_Words.l0 k x0 (x4 ++ [(⟨3, x0.extract (x5 : Int).toNat ((wrap64 (x5 + t159)) : Int).toNat, 0, x5⟩ : S30)]) (wrap64 (x5 + t159))) else (none)) else (none)) else (none)))) else (hallmootref04_Words.l1 k x0 x4 x5 t158 (wrap64 (x5 + 1))))))) else (none)) else (some (x4, 0))
def hallmootref04_Words.j2 : Nat → ByteArray → List (S30) → Int → Int → Int → Option ((List (S30)) × Int)
  | 0, _, _, _, _, _ => none
  | k + 1, x0, x4, x5, x6, x8 => if 0 ≤ x5 then (if x5 ≤ x8 then (if x8 ≤ (x0.size : Int) then (if x6 = 1 then (hallmootref04_Words.j3 k x0 x4 x5 x6 x8 (decide ((wrap64 (x8 - x5)) > 12)) x6 (x0.extract (x5 : Int).toNat (x8 : Int).toNat) 0 x5) else (hallmootref04_Words.j3 k x0 x4 x5 x6 x8 false x6 (x0.extract (x5 : Int).toNat (x8 : Int).toNat) 0 x5)) else (none)) else (none)) else (none)
def hallmootref04_Words.j3 : Nat → ByteArray → List (S30) → Int → Int → Int → Bool → Int → ByteArray → Int → Int → Option ((List (S30)) × Int)
  | 0, _, _, _, _, _, _, _, _, _, _ => none
  | k + 1, x0, x4, x5, x6, x8, x90, x165000, x165001, x165002, x165003 => if x90 = true then (some (([] : List (S30)), 3)) else (if x6 = 2 then (if 0 ≤ x5 then (if x5 ≤ x8 then (if x8 ≤ (x0.size : Int) then ((hallmootref04_number.f k (x0.extract (x5 : Int).toNat (x8 : Int).toNat)).bind fun t165 => (if x8 < (x0.size : Int) then (if 0 ≤ x8 then ((hallmootref04_class.f k (bt x0 x8)).bind fun t166 => (if t165 < 0 then (some (([] : List (S30)), 3)) else (if t166 = 1 then (some (([] : List (S30)), 3)) else (if t166 = 3 then (some (([] : List (S30)), 3)) else (if x4.length < 3518437208883 then (hallmootref04_Words.l0 k x0 (x4 ++ [(⟨x165000, x165001, t165, x165003⟩ : S30)]) x8) else (none)))))) else (none)) else (if t165 < 0 then (some (([] : List (S30)), 3)) else (if 0 = 1 then (some (([] : List (S30)), 3)) else (if 0 = 3 then (some (([] : List (S30)), 3)) else (if x4.length < 3518437208883 then (hallmootref04_Words.l0 k x0 (x4 ++ [(⟨x165000, x165001, t165, x165003⟩ : S30)]) x8) else (none))))))) else (none)) else (none)) else (none)) else (if x4.length < 3518437208883 then (hallmootref04_Words.l0 k x0 (x4 ++ [(⟨x165000, x165001, x165002, x165003⟩ : S30)]) x8) else (none)))
def hallmootref04_Words.l1 : Nat → ByteArray → List (S30) → Int → Int → Int → Option ((List (S30)) × Int)
  | 0, _, _, _, _, _ => none
  | k + 1, x0, x4, x5, x6, x8 => if x8 < (x0.size : Int) then (if 0 ≤ x8 then ((hallmootref04_class.f k (bt x0 x8)).bind fun t163 => (if t163 = 2 then (hallmootref04_Words.l1 k x0 x4 x5 x6 (wrap64 (x8 + 1))) else (if x6 = 1 then (if t163 = 1 then (hallmootref04_Words.l1 k x0 x4 x5 x6 (wrap64 (x8 + 1))) else (if t163 = 3 then (hallmootref04_Words.l1 k x0 x4 x5 x6 (wrap64 (x8 + 1))) else (hallmootref04_Words.j2 k x0 x4 x5 x6 x8))) else (hallmootref04_Words.j2 k x0 x4 x5 x6 x8)))) else (none)) else (hallmootref04_Words.j2 k x0 x4 x5 x6 x8)
end
def hallmootref04_Words.f (k : Nat) (a0 : ByteArray) : Option ((List (S30)) × Int) := if (a0.size : Int) > 3000 then (some (([] : List (S30)), 2)) else (hallmootref04_Words.l0 k a0 ([] : List (S30)) 0)
theorem hallmootref04_Words.mono_l : ∀ k, (∀ y0 y1 y2, LeO (hallmootref04_Words.l0 k y0 y1 y2) (hallmootref04_Words.l0 (k + 1) y0 y1 y2)) ∧ (∀ y0 y1 y2 y3 y4, LeO (hallmootref04_Words.j2 k y0 y1 y2 y3 y4) (hallmootref04_Words.j2 (k + 1) y0 y1 y2 y3 y4)) ∧ (∀ y0 y1 y2 y3 y4 y5 y6 y7 y8 y9, LeO (hallmootref04_Words.j3 k y0 y1 y2 y3 y4 y5 y6 y7 y8 y9) (hallmootref04_Words.j3 (k + 1) y0 y1 y2 y3 y4 y5 y6 y7 y8 y9)) ∧ (∀ y0 y1 y2 y3 y4, LeO (hallmootref04_Words.l1 k y0 y1 y2 y3 y4) (hallmootref04_Words.l1 (k + 1) y0 y1 y2 y3 y4))
  | 0 => ⟨fun _ _ _ r h => by simp [hallmootref04_Words.l0] at h, fun _ _ _ _ _ r h => by simp [hallmootref04_Words.j2] at h, fun _ _ _ _ _ _ _ _ _ _ r h => by simp [hallmootref04_Words.j3] at h, fun _ _ _ _ _ r h => by simp [hallmootref04_Words.l1] at h⟩
  | k + 1 => by
    obtain ⟨ih0, ih1, ih2, ih3⟩ := hallmootref04_Words.mono_l k
    refine ⟨?_, ?_, ?_, ?_⟩
    · intro y0 y1 y2
      unfold hallmootref04_Words.l0
      repeat' first
      | (with_reducible exact ih0 _ _ _)
      | (with_reducible exact ih1 _ _ _ _ _)
      | (with_reducible exact ih2 _ _ _ _ _ _ _ _ _ _)
      | (with_reducible exact ih3 _ _ _ _ _)
      | (with_reducible exact hallmootref04_class.mono _ _)
      | (with_reducible exact hallmootref04_number.mono _ _)
      | (with_reducible exact hallmootref04_sign.mono _ _ _)
      | (with_reducible exact LeO.refl _)
      | (with_reducible exact LeO.none _)
      | (with_reducible refine LeO.ite ?_ ?_)
      | (with_reducible refine LeO.bind ?_ (fun _ => ?_))
      | exact ih0 _ _ _
      | exact ih1 _ _ _ _ _
      | exact ih2 _ _ _ _ _ _ _ _ _ _
      | exact ih3 _ _ _ _ _
      | exact hallmootref04_class.mono _ _
      | exact hallmootref04_number.mono _ _
      | exact hallmootref04_sign.mono _ _ _
      | exact LeO.none _
      | refine LeO.ite ?_ ?_
      | refine LeO.bind ?_ (fun _ => ?_)
    · intro y0 y1 y2 y3 y4
      unfold hallmootref04_Words.j2
      repeat' first
      | (with_reducible exact ih0 _ _ _)
      | (with_reducible exact ih1 _ _ _ _ _)
      | (with_reducible exact ih2 _ _ _ _ _ _ _ _ _ _)
      | (with_reducible exact ih3 _ _ _ _ _)
      | (with_reducible exact hallmootref04_class.mono _ _)
      | (with_reducible exact hallmootref04_number.mono _ _)
      | (with_reducible exact hallmootref04_sign.mono _ _ _)
      | (with_reducible exact LeO.refl _)
      | (with_reducible exact LeO.none _)
      | (with_reducible refine LeO.ite ?_ ?_)
      | (with_reducible refine LeO.bind ?_ (fun _ => ?_))
      | exact ih0 _ _ _
      | exact ih1 _ _ _ _ _
      | exact ih2 _ _ _ _ _ _ _ _ _ _
      | exact ih3 _ _ _ _ _
      | exact hallmootref04_class.mono _ _
      | exact hallmootref04_number.mono _ _
      | exact hallmootref04_sign.mono _ _ _
      | exact LeO.none _
      | refine LeO.ite ?_ ?_
      | refine LeO.bind ?_ (fun _ => ?_)
    · intro y0 y1 y2 y3 y4 y5 y6 y7 y8 y9
      unfold hallmootref04_Words.j3
      repeat' first
      | (with_reducible exact ih0 _ _ _)
      | (with_reducible exact ih1 _ _ _ _ _)
      | (with_reducible exact ih2 _ _ _ _ _ _ _ _ _ _)
      | (with_reducible exact ih3 _ _ _ _ _)
      | (with_reducible exact hallmootref04_class.mono _ _)
      | (with_reducible exact hallmootref04_number.mono _ _)
      | (with_reducible exact hallmootref04_sign.mono _ _ _)
      | (with_reducible exact LeO.refl _)
      | (with_reducible exact LeO.none _)
      | (with_reducible refine LeO.ite ?_ ?_)
      | (with_reducible refine LeO.bind ?_ (fun _ => ?_))
      | exact ih0 _ _ _
      | exact ih1 _ _ _ _ _
      | exact ih2 _ _ _ _ _ _ _ _ _ _
      | exact ih3 _ _ _ _ _
      | exact hallmootref04_class.mono _ _
      | exact hallmootref04_number.mono _ _
      | exact hallmootref04_sign.mono _ _ _
      | exact LeO.none _
      | refine LeO.ite ?_ ?_
      | refine LeO.bind ?_ (fun _ => ?_)
    · intro y0 y1 y2 y3 y4
      unfold hallmootref04_Words.l1
      repeat' first
      | (with_reducible exact ih0 _ _ _)
      | (with_reducible exact ih1 _ _ _ _ _)
      | (with_reducible exact ih2 _ _ _ _ _ _ _ _ _ _)
      | (with_reducible exact ih3 _ _ _ _ _)
      | (with_reducible exact hallmootref04_class.mono _ _)
      | (with_reducible exact hallmootref04_number.mono _ _)
      | (with_reducible exact hallmootref04_sign.mono _ _ _)
      | (with_reducible exact LeO.refl _)
      | (with_reducible exact LeO.none _)
      | (with_reducible refine LeO.ite ?_ ?_)
      | (with_reducible refine LeO.bind ?_ (fun _ => ?_))
      | exact ih0 _ _ _
      | exact ih1 _ _ _ _ _
      | exact ih2 _ _ _ _ _ _ _ _ _ _
      | exact ih3 _ _ _ _ _
      | exact hallmootref04_class.mono _ _
      | exact hallmootref04_number.mono _ _
      | exact hallmootref04_sign.mono _ _ _
      | exact LeO.none _
      | refine LeO.ite ?_ ?_
      | refine LeO.bind ?_ (fun _ => ?_)
theorem hallmootref04_Words.mono : ∀ a0 k, LeO (hallmootref04_Words.f k a0) (hallmootref04_Words.f (k + 1) a0) := by
 intro a0 k
 obtain ⟨ih0, ih1, ih2, ih3⟩ := hallmootref04_Words.mono_l k
 unfold hallmootref04_Words.f
 repeat' first | (with_reducible exact ih0 _ _ _) | (with_reducible exact ih1 _ _ _ _ _) | (with_reducible exact ih2 _ _ _ _ _ _ _ _ _ _) | (with_reducible exact ih3 _ _ _ _ _) | (with_reducible exact hallmootref04_class.mono _ _) | (with_reducible exact hallmootref04_number.mono _ _) | (with_reducible exact hallmootref04_sign.mono _ _ _) | (with_reducible exact LeO.refl _) | (with_reducible exact LeO.none _) | (with_reducible refine LeO.ite ?_ ?_) | (with_reducible refine LeO.bind ?_ (fun _ => ?_)) | exact ih0 _ _ _ | exact ih1 _ _ _ _ _ | exact ih2 _ _ _ _ _ _ _ _ _ _ | exact ih3 _ _ _ _ _ | exact hallmootref04_class.mono _ _ | exact hallmootref04_number.mono _ _ | exact hallmootref04_sign.mono _ _ _ | exact LeO.none _ | refine LeO.ite ?_ ?_ | refine LeO.bind ?_ (fun _ => ?_)
set_option maxHeartbeats 8000000 in
set_option maxRecDepth 100000 in
theorem hallmootref04_Words.calls (k : Nat) (a0 : ByteArray) (r1 : List (S30)) (r2 : Int) (w : World) (h : hallmootref04_Words.f k a0 = some (r1, r2)) : Calls Tryd.prog 11 #[.string a0] w fun e w' => ∃ v0_ : Value, e = .returned (.tuple #[v0_, .int .i64 r2]) ∧ Kd.R k30 30 w' w.heap.size (fun _ => True) v0_ r1 ∧ Below w.heap.size w w' := by
 have hu30 := Tryd.underlying30
 have HB := aS (Below.refl w.heap.size w)
 have H : (if (a0.size : Int) > 3000 then (some (([] : List (S30)), 2)) else (hallmootref04_Words.l0 k a0 ([] : List (S30)) 0)) = some (r1, r2) := h
 clear h
 by_cases c2 : (a0.size : Int) > 3000
 {
 rw [if_pos c2] at H
 have c2b0 : decide (3000 < (a0.size : Int)) = true := decide_eq_true c2
 have c2b1 : decide (3000 < a0.size) = true := decide_eq_true (by omega)
 clear c2
 simp only [Option.some.injEq, Prod.mk.injEq] at H
 obtain ⟨rfl, rfl⟩ := H
 go_enter Tryd.func11, Tryd.ntmps11
 go_wp2
 all_goals go_ret2
 all_goals exact ⟨_, by first | rfl | (simp [errW_none, errW_some] <;> rfl) | (simp [*, errW_none, errW_some] <;> rfl), by first | exact Kd.R_nil _ _ _ _ _ | exact Kd.N_nil _ _ _ _ _ | exact Kd.V_nil _ _ _ _ _ | exact Kd.Q_nil _ _ _ _ _ | exact Kd.S_nil _ _ _ _ _, by repeat (first | (with_reducible first | exact HB.out | apply below_alloc | apply pw_below_drewN | apply below_drew1) | exact HB.out)⟩ }
 {
 rw [if_neg c2] at H
 have c2b0 : decide (3000 < (a0.size : Int)) = false := decide_eq_false c2
 have c2b1 : decide (3000 < a0.size) = false := decide_eq_false (by omega)
 clear c2
 have H' := aS H
 clear H
 go_enter Tryd.func11, Tryd.ntmps11
 go_wp2
 go_loopg [4, 5] k (fun kq v4 v5 w' => ∃ (x4_1 : List (S30)) (x5_1 : Int), v5 = .int .i64 x5_1 ∧ Aside0 (hallmootref04_Words.l0 kq a0 x4_1 x5_1 = some (r1, r2)) ∧ Aside0 (kq ≤ k) ∧ Aside0 (Kd.R k30 30 w' w.heap.size (fun _ => True) v4 x4_1) ∧ Aside0 (Below w.heap.size w w'))
 case atStart => exact ⟨(([] : List (S30))), (0), (by first | rfl | (simp; done) | (simp [*]; done)), H', ⟨Nat.le_refl _⟩, ⟨by first | exact Kd.R_nil _ _ _ _ _ | exact Kd.N_nil _ _ _ _ _ | exact Kd.V_nil _ _ _ _ _ | exact Kd.Q_nil _ _ _ _ _ | exact Kd.S_nil _ _ _ _ _⟩, ⟨by repeat (first | (with_reducible first | exact HB.out | apply below_alloc | apply pw_below_drewN | apply below_drew1) | exact HB.out)⟩⟩
 case round =>
  clear H'
  try clear c1
  try clear c2
  try clear c2b0
  try clear c2b1
  try clear p2
  obtain ⟨x4_1, x5_1, rfl, HA, HK1, HO_4, HB⟩ := hrel
  cases gk with
  | zero => exact absurd HA.out (by simp [hallmootref04_Words.l0])
  | succ k1 => {
  have H := HA.out
  clear HA
  simp only [hallmootref04_Words.l0] at H
  by_cases c3 : x5_1 < (a0.size : Int)
  {
  rw [if_pos c3] at H
  have c3b0 : decide (x5_1 < (a0.size : Int)) = true := decide_eq_true c3
  clear c3
  by_cases c4 : 0 ≤ x5_1
  {
  rw [if_pos c4] at H
  have c4b0 : decide (0 ≤ x5_1) = true := decide_eq_true c4
  clear c4
  replace H := Option.bind_eq_some_iff.mp H
  obtain ⟨t158, A60, H⟩ := H
  replace H : (if t158 = 4 then (hallmootref04_Words.l0 k1 a0 x4_1 (wrap64 (x5_1 + 1))) else (if t158 = 3 then (some (([] : List (S30)), 3)) else (if t158 = 0 then ((hallmootref04_sign.f k1 a0 x5_1).bind fun t159 => (if t159 = 0 then (some (([] : List (S30)), 3)) else (if x5_1 ≤ (wrap64 (x5_1 + t159)) then (if (wrap64 (x5_1 + t159)) ≤ (a0.size : Int) then (if x4_1.length < 3518437208883 then (hallmootref04_Words.l0 k1 a0 (x4_1 ++ [(⟨3, a0.extract (x5_1 : Int).toNat ((wrap64 (x5_1 + t159)) : Int).toNat, 0, x5_1⟩ : S30)]) (wrap64 (x5_1 + t159))) else (none)) else (none)) else (none)))) else (hallmootref04_Words.l1 k1 a0 x4_1 x5_1 t158 (wrap64 (x5_1 + 1)))))) = some (r1, r2) := H
  have A6 := aS A60
  clear A60
  by_cases c7 : t158 = 4
  {
  rw [if_pos c7] at H
  have c7b0 : (t158 == 4) = true := beq_iff_eq.mpr c7
  have c7b1 : (t158 != 4) = false := bne_eq_false_iff_eq.mpr c7
  clear c7
  have H' := aS H
  clear H
  have p5 : 0 ≤ (x5_1 : Int) := dd
  have q5 : x5_1 < (a0.size : Int) := dd
  have hx5 := bt_at a0 x5_1
  replace p5 := eq_true p5
  replace q5 := eq_true q5
  go_wp2_with (first | ((with_reducible refine gate_callee (f := 20) rfl ?_); refine goesL_ (some 22) rfl rfl Tryd.func20 (by kernel_rfl) rfl #[.int .u8 (bt a0 x5_1)] rfl (by (try simp only [List.map_toArray, List.map_cons, List.map_nil]); first | done | rfl | (simp only [List.length_drop, List.length_take]; rfl)) ?_; (with_reducible refine (hallmootref04_class.calls k1 (bt a0 x5_1) t158 _ A6.out).mono ?_); rintro e w' ⟨rfl, ⟨nd, rfl⟩⟩; refine ⟨_, rfl, ?_⟩))
  go_roundg k1
  case measure => have := HK1.out; omega
  case rel => exact ⟨(x4_1), (wrap64 (x5_1 + 1)), (by first | rfl | (simp; done) | (simp [*]; done)), H', ⟨by have := HK1.out; omega⟩, ⟨by (with_reducible repeat (first | apply Kd.R_alloc | apply Kd.R_drewN | apply Kd.R_drew)); exact HO_4.out⟩, ⟨by repeat (first | (with_reducible first | exact HB.out | apply below_alloc | apply pw_below_drewN | apply below_drew1) | exact HB.out)⟩⟩ }
  {
  rw [if_neg c7] at H
  have c7b0 : (t158 == 4) = false := beq_eq_false_iff_ne.mpr c7
  have c7b1 : (t158 != 4) = true := bne_iff_ne.mpr c7
  by_cases c8 : t158 = 3
  {
  rw [if_pos c8] at H
  have c8b0 : (t158 == 3) = true := beq_iff_eq.mpr c8
  have c8b1 : (t158 != 3) = false := bne_eq_false_iff_eq.mpr c8
  clear c8
  simp only [Option.some.injEq, Prod.mk.injEq] at H
  obtain ⟨rfl, rfl⟩ := H
  have p5 : 0 ≤ (x5_1 : Int) := dd
  have q5 : x5_1 < (a0.size : Int) := dd
  have hx5 := bt_at a0 x5_1
  replace p5 := eq_true p5
  replace q5 := eq_true q5
  go_wp2_with (first | ((with_reducible refine gate_callee (f := 20) rfl ?_); refine goesL_ (some 22) rfl rfl Tryd.func20 (by kernel_rfl) rfl #[.int .u8 (bt a0 x5_1)] rfl (by (try simp only [List.map_toArray, List.map_cons, List.map_nil]); first | done | rfl | (simp only [List.length_drop, List.length_take]; rfl)) ?_; (with_reducible refine (hallmootref04_class.calls k1 (bt a0 x5_1) t158 _ A6.out).mono ?_); rintro e w' ⟨rfl, ⟨nd, rfl⟩⟩; refine ⟨_, rfl, ?_⟩))
  all_goals go_ret2
  all_goals exact ⟨_, by first | rfl | (simp [errW_none, errW_some] <;> rfl) | (simp [*, errW_none, errW_some] <;> rfl), by first | exact Kd.R_nil _ _ _ _ _ | exact Kd.N_nil _ _ _ _ _ | exact Kd.V_nil _ _ _ _ _ | exact Kd.Q_nil _ _ _ _ _ | exact Kd.S_nil _ _ _ _ _, by repeat (first | (with_reducible first | exact HB.out | apply below_alloc | apply pw_below_drewN | apply below_drew1) | exact HB.out)⟩ }
  {
  rw [if_neg c8] at H
  have c8b0 : (t158 == 3) = false := beq_eq_false_iff_ne.mpr c8
  have c8b1 : (t158 != 3) = true := bne_iff_ne.mpr c8
  by_cases c9 : t158 = 0
  {
  rw [if_pos c9] at H
  have c9b0 : (t158 == 0) = true := beq_iff_eq.mpr c9
  have c9b1 : (t158 != 0) = false := bne_eq_false_iff_eq.mpr c9
  clear c9
  replace H := Option.bind_eq_some_iff.mp H
  obtain ⟨t159, A100, H⟩ := H
  replace H : (if t159 = 0 then (some (([] : List (S30)), 3)) else (if x5_1 ≤ (wrap64 (x5_1 + t159)) then (if (wrap64 (x5_1 + t159)) ≤ (a0.size : Int) then (if x4_1.length < 3518437208883 then (hallmootref04_Words.l0 k1 a0 (x4_1 ++ [(⟨3, a0.extract (x5_1 : Int).toNat ((wrap64 (x5_1 + t159)) : Int).toNat, 0, x5_1⟩ : S30)]) (wrap64 (x5_1 + t159))) else (none)) else (none)) else (none))) = some (r1, r2) := H
  have A10 := aS A100
  clear A100
  by_cases c11 : t159 = 0
  {
  rw [if_pos c11] at H
  have c11b0 : (t159 == 0) = true := beq_iff_eq.mpr c11
  have c11b1 : (t159 != 0) = false := bne_eq_false_iff_eq.mpr c11
  clear c11
  simp only [Option.some.injEq, Prod.mk.injEq] at H
  obtain ⟨rfl, rfl⟩ := H
  have p5 : 0 ≤ (x5_1 : Int) := dd
  have q5 : x5_1 < (a0.size : Int) := dd
  have hx5 := bt_at a0 x5_1
  replace p5 := eq_true p5
  replace q5 := eq_true q5
  go_wp2_with (first | ((with_reducible refine gate_callee (f := 20) rfl ?_); refine goesL_ (some 22) rfl rfl Tryd.func20 (by kernel_rfl) rfl #[.int .u8 (bt a0 x5_1)] rfl (by (try simp only [List.map_toArray, List.map_cons, List.map_nil]); first | done | rfl | (simp only [List.length_drop, List.length_take]; rfl)) ?_; (with_reducible refine (hallmootref04_class.calls k1 (bt a0 x5_1) t158 _ A6.out).mono ?_); rintro e w' ⟨rfl, ⟨nd, rfl⟩⟩; refine ⟨_, rfl, ?_⟩) | ((with_reducible refine gate_callee (f := 21) rfl ?_); refine goesL_ (some 33) rfl rfl Tryd.func21 (by kernel_rfl) rfl #[.string a0, .int .i64 x5_1] rfl (by (try simp only [List.map_toArray, List.map_cons, List.map_nil]); first | done | rfl | (simp only [List.length_drop, List.length_take]; rfl)) ?_; (with_reducible refine (hallmootref04_sign.calls k1 a0 x5_1 t159 _ A10.out).mono ?_); rintro e w' ⟨rfl, ⟨nd, rfl⟩⟩; refine ⟨_, rfl, ?_⟩))
  all_goals go_ret2
  all_goals exact ⟨_, by first | rfl | (simp [errW_none, errW_some] <;> rfl) | (simp [*, errW_none, errW_some] <;> rfl), by first | exact Kd.R_nil _ _ _ _ _ | exact Kd.N_nil _ _ _ _ _ | exact Kd.V_nil _ _ _ _ _ | exact Kd.Q_nil _ _ _ _ _ | exact Kd.S_nil _ _ _ _ _, by repeat (first | (with_reducible first | exact HB.out | apply below_alloc | apply pw_below_drewN | apply below_drew1) | exact HB.out)⟩ }
  {
  rw [if_neg c11] at H
  have c11b0 : (t159 == 0) = false := beq_eq_false_iff_ne.mpr c11
  have c11b1 : (t159 != 0) = true := bne_iff_ne.mpr c11
  have c12b0 := eq_true (dd : 0 ≤ x5_1)
  by_cases c13 : x5_1 ≤ (wrap64 (x5_1 + t159))
  {
  rw [if_pos c13] at H
  have c13b0 := eq_true c13
  have c13b1 : decide (x5_1 ≤ (wrap64 (x5_1 + t159))) = true := decide_eq_true c13
  by_cases c14 : (wrap64 (x5_1 + t159)) ≤ (a0.size : Int)
  {
  rw [if_pos c14] at H
  have c14b0 := eq_true c14
  have c14b1 : decide ((wrap64 (x5_1 + t159)) ≤ (a0.size : Int)) = true := decide_eq_true c14
  by_cases c15 : x4_1.length < 3518437208883
  {
  rw [if_pos c15] at H
  have LMc15 := aS c15
  clear c15
  obtain ⟨y160, hy160⟩ : ∃ y_ : List (S30), y_ = (x4_1 ++ [(⟨3, a0.extract (x5_1 : Int).toNat ((wrap64 (x5_1 + t159)) : Int).toNat, 0, x5_1⟩ : S30)]) := ⟨_, rfl⟩
  replace H : (hallmootref04_Words.l0 k1 a0 y160 (wrap64 (x5_1 + t159))) = some (r1, r2) := by first | (rw [hy160]; with_reducible exact H) | (have H2_ := (Option.bind_some _ _).symm.trans H; rw [hy160]; with_reducible exact H2_) | (have H2_ := (Option.bind_some _ _).symm.trans H; with_reducible exact H2_) | with_reducible exact H | (rw [hy160]; exact H) | exact H
  have Ny160 := aS hy160
  clear hy160
  have H' := aS H
  clear H
  have p5 : 0 ≤ (x5_1 : Int) := dd
  have q5 : x5_1 < (a0.size : Int) := dd
  have hx5 := bt_at a0 x5_1
  replace p5 := eq_true p5
  replace q5 := eq_true q5
  go_wp2_with (first | ((with_reducible refine gate_callee (f := 20) rfl ?_); refine goesL_ (some 22) rfl rfl Tryd.func20 (by kernel_rfl) rfl #[.int .u8 (bt a0 x5_1)] rfl (by (try simp only [List.map_toArray, List.map_cons, List.map_nil]); first | done | rfl | (simp only [List.length_drop, List.length_take]; rfl)) ?_; (with_reducible refine (hallmootref04_class.calls k1 (bt a0 x5_1) t158 _ A6.out).mono ?_); rintro e w' ⟨rfl, ⟨nd, rfl⟩⟩; refine ⟨_, rfl, ?_⟩) | ((with_reducible refine gate_callee (f := 21) rfl ?_); refine goesL_ (some 33) rfl rfl Tryd.func21 (by kernel_rfl) rfl #[.string a0, .int .i64 x5_1] rfl (by (try simp only [List.map_toArray, List.map_cons, List.map_nil]); first | done | rfl | (simp only [List.length_drop, List.length_take]; rfl)) ?_; (with_reducible refine (hallmootref04_sign.calls k1 a0 x5_1 t159 _ A10.out).mono ?_); rintro e w' ⟨rfl, ⟨nd, rfl⟩⟩; refine ⟨_, rfl, ?_⟩) | ((with_reducible refine gate_builtin (b := .append) (xs := #[.tmp 36, .tmp 45]) rfl ?_); at_builtin; refine Kd.R_append k30 (w0 := w) w.heap.size rfl (.tmp 36) (.tmp 45) 23 30 (.agg #[(.int .i64 0), (.string ⟨#[]⟩), (.int .i64 0), (.int .i64 0)]) 40 rfl Tryd.underlying23 info30 rfl (by decide) (by omega) u4 x4_1 (⟨3, a0.extract (x5_1 : Int).toNat ((wrap64 (x5_1 + t159)) : Int).toNat, 0, x5_1⟩ : S30) [.int .i64 3, .string (a0.extract (x5_1 : Int).toNat ((wrap64 (x5_1 + t159)) : Int).toNat), .int .i64 0, .int .i64 x5_1] (fun _ => True) (fun _ => False) rfl rfl ?aP (fun _ hk => hk.elim) ?aF ?aO ?aB ?aS ?aL ?_; (case aP => exact k30_mkM _ _ _ (⟨3, a0.extract (x5_1 : Int).toNat ((wrap64 (x5_1 + t159)) : Int).toNat, 0, x5_1⟩ : S30)); (case aB => exact bb); (case aF => exact (fun _ _ => trivial)); (case aO => exact (rr HO_4.out)); (case aS => exact bz); (case aL => have := LMc15.out; omega); intro v161 w16 ho hb hg hat; rw [← Ny160.out] at ho; have n0_ := aS (hb); have n1_ := aS (ho); clear HB; clear HO_4; have HB := n0_; have HO162 := n1_; clear n0_ n1_; clear ho hb hg hat))
  go_roundg k1
  case measure => have := HK1.out; omega
  case rel => exact ⟨(y160), (wrap64 (x5_1 + t159)), (by first | rfl | (simp; done) | (simp [*]; done)), H', ⟨by have := HK1.out; omega⟩, ⟨by (with_reducible repeat (first | apply Kd.R_alloc | apply Kd.R_drewN | apply Kd.R_drew)); exact HO162.out⟩, ⟨by repeat (first | (with_reducible first | exact HB.out | apply below_alloc | apply pw_below_drewN | apply below_drew1) | exact HB.out)⟩⟩ }
  {
  rw [if_neg c15] at H
  exact absurd H (by simp) } }
  {
  rw [if_neg c14] at H
  exact absurd H (by simp) } }
  {
  rw [if_neg c13] at H
  exact absurd H (by simp) } } }
  {
  rw [if_neg c9] at H
  have c9b0 : (t158 == 0) = false := beq_eq_false_iff_ne.mpr c9
  have c9b1 : (t158 != 0) = true := bne_iff_ne.mpr c9
  have HC17 := aS H
  clear H
  have p5 : 0 ≤ (x5_1 : Int) := dd
  have q5 : x5_1 < (a0.size : Int) := dd
  have hx5 := bt_at a0 x5_1
  replace p5 := eq_true p5
  replace q5 := eq_true q5
  go_upto_block 2 with (first | ((with_reducible refine gate_callee (f := 20) rfl ?_); refine goesL_ (some 22) rfl rfl Tryd.func20 (by kernel_rfl) rfl #[.int .u8 (bt a0 x5_1)] rfl (by (try simp only [List.map_toArray, List.map_cons, List.map_nil]); first | done | rfl | (simp only [List.length_drop, List.length_take]; rfl)) ?_; (with_reducible refine (hallmootref04_class.calls k1 (bt a0 x5_1) t158 _ A6.out).mono ?_); rintro e w' ⟨rfl, ⟨nd, rfl⟩⟩; refine ⟨_, rfl, ?_⟩))
  (try simp only [Act.put, List.setIfInBounds_toArray, List.set_cons_zero, List.set_cons_succ])
  go_cut [8] (fun v8 wc => ∃ (kq : Nat) (x8_16 : Int), v8 = .int .i64 x8_16 ∧ Aside0 (hallmootref04_Words.j2 kq a0 x4_1 x5_1 t158 x8_16 = some (r1, r2)) ∧ Aside0 (kq ≤ k1) ∧ Aside0 (Kd.R k30 30 wc w.heap.size (fun _ => True) u4 x4_1) ∧ Aside0 (Below w.heap.size w wc))
  case first =>
   have H := HC17.out
   clear HC17
   have H' := aS H
   clear H
   go_wp2
   go_loopg [8] k1 (fun kq v8 w' => ∃ (x8_2 : Int), v8 = .int .i64 x8_2 ∧ Aside0 (hallmootref04_Words.l1 kq a0 x4_1 x5_1 t158 x8_2 = some (r1, r2)) ∧ Aside0 (kq ≤ k1) ∧ Aside0 (Kd.R k30 30 w' w.heap.size (fun _ => True) u4 x4_1) ∧ Aside0 (Below w.heap.size w w'))
   case atStart => exact ⟨(wrap64 (x5_1 + 1)), (by first | rfl | (simp; done) | (simp [*]; done)), H', ⟨Nat.le_refl _⟩, ⟨by (with_reducible repeat (first | apply Kd.R_alloc | apply Kd.R_drewN | apply Kd.R_drew)); exact HO_4.out⟩, ⟨by repeat (first | (with_reducible first | exact HB.out | apply below_alloc | apply pw_below_drewN | apply below_drew1) | exact HB.out)⟩⟩
   case round =>
    clear H'
    try clear c1
    try clear c2
    try clear c2b0
    try clear c2b1
    try clear p2
    try clear c3
    try clear c3b0
    try clear c4
    try clear c4b0
    try clear p5
    try clear q5
    try clear hx5
    try clear p6
    try clear c7
    try clear c7b0
    try clear c7b1
    try clear c8
    try clear c8b0
    try clear c8b1
    try clear c9
    try clear c9b0
    try clear c9b1
    try clear c11
    try clear c11b0
    try clear c11b1
    try clear c12
    try clear c12b0
    try clear c13
    try clear c13b0
    try clear c13b1
    try clear c14
    try clear c14b0
    try clear c14b1
    try clear c15
    try clear p2
    try clear p5
    try clear q5
    obtain ⟨x8_2, rfl, HA, HK2, HO_4, HB⟩ := hrel
    cases gk with
    | zero => exact absurd HA.out (by simp [hallmootref04_Words.l1])
    | succ k2 => {
    have H := HA.out
    clear HA
    simp only [hallmootref04_Words.l1] at H
    by_cases c18 : x8_2 < (a0.size : Int)
    {
    rw [if_pos c18] at H
    have c18b0 : decide (x8_2 < (a0.size : Int)) = true := decide_eq_true c18
    clear c18
    (first | rw [c18b0] | (simp only [i64_w, i32_w]; rw [c18b0]) | skip)
    by_cases c19 : 0 ≤ x8_2
    {
    rw [if_pos c19] at H
    have c19b0 : decide (0 ≤ x8_2) = true := decide_eq_true c19
    clear c19
    replace H := Option.bind_eq_some_iff.mp H
    obtain ⟨t163, A210, H⟩ := H
    replace H : (if t163 = 2 then (hallmootref04_Words.l1 k2 a0 x4_1 x5_1 t158 (wrap64 (x8_2 + 1))) else (if t158 = 1 then (if t163 = 1 then (hallmootref04_Words.l1 k2 a0 x4_1 x5_1 t158 (wrap64 (x8_2 + 1))) else (if t163 = 3 then (hallmootref04_Words.l1 k2 a0 x4_1 x5_1 t158 (wrap64 (x8_2 + 1))) else (hallmootref04_Words.j2 k2 a0 x4_1 x5_1 t158 x8_2))) else (hallmootref04_Words.j2 k2 a0 x4_1 x5_1 t158 x8_2))) = some (r1, r2) := H
    have A21 := aS A210
    clear A210
    by_cases c22 : t163 = 2
    {
    rw [if_pos c22] at H
    have c22b0 : (t163 == 2) = true := beq_iff_eq.mpr c22
    have c22b1 : (t163 != 2) = false := bne_eq_false_iff_eq.mpr c22
    clear c22
    have H' := aS H
    clear H
    have p20 : 0 ≤ (x8_2 : Int) := dd
    have q20 : x8_2 < (a0.size : Int) := dd
    have hx20 := bt_at a0 x8_2
    replace p20 := eq_true p20
    replace q20 := eq_true q20
    go_wp2_with (first | ((with_reducible refine gate_callee (f := 20) rfl ?_); refine goesL_ (some 59) rfl rfl Tryd.func20 (by kernel_rfl) rfl #[.int .u8 (bt a0 x8_2)] rfl (by (try simp only [List.map_toArray, List.map_cons, List.map_nil]); first | done | rfl | (simp only [List.length_drop, List.length_take]; rfl)) ?_; (with_reducible refine (hallmootref04_class.calls k2 (bt a0 x8_2) t163 _ A21.out).mono ?_); rintro e w' ⟨rfl, ⟨nd, rfl⟩⟩; refine ⟨_, rfl, ?_⟩))
    go_roundg k2
    case measure => have := HK1.out; have := HK2.out; omega
    case rel => exact ⟨(wrap64 (x8_2 + 1)), (by first | rfl | (simp; done) | (simp [*]; done)), H', ⟨by have := HK1.out; have := HK2.out; omega⟩, ⟨by (with_reducible repeat (first | apply Kd.R_alloc | apply Kd.R_drewN | apply Kd.R_drew)); exact HO_4.out⟩, ⟨by repeat (first | (with_reducible first | exact HB.out | apply below_alloc | apply pw_below_drewN | apply below_drew1) | exact HB.out)⟩⟩ }
    {
    rw [if_neg c22] at H
    have c22b0 : (t163 == 2) = false := beq_eq_false_iff_ne.mpr c22
    have c22b1 : (t163 != 2) = true := bne_iff_ne.mpr c22
    by_cases c23 : t158 = 1
    {
    rw [if_pos c23] at H
    have c23b0 : (t158 == 1) = true := beq_iff_eq.mpr c23
    have c23b1 : (t158 != 1) = false := bne_eq_false_iff_eq.mpr c23
    clear c23
    by_cases c24 : t163 = 1
    {
    rw [if_pos c24] at H
    have c24b0 : (t163 == 1) = true := beq_iff_eq.mpr c24
    have c24b1 : (t163 != 1) = false := bne_eq_false_iff_eq.mpr c24
    clear c24
    have H' := aS H
    clear H
    have p20 : 0 ≤ (x8_2 : Int) := dd
    have q20 : x8_2 < (a0.size : Int) := dd
    have hx20 := bt_at a0 x8_2
    replace p20 := eq_true p20
    replace q20 := eq_true q20
    go_wp2_with (first | ((with_reducible refine gate_callee (f := 20) rfl ?_); refine goesL_ (some 59) rfl rfl Tryd.func20 (by kernel_rfl) rfl #[.int .u8 (bt a0 x8_2)] rfl (by (try simp only [List.map_toArray, List.map_cons, List.map_nil]); first | done | rfl | (simp only [List.length_drop, List.length_take]; rfl)) ?_; (with_reducible refine (hallmootref04_class.calls k2 (bt a0 x8_2) t163 _ A21.out).mono ?_); rintro e w' ⟨rfl, ⟨nd, rfl⟩⟩; refine ⟨_, rfl, ?_⟩))
    go_roundg k2
    case measure => have := HK1.out; have := HK2.out; omega
    case rel => exact ⟨(wrap64 (x8_2 + 1)), (by first | rfl | (simp; done) | (simp [*]; done)), H', ⟨by have := HK1.out; have := HK2.out; omega⟩, ⟨by (with_reducible repeat (first | apply Kd.R_alloc | apply Kd.R_drewN | apply Kd.R_drew)); exact HO_4.out⟩, ⟨by repeat (first | (with_reducible first | exact HB.out | apply below_alloc | apply pw_below_drewN | apply below_drew1) | exact HB.out)⟩⟩ }
    {
    rw [if_neg c24] at H
    have c24b0 : (t163 == 1) = false := beq_eq_false_iff_ne.mpr c24
    have c24b1 : (t163 != 1) = true := bne_iff_ne.mpr c24
    by_cases c25 : t163 = 3
    {
    rw [if_pos c25] at H
    have c25b0 : (t163 == 3) = true := beq_iff_eq.mpr c25
    have c25b1 : (t163 != 3) = false := bne_eq_false_iff_eq.mpr c25
    clear c25
    have H' := aS H
    clear H
    have p20 : 0 ≤ (x8_2 : Int) := dd
    have q20 : x8_2 < (a0.size : Int) := dd
    have hx20 := bt_at a0 x8_2
    replace p20 := eq_true p20
    replace q20 := eq_true q20
    go_wp2_with (first | ((with_reducible refine gate_callee (f := 20) rfl ?_); refine goesL_ (some 59) rfl rfl Tryd.func20 (by kernel_rfl) rfl #[.int .u8 (bt a0 x8_2)] rfl (by (try simp only [List.map_toArray, List.map_cons, List.map_nil]); first | done | rfl | (simp only [List.length_drop, List.length_take]; rfl)) ?_; (with_reducible refine (hallmootref04_class.calls k2 (bt a0 x8_2) t163 _ A21.out).mono ?_); rintro e w' ⟨rfl, ⟨nd, rfl⟩⟩; refine ⟨_, rfl, ?_⟩))
    go_roundg k2
    case measure => have := HK1.out; have := HK2.out; omega
    case rel => exact ⟨(wrap64 (x8_2 + 1)), (by first | rfl | (simp; done) | (simp [*]; done)), H', ⟨by have := HK1.out; have := HK2.out; omega⟩, ⟨by (with_reducible repeat (first | apply Kd.R_alloc | apply Kd.R_drewN | apply Kd.R_drew)); exact HO_4.out⟩, ⟨by repeat (first | (with_reducible first | exact HB.out | apply below_alloc | apply pw_below_drewN | apply below_drew1) | exact HB.out)⟩⟩ }
    {
    rw [if_neg c25] at H
    have c25b0 : (t163 == 3) = false := beq_eq_false_iff_ne.mpr c25
    have c25b1 : (t163 != 3) = true := bne_iff_ne.mpr c25
    have H' := aS H
    clear H
    have p20 : 0 ≤ (x8_2 : Int) := dd
    have q20 : x8_2 < (a0.size : Int) := dd
    have hx20 := bt_at a0 x8_2
    replace p20 := eq_true p20
    replace q20 := eq_true q20
    go_wp2_with (first | ((with_reducible refine gate_callee (f := 20) rfl ?_); refine goesL_ (some 59) rfl rfl Tryd.func20 (by kernel_rfl) rfl #[.int .u8 (bt a0 x8_2)] rfl (by (try simp only [List.map_toArray, List.map_cons, List.map_nil]); first | done | rfl | (simp only [List.length_drop, List.length_take]; rfl)) ?_; (with_reducible refine (hallmootref04_class.calls k2 (bt a0 x8_2) t163 _ A21.out).mono ?_); rintro e w' ⟨rfl, ⟨nd, rfl⟩⟩; refine ⟨_, rfl, ?_⟩))
    go_meet
    case rel => exact ⟨_, (x8_2), (by first | rfl | (simp; done) | (simp [*]; done)), H', ⟨by have := HK1.out; have := HK2.out; first | omega | exact Nat.le_refl _⟩, ⟨by (with_reducible repeat (first | apply Kd.R_alloc | apply Kd.R_drewN | apply Kd.R_drew)); exact HO_4.out⟩, ⟨by repeat (first | (with_reducible first | exact HB.out | apply below_alloc | apply pw_below_drewN | apply below_drew1) | exact HB.out)⟩⟩ } } }
    {
    rw [if_neg c23] at H
    have c23b0 : (t158 == 1) = false := beq_eq_false_iff_ne.mpr c23
    have c23b1 : (t158 != 1) = true := bne_iff_ne.mpr c23
    have H' := aS H
    clear H
    have p20 : 0 ≤ (x8_2 : Int) := dd
    have q20 : x8_2 < (a0.size : Int) := dd
    have hx20 := bt_at a0 x8_2
    replace p20 := eq_true p20
    replace q20 := eq_true q20
    go_wp2_with (first | ((with_reducible refine gate_callee (f := 20) rfl ?_); refine goesL_ (some 59) rfl rfl Tryd.func20 (by kernel_rfl) rfl #[.int .u8 (bt a0 x8_2)] rfl (by (try simp only [List.map_toArray, List.map_cons, List.map_nil]); first | done | rfl | (simp only [List.length_drop, List.length_take]; rfl)) ?_; (with_reducible refine (hallmootref04_class.calls k2 (bt a0 x8_2) t163 _ A21.out).mono ?_); rintro e w' ⟨rfl, ⟨nd, rfl⟩⟩; refine ⟨_, rfl, ?_⟩))
    go_meet
    case rel => exact ⟨_, (x8_2), (by first | rfl | (simp; done) | (simp [*]; done)), H', ⟨by have := HK1.out; have := HK2.out; first | omega | exact Nat.le_refl _⟩, ⟨by (with_reducible repeat (first | apply Kd.R_alloc | apply Kd.R_drewN | apply Kd.R_drew)); exact HO_4.out⟩, ⟨by repeat (first | (with_reducible first | exact HB.out | apply below_alloc | apply pw_below_drewN | apply below_drew1) | exact HB.out)⟩⟩ } } }
    {
    rw [if_neg c19] at H
    exact absurd H (by simp) } }
    {
    rw [if_neg c18] at H
    have c18b0 : decide (x8_2 < (a0.size : Int)) = false := decide_eq_false c18
    clear c18
    (first | rw [c18b0] | (simp only [i64_w, i32_w]; rw [c18b0]) | skip)
    have H' := aS H
    clear H
    go_wp2
    go_meet
    case rel => exact ⟨_, (x8_2), (by first | rfl | (simp; done) | (simp [*]; done)), H', ⟨by have := HK1.out; have := HK2.out; first | omega | exact Nat.le_refl _⟩, ⟨by (with_reducible repeat (first | apply Kd.R_alloc | apply Kd.R_drewN | apply Kd.R_drew)); exact HO_4.out⟩, ⟨by repeat (first | (with_reducible first | exact HB.out | apply below_alloc | apply pw_below_drewN | apply below_drew1) | exact HB.out)⟩⟩ } }
  case rest =>
   clear HC17
   try clear c1
   try clear c2
   try clear c2b0
   try clear c2b1
   try clear p2
   try clear q2
   try clear hx2
   try clear c3
   try clear c3b0
   try clear c4
   try clear c4b0
   try clear p5
   try clear q5
   try clear hx5
   try clear p6
   try clear c7
   try clear c7b0
   try clear c7b1
   try clear c8
   try clear c8b0
   try clear c8b1
   try clear c9
   try clear c9b0
   try clear c9b1
   try clear c11
   try clear c11b0
   try clear c11b1
   try clear c12
   try clear c12b0
   try clear c13
   try clear c13b0
   try clear c13b1
   try clear c14
   try clear c14b0
   try clear c14b1
   try clear c15
   try clear c18
   try clear c18b0
   try clear c19
   try clear c19b0
   try clear c20
   try clear p20
   try clear q20
   try clear hx20
   try clear c21
   try clear c22
   try clear c22b0
   try clear c22b1
   try clear c23
   try clear c23b0
   try clear c23b1
   try clear c24
   try clear c24b0
   try clear c24b1
   try clear c25
   try clear c25b0
   try clear c25b1
   try clear p2
   try clear p20
   try clear p5
   try clear p6
   try clear q20
   try clear q5
   obtain ⟨kq, x8_16, rfl, HA, HJ16, HO_4, HB⟩ := hcut
   cases kq with
   | zero => exact absurd HA.out (by simp [hallmootref04_Words.j2])
   | succ kj16 => {
   have H := HA.out
   clear HA
   simp only [hallmootref04_Words.j2] at H
   by_cases c26 : 0 ≤ x5_1
   {
   rw [if_pos c26] at H
   have c26b0 := eq_true c26
   have c26b1 : decide (0 ≤ x5_1) = true := decide_eq_true c26
   clear c26
   by_cases c27 : x5_1 ≤ x8_16
   {
   rw [if_pos c27] at H
   have c27b0 := eq_true c27
   have c27b1 : decide (x5_1 ≤ x8_16) = true := decide_eq_true c27
   clear c27
   by_cases c28 : x8_16 ≤ (a0.size : Int)
   {
   rw [if_pos c28] at H
   have c28b0 := eq_true c28
   have c28b1 : decide (x8_16 ≤ (a0.size : Int)) = true := decide_eq_true c28
   clear c28
   have HC29 := aS H
   clear H
   go_upto_region 23 with (first | ((with_reducible refine gate_dst (N := 10) rfl ?_); refine box_event ?hg (N := 10) ?hd (cs := #[.int .i64 0, .string (⟨#[]⟩ : ByteArray), .int .i64 0, .int .i64 0]) (t := 30) ?hr ?_; (case hd => rfl); (case hg => rfl); (case hr => first | (go_simp; done) | (go_simp; rfl)); intro gb164 hg w30 hbox hb; have n0_ := aS (Kd.R_below (Kd.R_elderB (rr HO_4.out) gb164 (Nat.le_of_eq hg.symm)) hb); have n1_ := aS (below_step bb hb); have n2_ := aS (hbox); have n3_ := aS ((by rw [hg]; exact bz : w.heap.size ≤ gb164)); have n4_ := aS ((by rw [hg]; exact bz : w.heap.size ≤ gb164)); clear HO_4; clear HB; have HO_4 := n0_; have HB := n1_; have BK164 := n2_; have GW164 := n3_; have GE164 := n4_; clear n0_ n1_ n2_ n3_ n4_; clear hb hbox hg; have hcz31_0 : w30.cell? ⟨gb164, 0, none⟩ = some (.int .i64 0) := (blk_cell BK164.out 0).trans rfl; have hcz31_1 : w30.cell? ⟨gb164, 1, none⟩ = some (.string (⟨#[]⟩ : ByteArray)) := (blk_cell BK164.out 1).trans rfl; have hcz31_2 : w30.cell? ⟨gb164, 2, none⟩ = some (.int .i64 0) := (blk_cell BK164.out 2).trans rfl; have hcz31_3 : w30.cell? ⟨gb164, 3, none⟩ = some (.int .i64 0) := (blk_cell BK164.out 3).trans rfl; have hfz31_0 := blk_frozen BK164.out 0; have hfz31_1 := blk_frozen BK164.out 1; have hfz31_2 := blk_frozen BK164.out 2; have hfz31_3 := blk_frozen BK164.out 3))
   (try simp only [Act.put, List.setIfInBounds_toArray, List.set_cons_zero, List.set_cons_succ])
   go_cut [90] (fun v90 wc => ∃ (kq : Nat) (x90_28 : Bool), v90 = .bool x90_28 ∧ Aside0 (hallmootref04_Words.j3 kq a0 x4_1 x5_1 t158 x8_16 x90_28 t158 (a0.extract (x5_1 : Int).toNat (x8_16 : Int).toNat) 0 x5_1 = some (r1, r2)) ∧ Aside0 (kq ≤ kj16) ∧ Aside0 (Kd.R k30 30 wc w.heap.size (fun k_ => k_ ≠ gb164) u4 x4_1) ∧ Aside0 (wc.heap[gb164]? = some (.cells #[.int .i64 t158, .string (a0.extract (x5_1 : Int).toNat (x8_16 : Int).toNat), .int .i64 0, .int .i64 x5_1] 30 (0, 0))) ∧ Aside0 (Below w.heap.size w wc))
   case first =>
    have H := HC29.out
    clear HC29
    by_cases c32 : t158 = 1
    {
    rw [if_pos c32] at H
    have c32b0 : (t158 == 1) = true := beq_iff_eq.mpr c32
    have c32b1 : (t158 != 1) = false := bne_eq_false_iff_eq.mpr c32
    clear c32
    (first | rw [c32b0] | (simp only [i64_w, i32_w]; rw [c32b0]) | skip)
    have H' := aS H
    clear H
    go_wp2
    go_meet
    case rel => exact ⟨_, (decide ((wrap64 (x8_16 - x5_1)) > 12)), (by first | rfl | (simp; done) | (simp [*]; done)), H', ⟨by have := HK1.out; have := HJ16.out; first | omega | exact Nat.le_refl _⟩, ⟨by (with_reducible repeat (first | apply Kd.R_alloc | apply Kd.R_drewN | apply Kd.R_drew)); exact Kd.R_mono (Kd.R_far (p := ⟨gb164, 3, none⟩) (Kd.R_far (p := ⟨gb164, 2, none⟩) (Kd.R_far (p := ⟨gb164, 1, none⟩) (Kd.R_far (p := ⟨gb164, 0, none⟩) (Kd.R_mono HO_4.out (fun k_ hk => (⟨hk, hk.2⟩ : _ ∧ k_ ≠ gb164))) (fun _ hk => hk.2) (.int .i64 t158)) (fun _ hk => hk.2) (.string (a0.extract (x5_1 : Int).toNat (x8_16 : Int).toNat))) (fun _ hk => hk.2) (.int .i64 0)) (fun _ hk => hk.2) (.int .i64 x5_1)) (fun _ hk => hk.1.2)⟩, ⟨by (with_reducible repeat (first | refine blk_drewN ?_ _ | refine blk_drew ?_ | refine blk_alloc ?_ _)); refine blk_put (cs := #[.int .i64 t158, .string (a0.extract (x5_1 : Int).toNat (x8_16 : Int).toNat), .int .i64 0, .int .i64 0]) ?_ 3 _ rfl; (with_reducible repeat (first | refine blk_drewN ?_ _ | refine blk_drew ?_ | refine blk_alloc ?_ _)); refine blk_put (cs := #[.int .i64 t158, .string (a0.extract (x5_1 : Int).toNat (x8_16 : Int).toNat), .int .i64 0, .int .i64 0]) ?_ 2 _ rfl; (with_reducible repeat (first | refine blk_drewN ?_ _ | refine blk_drew ?_ | refine blk_alloc ?_ _)); refine blk_put (cs := #[.int .i64 t158, .string (⟨#[]⟩ : ByteArray), .int .i64 0, .int .i64 0]) ?_ 1 _ rfl; (with_reducible repeat (first | refine blk_drewN ?_ _ | refine blk_drew ?_ | refine blk_alloc ?_ _)); refine blk_put (cs := #[.int .i64 0, .string (⟨#[]⟩ : ByteArray), .int .i64 0, .int .i64 0]) ?_ 0 _ rfl; (with_reducible repeat (first | refine blk_drewN ?_ _ | refine blk_drew ?_ | refine blk_alloc ?_ _)); exact BK164.out⟩, ⟨by repeat (first | (with_reducible first | exact HB.out | apply below_alloc | apply pw_below_drewN | apply below_drew1 | refine below_set ?_ GE164.out) | exact HB.out)⟩⟩ }
    {
    rw [if_neg c32] at H
    have c32b0 : (t158 == 1) = false := beq_eq_false_iff_ne.mpr c32
    have c32b1 : (t158 != 1) = true := bne_iff_ne.mpr c32
    (first | rw [c32b0] | (simp only [i64_w, i32_w]; rw [c32b0]) | skip)
    have H' := aS H
    clear H
    go_wp2
    go_meet
    case rel => exact ⟨_, (false), (by first | rfl | (simp; done) | (simp [*]; done)), H', ⟨by have := HK1.out; have := HJ16.out; first | omega | exact Nat.le_refl _⟩, ⟨by (with_reducible repeat (first | apply Kd.R_alloc | apply Kd.R_drewN | apply Kd.R_drew)); exact Kd.R_mono (Kd.R_far (p := ⟨gb164, 3, none⟩) (Kd.R_far (p := ⟨gb164, 2, none⟩) (Kd.R_far (p := ⟨gb164, 1, none⟩) (Kd.R_far (p := ⟨gb164, 0, none⟩) (Kd.R_mono HO_4.out (fun k_ hk => (⟨hk, hk.2⟩ : _ ∧ k_ ≠ gb164))) (fun _ hk => hk.2) (.int .i64 t158)) (fun _ hk => hk.2) (.string (a0.extract (x5_1 : Int).toNat (x8_16 : Int).toNat))) (fun _ hk => hk.2) (.int .i64 0)) (fun _ hk => hk.2) (.int .i64 x5_1)) (fun _ hk => hk.1.2)⟩, ⟨by (with_reducible repeat (first | refine blk_drewN ?_ _ | refine blk_drew ?_ | refine blk_alloc ?_ _)); refine blk_put (cs := #[.int .i64 t158, .string (a0.extract (x5_1 : Int).toNat (x8_16 : Int).toNat), .int .i64 0, .int .i64 0]) ?_ 3 _ rfl; (with_reducible repeat (first | refine blk_drewN ?_ _ | refine blk_drew ?_ | refine blk_alloc ?_ _)); refine blk_put (cs := #[.int .i64 t158, .string (a0.extract (x5_1 : Int).toNat (x8_16 : Int).toNat), .int .i64 0, .int .i64 0]) ?_ 2 _ rfl; (with_reducible repeat (first | refine blk_drewN ?_ _ | refine blk_drew ?_ | refine blk_alloc ?_ _)); refine blk_put (cs := #[.int .i64 t158, .string (⟨#[]⟩ : ByteArray), .int .i64 0, .int .i64 0]) ?_ 1 _ rfl; (with_reducible repeat (first | refine blk_drewN ?_ _ | refine blk_drew ?_ | refine blk_alloc ?_ _)); refine blk_put (cs := #[.int .i64 0, .string (⟨#[]⟩ : ByteArray), .int .i64 0, .int .i64 0]) ?_ 0 _ rfl; (with_reducible repeat (first | refine blk_drewN ?_ _ | refine blk_drew ?_ | refine blk_alloc ?_ _)); exact BK164.out⟩, ⟨by repeat (first | (with_reducible first | exact HB.out | apply below_alloc | apply pw_below_drewN | apply below_drew1 | refine below_set ?_ GE164.out) | exact HB.out)⟩⟩ }
   case rest =>
    clear HC29
    try clear c1
    try clear c2
    try clear c2b0
    try clear c2b1
    try clear p2
    try clear q2
    try clear hx2
    try clear c3
    try clear c3b0
    try clear c4
    try clear c4b0
    try clear p5
    try clear q5
    try clear hx5
    try clear p6
    try clear c7
    try clear c7b0
    try clear c7b1
    try clear c8
    try clear c8b0
    try clear c8b1
    try clear c9
    try clear c9b0
    try clear c9b1
    try clear c11
    try clear c11b0
    try clear c11b1
    try clear c12
    try clear c12b0
    try clear c13
    try clear c13b0
    try clear c13b1
    try clear c14
    try clear c14b0
    try clear c14b1
    try clear c15
    try clear c18
    try clear c18b0
    try clear c19
    try clear c19b0
    try clear c20
    try clear p20
    try clear q20
    try clear hx20
    try clear c21
    try clear c22
    try clear c22b0
    try clear c22b1
    try clear c23
    try clear c23b0
    try clear c23b1
    try clear c24
    try clear c24b0
    try clear c24b1
    try clear c25
    try clear c25b0
    try clear c25b1
    try clear c26
    try clear c26b0
    try clear c26b1
    try clear c27
    try clear c27b0
    try clear c27b1
    try clear c28
    try clear c28b0
    try clear c28b1
    try clear c32
    try clear c32b0
    try clear c32b1
    try clear hcz31_0
    try clear hcz31_1
    try clear hcz31_2
    try clear hcz31_3
    try clear hfz31_0
    try clear hfz31_1
    try clear hfz31_2
    try clear hfz31_3
    try clear p2
    try clear p20
    try clear p5
    try clear p6
    try clear q2
    try clear q20
    try clear q5
    obtain ⟨kq, x90_28, rfl, HA, HJ28, HO_4, BK164, HB⟩ := hcut
    cases kq with
    | zero => exact absurd HA.out (by simp [hallmootref04_Words.j3])
    | succ kj28 => {
    have H := HA.out
    clear HA
    simp only [hallmootref04_Words.j3] at H
    by_cases c33 : x90_28 = true
    {
    subst c33
    have H1 : (some (([] : List (S30)), 3)) = some (r1, r2) := by rw [if_pos rfl] at H; exact H
    clear H
    have H := H1
    clear H1
    simp only [Option.some.injEq, Prod.mk.injEq] at H
    obtain ⟨rfl, rfl⟩ := H
    go_wp2
    all_goals go_ret2
    all_goals exact ⟨_, by first | rfl | (simp [errW_none, errW_some] <;> rfl) | (simp [*, errW_none, errW_some] <;> rfl), by first | exact Kd.R_nil _ _ _ _ _ | exact Kd.N_nil _ _ _ _ _ | exact Kd.V_nil _ _ _ _ _ | exact Kd.Q_nil _ _ _ _ _ | exact Kd.S_nil _ _ _ _ _, by repeat (first | (with_reducible first | exact HB.out | apply below_alloc | apply pw_below_drewN | apply below_drew1 | refine below_set ?_ GE164.out) | exact HB.out)⟩ }
    {
    replace c33 := Bool.eq_false_iff.mpr c33
    subst c33
    have H1 : (if t158 = 2 then (if 0 ≤ x5_1 then (if x5_1 ≤ x8_16 then (if x8_16 ≤ (a0.size : Int) then ((hallmootref04_number.f kj28 (a0.extract (x5_1 : Int).toNat (x8_16 : Int).toNat)).bind fun t165 => (if x8_16 < (a0.size : Int) then (if 0 ≤ x8_16 then ((hallmootref04_class.f kj28 (bt a0 x8_16)).bind fun t166 => (if t165 < 0 then (some (([] : List (S30)), 3)) else (if t166 = 1 then (some (([] : List (S30)), 3)) else (if t166 = 3 then (some (([] : List (S30)), 3)) else (if x4_1.length < 3518437208883 then (hallmootref04_Words.l0 kj28 a0 (x4_1 ++ [(⟨t158, (a0.extract (x5_1 : Int).toNat (x8_16 : Int).toNat), t165, x5_1⟩ : S30)]) x8_16) else (none)))))) else (none)) else (if t165 < 0 then (some (([] : List (S30)), 3)) else (if 0 = 1 then (some (([] : List (S30)), 3)) else (if 0 = 3 then (some (([] : List (S30)), 3)) else (if x4_1.length < 3518437208883 then (hallmootref04_Words.l0 kj28 a0 (x4_1 ++ [(⟨t158, (a0.extract (x5_1 : Int).toNat (x8_16 : Int).toNat), t165, x5_1⟩ : S30)]) x8_16) else (none))))))) else (none)) else (none)) else (none)) else (if x4_1.length < 3518437208883 then (hallmootref04_Words.l0 kj28 a0 (x4_1 ++ [(⟨t158, (a0.extract (x5_1 : Int).toNat (x8_16 : Int).toNat), 0, x5_1⟩ : S30)]) x8_16) else (none))) = some (r1, r2) := by rw [if_neg (show ¬ (false = true) by decide)] at H; exact H
    clear H
    have H := H1
    clear H1
    by_cases c34 : t158 = 2
    {
    rw [if_pos c34] at H
    have c34b0 : (t158 == 2) = true := beq_iff_eq.mpr c34
    have c34b1 : (t158 != 2) = false := bne_eq_false_iff_eq.mpr c34
    clear c34
    by_cases c35 : 0 ≤ x5_1
    {
    rw [if_pos c35] at H
    have c35b0 := eq_true c35
    have c35b1 : decide (0 ≤ x5_1) = true := decide_eq_true c35
    clear c35
    by_cases c36 : x5_1 ≤ x8_16
    {
    rw [if_pos c36] at H
    have c36b0 := eq_true c36
    have c36b1 : decide (x5_1 ≤ x8_16) = true := decide_eq_true c36
    clear c36
    by_cases c37 : x8_16 ≤ (a0.size : Int)
    {
    rw [if_pos c37] at H
    have c37b0 := eq_true c37
    have c37b1 : decide (x8_16 ≤ (a0.size : Int)) = true := decide_eq_true c37
    clear c37
    replace H := Option.bind_eq_some_iff.mp H
    obtain ⟨t165, A380, H⟩ := H
    replace H : (if x8_16 < (a0.size : Int) then (if 0 ≤ x8_16 then ((hallmootref04_class.f kj28 (bt a0 x8_16)).bind fun t166 => (if t165 < 0 then (some (([] : List (S30)), 3)) else (if t166 = 1 then (some (([] : List (S30)), 3)) else (if t166 = 3 then (some (([] : List (S30)), 3)) else (if x4_1.length < 3518437208883 then (hallmootref04_Words.l0 kj28 a0 (x4_1 ++ [(⟨t158, (a0.extract (x5_1 : Int).toNat (x8_16 : Int).toNat), t165, x5_1⟩ : S30)]) x8_16) else (none)))))) else (none)) else (if t165 < 0 then (some (([] : List (S30)), 3)) else (if 0 = 1 then (some (([] : List (S30)), 3)) else (if 0 = 3 then (some (([] : List (S30)), 3)) else (if x4_1.length < 3518437208883 then (hallmootref04_Words.l0 kj28 a0 (x4_1 ++ [(⟨t158, (a0.extract (x5_1 : Int).toNat (x8_16 : Int).toNat), t165, x5_1⟩ : S30)]) x8_16) else (none)))))) = some (r1, r2) := H
    have A38 := aS A380
    clear A380
    by_cases c39 : x8_16 < (a0.size : Int)
    {
    rw [if_pos c39] at H
    have c39b0 : decide (x8_16 < (a0.size : Int)) = true := decide_eq_true c39
    clear c39
    by_cases c40 : 0 ≤ x8_16
    {
    rw [if_pos c40] at H
    have c40b0 : decide (0 ≤ x8_16) = true := decide_eq_true c40
    clear c40
    replace H := Option.bind_eq_some_iff.mp H
    obtain ⟨t166, A420, H⟩ := H
    replace H : (if t165 < 0 then (some (([] : List (S30)), 3)) else (if t166 = 1 then (some (([] : List (S30)), 3)) else (if t166 = 3 then (some (([] : List (S30)), 3)) else (if x4_1.length < 3518437208883 then (hallmootref04_Words.l0 kj28 a0 (x4_1 ++ [(⟨t158, (a0.extract (x5_1 : Int).toNat (x8_16 : Int).toNat), t165, x5_1⟩ : S30)]) x8_16) else (none))))) = some (r1, r2) := H
    have A42 := aS A420
    clear A420
    by_cases c43 : t165 < 0
    {
    rw [if_pos c43] at H
    have c43b0 : decide (t165 < 0) = true := decide_eq_true c43
    clear c43
    simp only [Option.some.injEq, Prod.mk.injEq] at H
    obtain ⟨rfl, rfl⟩ := H
    go_wp2_with (first | ((with_reducible refine gate_callee (f := 22) rfl ?_); refine goesL_ (some 97) rfl rfl Tryd.func22 (by kernel_rfl) rfl #[.string (a0.extract (x5_1 : Int).toNat (x8_16 : Int).toNat)] rfl (by (try simp only [List.map_toArray, List.map_cons, List.map_nil]); first | done | rfl | (simp only [List.length_drop, List.length_take]; rfl)) ?_; (with_reducible refine (hallmootref04_number.calls kj28 (a0.extract (x5_1 : Int).toNat (x8_16 : Int).toNat) t165 _ A38.out).mono ?_); rintro e w' ⟨rfl, ⟨nd, rfl⟩⟩; refine ⟨_, rfl, ?_⟩; (try (rw [drewN_self wc]; generalize hq_ : World.drewN wc _ = wc; have n0_ : Aside0 (Kd.R k30 30 wc w.heap.size (fun k_ => k_ ≠ gb164) u4 x4_1) := ⟨by rw [← hq_]; exact (rr HO_4.out)⟩; have n1_ : Aside0 (wc.heap[gb164]? = some (.cells #[.int .i64 t158, .string (a0.extract (x5_1 : Int).toNat (x8_16 : Int).toNat), .int .i64 0, .int .i64 x5_1] 30 (0, 0))) := ⟨by rw [← hq_]; exact (kk BK164.out)⟩; have n2_ : Aside0 (Below w.heap.size w wc) := ⟨by rw [← hq_]; exact bb⟩; clear HO_4 BK164 HB hq_; have HO_4 := n0_; have BK164 := n1_; have HB := n2_; clear n0_ n1_ n2_)); have hcz44_0 : wc.cell? ⟨gb164, 0, none⟩ = some (.int .i64 t158) := (blk_cell BK164.out 0).trans rfl; have hcz44_1 : wc.cell? ⟨gb164, 1, none⟩ = some (.string (a0.extract (x5_1 : Int).toNat (x8_16 : Int).toNat)) := (blk_cell BK164.out 1).trans rfl; have hcz44_2 : wc.cell? ⟨gb164, 2, none⟩ = some (.int .i64 0) := (blk_cell BK164.out 2).trans rfl; have hcz44_3 : wc.cell? ⟨gb164, 3, none⟩ = some (.int .i64 x5_1) := (blk_cell BK164.out 3).trans rfl; have hfz44_0 := blk_frozen BK164.out 0; have hfz44_1 := blk_frozen BK164.out 1; have hfz44_2 := blk_frozen BK164.out 2; have hfz44_3 := blk_frozen BK164.out 3; have p41 : 0 ≤ (x8_16 : Int) := dd; have q41 : x8_16 < (a0.size : Int) := dd; have hx41 := bt_at a0 x8_16; replace p41 := eq_true p41; replace q41 := eq_true q41) | ((with_reducible refine gate_callee (f := 20) rfl ?_); refine goesL_ (some 106) rfl rfl Tryd.func20 (by kernel_rfl) rfl #[.int .u8 (bt a0 x8_16)] rfl (by (try simp only [List.map_toArray, List.map_cons, List.map_nil]); first | done | rfl | (simp only [List.length_drop, List.length_take]; rfl)) ?_; (with_reducible refine (hallmootref04_class.calls kj28 (bt a0 x8_16) t166 _ A42.out).mono ?_); rintro e w' ⟨rfl, ⟨nd, rfl⟩⟩; refine ⟨_, rfl, ?_⟩))
    all_goals go_ret2
    all_goals exact ⟨_, by first | rfl | (simp [errW_none, errW_some] <;> rfl) | (simp [*, errW_none, errW_some] <;> rfl), by first | exact Kd.R_nil _ _ _ _ _ | exact Kd.N_nil _ _ _ _ _ | exact Kd.V_nil _ _ _ _ _ | exact Kd.Q_nil _ _ _ _ _ | exact Kd.S_nil _ _ _ _ _, by repeat (first | (with_reducible first | exact HB.out | apply below_alloc | apply pw_below_drewN | apply below_drew1 | refine below_set ?_ GE164.out) | exact HB.out)⟩ }
    {
    rw [if_neg c43] at H
    have c43b0 : decide (t165 < 0) = false := decide_eq_false c43
    clear c43
    by_cases c45 : t166 = 1
    {
    rw [if_pos c45] at H
    have c45b0 : (t166 == 1) = true := beq_iff_eq.mpr c45
    have c45b1 : (t166 != 1) = false := bne_eq_false_iff_eq.mpr c45
    clear c45
    simp only [Option.some.injEq, Prod.mk.injEq] at H
    obtain ⟨rfl, rfl⟩ := H
    go_wp2_with (first | ((with_reducible refine gate_callee (f := 22) rfl ?_); refine goesL_ (some 97) rfl rfl Tryd.func22 (by kernel_rfl) rfl #[.string (a0.extract (x5_1 : Int).toNat (x8_16 : Int).toNat)] rfl (by (try simp only [List.map_toArray, List.map_cons, List.map_nil]); first | done | rfl | (simp only [List.length_drop, List.length_take]; rfl)) ?_; (with_reducible refine (hallmootref04_number.calls kj28 (a0.extract (x5_1 : Int).toNat (x8_16 : Int).toNat) t165 _ A38.out).mono ?_); rintro e w' ⟨rfl, ⟨nd, rfl⟩⟩; refine ⟨_, rfl, ?_⟩; (try (rw [drewN_self wc]; generalize hq_ : World.drewN wc _ = wc; have n0_ : Aside0 (Kd.R k30 30 wc w.heap.size (fun k_ => k_ ≠ gb164) u4 x4_1) := ⟨by rw [← hq_]; exact (rr HO_4.out)⟩; have n1_ : Aside0 (wc.heap[gb164]? = some (.cells #[.int .i64 t158, .string (a0.extract (x5_1 : Int).toNat (x8_16 : Int).toNat), .int .i64 0, .int .i64 x5_1] 30 (0, 0))) := ⟨by rw [← hq_]; exact (kk BK164.out)⟩; have n2_ : Aside0 (Below w.heap.size w wc) := ⟨by rw [← hq_]; exact bb⟩; clear HO_4 BK164 HB hq_; have HO_4 := n0_; have BK164 := n1_; have HB := n2_; clear n0_ n1_ n2_)); have hcz46_0 : wc.cell? ⟨gb164, 0, none⟩ = some (.int .i64 t158) := (blk_cell BK164.out 0).trans rfl; have hcz46_1 : wc.cell? ⟨gb164, 1, none⟩ = some (.string (a0.extract (x5_1 : Int).toNat (x8_16 : Int).toNat)) := (blk_cell BK164.out 1).trans rfl; have hcz46_2 : wc.cell? ⟨gb164, 2, none⟩ = some (.int .i64 0) := (blk_cell BK164.out 2).trans rfl; have hcz46_3 : wc.cell? ⟨gb164, 3, none⟩ = some (.int .i64 x5_1) := (blk_cell BK164.out 3).trans rfl; have hfz46_0 := blk_frozen BK164.out 0; have hfz46_1 := blk_frozen BK164.out 1; have hfz46_2 := blk_frozen BK164.out 2; have hfz46_3 := blk_frozen BK164.out 3; have p41 : 0 ≤ (x8_16 : Int) := dd; have q41 : x8_16 < (a0.size : Int) := dd; have hx41 := bt_at a0 x8_16; replace p41 := eq_true p41; replace q41 := eq_true q41) | ((with_reducible refine gate_callee (f := 20) rfl ?_); refine goesL_ (some 106) rfl rfl Tryd.func20 (by kernel_rfl) rfl #[.int .u8 (bt a0 x8_16)] rfl (by (try simp only [List.map_toArray, List.map_cons, List.map_nil]); first | done | rfl | (simp only [List.length_drop, List.length_take]; rfl)) ?_; (with_reducible refine (hallmootref04_class.calls kj28 (bt a0 x8_16) t166 _ A42.out).mono ?_); rintro e w' ⟨rfl, ⟨nd, rfl⟩⟩; refine ⟨_, rfl, ?_⟩))
    all_goals go_ret2
    all_goals exact ⟨_, by first | rfl | (simp [errW_none, errW_some] <;> rfl) | (simp [*, errW_none, errW_some] <;> rfl), by first | exact Kd.R_nil _ _ _ _ _ | exact Kd.N_nil _ _ _ _ _ | exact Kd.V_nil _ _ _ _ _ | exact Kd.Q_nil _ _ _ _ _ | exact Kd.S_nil _ _ _ _ _, by repeat (first | (with_reducible first | exact HB.out | apply below_alloc | apply pw_below_drewN | apply below_drew1 | refine below_set ?_ GE164.out) | exact HB.out)⟩ }
    {
    rw [if_neg c45] at H
    have c45b0 : (t166 == 1) = false := beq_eq_false_iff_ne.mpr c45
    have c45b1 : (t166 != 1) = true := bne_iff_ne.mpr c45
    by_cases c47 : t166 = 3
    {
    rw [if_pos c47] at H
    have c47b0 : (t166 == 3) = true := beq_iff_eq.mpr c47
    have c47b1 : (t166 != 3) = false := bne_eq_false_iff_eq.mpr c47
    clear c47
    simp only [Option.some.injEq, Prod.mk.injEq] at H
    obtain ⟨rfl, rfl⟩ := H
    go_wp2_with (first | ((with_reducible refine gate_callee (f := 22) rfl ?_); refine goesL_ (some 97) rfl rfl Tryd.func22 (by kernel_rfl) rfl #[.string (a0.extract (x5_1 : Int).toNat (x8_16 : Int).toNat)] rfl (by (try simp only [List.map_toArray, List.map_cons, List.map_nil]); first | done | rfl | (simp only [List.length_drop, List.length_take]; rfl)) ?_; (with_reducible refine (hallmootref04_number.calls kj28 (a0.extract (x5_1 : Int).toNat (x8_16 : Int).toNat) t165 _ A38.out).mono ?_); rintro e w' ⟨rfl, ⟨nd, rfl⟩⟩; refine ⟨_, rfl, ?_⟩; (try (rw [drewN_self wc]; generalize hq_ : World.drewN wc _ = wc; have n0_ : Aside0 (Kd.R k30 30 wc w.heap.size (fun k_ => k_ ≠ gb164) u4 x4_1) := ⟨by rw [← hq_]; exact (rr HO_4.out)⟩; have n1_ : Aside0 (wc.heap[gb164]? = some (.cells #[.int .i64 t158, .string (a0.extract (x5_1 : Int).toNat (x8_16 : Int).toNat), .int .i64 0, .int .i64 x5_1] 30 (0, 0))) := ⟨by rw [← hq_]; exact (kk BK164.out)⟩; have n2_ : Aside0 (Below w.heap.size w wc) := ⟨by rw [← hq_]; exact bb⟩; clear HO_4 BK164 HB hq_; have HO_4 := n0_; have BK164 := n1_; have HB := n2_; clear n0_ n1_ n2_)); have hcz48_0 : wc.cell? ⟨gb164, 0, none⟩ = some (.int .i64 t158) := (blk_cell BK164.out 0).trans rfl; have hcz48_1 : wc.cell? ⟨gb164, 1, none⟩ = some (.string (a0.extract (x5_1 : Int).toNat (x8_16 : Int).toNat)) := (blk_cell BK164.out 1).trans rfl; have hcz48_2 : wc.cell? ⟨gb164, 2, none⟩ = some (.int .i64 0) := (blk_cell BK164.out 2).trans rfl; have hcz48_3 : wc.cell? ⟨gb164, 3, none⟩ = some (.int .i64 x5_1) := (blk_cell BK164.out 3).trans rfl; have hfz48_0 := blk_frozen BK164.out 0; have hfz48_1 := blk_frozen BK164.out 1; have hfz48_2 := blk_frozen BK164.out 2; have hfz48_3 := blk_frozen BK164.out 3; have p41 : 0 ≤ (x8_16 : Int) := dd; have q41 : x8_16 < (a0.size : Int) := dd; have hx41 := bt_at a0 x8_16; replace p41 := eq_true p41; replace q41 := eq_true q41) | ((with_reducible refine gate_callee (f := 20) rfl ?_); refine goesL_ (some 106) rfl rfl Tryd.func20 (by kernel_rfl) rfl #[.int .u8 (bt a0 x8_16)] rfl (by (try simp only [List.map_toArray, List.map_cons, List.map_nil]); first | done | rfl | (simp only [List.length_drop, List.length_take]; rfl)) ?_; (with_reducible refine (hallmootref04_class.calls kj28 (bt a0 x8_16) t166 _ A42.out).mono ?_); rintro e w' ⟨rfl, ⟨nd, rfl⟩⟩; refine ⟨_, rfl, ?_⟩))
    all_goals go_ret2
    all_goals exact ⟨_, by first | rfl | (simp [errW_none, errW_some] <;> rfl) | (simp [*, errW_none, errW_some] <;> rfl), by first | exact Kd.R_nil _ _ _ _ _ | exact Kd.N_nil _ _ _ _ _ | exact Kd.V_nil _ _ _ _ _ | exact Kd.Q_nil _ _ _ _ _ | exact Kd.S_nil _ _ _ _ _, by repeat (first | (with_reducible first | exact HB.out | apply below_alloc | apply pw_below_drewN | apply below_drew1 | refine below_set ?_ GE164.out) | exact HB.out)⟩ }
    {
    rw [if_neg c47] at H
    have c47b0 : (t166 == 3) = false := beq_eq_false_iff_ne.mpr c47
    have c47b1 : (t166 != 3) = true := bne_iff_ne.mpr c47
    by_cases c49 : x4_1.length < 3518437208883
    {
    rw [if_pos c49] at H
    have LMc49 := aS c49
    clear c49
    obtain ⟨y167, hy167⟩ : ∃ y_ : List (S30), y_ = (x4_1 ++ [(⟨t158, (a0.extract (x5_1 : Int).toNat (x8_16 : Int).toNat), t165, x5_1⟩ : S30)]) := ⟨_, rfl⟩
    replace H : (hallmootref04_Words.l0 kj28 a0 y167 x8_16) = some (r1, r2) := by first | (rw [hy167]; with_reducible exact H) | (have H2_ := (Option.bind_some _ _).symm.trans H; rw [hy167]; with_reducible exact H2_) | (have H2_ := (Option.bind_some _ _).symm.trans H; with_reducible exact H2_) | with_reducible exact H | (rw [hy167]; exact H) | exact H
    have Ny167 := aS hy167
    clear hy167
    have H' := aS H
    clear H
    go_wp2_with (first | ((with_reducible refine gate_callee (f := 22) rfl ?_); refine goesL_ (some 97) rfl rfl Tryd.func22 (by kernel_rfl) rfl #[.string (a0.extract (x5_1 : Int).toNat (x8_16 : Int).toNat)] rfl (by (try simp only [List.map_toArray, List.map_cons, List.map_nil]); first | done | rfl | (simp only [List.length_drop, List.length_take]; rfl)) ?_; (with_reducible refine (hallmootref04_number.calls kj28 (a0.extract (x5_1 : Int).toNat (x8_16 : Int).toNat) t165 _ A38.out).mono ?_); rintro e w' ⟨rfl, ⟨nd, rfl⟩⟩; refine ⟨_, rfl, ?_⟩; (try (rw [drewN_self wc]; generalize hq_ : World.drewN wc _ = wc; have n0_ : Aside0 (Kd.R k30 30 wc w.heap.size (fun k_ => k_ ≠ gb164) u4 x4_1) := ⟨by rw [← hq_]; exact (rr HO_4.out)⟩; have n1_ : Aside0 (wc.heap[gb164]? = some (.cells #[.int .i64 t158, .string (a0.extract (x5_1 : Int).toNat (x8_16 : Int).toNat), .int .i64 0, .int .i64 x5_1] 30 (0, 0))) := ⟨by rw [← hq_]; exact (kk BK164.out)⟩; have n2_ : Aside0 (Below w.heap.size w wc) := ⟨by rw [← hq_]; exact bb⟩; clear HO_4 BK164 HB hq_; have HO_4 := n0_; have BK164 := n1_; have HB := n2_; clear n0_ n1_ n2_)); have hcz50_0 : wc.cell? ⟨gb164, 0, none⟩ = some (.int .i64 t158) := (blk_cell BK164.out 0).trans rfl; have hcz50_1 : wc.cell? ⟨gb164, 1, none⟩ = some (.string (a0.extract (x5_1 : Int).toNat (x8_16 : Int).toNat)) := (blk_cell BK164.out 1).trans rfl; have hcz50_2 : wc.cell? ⟨gb164, 2, none⟩ = some (.int .i64 0) := (blk_cell BK164.out 2).trans rfl; have hcz50_3 : wc.cell? ⟨gb164, 3, none⟩ = some (.int .i64 x5_1) := (blk_cell BK164.out 3).trans rfl; have hfz50_0 := blk_frozen BK164.out 0; have hfz50_1 := blk_frozen BK164.out 1; have hfz50_2 := blk_frozen BK164.out 2; have hfz50_3 := blk_frozen BK164.out 3; have p41 : 0 ≤ (x8_16 : Int) := dd; have q41 : x8_16 < (a0.size : Int) := dd; have hx41 := bt_at a0 x8_16; replace p41 := eq_true p41; replace q41 := eq_true q41) | ((with_reducible refine gate_callee (f := 20) rfl ?_); refine goesL_ (some 106) rfl rfl Tryd.func20 (by kernel_rfl) rfl #[.int .u8 (bt a0 x8_16)] rfl (by (try simp only [List.map_toArray, List.map_cons, List.map_nil]); first | done | rfl | (simp only [List.length_drop, List.length_take]; rfl)) ?_; (with_reducible refine (hallmootref04_class.calls kj28 (bt a0 x8_16) t166 _ A42.out).mono ?_); rintro e w' ⟨rfl, ⟨nd, rfl⟩⟩; refine ⟨_, rfl, ?_⟩) | ((with_reducible refine gate_builtin (b := .append) (xs := #[.tmp 118, .tmp 120]) rfl ?_); at_builtin; refine Kd.R_append k30 (w0 := w) w.heap.size rfl (.tmp 118) (.tmp 120) 23 30 (.agg #[(.int .i64 0), (.string ⟨#[]⟩), (.int .i64 0), (.int .i64 0)]) 40 rfl Tryd.underlying23 info30 rfl (by decide) (by omega) u4 x4_1 (⟨t158, (a0.extract (x5_1 : Int).toNat (x8_16 : Int).toNat), t165, x5_1⟩ : S30) [.int .i64 t158, .string (a0.extract (x5_1 : Int).toNat (x8_16 : Int).toNat), .int .i64 t165, .int .i64 x5_1] (fun k_ => k_ ≠ gb164) (fun _ => False) rfl (by first | (go_simp; done) | (go_simp; rfl)) ?aP (fun _ hk => hk.elim) ?aF ?aO ?aB ?aS ?aL ?_; (case aP => exact k30_mkM _ _ _ (⟨t158, (a0.extract (x5_1 : Int).toNat (x8_16 : Int).toNat), t165, x5_1⟩ : S30)); (case aB => exact bb); (case aF => exact (fun k_ hk => Kd.freshB (g := gb164) (o := .cells #[.int .i64 t158, .string (a0.extract (x5_1 : Int).toNat (x8_16 : Int).toNat), .int .i64 t165, .int .i64 x5_1] 30 (0, 0)) (by (with_reducible repeat (first | refine blk_drewN ?_ _ | refine blk_drew ?_ | refine blk_alloc ?_ _)); refine blk_put (cs := #[.int .i64 t158, .string (a0.extract (x5_1 : Int).toNat (x8_16 : Int).toNat), .int .i64 0, .int .i64 x5_1]) ?_ 2 _ rfl; (with_reducible repeat (first | refine blk_drewN ?_ _ | refine blk_drew ?_ | refine blk_alloc ?_ _)); exact BK164.out) k_ hk)); (case aO => exact (rr (Kd.R_mono (Kd.R_far (p := ⟨gb164, 2, none⟩) (Kd.R_mono HO_4.out (fun k_ hk => (⟨hk, hk⟩ : _ ∧ k_ ≠ gb164))) (fun _ hk => hk.2) (.int .i64 t165)) (fun _ hk => hk.1)))); (case aS => exact bz); (case aL => have := LMc49.out; omega); intro v168 w51 ho hb hg hat; rw [← Ny167.out] at ho; have n0_ := aS (blk_grown (g := gb164) (o := .cells #[.int .i64 t158, .string (a0.extract (x5_1 : Int).toNat (x8_16 : Int).toNat), .int .i64 t165, .int .i64 x5_1] 30 (0, 0)) (by (with_reducible repeat (first | refine blk_drewN ?_ _ | refine blk_drew ?_ | refine blk_alloc ?_ _)); refine blk_put (cs := #[.int .i64 t158, .string (a0.extract (x5_1 : Int).toNat (x8_16 : Int).toNat), .int .i64 0, .int .i64 x5_1]) ?_ 2 _ rfl; (with_reducible repeat (first | refine blk_drewN ?_ _ | refine blk_drew ?_ | refine blk_alloc ?_ _)); exact BK164.out) hg (Kd.R_away HO_4.out (fun _ hk => hk))); have n1_ := aS (hb); have n2_ := aS (ho); clear BK164; clear HB; clear HO_4; have BK164 := n0_; have HB := n1_; have HO169 := n2_; clear n0_ n1_ n2_; clear ho hb hg hat))
    go_roundg kj28
    case measure => have := HK1.out; have := HJ16.out; have := HJ28.out; omega
    case rel => exact ⟨(y167), (x8_16), (by first | rfl | (simp; done) | (simp [*]; done)), H', ⟨by have := HK1.out; have := HJ16.out; have := HJ28.out; omega⟩, ⟨by (with_reducible repeat (first | apply Kd.R_alloc | apply Kd.R_drewN | apply Kd.R_drew)); exact Kd.R_mono HO169.out (fun _ hk => trivial)⟩, ⟨by repeat (first | (with_reducible first | exact HB.out | apply below_alloc | apply pw_below_drewN | apply below_drew1 | refine below_set ?_ GE164.out) | exact HB.out)⟩⟩ }
    {
    rw [if_neg c49] at H
    exact absurd H (by simp) } } } } }
    {
    rw [if_neg c40] at H
    exact absurd H (by simp) } }
    {
    rw [if_neg c39] at H
    have c39b0 : decide (x8_16 < (a0.size : Int)) = false := decide_eq_false c39
    clear c39
    by_cases c52 : t165 < 0
    {
    rw [if_pos c52] at H
    have c52b0 : decide (t165 < 0) = true := decide_eq_true c52
    clear c52
    simp only [Option.some.injEq, Prod.mk.injEq] at H
    obtain ⟨rfl, rfl⟩ := H
    go_wp2_with (first | ((with_reducible refine gate_callee (f := 22) rfl ?_); refine goesL_ (some 97) rfl rfl Tryd.func22 (by kernel_rfl) rfl #[.string (a0.extract (x5_1 : Int).toNat (x8_16 : Int).toNat)] rfl (by (try simp only [List.map_toArray, List.map_cons, List.map_nil]); first | done | rfl | (simp only [List.length_drop, List.length_take]; rfl)) ?_; (with_reducible refine (hallmootref04_number.calls kj28 (a0.extract (x5_1 : Int).toNat (x8_16 : Int).toNat) t165 _ A38.out).mono ?_); rintro e w' ⟨rfl, ⟨nd, rfl⟩⟩; refine ⟨_, rfl, ?_⟩; (try (rw [drewN_self wc]; generalize hq_ : World.drewN wc _ = wc; have n0_ : Aside0 (Kd.R k30 30 wc w.heap.size (fun k_ => k_ ≠ gb164) u4 x4_1) := ⟨by rw [← hq_]; exact (rr HO_4.out)⟩; have n1_ : Aside0 (wc.heap[gb164]? = some (.cells #[.int .i64 t158, .string (a0.extract (x5_1 : Int).toNat (x8_16 : Int).toNat), .int .i64 0, .int .i64 x5_1] 30 (0, 0))) := ⟨by rw [← hq_]; exact (kk BK164.out)⟩; have n2_ : Aside0 (Below w.heap.size w wc) := ⟨by rw [← hq_]; exact bb⟩; clear HO_4 BK164 HB hq_; have HO_4 := n0_; have BK164 := n1_; have HB := n2_; clear n0_ n1_ n2_)); have hcz53_0 : wc.cell? ⟨gb164, 0, none⟩ = some (.int .i64 t158) := (blk_cell BK164.out 0).trans rfl; have hcz53_1 : wc.cell? ⟨gb164, 1, none⟩ = some (.string (a0.extract (x5_1 : Int).toNat (x8_16 : Int).toNat)) := (blk_cell BK164.out 1).trans rfl; have hcz53_2 : wc.cell? ⟨gb164, 2, none⟩ = some (.int .i64 0) := (blk_cell BK164.out 2).trans rfl; have hcz53_3 : wc.cell? ⟨gb164, 3, none⟩ = some (.int .i64 x5_1) := (blk_cell BK164.out 3).trans rfl; have hfz53_0 := blk_frozen BK164.out 0; have hfz53_1 := blk_frozen BK164.out 1; have hfz53_2 := blk_frozen BK164.out 2; have hfz53_3 := blk_frozen BK164.out 3))
    all_goals go_ret2
    all_goals exact ⟨_, by first | rfl | (simp [errW_none, errW_some] <;> rfl) | (simp [*, errW_none, errW_some] <;> rfl), by first | exact Kd.R_nil _ _ _ _ _ | exact Kd.N_nil _ _ _ _ _ | exact Kd.V_nil _ _ _ _ _ | exact Kd.Q_nil _ _ _ _ _ | exact Kd.S_nil _ _ _ _ _, by repeat (first | (with_reducible first | exact HB.out | apply below_alloc | apply pw_below_drewN | apply below_drew1 | refine below_set ?_ GE164.out) | exact HB.out)⟩ }
    {
    rw [if_neg c52] at H
    have c52b0 : decide (t165 < 0) = false := decide_eq_false c52
    clear c52
    by_cases c54 : 0 = 1
    {
    rw [if_pos c54] at H
    have c54b0 : (0 == 1) = true := beq_iff_eq.mpr c54
    have c54b1 : (0 != 1) = false := bne_eq_false_iff_eq.mpr c54
    clear c54
    simp only [Option.some.injEq, Prod.mk.injEq] at H
    obtain ⟨rfl, rfl⟩ := H
    go_wp2_with (first | ((with_reducible refine gate_callee (f := 22) rfl ?_); refine goesL_ (some 97) rfl rfl Tryd.func22 (by kernel_rfl) rfl #[.string (a0.extract (x5_1 : Int).toNat (x8_16 : Int).toNat)] rfl (by (try simp only [List.map_toArray, List.map_cons, List.map_nil]); first | done | rfl | (simp only [List.length_drop, List.length_take]; rfl)) ?_; (with_reducible refine (hallmootref04_number.calls kj28 (a0.extract (x5_1 : Int).toNat (x8_16 : Int).toNat) t165 _ A38.out).mono ?_); rintro e w' ⟨rfl, ⟨nd, rfl⟩⟩; refine ⟨_, rfl, ?_⟩; (try (rw [drewN_self wc]; generalize hq_ : World.drewN wc _ = wc; have n0_ : Aside0 (Kd.R k30 30 wc w.heap.size (fun k_ => k_ ≠ gb164) u4 x4_1) := ⟨by rw [← hq_]; exact (rr HO_4.out)⟩; have n1_ : Aside0 (wc.heap[gb164]? = some (.cells #[.int .i64 t158, .string (a0.extract (x5_1 : Int).toNat (x8_16 : Int).toNat), .int .i64 0, .int .i64 x5_1] 30 (0, 0))) := ⟨by rw [← hq_]; exact (kk BK164.out)⟩; have n2_ : Aside0 (Below w.heap.size w wc) := ⟨by rw [← hq_]; exact bb⟩; clear HO_4 BK164 HB hq_; have HO_4 := n0_; have BK164 := n1_; have HB := n2_; clear n0_ n1_ n2_)); have hcz55_0 : wc.cell? ⟨gb164, 0, none⟩ = some (.int .i64 t158) := (blk_cell BK164.out 0).trans rfl; have hcz55_1 : wc.cell? ⟨gb164, 1, none⟩ = some (.string (a0.extract (x5_1 : Int).toNat (x8_16 : Int).toNat)) := (blk_cell BK164.out 1).trans rfl; have hcz55_2 : wc.cell? ⟨gb164, 2, none⟩ = some (.int .i64 0) := (blk_cell BK164.out 2).trans rfl; have hcz55_3 : wc.cell? ⟨gb164, 3, none⟩ = some (.int .i64 x5_1) := (blk_cell BK164.out 3).trans rfl; have hfz55_0 := blk_frozen BK164.out 0; have hfz55_1 := blk_frozen BK164.out 1; have hfz55_2 := blk_frozen BK164.out 2; have hfz55_3 := blk_frozen BK164.out 3))
    all_goals go_ret2
    all_goals exact ⟨_, by first | rfl | (simp [errW_none, errW_some] <;> rfl) | (simp [*, errW_none, errW_some] <;> rfl), by first | exact Kd.R_nil _ _ _ _ _ | exact Kd.N_nil _ _ _ _ _ | exact Kd.V_nil _ _ _ _ _ | exact Kd.Q_nil _ _ _ _ _ | exact Kd.S_nil _ _ _ _ _, by repeat (first | (with_reducible first | exact HB.out | apply below_alloc | apply pw_below_drewN | apply below_drew1 | refine below_set ?_ GE164.out) | exact HB.out)⟩ }
    {
    rw [if_neg c54] at H
    have c54b0 : (0 == 1) = false := beq_eq_false_iff_ne.mpr c54
    have c54b1 : (0 != 1) = true := bne_iff_ne.mpr c54
    by_cases c56 : 0 = 3
    {
    rw [if_pos c56] at H
    have c56b0 : (0 == 3) = true := beq_iff_eq.mpr c56
    have c56b1 : (0 != 3) = false := bne_eq_false_iff_eq.mpr c56
    clear c56
    simp only [Option.some.injEq, Prod.mk.injEq] at H
    obtain ⟨rfl, rfl⟩ := H
    go_wp2_with (first | ((with_reducible refine gate_callee (f := 22) rfl ?_); refine goesL_ (some 97) rfl rfl Tryd.func22 (by kernel_rfl) rfl #[.string (a0.extract (x5_1 : Int).toNat (x8_16 : Int).toNat)] rfl (by (try simp only [List.map_toArray, List.map_cons, List.map_nil]); first | done | rfl | (simp only [List.length_drop, List.length_take]; rfl)) ?_; (with_reducible refine (hallmootref04_number.calls kj28 (a0.extract (x5_1 : Int).toNat (x8_16 : Int).toNat) t165 _ A38.out).mono ?_); rintro e w' ⟨rfl, ⟨nd, rfl⟩⟩; refine ⟨_, rfl, ?_⟩; (try (rw [drewN_self wc]; generalize hq_ : World.drewN wc _ = wc; have n0_ : Aside0 (Kd.R k30 30 wc w.heap.size (fun k_ => k_ ≠ gb164) u4 x4_1) := ⟨by rw [← hq_]; exact (rr HO_4.out)⟩; have n1_ : Aside0 (wc.heap[gb164]? = some (.cells #[.int .i64 t158, .string (a0.extract (x5_1 : Int).toNat (x8_16 : Int).toNat), .int .i64 0, .int .i64 x5_1] 30 (0, 0))) := ⟨by rw [← hq_]; exact (kk BK164.out)⟩; have n2_ : Aside0 (Below w.heap.size w wc) := ⟨by rw [← hq_]; exact bb⟩; clear HO_4 BK164 HB hq_; have HO_4 := n0_; have BK164 := n1_; have HB := n2_; clear n0_ n1_ n2_)); have hcz57_0 : wc.cell? ⟨gb164, 0, none⟩ = some (.int .i64 t158) := (blk_cell BK164.out 0).trans rfl; have hcz57_1 : wc.cell? ⟨gb164, 1, none⟩ = some (.string (a0.extract (x5_1 : Int).toNat (x8_16 : Int).toNat)) := (blk_cell BK164.out 1).trans rfl; have hcz57_2 : wc.cell? ⟨gb164, 2, none⟩ = some (.int .i64 0) := (blk_cell BK164.out 2).trans rfl; have hcz57_3 : wc.cell? ⟨gb164, 3, none⟩ = some (.int .i64 x5_1) := (blk_cell BK164.out 3).trans rfl; have hfz57_0 := blk_frozen BK164.out 0; have hfz57_1 := blk_frozen BK164.out 1; have hfz57_2 := blk_frozen BK164.out 2; have hfz57_3 := blk_frozen BK164.out 3))
    all_goals go_ret2
    all_goals exact ⟨_, by first | rfl | (simp [errW_none, errW_some] <;> rfl) | (simp [*, errW_none, errW_some] <;> rfl), by first | exact Kd.R_nil _ _ _ _ _ | exact Kd.N_nil _ _ _ _ _ | exact Kd.V_nil _ _ _ _ _ | exact Kd.Q_nil _ _ _ _ _ | exact Kd.S_nil _ _ _ _ _, by repeat (first | (with_reducible first | exact HB.out | apply below_alloc | apply pw_below_drewN | apply below_drew1 | refine below_set ?_ GE164.out) | exact HB.out)⟩ }
    {
    rw [if_neg c56] at H
    have c56b0 : (0 == 3) = false := beq_eq_false_iff_ne.mpr c56
    have c56b1 : (0 != 3) = true := bne_iff_ne.mpr c56
    by_cases c58 : x4_1.length < 3518437208883
    {
    rw [if_pos c58] at H
    have LMc58 := aS c58
    clear c58
    obtain ⟨y170, hy170⟩ : ∃ y_ : List (S30), y_ = (x4_1 ++ [(⟨t158, (a0.extract (x5_1 : Int).toNat (x8_16 : Int).toNat), t165, x5_1⟩ : S30)]) := ⟨_, rfl⟩
    replace H : (hallmootref04_Words.l0 kj28 a0 y170 x8_16) = some (r1, r2) := by first | (rw [hy170]; with_reducible exact H) | (have H2_ := (Option.bind_some _ _).symm.trans H; rw [hy170]; with_reducible exact H2_) | (have H2_ := (Option.bind_some _ _).symm.trans H; with_reducible exact H2_) | with_reducible exact H | (rw [hy170]; exact H) | exact H
    have Ny170 := aS hy170
    clear hy170
    have H' := aS H
    clear H
    go_wp2_with (first | ((with_reducible refine gate_callee (f := 22) rfl ?_); refine goesL_ (some 97) rfl rfl Tryd.func22 (by kernel_rfl) rfl #[.string (a0.extract (x5_1 : Int).toNat (x8_16 : Int).toNat)] rfl (by (try simp only [List.map_toArray, List.map_cons, List.map_nil]); first | done | rfl | (simp only [List.length_drop, List.length_take]; rfl)) ?_; (with_reducible refine (hallmootref04_number.calls kj28 (a0.extract (x5_1 : Int).toNat (x8_16 : Int).toNat) t165 _ A38.out).mono ?_); rintro e w' ⟨rfl, ⟨nd, rfl⟩⟩; refine ⟨_, rfl, ?_⟩; (try (rw [drewN_self wc]; generalize hq_ : World.drewN wc _ = wc; have n0_ : Aside0 (Kd.R k30 30 wc w.heap.size (fun k_ => k_ ≠ gb164) u4 x4_1) := ⟨by rw [← hq_]; exact (rr HO_4.out)⟩; have n1_ : Aside0 (wc.heap[gb164]? = some (.cells #[.int .i64 t158, .string (a0.extract (x5_1 : Int).toNat (x8_16 : Int).toNat), .int .i64 0, .int .i64 x5_1] 30 (0, 0))) := ⟨by rw [← hq_]; exact (kk BK164.out)⟩; have n2_ : Aside0 (Below w.heap.size w wc) := ⟨by rw [← hq_]; exact bb⟩; clear HO_4 BK164 HB hq_; have HO_4 := n0_; have BK164 := n1_; have HB := n2_; clear n0_ n1_ n2_)); have hcz59_0 : wc.cell? ⟨gb164, 0, none⟩ = some (.int .i64 t158) := (blk_cell BK164.out 0).trans rfl; have hcz59_1 : wc.cell? ⟨gb164, 1, none⟩ = some (.string (a0.extract (x5_1 : Int).toNat (x8_16 : Int).toNat)) := (blk_cell BK164.out 1).trans rfl; have hcz59_2 : wc.cell? ⟨gb164, 2, none⟩ = some (.int .i64 0) := (blk_cell BK164.out 2).trans rfl; have hcz59_3 : wc.cell? ⟨gb164, 3, none⟩ = some (.int .i64 x5_1) := (blk_cell BK164.out 3).trans rfl; have hfz59_0 := blk_frozen BK164.out 0; have hfz59_1 := blk_frozen BK164.out 1; have hfz59_2 := blk_frozen BK164.out 2; have hfz59_3 := blk_frozen BK164.out 3) | ((with_reducible refine gate_builtin (b := .append) (xs := #[.tmp 118, .tmp 120]) rfl ?_); at_builtin; refine Kd.R_append k30 (w0 := w) w.heap.size rfl (.tmp 118) (.tmp 120) 23 30 (.agg #[(.int .i64 0), (.string ⟨#[]⟩), (.int .i64 0), (.int .i64 0)]) 40 rfl Tryd.underlying23 info30 rfl (by decide) (by omega) u4 x4_1 (⟨t158, (a0.extract (x5_1 : Int).toNat (x8_16 : Int).toNat), t165, x5_1⟩ : S30) [.int .i64 t158, .string (a0.extract (x5_1 : Int).toNat (x8_16 : Int).toNat), .int .i64 t165, .int .i64 x5_1] (fun k_ => k_ ≠ gb164) (fun _ => False) rfl (by first | (go_simp; done) | (go_simp; rfl)) ?aP (fun _ hk => hk.elim) ?aF ?aO ?aB ?aS ?aL ?_; (case aP => exact k30_mkM _ _ _ (⟨t158, (a0.extract (x5_1 : Int).toNat (x8_16 : Int).toNat), t165, x5_1⟩ : S30)); (case aB => exact bb); (case aF => exact (fun k_ hk => Kd.freshB (g := gb164) (o := .cells #[.int .i64 t158, .string (a0.extract (x5_1 : Int).toNat (x8_16 : Int).toNat), .int .i64 t165, .int .i64 x5_1] 30 (0, 0)) (by (with_reducible repeat (first | refine blk_drewN ?_ _ | refine blk_drew ?_ | refine blk_alloc ?_ _)); refine blk_put (cs := #[.int .i64 t158, .string (a0.extract (x5_1 : Int).toNat (x8_16 : Int).toNat), .int .i64 0, .int .i64 x5_1]) ?_ 2 _ rfl; (with_reducible repeat (first | refine blk_drewN ?_ _ | refine blk_drew ?_ | refine blk_alloc ?_ _)); exact BK164.out) k_ hk)); (case aO => exact (rr (Kd.R_mono (Kd.R_far (p := ⟨gb164, 2, none⟩) (Kd.R_mono HO_4.out (fun k_ hk => (⟨hk, hk⟩ : _ ∧ k_ ≠ gb164))) (fun _ hk => hk.2) (.int .i64 t165)) (fun _ hk => hk.1)))); (case aS => exact bz); (case aL => have := LMc58.out; omega); intro v171 w60 ho hb hg hat; rw [← Ny170.out] at ho; have n0_ := aS (blk_grown (g := gb164) (o := .cells #[.int .i64 t158, .string (a0.extract (x5_1 : Int).toNat (x8_16 : Int).toNat), .int .i64 t165, .int .i64 x5_1] 30 (0, 0)) (by (with_reducible repeat (first | refine blk_drewN ?_ _ | refine blk_drew ?_ | refine blk_alloc ?_ _)); refine blk_put (cs := #[.int .i64 t158, .string (a0.extract (x5_1 : Int).toNat (x8_16 : Int).toNat), .int .i64 0, .int .i64 x5_1]) ?_ 2 _ rfl; (with_reducible repeat (first | refine blk_drewN ?_ _ | refine blk_drew ?_ | refine blk_alloc ?_ _)); exact BK164.out) hg (Kd.R_away HO_4.out (fun _ hk => hk))); have n1_ := aS (hb); have n2_ := aS (ho); clear BK164; clear HB; clear HO_4; have BK164 := n0_; have HB := n1_; have HO172 := n2_; clear n0_ n1_ n2_; clear ho hb hg hat))
    go_roundg kj28
    case measure => have := HK1.out; have := HJ16.out; have := HJ28.out; omega
    case rel => exact ⟨(y170), (x8_16), (by first | rfl | (simp; done) | (simp [*]; done)), H', ⟨by have := HK1.out; have := HJ16.out; have := HJ28.out; omega⟩, ⟨by (with_reducible repeat (first | apply Kd.R_alloc | apply Kd.R_drewN | apply Kd.R_drew)); exact Kd.R_mono HO172.out (fun _ hk => trivial)⟩, ⟨by repeat (first | (with_reducible first | exact HB.out | apply below_alloc | apply pw_below_drewN | apply below_drew1 | refine below_set ?_ GE164.out) | exact HB.out)⟩⟩ }
    {
    rw [if_neg c58] at H
    exact absurd H (by simp) } } } } } }
    {
    rw [if_neg c37] at H
    exact absurd H (by simp) } }
    {
    rw [if_neg c36] at H
    exact absurd H (by simp) } }
    {
    rw [if_neg c35] at H
    exact absurd H (by simp) } }
    {
    rw [if_neg c34] at H
    have c34b0 : (t158 == 2) = false := beq_eq_false_iff_ne.mpr c34
    have c34b1 : (t158 != 2) = true := bne_iff_ne.mpr c34
    by_cases c61 : x4_1.length < 3518437208883
    {
    rw [if_pos c61] at H
    have LMc61 := aS c61
    clear c61
    obtain ⟨y173, hy173⟩ : ∃ y_ : List (S30), y_ = (x4_1 ++ [(⟨t158, (a0.extract (x5_1 : Int).toNat (x8_16 : Int).toNat), 0, x5_1⟩ : S30)]) := ⟨_, rfl⟩
    replace H : (hallmootref04_Words.l0 kj28 a0 y173 x8_16) = some (r1, r2) := by first | (rw [hy173]; with_reducible exact H) | (have H2_ := (Option.bind_some _ _).symm.trans H; rw [hy173]; with_reducible exact H2_) | (have H2_ := (Option.bind_some _ _).symm.trans H; with_reducible exact H2_) | with_reducible exact H | (rw [hy173]; exact H) | exact H
    have Ny173 := aS hy173
    clear hy173
    have H' := aS H
    clear H
    have hcz62_0 : wc.cell? ⟨gb164, 0, none⟩ = some (.int .i64 t158) := (blk_cell BK164.out 0).trans rfl
    have hcz62_1 : wc.cell? ⟨gb164, 1, none⟩ = some (.string (a0.extract (x5_1 : Int).toNat (x8_16 : Int).toNat)) := (blk_cell BK164.out 1).trans rfl
    have hcz62_2 : wc.cell? ⟨gb164, 2, none⟩ = some (.int .i64 0) := (blk_cell BK164.out 2).trans rfl
    have hcz62_3 : wc.cell? ⟨gb164, 3, none⟩ = some (.int .i64 x5_1) := (blk_cell BK164.out 3).trans rfl
    have hfz62_0 := blk_frozen BK164.out 0
    have hfz62_1 := blk_frozen BK164.out 1
    have hfz62_2 := blk_frozen BK164.out 2
    have hfz62_3 := blk_frozen BK164.out 3
    go_wp2_with (first | ((with_reducible refine gate_builtin (b := .append) (xs := #[.tmp 118, .tmp 120]) rfl ?_); at_builtin; refine Kd.R_append k30 (w0 := w) w.heap.size rfl (.tmp 118) (.tmp 120) 23 30 (.agg #[(.int .i64 0), (.string ⟨#[]⟩), (.int .i64 0), (.int .i64 0)]) 40 rfl Tryd.underlying23 info30 rfl (by decide) (by omega) u4 x4_1 (⟨t158, (a0.extract (x5_1 : Int).toNat (x8_16 : Int).toNat), 0, x5_1⟩ : S30) [.int .i64 t158, .string (a0.extract (x5_1 : Int).toNat (x8_16 : Int).toNat), .int .i64 0, .int .i64 x5_1] (fun k_ => k_ ≠ gb164) (fun _ => False) rfl rfl ?aP (fun _ hk => hk.elim) ?aF ?aO ?aB ?aS ?aL ?_; (case aP => exact k30_mkM _ _ _ (⟨t158, (a0.extract (x5_1 : Int).toNat (x8_16 : Int).toNat), 0, x5_1⟩ : S30)); (case aB => exact bb); (case aF => exact (fun k_ hk => Kd.freshB (g := gb164) (o := .cells #[.int .i64 t158, .string (a0.extract (x5_1 : Int).toNat (x8_16 : Int).toNat), .int .i64 0, .int .i64 x5_1] 30 (0, 0)) (kk BK164.out) k_ hk)); (case aO => exact (rr HO_4.out)); (case aS => exact bz); (case aL => have := LMc61.out; omega); intro v174 w63 ho hb hg hat; rw [← Ny173.out] at ho; have n0_ := aS (blk_grown (g := gb164) (o := .cells #[.int .i64 t158, .string (a0.extract (x5_1 : Int).toNat (x8_16 : Int).toNat), .int .i64 0, .int .i64 x5_1] 30 (0, 0)) (kk BK164.out) hg (Kd.R_away HO_4.out (fun _ hk => hk))); have n1_ := aS (hb); have n2_ := aS (ho); clear BK164; clear HB; clear HO_4; have BK164 := n0_; have HB := n1_; have HO175 := n2_; clear n0_ n1_ n2_; clear ho hb hg hat))
    go_roundg kj28
    case measure => have := HK1.out; have := HJ16.out; have := HJ28.out; omega
    case rel => exact ⟨(y173), (x8_16), (by first | rfl | (simp; done) | (simp [*]; done)), H', ⟨by have := HK1.out; have := HJ16.out; have := HJ28.out; omega⟩, ⟨by (with_reducible repeat (first | apply Kd.R_alloc | apply Kd.R_drewN | apply Kd.R_drew)); exact Kd.R_mono HO175.out (fun _ hk => trivial)⟩, ⟨by repeat (first | (with_reducible first | exact HB.out | apply below_alloc | apply pw_below_drewN | apply below_drew1 | refine below_set ?_ GE164.out) | exact HB.out)⟩⟩ }
    {
    rw [if_neg c61] at H
    exact absurd H (by simp) } } } } }
   {
   rw [if_neg c28] at H
   exact absurd H (by simp) } }
   {
   rw [if_neg c27] at H
   exact absurd H (by simp) } }
   {
   rw [if_neg c26] at H
   exact absurd H (by simp) } } } } } }
  {
  rw [if_neg c4] at H
  exact absurd H (by simp) } }
  {
  rw [if_neg c3] at H
  have c3b0 : decide (x5_1 < (a0.size : Int)) = false := decide_eq_false c3
  clear c3
  simp only [Option.some.injEq, Prod.mk.injEq] at H
  obtain ⟨rfl, rfl⟩ := H
  go_wp2
  all_goals go_ret2
  all_goals exact ⟨_, by first | rfl | (simp [errW_none, errW_some] <;> rfl) | (simp [*, errW_none, errW_some] <;> rfl), by (with_reducible repeat (first | apply Kd.R_alloc | apply Kd.R_drewN | apply Kd.R_drew)); exact HO_4.out, by repeat (first | (with_reducible first | exact HB.out | apply below_alloc | apply pw_below_drewN | apply below_drew1) | exact HB.out)⟩ } } }

end Go.Proofs.YtphlbjpefnjjnaaDoor.P
