-- Written by pp.py (this session's program over the kit's printer): functions, contracts. Not trusted: Lean checks it.
import Derived.Test.YtdaonhgcejjlhaaPx0
import Derived.Test.YtdaonhgcejjlhaaPx10
import Derived.Test.YtdaonhgcejjlhaaPx14
import Derived.Test.YtdaonhgcejjlhaaPx28
import Derived.Test.YtdaonhgcejjlhaaHc
import Derived.Test.YtdaonhgcejjlhaaHf
namespace Go.Proofs.Ytdaonhgcejjlhaa.P
open Go.RowKit Go.Proofs.YtdaonhgcejjlhaaW.PrintWords Go.Proofs.YtdaonhgcejjlhaaW.PrintLast Go.Proofs.YtdaonhgcejjlhaaW.PrintMore
attribute [local go_sem] max2_int min2_int max_two min_two max_three min_three max_four min_four   -- for this text's walks alone
set_option linter.unusedVariables false
set_option linter.unusedSimpArgs false

/-! ### hallmootlaw22_DiskTearsBytes: function 6 -/
mutual
def hallmootlaw22_DiskTearsBytes.j0 : Nat → List Int → List Int → Bool → Int → Bool → Option (Bool)
  | 0, _, _, _, _, _ => none
  | k + 1, x1, x2, x7, x8, x38 => if x38 = true then (some x7) else ((hallmootlaw22_written.f k x8 x1).bind fun bt498 => (hallmootlaw22_DiskTearsBytes.l0 k x1 x2 x7 x8 bt498.2.2.1 bt498.2.2.2 0 0 bt498.1 bt498.2.1))
def hallmootlaw22_DiskTearsBytes.l0 : Nat → List Int → List Int → Bool → Int → List (S46) → Bool → Int → Int → List ByteArray → List (S46) → Option (Bool)
  | 0, _, _, _, _, _, _, _, _, _, _ => none
  | k + 1, x1, x2, x7, x8, x10, x11, x12, x13, x509000, x509001 => if x13 < (x1.length : Int) then (if 0 ≤ x13 then (if (rd x1 x13) = 255 then (hallmootlaw22_DiskTearsBytes.l0 k x1 x2 x7 x8 x10 x11 (wrap64 (x13 + 1)) (wrap64 (x13 + 1)) x509000 x509001) else (hallmootlaw22_DiskTearsBytes.l0 k x1 x2 x7 x8 x10 x11 x12 (wrap64 (x13 + 1)) x509000 x509001)) else (none)) else (if 0 ≤ x12 then (if x12 ≤ (x1.length : Int) then ((hallmootlaw22_written.f k x8 (x1.take (x12 : Int).toNat)).bind fun bt511 => ((dCrash.f x509000 x509001 x2).bind fun bt522 => (hallmootlaw22_DiskTearsBytes.l1 k x7 x8 x10 x11 bt511.2.2.1 0 bt511.1 bt511.2.1 bt522.1 bt522.2))) else (none)) else (none))
def hallmootlaw22_DiskTearsBytes.l1 : Nat → Bool → Int → List (S46) → Bool → List (S46) → Int → List ByteArray → List (S46) → List ByteArray → List (S46) → Option (Bool)
  | 0, _, _, _, _, _, _, _, _, _, _ => none
  | k + 1, x7, x8, x10, x11, x15, x18, x522000, x522001, x529000, x529001 => if x18 < x8 then (hallmootlaw22_DiskTearsBytes.j3 k x7 x8 x10 x11 x15 x18 x11 x522000 x522001 x529000 x529001) else (hallmootlaw22_DiskTearsBytes.j3 k x7 x8 x10 x11 x15 x18 false x522000 x522001 x529000 x529001)
def hallmootlaw22_DiskTearsBytes.j3 : Nat → Bool → Int → List (S46) → Bool → List (S46) → Int → Bool → List ByteArray → List (S46) → List ByteArray → List (S46) → Option (Bool)
  | 0, _, _, _, _, _, _, _, _, _, _, _ => none
  | k + 1, x7, x8, x10, x11, x15, x18, x77, x522000, x522001, x529000, x529001 => if x77 = true then ((disk_Read.f x529000 x529001 x18).bind fun bt530 => ((disk_Read.f x522000 x522001 x18).bind fun bt532 => (if bt530.2 = 0 then (if bt532.2 = 0 then (if (bt530.1.size : Int) = 32 then (hallmootlaw22_DiskTearsBytes.j4 k x7 x8 x10 x11 x15 x18 bt530.1 bt532.1 ((bt532.1.size : Int) != 32) x522000 x522001 x529000 x529001) else (hallmootlaw22_DiskTearsBytes.j4 k x7 x8 x10 x11 x15 x18 bt530.1 bt532.1 true x522000 x522001 x529000 x529001)) else (hallmootlaw22_DiskTearsBytes.j4 k x7 x8 x10 x11 x15 x18 bt530.1 bt532.1 true x522000 x522001 x529000 x529001)) else (hallmootlaw22_DiskTearsBytes.j4 k x7 x8 x10 x11 x15 x18 bt530.1 bt532.1 true x522000 x522001 x529000 x529001)))) else (if x7 = true then (if x11 = true then ((dRight.f x529000 x529001).bind fun t529 => (if t529 = true then (some ((x529001.length : Int) == 0)) else (none))) else (none)) else (none))
def hallmootlaw22_DiskTearsBytes.j4 : Nat → Bool → Int → List (S46) → Bool → List (S46) → Int → ByteArray → ByteArray → Bool → List ByteArray → List (S46) → List ByteArray → List (S46) → Option (Bool)
  | 0, _, _, _, _, _, _, _, _, _, _, _, _, _ => none
  | k + 1, x7, x8, x10, x11, x15, x18, x19, x21, x107, x522000, x522001, x529000, x529001 => if x107 = true then (none) else (hallmootlaw22_DiskTearsBytes.l2 k x7 x8 x10 x11 x15 x18 x19 x21 0 x522000 x522001 x529000 x529001)
def hallmootlaw22_DiskTearsBytes.l2 : Nat → Bool → Int → List (S46) → Bool → List (S46) → Int → ByteArray → ByteArray → Int → List ByteArray → List (S46) → List ByteArray → List (S46) → Option (Bool)
  | 0, _, _, _, _, _, _, _, _, _, _, _, _, _ => none
  | k + 1, x7, x8, x10, x11, x15, x18, x19, x21, x23, x522000, x522001, x529000, x529001 => if x23 < (x19.size : Int) then (if 0 ≤ x23 then (if x23 < (x21.size : Int) then (hallmootlaw22_DiskTearsBytes.l3 k x7 x8 x10 x11 x15 x18 x19 x21 x23 ((bt x19 x23) == (bt x21 x23)) (x15.length : Int) x522000 x522001 x529000 x529001) else (none)) else (none)) else (hallmootlaw22_DiskTearsBytes.l1 k x7 x8 x10 x11 x15 (wrap64 (x18 + 1)) x522000 x522001 x529000 x529001)
def hallmootlaw22_DiskTearsBytes.l3 : Nat → Bool → Int → List (S46) → Bool → List (S46) → Int → ByteArray → ByteArray → Int → Bool → Int → List ByteArray → List (S46) → List ByteArray → List (S46) → Option (Bool)
  | 0, _, _, _, _, _, _, _, _, _, _, _, _, _, _, _ => none
  | k + 1, x7, x8, x10, x11, x15, x18, x19, x21, x23, x24, x25, x522000, x522001, x529000, x529001 => if x25 < (x10.length : Int) then (if x24 = true then (hallmootlaw22_DiskTearsBytes.l3 k x7 x8 x10 x11 x15 x18 x19 x21 x23 true (wrap64 (x25 + 1)) x522000 x522001 x529000 x529001) else (if 0 ≤ x25 then (if ((rd_T46 x10 x25).f0) = x18 then (if 0 ≤ x23 then (if x23 < (x19.size : Int) then (if x23 < (((rd_T46 x10 x25).f1).size : Int) then (hallmootlaw22_DiskTearsBytes.l3 k x7 x8 x10 x11 x15 x18 x19 x21 x23 ((bt x19 x23) == (bt ((rd_T46 x10 x25).f1) x23)) (wrap64 (x25 + 1)) x522000 x522001 x529000 x529001) else (none)) else (none)) else (none)) else (hallmootlaw22_DiskTearsBytes.l3 k x7 x8 x10 x11 x15 x18 x19 x21 x23 false (wrap64 (x25 + 1)) x522000 x522001 x529000 x529001)) else (none))) else (if x24 = true then (hallmootlaw22_DiskTearsBytes.l2 k x7 x8 x10 x11 x15 x18 x19 x21 (wrap64 (x23 + 1)) x522000 x522001 x529000 x529001) else (none))
end
def hallmootlaw22_DiskTearsBytes.f (k : Nat) (a0 : Int) (l1 : List Int) (l2 : List Int) : Option (Bool) := (hallmootlaw22_sanity.f k).bind fun t497 => (if (l1.length : Int) > 30 then (hallmootlaw22_DiskTearsBytes.j0 k l1 l2 t497 (wrap64 (1 + (Int.tmod (wrap64 (a0)) 4))) true) else (hallmootlaw22_DiskTearsBytes.j0 k l1 l2 t497 (wrap64 (1 + (Int.tmod (wrap64 (a0)) 4))) (decide ((l2.length : Int) > 40))))
theorem hallmootlaw22_DiskTearsBytes.mono_l : ∀ k, (∀ y0 y1 y2 y3 y4, LeO (hallmootlaw22_DiskTearsBytes.j0 k y0 y1 y2 y3 y4) (hallmootlaw22_DiskTearsBytes.j0 (k + 1) y0 y1 y2 y3 y4)) ∧ (∀ y0 y1 y2 y3 y4 y5 y6 y7 y8 y9, LeO (hallmootlaw22_DiskTearsBytes.l0 k y0 y1 y2 y3 y4 y5 y6 y7 y8 y9) (hallmootlaw22_DiskTearsBytes.l0 (k + 1) y0 y1 y2 y3 y4 y5 y6 y7 y8 y9)) ∧ (∀ y0 y1 y2 y3 y4 y5 y6 y7 y8 y9, LeO (hallmootlaw22_DiskTearsBytes.l1 k y0 y1 y2 y3 y4 y5 y6 y7 y8 y9) (hallmootlaw22_DiskTearsBytes.l1 (k + 1) y0 y1 y2 y3 y4 y5 y6 y7 y8 y9)) ∧ (∀ y0 y1 y2 y3 y4 y5 y6 y7 y8 y9 y10, LeO (hallmootlaw22_DiskTearsBytes.j3 k y0 y1 y2 y3 y4 y5 y6 y7 y8 y9 y10) (hallmootlaw22_DiskTearsBytes.j3 (k + 1) y0 y1 y2 y3 y4 y5 y6 y7 y8 y9 y10)) ∧ (∀ y0 y1 y2 y3 y4 y5 y6 y7 y8 y9 y10 y11 y12, LeO (hallmootlaw22_DiskTearsBytes.j4 k y0 y1 y2 y3 y4 y5 y6 y7 y8 y9 y10 y11 y12) (hallmootlaw22_DiskTearsBytes.j4 (k + 1) y0 y1 y2 y3 y4 y5 y6 y7 y8 y9 y10 y11 y12)) ∧ (∀ y0 y1 y2 y3 y4 y5 y6 y7 y8 y9 y10 y11 y12, LeO (hallmootlaw22_DiskTearsBytes.l2 k y0 y1 y2 y3 y4 y5 y6 y7 y8 y9 y10 y11 y12) (hallmootlaw22_DiskTearsBytes.l2 (k + 1) y0 y1 y2 y3 y4 y5 y6 y7 y8 y9 y10 y11 y12)) ∧ (∀ y0 y1 y2 y3 y4 y5 y6 y7 y8 y9 y10 y11 y12 y13 y14, LeO (hallmootlaw22_DiskTearsBytes.l3 k y0 y1 y2 y3 y4 y5 y6 y7 y8 y9 y10 y11 y12 y13 y14) (hallmootlaw22_DiskTearsBytes.l3 (k + 1) y0 y1 y2 y3 y4 y5 y6 y7 y8 y9 y10 y11 y12 y13 y14))
  | 0 => ⟨fun _ _ _ _ _ r h => by simp [hallmootlaw22_DiskTearsBytes.j0] at h, fun _ _ _ _ _ _ _ _ _ _ r h => by simp [hallmootlaw22_DiskTearsBytes.l0] at h, fun _ _ _ _ _ _ _ _ _ _ r h => by simp [hallmootlaw22_DiskTearsBytes.l1] at h, fun _ _ _ _ _ _ _ _ _ _ _ r h => by simp [hallmootlaw22_DiskTearsBytes.j3] at h, fun _ _ _ _ _ _ _ _ _ _ _ _ _ r h => by simp [hallmootlaw22_DiskTearsBytes.j4] at h, fun _ _ _ _ _ _ _ _ _ _ _ _ _ r h => by simp [hallmootlaw22_DiskTearsBytes.l2] at h, fun _ _ _ _ _ _ _ _ _ _ _ _ _ _ _ r h => by simp [hallmootlaw22_DiskTearsBytes.l3] at h⟩
  | k + 1 => by
    obtain ⟨ih0, ih1, ih2, ih3, ih4, ih5, ih6⟩ := hallmootlaw22_DiskTearsBytes.mono_l k
    refine ⟨?_, ?_, ?_, ?_, ?_, ?_, ?_⟩
    · intro y0 y1 y2 y3 y4
      unfold hallmootlaw22_DiskTearsBytes.j0
      repeat' first
      | (with_reducible exact ih0 _ _ _ _ _)
      | (with_reducible exact ih1 _ _ _ _ _ _ _ _ _ _)
      | (with_reducible exact ih2 _ _ _ _ _ _ _ _ _ _)
      | (with_reducible exact ih3 _ _ _ _ _ _ _ _ _ _ _)
      | (with_reducible exact ih4 _ _ _ _ _ _ _ _ _ _ _ _ _)
      | (with_reducible exact ih5 _ _ _ _ _ _ _ _ _ _ _ _ _)
      | (with_reducible exact ih6 _ _ _ _ _ _ _ _ _ _ _ _ _ _ _)
      | (with_reducible exact hallmootlaw22_sanity.mono _)
      | (with_reducible exact hallmootlaw22_written.mono _ _ _)
      | (with_reducible exact LeO.refl _)
      | (with_reducible exact LeO.none _)
      | (with_reducible refine LeO.ite ?_ ?_)
      | (with_reducible refine LeO.bind ?_ (fun _ => ?_))
      | exact ih0 _ _ _ _ _
      | exact ih1 _ _ _ _ _ _ _ _ _ _
      | exact ih2 _ _ _ _ _ _ _ _ _ _
      | exact ih3 _ _ _ _ _ _ _ _ _ _ _
      | exact ih4 _ _ _ _ _ _ _ _ _ _ _ _ _
      | exact ih5 _ _ _ _ _ _ _ _ _ _ _ _ _
      | exact ih6 _ _ _ _ _ _ _ _ _ _ _ _ _ _ _
      | exact hallmootlaw22_sanity.mono _
      | exact hallmootlaw22_written.mono _ _ _
      | exact LeO.none _
      | refine LeO.ite ?_ ?_
      | refine LeO.bind ?_ (fun _ => ?_)
    · intro y0 y1 y2 y3 y4 y5 y6 y7 y8 y9
      unfold hallmootlaw22_DiskTearsBytes.l0
      repeat' first
      | (with_reducible exact ih0 _ _ _ _ _)
      | (with_reducible exact ih1 _ _ _ _ _ _ _ _ _ _)
      | (with_reducible exact ih2 _ _ _ _ _ _ _ _ _ _)
      | (with_reducible exact ih3 _ _ _ _ _ _ _ _ _ _ _)
      | (with_reducible exact ih4 _ _ _ _ _ _ _ _ _ _ _ _ _)
      | (with_reducible exact ih5 _ _ _ _ _ _ _ _ _ _ _ _ _)
      | (with_reducible exact ih6 _ _ _ _ _ _ _ _ _ _ _ _ _ _ _)
      | (with_reducible exact hallmootlaw22_sanity.mono _)
      | (with_reducible exact hallmootlaw22_written.mono _ _ _)
      | (with_reducible exact LeO.refl _)
      | (with_reducible exact LeO.none _)
      | (with_reducible refine LeO.ite ?_ ?_)
      | (with_reducible refine LeO.bind ?_ (fun _ => ?_))
      | exact ih0 _ _ _ _ _
      | exact ih1 _ _ _ _ _ _ _ _ _ _
      | exact ih2 _ _ _ _ _ _ _ _ _ _
      | exact ih3 _ _ _ _ _ _ _ _ _ _ _
      | exact ih4 _ _ _ _ _ _ _ _ _ _ _ _ _
      | exact ih5 _ _ _ _ _ _ _ _ _ _ _ _ _
      | exact ih6 _ _ _ _ _ _ _ _ _ _ _ _ _ _ _
      | exact hallmootlaw22_sanity.mono _
      | exact hallmootlaw22_written.mono _ _ _
      | exact LeO.none _
      | refine LeO.ite ?_ ?_
      | refine LeO.bind ?_ (fun _ => ?_)
    · intro y0 y1 y2 y3 y4 y5 y6 y7 y8 y9
      unfold hallmootlaw22_DiskTearsBytes.l1
      repeat' first
      | (with_reducible exact ih0 _ _ _ _ _)
      | (with_reducible exact ih1 _ _ _ _ _ _ _ _ _ _)
      | (with_reducible exact ih2 _ _ _ _ _ _ _ _ _ _)
      | (with_reducible exact ih3 _ _ _ _ _ _ _ _ _ _ _)
      | (with_reducible exact ih4 _ _ _ _ _ _ _ _ _ _ _ _ _)
      | (with_reducible exact ih5 _ _ _ _ _ _ _ _ _ _ _ _ _)
      | (with_reducible exact ih6 _ _ _ _ _ _ _ _ _ _ _ _ _ _ _)
      | (with_reducible exact hallmootlaw22_sanity.mono _)
      | (with_reducible exact hallmootlaw22_written.mono _ _ _)
      | (with_reducible exact LeO.refl _)
      | (with_reducible exact LeO.none _)
      | (with_reducible refine LeO.ite ?_ ?_)
      | (with_reducible refine LeO.bind ?_ (fun _ => ?_))
      | exact ih0 _ _ _ _ _
      | exact ih1 _ _ _ _ _ _ _ _ _ _
      | exact ih2 _ _ _ _ _ _ _ _ _ _
      | exact ih3 _ _ _ _ _ _ _ _ _ _ _
      | exact ih4 _ _ _ _ _ _ _ _ _ _ _ _ _
      | exact ih5 _ _ _ _ _ _ _ _ _ _ _ _ _
      | exact ih6 _ _ _ _ _ _ _ _ _ _ _ _ _ _ _
      | exact hallmootlaw22_sanity.mono _
      | exact hallmootlaw22_written.mono _ _ _
      | exact LeO.none _
      | refine LeO.ite ?_ ?_
      | refine LeO.bind ?_ (fun _ => ?_)
    · intro y0 y1 y2 y3 y4 y5 y6 y7 y8 y9 y10
      unfold hallmootlaw22_DiskTearsBytes.j3
      repeat' first
      | (with_reducible exact ih0 _ _ _ _ _)
      | (with_reducible exact ih1 _ _ _ _ _ _ _ _ _ _)
      | (with_reducible exact ih2 _ _ _ _ _ _ _ _ _ _)
      | (with_reducible exact ih3 _ _ _ _ _ _ _ _ _ _ _)
      | (with_reducible exact ih4 _ _ _ _ _ _ _ _ _ _ _ _ _)
      | (with_reducible exact ih5 _ _ _ _ _ _ _ _ _ _ _ _ _)
      | (with_reducible exact ih6 _ _ _ _ _ _ _ _ _ _ _ _ _ _ _)
      | (with_reducible exact hallmootlaw22_sanity.mono _)
      | (with_reducible exact hallmootlaw22_written.mono _ _ _)
      | (with_reducible exact LeO.refl _)
      | (with_reducible exact LeO.none _)
      | (with_reducible refine LeO.ite ?_ ?_)
      | (with_reducible refine LeO.bind ?_ (fun _ => ?_))
      | exact ih0 _ _ _ _ _
      | exact ih1 _ _ _ _ _ _ _ _ _ _
      | exact ih2 _ _ _ _ _ _ _ _ _ _
      | exact ih3 _ _ _ _ _ _ _ _ _ _ _
      | exact ih4 _ _ _ _ _ _ _ _ _ _ _ _ _
      | exact ih5 _ _ _ _ _ _ _ _ _ _ _ _ _
      | exact ih6 _ _ _ _ _ _ _ _ _ _ _ _ _ _ _
      | exact hallmootlaw22_sanity.mono _
      | exact hallmootlaw22_written.mono _ _ _
      | exact LeO.none _
      | refine LeO.ite ?_ ?_
      | refine LeO.bind ?_ (fun _ => ?_)
    · intro y0 y1 y2 y3 y4 y5 y6 y7 y8 y9 y10 y11 y12
      unfold hallmootlaw22_DiskTearsBytes.j4
      repeat' first
      | (with_reducible exact ih0 _ _ _ _ _)
      | (with_reducible exact ih1 _ _ _ _ _ _ _ _ _ _)
      | (with_reducible exact ih2 _ _ _ _ _ _ _ _ _ _)
      | (with_reducible exact ih3 _ _ _ _ _ _ _ _ _ _ _)
      | (with_reducible exact ih4 _ _ _ _ _ _ _ _ _ _ _ _ _)
      | (with_reducible exact ih5 _ _ _ _ _ _ _ _ _ _ _ _ _)
      | (with_reducible exact ih6 _ _ _ _ _ _ _ _ _ _ _ _ _ _ _)
      | (with_reducible exact hallmootlaw22_sanity.mono _)
      | (with_reducible exact hallmootlaw22_written.mono _ _ _)
      | (with_reducible exact LeO.refl _)
      | (with_reducible exact LeO.none _)
      | (with_reducible refine LeO.ite ?_ ?_)
      | (with_reducible refine LeO.bind ?_ (fun _ => ?_))
      | exact ih0 _ _ _ _ _
      | exact ih1 _ _ _ _ _ _ _ _ _ _
      | exact ih2 _ _ _ _ _ _ _ _ _ _
      | exact ih3 _ _ _ _ _ _ _ _ _ _ _
      | exact ih4 _ _ _ _ _ _ _ _ _ _ _ _ _
      | exact ih5 _ _ _ _ _ _ _ _ _ _ _ _ _
      | exact ih6 _ _ _ _ _ _ _ _ _ _ _ _ _ _ _
      | exact hallmootlaw22_sanity.mono _
      | exact hallmootlaw22_written.mono _ _ _
      | exact LeO.none _
      | refine LeO.ite ?_ ?_
      | refine LeO.bind ?_ (fun _ => ?_)
    · intro y0 y1 y2 y3 y4 y5 y6 y7 y8 y9 y10 y11 y12
      unfold hallmootlaw22_DiskTearsBytes.l2
      repeat' first
      | (with_reducible exact ih0 _ _ _ _ _)
      | (with_reducible exact ih1 _ _ _ _ _ _ _ _ _ _)
      | (with_reducible exact ih2 _ _ _ _ _ _ _ _ _ _)
      | (with_reducible exact ih3 _ _ _ _ _ _ _ _ _ _ _)
      | (with_reducible exact ih4 _ _ _ _ _ _ _ _ _ _ _ _ _)
      | (with_reducible exact ih5 _ _ _ _ _ _ _ _ _ _ _ _ _)
      | (with_reducible exact ih6 _ _ _ _ _ _ _ _ _ _ _ _ _ _ _)
      | (with_reducible exact hallmootlaw22_sanity.mono _)
      | (with_reducible exact hallmootlaw22_written.mono _ _ _)
      | (with_reducible exact LeO.refl _)
      | (with_reducible exact LeO.none _)
      | (with_reducible refine LeO.ite ?_ ?_)
      | (with_reducible refine LeO.bind ?_ (fun _ => ?_))
      | exact ih0 _ _ _ _ _
      | exact ih1 _ _ _ _ _ _ _ _ _ _
      | exact ih2 _ _ _ _ _ _ _ _ _ _
      | exact ih3 _ _ _ _ _ _ _ _ _ _ _
      | exact ih4 _ _ _ _ _ _ _ _ _ _ _ _ _
      | exact ih5 _ _ _ _ _ _ _ _ _ _ _ _ _
      | exact ih6 _ _ _ _ _ _ _ _ _ _ _ _ _ _ _
      | exact hallmootlaw22_sanity.mono _
      | exact hallmootlaw22_written.mono _ _ _
      | exact LeO.none _
      | refine LeO.ite ?_ ?_
      | refine LeO.bind ?_ (fun _ => ?_)
    · intro y0 y1 y2 y3 y4 y5 y6 y7 y8 y9 y10 y11 y12 y13 y14
      unfold hallmootlaw22_DiskTearsBytes.l3
      repeat' first
      | (with_reducible exact ih0 _ _ _ _ _)
      | (with_reducible exact ih1 _ _ _ _ _ _ _ _ _ _)
      | (with_reducible exact ih2 _ _ _ _ _ _ _ _ _ _)
      | (with_reducible exact ih3 _ _ _ _ _ _ _ _ _ _ _)
      | (with_reducible exact ih4 _ _ _ _ _ _ _ _ _ _ _ _ _)
      | (with_reducible exact ih5 _ _ _ _ _ _ _ _ _ _ _ _ _)
      | (with_reducible exact ih6 _ _ _ _ _ _ _ _ _ _ _ _ _ _ _)
      | (with_reducible exact hallmootlaw22_sanity.mono _)
      | (with_reducible exact hallmootlaw22_written.mono _ _ _)
      | (with_reducible exact LeO.refl _)
      | (with_reducible exact LeO.none _)
      | (with_reducible refine LeO.ite ?_ ?_)
      | (with_reducible refine LeO.bind ?_ (fun _ => ?_))
      | exact ih0 _ _ _ _ _
      | exact ih1 _ _ _ _ _ _ _ _ _ _
      | exact ih2 _ _ _ _ _ _ _ _ _ _
      | exact ih3 _ _ _ _ _ _ _ _ _ _ _
      | exact ih4 _ _ _ _ _ _ _ _ _ _ _ _ _
      | exact ih5 _ _ _ _ _ _ _ _ _ _ _ _ _
      | exact ih6 _ _ _ _ _ _ _ _ _ _ _ _ _ _ _
      | exact hallmootlaw22_sanity.mono _
      | exact hallmootlaw22_written.mono _ _ _
      | exact LeO.none _
      | refine LeO.ite ?_ ?_
      | refine LeO.bind ?_ (fun _ => ?_)
theorem hallmootlaw22_DiskTearsBytes.mono : ∀ a0 a1 a2 k, LeO (hallmootlaw22_DiskTearsBytes.f k a0 a1 a2) (hallmootlaw22_DiskTearsBytes.f (k + 1) a0 a1 a2) := by
 intro a0 a1 a2 k
 obtain ⟨ih0, ih1, ih2, ih3, ih4, ih5, ih6⟩ := hallmootlaw22_DiskTearsBytes.mono_l k
 unfold hallmootlaw22_DiskTearsBytes.f
 repeat' first | (with_reducible exact ih0 _ _ _ _ _) | (with_reducible exact ih1 _ _ _ _ _ _ _ _ _ _) | (with_reducible exact ih2 _ _ _ _ _ _ _ _ _ _) | (with_reducible exact ih3 _ _ _ _ _ _ _ _ _ _ _) | (with_reducible exact ih4 _ _ _ _ _ _ _ _ _ _ _ _ _) | (with_reducible exact ih5 _ _ _ _ _ _ _ _ _ _ _ _ _) | (with_reducible exact ih6 _ _ _ _ _ _ _ _ _ _ _ _ _ _ _) | (with_reducible exact hallmootlaw22_sanity.mono _) | (with_reducible exact hallmootlaw22_written.mono _ _ _) | (with_reducible exact LeO.refl _) | (with_reducible exact LeO.none _) | (with_reducible refine LeO.ite ?_ ?_) | (with_reducible refine LeO.bind ?_ (fun _ => ?_)) | exact ih0 _ _ _ _ _ | exact ih1 _ _ _ _ _ _ _ _ _ _ | exact ih2 _ _ _ _ _ _ _ _ _ _ | exact ih3 _ _ _ _ _ _ _ _ _ _ _ | exact ih4 _ _ _ _ _ _ _ _ _ _ _ _ _ | exact ih5 _ _ _ _ _ _ _ _ _ _ _ _ _ | exact ih6 _ _ _ _ _ _ _ _ _ _ _ _ _ _ _ | exact hallmootlaw22_sanity.mono _ | exact hallmootlaw22_written.mono _ _ _ | exact LeO.none _ | refine LeO.ite ?_ ?_ | refine LeO.bind ?_ (fun _ => ?_)
set_option maxHeartbeats 8000000 in
set_option maxRecDepth 100000 in
theorem hallmootlaw22_DiskTearsBytes.calls (k : Nat) (a0 : Int) (A1 : Option Addr) (c1 : Nat) (l1 : List Int) (A2 : Option Addr) (c2 : Nat) (l2 : List Int) (r : Bool) (w : World) (hr1 : Kd.C (Kd.int .u8) w A1 l1.length l1) (hc1 : l1.length ≤ c1) (hr2 : Kd.C (Kd.int .i64) w A2 l2.length l2) (hc2 : l2.length ≤ c2) (h : hallmootlaw22_DiskTearsBytes.f k a0 l1 l2 = some r) : Calls Try.prog 6 #[.int .u8 a0, .slice A1 l1.length c1, .slice A2 l2.length c2] w fun e w' => e = .returned (.bool r) ∧ Below w.heap.size w w' := by
 have hu25 := Try.underlying25
 have HR1 := Aside0.mk hr1
 have HC1 := Aside0.mk hc1
 clear hr1 hc1
 have HR2 := Aside0.mk hr2
 have HC2 := Aside0.mk hc2
 clear hr2 hc2
 have HB := Aside0.mk (Below.refl w.heap.size w)
 have H : ((hallmootlaw22_sanity.f k).bind fun t497 => (if (l1.length : Int) > 30 then (hallmootlaw22_DiskTearsBytes.j0 k l1 l2 t497 (wrap64 (1 + (Int.tmod (wrap64 (a0)) 4))) true) else (hallmootlaw22_DiskTearsBytes.j0 k l1 l2 t497 (wrap64 (1 + (Int.tmod (wrap64 (a0)) 4))) (decide ((l2.length : Int) > 40))))) = some r := h
 clear h
 replace H := Option.bind_eq_some_iff.mp H
 obtain ⟨t497, A40, H⟩ := H
 replace H : (if (l1.length : Int) > 30 then (hallmootlaw22_DiskTearsBytes.j0 k l1 l2 t497 (wrap64 (1 + (Int.tmod (wrap64 (a0)) 4))) true) else (hallmootlaw22_DiskTearsBytes.j0 k l1 l2 t497 (wrap64 (1 + (Int.tmod (wrap64 (a0)) 4))) (decide ((l2.length : Int) > 40)))) = some r := H
 have A4 := Aside0.mk A40
 clear A40
 have HC5 := Aside0.mk H
 clear H
 go_enter Try.func6, Try.ntmps6
 go_upto_region 3 with (first | (go_at_call 7; (with_reducible refine (hallmootlaw22_sanity.calls k  t497 _ A4.out).mono ?_); rintro e w6 ⟨rfl, hb⟩; have n0_ := Aside0.mk (below_step (by repeat (first | (with_reducible first | exact HB.out | apply below_alloc | apply pw_below_drewN | apply below_drew1) | exact HB.out)) hb); clear HB; have HB := n0_; clear n0_; (try clear hb); (try clear hb2); (try clear hk); (try clear hi)))
 repeat (go_quiet (first | (go_at_call 7; (with_reducible refine (hallmootlaw22_sanity.calls k  t497 _ A4.out).mono ?_); rintro e w6 ⟨rfl, hb⟩; have n0_ := Aside0.mk (below_step (by repeat (first | (with_reducible first | exact HB.out | apply below_alloc | apply pw_below_drewN | apply below_drew1) | exact HB.out)) hb); clear HB; have HB := n0_; clear n0_; (try clear hb); (try clear hb2); (try clear hk); (try clear hi))); go_upto_region 3 with (first | (go_at_call 7; (with_reducible refine (hallmootlaw22_sanity.calls k  t497 _ A4.out).mono ?_); rintro e w6 ⟨rfl, hb⟩; have n0_ := Aside0.mk (below_step (by repeat (first | (with_reducible first | exact HB.out | apply below_alloc | apply pw_below_drewN | apply below_drew1) | exact HB.out)) hb); clear HB; have HB := n0_; clear n0_; (try clear hb); (try clear hb2); (try clear hk); (try clear hi))))
 (try simp only [Act.put, List.setIfInBounds_toArray, List.set_cons_zero, List.set_cons_succ])
 go_cut [38] (fun v38 wc => ∃ (kq : Nat) (x38_4 : Bool), v38 = .bool x38_4 ∧ Aside0 (hallmootlaw22_DiskTearsBytes.j0 kq l1 l2 t497 (wrap64 (1 + (Int.tmod (wrap64 (a0)) 4))) x38_4 = some r) ∧ Aside0 (kq ≤ k) ∧ Aside0 (Below w.heap.size w wc))
 case first =>
  have H := HC5.out
  clear HC5
  by_cases c7 : (l1.length : Int) > 30
  {
  rw [if_pos c7] at H
  have c7b0 : decide (30 < (l1.length : Int)) = true := decide_eq_true c7
  have c7b1 : decide (30 < l1.length) = true := decide_eq_true (by omega)
  clear c7
  (first | rw [c7b0] | (simp only [i64_w, i32_w]; rw [c7b0]) | skip)
  have H' := Aside0.mk H
  clear H
  go_wp2
  repeat (go_quiet (fail); try go_wp2)
  go_meet
  case rel => exact ⟨_, (true), (by first | rfl | (simp; done) | (simp [*]; done)), H', ⟨by first | omega | exact Nat.le_refl _⟩, ⟨by repeat (first | (with_reducible first | exact HB.out | apply below_alloc | apply pw_below_drewN | apply below_drew1) | exact HB.out)⟩⟩ }
  {
  rw [if_neg c7] at H
  have c7b0 : decide (30 < (l1.length : Int)) = false := decide_eq_false c7
  have c7b1 : decide (30 < l1.length) = false := decide_eq_false (by omega)
  clear c7
  (first | rw [c7b0] | (simp only [i64_w, i32_w]; rw [c7b0]) | skip)
  have H' := Aside0.mk H
  clear H
  go_wp2
  repeat (go_quiet (fail); try go_wp2)
  go_meet
  case rel => exact ⟨_, (decide ((l2.length : Int) > 40)), (by first | rfl | (simp; done) | (simp [*]; done)), H', ⟨by first | omega | exact Nat.le_refl _⟩, ⟨by repeat (first | (with_reducible first | exact HB.out | apply below_alloc | apply pw_below_drewN | apply below_drew1) | exact HB.out)⟩⟩ }
 case rest =>
  clear HC5
  try clear c1
  try clear c2
  try clear p2
  try clear c6
  try clear p6
  try clear c7
  try clear c7b0
  try clear c7b1
  obtain ⟨kq, x38_4, rfl, HA, HJ4, HB⟩ := hcut
  cases kq with
  | zero => exact absurd HA.out (by simp [hallmootlaw22_DiskTearsBytes.j0])
  | succ kj4 => {
  have H := HA.out
  clear HA
  simp only [hallmootlaw22_DiskTearsBytes.j0] at H
  by_cases c8 : x38_4 = true
  {
  subst c8
  have H1 : (some t497) = some r := by rw [if_pos rfl] at H; exact H
  clear H
  have H := H1
  clear H1
  obtain rfl := Option.some.inj H
  go_wp2
  repeat (go_quiet (fail); try go_wp2)
  go_ret
  exact ⟨by first | rfl | (simp [errW_none, errW_some] <;> rfl) | (simp [*, errW_none, errW_some] <;> rfl), by repeat (first | (with_reducible first | exact HB.out | apply below_alloc | apply pw_below_drewN | apply below_drew1) | exact HB.out)⟩ }
  {
  replace c8 := Bool.eq_false_iff.mpr c8
  subst c8
  have H1 : ((hallmootlaw22_written.f kj4 (wrap64 (1 + (Int.tmod (wrap64 (a0)) 4))) l1).bind fun bt498 => (hallmootlaw22_DiskTearsBytes.l0 kj4 l1 l2 t497 (wrap64 (1 + (Int.tmod (wrap64 (a0)) 4))) bt498.2.2.1 bt498.2.2.2 0 0 bt498.1 bt498.2.1)) = some r := by rw [if_neg (show ¬ (false = true) by decide)] at H; exact H
  clear H
  have H := H1
  clear H1
  replace H := Option.bind_eq_some_iff.mp H
  obtain ⟨⟨t498, t501, t504, t507⟩, A90, H⟩ := H
  replace H : (hallmootlaw22_DiskTearsBytes.l0 kj4 l1 l2 t497 (wrap64 (1 + (Int.tmod (wrap64 (a0)) 4))) t504 t507 0 0 t498 t501) = some r := H
  have A9 := Aside0.mk A90
  clear A90
  have H' := Aside0.mk H
  clear H
  go_wp2_with (first | (go_at_call 23; (with_reducible refine (hallmootlaw22_written.calls kj4 (wrap64 (1 + (Int.tmod (wrap64 (a0)) 4))) _ _ l1 t498 t501 t504 t507 _ ?side1 ?side2 A9.out).mono ?_); (case side1 => repeat (first | exact (Kd.C_below HR1.out HB.out) | (with_reducible refine Kd.C_alloc ?_ _) | (with_reducible refine Kd.C_drewN ?_ _) | (with_reducible refine Kd.C_drew ?_))); (case side2 => exact HC1.out); rintro e w10 ⟨v499, v502, v505, rfl, ho0, ho1, ho2, hb⟩; have n0_ := Aside0.mk (Kd.V_lower (Kd.V_mono (ok' := fun k_ => some k_ ≠ (v505 : Value).ownBlock) ho0 (fun k_ hk_ => hk_.2)) (below_size (by repeat (first | (with_reducible first | exact HB.out | apply below_alloc | apply pw_below_drewN | apply below_drew1) | exact HB.out)))); have n1_ := Aside0.mk (Kd.V_lower (Kd.V_mono (ok' := fun k_ => some k_ ≠ (v505 : Value).ownBlock) ho1 (fun k_ hk_ => hk_.2)) (below_size (by repeat (first | (with_reducible first | exact HB.out | apply below_alloc | apply pw_below_drewN | apply below_drew1) | exact HB.out)))); have n2_ := Aside0.mk (Kd.R_lower (Kd.R_mono (ok' := fun k_ => True) ho2 (fun _ hk_ => trivial)) (below_size (by repeat (first | (with_reducible first | exact HB.out | apply below_alloc | apply pw_below_drewN | apply below_drew1) | exact HB.out)))); have n3_ := Aside0.mk (below_step (by repeat (first | (with_reducible first | exact HB.out | apply below_alloc | apply pw_below_drewN | apply below_drew1) | exact HB.out)) hb); clear HB; have HO500 := n0_; have HO503 := n1_; have HO506 := n2_; have HB := n3_; clear n0_ n1_ n2_ n3_; (try clear hb); (try clear hb2); (try clear hk); (try clear hi); (try clear ho0); (try clear ho1); (try clear ho2)) | ((with_reducible refine gate_dst (N := 9) rfl ?_); (try (refine gate_guard (by rfl) ?_; dsimp only)); refine box_event ?hg (N := 9) ?hd (cs := #[.slice none 0 0, .slice none 0 0]) (t := 25) ?hr ?_; (case hd => rfl); (case hg => rfl); (case hr => first | (go_simp; done) | (go_simp; rfl)); intro gb508 hg w11 hbox hb; have n0_ := Aside0.mk (Kd.V_below (Kd.V_elderB (by (with_reducible repeat (first | apply Kd.V_alloc | apply Kd.V_drewN | apply Kd.V_drew)); exact HO500.out) gb508 (Nat.le_of_eq hg.symm)) hb); have n1_ := Aside0.mk (Kd.V_below (Kd.V_elderB (by (with_reducible repeat (first | apply Kd.V_alloc | apply Kd.V_drewN | apply Kd.V_drew)); exact HO503.out) gb508 (Nat.le_of_eq hg.symm)) hb); have n2_ := Aside0.mk (Kd.R_below (by (with_reducible repeat (first | apply Kd.R_alloc | apply Kd.R_drewN | apply Kd.R_drew)); exact HO506.out) hb); have n3_ := Aside0.mk (below_step (by repeat (first | (with_reducible first | exact HB.out | apply below_alloc | apply pw_below_drewN | apply below_drew1) | exact HB.out)) hb); have n4_ := Aside0.mk (hbox); have n5_ := Aside0.mk ((by rw [hg]; exact (below_size (by repeat (first | (with_reducible first | exact HB.out | apply below_alloc | apply pw_below_drewN | apply below_drew1) | exact HB.out))) : w.heap.size ≤ gb508)); have n6_ := Aside0.mk ((by rw [hg]; exact (below_size (by repeat (first | (with_reducible first | exact HB.out | apply below_alloc | apply pw_below_drewN | apply below_drew1) | exact HB.out))) : w.heap.size ≤ gb508)); clear HO500; clear HO503; clear HO506; clear HB; have HO500 := n0_; have HO503 := n1_; have HO506 := n2_; have HB := n3_; have BK508 := n4_; have GW508 := n5_; have GE508 := n6_; clear n0_ n1_ n2_ n3_ n4_ n5_ n6_; clear hb hbox hg; obtain ⟨Ao12, co12, eo12⟩ := Kd.V_slice HO500.out; subst eo12; have hcz13_0 : w11.cell? ⟨gb508, 0, none⟩ = some (.slice none 0 0) := (blk_cell BK508.out 0).trans rfl; have hcz13_1 : w11.cell? ⟨gb508, 1, none⟩ = some (.slice none 0 0) := (blk_cell BK508.out 1).trans rfl; have hfz13_0 := blk_frozen BK508.out 0; have hfz13_1 := blk_frozen BK508.out 1; obtain ⟨Ao14, co14, eo14⟩ := Kd.V_slice HO503.out; subst eo14))
  repeat (go_quiet (first | (go_at_call 23; (with_reducible refine (hallmootlaw22_written.calls kj4 (wrap64 (1 + (Int.tmod (wrap64 (a0)) 4))) _ _ l1 t498 t501 t504 t507 _ ?side1 ?side2 A9.out).mono ?_); (case side1 => repeat (first | exact (Kd.C_below HR1.out HB.out) | (with_reducible refine Kd.C_alloc ?_ _) | (with_reducible refine Kd.C_drewN ?_ _) | (with_reducible refine Kd.C_drew ?_))); (case side2 => exact HC1.out); rintro e w10 ⟨v499, v502, v505, rfl, ho0, ho1, ho2, hb⟩; have n0_ := Aside0.mk (Kd.V_lower (Kd.V_mono (ok' := fun k_ => some k_ ≠ (v505 : Value).ownBlock) ho0 (fun k_ hk_ => hk_.2)) (below_size (by repeat (first | (with_reducible first | exact HB.out | apply below_alloc | apply pw_below_drewN | apply below_drew1) | exact HB.out)))); have n1_ := Aside0.mk (Kd.V_lower (Kd.V_mono (ok' := fun k_ => some k_ ≠ (v505 : Value).ownBlock) ho1 (fun k_ hk_ => hk_.2)) (below_size (by repeat (first | (with_reducible first | exact HB.out | apply below_alloc | apply pw_below_drewN | apply below_drew1) | exact HB.out)))); have n2_ := Aside0.mk (Kd.R_lower (Kd.R_mono (ok' := fun k_ => True) ho2 (fun _ hk_ => trivial)) (below_size (by repeat (first | (with_reducible first | exact HB.out | apply below_alloc | apply pw_below_drewN | apply below_drew1) | exact HB.out)))); have n3_ := Aside0.mk (below_step (by repeat (first | (with_reducible first | exact HB.out | apply below_alloc | apply pw_below_drewN | apply below_drew1) | exact HB.out)) hb); clear HB; have HO500 := n0_; have HO503 := n1_; have HO506 := n2_; have HB := n3_; clear n0_ n1_ n2_ n3_; (try clear hb); (try clear hb2); (try clear hk); (try clear hi); (try clear ho0); (try clear ho1); (try clear ho2)) | ((with_reducible refine gate_dst (N := 9) rfl ?_); (try (refine gate_guard (by rfl) ?_; dsimp only)); refine box_event ?hg (N := 9) ?hd (cs := #[.slice none 0 0, .slice none 0 0]) (t := 25) ?hr ?_; (case hd => rfl); (case hg => rfl); (case hr => first | (go_simp; done) | (go_simp; rfl)); intro gb508 hg w11 hbox hb; have n0_ := Aside0.mk (Kd.V_below (Kd.V_elderB (by (with_reducible repeat (first | apply Kd.V_alloc | apply Kd.V_drewN | apply Kd.V_drew)); exact HO500.out) gb508 (Nat.le_of_eq hg.symm)) hb); have n1_ := Aside0.mk (Kd.V_below (Kd.V_elderB (by (with_reducible repeat (first | apply Kd.V_alloc | apply Kd.V_drewN | apply Kd.V_drew)); exact HO503.out) gb508 (Nat.le_of_eq hg.symm)) hb); have n2_ := Aside0.mk (Kd.R_below (by (with_reducible repeat (first | apply Kd.R_alloc | apply Kd.R_drewN | apply Kd.R_drew)); exact HO506.out) hb); have n3_ := Aside0.mk (below_step (by repeat (first | (with_reducible first | exact HB.out | apply below_alloc | apply pw_below_drewN | apply below_drew1) | exact HB.out)) hb); have n4_ := Aside0.mk (hbox); have n5_ := Aside0.mk ((by rw [hg]; exact (below_size (by repeat (first | (with_reducible first | exact HB.out | apply below_alloc | apply pw_below_drewN | apply below_drew1) | exact HB.out))) : w.heap.size ≤ gb508)); have n6_ := Aside0.mk ((by rw [hg]; exact (below_size (by repeat (first | (with_reducible first | exact HB.out | apply below_alloc | apply pw_below_drewN | apply below_drew1) | exact HB.out))) : w.heap.size ≤ gb508)); clear HO500; clear HO503; clear HO506; clear HB; have HO500 := n0_; have HO503 := n1_; have HO506 := n2_; have HB := n3_; have BK508 := n4_; have GW508 := n5_; have GE508 := n6_; clear n0_ n1_ n2_ n3_ n4_ n5_ n6_; clear hb hbox hg; obtain ⟨Ao12, co12, eo12⟩ := Kd.V_slice HO500.out; subst eo12; have hcz13_0 : w11.cell? ⟨gb508, 0, none⟩ = some (.slice none 0 0) := (blk_cell BK508.out 0).trans rfl; have hcz13_1 : w11.cell? ⟨gb508, 1, none⟩ = some (.slice none 0 0) := (blk_cell BK508.out 1).trans rfl; have hfz13_0 := blk_frozen BK508.out 0; have hfz13_1 := blk_frozen BK508.out 1; obtain ⟨Ao14, co14, eo14⟩ := Kd.V_slice HO503.out; subst eo14)); try go_wp2_with (first | (go_at_call 23; (with_reducible refine (hallmootlaw22_written.calls kj4 (wrap64 (1 + (Int.tmod (wrap64 (a0)) 4))) _ _ l1 t498 t501 t504 t507 _ ?side1 ?side2 A9.out).mono ?_); (case side1 => repeat (first | exact (Kd.C_below HR1.out HB.out) | (with_reducible refine Kd.C_alloc ?_ _) | (with_reducible refine Kd.C_drewN ?_ _) | (with_reducible refine Kd.C_drew ?_))); (case side2 => exact HC1.out); rintro e w10 ⟨v499, v502, v505, rfl, ho0, ho1, ho2, hb⟩; have n0_ := Aside0.mk (Kd.V_lower (Kd.V_mono (ok' := fun k_ => some k_ ≠ (v505 : Value).ownBlock) ho0 (fun k_ hk_ => hk_.2)) (below_size (by repeat (first | (with_reducible first | exact HB.out | apply below_alloc | apply pw_below_drewN | apply below_drew1) | exact HB.out)))); have n1_ := Aside0.mk (Kd.V_lower (Kd.V_mono (ok' := fun k_ => some k_ ≠ (v505 : Value).ownBlock) ho1 (fun k_ hk_ => hk_.2)) (below_size (by repeat (first | (with_reducible first | exact HB.out | apply below_alloc | apply pw_below_drewN | apply below_drew1) | exact HB.out)))); have n2_ := Aside0.mk (Kd.R_lower (Kd.R_mono (ok' := fun k_ => True) ho2 (fun _ hk_ => trivial)) (below_size (by repeat (first | (with_reducible first | exact HB.out | apply below_alloc | apply pw_below_drewN | apply below_drew1) | exact HB.out)))); have n3_ := Aside0.mk (below_step (by repeat (first | (with_reducible first | exact HB.out | apply below_alloc | apply pw_below_drewN | apply below_drew1) | exact HB.out)) hb); clear HB; have HO500 := n0_; have HO503 := n1_; have HO506 := n2_; have HB := n3_; clear n0_ n1_ n2_ n3_; (try clear hb); (try clear hb2); (try clear hk); (try clear hi); (try clear ho0); (try clear ho1); (try clear ho2)) | ((with_reducible refine gate_dst (N := 9) rfl ?_); (try (refine gate_guard (by rfl) ?_; dsimp only)); refine box_event ?hg (N := 9) ?hd (cs := #[.slice none 0 0, .slice none 0 0]) (t := 25) ?hr ?_; (case hd => rfl); (case hg => rfl); (case hr => first | (go_simp; done) | (go_simp; rfl)); intro gb508 hg w11 hbox hb; have n0_ := Aside0.mk (Kd.V_below (Kd.V_elderB (by (with_reducible repeat (first | apply Kd.V_alloc | apply Kd.V_drewN | apply Kd.V_drew)); exact HO500.out) gb508 (Nat.le_of_eq hg.symm)) hb); have n1_ := Aside0.mk (Kd.V_below (Kd.V_elderB (by (with_reducible repeat (first | apply Kd.V_alloc | apply Kd.V_drewN | apply Kd.V_drew)); exact HO503.out) gb508 (Nat.le_of_eq hg.symm)) hb); have n2_ := Aside0.mk (Kd.R_below (by (with_reducible repeat (first | apply Kd.R_alloc | apply Kd.R_drewN | apply Kd.R_drew)); exact HO506.out) hb); have n3_ := Aside0.mk (below_step (by repeat (first | (with_reducible first | exact HB.out | apply below_alloc | apply pw_below_drewN | apply below_drew1) | exact HB.out)) hb); have n4_ := Aside0.mk (hbox); have n5_ := Aside0.mk ((by rw [hg]; exact (below_size (by repeat (first | (with_reducible first | exact HB.out | apply below_alloc | apply pw_below_drewN | apply below_drew1) | exact HB.out))) : w.heap.size ≤ gb508)); have n6_ := Aside0.mk ((by rw [hg]; exact (below_size (by repeat (first | (with_reducible first | exact HB.out | apply below_alloc | apply pw_below_drewN | apply below_drew1) | exact HB.out))) : w.heap.size ≤ gb508)); clear HO500; clear HO503; clear HO506; clear HB; have HO500 := n0_; have HO503 := n1_; have HO506 := n2_; have HB := n3_; have BK508 := n4_; have GW508 := n5_; have GE508 := n6_; clear n0_ n1_ n2_ n3_ n4_ n5_ n6_; clear hb hbox hg; obtain ⟨Ao12, co12, eo12⟩ := Kd.V_slice HO500.out; subst eo12; have hcz13_0 : w11.cell? ⟨gb508, 0, none⟩ = some (.slice none 0 0) := (blk_cell BK508.out 0).trans rfl; have hcz13_1 : w11.cell? ⟨gb508, 1, none⟩ = some (.slice none 0 0) := (blk_cell BK508.out 1).trans rfl; have hfz13_0 := blk_frozen BK508.out 0; have hfz13_1 := blk_frozen BK508.out 1; obtain ⟨Ao14, co14, eo14⟩ := Kd.V_slice HO503.out; subst eo14)))
  go_loopg [12, 13] kj4 (fun kq v12 v13 w' => ∃ (x12_2 : Int) (x13_2 : Int), v12 = .int .i64 x12_2 ∧ v13 = .int .i64 x13_2 ∧ Aside0 (hallmootlaw22_DiskTearsBytes.l0 kq l1 l2 t497 (wrap64 (1 + (Int.tmod (wrap64 (a0)) 4))) t504 t507 x12_2 x13_2 t498 t501 = some r) ∧ Aside0 (kq ≤ kj4) ∧ Aside0 (Kd.R k46 46 w' w.heap.size (fun _ => True) v505 t504) ∧ Aside0 (Kd.V Kd.string 9 w' w.heap.size (fun k_ => some k_ ≠ (v505 : Value).ownBlock ∧ k_ ≠ gb508) (.slice Ao12 t498.length co12) t498) ∧ Aside0 (Kd.V k46 46 w' w.heap.size (fun k_ => some k_ ≠ (v505 : Value).ownBlock ∧ k_ ≠ gb508) (.slice Ao14 t501.length co14) t501) ∧ Aside0 (w'.heap[gb508]? = some (.cells #[(.slice Ao12 t498.length co12), (.slice Ao14 t501.length co14)] 25 (0, 0))) ∧ Aside0 (Below w.heap.size w w'))
  case atStart => exact ⟨(0), (0), (by first | rfl | (simp; done) | (simp [*]; done)), (by first | rfl | (simp; done) | (simp [*]; done)), H', ⟨Nat.le_refl _⟩, ⟨by (with_reducible repeat (first | apply Kd.R_alloc | apply Kd.R_drewN | apply Kd.R_drew)); exact Kd.R_mono (Kd.R_far (p := ⟨gb508, 1, none⟩) (Kd.R_far (p := ⟨gb508, 0, none⟩) (Kd.R_types HO506.out BK508.out (by decide)) (fun _ hk => hk.2) (.slice Ao12 t498.length co12)) (fun _ hk => hk.2) (.slice Ao14 t501.length co14)) (fun _ hk => trivial)⟩, ⟨by (with_reducible repeat (first | apply Kd.V_alloc | apply Kd.V_drewN | apply Kd.V_drew)); exact Kd.V_mono (Kd.V_far (p := ⟨gb508, 1, none⟩) (Kd.V_far (p := ⟨gb508, 0, none⟩) (Kd.V_mono HO500.out (fun k_ hk => (⟨hk, hk.2⟩ : _ ∧ k_ ≠ gb508))) (fun _ hk => hk.2) (.slice Ao12 t498.length co12)) (fun _ hk => hk.2) (.slice Ao14 t501.length co14)) (fun _ hk => ⟨hk.1.1, hk.1.2⟩)⟩, ⟨by (with_reducible repeat (first | apply Kd.V_alloc | apply Kd.V_drewN | apply Kd.V_drew)); exact Kd.V_mono (Kd.V_far (p := ⟨gb508, 1, none⟩) (Kd.V_far (p := ⟨gb508, 0, none⟩) (Kd.V_mono HO503.out (fun k_ hk => (⟨hk, hk.2⟩ : _ ∧ k_ ≠ gb508))) (fun _ hk => hk.2) (.slice Ao12 t498.length co12)) (fun _ hk => hk.2) (.slice Ao14 t501.length co14)) (fun _ hk => ⟨hk.1.1, hk.1.2⟩)⟩, ⟨by (with_reducible repeat (first | refine blk_drewN ?_ _ | refine blk_drew ?_ | refine blk_alloc ?_ _)); refine blk_put (cs := #[.slice Ao12 t498.length co12, .slice none 0 0]) ?_ 1 _ rfl; (with_reducible repeat (first | refine blk_drewN ?_ _ | refine blk_drew ?_ | refine blk_alloc ?_ _)); refine blk_put (cs := #[.slice none 0 0, .slice none 0 0]) ?_ 0 _ rfl; (with_reducible repeat (first | refine blk_drewN ?_ _ | refine blk_drew ?_ | refine blk_alloc ?_ _)); exact BK508.out⟩, ⟨by repeat (first | (with_reducible first | exact HB.out | apply below_alloc | apply pw_below_drewN | apply below_drew1 | refine below_set ?_ GE508.out) | exact HB.out)⟩⟩
  case round =>
   clear H'
   try clear c1
   try clear c2
   try clear p2
   try clear c6
   try clear p6
   try clear c7
   try clear c7b0
   try clear c7b1
   try clear c8
   try clear hcz13_0
   try clear hcz13_1
   try clear hfz13_0
   try clear hfz13_1
   try clear p2
   try clear p6
   obtain ⟨x12_2, x13_2, rfl, rfl, HA, HK2, HO_10, HO_509000, HO_509001, BK508, HB⟩ := hrel
   cases gk with
   | zero => exact absurd HA.out (by simp [hallmootlaw22_DiskTearsBytes.l0])
   | succ k2 => {
   have H := HA.out
   clear HA
   simp only [hallmootlaw22_DiskTearsBytes.l0] at H
   by_cases c15 : x13_2 < (l1.length : Int)
   {
   rw [if_pos c15] at H
   have c15b0 : decide (x13_2 < (l1.length : Int)) = true := decide_eq_true c15
   clear c15
   by_cases c16 : 0 ≤ x13_2
   {
   rw [if_pos c16] at H
   have c16b0 : decide (0 ≤ x13_2) = true := decide_eq_true c16
   clear c16
   by_cases c17 : (rd l1 x13_2) = 255
   {
   rw [if_pos c17] at H
   have c17b0 : ((rd l1 x13_2) == 255) = true := beq_iff_eq.mpr c17
   have c17b1 : ((rd l1 x13_2) != 255) = false := bne_eq_false_iff_eq.mpr c17
   clear c17
   have H' := Aside0.mk H
   clear H
   have p509 : 0 ≤ (x13_2 : Int) := of_decide_eq_true (by first | (with_reducible assumption) | assumption)
   have q509 : x13_2 < (l1.length : Int) := of_decide_eq_true (by first | (with_reducible assumption) | assumption)
   obtain ⟨ad509, e509, hx509_0⟩ := Kd.at_int HR1.out x13_2 p509 q509
   cases e509
   replace hx509_0 := (HB.out.cell (World.block_lt_of_cell? w _ hx509_0)).trans hx509_0
   replace p509 := eq_true p509
   replace q509 := eq_true q509
   go_wp2
   repeat (go_quiet (fail); try go_wp2)
   go_roundg k2
   case measure => have := HJ4.out; have := HK2.out; omega
   case rel => exact ⟨(wrap64 (x13_2 + 1)), (wrap64 (x13_2 + 1)), (by first | rfl | (simp; done) | (simp [*]; done)), (by first | rfl | (simp; done) | (simp [*]; done)), H', ⟨by have := HJ4.out; have := HK2.out; omega⟩, ⟨by (with_reducible repeat (first | apply Kd.R_alloc | apply Kd.R_drewN | apply Kd.R_drew)); exact HO_10.out⟩, ⟨by (with_reducible repeat (first | apply Kd.V_alloc | apply Kd.V_drewN | apply Kd.V_drew)); exact HO_509000.out⟩, ⟨by (with_reducible repeat (first | apply Kd.V_alloc | apply Kd.V_drewN | apply Kd.V_drew)); exact HO_509001.out⟩, ⟨by (with_reducible repeat (first | refine blk_drewN ?_ _ | refine blk_drew ?_ | refine blk_alloc ?_ _)); exact BK508.out⟩, ⟨by repeat (first | (with_reducible first | exact HB.out | apply below_alloc | apply pw_below_drewN | apply below_drew1 | refine below_set ?_ GE508.out) | exact HB.out)⟩⟩ }
   {
   rw [if_neg c17] at H
   have c17b0 : ((rd l1 x13_2) == 255) = false := beq_eq_false_iff_ne.mpr c17
   have c17b1 : ((rd l1 x13_2) != 255) = true := bne_iff_ne.mpr c17
   have H' := Aside0.mk H
   clear H
   have p509 : 0 ≤ (x13_2 : Int) := of_decide_eq_true (by first | (with_reducible assumption) | assumption)
   have q509 : x13_2 < (l1.length : Int) := of_decide_eq_true (by first | (with_reducible assumption) | assumption)
   obtain ⟨ad509, e509, hx509_0⟩ := Kd.at_int HR1.out x13_2 p509 q509
   cases e509
   replace hx509_0 := (HB.out.cell (World.block_lt_of_cell? w _ hx509_0)).trans hx509_0
   replace p509 := eq_true p509
   replace q509 := eq_true q509
   go_wp2
   repeat (go_quiet (fail); try go_wp2)
   go_roundg k2
   case measure => have := HJ4.out; have := HK2.out; omega
   case rel => exact ⟨(x12_2), (wrap64 (x13_2 + 1)), (by first | rfl | (simp; done) | (simp [*]; done)), (by first | rfl | (simp; done) | (simp [*]; done)), H', ⟨by have := HJ4.out; have := HK2.out; omega⟩, ⟨by (with_reducible repeat (first | apply Kd.R_alloc | apply Kd.R_drewN | apply Kd.R_drew)); exact HO_10.out⟩, ⟨by (with_reducible repeat (first | apply Kd.V_alloc | apply Kd.V_drewN | apply Kd.V_drew)); exact HO_509000.out⟩, ⟨by (with_reducible repeat (first | apply Kd.V_alloc | apply Kd.V_drewN | apply Kd.V_drew)); exact HO_509001.out⟩, ⟨by (with_reducible repeat (first | refine blk_drewN ?_ _ | refine blk_drew ?_ | refine blk_alloc ?_ _)); exact BK508.out⟩, ⟨by repeat (first | (with_reducible first | exact HB.out | apply below_alloc | apply pw_below_drewN | apply below_drew1 | refine below_set ?_ GE508.out) | exact HB.out)⟩⟩ } }
   {
   rw [if_neg c16] at H
   exact absurd H (by simp) } }
   {
   rw [if_neg c15] at H
   have c15b0 : decide (x13_2 < (l1.length : Int)) = false := decide_eq_false c15
   clear c15
   by_cases c18 : 0 ≤ x12_2
   {
   rw [if_pos c18] at H
   have c18b0 := eq_true c18
   have c18b1 : decide (0 ≤ x12_2) = true := decide_eq_true c18
   clear c18
   by_cases c19 : x12_2 ≤ (l1.length : Int)
   {
   rw [if_pos c19] at H
   have c19b0 := eq_true c19
   have c19b1 : decide (x12_2 ≤ (l1.length : Int)) = true := decide_eq_true c19
   clear c19
   replace H := Option.bind_eq_some_iff.mp H
   obtain ⟨⟨t511, t514, t517, t520⟩, A200, H⟩ := H
   replace H : ((dCrash.f t498 t501 l2).bind fun bt522 => (hallmootlaw22_DiskTearsBytes.l1 k2 t497 (wrap64 (1 + (Int.tmod (wrap64 (a0)) 4))) t504 t507 t517 0 t511 t514 bt522.1 bt522.2)) = some r := H
   have A20 := Aside0.mk A200
   clear A200
   replace H := Option.bind_eq_some_iff.mp H
   obtain ⟨⟨t522, t525⟩, A210, H⟩ := H
   replace H : (hallmootlaw22_DiskTearsBytes.l1 k2 t497 (wrap64 (1 + (Int.tmod (wrap64 (a0)) 4))) t504 t507 t517 0 t511 t514 t522 t525) = some r := H
   have A21 := Aside0.mk A210
   clear A210
   have H' := Aside0.mk H
   clear H
   obtain ⟨i022, hi022, _, hsz22, _⟩ := info_parts info5
   obtain ⟨hcut22, hA22, hC22⟩ := print_take_of (P := Try.prog) (Value.int .u8) 0 41 5 .i64 Try.underlying41 hi022 hsz22 A1 c1 l1 x12_2 (of_decide_eq_true (by first | (with_reducible assumption) | assumption)) (of_decide_eq_true (by first | (with_reducible assumption) | assumption)) HC1.out
   have HR510 := Aside0.mk (Kd.C_of_reads (h1 := fun _ => rfl) (hA22 _ (Kd.reads_of_C HR1.out)))
   have HC510 := Aside0.mk hC22
   clear hA22 hC22 hi022 hsz22
   go_wp2_with (first | (go_at_call 23; refine calls_of_args (args' := #[.int .i64 (wrap64 (1 + (Int.tmod (wrap64 (a0)) 4))), .slice A1 (l1.take (x12_2 : Int).toNat).length c1]) (by rw [List.length_take, Nat.min_eq_left (by have h19 := of_decide_eq_true (show decide (x12_2 ≤ (l1.length : Int)) = true by assumption); omega)]) ?_; (with_reducible refine (hallmootlaw22_written.calls k2 (wrap64 (1 + (Int.tmod (wrap64 (a0)) 4))) _ _ (l1.take (x12_2 : Int).toNat) t511 t514 t517 t520 _ ?side1 ?side2 A20.out).mono ?_); (case side1 => repeat (first | exact (Kd.C_below HR510.out HB.out) | (with_reducible refine Kd.C_alloc ?_ _) | (with_reducible refine Kd.C_drewN ?_ _) | (with_reducible refine Kd.C_drew ?_))); (case side2 => exact HC510.out); rintro e w23 ⟨v512, v515, v518, rfl, ho0, ho1, ho2, hb⟩; have n0_ := Aside0.mk (Kd.R_elder' (by (with_reducible repeat (first | apply Kd.R_alloc | apply Kd.R_drewN | apply Kd.R_drew)); exact HO_10.out) (Kd.R_base ho2) hb); have n1_ := Aside0.mk (Kd.V_elder' (by (with_reducible repeat (first | apply Kd.V_alloc | apply Kd.V_drewN | apply Kd.V_drew)); exact HO_509000.out) (Kd.R_base ho2) hb); have n2_ := Aside0.mk (Kd.V_elder' (by (with_reducible repeat (first | apply Kd.V_alloc | apply Kd.V_drewN | apply Kd.V_drew)); exact HO_509001.out) (Kd.R_base ho2) hb); have n3_ := Aside0.mk (Kd.V_lower (Kd.V_mono (ok' := fun k_ => some k_ ≠ (v518 : Value).ownBlock ∧ some k_ ≠ (v505 : Value).ownBlock ∧ k_ ≠ gb508) ho0 (fun k_ hk_ => ⟨hk_.2, (Kd.fresh' (Kd.R_lt (by (with_reducible repeat (first | apply Kd.R_alloc | apply Kd.R_drewN | apply Kd.R_drew)); exact HO_10.out)) k_ hk_.1), (Kd.freshB (g := gb508) (o := .cells #[.slice Ao12 t498.length co12, .slice Ao14 t501.length co14] 25 (0, 0)) (by (with_reducible repeat (first | refine blk_drewN ?_ _ | refine blk_drew ?_ | refine blk_alloc ?_ _)); exact BK508.out) k_ hk_.1)⟩)) (below_size (by repeat (first | (with_reducible first | exact HB.out | apply below_alloc | apply pw_below_drewN | apply below_drew1 | refine below_set ?_ GE508.out) | exact HB.out)))); have n4_ := Aside0.mk (Kd.V_lower (Kd.V_mono (ok' := fun k_ => some k_ ≠ (v518 : Value).ownBlock ∧ some k_ ≠ (v505 : Value).ownBlock ∧ k_ ≠ gb508) ho1 (fun k_ hk_ => ⟨hk_.2, (Kd.fresh' (Kd.R_lt (by (with_reducible repeat (first | apply Kd.R_alloc | apply Kd.R_drewN | apply Kd.R_drew)); exact HO_10.out)) k_ hk_.1), (Kd.freshB (g := gb508) (o := .cells #[.slice Ao12 t498.length co12, .slice Ao14 t501.length co14] 25 (0, 0)) (by (with_reducible repeat (first | refine blk_drewN ?_ _ | refine blk_drew ?_ | refine blk_alloc ?_ _)); exact BK508.out) k_ hk_.1)⟩)) (below_size (by repeat (first | (with_reducible first | exact HB.out | apply below_alloc | apply pw_below_drewN | apply below_drew1 | refine below_set ?_ GE508.out) | exact HB.out)))); have n5_ := Aside0.mk (Kd.R_lower (Kd.R_new' (Kd.R_mono (ok' := fun k_ => True) ho2 (fun _ hk_ => trivial)) (Kd.R_lt (by (with_reducible repeat (first | apply Kd.R_alloc | apply Kd.R_drewN | apply Kd.R_drew)); exact HO_10.out))) (below_size (by repeat (first | (with_reducible first | exact HB.out | apply below_alloc | apply pw_below_drewN | apply below_drew1 | refine below_set ?_ GE508.out) | exact HB.out)))); have n6_ := Aside0.mk (blk_below (g := gb508) (o := .cells #[.slice Ao12 t498.length co12, .slice Ao14 t501.length co14] 25 (0, 0)) (by (with_reducible repeat (first | refine blk_drewN ?_ _ | refine blk_drew ?_ | refine blk_alloc ?_ _)); exact BK508.out) hb); have n7_ := Aside0.mk (below_step (by repeat (first | (with_reducible first | exact HB.out | apply below_alloc | apply pw_below_drewN | apply below_drew1 | refine below_set ?_ GE508.out) | exact HB.out)) hb); clear HO_10; clear HO_509000; clear HO_509001; clear BK508; clear HB; have HO_10 := n0_; have HO_509000 := n1_; have HO_509001 := n2_; have HO513 := n3_; have HO516 := n4_; have HO519 := n5_; have BK508 := n6_; have HB := n7_; clear n0_ n1_ n2_ n3_ n4_ n5_ n6_ n7_; (try clear hb); (try clear hb2); (try clear hk); (try clear hi); (try clear ho0); (try clear ho1); (try clear ho2)) | ((with_reducible refine gate_dst (N := 14) rfl ?_); (try (refine gate_guard (by rfl) ?_; dsimp only)); refine box_event ?hg (N := 14) ?hd (cs := #[.slice none 0 0, .slice none 0 0]) (t := 25) ?hr ?_; (case hd => rfl); (case hg => rfl); (case hr => first | (go_simp; done) | (go_simp; rfl)); intro gb521 hg w24 hbox hb; have n0_ := Aside0.mk (Kd.R_below (by (with_reducible repeat (first | apply Kd.R_alloc | apply Kd.R_drewN | apply Kd.R_drew)); exact HO_10.out) hb); have n1_ := Aside0.mk (Kd.V_below (Kd.V_elderB (by (with_reducible repeat (first | apply Kd.V_alloc | apply Kd.V_drewN | apply Kd.V_drew)); exact HO_509000.out) gb521 (Nat.le_of_eq hg.symm)) hb); have n2_ := Aside0.mk (Kd.V_below (Kd.V_elderB (by (with_reducible repeat (first | apply Kd.V_alloc | apply Kd.V_drewN | apply Kd.V_drew)); exact HO_509001.out) gb521 (Nat.le_of_eq hg.symm)) hb); have n3_ := Aside0.mk (Kd.V_below (Kd.V_elderB (by (with_reducible repeat (first | apply Kd.V_alloc | apply Kd.V_drewN | apply Kd.V_drew)); exact HO513.out) gb521 (Nat.le_of_eq hg.symm)) hb); have n4_ := Aside0.mk (Kd.V_below (Kd.V_elderB (by (with_reducible repeat (first | apply Kd.V_alloc | apply Kd.V_drewN | apply Kd.V_drew)); exact HO516.out) gb521 (Nat.le_of_eq hg.symm)) hb); have n5_ := Aside0.mk (Kd.R_below (by (with_reducible repeat (first | apply Kd.R_alloc | apply Kd.R_drewN | apply Kd.R_drew)); exact HO519.out) hb); have n6_ := Aside0.mk (blk_below (g := gb508) (o := .cells #[.slice Ao12 t498.length co12, .slice Ao14 t501.length co14] 25 (0, 0)) (by (with_reducible repeat (first | refine blk_drewN ?_ _ | refine blk_drew ?_ | refine blk_alloc ?_ _)); exact BK508.out) hb); have n7_ := Aside0.mk (below_step (by repeat (first | (with_reducible first | exact HB.out | apply below_alloc | apply pw_below_drewN | apply below_drew1 | refine below_set ?_ GE508.out) | exact HB.out)) hb); have n8_ := Aside0.mk (hbox); have n9_ := Aside0.mk ((by rw [hg]; exact (below_size (by repeat (first | (with_reducible first | exact HB.out | apply below_alloc | apply pw_below_drewN | apply below_drew1 | refine below_set ?_ GE508.out) | exact HB.out))) : w.heap.size ≤ gb521)); have n10_ := Aside0.mk ((by rw [hg]; exact (below_size (by repeat (first | (with_reducible first | exact HB.out | apply below_alloc | apply pw_below_drewN | apply below_drew1 | refine below_set ?_ GE508.out) | exact HB.out))) : w.heap.size ≤ gb521)); have n11_ := Aside0.mk ((by rw [hg]; exact Nat.ne_of_lt (blk_lt (g := gb508) (o := .cells #[.slice Ao12 t498.length co12, .slice Ao14 t501.length co14] 25 (0, 0)) (by (with_reducible repeat (first | refine blk_drewN ?_ _ | refine blk_drew ?_ | refine blk_alloc ?_ _)); exact BK508.out)) : gb508 ≠ gb521)); have n12_ := Aside0.mk ((by rw [hg]; exact Nat.ne_of_gt (blk_lt (g := gb508) (o := .cells #[.slice Ao12 t498.length co12, .slice Ao14 t501.length co14] 25 (0, 0)) (by (with_reducible repeat (first | refine blk_drewN ?_ _ | refine blk_drew ?_ | refine blk_alloc ?_ _)); exact BK508.out)) : gb521 ≠ gb508)); clear HO_10; clear HO_509000; clear HO_509001; clear HO513; clear HO516; clear HO519; clear BK508; clear HB; have HO_10 := n0_; have HO_509000 := n1_; have HO_509001 := n2_; have HO513 := n3_; have HO516 := n4_; have HO519 := n5_; have BK508 := n6_; have HB := n7_; have BK521 := n8_; have GW521 := n9_; have GE521 := n10_; have NB508_521 := n11_; have NB521_508 := n12_; clear n0_ n1_ n2_ n3_ n4_ n5_ n6_ n7_ n8_ n9_ n10_ n11_ n12_; clear hb hbox hg; obtain ⟨Ao25, co25, eo25⟩ := Kd.V_slice HO513.out; subst eo25; have hnb26 := NB521_508.out; have hnc26 := NB508_521.out; have hcz27_0 : w24.cell? ⟨gb521, 0, none⟩ = some (.slice none 0 0) := (blk_cell BK521.out 0).trans rfl; have hcz27_1 : w24.cell? ⟨gb521, 1, none⟩ = some (.slice none 0 0) := (blk_cell BK521.out 1).trans rfl; have hfz27_0 := blk_frozen BK521.out 0; have hfz27_1 := blk_frozen BK521.out 1; obtain ⟨Ao28, co28, eo28⟩ := Kd.V_slice HO516.out; subst eo28; have hcz29_0 : w24.cell? ⟨gb508, 0, none⟩ = some (.slice Ao12 t498.length co12) := (blk_cell BK508.out 0).trans rfl; have hcz29_1 : w24.cell? ⟨gb508, 1, none⟩ = some (.slice Ao14 t501.length co14) := (blk_cell BK508.out 1).trans rfl; have hfz29_0 := blk_frozen BK508.out 0; have hfz29_1 := blk_frozen BK508.out 1) | (go_at_call 21; (with_reducible refine (dCrash.calls _ _ t498 _ _ t501 _ _ l2 t522 t525 _ ?side1 ?side2 ?side3 ?side4 ?side5 ?side6 A21.out).mono ?_); (case side1 => refine (Kd.V_reads' (e := 9) (base := w.heap.size) (ok := fun k_ => (((some k_ ≠ (v505 : Value).ownBlock ∧ k_ ≠ gb508) ∧ some k_ ≠ (v518 : Value).ownBlock) ∧ k_ ≠ gb521)) (n := t498.length) (c := co12) ?_).2.2; exact (by (with_reducible repeat (first | apply Kd.V_alloc | apply Kd.V_drewN | apply Kd.V_drew)); exact (Kd.V_mono (Kd.V_far (p := ⟨gb521, 1, none⟩) (Kd.V_far (p := ⟨gb521, 0, none⟩) (Kd.V_mono HO_509000.out (fun k_ hk => (⟨hk, hk.2⟩ : _ ∧ k_ ≠ gb521))) (fun _ hk => hk.2) (.slice Ao25 t511.length co25)) (fun _ hk => hk.2) (.slice Ao28 t514.length co28)) (fun _ h_ => h_.1)))); (case side2 => exact (Kd.V_reads' HO_509000.out).2.1); (case side3 => refine (Kd.V_reads' (e := 46) (base := w.heap.size) (ok := fun k_ => (((some k_ ≠ (v505 : Value).ownBlock ∧ k_ ≠ gb508) ∧ some k_ ≠ (v518 : Value).ownBlock) ∧ k_ ≠ gb521)) (n := t501.length) (c := co14) ?_).2.2; exact (by (with_reducible repeat (first | apply Kd.V_alloc | apply Kd.V_drewN | apply Kd.V_drew)); exact (Kd.V_mono (Kd.V_far (p := ⟨gb521, 1, none⟩) (Kd.V_far (p := ⟨gb521, 0, none⟩) (Kd.V_mono HO_509001.out (fun k_ hk => (⟨hk, hk.2⟩ : _ ∧ k_ ≠ gb521))) (fun _ hk => hk.2) (.slice Ao25 t511.length co25)) (fun _ hk => hk.2) (.slice Ao28 t514.length co28)) (fun _ h_ => h_.1)))); (case side4 => exact (Kd.V_reads' HO_509001.out).2.1); (case side5 => exact Kd.C_below HR2.out (by repeat (first | (with_reducible first | exact HB.out | apply below_alloc | apply pw_below_drewN | apply below_drew1 | refine below_set ?_ GE508.out | refine below_set ?_ GE521.out) | exact HB.out))); (case side6 => exact HC2.out); rintro e w30 ⟨v523, v526, rfl, ho0, ho1, hb⟩; have n0_ := Aside0.mk (Kd.R_elder' (by (with_reducible repeat (first | apply Kd.R_alloc | apply Kd.R_drewN | apply Kd.R_drew)); exact (Kd.R_mono (Kd.R_far (p := ⟨gb521, 1, none⟩) (Kd.R_far (p := ⟨gb521, 0, none⟩) (Kd.R_types HO_10.out BK521.out (by decide)) (fun _ hk => hk.2) (.slice Ao25 t511.length co25)) (fun _ hk => hk.2) (.slice Ao28 t514.length co28)) (fun _ h_ => h_.1))) (Kd.R_base ho1) hb); have n1_ := Aside0.mk (Kd.V_mono (Kd.V_told (Kd.V_told (Kd.V_old (by (with_reducible repeat (first | apply Kd.V_alloc | apply Kd.V_drewN | apply Kd.V_drew)); exact (Kd.V_mono (Kd.V_far (p := ⟨gb521, 1, none⟩) (Kd.V_far (p := ⟨gb521, 0, none⟩) (Kd.V_mono HO_509000.out (fun k_ hk => (⟨hk, hk.2⟩ : _ ∧ k_ ≠ gb521))) (fun _ hk => hk.2) (.slice Ao25 t511.length co25)) (fun _ hk => hk.2) (.slice Ao28 t514.length co28)) (fun _ h_ => h_.1))) hb) (Kd.R_base ho0)) (Kd.R_base ho1)) (fun _ h_ => h_.1)); have n2_ := Aside0.mk (Kd.V_mono (Kd.V_told (Kd.V_told (Kd.V_old (by (with_reducible repeat (first | apply Kd.V_alloc | apply Kd.V_drewN | apply Kd.V_drew)); exact (Kd.V_mono (Kd.V_far (p := ⟨gb521, 1, none⟩) (Kd.V_far (p := ⟨gb521, 0, none⟩) (Kd.V_mono HO_509001.out (fun k_ hk => (⟨hk, hk.2⟩ : _ ∧ k_ ≠ gb521))) (fun _ hk => hk.2) (.slice Ao25 t511.length co25)) (fun _ hk => hk.2) (.slice Ao28 t514.length co28)) (fun _ h_ => h_.1))) hb) (Kd.R_base ho0)) (Kd.R_base ho1)) (fun _ h_ => h_.1)); have n3_ := Aside0.mk (Kd.V_mono (Kd.V_told (Kd.V_told (Kd.V_old (by (with_reducible repeat (first | apply Kd.V_alloc | apply Kd.V_drewN | apply Kd.V_drew)); exact (Kd.V_mono (Kd.V_far (p := ⟨gb521, 1, none⟩) (Kd.V_far (p := ⟨gb521, 0, none⟩) (Kd.V_mono HO513.out (fun k_ hk => (⟨hk, hk.2⟩ : _ ∧ k_ ≠ gb521))) (fun _ hk => hk.2) (.slice Ao25 t511.length co25)) (fun _ hk => hk.2) (.slice Ao28 t514.length co28)) (fun _ h_ => h_.1))) hb) (Kd.R_base ho0)) (Kd.R_base ho1)) (fun _ h_ => h_.1)); have n4_ := Aside0.mk (Kd.V_mono (Kd.V_told (Kd.V_told (Kd.V_old (by (with_reducible repeat (first | apply Kd.V_alloc | apply Kd.V_drewN | apply Kd.V_drew)); exact (Kd.V_mono (Kd.V_far (p := ⟨gb521, 1, none⟩) (Kd.V_far (p := ⟨gb521, 0, none⟩) (Kd.V_mono HO516.out (fun k_ hk => (⟨hk, hk.2⟩ : _ ∧ k_ ≠ gb521))) (fun _ hk => hk.2) (.slice Ao25 t511.length co25)) (fun _ hk => hk.2) (.slice Ao28 t514.length co28)) (fun _ h_ => h_.1))) hb) (Kd.R_base ho0)) (Kd.R_base ho1)) (fun _ h_ => h_.1)); have n5_ := Aside0.mk (Kd.R_elder' (by (with_reducible repeat (first | apply Kd.R_alloc | apply Kd.R_drewN | apply Kd.R_drew)); exact (Kd.R_mono (Kd.R_far (p := ⟨gb521, 1, none⟩) (Kd.R_far (p := ⟨gb521, 0, none⟩) (Kd.R_types HO519.out BK521.out (by decide)) (fun _ hk => hk.2) (.slice Ao25 t511.length co25)) (fun _ hk => hk.2) (.slice Ao28 t514.length co28)) (fun _ h_ => h_.1))) (Kd.R_base ho1) hb); have n6_ := Aside0.mk (Kd.R_lower ho0 (below_size (by repeat (first | (with_reducible first | exact HB.out | apply below_alloc | apply pw_below_drewN | apply below_drew1 | refine below_set ?_ GE508.out | refine below_set ?_ GE521.out) | exact HB.out)))); have n7_ := Aside0.mk (Kd.R_lower (Kd.R_new' (Kd.R_new' ho1 (Kd.R_lt (by (with_reducible repeat (first | apply Kd.R_alloc | apply Kd.R_drewN | apply Kd.R_drew)); exact (Kd.R_mono (Kd.R_far (p := ⟨gb521, 1, none⟩) (Kd.R_far (p := ⟨gb521, 0, none⟩) (Kd.R_types HO_10.out BK521.out (by decide)) (fun _ hk => hk.2) (.slice Ao25 t511.length co25)) (fun _ hk => hk.2) (.slice Ao28 t514.length co28)) (fun _ h_ => h_.1))))) (Kd.R_lt (by (with_reducible repeat (first | apply Kd.R_alloc | apply Kd.R_drewN | apply Kd.R_drew)); exact (Kd.R_mono (Kd.R_far (p := ⟨gb521, 1, none⟩) (Kd.R_far (p := ⟨gb521, 0, none⟩) (Kd.R_types HO519.out BK521.out (by decide)) (fun _ hk => hk.2) (.slice Ao25 t511.length co25)) (fun _ hk => hk.2) (.slice Ao28 t514.length co28)) (fun _ h_ => h_.1))))) (below_size (by repeat (first | (with_reducible first | exact HB.out | apply below_alloc | apply pw_below_drewN | apply below_drew1 | refine below_set ?_ GE508.out | refine below_set ?_ GE521.out) | exact HB.out)))); have n8_ := Aside0.mk (blk_below (g := gb508) (o := .cells #[.slice Ao12 t498.length co12, .slice Ao14 t501.length co14] 25 (0, 0)) (by (with_reducible repeat (first | refine blk_drewN ?_ _ | refine blk_drew ?_ | refine blk_alloc ?_ _)); refine blk_far ?_ NB508_521.out _; (with_reducible repeat (first | refine blk_drewN ?_ _ | refine blk_drew ?_ | refine blk_alloc ?_ _)); refine blk_far ?_ NB508_521.out _; (with_reducible repeat (first | refine blk_drewN ?_ _ | refine blk_drew ?_ | refine blk_alloc ?_ _)); exact BK508.out) hb); have n9_ := Aside0.mk (blk_below (g := gb521) (o := .cells #[.slice Ao25 t511.length co25, .slice Ao28 t514.length co28] 25 (0, 0)) (by (with_reducible repeat (first | refine blk_drewN ?_ _ | refine blk_drew ?_ | refine blk_alloc ?_ _)); refine blk_put (cs := #[.slice Ao25 t511.length co25, .slice none 0 0]) ?_ 1 _ rfl; (with_reducible repeat (first | refine blk_drewN ?_ _ | refine blk_drew ?_ | refine blk_alloc ?_ _)); refine blk_put (cs := #[.slice none 0 0, .slice none 0 0]) ?_ 0 _ rfl; (with_reducible repeat (first | refine blk_drewN ?_ _ | refine blk_drew ?_ | refine blk_alloc ?_ _)); exact BK521.out) hb); have n10_ := Aside0.mk (below_step (by repeat (first | (with_reducible first | exact HB.out | apply below_alloc | apply pw_below_drewN | apply below_drew1 | refine below_set ?_ GE508.out | refine below_set ?_ GE521.out) | exact HB.out)) hb); clear HO_10; clear HO_509000; clear HO_509001; clear HO513; clear HO516; clear HO519; clear BK508; clear BK521; clear HB; have HO_10 := n0_; have HO_509000 := n1_; have HO_509001 := n2_; have HO513 := n3_; have HO516 := n4_; have HO519 := n5_; have HO524 := n6_; have HO527 := n7_; have BK508 := n8_; have BK521 := n9_; have HB := n10_; clear n0_ n1_ n2_ n3_ n4_ n5_ n6_ n7_ n8_ n9_ n10_; (try clear hb); (try clear hb2); (try clear hk); (try clear hi); (try clear ho0); (try clear ho1)) | ((with_reducible refine gate_dst (N := 17) rfl ?_); (try (refine gate_guard (by rfl) ?_; dsimp only)); refine box_event ?hg (N := 17) ?hd (cs := #[.slice none 0 0, .slice none 0 0]) (t := 25) ?hr ?_; (case hd => rfl); (case hg => rfl); (case hr => first | (go_simp; done) | (go_simp; rfl)); intro gb528 hg w31 hbox hb; have n0_ := Aside0.mk (Kd.R_below (by (with_reducible repeat (first | apply Kd.R_alloc | apply Kd.R_drewN | apply Kd.R_drew)); exact HO_10.out) hb); have n1_ := Aside0.mk (Kd.V_below (Kd.V_elderB (by (with_reducible repeat (first | apply Kd.V_alloc | apply Kd.V_drewN | apply Kd.V_drew)); exact HO_509000.out) gb528 (Nat.le_of_eq hg.symm)) hb); have n2_ := Aside0.mk (Kd.V_below (Kd.V_elderB (by (with_reducible repeat (first | apply Kd.V_alloc | apply Kd.V_drewN | apply Kd.V_drew)); exact HO_509001.out) gb528 (Nat.le_of_eq hg.symm)) hb); have n3_ := Aside0.mk (Kd.V_below (Kd.V_elderB (by (with_reducible repeat (first | apply Kd.V_alloc | apply Kd.V_drewN | apply Kd.V_drew)); exact HO513.out) gb528 (Nat.le_of_eq hg.symm)) hb); have n4_ := Aside0.mk (Kd.V_below (Kd.V_elderB (by (with_reducible repeat (first | apply Kd.V_alloc | apply Kd.V_drewN | apply Kd.V_drew)); exact HO516.out) gb528 (Nat.le_of_eq hg.symm)) hb); have n5_ := Aside0.mk (Kd.R_below (by (with_reducible repeat (first | apply Kd.R_alloc | apply Kd.R_drewN | apply Kd.R_drew)); exact HO519.out) hb); have n6_ := Aside0.mk (Kd.R_below (by (with_reducible repeat (first | apply Kd.R_alloc | apply Kd.R_drewN | apply Kd.R_drew)); exact HO524.out) hb); have n7_ := Aside0.mk (Kd.R_below (by (with_reducible repeat (first | apply Kd.R_alloc | apply Kd.R_drewN | apply Kd.R_drew)); exact HO527.out) hb); have n8_ := Aside0.mk (blk_below (g := gb508) (o := .cells #[.slice Ao12 t498.length co12, .slice Ao14 t501.length co14] 25 (0, 0)) (by (with_reducible repeat (first | refine blk_drewN ?_ _ | refine blk_drew ?_ | refine blk_alloc ?_ _)); exact BK508.out) hb); have n9_ := Aside0.mk (blk_below (g := gb521) (o := .cells #[.slice Ao25 t511.length co25, .slice Ao28 t514.length co28] 25 (0, 0)) (by (with_reducible repeat (first | refine blk_drewN ?_ _ | refine blk_drew ?_ | refine blk_alloc ?_ _)); exact BK521.out) hb); have n10_ := Aside0.mk (below_step (by repeat (first | (with_reducible first | exact HB.out | apply below_alloc | apply pw_below_drewN | apply below_drew1 | refine below_set ?_ GE508.out | refine below_set ?_ GE521.out) | exact HB.out)) hb); have n11_ := Aside0.mk (hbox); have n12_ := Aside0.mk ((by rw [hg]; exact (below_size (by repeat (first | (with_reducible first | exact HB.out | apply below_alloc | apply pw_below_drewN | apply below_drew1 | refine below_set ?_ GE508.out | refine below_set ?_ GE521.out) | exact HB.out))) : w.heap.size ≤ gb528)); have n13_ := Aside0.mk ((by rw [hg]; exact (below_size (by repeat (first | (with_reducible first | exact HB.out | apply below_alloc | apply pw_below_drewN | apply below_drew1 | refine below_set ?_ GE508.out | refine below_set ?_ GE521.out) | exact HB.out))) : w.heap.size ≤ gb528)); have n14_ := Aside0.mk ((by rw [hg]; exact Nat.ne_of_lt (blk_lt (g := gb508) (o := .cells #[.slice Ao12 t498.length co12, .slice Ao14 t501.length co14] 25 (0, 0)) (by (with_reducible repeat (first | refine blk_drewN ?_ _ | refine blk_drew ?_ | refine blk_alloc ?_ _)); exact BK508.out)) : gb508 ≠ gb528)); have n15_ := Aside0.mk ((by rw [hg]; exact Nat.ne_of_gt (blk_lt (g := gb508) (o := .cells #[.slice Ao12 t498.length co12, .slice Ao14 t501.length co14] 25 (0, 0)) (by (with_reducible repeat (first | refine blk_drewN ?_ _ | refine blk_drew ?_ | refine blk_alloc ?_ _)); exact BK508.out)) : gb528 ≠ gb508)); have n16_ := Aside0.mk ((by rw [hg]; exact Nat.ne_of_lt (blk_lt (g := gb521) (o := .cells #[.slice Ao25 t511.length co25, .slice Ao28 t514.length co28] 25 (0, 0)) (by (with_reducible repeat (first | refine blk_drewN ?_ _ | refine blk_drew ?_ | refine blk_alloc ?_ _)); exact BK521.out)) : gb521 ≠ gb528)); have n17_ := Aside0.mk ((by rw [hg]; exact Nat.ne_of_gt (blk_lt (g := gb521) (o := .cells #[.slice Ao25 t511.length co25, .slice Ao28 t514.length co28] 25 (0, 0)) (by (with_reducible repeat (first | refine blk_drewN ?_ _ | refine blk_drew ?_ | refine blk_alloc ?_ _)); exact BK521.out)) : gb528 ≠ gb521)); clear HO_10; clear HO_509000; clear HO_509001; clear HO513; clear HO516; clear HO519; clear HO524; clear HO527; clear BK508; clear BK521; clear HB; have HO_10 := n0_; have HO_509000 := n1_; have HO_509001 := n2_; have HO513 := n3_; have HO516 := n4_; have HO519 := n5_; have HO524 := n6_; have HO527 := n7_; have BK508 := n8_; have BK521 := n9_; have HB := n10_; have BK528 := n11_; have GW528 := n12_; have GE528 := n13_; have NB508_528 := n14_; have NB528_508 := n15_; have NB521_528 := n16_; have NB528_521 := n17_; clear n0_ n1_ n2_ n3_ n4_ n5_ n6_ n7_ n8_ n9_ n10_ n11_ n12_ n13_ n14_ n15_ n16_ n17_; clear hb hbox hg; obtain ⟨Ao32, co32, eo32⟩ := Kd.R_slice HO524.out; subst eo32; have hnb33 := NB528_508.out; have hnc33 := NB508_528.out; have hnb34 := NB528_521.out; have hnc34 := NB521_528.out; have hcz35_0 : w31.cell? ⟨gb528, 0, none⟩ = some (.slice none 0 0) := (blk_cell BK528.out 0).trans rfl; have hcz35_1 : w31.cell? ⟨gb528, 1, none⟩ = some (.slice none 0 0) := (blk_cell BK528.out 1).trans rfl; have hfz35_0 := blk_frozen BK528.out 0; have hfz35_1 := blk_frozen BK528.out 1; obtain ⟨Ao36, co36, eo36⟩ := Kd.R_slice HO527.out; subst eo36))
   repeat (go_quiet (first | (go_at_call 23; refine calls_of_args (args' := #[.int .i64 (wrap64 (1 + (Int.tmod (wrap64 (a0)) 4))), .slice A1 (l1.take (x12_2 : Int).toNat).length c1]) (by rw [List.length_take, Nat.min_eq_left (by have h19 := of_decide_eq_true (show decide (x12_2 ≤ (l1.length : Int)) = true by assumption); omega)]) ?_; (with_reducible refine (hallmootlaw22_written.calls k2 (wrap64 (1 + (Int.tmod (wrap64 (a0)) 4))) _ _ (l1.take (x12_2 : Int).toNat) t511 t514 t517 t520 _ ?side1 ?side2 A20.out).mono ?_); (case side1 => repeat (first | exact (Kd.C_below HR510.out HB.out) | (with_reducible refine Kd.C_alloc ?_ _) | (with_reducible refine Kd.C_drewN ?_ _) | (with_reducible refine Kd.C_drew ?_))); (case side2 => exact HC510.out); rintro e w23 ⟨v512, v515, v518, rfl, ho0, ho1, ho2, hb⟩; have n0_ := Aside0.mk (Kd.R_elder' (by (with_reducible repeat (first | apply Kd.R_alloc | apply Kd.R_drewN | apply Kd.R_drew)); exact HO_10.out) (Kd.R_base ho2) hb); have n1_ := Aside0.mk (Kd.V_elder' (by (with_reducible repeat (first | apply Kd.V_alloc | apply Kd.V_drewN | apply Kd.V_drew)); exact HO_509000.out) (Kd.R_base ho2) hb); have n2_ := Aside0.mk (Kd.V_elder' (by (with_reducible repeat (first | apply Kd.V_alloc | apply Kd.V_drewN | apply Kd.V_drew)); exact HO_509001.out) (Kd.R_base ho2) hb); have n3_ := Aside0.mk (Kd.V_lower (Kd.V_mono (ok' := fun k_ => some k_ ≠ (v518 : Value).ownBlock ∧ some k_ ≠ (v505 : Value).ownBlock ∧ k_ ≠ gb508) ho0 (fun k_ hk_ => ⟨hk_.2, (Kd.fresh' (Kd.R_lt (by (with_reducible repeat (first | apply Kd.R_alloc | apply Kd.R_drewN | apply Kd.R_drew)); exact HO_10.out)) k_ hk_.1), (Kd.freshB (g := gb508) (o := .cells #[.slice Ao12 t498.length co12, .slice Ao14 t501.length co14] 25 (0, 0)) (by (with_reducible repeat (first | refine blk_drewN ?_ _ | refine blk_drew ?_ | refine blk_alloc ?_ _)); exact BK508.out) k_ hk_.1)⟩)) (below_size (by repeat (first | (with_reducible first | exact HB.out | apply below_alloc | apply pw_below_drewN | apply below_drew1 | refine below_set ?_ GE508.out) | exact HB.out)))); have n4_ := Aside0.mk (Kd.V_lower (Kd.V_mono (ok' := fun k_ => some k_ ≠ (v518 : Value).ownBlock ∧ some k_ ≠ (v505 : Value).ownBlock ∧ k_ ≠ gb508) ho1 (fun k_ hk_ => ⟨hk_.2, (Kd.fresh' (Kd.R_lt (by (with_reducible repeat (first | apply Kd.R_alloc | apply Kd.R_drewN | apply Kd.R_drew)); exact HO_10.out)) k_ hk_.1), (Kd.freshB (g := gb508) (o := .cells #[.slice Ao12 t498.length co12, .slice Ao14 t501.length co14] 25 (0, 0)) (by (with_reducible repeat (first | refine blk_drewN ?_ _ | refine blk_drew ?_ | refine blk_alloc ?_ _)); exact BK508.out) k_ hk_.1)⟩)) (below_size (by repeat (first | (with_reducible first | exact HB.out | apply below_alloc | apply pw_below_drewN | apply below_drew1 | refine below_set ?_ GE508.out) | exact HB.out)))); have n5_ := Aside0.mk (Kd.R_lower (Kd.R_new' (Kd.R_mono (ok' := fun k_ => True) ho2 (fun _ hk_ => trivial)) (Kd.R_lt (by (with_reducible repeat (first | apply Kd.R_alloc | apply Kd.R_drewN | apply Kd.R_drew)); exact HO_10.out))) (below_size (by repeat (first | (with_reducible first | exact HB.out | apply below_alloc | apply pw_below_drewN | apply below_drew1 | refine below_set ?_ GE508.out) | exact HB.out)))); have n6_ := Aside0.mk (blk_below (g := gb508) (o := .cells #[.slice Ao12 t498.length co12, .slice Ao14 t501.length co14] 25 (0, 0)) (by (with_reducible repeat (first | refine blk_drewN ?_ _ | refine blk_drew ?_ | refine blk_alloc ?_ _)); exact BK508.out) hb); have n7_ := Aside0.mk (below_step (by repeat (first | (with_reducible first | exact HB.out | apply below_alloc | apply pw_below_drewN | apply below_drew1 | refine below_set ?_ GE508.out) | exact HB.out)) hb); clear HO_10; clear HO_509000; clear HO_509001; clear BK508; clear HB; have HO_10 := n0_; have HO_509000 := n1_; have HO_509001 := n2_; have HO513 := n3_; have HO516 := n4_; have HO519 := n5_; have BK508 := n6_; have HB := n7_; clear n0_ n1_ n2_ n3_ n4_ n5_ n6_ n7_; (try clear hb); (try clear hb2); (try clear hk); (try clear hi); (try clear ho0); (try clear ho1); (try clear ho2)) | ((with_reducible refine gate_dst (N := 14) rfl ?_); (try (refine gate_guard (by rfl) ?_; dsimp only)); refine box_event ?hg (N := 14) ?hd (cs := #[.slice none 0 0, .slice none 0 0]) (t := 25) ?hr ?_; (case hd => rfl); (case hg => rfl); (case hr => first | (go_simp; done) | (go_simp; rfl)); intro gb521 hg w24 hbox hb; have n0_ := Aside0.mk (Kd.R_below (by (with_reducible repeat (first | apply Kd.R_alloc | apply Kd.R_drewN | apply Kd.R_drew)); exact HO_10.out) hb); have n1_ := Aside0.mk (Kd.V_below (Kd.V_elderB (by (with_reducible repeat (first | apply Kd.V_alloc | apply Kd.V_drewN | apply Kd.V_drew)); exact HO_509000.out) gb521 (Nat.le_of_eq hg.symm)) hb); have n2_ := Aside0.mk (Kd.V_below (Kd.V_elderB (by (with_reducible repeat (first | apply Kd.V_alloc | apply Kd.V_drewN | apply Kd.V_drew)); exact HO_509001.out) gb521 (Nat.le_of_eq hg.symm)) hb); have n3_ := Aside0.mk (Kd.V_below (Kd.V_elderB (by (with_reducible repeat (first | apply Kd.V_alloc | apply Kd.V_drewN | apply Kd.V_drew)); exact HO513.out) gb521 (Nat.le_of_eq hg.symm)) hb); have n4_ := Aside0.mk (Kd.V_below (Kd.V_elderB (by (with_reducible repeat (first | apply Kd.V_alloc | apply Kd.V_drewN | apply Kd.V_drew)); exact HO516.out) gb521 (Nat.le_of_eq hg.symm)) hb); have n5_ := Aside0.mk (Kd.R_below (by (with_reducible repeat (first | apply Kd.R_alloc | apply Kd.R_drewN | apply Kd.R_drew)); exact HO519.out) hb); have n6_ := Aside0.mk (blk_below (g := gb508) (o := .cells #[.slice Ao12 t498.length co12, .slice Ao14 t501.length co14] 25 (0, 0)) (by (with_reducible repeat (first | refine blk_drewN ?_ _ | refine blk_drew ?_ | refine blk_alloc ?_ _)); exact BK508.out) hb); have n7_ := Aside0.mk (below_step (by repeat (first | (with_reducible first | exact HB.out | apply below_alloc | apply pw_below_drewN | apply below_drew1 | refine below_set ?_ GE508.out) | exact HB.out)) hb); have n8_ := Aside0.mk (hbox); have n9_ := Aside0.mk ((by rw [hg]; exact (below_size (by repeat (first | (with_reducible first | exact HB.out | apply below_alloc | apply pw_below_drewN | apply below_drew1 | refine below_set ?_ GE508.out) | exact HB.out))) : w.heap.size ≤ gb521)); have n10_ := Aside0.mk ((by rw [hg]; exact (below_size (by repeat (first | (with_reducible first | exact HB.out | apply below_alloc | apply pw_below_drewN | apply below_drew1 | refine below_set ?_ GE508.out) | exact HB.out))) : w.heap.size ≤ gb521)); have n11_ := Aside0.mk ((by rw [hg]; exact Nat.ne_of_lt (blk_lt (g := gb508) (o := .cells #[.slice Ao12 t498.length co12, .slice Ao14 t501.length co14] 25 (0, 0)) (by (with_reducible repeat (first | refine blk_drewN ?_ _ | refine blk_drew ?_ | refine blk_alloc ?_ _)); exact BK508.out)) : gb508 ≠ gb521)); have n12_ := Aside0.mk ((by rw [hg]; exact Nat.ne_of_gt (blk_lt (g := gb508) (o := .cells #[.slice Ao12 t498.length co12, .slice Ao14 t501.length co14] 25 (0, 0)) (by (with_reducible repeat (first | refine blk_drewN ?_ _ | refine blk_drew ?_ | refine blk_alloc ?_ _)); exact BK508.out)) : gb521 ≠ gb508)); clear HO_10; clear HO_509000; clear HO_509001; clear HO513; clear HO516; clear HO519; clear BK508; clear HB; have HO_10 := n0_; have HO_509000 := n1_; have HO_509001 := n2_; have HO513 := n3_; have HO516 := n4_; have HO519 := n5_; have BK508 := n6_; have HB := n7_; have BK521 := n8_; have GW521 := n9_; have GE521 := n10_; have NB508_521 := n11_; have NB521_508 := n12_; clear n0_ n1_ n2_ n3_ n4_ n5_ n6_ n7_ n8_ n9_ n10_ n11_ n12_; clear hb hbox hg; obtain ⟨Ao25, co25, eo25⟩ := Kd.V_slice HO513.out; subst eo25; have hnb26 := NB521_508.out; have hnc26 := NB508_521.out; have hcz27_0 : w24.cell? ⟨gb521, 0, none⟩ = some (.slice none 0 0) := (blk_cell BK521.out 0).trans rfl; have hcz27_1 : w24.cell? ⟨gb521, 1, none⟩ = some (.slice none 0 0) := (blk_cell BK521.out 1).trans rfl; have hfz27_0 := blk_frozen BK521.out 0; have hfz27_1 := blk_frozen BK521.out 1; obtain ⟨Ao28, co28, eo28⟩ := Kd.V_slice HO516.out; subst eo28; have hcz29_0 : w24.cell? ⟨gb508, 0, none⟩ = some (.slice Ao12 t498.length co12) := (blk_cell BK508.out 0).trans rfl; have hcz29_1 : w24.cell? ⟨gb508, 1, none⟩ = some (.slice Ao14 t501.length co14) := (blk_cell BK508.out 1).trans rfl; have hfz29_0 := blk_frozen BK508.out 0; have hfz29_1 := blk_frozen BK508.out 1) | (go_at_call 21; (with_reducible refine (dCrash.calls _ _ t498 _ _ t501 _ _ l2 t522 t525 _ ?side1 ?side2 ?side3 ?side4 ?side5 ?side6 A21.out).mono ?_); (case side1 => refine (Kd.V_reads' (e := 9) (base := w.heap.size) (ok := fun k_ => (((some k_ ≠ (v505 : Value).ownBlock ∧ k_ ≠ gb508) ∧ some k_ ≠ (v518 : Value).ownBlock) ∧ k_ ≠ gb521)) (n := t498.length) (c := co12) ?_).2.2; exact (by (with_reducible repeat (first | apply Kd.V_alloc | apply Kd.V_drewN | apply Kd.V_drew)); exact (Kd.V_mono (Kd.V_far (p := ⟨gb521, 1, none⟩) (Kd.V_far (p := ⟨gb521, 0, none⟩) (Kd.V_mono HO_509000.out (fun k_ hk => (⟨hk, hk.2⟩ : _ ∧ k_ ≠ gb521))) (fun _ hk => hk.2) (.slice Ao25 t511.length co25)) (fun _ hk => hk.2) (.slice Ao28 t514.length co28)) (fun _ h_ => h_.1)))); (case side2 => exact (Kd.V_reads' HO_509000.out).2.1); (case side3 => refine (Kd.V_reads' (e := 46) (base := w.heap.size) (ok := fun k_ => (((some k_ ≠ (v505 : Value).ownBlock ∧ k_ ≠ gb508) ∧ some k_ ≠ (v518 : Value).ownBlock) ∧ k_ ≠ gb521)) (n := t501.length) (c := co14) ?_).2.2; exact (by (with_reducible repeat (first | apply Kd.V_alloc | apply Kd.V_drewN | apply Kd.V_drew)); exact (Kd.V_mono (Kd.V_far (p := ⟨gb521, 1, none⟩) (Kd.V_far (p := ⟨gb521, 0, none⟩) (Kd.V_mono HO_509001.out (fun k_ hk => (⟨hk, hk.2⟩ : _ ∧ k_ ≠ gb521))) (fun _ hk => hk.2) (.slice Ao25 t511.length co25)) (fun _ hk => hk.2) (.slice Ao28 t514.length co28)) (fun _ h_ => h_.1)))); (case side4 => exact (Kd.V_reads' HO_509001.out).2.1); (case side5 => exact Kd.C_below HR2.out (by repeat (first | (with_reducible first | exact HB.out | apply below_alloc | apply pw_below_drewN | apply below_drew1 | refine below_set ?_ GE508.out | refine below_set ?_ GE521.out) | exact HB.out))); (case side6 => exact HC2.out); rintro e w30 ⟨v523, v526, rfl, ho0, ho1, hb⟩; have n0_ := Aside0.mk (Kd.R_elder' (by (with_reducible repeat (first | apply Kd.R_alloc | apply Kd.R_drewN | apply Kd.R_drew)); exact (Kd.R_mono (Kd.R_far (p := ⟨gb521, 1, none⟩) (Kd.R_far (p := ⟨gb521, 0, none⟩) (Kd.R_types HO_10.out BK521.out (by decide)) (fun _ hk => hk.2) (.slice Ao25 t511.length co25)) (fun _ hk => hk.2) (.slice Ao28 t514.length co28)) (fun _ h_ => h_.1))) (Kd.R_base ho1) hb); have n1_ := Aside0.mk (Kd.V_mono (Kd.V_told (Kd.V_told (Kd.V_old (by (with_reducible repeat (first | apply Kd.V_alloc | apply Kd.V_drewN | apply Kd.V_drew)); exact (Kd.V_mono (Kd.V_far (p := ⟨gb521, 1, none⟩) (Kd.V_far (p := ⟨gb521, 0, none⟩) (Kd.V_mono HO_509000.out (fun k_ hk => (⟨hk, hk.2⟩ : _ ∧ k_ ≠ gb521))) (fun _ hk => hk.2) (.slice Ao25 t511.length co25)) (fun _ hk => hk.2) (.slice Ao28 t514.length co28)) (fun _ h_ => h_.1))) hb) (Kd.R_base ho0)) (Kd.R_base ho1)) (fun _ h_ => h_.1)); have n2_ := Aside0.mk (Kd.V_mono (Kd.V_told (Kd.V_told (Kd.V_old (by (with_reducible repeat (first | apply Kd.V_alloc | apply Kd.V_drewN | apply Kd.V_drew)); exact (Kd.V_mono (Kd.V_far (p := ⟨gb521, 1, none⟩) (Kd.V_far (p := ⟨gb521, 0, none⟩) (Kd.V_mono HO_509001.out (fun k_ hk => (⟨hk, hk.2⟩ : _ ∧ k_ ≠ gb521))) (fun _ hk => hk.2) (.slice Ao25 t511.length co25)) (fun _ hk => hk.2) (.slice Ao28 t514.length co28)) (fun _ h_ => h_.1))) hb) (Kd.R_base ho0)) (Kd.R_base ho1)) (fun _ h_ => h_.1)); have n3_ := Aside0.mk (Kd.V_mono (Kd.V_told (Kd.V_told (Kd.V_old (by (with_reducible repeat (first | apply Kd.V_alloc | apply Kd.V_drewN | apply Kd.V_drew)); exact (Kd.V_mono (Kd.V_far (p := ⟨gb521, 1, none⟩) (Kd.V_far (p := ⟨gb521, 0, none⟩) (Kd.V_mono HO513.out (fun k_ hk => (⟨hk, hk.2⟩ : _ ∧ k_ ≠ gb521))) (fun _ hk => hk.2) (.slice Ao25 t511.length co25)) (fun _ hk => hk.2) (.slice Ao28 t514.length co28)) (fun _ h_ => h_.1))) hb) (Kd.R_base ho0)) (Kd.R_base ho1)) (fun _ h_ => h_.1)); have n4_ := Aside0.mk (Kd.V_mono (Kd.V_told (Kd.V_told (Kd.V_old (by (with_reducible repeat (first | apply Kd.V_alloc | apply Kd.V_drewN | apply Kd.V_drew)); exact (Kd.V_mono (Kd.V_far (p := ⟨gb521, 1, none⟩) (Kd.V_far (p := ⟨gb521, 0, none⟩) (Kd.V_mono HO516.out (fun k_ hk => (⟨hk, hk.2⟩ : _ ∧ k_ ≠ gb521))) (fun _ hk => hk.2) (.slice Ao25 t511.length co25)) (fun _ hk => hk.2) (.slice Ao28 t514.length co28)) (fun _ h_ => h_.1))) hb) (Kd.R_base ho0)) (Kd.R_base ho1)) (fun _ h_ => h_.1)); have n5_ := Aside0.mk (Kd.R_elder' (by (with_reducible repeat (first | apply Kd.R_alloc | apply Kd.R_drewN | apply Kd.R_drew)); exact (Kd.R_mono (Kd.R_far (p := ⟨gb521, 1, none⟩) (Kd.R_far (p := ⟨gb521, 0, none⟩) (Kd.R_types HO519.out BK521.out (by decide)) (fun _ hk => hk.2) (.slice Ao25 t511.length co25)) (fun _ hk => hk.2) (.slice Ao28 t514.length co28)) (fun _ h_ => h_.1))) (Kd.R_base ho1) hb); have n6_ := Aside0.mk (Kd.R_lower ho0 (below_size (by repeat (first | (with_reducible first | exact HB.out | apply below_alloc | apply pw_below_drewN | apply below_drew1 | refine below_set ?_ GE508.out | refine below_set ?_ GE521.out) | exact HB.out)))); have n7_ := Aside0.mk (Kd.R_lower (Kd.R_new' (Kd.R_new' ho1 (Kd.R_lt (by (with_reducible repeat (first | apply Kd.R_alloc | apply Kd.R_drewN | apply Kd.R_drew)); exact (Kd.R_mono (Kd.R_far (p := ⟨gb521, 1, none⟩) (Kd.R_far (p := ⟨gb521, 0, none⟩) (Kd.R_types HO_10.out BK521.out (by decide)) (fun _ hk => hk.2) (.slice Ao25 t511.length co25)) (fun _ hk => hk.2) (.slice Ao28 t514.length co28)) (fun _ h_ => h_.1))))) (Kd.R_lt (by (with_reducible repeat (first | apply Kd.R_alloc | apply Kd.R_drewN | apply Kd.R_drew)); exact (Kd.R_mono (Kd.R_far (p := ⟨gb521, 1, none⟩) (Kd.R_far (p := ⟨gb521, 0, none⟩) (Kd.R_types HO519.out BK521.out (by decide)) (fun _ hk => hk.2) (.slice Ao25 t511.length co25)) (fun _ hk => hk.2) (.slice Ao28 t514.length co28)) (fun _ h_ => h_.1))))) (below_size (by repeat (first | (with_reducible first | exact HB.out | apply below_alloc | apply pw_below_drewN | apply below_drew1 | refine below_set ?_ GE508.out | refine below_set ?_ GE521.out) | exact HB.out)))); have n8_ := Aside0.mk (blk_below (g := gb508) (o := .cells #[.slice Ao12 t498.length co12, .slice Ao14 t501.length co14] 25 (0, 0)) (by (with_reducible repeat (first | refine blk_drewN ?_ _ | refine blk_drew ?_ | refine blk_alloc ?_ _)); refine blk_far ?_ NB508_521.out _; (with_reducible repeat (first | refine blk_drewN ?_ _ | refine blk_drew ?_ | refine blk_alloc ?_ _)); refine blk_far ?_ NB508_521.out _; (with_reducible repeat (first | refine blk_drewN ?_ _ | refine blk_drew ?_ | refine blk_alloc ?_ _)); exact BK508.out) hb); have n9_ := Aside0.mk (blk_below (g := gb521) (o := .cells #[.slice Ao25 t511.length co25, .slice Ao28 t514.length co28] 25 (0, 0)) (by (with_reducible repeat (first | refine blk_drewN ?_ _ | refine blk_drew ?_ | refine blk_alloc ?_ _)); refine blk_put (cs := #[.slice Ao25 t511.length co25, .slice none 0 0]) ?_ 1 _ rfl; (with_reducible repeat (first | refine blk_drewN ?_ _ | refine blk_drew ?_ | refine blk_alloc ?_ _)); refine blk_put (cs := #[.slice none 0 0, .slice none 0 0]) ?_ 0 _ rfl; (with_reducible repeat (first | refine blk_drewN ?_ _ | refine blk_drew ?_ | refine blk_alloc ?_ _)); exact BK521.out) hb); have n10_ := Aside0.mk (below_step (by repeat (first | (with_reducible first | exact HB.out | apply below_alloc | apply pw_below_drewN | apply below_drew1 | refine below_set ?_ GE508.out | refine below_set ?_ GE521.out) | exact HB.out)) hb); clear HO_10; clear HO_509000; clear HO_509001; clear HO513; clear HO516; clear HO519; clear BK508; clear BK521; clear HB; have HO_10 := n0_; have HO_509000 := n1_; have HO_509001 := n2_; have HO513 := n3_; have HO516 := n4_; have HO519 := n5_; have HO524 := n6_; have HO527 := n7_; have BK508 := n8_; have BK521 := n9_; have HB := n10_; clear n0_ n1_ n2_ n3_ n4_ n5_ n6_ n7_ n8_ n9_ n10_; (try clear hb); (try clear hb2); (try clear hk); (try clear hi); (try clear ho0); (try clear ho1)) | ((with_reducible refine gate_dst (N := 17) rfl ?_); (try (refine gate_guard (by rfl) ?_; dsimp only)); refine box_event ?hg (N := 17) ?hd (cs := #[.slice none 0 0, .slice none 0 0]) (t := 25) ?hr ?_; (case hd => rfl); (case hg => rfl); (case hr => first | (go_simp; done) | (go_simp; rfl)); intro gb528 hg w31 hbox hb; have n0_ := Aside0.mk (Kd.R_below (by (with_reducible repeat (first | apply Kd.R_alloc | apply Kd.R_drewN | apply Kd.R_drew)); exact HO_10.out) hb); have n1_ := Aside0.mk (Kd.V_below (Kd.V_elderB (by (with_reducible repeat (first | apply Kd.V_alloc | apply Kd.V_drewN | apply Kd.V_drew)); exact HO_509000.out) gb528 (Nat.le_of_eq hg.symm)) hb); have n2_ := Aside0.mk (Kd.V_below (Kd.V_elderB (by (with_reducible repeat (first | apply Kd.V_alloc | apply Kd.V_drewN | apply Kd.V_drew)); exact HO_509001.out) gb528 (Nat.le_of_eq hg.symm)) hb); have n3_ := Aside0.mk (Kd.V_below (Kd.V_elderB (by (with_reducible repeat (first | apply Kd.V_alloc | apply Kd.V_drewN | apply Kd.V_drew)); exact HO513.out) gb528 (Nat.le_of_eq hg.symm)) hb); have n4_ := Aside0.mk (Kd.V_below (Kd.V_elderB (by (with_reducible repeat (first | apply Kd.V_alloc | apply Kd.V_drewN | apply Kd.V_drew)); exact HO516.out) gb528 (Nat.le_of_eq hg.symm)) hb); have n5_ := Aside0.mk (Kd.R_below (by (with_reducible repeat (first | apply Kd.R_alloc | apply Kd.R_drewN | apply Kd.R_drew)); exact HO519.out) hb); have n6_ := Aside0.mk (Kd.R_below (by (with_reducible repeat (first | apply Kd.R_alloc | apply Kd.R_drewN | apply Kd.R_drew)); exact HO524.out) hb); have n7_ := Aside0.mk (Kd.R_below (by (with_reducible repeat (first | apply Kd.R_alloc | apply Kd.R_drewN | apply Kd.R_drew)); exact HO527.out) hb); have n8_ := Aside0.mk (blk_below (g := gb508) (o := .cells #[.slice Ao12 t498.length co12, .slice Ao14 t501.length co14] 25 (0, 0)) (by (with_reducible repeat (first | refine blk_drewN ?_ _ | refine blk_drew ?_ | refine blk_alloc ?_ _)); exact BK508.out) hb); have n9_ := Aside0.mk (blk_below (g := gb521) (o := .cells #[.slice Ao25 t511.length co25, .slice Ao28 t514.length co28] 25 (0, 0)) (by (with_reducible repeat (first | refine blk_drewN ?_ _ | refine blk_drew ?_ | refine blk_alloc ?_ _)); exact BK521.out) hb); have n10_ := Aside0.mk (below_step (by repeat (first | (with_reducible first | exact HB.out | apply below_alloc | apply pw_below_drewN | apply below_drew1 | refine below_set ?_ GE508.out | refine below_set ?_ GE521.out) | exact HB.out)) hb); have n11_ := Aside0.mk (hbox); have n12_ := Aside0.mk ((by rw [hg]; exact (below_size (by repeat (first | (with_reducible first | exact HB.out | apply below_alloc | apply pw_below_drewN | apply below_drew1 | refine below_set ?_ GE508.out | refine below_set ?_ GE521.out) | exact HB.out))) : w.heap.size ≤ gb528)); have n13_ := Aside0.mk ((by rw [hg]; exact (below_size (by repeat (first | (with_reducible first | exact HB.out | apply below_alloc | apply pw_below_drewN | apply below_drew1 | refine below_set ?_ GE508.out | refine below_set ?_ GE521.out) | exact HB.out))) : w.heap.size ≤ gb528)); have n14_ := Aside0.mk ((by rw [hg]; exact Nat.ne_of_lt (blk_lt (g := gb508) (o := .cells #[.slice Ao12 t498.length co12, .slice Ao14 t501.length co14] 25 (0, 0)) (by (with_reducible repeat (first | refine blk_drewN ?_ _ | refine blk_drew ?_ | refine blk_alloc ?_ _)); exact BK508.out)) : gb508 ≠ gb528)); have n15_ := Aside0.mk ((by rw [hg]; exact Nat.ne_of_gt (blk_lt (g := gb508) (o := .cells #[.slice Ao12 t498.length co12, .slice Ao14 t501.length co14] 25 (0, 0)) (by (with_reducible repeat (first | refine blk_drewN ?_ _ | refine blk_drew ?_ | refine blk_alloc ?_ _)); exact BK508.out)) : gb528 ≠ gb508)); have n16_ := Aside0.mk ((by rw [hg]; exact Nat.ne_of_lt (blk_lt (g := gb521) (o := .cells #[.slice Ao25 t511.length co25, .slice Ao28 t514.length co28] 25 (0, 0)) (by (with_reducible repeat (first | refine blk_drewN ?_ _ | refine blk_drew ?_ | refine blk_alloc ?_ _)); exact BK521.out)) : gb521 ≠ gb528)); have n17_ := Aside0.mk ((by rw [hg]; exact Nat.ne_of_gt (blk_lt (g := gb521) (o := .cells #[.slice Ao25 t511.length co25, .slice Ao28 t514.length co28] 25 (0, 0)) (by (with_reducible repeat (first | refine blk_drewN ?_ _ | refine blk_drew ?_ | refine blk_alloc ?_ _)); exact BK521.out)) : gb528 ≠ gb521)); clear HO_10; clear HO_509000; clear HO_509001; clear HO513; clear HO516; clear HO519; clear HO524; clear HO527; clear BK508; clear BK521; clear HB; have HO_10 := n0_; have HO_509000 := n1_; have HO_509001 := n2_; have HO513 := n3_; have HO516 := n4_; have HO519 := n5_; have HO524 := n6_; have HO527 := n7_; have BK508 := n8_; have BK521 := n9_; have HB := n10_; have BK528 := n11_; have GW528 := n12_; have GE528 := n13_; have NB508_528 := n14_; have NB528_508 := n15_; have NB521_528 := n16_; have NB528_521 := n17_; clear n0_ n1_ n2_ n3_ n4_ n5_ n6_ n7_ n8_ n9_ n10_ n11_ n12_ n13_ n14_ n15_ n16_ n17_; clear hb hbox hg; obtain ⟨Ao32, co32, eo32⟩ := Kd.R_slice HO524.out; subst eo32; have hnb33 := NB528_508.out; have hnc33 := NB508_528.out; have hnb34 := NB528_521.out; have hnc34 := NB521_528.out; have hcz35_0 : w31.cell? ⟨gb528, 0, none⟩ = some (.slice none 0 0) := (blk_cell BK528.out 0).trans rfl; have hcz35_1 : w31.cell? ⟨gb528, 1, none⟩ = some (.slice none 0 0) := (blk_cell BK528.out 1).trans rfl; have hfz35_0 := blk_frozen BK528.out 0; have hfz35_1 := blk_frozen BK528.out 1; obtain ⟨Ao36, co36, eo36⟩ := Kd.R_slice HO527.out; subst eo36)); try go_wp2_with (first | (go_at_call 23; refine calls_of_args (args' := #[.int .i64 (wrap64 (1 + (Int.tmod (wrap64 (a0)) 4))), .slice A1 (l1.take (x12_2 : Int).toNat).length c1]) (by rw [List.length_take, Nat.min_eq_left (by have h19 := of_decide_eq_true (show decide (x12_2 ≤ (l1.length : Int)) = true by assumption); omega)]) ?_; (with_reducible refine (hallmootlaw22_written.calls k2 (wrap64 (1 + (Int.tmod (wrap64 (a0)) 4))) _ _ (l1.take (x12_2 : Int).toNat) t511 t514 t517 t520 _ ?side1 ?side2 A20.out).mono ?_); (case side1 => repeat (first | exact (Kd.C_below HR510.out HB.out) | (with_reducible refine Kd.C_alloc ?_ _) | (with_reducible refine Kd.C_drewN ?_ _) | (with_reducible refine Kd.C_drew ?_))); (case side2 => exact HC510.out); rintro e w23 ⟨v512, v515, v518, rfl, ho0, ho1, ho2, hb⟩; have n0_ := Aside0.mk (Kd.R_elder' (by (with_reducible repeat (first | apply Kd.R_alloc | apply Kd.R_drewN | apply Kd.R_drew)); exact HO_10.out) (Kd.R_base ho2) hb); have n1_ := Aside0.mk (Kd.V_elder' (by (with_reducible repeat (first | apply Kd.V_alloc | apply Kd.V_drewN | apply Kd.V_drew)); exact HO_509000.out) (Kd.R_base ho2) hb); have n2_ := Aside0.mk (Kd.V_elder' (by (with_reducible repeat (first | apply Kd.V_alloc | apply Kd.V_drewN | apply Kd.V_drew)); exact HO_509001.out) (Kd.R_base ho2) hb); have n3_ := Aside0.mk (Kd.V_lower (Kd.V_mono (ok' := fun k_ => some k_ ≠ (v518 : Value).ownBlock ∧ some k_ ≠ (v505 : Value).ownBlock ∧ k_ ≠ gb508) ho0 (fun k_ hk_ => ⟨hk_.2, (Kd.fresh' (Kd.R_lt (by (with_reducible repeat (first | apply Kd.R_alloc | apply Kd.R_drewN | apply Kd.R_drew)); exact HO_10.out)) k_ hk_.1), (Kd.freshB (g := gb508) (o := .cells #[.slice Ao12 t498.length co12, .slice Ao14 t501.length co14] 25 (0, 0)) (by (with_reducible repeat (first | refine blk_drewN ?_ _ | refine blk_drew ?_ | refine blk_alloc ?_ _)); exact BK508.out) k_ hk_.1)⟩)) (below_size (by repeat (first | (with_reducible first | exact HB.out | apply below_alloc | apply pw_below_drewN | apply below_drew1 | refine below_set ?_ GE508.out) | exact HB.out)))); have n4_ := Aside0.mk (Kd.V_lower (Kd.V_mono (ok' := fun k_ => some k_ ≠ (v518 : Value).ownBlock ∧ some k_ ≠ (v505 : Value).ownBlock ∧ k_ ≠ gb508) ho1 (fun k_ hk_ => ⟨hk_.2, (Kd.fresh' (Kd.R_lt (by (with_reducible repeat (first | apply Kd.R_alloc | apply Kd.R_drewN | apply Kd.R_drew)); exact HO_10.out)) k_ hk_.1), (Kd.freshB (g := gb508) (o := .cells #[.slice Ao12 t498.length co12, .slice Ao14 t501.length co14] 25 (0, 0)) (by (with_reducible repeat (first | refine blk_drewN ?_ _ | refine blk_drew ?_ | refine blk_alloc ?_ _)); exact BK508.out) k_ hk_.1)⟩)) (below_size (by repeat (first | (with_reducible first | exact HB.out | apply below_alloc | apply pw_below_drewN | apply below_drew1 | refine below_set ?_ GE508.out) | exact HB.out)))); have n5_ := Aside0.mk (Kd.R_lower (Kd.R_new' (Kd.R_mono (ok' := fun k_ => True) ho2 (fun _ hk_ => trivial)) (Kd.R_lt (by (with_reducible repeat (first | apply Kd.R_alloc | apply Kd.R_drewN | apply Kd.R_drew)); exact HO_10.out))) (below_size (by repeat (first | (with_reducible first | exact HB.out | apply below_alloc | apply pw_below_drewN | apply below_drew1 | refine below_set ?_ GE508.out) | exact HB.out)))); have n6_ := Aside0.mk (blk_below (g := gb508) (o := .cells #[.slice Ao12 t498.length co12, .slice Ao14 t501.length co14] 25 (0, 0)) (by (with_reducible repeat (first | refine blk_drewN ?_ _ | refine blk_drew ?_ | refine blk_alloc ?_ _)); exact BK508.out) hb); have n7_ := Aside0.mk (below_step (by repeat (first | (with_reducible first | exact HB.out | apply below_alloc | apply pw_below_drewN | apply below_drew1 | refine below_set ?_ GE508.out) | exact HB.out)) hb); clear HO_10; clear HO_509000; clear HO_509001; clear BK508; clear HB; have HO_10 := n0_; have HO_509000 := n1_; have HO_509001 := n2_; have HO513 := n3_; have HO516 := n4_; have HO519 := n5_; have BK508 := n6_; have HB := n7_; clear n0_ n1_ n2_ n3_ n4_ n5_ n6_ n7_; (try clear hb); (try clear hb2); (try clear hk); (try clear hi); (try clear ho0); (try clear ho1); (try clear ho2)) | ((with_reducible refine gate_dst (N := 14) rfl ?_); (try (refine gate_guard (by rfl) ?_; dsimp only)); refine box_event ?hg (N := 14) ?hd (cs := #[.slice none 0 0, .slice none 0 0]) (t := 25) ?hr ?_; (case hd => rfl); (case hg => rfl); (case hr => first | (go_simp; done) | (go_simp; rfl)); intro gb521 hg w24 hbox hb; have n0_ := Aside0.mk (Kd.R_below (by (with_reducible repeat (first | apply Kd.R_alloc | apply Kd.R_drewN | apply Kd.R_drew)); exact HO_10.out) hb); have n1_ := Aside0.mk (Kd.V_below (Kd.V_elderB (by (with_reducible repeat (first | apply Kd.V_alloc | apply Kd.V_drewN | apply Kd.V_drew)); exact HO_509000.out) gb521 (Nat.le_of_eq hg.symm)) hb); have n2_ := Aside0.mk (Kd.V_below (Kd.V_elderB (by (with_reducible repeat (first | apply Kd.V_alloc | apply Kd.V_drewN | apply Kd.V_drew)); exact HO_509001.out) gb521 (Nat.le_of_eq hg.symm)) hb); have n3_ := Aside0.mk (Kd.V_below (Kd.V_elderB (by (with_reducible repeat (first | apply Kd.V_alloc | apply Kd.V_drewN | apply Kd.V_drew)); exact HO513.out) gb521 (Nat.le_of_eq hg.symm)) hb); have n4_ := Aside0.mk (Kd.V_below (Kd.V_elderB (by (with_reducible repeat (first | apply Kd.V_alloc | apply Kd.V_drewN | apply Kd.V_drew)); exact HO516.out) gb521 (Nat.le_of_eq hg.symm)) hb); have n5_ := Aside0.mk (Kd.R_below (by (with_reducible repeat (first | apply Kd.R_alloc | apply Kd.R_drewN | apply Kd.R_drew)); exact HO519.out) hb); have n6_ := Aside0.mk (blk_below (g := gb508) (o := .cells #[.slice Ao12 t498.length co12, .slice Ao14 t501.length co14] 25 (0, 0)) (by (with_reducible repeat (first | refine blk_drewN ?_ _ | refine blk_drew ?_ | refine blk_alloc ?_ _)); exact BK508.out) hb); have n7_ := Aside0.mk (below_step (by repeat (first | (with_reducible first | exact HB.out | apply below_alloc | apply pw_below_drewN | apply below_drew1 | refine below_set ?_ GE508.out) | exact HB.out)) hb); have n8_ := Aside0.mk (hbox); have n9_ := Aside0.mk ((by rw [hg]; exact (below_size (by repeat (first | (with_reducible first | exact HB.out | apply below_alloc | apply pw_below_drewN | apply below_drew1 | refine below_set ?_ GE508.out) | exact HB.out))) : w.heap.size ≤ gb521)); have n10_ := Aside0.mk ((by rw [hg]; exact (below_size (by repeat (first | (with_reducible first | exact HB.out | apply below_alloc | apply pw_below_drewN | apply below_drew1 | refine below_set ?_ GE508.out) | exact HB.out))) : w.heap.size ≤ gb521)); have n11_ := Aside0.mk ((by rw [hg]; exact Nat.ne_of_lt (blk_lt (g := gb508) (o := .cells #[.slice Ao12 t498.length co12, .slice Ao14 t501.length co14] 25 (0, 0)) (by (with_reducible repeat (first | refine blk_drewN ?_ _ | refine blk_drew ?_ | refine blk_alloc ?_ _)); exact BK508.out)) : gb508 ≠ gb521)); have n12_ := Aside0.mk ((by rw [hg]; exact Nat.ne_of_gt (blk_lt (g := gb508) (o := .cells #[.slice Ao12 t498.length co12, .slice Ao14 t501.length co14] 25 (0, 0)) (by (with_reducible repeat (first | refine blk_drewN ?_ _ | refine blk_drew ?_ | refine blk_alloc ?_ _)); exact BK508.out)) : gb521 ≠ gb508)); clear HO_10; clear HO_509000; clear HO_509001; clear HO513; clear HO516; clear HO519; clear BK508; clear HB; have HO_10 := n0_; have HO_509000 := n1_; have HO_509001 := n2_; have HO513 := n3_; have HO516 := n4_; have HO519 := n5_; have BK508 := n6_; have HB := n7_; have BK521 := n8_; have GW521 := n9_; have GE521 := n10_; have NB508_521 := n11_; have NB521_508 := n12_; clear n0_ n1_ n2_ n3_ n4_ n5_ n6_ n7_ n8_ n9_ n10_ n11_ n12_; clear hb hbox hg; obtain ⟨Ao25, co25, eo25⟩ := Kd.V_slice HO513.out; subst eo25; have hnb26 := NB521_508.out; have hnc26 := NB508_521.out; have hcz27_0 : w24.cell? ⟨gb521, 0, none⟩ = some (.slice none 0 0) := (blk_cell BK521.out 0).trans rfl; have hcz27_1 : w24.cell? ⟨gb521, 1, none⟩ = some (.slice none 0 0) := (blk_cell BK521.out 1).trans rfl; have hfz27_0 := blk_frozen BK521.out 0; have hfz27_1 := blk_frozen BK521.out 1; obtain ⟨Ao28, co28, eo28⟩ := Kd.V_slice HO516.out; subst eo28; have hcz29_0 : w24.cell? ⟨gb508, 0, none⟩ = some (.slice Ao12 t498.length co12) := (blk_cell BK508.out 0).trans rfl; have hcz29_1 : w24.cell? ⟨gb508, 1, none⟩ = some (.slice Ao14 t501.length co14) := (blk_cell BK508.out 1).trans rfl; have hfz29_0 := blk_frozen BK508.out 0; have hfz29_1 := blk_frozen BK508.out 1) | (go_at_call 21; (with_reducible refine (dCrash.calls _ _ t498 _ _ t501 _ _ l2 t522 t525 _ ?side1 ?side2 ?side3 ?side4 ?side5 ?side6 A21.out).mono ?_); (case side1 => refine (Kd.V_reads' (e := 9) (base := w.heap.size) (ok := fun k_ => (((some k_ ≠ (v505 : Value).ownBlock ∧ k_ ≠ gb508) ∧ some k_ ≠ (v518 : Value).ownBlock) ∧ k_ ≠ gb521)) (n := t498.length) (c := co12) ?_).2.2; exact (by (with_reducible repeat (first | apply Kd.V_alloc | apply Kd.V_drewN | apply Kd.V_drew)); exact (Kd.V_mono (Kd.V_far (p := ⟨gb521, 1, none⟩) (Kd.V_far (p := ⟨gb521, 0, none⟩) (Kd.V_mono HO_509000.out (fun k_ hk => (⟨hk, hk.2⟩ : _ ∧ k_ ≠ gb521))) (fun _ hk => hk.2) (.slice Ao25 t511.length co25)) (fun _ hk => hk.2) (.slice Ao28 t514.length co28)) (fun _ h_ => h_.1)))); (case side2 => exact (Kd.V_reads' HO_509000.out).2.1); (case side3 => refine (Kd.V_reads' (e := 46) (base := w.heap.size) (ok := fun k_ => (((some k_ ≠ (v505 : Value).ownBlock ∧ k_ ≠ gb508) ∧ some k_ ≠ (v518 : Value).ownBlock) ∧ k_ ≠ gb521)) (n := t501.length) (c := co14) ?_).2.2; exact (by (with_reducible repeat (first | apply Kd.V_alloc | apply Kd.V_drewN | apply Kd.V_drew)); exact (Kd.V_mono (Kd.V_far (p := ⟨gb521, 1, none⟩) (Kd.V_far (p := ⟨gb521, 0, none⟩) (Kd.V_mono HO_509001.out (fun k_ hk => (⟨hk, hk.2⟩ : _ ∧ k_ ≠ gb521))) (fun _ hk => hk.2) (.slice Ao25 t511.length co25)) (fun _ hk => hk.2) (.slice Ao28 t514.length co28)) (fun _ h_ => h_.1)))); (case side4 => exact (Kd.V_reads' HO_509001.out).2.1); (case side5 => exact Kd.C_below HR2.out (by repeat (first | (with_reducible first | exact HB.out | apply below_alloc | apply pw_below_drewN | apply below_drew1 | refine below_set ?_ GE508.out | refine below_set ?_ GE521.out) | exact HB.out))); (case side6 => exact HC2.out); rintro e w30 ⟨v523, v526, rfl, ho0, ho1, hb⟩; have n0_ := Aside0.mk (Kd.R_elder' (by (with_reducible repeat (first | apply Kd.R_alloc | apply Kd.R_drewN | apply Kd.R_drew)); exact (Kd.R_mono (Kd.R_far (p := ⟨gb521, 1, none⟩) (Kd.R_far (p := ⟨gb521, 0, none⟩) (Kd.R_types HO_10.out BK521.out (by decide)) (fun _ hk => hk.2) (.slice Ao25 t511.length co25)) (fun _ hk => hk.2) (.slice Ao28 t514.length co28)) (fun _ h_ => h_.1))) (Kd.R_base ho1) hb); have n1_ := Aside0.mk (Kd.V_mono (Kd.V_told (Kd.V_told (Kd.V_old (by (with_reducible repeat (first | apply Kd.V_alloc | apply Kd.V_drewN | apply Kd.V_drew)); exact (Kd.V_mono (Kd.V_far (p := ⟨gb521, 1, none⟩) (Kd.V_far (p := ⟨gb521, 0, none⟩) (Kd.V_mono HO_509000.out (fun k_ hk => (⟨hk, hk.2⟩ : _ ∧ k_ ≠ gb521))) (fun _ hk => hk.2) (.slice Ao25 t511.length co25)) (fun _ hk => hk.2) (.slice Ao28 t514.length co28)) (fun _ h_ => h_.1))) hb) (Kd.R_base ho0)) (Kd.R_base ho1)) (fun _ h_ => h_.1)); have n2_ := Aside0.mk (Kd.V_mono (Kd.V_told (Kd.V_told (Kd.V_old (by (with_reducible repeat (first | apply Kd.V_alloc | apply Kd.V_drewN | apply Kd.V_drew)); exact (Kd.V_mono (Kd.V_far (p := ⟨gb521, 1, none⟩) (Kd.V_far (p := ⟨gb521, 0, none⟩) (Kd.V_mono HO_509001.out (fun k_ hk => (⟨hk, hk.2⟩ : _ ∧ k_ ≠ gb521))) (fun _ hk => hk.2) (.slice Ao25 t511.length co25)) (fun _ hk => hk.2) (.slice Ao28 t514.length co28)) (fun _ h_ => h_.1))) hb) (Kd.R_base ho0)) (Kd.R_base ho1)) (fun _ h_ => h_.1)); have n3_ := Aside0.mk (Kd.V_mono (Kd.V_told (Kd.V_told (Kd.V_old (by (with_reducible repeat (first | apply Kd.V_alloc | apply Kd.V_drewN | apply Kd.V_drew)); exact (Kd.V_mono (Kd.V_far (p := ⟨gb521, 1, none⟩) (Kd.V_far (p := ⟨gb521, 0, none⟩) (Kd.V_mono HO513.out (fun k_ hk => (⟨hk, hk.2⟩ : _ ∧ k_ ≠ gb521))) (fun _ hk => hk.2) (.slice Ao25 t511.length co25)) (fun _ hk => hk.2) (.slice Ao28 t514.length co28)) (fun _ h_ => h_.1))) hb) (Kd.R_base ho0)) (Kd.R_base ho1)) (fun _ h_ => h_.1)); have n4_ := Aside0.mk (Kd.V_mono (Kd.V_told (Kd.V_told (Kd.V_old (by (with_reducible repeat (first | apply Kd.V_alloc | apply Kd.V_drewN | apply Kd.V_drew)); exact (Kd.V_mono (Kd.V_far (p := ⟨gb521, 1, none⟩) (Kd.V_far (p := ⟨gb521, 0, none⟩) (Kd.V_mono HO516.out (fun k_ hk => (⟨hk, hk.2⟩ : _ ∧ k_ ≠ gb521))) (fun _ hk => hk.2) (.slice Ao25 t511.length co25)) (fun _ hk => hk.2) (.slice Ao28 t514.length co28)) (fun _ h_ => h_.1))) hb) (Kd.R_base ho0)) (Kd.R_base ho1)) (fun _ h_ => h_.1)); have n5_ := Aside0.mk (Kd.R_elder' (by (with_reducible repeat (first | apply Kd.R_alloc | apply Kd.R_drewN | apply Kd.R_drew)); exact (Kd.R_mono (Kd.R_far (p := ⟨gb521, 1, none⟩) (Kd.R_far (p := ⟨gb521, 0, none⟩) (Kd.R_types HO519.out BK521.out (by decide)) (fun _ hk => hk.2) (.slice Ao25 t511.length co25)) (fun _ hk => hk.2) (.slice Ao28 t514.length co28)) (fun _ h_ => h_.1))) (Kd.R_base ho1) hb); have n6_ := Aside0.mk (Kd.R_lower ho0 (below_size (by repeat (first | (with_reducible first | exact HB.out | apply below_alloc | apply pw_below_drewN | apply below_drew1 | refine below_set ?_ GE508.out | refine below_set ?_ GE521.out) | exact HB.out)))); have n7_ := Aside0.mk (Kd.R_lower (Kd.R_new' (Kd.R_new' ho1 (Kd.R_lt (by (with_reducible repeat (first | apply Kd.R_alloc | apply Kd.R_drewN | apply Kd.R_drew)); exact (Kd.R_mono (Kd.R_far (p := ⟨gb521, 1, none⟩) (Kd.R_far (p := ⟨gb521, 0, none⟩) (Kd.R_types HO_10.out BK521.out (by decide)) (fun _ hk => hk.2) (.slice Ao25 t511.length co25)) (fun _ hk => hk.2) (.slice Ao28 t514.length co28)) (fun _ h_ => h_.1))))) (Kd.R_lt (by (with_reducible repeat (first | apply Kd.R_alloc | apply Kd.R_drewN | apply Kd.R_drew)); exact (Kd.R_mono (Kd.R_far (p := ⟨gb521, 1, none⟩) (Kd.R_far (p := ⟨gb521, 0, none⟩) (Kd.R_types HO519.out BK521.out (by decide)) (fun _ hk => hk.2) (.slice Ao25 t511.length co25)) (fun _ hk => hk.2) (.slice Ao28 t514.length co28)) (fun _ h_ => h_.1))))) (below_size (by repeat (first | (with_reducible first | exact HB.out | apply below_alloc | apply pw_below_drewN | apply below_drew1 | refine below_set ?_ GE508.out | refine below_set ?_ GE521.out) | exact HB.out)))); have n8_ := Aside0.mk (blk_below (g := gb508) (o := .cells #[.slice Ao12 t498.length co12, .slice Ao14 t501.length co14] 25 (0, 0)) (by (with_reducible repeat (first | refine blk_drewN ?_ _ | refine blk_drew ?_ | refine blk_alloc ?_ _)); refine blk_far ?_ NB508_521.out _; (with_reducible repeat (first | refine blk_drewN ?_ _ | refine blk_drew ?_ | refine blk_alloc ?_ _)); refine blk_far ?_ NB508_521.out _; (with_reducible repeat (first | refine blk_drewN ?_ _ | refine blk_drew ?_ | refine blk_alloc ?_ _)); exact BK508.out) hb); have n9_ := Aside0.mk (blk_below (g := gb521) (o := .cells #[.slice Ao25 t511.length co25, .slice Ao28 t514.length co28] 25 (0, 0)) (by (with_reducible repeat (first | refine blk_drewN ?_ _ | refine blk_drew ?_ | refine blk_alloc ?_ _)); refine blk_put (cs := #[.slice Ao25 t511.length co25, .slice none 0 0]) ?_ 1 _ rfl; (with_reducible repeat (first | refine blk_drewN ?_ _ | refine blk_drew ?_ | refine blk_alloc ?_ _)); refine blk_put (cs := #[.slice none 0 0, .slice none 0 0]) ?_ 0 _ rfl; (with_reducible repeat (first | refine blk_drewN ?_ _ | refine blk_drew ?_ | refine blk_alloc ?_ _)); exact BK521.out) hb); have n10_ := Aside0.mk (below_step (by repeat (first | (with_reducible first | exact HB.out | apply below_alloc | apply pw_below_drewN | apply below_drew1 | refine below_set ?_ GE508.out | refine below_set ?_ GE521.out) | exact HB.out)) hb); clear HO_10; clear HO_509000; clear HO_509001; clear HO513; clear HO516; clear HO519; clear BK508; clear BK521; clear HB; have HO_10 := n0_; have HO_509000 := n1_; have HO_509001 := n2_; have HO513 := n3_; have HO516 := n4_; have HO519 := n5_; have HO524 := n6_; have HO527 := n7_; have BK508 := n8_; have BK521 := n9_; have HB := n10_; clear n0_ n1_ n2_ n3_ n4_ n5_ n6_ n7_ n8_ n9_ n10_; (try clear hb); (try clear hb2); (try clear hk); (try clear hi); (try clear ho0); (try clear ho1)) | ((with_reducible refine gate_dst (N := 17) rfl ?_); (try (refine gate_guard (by rfl) ?_; dsimp only)); refine box_event ?hg (N := 17) ?hd (cs := #[.slice none 0 0, .slice none 0 0]) (t := 25) ?hr ?_; (case hd => rfl); (case hg => rfl); (case hr => first | (go_simp; done) | (go_simp; rfl)); intro gb528 hg w31 hbox hb; have n0_ := Aside0.mk (Kd.R_below (by (with_reducible repeat (first | apply Kd.R_alloc | apply Kd.R_drewN | apply Kd.R_drew)); exact HO_10.out) hb); have n1_ := Aside0.mk (Kd.V_below (Kd.V_elderB (by (with_reducible repeat (first | apply Kd.V_alloc | apply Kd.V_drewN | apply Kd.V_drew)); exact HO_509000.out) gb528 (Nat.le_of_eq hg.symm)) hb); have n2_ := Aside0.mk (Kd.V_below (Kd.V_elderB (by (with_reducible repeat (first | apply Kd.V_alloc | apply Kd.V_drewN | apply Kd.V_drew)); exact HO_509001.out) gb528 (Nat.le_of_eq hg.symm)) hb); have n3_ := Aside0.mk (Kd.V_below (Kd.V_elderB (by (with_reducible repeat (first | apply Kd.V_alloc | apply Kd.V_drewN | apply Kd.V_drew)); exact HO513.out) gb528 (Nat.le_of_eq hg.symm)) hb); have n4_ := Aside0.mk (Kd.V_below (Kd.V_elderB (by (with_reducible repeat (first | apply Kd.V_alloc | apply Kd.V_drewN | apply Kd.V_drew)); exact HO516.out) gb528 (Nat.le_of_eq hg.symm)) hb); have n5_ := Aside0.mk (Kd.R_below (by (with_reducible repeat (first | apply Kd.R_alloc | apply Kd.R_drewN | apply Kd.R_drew)); exact HO519.out) hb); have n6_ := Aside0.mk (Kd.R_below (by (with_reducible repeat (first | apply Kd.R_alloc | apply Kd.R_drewN | apply Kd.R_drew)); exact HO524.out) hb); have n7_ := Aside0.mk (Kd.R_below (by (with_reducible repeat (first | apply Kd.R_alloc | apply Kd.R_drewN | apply Kd.R_drew)); exact HO527.out) hb); have n8_ := Aside0.mk (blk_below (g := gb508) (o := .cells #[.slice Ao12 t498.length co12, .slice Ao14 t501.length co14] 25 (0, 0)) (by (with_reducible repeat (first | refine blk_drewN ?_ _ | refine blk_drew ?_ | refine blk_alloc ?_ _)); exact BK508.out) hb); have n9_ := Aside0.mk (blk_below (g := gb521) (o := .cells #[.slice Ao25 t511.length co25, .slice Ao28 t514.length co28] 25 (0, 0)) (by (with_reducible repeat (first | refine blk_drewN ?_ _ | refine blk_drew ?_ | refine blk_alloc ?_ _)); exact BK521.out) hb); have n10_ := Aside0.mk (below_step (by repeat (first | (with_reducible first | exact HB.out | apply below_alloc | apply pw_below_drewN | apply below_drew1 | refine below_set ?_ GE508.out | refine below_set ?_ GE521.out) | exact HB.out)) hb); have n11_ := Aside0.mk (hbox); have n12_ := Aside0.mk ((by rw [hg]; exact (below_size (by repeat (first | (with_reducible first | exact HB.out | apply below_alloc | apply pw_below_drewN | apply below_drew1 | refine below_set ?_ GE508.out | refine below_set ?_ GE521.out) | exact HB.out))) : w.heap.size ≤ gb528)); have n13_ := Aside0.mk ((by rw [hg]; exact (below_size (by repeat (first | (with_reducible first | exact HB.out | apply below_alloc | apply pw_below_drewN | apply below_drew1 | refine below_set ?_ GE508.out | refine below_set ?_ GE521.out) | exact HB.out))) : w.heap.size ≤ gb528)); have n14_ := Aside0.mk ((by rw [hg]; exact Nat.ne_of_lt (blk_lt (g := gb508) (o := .cells #[.slice Ao12 t498.length co12, .slice Ao14 t501.length co14] 25 (0, 0)) (by (with_reducible repeat (first | refine blk_drewN ?_ _ | refine blk_drew ?_ | refine blk_alloc ?_ _)); exact BK508.out)) : gb508 ≠ gb528)); have n15_ := Aside0.mk ((by rw [hg]; exact Nat.ne_of_gt (blk_lt (g := gb508) (o := .cells #[.slice Ao12 t498.length co12, .slice Ao14 t501.length co14] 25 (0, 0)) (by (with_reducible repeat (first | refine blk_drewN ?_ _ | refine blk_drew ?_ | refine blk_alloc ?_ _)); exact BK508.out)) : gb528 ≠ gb508)); have n16_ := Aside0.mk ((by rw [hg]; exact Nat.ne_of_lt (blk_lt (g := gb521) (o := .cells #[.slice Ao25 t511.length co25, .slice Ao28 t514.length co28] 25 (0, 0)) (by (with_reducible repeat (first | refine blk_drewN ?_ _ | refine blk_drew ?_ | refine blk_alloc ?_ _)); exact BK521.out)) : gb521 ≠ gb528)); have n17_ := Aside0.mk ((by rw [hg]; exact Nat.ne_of_gt (blk_lt (g := gb521) (o := .cells #[.slice Ao25 t511.length co25, .slice Ao28 t514.length co28] 25 (0, 0)) (by (with_reducible repeat (first | refine blk_drewN ?_ _ | refine blk_drew ?_ | refine blk_alloc ?_ _)); exact BK521.out)) : gb528 ≠ gb521)); clear HO_10; clear HO_509000; clear HO_509001; clear HO513; clear HO516; clear HO519; clear HO524; clear HO527; clear BK508; clear BK521; clear HB; have HO_10 := n0_; have HO_509000 := n1_; have HO_509001 := n2_; have HO513 := n3_; have HO516 := n4_; have HO519 := n5_; have HO524 := n6_; have HO527 := n7_; have BK508 := n8_; have BK521 := n9_; have HB := n10_; have BK528 := n11_; have GW528 := n12_; have GE528 := n13_; have NB508_528 := n14_; have NB528_508 := n15_; have NB521_528 := n16_; have NB528_521 := n17_; clear n0_ n1_ n2_ n3_ n4_ n5_ n6_ n7_ n8_ n9_ n10_ n11_ n12_ n13_ n14_ n15_ n16_ n17_; clear hb hbox hg; obtain ⟨Ao32, co32, eo32⟩ := Kd.R_slice HO524.out; subst eo32; have hnb33 := NB528_508.out; have hnc33 := NB508_528.out; have hnb34 := NB528_521.out; have hnc34 := NB521_528.out; have hcz35_0 : w31.cell? ⟨gb528, 0, none⟩ = some (.slice none 0 0) := (blk_cell BK528.out 0).trans rfl; have hcz35_1 : w31.cell? ⟨gb528, 1, none⟩ = some (.slice none 0 0) := (blk_cell BK528.out 1).trans rfl; have hfz35_0 := blk_frozen BK528.out 0; have hfz35_1 := blk_frozen BK528.out 1; obtain ⟨Ao36, co36, eo36⟩ := Kd.R_slice HO527.out; subst eo36)))
   go_loopg [18] k2 (fun kq v18 w' => ∃ (x18_3 : Int), v18 = .int .i64 x18_3 ∧ Aside0 (hallmootlaw22_DiskTearsBytes.l1 kq t497 (wrap64 (1 + (Int.tmod (wrap64 (a0)) 4))) t504 t507 t517 x18_3 t511 t514 t522 t525 = some r) ∧ Aside0 (kq ≤ k2) ∧ Aside0 (Kd.R k46 46 w' w.heap.size (fun k_ => some k_ ≠ (v518 : Value).ownBlock ∧ some k_ ≠ ((.slice Ao36 t525.length co36) : Value).ownBlock) v505 t504) ∧ Aside0 (Kd.R k46 46 w' w.heap.size (fun k_ => some k_ ≠ (v505 : Value).ownBlock ∧ some k_ ≠ ((.slice Ao36 t525.length co36) : Value).ownBlock) v518 t517) ∧ Aside0 (Kd.V Kd.string 9 w' w.heap.size (fun k_ => some k_ ≠ (v505 : Value).ownBlock ∧ some k_ ≠ (v518 : Value).ownBlock ∧ some k_ ≠ ((.slice Ao32 t522.length co32) : Value).ownBlock ∧ some k_ ≠ ((.slice Ao36 t525.length co36) : Value).ownBlock ∧ k_ ≠ gb508 ∧ k_ ≠ gb521 ∧ k_ ≠ gb528) (.slice Ao12 t498.length co12) t498) ∧ Aside0 (Kd.V k46 46 w' w.heap.size (fun k_ => some k_ ≠ (v505 : Value).ownBlock ∧ some k_ ≠ (v518 : Value).ownBlock ∧ some k_ ≠ ((.slice Ao32 t522.length co32) : Value).ownBlock ∧ some k_ ≠ ((.slice Ao36 t525.length co36) : Value).ownBlock ∧ k_ ≠ gb508 ∧ k_ ≠ gb521 ∧ k_ ≠ gb528) (.slice Ao14 t501.length co14) t501) ∧ Aside0 (Kd.V Kd.string 9 w' w.heap.size (fun k_ => some k_ ≠ (v505 : Value).ownBlock ∧ some k_ ≠ (v518 : Value).ownBlock ∧ some k_ ≠ ((.slice Ao32 t522.length co32) : Value).ownBlock ∧ some k_ ≠ ((.slice Ao36 t525.length co36) : Value).ownBlock ∧ k_ ≠ gb508 ∧ k_ ≠ gb521 ∧ k_ ≠ gb528) (.slice Ao25 t511.length co25) t511) ∧ Aside0 (Kd.V k46 46 w' w.heap.size (fun k_ => some k_ ≠ (v505 : Value).ownBlock ∧ some k_ ≠ (v518 : Value).ownBlock ∧ some k_ ≠ ((.slice Ao32 t522.length co32) : Value).ownBlock ∧ some k_ ≠ ((.slice Ao36 t525.length co36) : Value).ownBlock ∧ k_ ≠ gb508 ∧ k_ ≠ gb521 ∧ k_ ≠ gb528) (.slice Ao28 t514.length co28) t514) ∧ Aside0 (Kd.R Kd.string 9 w' w.heap.size (fun _ => True) (.slice Ao32 t522.length co32) t522) ∧ Aside0 (Kd.R k46 46 w' w.heap.size (fun k_ => some k_ ≠ (v505 : Value).ownBlock ∧ some k_ ≠ (v518 : Value).ownBlock) (.slice Ao36 t525.length co36) t525) ∧ Aside0 (w'.heap[gb508]? = some (.cells #[(.slice Ao12 t498.length co12), (.slice Ao14 t501.length co14)] 25 (0, 0))) ∧ Aside0 (w'.heap[gb521]? = some (.cells #[(.slice Ao25 t511.length co25), (.slice Ao28 t514.length co28)] 25 (0, 0))) ∧ Aside0 (w'.heap[gb528]? = some (.cells #[(.slice Ao32 t522.length co32), (.slice Ao36 t525.length co36)] 25 (0, 0))) ∧ Aside0 (Below w.heap.size w w'))
   case atStart => exact ⟨(0), (by first | rfl | (simp; done) | (simp [*]; done)), H', ⟨Nat.le_refl _⟩, ⟨by (with_reducible repeat (first | apply Kd.R_alloc | apply Kd.R_drewN | apply Kd.R_drew)); exact Kd.R_mono (Kd.R_far (p := ⟨gb528, 1, none⟩) (Kd.R_far (p := ⟨gb528, 0, none⟩) (Kd.R_types HO_10.out BK528.out (by decide)) (fun _ hk => hk.2) (.slice Ao32 t522.length co32)) (fun _ hk => hk.2) (.slice Ao36 t525.length co36)) (fun _ hk => ⟨hk.1.1.2, hk.1.2⟩)⟩, ⟨by (with_reducible repeat (first | apply Kd.R_alloc | apply Kd.R_drewN | apply Kd.R_drew)); exact Kd.R_mono (Kd.R_far (p := ⟨gb528, 1, none⟩) (Kd.R_far (p := ⟨gb528, 0, none⟩) (Kd.R_types HO519.out BK528.out (by decide)) (fun _ hk => hk.2) (.slice Ao32 t522.length co32)) (fun _ hk => hk.2) (.slice Ao36 t525.length co36)) (fun _ hk => ⟨hk.1.1.2, hk.1.2⟩)⟩, ⟨by (with_reducible repeat (first | apply Kd.V_alloc | apply Kd.V_drewN | apply Kd.V_drew)); exact Kd.V_mono (Kd.V_far (p := ⟨gb528, 1, none⟩) (Kd.V_far (p := ⟨gb528, 0, none⟩) (Kd.V_mono HO_509000.out (fun k_ hk => (⟨hk, hk.2⟩ : _ ∧ k_ ≠ gb528))) (fun _ hk => hk.2) (.slice Ao32 t522.length co32)) (fun _ hk => hk.2) (.slice Ao36 t525.length co36)) (fun _ hk => ⟨hk.1.1.1.1.1.1.1, ⟨hk.1.1.1.1.1.2, ⟨hk.1.1.1.2, ⟨hk.1.1.2, ⟨hk.1.1.1.1.1.1.2, ⟨hk.1.1.1.1.2, hk.1.2⟩⟩⟩⟩⟩⟩)⟩, ⟨by (with_reducible repeat (first | apply Kd.V_alloc | apply Kd.V_drewN | apply Kd.V_drew)); exact Kd.V_mono (Kd.V_far (p := ⟨gb528, 1, none⟩) (Kd.V_far (p := ⟨gb528, 0, none⟩) (Kd.V_mono HO_509001.out (fun k_ hk => (⟨hk, hk.2⟩ : _ ∧ k_ ≠ gb528))) (fun _ hk => hk.2) (.slice Ao32 t522.length co32)) (fun _ hk => hk.2) (.slice Ao36 t525.length co36)) (fun _ hk => ⟨hk.1.1.1.1.1.1.1, ⟨hk.1.1.1.1.1.2, ⟨hk.1.1.1.2, ⟨hk.1.1.2, ⟨hk.1.1.1.1.1.1.2, ⟨hk.1.1.1.1.2, hk.1.2⟩⟩⟩⟩⟩⟩)⟩, ⟨by (with_reducible repeat (first | apply Kd.V_alloc | apply Kd.V_drewN | apply Kd.V_drew)); exact Kd.V_mono (Kd.V_far (p := ⟨gb528, 1, none⟩) (Kd.V_far (p := ⟨gb528, 0, none⟩) (Kd.V_mono HO513.out (fun k_ hk => (⟨hk, hk.2⟩ : _ ∧ k_ ≠ gb528))) (fun _ hk => hk.2) (.slice Ao32 t522.length co32)) (fun _ hk => hk.2) (.slice Ao36 t525.length co36)) (fun _ hk => ⟨hk.1.1.1.1.1.2.1, ⟨hk.1.1.1.1.1.1, ⟨hk.1.1.1.2, ⟨hk.1.1.2, ⟨hk.1.1.1.1.1.2.2, ⟨hk.1.1.1.1.2, hk.1.2⟩⟩⟩⟩⟩⟩)⟩, ⟨by (with_reducible repeat (first | apply Kd.V_alloc | apply Kd.V_drewN | apply Kd.V_drew)); exact Kd.V_mono (Kd.V_far (p := ⟨gb528, 1, none⟩) (Kd.V_far (p := ⟨gb528, 0, none⟩) (Kd.V_mono HO516.out (fun k_ hk => (⟨hk, hk.2⟩ : _ ∧ k_ ≠ gb528))) (fun _ hk => hk.2) (.slice Ao32 t522.length co32)) (fun _ hk => hk.2) (.slice Ao36 t525.length co36)) (fun _ hk => ⟨hk.1.1.1.1.1.2.1, ⟨hk.1.1.1.1.1.1, ⟨hk.1.1.1.2, ⟨hk.1.1.2, ⟨hk.1.1.1.1.1.2.2, ⟨hk.1.1.1.1.2, hk.1.2⟩⟩⟩⟩⟩⟩)⟩, ⟨by (with_reducible repeat (first | apply Kd.R_alloc | apply Kd.R_drewN | apply Kd.R_drew)); exact Kd.R_mono (Kd.R_far (p := ⟨gb528, 1, none⟩) (Kd.R_far (p := ⟨gb528, 0, none⟩) (Kd.R_types HO524.out BK528.out (by decide)) (fun _ hk => hk.2) (.slice Ao32 t522.length co32)) (fun _ hk => hk.2) (.slice Ao36 t525.length co36)) (fun _ hk => trivial)⟩, ⟨by (with_reducible repeat (first | apply Kd.R_alloc | apply Kd.R_drewN | apply Kd.R_drew)); exact Kd.R_mono (Kd.R_far (p := ⟨gb528, 1, none⟩) (Kd.R_far (p := ⟨gb528, 0, none⟩) (Kd.R_types HO527.out BK528.out (by decide)) (fun _ hk => hk.2) (.slice Ao32 t522.length co32)) (fun _ hk => hk.2) (.slice Ao36 t525.length co36)) (fun _ hk => ⟨hk.1.1.2, hk.1.2⟩)⟩, ⟨by (with_reducible repeat (first | refine blk_drewN ?_ _ | refine blk_drew ?_ | refine blk_alloc ?_ _)); refine blk_far ?_ NB508_528.out _; (with_reducible repeat (first | refine blk_drewN ?_ _ | refine blk_drew ?_ | refine blk_alloc ?_ _)); refine blk_far ?_ NB508_528.out _; (with_reducible repeat (first | refine blk_drewN ?_ _ | refine blk_drew ?_ | refine blk_alloc ?_ _)); exact BK508.out⟩, ⟨by (with_reducible repeat (first | refine blk_drewN ?_ _ | refine blk_drew ?_ | refine blk_alloc ?_ _)); refine blk_far ?_ NB521_528.out _; (with_reducible repeat (first | refine blk_drewN ?_ _ | refine blk_drew ?_ | refine blk_alloc ?_ _)); refine blk_far ?_ NB521_528.out _; (with_reducible repeat (first | refine blk_drewN ?_ _ | refine blk_drew ?_ | refine blk_alloc ?_ _)); exact BK521.out⟩, ⟨by (with_reducible repeat (first | refine blk_drewN ?_ _ | refine blk_drew ?_ | refine blk_alloc ?_ _)); refine blk_put (cs := #[.slice Ao32 t522.length co32, .slice none 0 0]) ?_ 1 _ rfl; (with_reducible repeat (first | refine blk_drewN ?_ _ | refine blk_drew ?_ | refine blk_alloc ?_ _)); refine blk_put (cs := #[.slice none 0 0, .slice none 0 0]) ?_ 0 _ rfl; (with_reducible repeat (first | refine blk_drewN ?_ _ | refine blk_drew ?_ | refine blk_alloc ?_ _)); exact BK528.out⟩, ⟨by repeat (first | (with_reducible first | exact HB.out | apply below_alloc | apply pw_below_drewN | apply below_drew1 | refine below_set ?_ GE508.out | refine below_set ?_ GE521.out | refine below_set ?_ GE528.out) | exact HB.out)⟩⟩
   case round =>
    clear H'
    try clear c1
    try clear c2
    try clear p2
    try clear c3
    try clear p5
    try clear q5
    try clear hx5
    try clear c6
    try clear p6
    try clear c7
    try clear c7b0
    try clear c7b1
    try clear c8
    try clear c15
    try clear c15b0
    try clear c16
    try clear c16b0
    try clear c17
    try clear c17b0
    try clear c17b1
    try clear c18
    try clear c18b0
    try clear c18b1
    try clear c19
    try clear c19b0
    try clear c19b1
    try clear c26
    try clear c33
    try clear c34
    try clear hcz13_0
    try clear hcz13_1
    try clear hcz27_0
    try clear hcz27_1
    try clear hcz29_0
    try clear hcz29_1
    try clear hcz35_0
    try clear hcz35_1
    try clear hfz13_0
    try clear hfz13_1
    try clear hfz27_0
    try clear hfz27_1
    try clear hfz29_0
    try clear hfz29_1
    try clear hfz35_0
    try clear hfz35_1
    try clear hx509_0
    try clear p2
    try clear p509
    try clear p6
    try clear q509
    obtain ⟨x18_3, rfl, HA, HK3, HO_10, HO_15, HO_509000, HO_509001, HO_522000, HO_522001, HO_529000, HO_529001, BK508, BK521, BK528, HB⟩ := hrel
    cases gk with
    | zero => exact absurd HA.out (by simp [hallmootlaw22_DiskTearsBytes.l1])
    | succ k3 => {
    have H := HA.out
    clear HA
    simp only [hallmootlaw22_DiskTearsBytes.l1] at H
    have HC37 := Aside0.mk H
    clear H
    go_upto_region 15 with (fail)
    repeat (go_quiet (fail); go_upto_region 15 with (fail))
    go_cut [77] (fun v77 wc => ∃ (kq : Nat) (x77_36 : Bool), v77 = .bool x77_36 ∧ Aside0 (hallmootlaw22_DiskTearsBytes.j3 kq t497 (wrap64 (1 + (Int.tmod (wrap64 (a0)) 4))) t504 t507 t517 x18_3 x77_36 t511 t514 t522 t525 = some r) ∧ Aside0 (kq ≤ k3) ∧ Aside0 (Kd.R k46 46 wc w.heap.size (fun k_ => some k_ ≠ (v518 : Value).ownBlock ∧ some k_ ≠ ((.slice Ao36 t525.length co36) : Value).ownBlock) v505 t504) ∧ Aside0 (Kd.R k46 46 wc w.heap.size (fun k_ => some k_ ≠ (v505 : Value).ownBlock ∧ some k_ ≠ ((.slice Ao36 t525.length co36) : Value).ownBlock) v518 t517) ∧ Aside0 (Kd.V Kd.string 9 wc w.heap.size (fun k_ => some k_ ≠ (v505 : Value).ownBlock ∧ some k_ ≠ (v518 : Value).ownBlock ∧ some k_ ≠ ((.slice Ao32 t522.length co32) : Value).ownBlock ∧ some k_ ≠ ((.slice Ao36 t525.length co36) : Value).ownBlock ∧ k_ ≠ gb508 ∧ k_ ≠ gb521 ∧ k_ ≠ gb528) (.slice Ao12 t498.length co12) t498) ∧ Aside0 (Kd.V k46 46 wc w.heap.size (fun k_ => some k_ ≠ (v505 : Value).ownBlock ∧ some k_ ≠ (v518 : Value).ownBlock ∧ some k_ ≠ ((.slice Ao32 t522.length co32) : Value).ownBlock ∧ some k_ ≠ ((.slice Ao36 t525.length co36) : Value).ownBlock ∧ k_ ≠ gb508 ∧ k_ ≠ gb521 ∧ k_ ≠ gb528) (.slice Ao14 t501.length co14) t501) ∧ Aside0 (Kd.V Kd.string 9 wc w.heap.size (fun k_ => some k_ ≠ (v505 : Value).ownBlock ∧ some k_ ≠ (v518 : Value).ownBlock ∧ some k_ ≠ ((.slice Ao32 t522.length co32) : Value).ownBlock ∧ some k_ ≠ ((.slice Ao36 t525.length co36) : Value).ownBlock ∧ k_ ≠ gb508 ∧ k_ ≠ gb521 ∧ k_ ≠ gb528) (.slice Ao25 t511.length co25) t511) ∧ Aside0 (Kd.V k46 46 wc w.heap.size (fun k_ => some k_ ≠ (v505 : Value).ownBlock ∧ some k_ ≠ (v518 : Value).ownBlock ∧ some k_ ≠ ((.slice Ao32 t522.length co32) : Value).ownBlock ∧ some k_ ≠ ((.slice Ao36 t525.length co36) : Value).ownBlock ∧ k_ ≠ gb508 ∧ k_ ≠ gb521 ∧ k_ ≠ gb528) (.slice Ao28 t514.length co28) t514) ∧ Aside0 (Kd.R Kd.string 9 wc w.heap.size (fun _ => True) (.slice Ao32 t522.length co32) t522) ∧ Aside0 (Kd.R k46 46 wc w.heap.size (fun k_ => some k_ ≠ (v505 : Value).ownBlock ∧ some k_ ≠ (v518 : Value).ownBlock) (.slice Ao36 t525.length co36) t525) ∧ Aside0 (wc.heap[gb508]? = some (.cells #[(.slice Ao12 t498.length co12), (.slice Ao14 t501.length co14)] 25 (0, 0))) ∧ Aside0 (wc.heap[gb521]? = some (.cells #[(.slice Ao25 t511.length co25), (.slice Ao28 t514.length co28)] 25 (0, 0))) ∧ Aside0 (wc.heap[gb528]? = some (.cells #[(.slice Ao32 t522.length co32), (.slice Ao36 t525.length co36)] 25 (0, 0))) ∧ Aside0 (Below w.heap.size w wc))
    case first =>
     have H := HC37.out
     clear HC37
     by_cases c38 : x18_3 < (wrap64 (1 + (Int.tmod (wrap64 (a0)) 4)))
     {
     rw [if_pos c38] at H
     have c38b0 : decide (x18_3 < (wrap64 (1 + (Int.tmod (wrap64 (a0)) 4)))) = true := decide_eq_true c38
     clear c38
     (first | rw [c38b0] | (simp only [i64_w, i32_w]; rw [c38b0]) | skip)
     have H' := Aside0.mk H
     clear H
     go_wp2
     repeat (go_quiet (fail); try go_wp2)
     go_meet
     case rel => exact ⟨_, (t507), (by first | rfl | (simp; done) | (simp [*]; done)), H', ⟨by have := HJ4.out; have := HK2.out; have := HK3.out; first | omega | exact Nat.le_refl _⟩, ⟨by (with_reducible repeat (first | apply Kd.R_alloc | apply Kd.R_drewN | apply Kd.R_drew)); exact HO_10.out⟩, ⟨by (with_reducible repeat (first | apply Kd.R_alloc | apply Kd.R_drewN | apply Kd.R_drew)); exact HO_15.out⟩, ⟨by (with_reducible repeat (first | apply Kd.V_alloc | apply Kd.V_drewN | apply Kd.V_drew)); exact HO_509000.out⟩, ⟨by (with_reducible repeat (first | apply Kd.V_alloc | apply Kd.V_drewN | apply Kd.V_drew)); exact HO_509001.out⟩, ⟨by (with_reducible repeat (first | apply Kd.V_alloc | apply Kd.V_drewN | apply Kd.V_drew)); exact HO_522000.out⟩, ⟨by (with_reducible repeat (first | apply Kd.V_alloc | apply Kd.V_drewN | apply Kd.V_drew)); exact HO_522001.out⟩, ⟨by (with_reducible repeat (first | apply Kd.R_alloc | apply Kd.R_drewN | apply Kd.R_drew)); exact HO_529000.out⟩, ⟨by (with_reducible repeat (first | apply Kd.R_alloc | apply Kd.R_drewN | apply Kd.R_drew)); exact HO_529001.out⟩, ⟨by (with_reducible repeat (first | refine blk_drewN ?_ _ | refine blk_drew ?_ | refine blk_alloc ?_ _)); exact BK508.out⟩, ⟨by (with_reducible repeat (first | refine blk_drewN ?_ _ | refine blk_drew ?_ | refine blk_alloc ?_ _)); exact BK521.out⟩, ⟨by (with_reducible repeat (first | refine blk_drewN ?_ _ | refine blk_drew ?_ | refine blk_alloc ?_ _)); exact BK528.out⟩, ⟨by repeat (first | (with_reducible first | exact HB.out | apply below_alloc | apply pw_below_drewN | apply below_drew1 | refine below_set ?_ GE508.out | refine below_set ?_ GE521.out | refine below_set ?_ GE528.out) | exact HB.out)⟩⟩ }
     {
     rw [if_neg c38] at H
     have c38b0 : decide (x18_3 < (wrap64 (1 + (Int.tmod (wrap64 (a0)) 4)))) = false := decide_eq_false c38
     clear c38
     (first | rw [c38b0] | (simp only [i64_w, i32_w]; rw [c38b0]) | skip)
     have H' := Aside0.mk H
     clear H
     go_wp2
     repeat (go_quiet (fail); try go_wp2)
     go_meet
     case rel => exact ⟨_, (false), (by first | rfl | (simp; done) | (simp [*]; done)), H', ⟨by have := HJ4.out; have := HK2.out; have := HK3.out; first | omega | exact Nat.le_refl _⟩, ⟨by (with_reducible repeat (first | apply Kd.R_alloc | apply Kd.R_drewN | apply Kd.R_drew)); exact HO_10.out⟩, ⟨by (with_reducible repeat (first | apply Kd.R_alloc | apply Kd.R_drewN | apply Kd.R_drew)); exact HO_15.out⟩, ⟨by (with_reducible repeat (first | apply Kd.V_alloc | apply Kd.V_drewN | apply Kd.V_drew)); exact HO_509000.out⟩, ⟨by (with_reducible repeat (first | apply Kd.V_alloc | apply Kd.V_drewN | apply Kd.V_drew)); exact HO_509001.out⟩, ⟨by (with_reducible repeat (first | apply Kd.V_alloc | apply Kd.V_drewN | apply Kd.V_drew)); exact HO_522000.out⟩, ⟨by (with_reducible repeat (first | apply Kd.V_alloc | apply Kd.V_drewN | apply Kd.V_drew)); exact HO_522001.out⟩, ⟨by (with_reducible repeat (first | apply Kd.R_alloc | apply Kd.R_drewN | apply Kd.R_drew)); exact HO_529000.out⟩, ⟨by (with_reducible repeat (first | apply Kd.R_alloc | apply Kd.R_drewN | apply Kd.R_drew)); exact HO_529001.out⟩, ⟨by (with_reducible repeat (first | refine blk_drewN ?_ _ | refine blk_drew ?_ | refine blk_alloc ?_ _)); exact BK508.out⟩, ⟨by (with_reducible repeat (first | refine blk_drewN ?_ _ | refine blk_drew ?_ | refine blk_alloc ?_ _)); exact BK521.out⟩, ⟨by (with_reducible repeat (first | refine blk_drewN ?_ _ | refine blk_drew ?_ | refine blk_alloc ?_ _)); exact BK528.out⟩, ⟨by repeat (first | (with_reducible first | exact HB.out | apply below_alloc | apply pw_below_drewN | apply below_drew1 | refine below_set ?_ GE508.out | refine below_set ?_ GE521.out | refine below_set ?_ GE528.out) | exact HB.out)⟩⟩ }
    case rest =>
     clear HC37
     try clear c1
     try clear c2
     try clear p2
     try clear c3
     try clear p5
     try clear q5
     try clear hx5
     try clear c6
     try clear p6
     try clear c7
     try clear c7b0
     try clear c7b1
     try clear c8
     try clear c15
     try clear c15b0
     try clear c16
     try clear c16b0
     try clear c17
     try clear c17b0
     try clear c17b1
     try clear c18
     try clear c18b0
     try clear c18b1
     try clear c19
     try clear c19b0
     try clear c19b1
     try clear c26
     try clear c33
     try clear c34
     try clear c38
     try clear c38b0
     try clear hcz13_0
     try clear hcz13_1
     try clear hcz27_0
     try clear hcz27_1
     try clear hcz29_0
     try clear hcz29_1
     try clear hcz35_0
     try clear hcz35_1
     try clear hfz13_0
     try clear hfz13_1
     try clear hfz27_0
     try clear hfz27_1
     try clear hfz29_0
     try clear hfz29_1
     try clear hfz35_0
     try clear hfz35_1
     try clear hx509_0
     try clear p2
     try clear p5
     try clear p509
     try clear p6
     try clear q5
     try clear q509
     obtain ⟨kq, x77_36, rfl, HA, HJ36, HO_10, HO_15, HO_509000, HO_509001, HO_522000, HO_522001, HO_529000, HO_529001, BK508, BK521, BK528, HB⟩ := hcut
     cases kq with
     | zero => exact absurd HA.out (by simp [hallmootlaw22_DiskTearsBytes.j3])
     | succ kj36 => {
     have H := HA.out
     clear HA
     simp only [hallmootlaw22_DiskTearsBytes.j3] at H
     by_cases c39 : x77_36 = true
     {
     subst c39
     have H1 : ((disk_Read.f t522 t525 x18_3).bind fun bt530 => ((disk_Read.f t511 t514 x18_3).bind fun bt532 => (if bt530.2 = 0 then (if bt532.2 = 0 then (if (bt530.1.size : Int) = 32 then (hallmootlaw22_DiskTearsBytes.j4 kj36 t497 (wrap64 (1 + (Int.tmod (wrap64 (a0)) 4))) t504 t507 t517 x18_3 bt530.1 bt532.1 ((bt532.1.size : Int) != 32) t511 t514 t522 t525) else (hallmootlaw22_DiskTearsBytes.j4 kj36 t497 (wrap64 (1 + (Int.tmod (wrap64 (a0)) 4))) t504 t507 t517 x18_3 bt530.1 bt532.1 true t511 t514 t522 t525)) else (hallmootlaw22_DiskTearsBytes.j4 kj36 t497 (wrap64 (1 + (Int.tmod (wrap64 (a0)) 4))) t504 t507 t517 x18_3 bt530.1 bt532.1 true t511 t514 t522 t525)) else (hallmootlaw22_DiskTearsBytes.j4 kj36 t497 (wrap64 (1 + (Int.tmod (wrap64 (a0)) 4))) t504 t507 t517 x18_3 bt530.1 bt532.1 true t511 t514 t522 t525)))) = some r := by rw [if_pos rfl] at H; exact H
     clear H
     have H := H1
     clear H1
     replace H := Option.bind_eq_some_iff.mp H
     obtain ⟨⟨t530, t531⟩, A400, H⟩ := H
     replace H : ((disk_Read.f t511 t514 x18_3).bind fun bt532 => (if t531 = 0 then (if bt532.2 = 0 then (if (t530.size : Int) = 32 then (hallmootlaw22_DiskTearsBytes.j4 kj36 t497 (wrap64 (1 + (Int.tmod (wrap64 (a0)) 4))) t504 t507 t517 x18_3 t530 bt532.1 ((bt532.1.size : Int) != 32) t511 t514 t522 t525) else (hallmootlaw22_DiskTearsBytes.j4 kj36 t497 (wrap64 (1 + (Int.tmod (wrap64 (a0)) 4))) t504 t507 t517 x18_3 t530 bt532.1 true t511 t514 t522 t525)) else (hallmootlaw22_DiskTearsBytes.j4 kj36 t497 (wrap64 (1 + (Int.tmod (wrap64 (a0)) 4))) t504 t507 t517 x18_3 t530 bt532.1 true t511 t514 t522 t525)) else (hallmootlaw22_DiskTearsBytes.j4 kj36 t497 (wrap64 (1 + (Int.tmod (wrap64 (a0)) 4))) t504 t507 t517 x18_3 t530 bt532.1 true t511 t514 t522 t525))) = some r := H
     have A40 := Aside0.mk A400
     clear A400
     replace H := Option.bind_eq_some_iff.mp H
     obtain ⟨⟨t532, t533⟩, A410, H⟩ := H
     replace H : (if t531 = 0 then (if t533 = 0 then (if (t530.size : Int) = 32 then (hallmootlaw22_DiskTearsBytes.j4 kj36 t497 (wrap64 (1 + (Int.tmod (wrap64 (a0)) 4))) t504 t507 t517 x18_3 t530 t532 ((t532.size : Int) != 32) t511 t514 t522 t525) else (hallmootlaw22_DiskTearsBytes.j4 kj36 t497 (wrap64 (1 + (Int.tmod (wrap64 (a0)) 4))) t504 t507 t517 x18_3 t530 t532 true t511 t514 t522 t525)) else (hallmootlaw22_DiskTearsBytes.j4 kj36 t497 (wrap64 (1 + (Int.tmod (wrap64 (a0)) 4))) t504 t507 t517 x18_3 t530 t532 true t511 t514 t522 t525)) else (hallmootlaw22_DiskTearsBytes.j4 kj36 t497 (wrap64 (1 + (Int.tmod (wrap64 (a0)) 4))) t504 t507 t517 x18_3 t530 t532 true t511 t514 t522 t525)) = some r := H
     have A41 := Aside0.mk A410
     clear A410
     have HC42 := Aside0.mk H
     clear H
     have hnb43 := NB528_508.out
     have hnc43 := NB508_528.out
     have hnb44 := NB528_521.out
     have hnc44 := NB521_528.out
     have hcz45_0 : wc.cell? ⟨gb528, 0, none⟩ = some (.slice Ao32 t522.length co32) := (blk_cell BK528.out 0).trans rfl
     have hcz45_1 : wc.cell? ⟨gb528, 1, none⟩ = some (.slice Ao36 t525.length co36) := (blk_cell BK528.out 1).trans rfl
     have hfz45_0 := blk_frozen BK528.out 0
     have hfz45_1 := blk_frozen BK528.out 1
     go_upto_region 19 with (first | (go_at_call 15; (with_reducible refine (disk_Read.calls _ _ t522 _ _ t525 x18_3 t530 t531 _ ?side1 ?side2 ?side3 ?side4 A40.out).mono ?_); (case side1 => repeat (first | exact (Kd.R_reads' HO_529000.out).2.2 | (with_reducible refine Kd.C_alloc ?_ _) | (with_reducible refine Kd.C_drewN ?_ _) | (with_reducible refine Kd.C_drew ?_))); (case side2 => exact (Kd.R_reads' HO_529000.out).2.1); (case side3 => repeat (first | exact (Kd.R_reads' HO_529001.out).2.2 | (with_reducible refine Kd.C_alloc ?_ _) | (with_reducible refine Kd.C_drewN ?_ _) | (with_reducible refine Kd.C_drew ?_))); (case side4 => exact (Kd.R_reads' HO_529001.out).2.1); rintro e w46 ⟨rfl, hb⟩; have n0_ := Aside0.mk (Kd.R_below (by (with_reducible repeat (first | apply Kd.R_alloc | apply Kd.R_drewN | apply Kd.R_drew)); exact HO_10.out) hb); have n1_ := Aside0.mk (Kd.R_below (by (with_reducible repeat (first | apply Kd.R_alloc | apply Kd.R_drewN | apply Kd.R_drew)); exact HO_15.out) hb); have n2_ := Aside0.mk (Kd.V_below (by (with_reducible repeat (first | apply Kd.V_alloc | apply Kd.V_drewN | apply Kd.V_drew)); exact HO_509000.out) hb); have n3_ := Aside0.mk (Kd.V_below (by (with_reducible repeat (first | apply Kd.V_alloc | apply Kd.V_drewN | apply Kd.V_drew)); exact HO_509001.out) hb); have n4_ := Aside0.mk (Kd.V_below (by (with_reducible repeat (first | apply Kd.V_alloc | apply Kd.V_drewN | apply Kd.V_drew)); exact HO_522000.out) hb); have n5_ := Aside0.mk (Kd.V_below (by (with_reducible repeat (first | apply Kd.V_alloc | apply Kd.V_drewN | apply Kd.V_drew)); exact HO_522001.out) hb); have n6_ := Aside0.mk (Kd.R_below (by (with_reducible repeat (first | apply Kd.R_alloc | apply Kd.R_drewN | apply Kd.R_drew)); exact HO_529000.out) hb); have n7_ := Aside0.mk (Kd.R_below (by (with_reducible repeat (first | apply Kd.R_alloc | apply Kd.R_drewN | apply Kd.R_drew)); exact HO_529001.out) hb); have n8_ := Aside0.mk (blk_below (g := gb508) (o := .cells #[.slice Ao12 t498.length co12, .slice Ao14 t501.length co14] 25 (0, 0)) (by (with_reducible repeat (first | refine blk_drewN ?_ _ | refine blk_drew ?_ | refine blk_alloc ?_ _)); exact BK508.out) hb); have n9_ := Aside0.mk (blk_below (g := gb521) (o := .cells #[.slice Ao25 t511.length co25, .slice Ao28 t514.length co28] 25 (0, 0)) (by (with_reducible repeat (first | refine blk_drewN ?_ _ | refine blk_drew ?_ | refine blk_alloc ?_ _)); exact BK521.out) hb); have n10_ := Aside0.mk (blk_below (g := gb528) (o := .cells #[.slice Ao32 t522.length co32, .slice Ao36 t525.length co36] 25 (0, 0)) (by (with_reducible repeat (first | refine blk_drewN ?_ _ | refine blk_drew ?_ | refine blk_alloc ?_ _)); exact BK528.out) hb); have n11_ := Aside0.mk (below_step (by repeat (first | (with_reducible first | exact HB.out | apply below_alloc | apply pw_below_drewN | apply below_drew1 | refine below_set ?_ GE508.out | refine below_set ?_ GE521.out | refine below_set ?_ GE528.out) | exact HB.out)) hb); clear HO_10; clear HO_15; clear HO_509000; clear HO_509001; clear HO_522000; clear HO_522001; clear HO_529000; clear HO_529001; clear BK508; clear BK521; clear BK528; clear HB; have HO_10 := n0_; have HO_15 := n1_; have HO_509000 := n2_; have HO_509001 := n3_; have HO_522000 := n4_; have HO_522001 := n5_; have HO_529000 := n6_; have HO_529001 := n7_; have BK508 := n8_; have BK521 := n9_; have BK528 := n10_; have HB := n11_; clear n0_ n1_ n2_ n3_ n4_ n5_ n6_ n7_ n8_ n9_ n10_ n11_; (try clear hb); (try clear hb2); (try clear hk); (try clear hi); have hnb47 := NB521_508.out; have hnc47 := NB508_521.out; have hcz48_0 : w46.cell? ⟨gb521, 0, none⟩ = some (.slice Ao25 t511.length co25) := (blk_cell BK521.out 0).trans rfl; have hcz48_1 : w46.cell? ⟨gb521, 1, none⟩ = some (.slice Ao28 t514.length co28) := (blk_cell BK521.out 1).trans rfl; have hfz48_0 := blk_frozen BK521.out 0; have hfz48_1 := blk_frozen BK521.out 1) | (go_at_call 15; (with_reducible refine (disk_Read.calls _ _ t511 _ _ t514 x18_3 t532 t533 _ ?side1 ?side2 ?side3 ?side4 A41.out).mono ?_); (case side1 => repeat (first | exact (Kd.V_reads' HO_522000.out).2.2 | (with_reducible refine Kd.C_alloc ?_ _) | (with_reducible refine Kd.C_drewN ?_ _) | (with_reducible refine Kd.C_drew ?_))); (case side2 => exact (Kd.V_reads' HO_522000.out).2.1); (case side3 => repeat (first | exact (Kd.V_reads' HO_522001.out).2.2 | (with_reducible refine Kd.C_alloc ?_ _) | (with_reducible refine Kd.C_drewN ?_ _) | (with_reducible refine Kd.C_drew ?_))); (case side4 => exact (Kd.V_reads' HO_522001.out).2.1); rintro e w49 ⟨rfl, hb⟩; have n0_ := Aside0.mk (Kd.R_below (by (with_reducible repeat (first | apply Kd.R_alloc | apply Kd.R_drewN | apply Kd.R_drew)); exact HO_10.out) hb); have n1_ := Aside0.mk (Kd.R_below (by (with_reducible repeat (first | apply Kd.R_alloc | apply Kd.R_drewN | apply Kd.R_drew)); exact HO_15.out) hb); have n2_ := Aside0.mk (Kd.V_below (by (with_reducible repeat (first | apply Kd.V_alloc | apply Kd.V_drewN | apply Kd.V_drew)); exact HO_509000.out) hb); have n3_ := Aside0.mk (Kd.V_below (by (with_reducible repeat (first | apply Kd.V_alloc | apply Kd.V_drewN | apply Kd.V_drew)); exact HO_509001.out) hb); have n4_ := Aside0.mk (Kd.V_below (by (with_reducible repeat (first | apply Kd.V_alloc | apply Kd.V_drewN | apply Kd.V_drew)); exact HO_522000.out) hb); have n5_ := Aside0.mk (Kd.V_below (by (with_reducible repeat (first | apply Kd.V_alloc | apply Kd.V_drewN | apply Kd.V_drew)); exact HO_522001.out) hb); have n6_ := Aside0.mk (Kd.R_below (by (with_reducible repeat (first | apply Kd.R_alloc | apply Kd.R_drewN | apply Kd.R_drew)); exact HO_529000.out) hb); have n7_ := Aside0.mk (Kd.R_below (by (with_reducible repeat (first | apply Kd.R_alloc | apply Kd.R_drewN | apply Kd.R_drew)); exact HO_529001.out) hb); have n8_ := Aside0.mk (blk_below (g := gb508) (o := .cells #[.slice Ao12 t498.length co12, .slice Ao14 t501.length co14] 25 (0, 0)) (by (with_reducible repeat (first | refine blk_drewN ?_ _ | refine blk_drew ?_ | refine blk_alloc ?_ _)); exact BK508.out) hb); have n9_ := Aside0.mk (blk_below (g := gb521) (o := .cells #[.slice Ao25 t511.length co25, .slice Ao28 t514.length co28] 25 (0, 0)) (by (with_reducible repeat (first | refine blk_drewN ?_ _ | refine blk_drew ?_ | refine blk_alloc ?_ _)); exact BK521.out) hb); have n10_ := Aside0.mk (blk_below (g := gb528) (o := .cells #[.slice Ao32 t522.length co32, .slice Ao36 t525.length co36] 25 (0, 0)) (by (with_reducible repeat (first | refine blk_drewN ?_ _ | refine blk_drew ?_ | refine blk_alloc ?_ _)); exact BK528.out) hb); have n11_ := Aside0.mk (below_step (by repeat (first | (with_reducible first | exact HB.out | apply below_alloc | apply pw_below_drewN | apply below_drew1 | refine below_set ?_ GE508.out | refine below_set ?_ GE521.out | refine below_set ?_ GE528.out) | exact HB.out)) hb); clear HO_10; clear HO_15; clear HO_509000; clear HO_509001; clear HO_522000; clear HO_522001; clear HO_529000; clear HO_529001; clear BK508; clear BK521; clear BK528; clear HB; have HO_10 := n0_; have HO_15 := n1_; have HO_509000 := n2_; have HO_509001 := n3_; have HO_522000 := n4_; have HO_522001 := n5_; have HO_529000 := n6_; have HO_529001 := n7_; have BK508 := n8_; have BK521 := n9_; have BK528 := n10_; have HB := n11_; clear n0_ n1_ n2_ n3_ n4_ n5_ n6_ n7_ n8_ n9_ n10_ n11_; (try clear hb); (try clear hb2); (try clear hk); (try clear hi)))
     repeat (go_quiet (first | (go_at_call 15; (with_reducible refine (disk_Read.calls _ _ t522 _ _ t525 x18_3 t530 t531 _ ?side1 ?side2 ?side3 ?side4 A40.out).mono ?_); (case side1 => repeat (first | exact (Kd.R_reads' HO_529000.out).2.2 | (with_reducible refine Kd.C_alloc ?_ _) | (with_reducible refine Kd.C_drewN ?_ _) | (with_reducible refine Kd.C_drew ?_))); (case side2 => exact (Kd.R_reads' HO_529000.out).2.1); (case side3 => repeat (first | exact (Kd.R_reads' HO_529001.out).2.2 | (with_reducible refine Kd.C_alloc ?_ _) | (with_reducible refine Kd.C_drewN ?_ _) | (with_reducible refine Kd.C_drew ?_))); (case side4 => exact (Kd.R_reads' HO_529001.out).2.1); rintro e w46 ⟨rfl, hb⟩; have n0_ := Aside0.mk (Kd.R_below (by (with_reducible repeat (first | apply Kd.R_alloc | apply Kd.R_drewN | apply Kd.R_drew)); exact HO_10.out) hb); have n1_ := Aside0.mk (Kd.R_below (by (with_reducible repeat (first | apply Kd.R_alloc | apply Kd.R_drewN | apply Kd.R_drew)); exact HO_15.out) hb); have n2_ := Aside0.mk (Kd.V_below (by (with_reducible repeat (first | apply Kd.V_alloc | apply Kd.V_drewN | apply Kd.V_drew)); exact HO_509000.out) hb); have n3_ := Aside0.mk (Kd.V_below (by (with_reducible repeat (first | apply Kd.V_alloc | apply Kd.V_drewN | apply Kd.V_drew)); exact HO_509001.out) hb); have n4_ := Aside0.mk (Kd.V_below (by (with_reducible repeat (first | apply Kd.V_alloc | apply Kd.V_drewN | apply Kd.V_drew)); exact HO_522000.out) hb); have n5_ := Aside0.mk (Kd.V_below (by (with_reducible repeat (first | apply Kd.V_alloc | apply Kd.V_drewN | apply Kd.V_drew)); exact HO_522001.out) hb); have n6_ := Aside0.mk (Kd.R_below (by (with_reducible repeat (first | apply Kd.R_alloc | apply Kd.R_drewN | apply Kd.R_drew)); exact HO_529000.out) hb); have n7_ := Aside0.mk (Kd.R_below (by (with_reducible repeat (first | apply Kd.R_alloc | apply Kd.R_drewN | apply Kd.R_drew)); exact HO_529001.out) hb); have n8_ := Aside0.mk (blk_below (g := gb508) (o := .cells #[.slice Ao12 t498.length co12, .slice Ao14 t501.length co14] 25 (0, 0)) (by (with_reducible repeat (first | refine blk_drewN ?_ _ | refine blk_drew ?_ | refine blk_alloc ?_ _)); exact BK508.out) hb); have n9_ := Aside0.mk (blk_below (g := gb521) (o := .cells #[.slice Ao25 t511.length co25, .slice Ao28 t514.length co28] 25 (0, 0)) (by (with_reducible repeat (first | refine blk_drewN ?_ _ | refine blk_drew ?_ | refine blk_alloc ?_ _)); exact BK521.out) hb); have n10_ := Aside0.mk (blk_below (g := gb528) (o := .cells #[.slice Ao32 t522.length co32, .slice Ao36 t525.length co36] 25 (0, 0)) (by (with_reducible repeat (first | refine blk_drewN ?_ _ | refine blk_drew ?_ | refine blk_alloc ?_ _)); exact BK528.out) hb); have n11_ := Aside0.mk (below_step (by repeat (first | (with_reducible first | exact HB.out | apply below_alloc | apply pw_below_drewN | apply below_drew1 | refine below_set ?_ GE508.out | refine below_set ?_ GE521.out | refine below_set ?_ GE528.out) | exact HB.out)) hb); clear HO_10; clear HO_15; clear HO_509000; clear HO_509001; clear HO_522000; clear HO_522001; clear HO_529000; clear HO_529001; clear BK508; clear BK521; clear BK528; clear HB; have HO_10 := n0_; have HO_15 := n1_; have HO_509000 := n2_; have HO_509001 := n3_; have HO_522000 := n4_; have HO_522001 := n5_; have HO_529000 := n6_; have HO_529001 := n7_; have BK508 := n8_; have BK521 := n9_; have BK528 := n10_; have HB := n11_; clear n0_ n1_ n2_ n3_ n4_ n5_ n6_ n7_ n8_ n9_ n10_ n11_; (try clear hb); (try clear hb2); (try clear hk); (try clear hi); have hnb47 := NB521_508.out; have hnc47 := NB508_521.out; have hcz48_0 : w46.cell? ⟨gb521, 0, none⟩ = some (.slice Ao25 t511.length co25) := (blk_cell BK521.out 0).trans rfl; have hcz48_1 : w46.cell? ⟨gb521, 1, none⟩ = some (.slice Ao28 t514.length co28) := (blk_cell BK521.out 1).trans rfl; have hfz48_0 := blk_frozen BK521.out 0; have hfz48_1 := blk_frozen BK521.out 1) | (go_at_call 15; (with_reducible refine (disk_Read.calls _ _ t511 _ _ t514 x18_3 t532 t533 _ ?side1 ?side2 ?side3 ?side4 A41.out).mono ?_); (case side1 => repeat (first | exact (Kd.V_reads' HO_522000.out).2.2 | (with_reducible refine Kd.C_alloc ?_ _) | (with_reducible refine Kd.C_drewN ?_ _) | (with_reducible refine Kd.C_drew ?_))); (case side2 => exact (Kd.V_reads' HO_522000.out).2.1); (case side3 => repeat (first | exact (Kd.V_reads' HO_522001.out).2.2 | (with_reducible refine Kd.C_alloc ?_ _) | (with_reducible refine Kd.C_drewN ?_ _) | (with_reducible refine Kd.C_drew ?_))); (case side4 => exact (Kd.V_reads' HO_522001.out).2.1); rintro e w49 ⟨rfl, hb⟩; have n0_ := Aside0.mk (Kd.R_below (by (with_reducible repeat (first | apply Kd.R_alloc | apply Kd.R_drewN | apply Kd.R_drew)); exact HO_10.out) hb); have n1_ := Aside0.mk (Kd.R_below (by (with_reducible repeat (first | apply Kd.R_alloc | apply Kd.R_drewN | apply Kd.R_drew)); exact HO_15.out) hb); have n2_ := Aside0.mk (Kd.V_below (by (with_reducible repeat (first | apply Kd.V_alloc | apply Kd.V_drewN | apply Kd.V_drew)); exact HO_509000.out) hb); have n3_ := Aside0.mk (Kd.V_below (by (with_reducible repeat (first | apply Kd.V_alloc | apply Kd.V_drewN | apply Kd.V_drew)); exact HO_509001.out) hb); have n4_ := Aside0.mk (Kd.V_below (by (with_reducible repeat (first | apply Kd.V_alloc | apply Kd.V_drewN | apply Kd.V_drew)); exact HO_522000.out) hb); have n5_ := Aside0.mk (Kd.V_below (by (with_reducible repeat (first | apply Kd.V_alloc | apply Kd.V_drewN | apply Kd.V_drew)); exact HO_522001.out) hb); have n6_ := Aside0.mk (Kd.R_below (by (with_reducible repeat (first | apply Kd.R_alloc | apply Kd.R_drewN | apply Kd.R_drew)); exact HO_529000.out) hb); have n7_ := Aside0.mk (Kd.R_below (by (with_reducible repeat (first | apply Kd.R_alloc | apply Kd.R_drewN | apply Kd.R_drew)); exact HO_529001.out) hb); have n8_ := Aside0.mk (blk_below (g := gb508) (o := .cells #[.slice Ao12 t498.length co12, .slice Ao14 t501.length co14] 25 (0, 0)) (by (with_reducible repeat (first | refine blk_drewN ?_ _ | refine blk_drew ?_ | refine blk_alloc ?_ _)); exact BK508.out) hb); have n9_ := Aside0.mk (blk_below (g := gb521) (o := .cells #[.slice Ao25 t511.length co25, .slice Ao28 t514.length co28] 25 (0, 0)) (by (with_reducible repeat (first | refine blk_drewN ?_ _ | refine blk_drew ?_ | refine blk_alloc ?_ _)); exact BK521.out) hb); have n10_ := Aside0.mk (blk_below (g := gb528) (o := .cells #[.slice Ao32 t522.length co32, .slice Ao36 t525.length co36] 25 (0, 0)) (by (with_reducible repeat (first | refine blk_drewN ?_ _ | refine blk_drew ?_ | refine blk_alloc ?_ _)); exact BK528.out) hb); have n11_ := Aside0.mk (below_step (by repeat (first | (with_reducible first | exact HB.out | apply below_alloc | apply pw_below_drewN | apply below_drew1 | refine below_set ?_ GE508.out | refine below_set ?_ GE521.out | refine below_set ?_ GE528.out) | exact HB.out)) hb); clear HO_10; clear HO_15; clear HO_509000; clear HO_509001; clear HO_522000; clear HO_522001; clear HO_529000; clear HO_529001; clear BK508; clear BK521; clear BK528; clear HB; have HO_10 := n0_; have HO_15 := n1_; have HO_509000 := n2_; have HO_509001 := n3_; have HO_522000 := n4_; have HO_522001 := n5_; have HO_529000 := n6_; have HO_529001 := n7_; have BK508 := n8_; have BK521 := n9_; have BK528 := n10_; have HB := n11_; clear n0_ n1_ n2_ n3_ n4_ n5_ n6_ n7_ n8_ n9_ n10_ n11_; (try clear hb); (try clear hb2); (try clear hk); (try clear hi))); go_upto_region 19 with (first | (go_at_call 15; (with_reducible refine (disk_Read.calls _ _ t522 _ _ t525 x18_3 t530 t531 _ ?side1 ?side2 ?side3 ?side4 A40.out).mono ?_); (case side1 => repeat (first | exact (Kd.R_reads' HO_529000.out).2.2 | (with_reducible refine Kd.C_alloc ?_ _) | (with_reducible refine Kd.C_drewN ?_ _) | (with_reducible refine Kd.C_drew ?_))); (case side2 => exact (Kd.R_reads' HO_529000.out).2.1); (case side3 => repeat (first | exact (Kd.R_reads' HO_529001.out).2.2 | (with_reducible refine Kd.C_alloc ?_ _) | (with_reducible refine Kd.C_drewN ?_ _) | (with_reducible refine Kd.C_drew ?_))); (case side4 => exact (Kd.R_reads' HO_529001.out).2.1); rintro e w46 ⟨rfl, hb⟩; have n0_ := Aside0.mk (Kd.R_below (by (with_reducible repeat (first | apply Kd.R_alloc | apply Kd.R_drewN | apply Kd.R_drew)); exact HO_10.out) hb); have n1_ := Aside0.mk (Kd.R_below (by (with_reducible repeat (first | apply Kd.R_alloc | apply Kd.R_drewN | apply Kd.R_drew)); exact HO_15.out) hb); have n2_ := Aside0.mk (Kd.V_below (by (with_reducible repeat (first | apply Kd.V_alloc | apply Kd.V_drewN | apply Kd.V_drew)); exact HO_509000.out) hb); have n3_ := Aside0.mk (Kd.V_below (by (with_reducible repeat (first | apply Kd.V_alloc | apply Kd.V_drewN | apply Kd.V_drew)); exact HO_509001.out) hb); have n4_ := Aside0.mk (Kd.V_below (by (with_reducible repeat (first | apply Kd.V_alloc | apply Kd.V_drewN | apply Kd.V_drew)); exact HO_522000.out) hb); have n5_ := Aside0.mk (Kd.V_below (by (with_reducible repeat (first | apply Kd.V_alloc | apply Kd.V_drewN | apply Kd.V_drew)); exact HO_522001.out) hb); have n6_ := Aside0.mk (Kd.R_below (by (with_reducible repeat (first | apply Kd.R_alloc | apply Kd.R_drewN | apply Kd.R_drew)); exact HO_529000.out) hb); have n7_ := Aside0.mk (Kd.R_below (by (with_reducible repeat (first | apply Kd.R_alloc | apply Kd.R_drewN | apply Kd.R_drew)); exact HO_529001.out) hb); have n8_ := Aside0.mk (blk_below (g := gb508) (o := .cells #[.slice Ao12 t498.length co12, .slice Ao14 t501.length co14] 25 (0, 0)) (by (with_reducible repeat (first | refine blk_drewN ?_ _ | refine blk_drew ?_ | refine blk_alloc ?_ _)); exact BK508.out) hb); have n9_ := Aside0.mk (blk_below (g := gb521) (o := .cells #[.slice Ao25 t511.length co25, .slice Ao28 t514.length co28] 25 (0, 0)) (by (with_reducible repeat (first | refine blk_drewN ?_ _ | refine blk_drew ?_ | refine blk_alloc ?_ _)); exact BK521.out) hb); have n10_ := Aside0.mk (blk_below (g := gb528) (o := .cells #[.slice Ao32 t522.length co32, .slice Ao36 t525.length co36] 25 (0, 0)) (by (with_reducible repeat (first | refine blk_drewN ?_ _ | refine blk_drew ?_ | refine blk_alloc ?_ _)); exact BK528.out) hb); have n11_ := Aside0.mk (below_step (by repeat (first | (with_reducible first | exact HB.out | apply below_alloc | apply pw_below_drewN | apply below_drew1 | refine below_set ?_ GE508.out | refine below_set ?_ GE521.out | refine below_set ?_ GE528.out) | exact HB.out)) hb); clear HO_10; clear HO_15; clear HO_509000; clear HO_509001; clear HO_522000; clear HO_522001; clear HO_529000; clear HO_529001; clear BK508; clear BK521; clear BK528; clear HB; have HO_10 := n0_; have HO_15 := n1_; have HO_509000 := n2_; have HO_509001 := n3_; have HO_522000 := n4_; have HO_522001 := n5_; have HO_529000 := n6_; have HO_529001 := n7_; have BK508 := n8_; have BK521 := n9_; have BK528 := n10_; have HB := n11_; clear n0_ n1_ n2_ n3_ n4_ n5_ n6_ n7_ n8_ n9_ n10_ n11_; (try clear hb); (try clear hb2); (try clear hk); (try clear hi); have hnb47 := NB521_508.out; have hnc47 := NB508_521.out; have hcz48_0 : w46.cell? ⟨gb521, 0, none⟩ = some (.slice Ao25 t511.length co25) := (blk_cell BK521.out 0).trans rfl; have hcz48_1 : w46.cell? ⟨gb521, 1, none⟩ = some (.slice Ao28 t514.length co28) := (blk_cell BK521.out 1).trans rfl; have hfz48_0 := blk_frozen BK521.out 0; have hfz48_1 := blk_frozen BK521.out 1) | (go_at_call 15; (with_reducible refine (disk_Read.calls _ _ t511 _ _ t514 x18_3 t532 t533 _ ?side1 ?side2 ?side3 ?side4 A41.out).mono ?_); (case side1 => repeat (first | exact (Kd.V_reads' HO_522000.out).2.2 | (with_reducible refine Kd.C_alloc ?_ _) | (with_reducible refine Kd.C_drewN ?_ _) | (with_reducible refine Kd.C_drew ?_))); (case side2 => exact (Kd.V_reads' HO_522000.out).2.1); (case side3 => repeat (first | exact (Kd.V_reads' HO_522001.out).2.2 | (with_reducible refine Kd.C_alloc ?_ _) | (with_reducible refine Kd.C_drewN ?_ _) | (with_reducible refine Kd.C_drew ?_))); (case side4 => exact (Kd.V_reads' HO_522001.out).2.1); rintro e w49 ⟨rfl, hb⟩; have n0_ := Aside0.mk (Kd.R_below (by (with_reducible repeat (first | apply Kd.R_alloc | apply Kd.R_drewN | apply Kd.R_drew)); exact HO_10.out) hb); have n1_ := Aside0.mk (Kd.R_below (by (with_reducible repeat (first | apply Kd.R_alloc | apply Kd.R_drewN | apply Kd.R_drew)); exact HO_15.out) hb); have n2_ := Aside0.mk (Kd.V_below (by (with_reducible repeat (first | apply Kd.V_alloc | apply Kd.V_drewN | apply Kd.V_drew)); exact HO_509000.out) hb); have n3_ := Aside0.mk (Kd.V_below (by (with_reducible repeat (first | apply Kd.V_alloc | apply Kd.V_drewN | apply Kd.V_drew)); exact HO_509001.out) hb); have n4_ := Aside0.mk (Kd.V_below (by (with_reducible repeat (first | apply Kd.V_alloc | apply Kd.V_drewN | apply Kd.V_drew)); exact HO_522000.out) hb); have n5_ := Aside0.mk (Kd.V_below (by (with_reducible repeat (first | apply Kd.V_alloc | apply Kd.V_drewN | apply Kd.V_drew)); exact HO_522001.out) hb); have n6_ := Aside0.mk (Kd.R_below (by (with_reducible repeat (first | apply Kd.R_alloc | apply Kd.R_drewN | apply Kd.R_drew)); exact HO_529000.out) hb); have n7_ := Aside0.mk (Kd.R_below (by (with_reducible repeat (first | apply Kd.R_alloc | apply Kd.R_drewN | apply Kd.R_drew)); exact HO_529001.out) hb); have n8_ := Aside0.mk (blk_below (g := gb508) (o := .cells #[.slice Ao12 t498.length co12, .slice Ao14 t501.length co14] 25 (0, 0)) (by (with_reducible repeat (first | refine blk_drewN ?_ _ | refine blk_drew ?_ | refine blk_alloc ?_ _)); exact BK508.out) hb); have n9_ := Aside0.mk (blk_below (g := gb521) (o := .cells #[.slice Ao25 t511.length co25, .slice Ao28 t514.length co28] 25 (0, 0)) (by (with_reducible repeat (first | refine blk_drewN ?_ _ | refine blk_drew ?_ | refine blk_alloc ?_ _)); exact BK521.out) hb); have n10_ := Aside0.mk (blk_below (g := gb528) (o := .cells #[.slice Ao32 t522.length co32, .slice Ao36 t525.length co36] 25 (0, 0)) (by (with_reducible repeat (first | refine blk_drewN ?_ _ | refine blk_drew ?_ | refine blk_alloc ?_ _)); exact BK528.out) hb); have n11_ := Aside0.mk (below_step (by repeat (first | (with_reducible first | exact HB.out | apply below_alloc | apply pw_below_drewN | apply below_drew1 | refine below_set ?_ GE508.out | refine below_set ?_ GE521.out | refine below_set ?_ GE528.out) | exact HB.out)) hb); clear HO_10; clear HO_15; clear HO_509000; clear HO_509001; clear HO_522000; clear HO_522001; clear HO_529000; clear HO_529001; clear BK508; clear BK521; clear BK528; clear HB; have HO_10 := n0_; have HO_15 := n1_; have HO_509000 := n2_; have HO_509001 := n3_; have HO_522000 := n4_; have HO_522001 := n5_; have HO_529000 := n6_; have HO_529001 := n7_; have BK508 := n8_; have BK521 := n9_; have BK528 := n10_; have HB := n11_; clear n0_ n1_ n2_ n3_ n4_ n5_ n6_ n7_ n8_ n9_ n10_ n11_; (try clear hb); (try clear hb2); (try clear hk); (try clear hi))))
     (try simp only [Act.put, List.setIfInBounds_toArray, List.set_cons_zero, List.set_cons_succ])
     go_cut [107] (fun v107 wc => ∃ (kq : Nat) (x107_41 : Bool), v107 = .bool x107_41 ∧ Aside0 (hallmootlaw22_DiskTearsBytes.j4 kq t497 (wrap64 (1 + (Int.tmod (wrap64 (a0)) 4))) t504 t507 t517 x18_3 t530 t532 x107_41 t511 t514 t522 t525 = some r) ∧ Aside0 (kq ≤ kj36) ∧ Aside0 (Kd.R k46 46 wc w.heap.size (fun k_ => some k_ ≠ (v518 : Value).ownBlock ∧ some k_ ≠ ((.slice Ao36 t525.length co36) : Value).ownBlock) v505 t504) ∧ Aside0 (Kd.R k46 46 wc w.heap.size (fun k_ => some k_ ≠ (v505 : Value).ownBlock ∧ some k_ ≠ ((.slice Ao36 t525.length co36) : Value).ownBlock) v518 t517) ∧ Aside0 (Kd.V Kd.string 9 wc w.heap.size (fun k_ => some k_ ≠ (v505 : Value).ownBlock ∧ some k_ ≠ (v518 : Value).ownBlock ∧ some k_ ≠ ((.slice Ao32 t522.length co32) : Value).ownBlock ∧ some k_ ≠ ((.slice Ao36 t525.length co36) : Value).ownBlock ∧ k_ ≠ gb508 ∧ k_ ≠ gb521 ∧ k_ ≠ gb528) (.slice Ao12 t498.length co12) t498) ∧ Aside0 (Kd.V k46 46 wc w.heap.size (fun k_ => some k_ ≠ (v505 : Value).ownBlock ∧ some k_ ≠ (v518 : Value).ownBlock ∧ some k_ ≠ ((.slice Ao32 t522.length co32) : Value).ownBlock ∧ some k_ ≠ ((.slice Ao36 t525.length co36) : Value).ownBlock ∧ k_ ≠ gb508 ∧ k_ ≠ gb521 ∧ k_ ≠ gb528) (.slice Ao14 t501.length co14) t501) ∧ Aside0 (Kd.V Kd.string 9 wc w.heap.size (fun k_ => some k_ ≠ (v505 : Value).ownBlock ∧ some k_ ≠ (v518 : Value).ownBlock ∧ some k_ ≠ ((.slice Ao32 t522.length co32) : Value).ownBlock ∧ some k_ ≠ ((.slice Ao36 t525.length co36) : Value).ownBlock ∧ k_ ≠ gb508 ∧ k_ ≠ gb521 ∧ k_ ≠ gb528) (.slice Ao25 t511.length co25) t511) ∧ Aside0 (Kd.V k46 46 wc w.heap.size (fun k_ => some k_ ≠ (v505 : Value).ownBlock ∧ some k_ ≠ (v518 : Value).ownBlock ∧ some k_ ≠ ((.slice Ao32 t522.length co32) : Value).ownBlock ∧ some k_ ≠ ((.slice Ao36 t525.length co36) : Value).ownBlock ∧ k_ ≠ gb508 ∧ k_ ≠ gb521 ∧ k_ ≠ gb528) (.slice Ao28 t514.length co28) t514) ∧ Aside0 (Kd.R Kd.string 9 wc w.heap.size (fun _ => True) (.slice Ao32 t522.length co32) t522) ∧ Aside0 (Kd.R k46 46 wc w.heap.size (fun k_ => some k_ ≠ (v505 : Value).ownBlock ∧ some k_ ≠ (v518 : Value).ownBlock) (.slice Ao36 t525.length co36) t525) ∧ Aside0 (wc.heap[gb508]? = some (.cells #[(.slice Ao12 t498.length co12), (.slice Ao14 t501.length co14)] 25 (0, 0))) ∧ Aside0 (wc.heap[gb521]? = some (.cells #[(.slice Ao25 t511.length co25), (.slice Ao28 t514.length co28)] 25 (0, 0))) ∧ Aside0 (wc.heap[gb528]? = some (.cells #[(.slice Ao32 t522.length co32), (.slice Ao36 t525.length co36)] 25 (0, 0))) ∧ Aside0 (Below w.heap.size w wc))
     case first =>
      have H := HC42.out
      clear HC42
      by_cases c50 : t531 = 0
      {
      rw [if_pos c50] at H
      have c50b0 : (t531 == 0) = true := beq_iff_eq.mpr c50
      have c50b1 : (t531 != 0) = false := bne_eq_false_iff_eq.mpr c50
      clear c50
      (first | rw [c50b0] | (simp only [i64_w, i32_w]; rw [c50b0]) | skip)
      by_cases c51 : t533 = 0
      {
      rw [if_pos c51] at H
      have c51b0 : (t533 == 0) = true := beq_iff_eq.mpr c51
      have c51b1 : (t533 != 0) = false := bne_eq_false_iff_eq.mpr c51
      clear c51
      by_cases c52 : (t530.size : Int) = 32
      {
      rw [if_pos c52] at H
      have c52b0 : ((t530.size : Int) == 32) = true := beq_iff_eq.mpr c52
      have c52b1 : ((t530.size : Int) != 32) = false := bne_eq_false_iff_eq.mpr c52
      clear c52
      have H' := Aside0.mk H
      clear H
      go_wp2
      repeat (go_quiet (fail); try go_wp2)
      go_meet
      case rel => exact ⟨_, (((t532.size : Int) != 32)), (by first | rfl | (simp; done) | (simp [*]; done)), H', ⟨by have := HJ4.out; have := HK2.out; have := HK3.out; have := HJ36.out; first | omega | exact Nat.le_refl _⟩, ⟨by (with_reducible repeat (first | apply Kd.R_alloc | apply Kd.R_drewN | apply Kd.R_drew)); exact HO_10.out⟩, ⟨by (with_reducible repeat (first | apply Kd.R_alloc | apply Kd.R_drewN | apply Kd.R_drew)); exact HO_15.out⟩, ⟨by (with_reducible repeat (first | apply Kd.V_alloc | apply Kd.V_drewN | apply Kd.V_drew)); exact HO_509000.out⟩, ⟨by (with_reducible repeat (first | apply Kd.V_alloc | apply Kd.V_drewN | apply Kd.V_drew)); exact HO_509001.out⟩, ⟨by (with_reducible repeat (first | apply Kd.V_alloc | apply Kd.V_drewN | apply Kd.V_drew)); exact HO_522000.out⟩, ⟨by (with_reducible repeat (first | apply Kd.V_alloc | apply Kd.V_drewN | apply Kd.V_drew)); exact HO_522001.out⟩, ⟨by (with_reducible repeat (first | apply Kd.R_alloc | apply Kd.R_drewN | apply Kd.R_drew)); exact HO_529000.out⟩, ⟨by (with_reducible repeat (first | apply Kd.R_alloc | apply Kd.R_drewN | apply Kd.R_drew)); exact HO_529001.out⟩, ⟨by (with_reducible repeat (first | refine blk_drewN ?_ _ | refine blk_drew ?_ | refine blk_alloc ?_ _)); exact BK508.out⟩, ⟨by (with_reducible repeat (first | refine blk_drewN ?_ _ | refine blk_drew ?_ | refine blk_alloc ?_ _)); exact BK521.out⟩, ⟨by (with_reducible repeat (first | refine blk_drewN ?_ _ | refine blk_drew ?_ | refine blk_alloc ?_ _)); exact BK528.out⟩, ⟨by repeat (first | (with_reducible first | exact HB.out | apply below_alloc | apply pw_below_drewN | apply below_drew1 | refine below_set ?_ GE508.out | refine below_set ?_ GE521.out | refine below_set ?_ GE528.out) | exact HB.out)⟩⟩ }
      {
      rw [if_neg c52] at H
      have c52b0 : ((t530.size : Int) == 32) = false := beq_eq_false_iff_ne.mpr c52
      have c52b1 : ((t530.size : Int) != 32) = true := bne_iff_ne.mpr c52
      have H' := Aside0.mk H
      clear H
      go_wp2
      repeat (go_quiet (fail); try go_wp2)
      go_meet
      case rel => exact ⟨_, (true), (by first | rfl | (simp; done) | (simp [*]; done)), H', ⟨by have := HJ4.out; have := HK2.out; have := HK3.out; have := HJ36.out; first | omega | exact Nat.le_refl _⟩, ⟨by (with_reducible repeat (first | apply Kd.R_alloc | apply Kd.R_drewN | apply Kd.R_drew)); exact HO_10.out⟩, ⟨by (with_reducible repeat (first | apply Kd.R_alloc | apply Kd.R_drewN | apply Kd.R_drew)); exact HO_15.out⟩, ⟨by (with_reducible repeat (first | apply Kd.V_alloc | apply Kd.V_drewN | apply Kd.V_drew)); exact HO_509000.out⟩, ⟨by (with_reducible repeat (first | apply Kd.V_alloc | apply Kd.V_drewN | apply Kd.V_drew)); exact HO_509001.out⟩, ⟨by (with_reducible repeat (first | apply Kd.V_alloc | apply Kd.V_drewN | apply Kd.V_drew)); exact HO_522000.out⟩, ⟨by (with_reducible repeat (first | apply Kd.V_alloc | apply Kd.V_drewN | apply Kd.V_drew)); exact HO_522001.out⟩, ⟨by (with_reducible repeat (first | apply Kd.R_alloc | apply Kd.R_drewN | apply Kd.R_drew)); exact HO_529000.out⟩, ⟨by (with_reducible repeat (first | apply Kd.R_alloc | apply Kd.R_drewN | apply Kd.R_drew)); exact HO_529001.out⟩, ⟨by (with_reducible repeat (first | refine blk_drewN ?_ _ | refine blk_drew ?_ | refine blk_alloc ?_ _)); exact BK508.out⟩, ⟨by (with_reducible repeat (first | refine blk_drewN ?_ _ | refine blk_drew ?_ | refine blk_alloc ?_ _)); exact BK521.out⟩, ⟨by (with_reducible repeat (first | refine blk_drewN ?_ _ | refine blk_drew ?_ | refine blk_alloc ?_ _)); exact BK528.out⟩, ⟨by repeat (first | (with_reducible first | exact HB.out | apply below_alloc | apply pw_below_drewN | apply below_drew1 | refine below_set ?_ GE508.out | refine below_set ?_ GE521.out | refine below_set ?_ GE528.out) | exact HB.out)⟩⟩ } }
      {
      rw [if_neg c51] at H
      have c51b0 : (t533 == 0) = false := beq_eq_false_iff_ne.mpr c51
      have c51b1 : (t533 != 0) = true := bne_iff_ne.mpr c51
      have H' := Aside0.mk H
      clear H
      go_wp2
      repeat (go_quiet (fail); try go_wp2)
      go_meet
      case rel => exact ⟨_, (true), (by first | rfl | (simp; done) | (simp [*]; done)), H', ⟨by have := HJ4.out; have := HK2.out; have := HK3.out; have := HJ36.out; first | omega | exact Nat.le_refl _⟩, ⟨by (with_reducible repeat (first | apply Kd.R_alloc | apply Kd.R_drewN | apply Kd.R_drew)); exact HO_10.out⟩, ⟨by (with_reducible repeat (first | apply Kd.R_alloc | apply Kd.R_drewN | apply Kd.R_drew)); exact HO_15.out⟩, ⟨by (with_reducible repeat (first | apply Kd.V_alloc | apply Kd.V_drewN | apply Kd.V_drew)); exact HO_509000.out⟩, ⟨by (with_reducible repeat (first | apply Kd.V_alloc | apply Kd.V_drewN | apply Kd.V_drew)); exact HO_509001.out⟩, ⟨by (with_reducible repeat (first | apply Kd.V_alloc | apply Kd.V_drewN | apply Kd.V_drew)); exact HO_522000.out⟩, ⟨by (with_reducible repeat (first | apply Kd.V_alloc | apply Kd.V_drewN | apply Kd.V_drew)); exact HO_522001.out⟩, ⟨by (with_reducible repeat (first | apply Kd.R_alloc | apply Kd.R_drewN | apply Kd.R_drew)); exact HO_529000.out⟩, ⟨by (with_reducible repeat (first | apply Kd.R_alloc | apply Kd.R_drewN | apply Kd.R_drew)); exact HO_529001.out⟩, ⟨by (with_reducible repeat (first | refine blk_drewN ?_ _ | refine blk_drew ?_ | refine blk_alloc ?_ _)); exact BK508.out⟩, ⟨by (with_reducible repeat (first | refine blk_drewN ?_ _ | refine blk_drew ?_ | refine blk_alloc ?_ _)); exact BK521.out⟩, ⟨by (with_reducible repeat (first | refine blk_drewN ?_ _ | refine blk_drew ?_ | refine blk_alloc ?_ _)); exact BK528.out⟩, ⟨by repeat (first | (with_reducible first | exact HB.out | apply below_alloc | apply pw_below_drewN | apply below_drew1 | refine below_set ?_ GE508.out | refine below_set ?_ GE521.out | refine below_set ?_ GE528.out) | exact HB.out)⟩⟩ } }
      {
      rw [if_neg c50] at H
      have c50b0 : (t531 == 0) = false := beq_eq_false_iff_ne.mpr c50
      have c50b1 : (t531 != 0) = true := bne_iff_ne.mpr c50
      (first | rw [c50b0] | (simp only [i64_w, i32_w]; rw [c50b0]) | skip)
      have H' := Aside0.mk H
      clear H
      go_wp2
      repeat (go_quiet (fail); try go_wp2)
      go_meet
      case rel => exact ⟨_, (true), (by first | rfl | (simp; done) | (simp [*]; done)), H', ⟨by have := HJ4.out; have := HK2.out; have := HK3.out; have := HJ36.out; first | omega | exact Nat.le_refl _⟩, ⟨by (with_reducible repeat (first | apply Kd.R_alloc | apply Kd.R_drewN | apply Kd.R_drew)); exact HO_10.out⟩, ⟨by (with_reducible repeat (first | apply Kd.R_alloc | apply Kd.R_drewN | apply Kd.R_drew)); exact HO_15.out⟩, ⟨by (with_reducible repeat (first | apply Kd.V_alloc | apply Kd.V_drewN | apply Kd.V_drew)); exact HO_509000.out⟩, ⟨by (with_reducible repeat (first | apply Kd.V_alloc | apply Kd.V_drewN | apply Kd.V_drew)); exact HO_509001.out⟩, ⟨by (with_reducible repeat (first | apply Kd.V_alloc | apply Kd.V_drewN | apply Kd.V_drew)); exact HO_522000.out⟩, ⟨by (with_reducible repeat (first | apply Kd.V_alloc | apply Kd.V_drewN | apply Kd.V_drew)); exact HO_522001.out⟩, ⟨by (with_reducible repeat (first | apply Kd.R_alloc | apply Kd.R_drewN | apply Kd.R_drew)); exact HO_529000.out⟩, ⟨by (with_reducible repeat (first | apply Kd.R_alloc | apply Kd.R_drewN | apply Kd.R_drew)); exact HO_529001.out⟩, ⟨by (with_reducible repeat (first | refine blk_drewN ?_ _ | refine blk_drew ?_ | refine blk_alloc ?_ _)); exact BK508.out⟩, ⟨by (with_reducible repeat (first | refine blk_drewN ?_ _ | refine blk_drew ?_ | refine blk_alloc ?_ _)); exact BK521.out⟩, ⟨by (with_reducible repeat (first | refine blk_drewN ?_ _ | refine blk_drew ?_ | refine blk_alloc ?_ _)); exact BK528.out⟩, ⟨by repeat (first | (with_reducible first | exact HB.out | apply below_alloc | apply pw_below_drewN | apply below_drew1 | refine below_set ?_ GE508.out | refine below_set ?_ GE521.out | refine below_set ?_ GE528.out) | exact HB.out)⟩⟩ }
     case rest =>
      clear HC42
      try clear c1
      try clear c2
      try clear p2
      try clear c3
      try clear c4
      try clear c5
      try clear p5
      try clear q5
      try clear hx5
      try clear c6
      try clear p6
      try clear c7
      try clear c7b0
      try clear c7b1
      try clear c8
      try clear c15
      try clear c15b0
      try clear c16
      try clear c16b0
      try clear c17
      try clear c17b0
      try clear c17b1
      try clear c18
      try clear c18b0
      try clear c18b1
      try clear c19
      try clear c19b0
      try clear c19b1
      try clear c26
      try clear c33
      try clear c34
      try clear c38
      try clear c38b0
      try clear c39
      try clear c43
      try clear c44
      try clear c47
      try clear c50
      try clear c50b0
      try clear c50b1
      try clear p50
      try clear q50
      try clear hx50
      try clear c51
      try clear c51b0
      try clear c51b1
      try clear c52
      try clear c52b0
      try clear c52b1
      try clear hcz13_0
      try clear hcz13_1
      try clear hcz27_0
      try clear hcz27_1
      try clear hcz29_0
      try clear hcz29_1
      try clear hcz35_0
      try clear hcz35_1
      try clear hcz45_0
      try clear hcz45_1
      try clear hcz48_0
      try clear hcz48_1
      try clear hfz13_0
      try clear hfz13_1
      try clear hfz27_0
      try clear hfz27_1
      try clear hfz29_0
      try clear hfz29_1
      try clear hfz35_0
      try clear hfz35_1
      try clear hfz45_0
      try clear hfz45_1
      try clear hfz48_0
      try clear hfz48_1
      try clear hx509_0
      try clear p2
      try clear p5
      try clear p509
      try clear p6
      try clear q5
      try clear q509
      obtain ⟨kq, x107_41, rfl, HA, HJ41, HO_10, HO_15, HO_509000, HO_509001, HO_522000, HO_522001, HO_529000, HO_529001, BK508, BK521, BK528, HB⟩ := hcut
      cases kq with
      | zero => exact absurd HA.out (by simp [hallmootlaw22_DiskTearsBytes.j4])
      | succ kj41 => {
      have H := HA.out
      clear HA
      simp only [hallmootlaw22_DiskTearsBytes.j4] at H
      by_cases c53 : x107_41 = true
      {
      subst c53
      have H1 : (none) = some r := by rw [if_pos rfl] at H; exact H
      clear H
      have H := H1
      clear H1
      exact absurd H (by simp) }
      {
      replace c53 := Bool.eq_false_iff.mpr c53
      subst c53
      have H1 : (hallmootlaw22_DiskTearsBytes.l2 kj41 t497 (wrap64 (1 + (Int.tmod (wrap64 (a0)) 4))) t504 t507 t517 x18_3 t530 t532 0 t511 t514 t522 t525) = some r := by rw [if_neg (show ¬ (false = true) by decide)] at H; exact H
      clear H
      have H := H1
      clear H1
      have H' := Aside0.mk H
      clear H
      go_wp2
      repeat (go_quiet (fail); try go_wp2)
      go_loopg [23] kj41 (fun kq v23 w' => ∃ (x23_6 : Int), v23 = .int .i64 x23_6 ∧ Aside0 (hallmootlaw22_DiskTearsBytes.l2 kq t497 (wrap64 (1 + (Int.tmod (wrap64 (a0)) 4))) t504 t507 t517 x18_3 t530 t532 x23_6 t511 t514 t522 t525 = some r) ∧ Aside0 (kq ≤ kj41) ∧ Aside0 (Kd.R k46 46 w' w.heap.size (fun k_ => some k_ ≠ (v518 : Value).ownBlock ∧ some k_ ≠ ((.slice Ao36 t525.length co36) : Value).ownBlock) v505 t504) ∧ Aside0 (Kd.R k46 46 w' w.heap.size (fun k_ => some k_ ≠ (v505 : Value).ownBlock ∧ some k_ ≠ ((.slice Ao36 t525.length co36) : Value).ownBlock) v518 t517) ∧ Aside0 (Kd.V Kd.string 9 w' w.heap.size (fun k_ => some k_ ≠ (v505 : Value).ownBlock ∧ some k_ ≠ (v518 : Value).ownBlock ∧ some k_ ≠ ((.slice Ao32 t522.length co32) : Value).ownBlock ∧ some k_ ≠ ((.slice Ao36 t525.length co36) : Value).ownBlock ∧ k_ ≠ gb508 ∧ k_ ≠ gb521 ∧ k_ ≠ gb528) (.slice Ao12 t498.length co12) t498) ∧ Aside0 (Kd.V k46 46 w' w.heap.size (fun k_ => some k_ ≠ (v505 : Value).ownBlock ∧ some k_ ≠ (v518 : Value).ownBlock ∧ some k_ ≠ ((.slice Ao32 t522.length co32) : Value).ownBlock ∧ some k_ ≠ ((.slice Ao36 t525.length co36) : Value).ownBlock ∧ k_ ≠ gb508 ∧ k_ ≠ gb521 ∧ k_ ≠ gb528) (.slice Ao14 t501.length co14) t501) ∧ Aside0 (Kd.V Kd.string 9 w' w.heap.size (fun k_ => some k_ ≠ (v505 : Value).ownBlock ∧ some k_ ≠ (v518 : Value).ownBlock ∧ some k_ ≠ ((.slice Ao32 t522.length co32) : Value).ownBlock ∧ some k_ ≠ ((.slice Ao36 t525.length co36) : Value).ownBlock ∧ k_ ≠ gb508 ∧ k_ ≠ gb521 ∧ k_ ≠ gb528) (.slice Ao25 t511.length co25) t511) ∧ Aside0 (Kd.V k46 46 w' w.heap.size (fun k_ => some k_ ≠ (v505 : Value).ownBlock ∧ some k_ ≠ (v518 : Value).ownBlock ∧ some k_ ≠ ((.slice Ao32 t522.length co32) : Value).ownBlock ∧ some k_ ≠ ((.slice Ao36 t525.length co36) : Value).ownBlock ∧ k_ ≠ gb508 ∧ k_ ≠ gb521 ∧ k_ ≠ gb528) (.slice Ao28 t514.length co28) t514) ∧ Aside0 (Kd.R Kd.string 9 w' w.heap.size (fun _ => True) (.slice Ao32 t522.length co32) t522) ∧ Aside0 (Kd.R k46 46 w' w.heap.size (fun k_ => some k_ ≠ (v505 : Value).ownBlock ∧ some k_ ≠ (v518 : Value).ownBlock) (.slice Ao36 t525.length co36) t525) ∧ Aside0 (w'.heap[gb508]? = some (.cells #[(.slice Ao12 t498.length co12), (.slice Ao14 t501.length co14)] 25 (0, 0))) ∧ Aside0 (w'.heap[gb521]? = some (.cells #[(.slice Ao25 t511.length co25), (.slice Ao28 t514.length co28)] 25 (0, 0))) ∧ Aside0 (w'.heap[gb528]? = some (.cells #[(.slice Ao32 t522.length co32), (.slice Ao36 t525.length co36)] 25 (0, 0))) ∧ Aside0 (Below w.heap.size w w'))
      case atStart => exact ⟨(0), (by first | rfl | (simp; done) | (simp [*]; done)), H', ⟨Nat.le_refl _⟩, ⟨by (with_reducible repeat (first | apply Kd.R_alloc | apply Kd.R_drewN | apply Kd.R_drew)); exact HO_10.out⟩, ⟨by (with_reducible repeat (first | apply Kd.R_alloc | apply Kd.R_drewN | apply Kd.R_drew)); exact HO_15.out⟩, ⟨by (with_reducible repeat (first | apply Kd.V_alloc | apply Kd.V_drewN | apply Kd.V_drew)); exact HO_509000.out⟩, ⟨by (with_reducible repeat (first | apply Kd.V_alloc | apply Kd.V_drewN | apply Kd.V_drew)); exact HO_509001.out⟩, ⟨by (with_reducible repeat (first | apply Kd.V_alloc | apply Kd.V_drewN | apply Kd.V_drew)); exact HO_522000.out⟩, ⟨by (with_reducible repeat (first | apply Kd.V_alloc | apply Kd.V_drewN | apply Kd.V_drew)); exact HO_522001.out⟩, ⟨by (with_reducible repeat (first | apply Kd.R_alloc | apply Kd.R_drewN | apply Kd.R_drew)); exact HO_529000.out⟩, ⟨by (with_reducible repeat (first | apply Kd.R_alloc | apply Kd.R_drewN | apply Kd.R_drew)); exact HO_529001.out⟩, ⟨by (with_reducible repeat (first | refine blk_drewN ?_ _ | refine blk_drew ?_ | refine blk_alloc ?_ _)); exact BK508.out⟩, ⟨by (with_reducible repeat (first | refine blk_drewN ?_ _ | refine blk_drew ?_ | refine blk_alloc ?_ _)); exact BK521.out⟩, ⟨by (with_reducible repeat (first | refine blk_drewN ?_ _ | refine blk_drew ?_ | refine blk_alloc ?_ _)); exact BK528.out⟩, ⟨by repeat (first | (with_reducible first | exact HB.out | apply below_alloc | apply pw_below_drewN | apply below_drew1 | refine below_set ?_ GE508.out | refine below_set ?_ GE521.out | refine below_set ?_ GE528.out) | exact HB.out)⟩⟩
      case round =>
       clear H'
       try clear c1
       try clear c2
       try clear p2
       try clear c3
       try clear c4
       try clear c5
       try clear p5
       try clear q5
       try clear hx5
       try clear c6
       try clear p6
       try clear c7
       try clear c7b0
       try clear c7b1
       try clear c8
       try clear c15
       try clear c15b0
       try clear c16
       try clear c16b0
       try clear c17
       try clear c17b0
       try clear c17b1
       try clear c18
       try clear c18b0
       try clear c18b1
       try clear c19
       try clear c19b0
       try clear c19b1
       try clear c26
       try clear c33
       try clear c34
       try clear c38
       try clear c38b0
       try clear c39
       try clear c43
       try clear c44
       try clear c47
       try clear c50
       try clear c50b0
       try clear c50b1
       try clear p50
       try clear q50
       try clear hx50
       try clear c51
       try clear c51b0
       try clear c51b1
       try clear c52
       try clear c52b0
       try clear c52b1
       try clear c53
       try clear hcz13_0
       try clear hcz13_1
       try clear hcz27_0
       try clear hcz27_1
       try clear hcz29_0
       try clear hcz29_1
       try clear hcz35_0
       try clear hcz35_1
       try clear hcz45_0
       try clear hcz45_1
       try clear hcz48_0
       try clear hcz48_1
       try clear hfz13_0
       try clear hfz13_1
       try clear hfz27_0
       try clear hfz27_1
       try clear hfz29_0
       try clear hfz29_1
       try clear hfz35_0
       try clear hfz35_1
       try clear hfz45_0
       try clear hfz45_1
       try clear hfz48_0
       try clear hfz48_1
       try clear hx509_0
       try clear p2
       try clear p5
       try clear p50
       try clear p509
       try clear p6
       try clear q5
       try clear q50
       try clear q509
       obtain ⟨x23_6, rfl, HA, HK6, HO_10, HO_15, HO_509000, HO_509001, HO_522000, HO_522001, HO_529000, HO_529001, BK508, BK521, BK528, HB⟩ := hrel
       cases gk with
       | zero => exact absurd HA.out (by simp [hallmootlaw22_DiskTearsBytes.l2])
       | succ k6 => {
       have H := HA.out
       clear HA
       simp only [hallmootlaw22_DiskTearsBytes.l2] at H
       by_cases c54 : x23_6 < (t530.size : Int)
       {
       rw [if_pos c54] at H
       have c54b0 : decide (x23_6 < (t530.size : Int)) = true := decide_eq_true c54
       clear c54
       by_cases c55 : 0 ≤ x23_6
       {
       rw [if_pos c55] at H
       have c55b0 : decide (0 ≤ x23_6) = true := decide_eq_true c55
       clear c55
       by_cases c57 : x23_6 < (t532.size : Int)
       {
       rw [if_pos c57] at H
       have c57b0 : decide (x23_6 < (t532.size : Int)) = true := decide_eq_true c57
       clear c57
       have H' := Aside0.mk H
       clear H
       have p56 : 0 ≤ (x23_6 : Int) := of_decide_eq_true (by first | (with_reducible assumption) | assumption)
       have q56 : x23_6 < (t530.size : Int) := of_decide_eq_true (by first | (with_reducible assumption) | assumption)
       have hx56 := bt_at t530 x23_6
       replace p56 := eq_true p56
       replace q56 := eq_true q56
       have p58 : 0 ≤ (x23_6 : Int) := of_decide_eq_true (by first | (with_reducible assumption) | assumption)
       have q58 : x23_6 < (t532.size : Int) := of_decide_eq_true (by first | (with_reducible assumption) | assumption)
       have hx58 := bt_at t532 x23_6
       replace p58 := eq_true p58
       replace q58 := eq_true q58
       obtain ⟨Ao59, co59, eo59⟩ := Kd.R_slice HO_15.out
       subst eo59
       go_wp2
       repeat (go_quiet (fail); try go_wp2)
       go_loopg [24, 25] k6 (fun kq v24 v25 w' => ∃ (x24_7 : Bool) (x25_7 : Int), v24 = .bool x24_7 ∧ v25 = .int .i64 x25_7 ∧ Aside0 (hallmootlaw22_DiskTearsBytes.l3 kq t497 (wrap64 (1 + (Int.tmod (wrap64 (a0)) 4))) t504 t507 t517 x18_3 t530 t532 x23_6 x24_7 x25_7 t511 t514 t522 t525 = some r) ∧ Aside0 (kq ≤ k6) ∧ Aside0 (Kd.R k46 46 w' w.heap.size (fun k_ => some k_ ≠ ((.slice Ao59 t517.length co59) : Value).ownBlock ∧ some k_ ≠ ((.slice Ao36 t525.length co36) : Value).ownBlock) v505 t504) ∧ Aside0 (Kd.R k46 46 w' w.heap.size (fun k_ => some k_ ≠ (v505 : Value).ownBlock ∧ some k_ ≠ ((.slice Ao36 t525.length co36) : Value).ownBlock) (.slice Ao59 t517.length co59) t517) ∧ Aside0 (Kd.V Kd.string 9 w' w.heap.size (fun k_ => some k_ ≠ (v505 : Value).ownBlock ∧ some k_ ≠ ((.slice Ao59 t517.length co59) : Value).ownBlock ∧ some k_ ≠ ((.slice Ao32 t522.length co32) : Value).ownBlock ∧ some k_ ≠ ((.slice Ao36 t525.length co36) : Value).ownBlock ∧ k_ ≠ gb508 ∧ k_ ≠ gb521 ∧ k_ ≠ gb528) (.slice Ao12 t498.length co12) t498) ∧ Aside0 (Kd.V k46 46 w' w.heap.size (fun k_ => some k_ ≠ (v505 : Value).ownBlock ∧ some k_ ≠ ((.slice Ao59 t517.length co59) : Value).ownBlock ∧ some k_ ≠ ((.slice Ao32 t522.length co32) : Value).ownBlock ∧ some k_ ≠ ((.slice Ao36 t525.length co36) : Value).ownBlock ∧ k_ ≠ gb508 ∧ k_ ≠ gb521 ∧ k_ ≠ gb528) (.slice Ao14 t501.length co14) t501) ∧ Aside0 (Kd.V Kd.string 9 w' w.heap.size (fun k_ => some k_ ≠ (v505 : Value).ownBlock ∧ some k_ ≠ ((.slice Ao59 t517.length co59) : Value).ownBlock ∧ some k_ ≠ ((.slice Ao32 t522.length co32) : Value).ownBlock ∧ some k_ ≠ ((.slice Ao36 t525.length co36) : Value).ownBlock ∧ k_ ≠ gb508 ∧ k_ ≠ gb521 ∧ k_ ≠ gb528) (.slice Ao25 t511.length co25) t511) ∧ Aside0 (Kd.V k46 46 w' w.heap.size (fun k_ => some k_ ≠ (v505 : Value).ownBlock ∧ some k_ ≠ ((.slice Ao59 t517.length co59) : Value).ownBlock ∧ some k_ ≠ ((.slice Ao32 t522.length co32) : Value).ownBlock ∧ some k_ ≠ ((.slice Ao36 t525.length co36) : Value).ownBlock ∧ k_ ≠ gb508 ∧ k_ ≠ gb521 ∧ k_ ≠ gb528) (.slice Ao28 t514.length co28) t514) ∧ Aside0 (Kd.R Kd.string 9 w' w.heap.size (fun _ => True) (.slice Ao32 t522.length co32) t522) ∧ Aside0 (Kd.R k46 46 w' w.heap.size (fun k_ => some k_ ≠ (v505 : Value).ownBlock ∧ some k_ ≠ ((.slice Ao59 t517.length co59) : Value).ownBlock) (.slice Ao36 t525.length co36) t525) ∧ Aside0 (w'.heap[gb508]? = some (.cells #[(.slice Ao12 t498.length co12), (.slice Ao14 t501.length co14)] 25 (0, 0))) ∧ Aside0 (w'.heap[gb521]? = some (.cells #[(.slice Ao25 t511.length co25), (.slice Ao28 t514.length co28)] 25 (0, 0))) ∧ Aside0 (w'.heap[gb528]? = some (.cells #[(.slice Ao32 t522.length co32), (.slice Ao36 t525.length co36)] 25 (0, 0))) ∧ Aside0 (Below w.heap.size w w'))
       case atStart => exact ⟨(((bt t530 x23_6) == (bt t532 x23_6))), ((t517.length : Int)), (by first | rfl | (simp; done) | (simp [*]; done)), (by first | rfl | (simp; done) | (simp [*]; done)), H', ⟨Nat.le_refl _⟩, ⟨by (with_reducible repeat (first | apply Kd.R_alloc | apply Kd.R_drewN | apply Kd.R_drew)); exact HO_10.out⟩, ⟨by (with_reducible repeat (first | apply Kd.R_alloc | apply Kd.R_drewN | apply Kd.R_drew)); exact HO_15.out⟩, ⟨by (with_reducible repeat (first | apply Kd.V_alloc | apply Kd.V_drewN | apply Kd.V_drew)); exact HO_509000.out⟩, ⟨by (with_reducible repeat (first | apply Kd.V_alloc | apply Kd.V_drewN | apply Kd.V_drew)); exact HO_509001.out⟩, ⟨by (with_reducible repeat (first | apply Kd.V_alloc | apply Kd.V_drewN | apply Kd.V_drew)); exact HO_522000.out⟩, ⟨by (with_reducible repeat (first | apply Kd.V_alloc | apply Kd.V_drewN | apply Kd.V_drew)); exact HO_522001.out⟩, ⟨by (with_reducible repeat (first | apply Kd.R_alloc | apply Kd.R_drewN | apply Kd.R_drew)); exact HO_529000.out⟩, ⟨by (with_reducible repeat (first | apply Kd.R_alloc | apply Kd.R_drewN | apply Kd.R_drew)); exact HO_529001.out⟩, ⟨by (with_reducible repeat (first | refine blk_drewN ?_ _ | refine blk_drew ?_ | refine blk_alloc ?_ _)); exact BK508.out⟩, ⟨by (with_reducible repeat (first | refine blk_drewN ?_ _ | refine blk_drew ?_ | refine blk_alloc ?_ _)); exact BK521.out⟩, ⟨by (with_reducible repeat (first | refine blk_drewN ?_ _ | refine blk_drew ?_ | refine blk_alloc ?_ _)); exact BK528.out⟩, ⟨by repeat (first | (with_reducible first | exact HB.out | apply below_alloc | apply pw_below_drewN | apply below_drew1 | refine below_set ?_ GE508.out | refine below_set ?_ GE521.out | refine below_set ?_ GE528.out) | exact HB.out)⟩⟩
       case round =>
        clear H'
        try clear c1
        try clear c2
        try clear p2
        try clear c3
        try clear c4
        try clear c5
        try clear p5
        try clear q5
        try clear hx5
        try clear c6
        try clear p6
        try clear c7
        try clear c7b0
        try clear c7b1
        try clear c8
        try clear c15
        try clear c15b0
        try clear c16
        try clear c16b0
        try clear c17
        try clear c17b0
        try clear c17b1
        try clear c18
        try clear c18b0
        try clear c18b1
        try clear c19
        try clear c19b0
        try clear c19b1
        try clear c26
        try clear c33
        try clear c34
        try clear c38
        try clear c38b0
        try clear c39
        try clear c43
        try clear c44
        try clear c47
        try clear c50
        try clear c50b0
        try clear c50b1
        try clear p50
        try clear q50
        try clear hx50
        try clear c51
        try clear c51b0
        try clear c51b1
        try clear c52
        try clear c52b0
        try clear c52b1
        try clear c53
        try clear c54
        try clear c54b0
        try clear c55
        try clear c55b0
        try clear p56
        try clear q56
        try clear hx56
        try clear c57
        try clear c57b0
        try clear p58
        try clear q58
        try clear hx58
        try clear hcz13_0
        try clear hcz13_1
        try clear hcz27_0
        try clear hcz27_1
        try clear hcz29_0
        try clear hcz29_1
        try clear hcz35_0
        try clear hcz35_1
        try clear hcz45_0
        try clear hcz45_1
        try clear hcz48_0
        try clear hcz48_1
        try clear hfz13_0
        try clear hfz13_1
        try clear hfz27_0
        try clear hfz27_1
        try clear hfz29_0
        try clear hfz29_1
        try clear hfz35_0
        try clear hfz35_1
        try clear hfz45_0
        try clear hfz45_1
        try clear hfz48_0
        try clear hfz48_1
        try clear hx509_0
        try clear p2
        try clear p5
        try clear p50
        try clear p509
        try clear p56
        try clear p58
        try clear p6
        try clear q5
        try clear q50
        try clear q509
        try clear q56
        try clear q58
        obtain ⟨x24_7, x25_7, rfl, rfl, HA, HK7, HO_10, HO_15, HO_509000, HO_509001, HO_522000, HO_522001, HO_529000, HO_529001, BK508, BK521, BK528, HB⟩ := hrel
        cases gk with
        | zero => exact absurd HA.out (by simp [hallmootlaw22_DiskTearsBytes.l3])
        | succ k7 => {
        have H := HA.out
        clear HA
        simp only [hallmootlaw22_DiskTearsBytes.l3] at H
        by_cases c60 : x25_7 < (t504.length : Int)
        {
        rw [if_pos c60] at H
        have c60b0 : decide (x25_7 < (t504.length : Int)) = true := decide_eq_true c60
        clear c60
        by_cases c61 : x24_7 = true
        {
        subst c61
        have H1 : (hallmootlaw22_DiskTearsBytes.l3 k7 t497 (wrap64 (1 + (Int.tmod (wrap64 (a0)) 4))) t504 t507 t517 x18_3 t530 t532 x23_6 true (wrap64 (x25_7 + 1)) t511 t514 t522 t525) = some r := by rw [if_pos rfl] at H; exact H
        clear H
        have H := H1
        clear H1
        have H' := Aside0.mk H
        clear H
        obtain ⟨Ao62, co62, eo62⟩ := Kd.R_slice HO_10.out
        subst eo62
        go_wp2
        repeat (go_quiet (fail); try go_wp2)
        go_roundg k7
        case measure => have := HJ4.out; have := HK2.out; have := HK3.out; have := HJ36.out; have := HJ41.out; have := HK6.out; have := HK7.out; omega
        case rel => exact ⟨(true), (wrap64 (x25_7 + 1)), (by first | rfl | (simp; done) | (simp [*]; done)), (by first | rfl | (simp; done) | (simp [*]; done)), H', ⟨by have := HJ4.out; have := HK2.out; have := HK3.out; have := HJ36.out; have := HJ41.out; have := HK6.out; have := HK7.out; omega⟩, ⟨by (with_reducible repeat (first | apply Kd.R_alloc | apply Kd.R_drewN | apply Kd.R_drew)); exact HO_10.out⟩, ⟨by (with_reducible repeat (first | apply Kd.R_alloc | apply Kd.R_drewN | apply Kd.R_drew)); exact HO_15.out⟩, ⟨by (with_reducible repeat (first | apply Kd.V_alloc | apply Kd.V_drewN | apply Kd.V_drew)); exact HO_509000.out⟩, ⟨by (with_reducible repeat (first | apply Kd.V_alloc | apply Kd.V_drewN | apply Kd.V_drew)); exact HO_509001.out⟩, ⟨by (with_reducible repeat (first | apply Kd.V_alloc | apply Kd.V_drewN | apply Kd.V_drew)); exact HO_522000.out⟩, ⟨by (with_reducible repeat (first | apply Kd.V_alloc | apply Kd.V_drewN | apply Kd.V_drew)); exact HO_522001.out⟩, ⟨by (with_reducible repeat (first | apply Kd.R_alloc | apply Kd.R_drewN | apply Kd.R_drew)); exact HO_529000.out⟩, ⟨by (with_reducible repeat (first | apply Kd.R_alloc | apply Kd.R_drewN | apply Kd.R_drew)); exact HO_529001.out⟩, ⟨by (with_reducible repeat (first | refine blk_drewN ?_ _ | refine blk_drew ?_ | refine blk_alloc ?_ _)); exact BK508.out⟩, ⟨by (with_reducible repeat (first | refine blk_drewN ?_ _ | refine blk_drew ?_ | refine blk_alloc ?_ _)); exact BK521.out⟩, ⟨by (with_reducible repeat (first | refine blk_drewN ?_ _ | refine blk_drew ?_ | refine blk_alloc ?_ _)); exact BK528.out⟩, ⟨by repeat (first | (with_reducible first | exact HB.out | apply below_alloc | apply pw_below_drewN | apply below_drew1 | refine below_set ?_ GE508.out | refine below_set ?_ GE521.out | refine below_set ?_ GE528.out) | exact HB.out)⟩⟩ }
        {
        replace c61 := Bool.eq_false_iff.mpr c61
        subst c61
        have H1 : (if 0 ≤ x25_7 then (if ((rd_T46 t504 x25_7).f0) = x18_3 then (if 0 ≤ x23_6 then (if x23_6 < (t530.size : Int) then (if x23_6 < (((rd_T46 t504 x25_7).f1).size : Int) then (hallmootlaw22_DiskTearsBytes.l3 k7 t497 (wrap64 (1 + (Int.tmod (wrap64 (a0)) 4))) t504 t507 t517 x18_3 t530 t532 x23_6 ((bt t530 x23_6) == (bt ((rd_T46 t504 x25_7).f1) x23_6)) (wrap64 (x25_7 + 1)) t511 t514 t522 t525) else (none)) else (none)) else (none)) else (hallmootlaw22_DiskTearsBytes.l3 k7 t497 (wrap64 (1 + (Int.tmod (wrap64 (a0)) 4))) t504 t507 t517 x18_3 t530 t532 x23_6 false (wrap64 (x25_7 + 1)) t511 t514 t522 t525)) else (none)) = some r := by rw [if_neg (show ¬ (false = true) by decide)] at H; exact H
        clear H
        have H := H1
        clear H1
        by_cases c63 : 0 ≤ x25_7
        {
        rw [if_pos c63] at H
        have c63b0 : decide (0 ≤ x25_7) = true := decide_eq_true c63
        clear c63
        by_cases c64 : ((rd_T46 t504 x25_7).f0) = x18_3
        {
        rw [if_pos c64] at H
        have c64b0 : (((rd_T46 t504 x25_7).f0) == x18_3) = true := beq_iff_eq.mpr c64
        have c64b1 : (((rd_T46 t504 x25_7).f0) != x18_3) = false := bne_eq_false_iff_eq.mpr c64
        clear c64
        by_cases c65 : 0 ≤ x23_6
        {
        rw [if_pos c65] at H
        have c65b0 : decide (0 ≤ x23_6) = true := decide_eq_true c65
        clear c65
        by_cases c66 : x23_6 < (t530.size : Int)
        {
        rw [if_pos c66] at H
        have c66b0 : decide (x23_6 < (t530.size : Int)) = true := decide_eq_true c66
        clear c66
        by_cases c68 : x23_6 < (((rd_T46 t504 x25_7).f1).size : Int)
        {
        rw [if_pos c68] at H
        have c68b0 : decide (x23_6 < (((rd_T46 t504 x25_7).f1).size : Int)) = true := decide_eq_true c68
        clear c68
        have H' := Aside0.mk H
        clear H
        obtain ⟨Ao70, co70, eo70⟩ := Kd.R_slice HO_10.out
        subst eo70
        have p534 : 0 ≤ (x25_7 : Int) := of_decide_eq_true (by first | (with_reducible assumption) | assumption)
        have q534 : x25_7 < (t504.length : Int) := of_decide_eq_true (by first | (with_reducible assumption) | assumption)
        obtain ⟨ad534, e534, hx534_0, hx534_1⟩ := at_T46 (Kd.R_reads' HO_10.out).2.2 x25_7 p534 q534
        cases e534
        replace p534 := eq_true p534
        replace q534 := eq_true q534
        have p67 : 0 ≤ (x23_6 : Int) := of_decide_eq_true (by first | (with_reducible assumption) | assumption)
        have q67 : x23_6 < (t530.size : Int) := of_decide_eq_true (by first | (with_reducible assumption) | assumption)
        have hx67 := bt_at t530 x23_6
        replace p67 := eq_true p67
        replace q67 := eq_true q67
        have p535 : 0 ≤ (x25_7 : Int) := of_decide_eq_true (by first | (with_reducible assumption) | assumption)
        have q535 : x25_7 < (t504.length : Int) := of_decide_eq_true (by first | (with_reducible assumption) | assumption)
        obtain ⟨ad535, e535, hx535_0, hx535_1⟩ := at_T46 (Kd.R_reads' HO_10.out).2.2 x25_7 p535 q535
        obtain rfl : ad534 = ad535 := (by injection e535)
        replace p535 := eq_true p535
        replace q535 := eq_true q535
        have p69 : 0 ≤ (x23_6 : Int) := of_decide_eq_true (by first | (with_reducible assumption) | assumption)
        have q69 : x23_6 < (((rd_T46 t504 x25_7).f1).size : Int) := of_decide_eq_true (by first | (with_reducible assumption) | assumption)
        have hx69 := bt_at ((rd_T46 t504 x25_7).f1) x23_6
        replace p69 := eq_true p69
        replace q69 := eq_true q69
        go_wp2
        repeat (go_quiet (fail); try go_wp2)
        go_roundg k7
        case measure => have := HJ4.out; have := HK2.out; have := HK3.out; have := HJ36.out; have := HJ41.out; have := HK6.out; have := HK7.out; omega
        case rel => exact ⟨(((bt t530 x23_6) == (bt ((rd_T46 t504 x25_7).f1) x23_6))), (wrap64 (x25_7 + 1)), (by first | rfl | (simp; done) | (simp [*]; done)), (by first | rfl | (simp; done) | (simp [*]; done)), H', ⟨by have := HJ4.out; have := HK2.out; have := HK3.out; have := HJ36.out; have := HJ41.out; have := HK6.out; have := HK7.out; omega⟩, ⟨by (with_reducible repeat (first | apply Kd.R_alloc | apply Kd.R_drewN | apply Kd.R_drew)); exact HO_10.out⟩, ⟨by (with_reducible repeat (first | apply Kd.R_alloc | apply Kd.R_drewN | apply Kd.R_drew)); exact HO_15.out⟩, ⟨by (with_reducible repeat (first | apply Kd.V_alloc | apply Kd.V_drewN | apply Kd.V_drew)); exact HO_509000.out⟩, ⟨by (with_reducible repeat (first | apply Kd.V_alloc | apply Kd.V_drewN | apply Kd.V_drew)); exact HO_509001.out⟩, ⟨by (with_reducible repeat (first | apply Kd.V_alloc | apply Kd.V_drewN | apply Kd.V_drew)); exact HO_522000.out⟩, ⟨by (with_reducible repeat (first | apply Kd.V_alloc | apply Kd.V_drewN | apply Kd.V_drew)); exact HO_522001.out⟩, ⟨by (with_reducible repeat (first | apply Kd.R_alloc | apply Kd.R_drewN | apply Kd.R_drew)); exact HO_529000.out⟩, ⟨by (with_reducible repeat (first | apply Kd.R_alloc | apply Kd.R_drewN | apply Kd.R_drew)); exact HO_529001.out⟩, ⟨by (with_reducible repeat (first | refine blk_drewN ?_ _ | refine blk_drew ?_ | refine blk_alloc ?_ _)); exact BK508.out⟩, ⟨by (with_reducible repeat (first | refine blk_drewN ?_ _ | refine blk_drew ?_ | refine blk_alloc ?_ _)); exact BK521.out⟩, ⟨by (with_reducible repeat (first | refine blk_drewN ?_ _ | refine blk_drew ?_ | refine blk_alloc ?_ _)); exact BK528.out⟩, ⟨by repeat (first | (with_reducible first | exact HB.out | apply below_alloc | apply pw_below_drewN | apply below_drew1 | refine below_set ?_ GE508.out | refine below_set ?_ GE521.out | refine below_set ?_ GE528.out) | exact HB.out)⟩⟩ }
        {
        rw [if_neg c68] at H
        exact absurd H (by simp) } }
        {
        rw [if_neg c66] at H
        exact absurd H (by simp) } }
        {
        rw [if_neg c65] at H
        exact absurd H (by simp) } }
        {
        rw [if_neg c64] at H
        have c64b0 : (((rd_T46 t504 x25_7).f0) == x18_3) = false := beq_eq_false_iff_ne.mpr c64
        have c64b1 : (((rd_T46 t504 x25_7).f0) != x18_3) = true := bne_iff_ne.mpr c64
        have H' := Aside0.mk H
        clear H
        obtain ⟨Ao71, co71, eo71⟩ := Kd.R_slice HO_10.out
        subst eo71
        have p534 : 0 ≤ (x25_7 : Int) := of_decide_eq_true (by first | (with_reducible assumption) | assumption)
        have q534 : x25_7 < (t504.length : Int) := of_decide_eq_true (by first | (with_reducible assumption) | assumption)
        obtain ⟨ad534, e534, hx534_0, hx534_1⟩ := at_T46 (Kd.R_reads' HO_10.out).2.2 x25_7 p534 q534
        cases e534
        replace p534 := eq_true p534
        replace q534 := eq_true q534
        go_wp2
        repeat (go_quiet (fail); try go_wp2)
        go_roundg k7
        case measure => have := HJ4.out; have := HK2.out; have := HK3.out; have := HJ36.out; have := HJ41.out; have := HK6.out; have := HK7.out; omega
        case rel => exact ⟨(false), (wrap64 (x25_7 + 1)), (by first | rfl | (simp; done) | (simp [*]; done)), (by first | rfl | (simp; done) | (simp [*]; done)), H', ⟨by have := HJ4.out; have := HK2.out; have := HK3.out; have := HJ36.out; have := HJ41.out; have := HK6.out; have := HK7.out; omega⟩, ⟨by (with_reducible repeat (first | apply Kd.R_alloc | apply Kd.R_drewN | apply Kd.R_drew)); exact HO_10.out⟩, ⟨by (with_reducible repeat (first | apply Kd.R_alloc | apply Kd.R_drewN | apply Kd.R_drew)); exact HO_15.out⟩, ⟨by (with_reducible repeat (first | apply Kd.V_alloc | apply Kd.V_drewN | apply Kd.V_drew)); exact HO_509000.out⟩, ⟨by (with_reducible repeat (first | apply Kd.V_alloc | apply Kd.V_drewN | apply Kd.V_drew)); exact HO_509001.out⟩, ⟨by (with_reducible repeat (first | apply Kd.V_alloc | apply Kd.V_drewN | apply Kd.V_drew)); exact HO_522000.out⟩, ⟨by (with_reducible repeat (first | apply Kd.V_alloc | apply Kd.V_drewN | apply Kd.V_drew)); exact HO_522001.out⟩, ⟨by (with_reducible repeat (first | apply Kd.R_alloc | apply Kd.R_drewN | apply Kd.R_drew)); exact HO_529000.out⟩, ⟨by (with_reducible repeat (first | apply Kd.R_alloc | apply Kd.R_drewN | apply Kd.R_drew)); exact HO_529001.out⟩, ⟨by (with_reducible repeat (first | refine blk_drewN ?_ _ | refine blk_drew ?_ | refine blk_alloc ?_ _)); exact BK508.out⟩, ⟨by (with_reducible repeat (first | refine blk_drewN ?_ _ | refine blk_drew ?_ | refine blk_alloc ?_ _)); exact BK521.out⟩, ⟨by (with_reducible repeat (first | refine blk_drewN ?_ _ | refine blk_drew ?_ | refine blk_alloc ?_ _)); exact BK528.out⟩, ⟨by repeat (first | (with_reducible first | exact HB.out | apply below_alloc | apply pw_below_drewN | apply below_drew1 | refine below_set ?_ GE508.out | refine below_set ?_ GE521.out | refine below_set ?_ GE528.out) | exact HB.out)⟩⟩ } }
        {
        rw [if_neg c63] at H
        exact absurd H (by simp) } } }
        {
        rw [if_neg c60] at H
        have c60b0 : decide (x25_7 < (t504.length : Int)) = false := decide_eq_false c60
        clear c60
        by_cases c72 : x24_7 = true
        {
        subst c72
        have H1 : (hallmootlaw22_DiskTearsBytes.l2 k7 t497 (wrap64 (1 + (Int.tmod (wrap64 (a0)) 4))) t504 t507 t517 x18_3 t530 t532 (wrap64 (x23_6 + 1)) t511 t514 t522 t525) = some r := by rw [if_pos rfl] at H; exact H
        clear H
        have H := H1
        clear H1
        have H' := Aside0.mk H
        clear H
        obtain ⟨Ao73, co73, eo73⟩ := Kd.R_slice HO_10.out
        subst eo73
        go_wp2
        repeat (go_quiet (fail); try go_wp2)
        go_roundg k7
        case measure => have := HJ4.out; have := HK2.out; have := HK3.out; have := HJ36.out; have := HJ41.out; have := HK6.out; have := HK7.out; omega
        case rel => exact ⟨(wrap64 (x23_6 + 1)), (by first | rfl | (simp; done) | (simp [*]; done)), H', ⟨by have := HJ4.out; have := HK2.out; have := HK3.out; have := HJ36.out; have := HJ41.out; have := HK6.out; have := HK7.out; omega⟩, ⟨by (with_reducible repeat (first | apply Kd.R_alloc | apply Kd.R_drewN | apply Kd.R_drew)); exact HO_10.out⟩, ⟨by (with_reducible repeat (first | apply Kd.R_alloc | apply Kd.R_drewN | apply Kd.R_drew)); exact HO_15.out⟩, ⟨by (with_reducible repeat (first | apply Kd.V_alloc | apply Kd.V_drewN | apply Kd.V_drew)); exact HO_509000.out⟩, ⟨by (with_reducible repeat (first | apply Kd.V_alloc | apply Kd.V_drewN | apply Kd.V_drew)); exact HO_509001.out⟩, ⟨by (with_reducible repeat (first | apply Kd.V_alloc | apply Kd.V_drewN | apply Kd.V_drew)); exact HO_522000.out⟩, ⟨by (with_reducible repeat (first | apply Kd.V_alloc | apply Kd.V_drewN | apply Kd.V_drew)); exact HO_522001.out⟩, ⟨by (with_reducible repeat (first | apply Kd.R_alloc | apply Kd.R_drewN | apply Kd.R_drew)); exact HO_529000.out⟩, ⟨by (with_reducible repeat (first | apply Kd.R_alloc | apply Kd.R_drewN | apply Kd.R_drew)); exact HO_529001.out⟩, ⟨by (with_reducible repeat (first | refine blk_drewN ?_ _ | refine blk_drew ?_ | refine blk_alloc ?_ _)); exact BK508.out⟩, ⟨by (with_reducible repeat (first | refine blk_drewN ?_ _ | refine blk_drew ?_ | refine blk_alloc ?_ _)); exact BK521.out⟩, ⟨by (with_reducible repeat (first | refine blk_drewN ?_ _ | refine blk_drew ?_ | refine blk_alloc ?_ _)); exact BK528.out⟩, ⟨by repeat (first | (with_reducible first | exact HB.out | apply below_alloc | apply pw_below_drewN | apply below_drew1 | refine below_set ?_ GE508.out | refine below_set ?_ GE521.out | refine below_set ?_ GE528.out) | exact HB.out)⟩⟩ }
        {
        replace c72 := Bool.eq_false_iff.mpr c72
        subst c72
        have H1 : (none) = some r := by rw [if_neg (show ¬ (false = true) by decide)] at H; exact H
        clear H
        have H := H1
        clear H1
        exact absurd H (by simp) } } } }
       {
       rw [if_neg c57] at H
       exact absurd H (by simp) } }
       {
       rw [if_neg c55] at H
       exact absurd H (by simp) } }
       {
       rw [if_neg c54] at H
       have c54b0 : decide (x23_6 < (t530.size : Int)) = false := decide_eq_false c54
       clear c54
       have H' := Aside0.mk H
       clear H
       go_wp2
       repeat (go_quiet (fail); try go_wp2)
       go_roundg k6
       case measure => have := HJ4.out; have := HK2.out; have := HK3.out; have := HJ36.out; have := HJ41.out; have := HK6.out; omega
       case rel => exact ⟨(wrap64 (x18_3 + 1)), (by first | rfl | (simp; done) | (simp [*]; done)), H', ⟨by have := HJ4.out; have := HK2.out; have := HK3.out; have := HJ36.out; have := HJ41.out; have := HK6.out; omega⟩, ⟨by (with_reducible repeat (first | apply Kd.R_alloc | apply Kd.R_drewN | apply Kd.R_drew)); exact HO_10.out⟩, ⟨by (with_reducible repeat (first | apply Kd.R_alloc | apply Kd.R_drewN | apply Kd.R_drew)); exact HO_15.out⟩, ⟨by (with_reducible repeat (first | apply Kd.V_alloc | apply Kd.V_drewN | apply Kd.V_drew)); exact HO_509000.out⟩, ⟨by (with_reducible repeat (first | apply Kd.V_alloc | apply Kd.V_drewN | apply Kd.V_drew)); exact HO_509001.out⟩, ⟨by (with_reducible repeat (first | apply Kd.V_alloc | apply Kd.V_drewN | apply Kd.V_drew)); exact HO_522000.out⟩, ⟨by (with_reducible repeat (first | apply Kd.V_alloc | apply Kd.V_drewN | apply Kd.V_drew)); exact HO_522001.out⟩, ⟨by (with_reducible repeat (first | apply Kd.R_alloc | apply Kd.R_drewN | apply Kd.R_drew)); exact HO_529000.out⟩, ⟨by (with_reducible repeat (first | apply Kd.R_alloc | apply Kd.R_drewN | apply Kd.R_drew)); exact HO_529001.out⟩, ⟨by (with_reducible repeat (first | refine blk_drewN ?_ _ | refine blk_drew ?_ | refine blk_alloc ?_ _)); exact BK508.out⟩, ⟨by (with_reducible repeat (first | refine blk_drewN ?_ _ | refine blk_drew ?_ | refine blk_alloc ?_ _)); exact BK521.out⟩, ⟨by (with_reducible repeat (first | refine blk_drewN ?_ _ | refine blk_drew ?_ | refine blk_alloc ?_ _)); exact BK528.out⟩, ⟨by repeat (first | (with_reducible first | exact HB.out | apply below_alloc | apply pw_below_drewN | apply below_drew1 | refine below_set ?_ GE508.out | refine below_set ?_ GE521.out | refine below_set ?_ GE528.out) | exact HB.out)⟩⟩ } } } } }
     {
     replace c39 := Bool.eq_false_iff.mpr c39
     subst c39
     have H1 : (if t497 = true then (if t507 = true then ((dRight.f t522 t525).bind fun t529 => (if t529 = true then (some ((t525.length : Int) == 0)) else (none))) else (none)) else (none)) = some r := by rw [if_neg (show ¬ (false = true) by decide)] at H; exact H
     clear H
     have H := H1
     clear H1
     by_cases c74 : t497 = true
     {
     subst c74
     have H1 : (if t507 = true then ((dRight.f t522 t525).bind fun t529 => (if t529 = true then (some ((t525.length : Int) == 0)) else (none))) else (none)) = some r := by rw [if_pos rfl] at H; exact H
     clear H
     have H := H1
     clear H1
     by_cases c75 : t507 = true
     {
     subst c75
     have H1 : ((dRight.f t522 t525).bind fun t529 => (if t529 = true then (some ((t525.length : Int) == 0)) else (none))) = some r := by rw [if_pos rfl] at H; exact H
     clear H
     have H := H1
     clear H1
     replace H := Option.bind_eq_some_iff.mp H
     obtain ⟨t529, A760, H⟩ := H
     replace H : (if t529 = true then (some ((t525.length : Int) == 0)) else (none)) = some r := H
     have A76 := Aside0.mk A760
     clear A760
     by_cases c77 : t529 = true
     {
     subst c77
     have H1 : (some ((t525.length : Int) == 0)) = some r := by rw [if_pos rfl] at H; exact H
     clear H
     have H := H1
     clear H1
     obtain rfl := Option.some.inj H
     have hnb78 := NB528_508.out
     have hnc78 := NB508_528.out
     have hnb79 := NB528_521.out
     have hnc79 := NB521_528.out
     have hcz80_0 : wc.cell? ⟨gb528, 0, none⟩ = some (.slice Ao32 t522.length co32) := (blk_cell BK528.out 0).trans rfl
     have hcz80_1 : wc.cell? ⟨gb528, 1, none⟩ = some (.slice Ao36 t525.length co36) := (blk_cell BK528.out 1).trans rfl
     have hfz80_0 := blk_frozen BK528.out 0
     have hfz80_1 := blk_frozen BK528.out 1
     go_wp2_with (first | (go_at_call 12; (with_reducible refine (dRight.calls _ _ t522 _ _ t525 true _ ?side1 ?side2 ?side3 ?side4 A76.out).mono ?_); (case side1 => repeat (first | exact (Kd.R_reads' HO_529000.out).2.2 | (with_reducible refine Kd.C_alloc ?_ _) | (with_reducible refine Kd.C_drewN ?_ _) | (with_reducible refine Kd.C_drew ?_))); (case side2 => exact (Kd.R_reads' HO_529000.out).2.1); (case side3 => repeat (first | exact (Kd.R_reads' HO_529001.out).2.2 | (with_reducible refine Kd.C_alloc ?_ _) | (with_reducible refine Kd.C_drewN ?_ _) | (with_reducible refine Kd.C_drew ?_))); (case side4 => exact (Kd.R_reads' HO_529001.out).2.1); rintro e w81 ⟨rfl, hb⟩; have n0_ := Aside0.mk (Kd.R_below (by (with_reducible repeat (first | apply Kd.R_alloc | apply Kd.R_drewN | apply Kd.R_drew)); exact HO_10.out) hb); have n1_ := Aside0.mk (Kd.R_below (by (with_reducible repeat (first | apply Kd.R_alloc | apply Kd.R_drewN | apply Kd.R_drew)); exact HO_15.out) hb); have n2_ := Aside0.mk (Kd.V_below (by (with_reducible repeat (first | apply Kd.V_alloc | apply Kd.V_drewN | apply Kd.V_drew)); exact HO_509000.out) hb); have n3_ := Aside0.mk (Kd.V_below (by (with_reducible repeat (first | apply Kd.V_alloc | apply Kd.V_drewN | apply Kd.V_drew)); exact HO_509001.out) hb); have n4_ := Aside0.mk (Kd.V_below (by (with_reducible repeat (first | apply Kd.V_alloc | apply Kd.V_drewN | apply Kd.V_drew)); exact HO_522000.out) hb); have n5_ := Aside0.mk (Kd.V_below (by (with_reducible repeat (first | apply Kd.V_alloc | apply Kd.V_drewN | apply Kd.V_drew)); exact HO_522001.out) hb); have n6_ := Aside0.mk (Kd.R_below (by (with_reducible repeat (first | apply Kd.R_alloc | apply Kd.R_drewN | apply Kd.R_drew)); exact HO_529000.out) hb); have n7_ := Aside0.mk (Kd.R_below (by (with_reducible repeat (first | apply Kd.R_alloc | apply Kd.R_drewN | apply Kd.R_drew)); exact HO_529001.out) hb); have n8_ := Aside0.mk (blk_below (g := gb508) (o := .cells #[.slice Ao12 t498.length co12, .slice Ao14 t501.length co14] 25 (0, 0)) (by (with_reducible repeat (first | refine blk_drewN ?_ _ | refine blk_drew ?_ | refine blk_alloc ?_ _)); exact BK508.out) hb); have n9_ := Aside0.mk (blk_below (g := gb521) (o := .cells #[.slice Ao25 t511.length co25, .slice Ao28 t514.length co28] 25 (0, 0)) (by (with_reducible repeat (first | refine blk_drewN ?_ _ | refine blk_drew ?_ | refine blk_alloc ?_ _)); exact BK521.out) hb); have n10_ := Aside0.mk (blk_below (g := gb528) (o := .cells #[.slice Ao32 t522.length co32, .slice Ao36 t525.length co36] 25 (0, 0)) (by (with_reducible repeat (first | refine blk_drewN ?_ _ | refine blk_drew ?_ | refine blk_alloc ?_ _)); exact BK528.out) hb); have n11_ := Aside0.mk (below_step (by repeat (first | (with_reducible first | exact HB.out | apply below_alloc | apply pw_below_drewN | apply below_drew1 | refine below_set ?_ GE508.out | refine below_set ?_ GE521.out | refine below_set ?_ GE528.out) | exact HB.out)) hb); clear HO_10; clear HO_15; clear HO_509000; clear HO_509001; clear HO_522000; clear HO_522001; clear HO_529000; clear HO_529001; clear BK508; clear BK521; clear BK528; clear HB; have HO_10 := n0_; have HO_15 := n1_; have HO_509000 := n2_; have HO_509001 := n3_; have HO_522000 := n4_; have HO_522001 := n5_; have HO_529000 := n6_; have HO_529001 := n7_; have BK508 := n8_; have BK521 := n9_; have BK528 := n10_; have HB := n11_; clear n0_ n1_ n2_ n3_ n4_ n5_ n6_ n7_ n8_ n9_ n10_ n11_; (try clear hb); (try clear hb2); (try clear hk); (try clear hi); have hcz82_0 : w81.cell? ⟨gb528, 0, none⟩ = some (.slice Ao32 t522.length co32) := (blk_cell BK528.out 0).trans rfl; have hcz82_1 : w81.cell? ⟨gb528, 1, none⟩ = some (.slice Ao36 t525.length co36) := (blk_cell BK528.out 1).trans rfl; have hfz82_0 := blk_frozen BK528.out 0; have hfz82_1 := blk_frozen BK528.out 1))
     repeat (go_quiet (first | (go_at_call 12; (with_reducible refine (dRight.calls _ _ t522 _ _ t525 true _ ?side1 ?side2 ?side3 ?side4 A76.out).mono ?_); (case side1 => repeat (first | exact (Kd.R_reads' HO_529000.out).2.2 | (with_reducible refine Kd.C_alloc ?_ _) | (with_reducible refine Kd.C_drewN ?_ _) | (with_reducible refine Kd.C_drew ?_))); (case side2 => exact (Kd.R_reads' HO_529000.out).2.1); (case side3 => repeat (first | exact (Kd.R_reads' HO_529001.out).2.2 | (with_reducible refine Kd.C_alloc ?_ _) | (with_reducible refine Kd.C_drewN ?_ _) | (with_reducible refine Kd.C_drew ?_))); (case side4 => exact (Kd.R_reads' HO_529001.out).2.1); rintro e w81 ⟨rfl, hb⟩; have n0_ := Aside0.mk (Kd.R_below (by (with_reducible repeat (first | apply Kd.R_alloc | apply Kd.R_drewN | apply Kd.R_drew)); exact HO_10.out) hb); have n1_ := Aside0.mk (Kd.R_below (by (with_reducible repeat (first | apply Kd.R_alloc | apply Kd.R_drewN | apply Kd.R_drew)); exact HO_15.out) hb); have n2_ := Aside0.mk (Kd.V_below (by (with_reducible repeat (first | apply Kd.V_alloc | apply Kd.V_drewN | apply Kd.V_drew)); exact HO_509000.out) hb); have n3_ := Aside0.mk (Kd.V_below (by (with_reducible repeat (first | apply Kd.V_alloc | apply Kd.V_drewN | apply Kd.V_drew)); exact HO_509001.out) hb); have n4_ := Aside0.mk (Kd.V_below (by (with_reducible repeat (first | apply Kd.V_alloc | apply Kd.V_drewN | apply Kd.V_drew)); exact HO_522000.out) hb); have n5_ := Aside0.mk (Kd.V_below (by (with_reducible repeat (first | apply Kd.V_alloc | apply Kd.V_drewN | apply Kd.V_drew)); exact HO_522001.out) hb); have n6_ := Aside0.mk (Kd.R_below (by (with_reducible repeat (first | apply Kd.R_alloc | apply Kd.R_drewN | apply Kd.R_drew)); exact HO_529000.out) hb); have n7_ := Aside0.mk (Kd.R_below (by (with_reducible repeat (first | apply Kd.R_alloc | apply Kd.R_drewN | apply Kd.R_drew)); exact HO_529001.out) hb); have n8_ := Aside0.mk (blk_below (g := gb508) (o := .cells #[.slice Ao12 t498.length co12, .slice Ao14 t501.length co14] 25 (0, 0)) (by (with_reducible repeat (first | refine blk_drewN ?_ _ | refine blk_drew ?_ | refine blk_alloc ?_ _)); exact BK508.out) hb); have n9_ := Aside0.mk (blk_below (g := gb521) (o := .cells #[.slice Ao25 t511.length co25, .slice Ao28 t514.length co28] 25 (0, 0)) (by (with_reducible repeat (first | refine blk_drewN ?_ _ | refine blk_drew ?_ | refine blk_alloc ?_ _)); exact BK521.out) hb); have n10_ := Aside0.mk (blk_below (g := gb528) (o := .cells #[.slice Ao32 t522.length co32, .slice Ao36 t525.length co36] 25 (0, 0)) (by (with_reducible repeat (first | refine blk_drewN ?_ _ | refine blk_drew ?_ | refine blk_alloc ?_ _)); exact BK528.out) hb); have n11_ := Aside0.mk (below_step (by repeat (first | (with_reducible first | exact HB.out | apply below_alloc | apply pw_below_drewN | apply below_drew1 | refine below_set ?_ GE508.out | refine below_set ?_ GE521.out | refine below_set ?_ GE528.out) | exact HB.out)) hb); clear HO_10; clear HO_15; clear HO_509000; clear HO_509001; clear HO_522000; clear HO_522001; clear HO_529000; clear HO_529001; clear BK508; clear BK521; clear BK528; clear HB; have HO_10 := n0_; have HO_15 := n1_; have HO_509000 := n2_; have HO_509001 := n3_; have HO_522000 := n4_; have HO_522001 := n5_; have HO_529000 := n6_; have HO_529001 := n7_; have BK508 := n8_; have BK521 := n9_; have BK528 := n10_; have HB := n11_; clear n0_ n1_ n2_ n3_ n4_ n5_ n6_ n7_ n8_ n9_ n10_ n11_; (try clear hb); (try clear hb2); (try clear hk); (try clear hi); have hcz82_0 : w81.cell? ⟨gb528, 0, none⟩ = some (.slice Ao32 t522.length co32) := (blk_cell BK528.out 0).trans rfl; have hcz82_1 : w81.cell? ⟨gb528, 1, none⟩ = some (.slice Ao36 t525.length co36) := (blk_cell BK528.out 1).trans rfl; have hfz82_0 := blk_frozen BK528.out 0; have hfz82_1 := blk_frozen BK528.out 1)); try go_wp2_with (first | (go_at_call 12; (with_reducible refine (dRight.calls _ _ t522 _ _ t525 true _ ?side1 ?side2 ?side3 ?side4 A76.out).mono ?_); (case side1 => repeat (first | exact (Kd.R_reads' HO_529000.out).2.2 | (with_reducible refine Kd.C_alloc ?_ _) | (with_reducible refine Kd.C_drewN ?_ _) | (with_reducible refine Kd.C_drew ?_))); (case side2 => exact (Kd.R_reads' HO_529000.out).2.1); (case side3 => repeat (first | exact (Kd.R_reads' HO_529001.out).2.2 | (with_reducible refine Kd.C_alloc ?_ _) | (with_reducible refine Kd.C_drewN ?_ _) | (with_reducible refine Kd.C_drew ?_))); (case side4 => exact (Kd.R_reads' HO_529001.out).2.1); rintro e w81 ⟨rfl, hb⟩; have n0_ := Aside0.mk (Kd.R_below (by (with_reducible repeat (first | apply Kd.R_alloc | apply Kd.R_drewN | apply Kd.R_drew)); exact HO_10.out) hb); have n1_ := Aside0.mk (Kd.R_below (by (with_reducible repeat (first | apply Kd.R_alloc | apply Kd.R_drewN | apply Kd.R_drew)); exact HO_15.out) hb); have n2_ := Aside0.mk (Kd.V_below (by (with_reducible repeat (first | apply Kd.V_alloc | apply Kd.V_drewN | apply Kd.V_drew)); exact HO_509000.out) hb); have n3_ := Aside0.mk (Kd.V_below (by (with_reducible repeat (first | apply Kd.V_alloc | apply Kd.V_drewN | apply Kd.V_drew)); exact HO_509001.out) hb); have n4_ := Aside0.mk (Kd.V_below (by (with_reducible repeat (first | apply Kd.V_alloc | apply Kd.V_drewN | apply Kd.V_drew)); exact HO_522000.out) hb); have n5_ := Aside0.mk (Kd.V_below (by (with_reducible repeat (first | apply Kd.V_alloc | apply Kd.V_drewN | apply Kd.V_drew)); exact HO_522001.out) hb); have n6_ := Aside0.mk (Kd.R_below (by (with_reducible repeat (first | apply Kd.R_alloc | apply Kd.R_drewN | apply Kd.R_drew)); exact HO_529000.out) hb); have n7_ := Aside0.mk (Kd.R_below (by (with_reducible repeat (first | apply Kd.R_alloc | apply Kd.R_drewN | apply Kd.R_drew)); exact HO_529001.out) hb); have n8_ := Aside0.mk (blk_below (g := gb508) (o := .cells #[.slice Ao12 t498.length co12, .slice Ao14 t501.length co14] 25 (0, 0)) (by (with_reducible repeat (first | refine blk_drewN ?_ _ | refine blk_drew ?_ | refine blk_alloc ?_ _)); exact BK508.out) hb); have n9_ := Aside0.mk (blk_below (g := gb521) (o := .cells #[.slice Ao25 t511.length co25, .slice Ao28 t514.length co28] 25 (0, 0)) (by (with_reducible repeat (first | refine blk_drewN ?_ _ | refine blk_drew ?_ | refine blk_alloc ?_ _)); exact BK521.out) hb); have n10_ := Aside0.mk (blk_below (g := gb528) (o := .cells #[.slice Ao32 t522.length co32, .slice Ao36 t525.length co36] 25 (0, 0)) (by (with_reducible repeat (first | refine blk_drewN ?_ _ | refine blk_drew ?_ | refine blk_alloc ?_ _)); exact BK528.out) hb); have n11_ := Aside0.mk (below_step (by repeat (first | (with_reducible first | exact HB.out | apply below_alloc | apply pw_below_drewN | apply below_drew1 | refine below_set ?_ GE508.out | refine below_set ?_ GE521.out | refine below_set ?_ GE528.out) | exact HB.out)) hb); clear HO_10; clear HO_15; clear HO_509000; clear HO_509001; clear HO_522000; clear HO_522001; clear HO_529000; clear HO_529001; clear BK508; clear BK521; clear BK528; clear HB; have HO_10 := n0_; have HO_15 := n1_; have HO_509000 := n2_; have HO_509001 := n3_; have HO_522000 := n4_; have HO_522001 := n5_; have HO_529000 := n6_; have HO_529001 := n7_; have BK508 := n8_; have BK521 := n9_; have BK528 := n10_; have HB := n11_; clear n0_ n1_ n2_ n3_ n4_ n5_ n6_ n7_ n8_ n9_ n10_ n11_; (try clear hb); (try clear hb2); (try clear hk); (try clear hi); have hcz82_0 : w81.cell? ⟨gb528, 0, none⟩ = some (.slice Ao32 t522.length co32) := (blk_cell BK528.out 0).trans rfl; have hcz82_1 : w81.cell? ⟨gb528, 1, none⟩ = some (.slice Ao36 t525.length co36) := (blk_cell BK528.out 1).trans rfl; have hfz82_0 := blk_frozen BK528.out 0; have hfz82_1 := blk_frozen BK528.out 1)))
     go_ret
     exact ⟨by first | rfl | (simp [errW_none, errW_some] <;> rfl) | (simp [*, errW_none, errW_some] <;> rfl), by repeat (first | (with_reducible first | exact HB.out | apply below_alloc | apply pw_below_drewN | apply below_drew1 | refine below_set ?_ GE508.out | refine below_set ?_ GE521.out | refine below_set ?_ GE528.out) | exact HB.out)⟩ }
     {
     replace c77 := Bool.eq_false_iff.mpr c77
     subst c77
     have H1 : (none) = some r := by rw [if_neg (show ¬ (false = true) by decide)] at H; exact H
     clear H
     have H := H1
     clear H1
     exact absurd H (by simp) } }
     {
     replace c75 := Bool.eq_false_iff.mpr c75
     subst c75
     have H1 : (none) = some r := by rw [if_neg (show ¬ (false = true) by decide)] at H; exact H
     clear H
     have H := H1
     clear H1
     exact absurd H (by simp) } }
     {
     replace c74 := Bool.eq_false_iff.mpr c74
     subst c74
     have H1 : (none) = some r := by rw [if_neg (show ¬ (false = true) by decide)] at H; exact H
     clear H
     have H := H1
     clear H1
     exact absurd H (by simp) } } } } }
   {
   rw [if_neg c19] at H
   exact absurd H (by simp) } }
   {
   rw [if_neg c18] at H
   exact absurd H (by simp) } } } } }

/-- THE ONE PURE STATEMENT of hallmootlaw22_DiskTearsBytes: yours. -/
def hallmootlaw22_DiskTearsBytes.Pure : Prop := ∀ (a0 : Int) (l1 : List Int) (l2 : List Int), (Lit.int .u8 a0).wf = true → l1.length ≤ maxLen → l1.length * 1 ≤ 140737488351232 → (∀ x ∈ l1, (Lit.int .u8 x).wf = true) → l2.length ≤ maxLen → l2.length * 8 ≤ 140737488351232 → (∀ x ∈ l2, (Lit.int .i64 x).wf = true) → ∃ k, hallmootlaw22_DiskTearsBytes.f k a0 l1 l2 = some true
theorem hallmootlaw22_DiskTearsBytes.walk (P : hallmootlaw22_DiskTearsBytes.Pure) (a0 : Int) (a1 : Option Addr) (len1 cap1 : Nat) (z1 : List Int) (a2 : Option Addr) (len2 cap2 : Nat) (z2 : List Int) (w : World) (w0 : (Lit.int .u8 a0).wf = true) (w1 : (a1 = none ∧ len1 = 0 ∧ cap1 = 0 ∧ z1 = []) ∨ ∃ x, a1 = some x ∧ len1 ≤ cap1 ∧ cap1 ≤ maxLen ∧ z1.length = cap1 ∧ (∀ i, i < z1.length → w.cell? (x.add i) = some (.int .u8 (z1.getD i 0))) ∧ ∀ n ∈ z1, (Lit.int .u8 n).wf = true) (y1 : len1 * 1 ≤ 140737488351232) (w2 : (a2 = none ∧ len2 = 0 ∧ cap2 = 0 ∧ z2 = []) ∨ ∃ x, a2 = some x ∧ len2 ≤ cap2 ∧ cap2 ≤ maxLen ∧ z2.length = cap2 ∧ (∀ i, i < z2.length → w.cell? (x.add i) = some (.int .i64 (z2.getD i 0))) ∧ ∀ n ∈ z2, (Lit.int .i64 n).wf = true) (y2 : len2 * 8 ≤ 140737488351232) : Calls Try.prog 6 #[.int .u8 a0, .slice a1 len1 cap1, .slice a2 len2 cap2] w fun e w' => e = .returned (.bool true) ∧ Below w.heap.size w w' := by
 obtain ⟨l1, rfl, hr1, hm1, hw1, hc1⟩ := ReadsInt.ofRowC w1
 obtain ⟨l2, rfl, hr2, hm2, hw2, hc2⟩ := ReadsInt.ofRowC w2
 obtain ⟨k, h⟩ := P a0 l1 l2 w0 hm1 y1 hw1 hm2 y2 hw2
 refine (hallmootlaw22_DiskTearsBytes.calls k a0 _ _ l1 _ _ l2 true w (Kd.C_of_reads (d := (0 : Int)) (h1 := fun _ => rfl) hr1) hc1 (Kd.C_of_reads (d := (0 : Int)) (h1 := fun _ => rfl) hr2) hc2 h).mono ?_
 rintro e w' ⟨rfl, hd⟩
 exact ⟨rfl, hd⟩

end Go.Proofs.Ytdaonhgcejjlhaa.P
