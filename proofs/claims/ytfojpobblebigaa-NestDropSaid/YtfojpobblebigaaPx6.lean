-- Written by pp.py (this session's program over the kit's printer): functions, contracts. Not trusted: Lean checks it.
import Derived.Test.YtfojpobblebigaaPx0
import Derived.Test.YtfojpobblebigaaPx3
import Derived.Test.YtfojpobblebigaaPx5
import Derived.Test.YtfojpobblebigaaHd
import Derived.Test.YtfojpobblebigaaHg
import Derived.Test.YtfojpobblebigaaHh
import Derived.Test.YtfojpobblebigaaHi
import Derived.Test.YtfojpobblebigaaHk
import Derived.Test.YtfojpobblebigaaHn
import Derived.Test.YtfojpobblebigaaHq
namespace Go.Proofs.Ytfojpobblebigaa.P
open Go.RowKit Go.Proofs.YtfojpobblebigaaW.PrintWords Go.Proofs.YtfojpobblebigaaW.PrintLast Go.Proofs.YtfojpobblebigaaW.PrintMore
attribute [local go_sem] max2_int min2_int max_two min_two max_three min_three max_four min_four   -- for this text's walks alone
set_option linter.unusedVariables false
set_option linter.unusedSimpArgs false

/-! ### hallmootlaw13_NestDrop: function 3 -/
mutual
def hallmootlaw13_NestDrop.j0 : Nat → List (S62) → List (S30) → List (S33) → Int → Bool → Bool → Option (Bool)
  | 0, _, _, _, _, _, _ => none
  | k + 1, x0, x1, x2, x3, x9, x45 => if x45 = true then (some x9) else ((nBegin.f x0).bind fun t146 => (hallmootlaw13_NestDrop.l0 k x0 x1 x2 x3 x9 t146 0))
def hallmootlaw13_NestDrop.l0 : Nat → List (S62) → List (S30) → List (S33) → Int → Bool → List (S62) → Int → Option (Bool)
  | 0, _, _, _, _, _, _, _ => none
  | k + 1, x0, x1, x2, x3, x9, x10, x11 => if x11 < (x1.length : Int) then (hallmootlaw13_NestDrop.j2 k x0 x1 x2 x3 x9 x10 x11 true) else (hallmootlaw13_NestDrop.j2 k x0 x1 x2 x3 x9 x10 x11 (decide (x11 < (x2.length : Int))))
def hallmootlaw13_NestDrop.j2 : Nat → List (S62) → List (S30) → List (S33) → Int → Bool → List (S62) → Int → Bool → Option (Bool)
  | 0, _, _, _, _, _, _, _, _ => none
  | k + 1, x0, x1, x2, x3, x9, x10, x11, x58 => if x58 = true then (if (Int.tmod x11 3) = 1 then ((nBegin.f x10).bind fun t149 => (hallmootlaw13_NestDrop.j3 k x0 x1 x2 x3 x9 t149 x11)) else (hallmootlaw13_NestDrop.j3 k x0 x1 x2 x3 x9 x10 x11)) else ((nDrop.f x10).bind fun bt166 => ((nFind.f x0 x3).bind fun bt172 => ((nFind.f bt166.1 x3).bind fun bt175 => (if (bt166.1.length : Int) = (x0.length : Int) then (hallmootlaw13_NestDrop.j5 k x1 x3 x9 bt172.1 bt172.2.1 bt172.2.2 bt175.1 bt175.2.1 bt175.2.2 (decide ((bt166.2.length : Int) > 0))) else (hallmootlaw13_NestDrop.j5 k x1 x3 x9 bt172.1 bt172.2.1 bt172.2.2 bt175.1 bt175.2.1 bt175.2.2 true)))))
def hallmootlaw13_NestDrop.j3 : Nat → List (S62) → List (S30) → List (S33) → Int → Bool → List (S62) → Int → Option (Bool)
  | 0, _, _, _, _, _, _, _ => none
  | k + 1, x0, x1, x2, x3, x9, x10, x11 => if x11 < (x1.length : Int) then (if 0 ≤ x11 then ((nRead.f x10 ((rd_T30 x1 x11).f0) ((rd_T30 x1 x11).f1) ((rd_T30 x1 x11).f2)).bind fun t153 => (hallmootlaw13_NestDrop.j4 k x0 x1 x2 x3 x9 t153 x11)) else (none)) else (hallmootlaw13_NestDrop.j4 k x0 x1 x2 x3 x9 x10 x11)
def hallmootlaw13_NestDrop.j4 : Nat → List (S62) → List (S30) → List (S33) → Int → Bool → List (S62) → Int → Option (Bool)
  | 0, _, _, _, _, _, _, _ => none
  | k + 1, x0, x1, x2, x3, x9, x10, x11 => if x11 < (x2.length : Int) then (if 0 ≤ x11 then ((nPut.f x10 ((rd_T33 x2 x11).f0) ((rd_T33 x2 x11).f1)).bind fun t157 => (if (Int.tmod x11 3) = 1 then ((nEnd.f t157).bind fun t160 => (hallmootlaw13_NestDrop.l0 k x0 x1 x2 x3 x9 t160 (wrap64 (x11 + 1)))) else (hallmootlaw13_NestDrop.l0 k x0 x1 x2 x3 x9 t157 (wrap64 (x11 + 1))))) else (none)) else (if (Int.tmod x11 3) = 1 then ((nEnd.f x10).bind fun t163 => (hallmootlaw13_NestDrop.l0 k x0 x1 x2 x3 x9 t163 (wrap64 (x11 + 1)))) else (hallmootlaw13_NestDrop.l0 k x0 x1 x2 x3 x9 x10 (wrap64 (x11 + 1))))
def hallmootlaw13_NestDrop.j5 : Nat → List (S30) → Int → Bool → Int → Int → Int → Int → Int → Int → Bool → Option (Bool)
  | 0, _, _, _, _, _, _, _, _, _, _ => none
  | k + 1, x1, x3, x9, x14, x15, x16, x17, x18, x19, x119 => if x119 = true then (none) else (if x16 = 1 then (if x9 = true then (if x19 = x16 then (some (x14 == x17)) else (none)) else (none)) else (hallmootlaw13_NestDrop.l1 k x1 x3 x9 x14 x15 x16 x17 x18 x19 false 0))
def hallmootlaw13_NestDrop.l1 : Nat → List (S30) → Int → Bool → Int → Int → Int → Int → Int → Int → Bool → Int → Option (Bool)
  | 0, _, _, _, _, _, _, _, _, _, _, _ => none
  | k + 1, x1, x3, x9, x14, x15, x16, x17, x18, x19, x20, x21 => if x21 < (x1.length : Int) then (if x20 = true then (hallmootlaw13_NestDrop.l1 k x1 x3 x9 x14 x15 x16 x17 x18 x19 true (wrap64 (x21 + 1))) else (if 0 ≤ x21 then (hallmootlaw13_NestDrop.l1 k x1 x3 x9 x14 x15 x16 x17 x18 x19 (((rd_T30 x1 x21).f0) == x3) (wrap64 (x21 + 1))) else (none))) else (if x16 = 0 then (if x9 = true then (if ((x19 == 2) == x20) = true then (some (x19 != 1)) else (none)) else (none)) else (if x9 = true then (if x19 = 2 then (if x20 = true then (some true) else (if x14 = x17 then (some (x15 == x18)) else (none))) else (none)) else (none)))
end
def hallmootlaw13_NestDrop.f (k : Nat) (l0 : List (S62)) (l1 : List (S30)) (l2 : List (S33)) (a3 : Int) : Option (Bool) := (hallmootlaw13_sanity.f).bind fun t144 => ((hallmootlaw13_few.f k l0).bind fun t145 => (if t145 = true then (if (l0.length : Int) = 0 then (hallmootlaw13_NestDrop.j0 k l0 l1 l2 a3 t144 true) else (if (l0.length : Int) > 6 then (hallmootlaw13_NestDrop.j0 k l0 l1 l2 a3 t144 true) else (if (l1.length : Int) > 20 then (hallmootlaw13_NestDrop.j0 k l0 l1 l2 a3 t144 true) else (hallmootlaw13_NestDrop.j0 k l0 l1 l2 a3 t144 (decide ((l2.length : Int) > 20)))))) else (hallmootlaw13_NestDrop.j0 k l0 l1 l2 a3 t144 true)))
theorem hallmootlaw13_NestDrop.mono_l : ∀ k, (∀ y0 y1 y2 y3 y4 y5, LeO (hallmootlaw13_NestDrop.j0 k y0 y1 y2 y3 y4 y5) (hallmootlaw13_NestDrop.j0 (k + 1) y0 y1 y2 y3 y4 y5)) ∧ (∀ y0 y1 y2 y3 y4 y5 y6, LeO (hallmootlaw13_NestDrop.l0 k y0 y1 y2 y3 y4 y5 y6) (hallmootlaw13_NestDrop.l0 (k + 1) y0 y1 y2 y3 y4 y5 y6)) ∧ (∀ y0 y1 y2 y3 y4 y5 y6 y7, LeO (hallmootlaw13_NestDrop.j2 k y0 y1 y2 y3 y4 y5 y6 y7) (hallmootlaw13_NestDrop.j2 (k + 1) y0 y1 y2 y3 y4 y5 y6 y7)) ∧ (∀ y0 y1 y2 y3 y4 y5 y6, LeO (hallmootlaw13_NestDrop.j3 k y0 y1 y2 y3 y4 y5 y6) (hallmootlaw13_NestDrop.j3 (k + 1) y0 y1 y2 y3 y4 y5 y6)) ∧ (∀ y0 y1 y2 y3 y4 y5 y6, LeO (hallmootlaw13_NestDrop.j4 k y0 y1 y2 y3 y4 y5 y6) (hallmootlaw13_NestDrop.j4 (k + 1) y0 y1 y2 y3 y4 y5 y6)) ∧ (∀ y0 y1 y2 y3 y4 y5 y6 y7 y8 y9, LeO (hallmootlaw13_NestDrop.j5 k y0 y1 y2 y3 y4 y5 y6 y7 y8 y9) (hallmootlaw13_NestDrop.j5 (k + 1) y0 y1 y2 y3 y4 y5 y6 y7 y8 y9)) ∧ (∀ y0 y1 y2 y3 y4 y5 y6 y7 y8 y9 y10, LeO (hallmootlaw13_NestDrop.l1 k y0 y1 y2 y3 y4 y5 y6 y7 y8 y9 y10) (hallmootlaw13_NestDrop.l1 (k + 1) y0 y1 y2 y3 y4 y5 y6 y7 y8 y9 y10))
  | 0 => ⟨fun _ _ _ _ _ _ r h => by simp [hallmootlaw13_NestDrop.j0] at h, fun _ _ _ _ _ _ _ r h => by simp [hallmootlaw13_NestDrop.l0] at h, fun _ _ _ _ _ _ _ _ r h => by simp [hallmootlaw13_NestDrop.j2] at h, fun _ _ _ _ _ _ _ r h => by simp [hallmootlaw13_NestDrop.j3] at h, fun _ _ _ _ _ _ _ r h => by simp [hallmootlaw13_NestDrop.j4] at h, fun _ _ _ _ _ _ _ _ _ _ r h => by simp [hallmootlaw13_NestDrop.j5] at h, fun _ _ _ _ _ _ _ _ _ _ _ r h => by simp [hallmootlaw13_NestDrop.l1] at h⟩
  | k + 1 => by
    obtain ⟨ih0, ih1, ih2, ih3, ih4, ih5, ih6⟩ := hallmootlaw13_NestDrop.mono_l k
    refine ⟨?_, ?_, ?_, ?_, ?_, ?_, ?_⟩
    · intro y0 y1 y2 y3 y4 y5
      unfold hallmootlaw13_NestDrop.j0
      repeat' first
      | (with_reducible exact ih0 _ _ _ _ _ _)
      | (with_reducible exact ih1 _ _ _ _ _ _ _)
      | (with_reducible exact ih2 _ _ _ _ _ _ _ _)
      | (with_reducible exact ih3 _ _ _ _ _ _ _)
      | (with_reducible exact ih4 _ _ _ _ _ _ _)
      | (with_reducible exact ih5 _ _ _ _ _ _ _ _ _ _)
      | (with_reducible exact ih6 _ _ _ _ _ _ _ _ _ _ _)
      | (with_reducible exact hallmootlaw13_few.mono _ _)
      | (with_reducible exact LeO.refl _)
      | (with_reducible exact LeO.none _)
      | (with_reducible refine LeO.ite ?_ ?_)
      | (with_reducible refine LeO.bind ?_ (fun _ => ?_))
      | exact ih0 _ _ _ _ _ _
      | exact ih1 _ _ _ _ _ _ _
      | exact ih2 _ _ _ _ _ _ _ _
      | exact ih3 _ _ _ _ _ _ _
      | exact ih4 _ _ _ _ _ _ _
      | exact ih5 _ _ _ _ _ _ _ _ _ _
      | exact ih6 _ _ _ _ _ _ _ _ _ _ _
      | exact hallmootlaw13_few.mono _ _
      | exact LeO.none _
      | refine LeO.ite ?_ ?_
      | refine LeO.bind ?_ (fun _ => ?_)
    · intro y0 y1 y2 y3 y4 y5 y6
      unfold hallmootlaw13_NestDrop.l0
      repeat' first
      | (with_reducible exact ih0 _ _ _ _ _ _)
      | (with_reducible exact ih1 _ _ _ _ _ _ _)
      | (with_reducible exact ih2 _ _ _ _ _ _ _ _)
      | (with_reducible exact ih3 _ _ _ _ _ _ _)
      | (with_reducible exact ih4 _ _ _ _ _ _ _)
      | (with_reducible exact ih5 _ _ _ _ _ _ _ _ _ _)
      | (with_reducible exact ih6 _ _ _ _ _ _ _ _ _ _ _)
      | (with_reducible exact hallmootlaw13_few.mono _ _)
      | (with_reducible exact LeO.refl _)
      | (with_reducible exact LeO.none _)
      | (with_reducible refine LeO.ite ?_ ?_)
      | (with_reducible refine LeO.bind ?_ (fun _ => ?_))
      | exact ih0 _ _ _ _ _ _
      | exact ih1 _ _ _ _ _ _ _
      | exact ih2 _ _ _ _ _ _ _ _
      | exact ih3 _ _ _ _ _ _ _
      | exact ih4 _ _ _ _ _ _ _
      | exact ih5 _ _ _ _ _ _ _ _ _ _
      | exact ih6 _ _ _ _ _ _ _ _ _ _ _
      | exact hallmootlaw13_few.mono _ _
      | exact LeO.none _
      | refine LeO.ite ?_ ?_
      | refine LeO.bind ?_ (fun _ => ?_)
    · intro y0 y1 y2 y3 y4 y5 y6 y7
      unfold hallmootlaw13_NestDrop.j2
      repeat' first
      | (with_reducible exact ih0 _ _ _ _ _ _)
      | (with_reducible exact ih1 _ _ _ _ _ _ _)
      | (with_reducible exact ih2 _ _ _ _ _ _ _ _)
      | (with_reducible exact ih3 _ _ _ _ _ _ _)
      | (with_reducible exact ih4 _ _ _ _ _ _ _)
      | (with_reducible exact ih5 _ _ _ _ _ _ _ _ _ _)
      | (with_reducible exact ih6 _ _ _ _ _ _ _ _ _ _ _)
      | (with_reducible exact hallmootlaw13_few.mono _ _)
      | (with_reducible exact LeO.refl _)
      | (with_reducible exact LeO.none _)
      | (with_reducible refine LeO.ite ?_ ?_)
      | (with_reducible refine LeO.bind ?_ (fun _ => ?_))
      | exact ih0 _ _ _ _ _ _
      | exact ih1 _ _ _ _ _ _ _
      | exact ih2 _ _ _ _ _ _ _ _
      | exact ih3 _ _ _ _ _ _ _
      | exact ih4 _ _ _ _ _ _ _
      | exact ih5 _ _ _ _ _ _ _ _ _ _
      | exact ih6 _ _ _ _ _ _ _ _ _ _ _
      | exact hallmootlaw13_few.mono _ _
      | exact LeO.none _
      | refine LeO.ite ?_ ?_
      | refine LeO.bind ?_ (fun _ => ?_)
    · intro y0 y1 y2 y3 y4 y5 y6
      unfold hallmootlaw13_NestDrop.j3
      repeat' first
      | (with_reducible exact ih0 _ _ _ _ _ _)
      | (with_reducible exact ih1 _ _ _ _ _ _ _)
      | (with_reducible exact ih2 _ _ _ _ _ _ _ _)
      | (with_reducible exact ih3 _ _ _ _ _ _ _)
      | (with_reducible exact ih4 _ _ _ _ _ _ _)
      | (with_reducible exact ih5 _ _ _ _ _ _ _ _ _ _)
      | (with_reducible exact ih6 _ _ _ _ _ _ _ _ _ _ _)
      | (with_reducible exact hallmootlaw13_few.mono _ _)
      | (with_reducible exact LeO.refl _)
      | (with_reducible exact LeO.none _)
      | (with_reducible refine LeO.ite ?_ ?_)
      | (with_reducible refine LeO.bind ?_ (fun _ => ?_))
      | exact ih0 _ _ _ _ _ _
      | exact ih1 _ _ _ _ _ _ _
      | exact ih2 _ _ _ _ _ _ _ _
      | exact ih3 _ _ _ _ _ _ _
      | exact ih4 _ _ _ _ _ _ _
      | exact ih5 _ _ _ _ _ _ _ _ _ _
      | exact ih6 _ _ _ _ _ _ _ _ _ _ _
      | exact hallmootlaw13_few.mono _ _
      | exact LeO.none _
      | refine LeO.ite ?_ ?_
      | refine LeO.bind ?_ (fun _ => ?_)
    · intro y0 y1 y2 y3 y4 y5 y6
      unfold hallmootlaw13_NestDrop.j4
      repeat' first
      | (with_reducible exact ih0 _ _ _ _ _ _)
      | (with_reducible exact ih1 _ _ _ _ _ _ _)
      | (with_reducible exact ih2 _ _ _ _ _ _ _ _)
      | (with_reducible exact ih3 _ _ _ _ _ _ _)
      | (with_reducible exact ih4 _ _ _ _ _ _ _)
      | (with_reducible exact ih5 _ _ _ _ _ _ _ _ _ _)
      | (with_reducible exact ih6 _ _ _ _ _ _ _ _ _ _ _)
      | (with_reducible exact hallmootlaw13_few.mono _ _)
      | (with_reducible exact LeO.refl _)
      | (with_reducible exact LeO.none _)
      | (with_reducible refine LeO.ite ?_ ?_)
      | (with_reducible refine LeO.bind ?_ (fun _ => ?_))
      | exact ih0 _ _ _ _ _ _
      | exact ih1 _ _ _ _ _ _ _
      | exact ih2 _ _ _ _ _ _ _ _
      | exact ih3 _ _ _ _ _ _ _
      | exact ih4 _ _ _ _ _ _ _
      | exact ih5 _ _ _ _ _ _ _ _ _ _
      | exact ih6 _ _ _ _ _ _ _ _ _ _ _
      | exact hallmootlaw13_few.mono _ _
      | exact LeO.none _
      | refine LeO.ite ?_ ?_
      | refine LeO.bind ?_ (fun _ => ?_)
    · intro y0 y1 y2 y3 y4 y5 y6 y7 y8 y9
      unfold hallmootlaw13_NestDrop.j5
      repeat' first
      | (with_reducible exact ih0 _ _ _ _ _ _)
      | (with_reducible exact ih1 _ _ _ _ _ _ _)
      | (with_reducible exact ih2 _ _ _ _ _ _ _ _)
      | (with_reducible exact ih3 _ _ _ _ _ _ _)
      | (with_reducible exact ih4 _ _ _ _ _ _ _)
      | (with_reducible exact ih5 _ _ _ _ _ _ _ _ _ _)
      | (with_reducible exact ih6 _ _ _ _ _ _ _ _ _ _ _)
      | (with_reducible exact hallmootlaw13_few.mono _ _)
      | (with_reducible exact LeO.refl _)
      | (with_reducible exact LeO.none _)
      | (with_reducible refine LeO.ite ?_ ?_)
      | (with_reducible refine LeO.bind ?_ (fun _ => ?_))
      | exact ih0 _ _ _ _ _ _
      | exact ih1 _ _ _ _ _ _ _
      | exact ih2 _ _ _ _ _ _ _ _
      | exact ih3 _ _ _ _ _ _ _
      | exact ih4 _ _ _ _ _ _ _
      | exact ih5 _ _ _ _ _ _ _ _ _ _
      | exact ih6 _ _ _ _ _ _ _ _ _ _ _
      | exact hallmootlaw13_few.mono _ _
      | exact LeO.none _
      | refine LeO.ite ?_ ?_
      | refine LeO.bind ?_ (fun _ => ?_)
    · intro y0 y1 y2 y3 y4 y5 y6 y7 y8 y9 y10
      unfold hallmootlaw13_NestDrop.l1
      repeat' first
      | (with_reducible exact ih0 _ _ _ _ _ _)
      | (with_reducible exact ih1 _ _ _ _ _ _ _)
      | (with_reducible exact ih2 _ _ _ _ _ _ _ _)
      | (with_reducible exact ih3 _ _ _ _ _ _ _)
      | (with_reducible exact ih4 _ _ _ _ _ _ _)
      | (with_reducible exact ih5 _ _ _ _ _ _ _ _ _ _)
      | (with_reducible exact ih6 _ _ _ _ _ _ _ _ _ _ _)
      | (with_reducible exact hallmootlaw13_few.mono _ _)
      | (with_reducible exact LeO.refl _)
      | (with_reducible exact LeO.none _)
      | (with_reducible refine LeO.ite ?_ ?_)
      | (with_reducible refine LeO.bind ?_ (fun _ => ?_))
      | exact ih0 _ _ _ _ _ _
      | exact ih1 _ _ _ _ _ _ _
      | exact ih2 _ _ _ _ _ _ _ _
      | exact ih3 _ _ _ _ _ _ _
      | exact ih4 _ _ _ _ _ _ _
      | exact ih5 _ _ _ _ _ _ _ _ _ _
      | exact ih6 _ _ _ _ _ _ _ _ _ _ _
      | exact hallmootlaw13_few.mono _ _
      | exact LeO.none _
      | refine LeO.ite ?_ ?_
      | refine LeO.bind ?_ (fun _ => ?_)
theorem hallmootlaw13_NestDrop.mono : ∀ a0 a1 a2 a3 k, LeO (hallmootlaw13_NestDrop.f k a0 a1 a2 a3) (hallmootlaw13_NestDrop.f (k + 1) a0 a1 a2 a3) := by
 intro a0 a1 a2 a3 k
 obtain ⟨ih0, ih1, ih2, ih3, ih4, ih5, ih6⟩ := hallmootlaw13_NestDrop.mono_l k
 unfold hallmootlaw13_NestDrop.f
 repeat' first | (with_reducible exact ih0 _ _ _ _ _ _) | (with_reducible exact ih1 _ _ _ _ _ _ _) | (with_reducible exact ih2 _ _ _ _ _ _ _ _) | (with_reducible exact ih3 _ _ _ _ _ _ _) | (with_reducible exact ih4 _ _ _ _ _ _ _) | (with_reducible exact ih5 _ _ _ _ _ _ _ _ _ _) | (with_reducible exact ih6 _ _ _ _ _ _ _ _ _ _ _) | (with_reducible exact hallmootlaw13_few.mono _ _) | (with_reducible exact LeO.refl _) | (with_reducible exact LeO.none _) | (with_reducible refine LeO.ite ?_ ?_) | (with_reducible refine LeO.bind ?_ (fun _ => ?_)) | exact ih0 _ _ _ _ _ _ | exact ih1 _ _ _ _ _ _ _ | exact ih2 _ _ _ _ _ _ _ _ | exact ih3 _ _ _ _ _ _ _ | exact ih4 _ _ _ _ _ _ _ | exact ih5 _ _ _ _ _ _ _ _ _ _ | exact ih6 _ _ _ _ _ _ _ _ _ _ _ | exact hallmootlaw13_few.mono _ _ | exact LeO.none _ | refine LeO.ite ?_ ?_ | refine LeO.bind ?_ (fun _ => ?_)
set_option maxHeartbeats 8000000 in
set_option maxRecDepth 100000 in
theorem hallmootlaw13_NestDrop.calls (k : Nat) (A0 : Option Addr) (c0 : Nat) (l0 : List (S62)) (A1 : Option Addr) (c1 : Nat) (l1 : List (S30)) (A2 : Option Addr) (c2 : Nat) (l2 : List (S33)) (a3 : Int) (r : Bool) (w : World) (hr0 : Kd.C k62 w A0 l0.length l0) (hc0 : l0.length ≤ c0) (hr1 : Kd.C k30 w A1 l1.length l1) (hc1 : l1.length ≤ c1) (hr2 : Kd.C k33 w A2 l2.length l2) (hc2 : l2.length ≤ c2) (h : hallmootlaw13_NestDrop.f k l0 l1 l2 a3 = some r) : Calls Try.prog 3 #[.slice A0 l0.length c0, .slice A1 l1.length c1, .slice A2 l2.length c2, .int .i64 a3] w fun e w' => e = .returned (.bool r) ∧ Below w.heap.size w w' := by
 have hu30 := Try.underlying30
 have hu33 := Try.underlying33
 have HR0 := Aside0.mk hr0
 have HC0 := Aside0.mk hc0
 clear hr0 hc0
 have HR1 := Aside0.mk hr1
 have HC1 := Aside0.mk hc1
 clear hr1 hc1
 have HR2 := Aside0.mk hr2
 have HC2 := Aside0.mk hc2
 clear hr2 hc2
 have HB := Aside0.mk (Below.refl w.heap.size w)
 have H : ((hallmootlaw13_sanity.f).bind fun t144 => ((hallmootlaw13_few.f k l0).bind fun t145 => (if t145 = true then (if (l0.length : Int) = 0 then (hallmootlaw13_NestDrop.j0 k l0 l1 l2 a3 t144 true) else (if (l0.length : Int) > 6 then (hallmootlaw13_NestDrop.j0 k l0 l1 l2 a3 t144 true) else (if (l1.length : Int) > 20 then (hallmootlaw13_NestDrop.j0 k l0 l1 l2 a3 t144 true) else (hallmootlaw13_NestDrop.j0 k l0 l1 l2 a3 t144 (decide ((l2.length : Int) > 20)))))) else (hallmootlaw13_NestDrop.j0 k l0 l1 l2 a3 t144 true)))) = some r := h
 clear h
 replace H := Option.bind_eq_some_iff.mp H
 obtain ⟨t144, A50, H⟩ := H
 replace H : ((hallmootlaw13_few.f k l0).bind fun t145 => (if t145 = true then (if (l0.length : Int) = 0 then (hallmootlaw13_NestDrop.j0 k l0 l1 l2 a3 t144 true) else (if (l0.length : Int) > 6 then (hallmootlaw13_NestDrop.j0 k l0 l1 l2 a3 t144 true) else (if (l1.length : Int) > 20 then (hallmootlaw13_NestDrop.j0 k l0 l1 l2 a3 t144 true) else (hallmootlaw13_NestDrop.j0 k l0 l1 l2 a3 t144 (decide ((l2.length : Int) > 20)))))) else (hallmootlaw13_NestDrop.j0 k l0 l1 l2 a3 t144 true))) = some r := H
 have A5 := Aside0.mk A50
 clear A50
 have HC6 := Aside0.mk H
 clear H
 go_enter Try.func3, Try.ntmps3
 go_upto_region 2 with (first | ((with_reducible refine gate_callee (f := 10) rfl ?_); refine goesL_ (some 22) rfl rfl Try.func10 (by kernel_rfl) rfl #[] rfl (by (try simp only [List.map_toArray, List.map_cons, List.map_nil]); first | done | rfl | (simp only [List.length_drop, List.length_take]; rfl)) ?_; (with_reducible refine (hallmootlaw13_sanity.calls  t144 _ A5.out).mono ?_); rintro e w7 ⟨rfl, hb⟩; refine ⟨_, rfl, ?_⟩; have n0_ := Aside0.mk (below_step (by repeat (first | (with_reducible first | exact HB.out | apply below_alloc | apply pw_below_drewN | apply below_drew1) | exact HB.out)) hb); clear HB; have HB := n0_; clear n0_; (try clear hb); (try clear hb2); (try clear hk); (try clear hi)))
 (try simp only [Act.put, List.setIfInBounds_toArray, List.set_cons_zero, List.set_cons_succ])
 go_cut [45] (fun v45 wc => ∃ (kq : Nat) (x45_5 : Bool), v45 = .bool x45_5 ∧ Aside0 (hallmootlaw13_NestDrop.j0 kq l0 l1 l2 a3 t144 x45_5 = some r) ∧ Aside0 (kq ≤ k) ∧ Aside0 (Below w.heap.size w wc))
 case first =>
  have H := HC6.out
  clear HC6
  replace H := Option.bind_eq_some_iff.mp H
  obtain ⟨t145, A80, H⟩ := H
  replace H : (if t145 = true then (if (l0.length : Int) = 0 then (hallmootlaw13_NestDrop.j0 k l0 l1 l2 a3 t144 true) else (if (l0.length : Int) > 6 then (hallmootlaw13_NestDrop.j0 k l0 l1 l2 a3 t144 true) else (if (l1.length : Int) > 20 then (hallmootlaw13_NestDrop.j0 k l0 l1 l2 a3 t144 true) else (hallmootlaw13_NestDrop.j0 k l0 l1 l2 a3 t144 (decide ((l2.length : Int) > 20)))))) else (hallmootlaw13_NestDrop.j0 k l0 l1 l2 a3 t144 true)) = some r := H
  have A8 := Aside0.mk A80
  clear A80
  by_cases c9 : t145 = true
  {
  subst c9
  have H1 : (if (l0.length : Int) = 0 then (hallmootlaw13_NestDrop.j0 k l0 l1 l2 a3 t144 true) else (if (l0.length : Int) > 6 then (hallmootlaw13_NestDrop.j0 k l0 l1 l2 a3 t144 true) else (if (l1.length : Int) > 20 then (hallmootlaw13_NestDrop.j0 k l0 l1 l2 a3 t144 true) else (hallmootlaw13_NestDrop.j0 k l0 l1 l2 a3 t144 (decide ((l2.length : Int) > 20)))))) = some r := by rw [if_pos rfl] at H; exact H
  clear H
  have H := H1
  clear H1
  by_cases c10 : (l0.length : Int) = 0
  {
  rw [if_pos c10] at H
  have c10b0 : ((l0.length : Int) == 0) = true := beq_iff_eq.mpr c10
  have c10b1 : ((l0.length : Int) != 0) = false := bne_eq_false_iff_eq.mpr c10
  clear c10
  (first | rw [c10b0] | (simp only [i64_w, i32_w]; rw [c10b0]) | skip)
  have H' := Aside0.mk H
  clear H
  go_wp2_with (first | ((with_reducible refine gate_callee (f := 11) rfl ?_); refine goesL_ (some 24) rfl rfl Try.func11 (by kernel_rfl) rfl #[.slice A0 l0.length c0] rfl (by (try simp only [List.map_toArray, List.map_cons, List.map_nil]); first | done | rfl | (simp only [List.length_drop, List.length_take]; rfl)) ?_; (with_reducible refine (hallmootlaw13_few.calls k _ _ l0 true _ ?side1 ?side2 A8.out).mono ?_); (case side1 => repeat (first | exact (Kd.C_below HR0.out HB.out) | (with_reducible refine Kd.C_alloc ?_ _) | (with_reducible refine Kd.C_drewN ?_ _) | (with_reducible refine Kd.C_drew ?_))); (case side2 => exact HC0.out); rintro e w' ⟨rfl, ⟨nd, rfl⟩⟩; refine ⟨_, rfl, ?_⟩))
  go_meet
  case rel => exact ⟨_, (true), (by first | rfl | (simp; done) | (simp [*]; done)), H', ⟨by first | omega | exact Nat.le_refl _⟩, ⟨by repeat (first | (with_reducible first | exact HB.out | apply below_alloc | apply pw_below_drewN | apply below_drew1) | exact HB.out)⟩⟩ }
  {
  rw [if_neg c10] at H
  have c10b0 : ((l0.length : Int) == 0) = false := beq_eq_false_iff_ne.mpr c10
  have c10b1 : ((l0.length : Int) != 0) = true := bne_iff_ne.mpr c10
  have c10b2 : ¬ (l0 = []) := fun h_ => c10 (by rw [h_]; rfl)
  (first | rw [c10b0] | (simp only [i64_w, i32_w]; rw [c10b0]) | skip)
  by_cases c11 : (l0.length : Int) > 6
  {
  rw [if_pos c11] at H
  have c11b0 : decide (6 < (l0.length : Int)) = true := decide_eq_true c11
  have c11b1 : decide (6 < l0.length) = true := decide_eq_true (by omega)
  clear c11
  have H' := Aside0.mk H
  clear H
  go_wp2_with (first | ((with_reducible refine gate_callee (f := 11) rfl ?_); refine goesL_ (some 24) rfl rfl Try.func11 (by kernel_rfl) rfl #[.slice A0 l0.length c0] rfl (by (try simp only [List.map_toArray, List.map_cons, List.map_nil]); first | done | rfl | (simp only [List.length_drop, List.length_take]; rfl)) ?_; (with_reducible refine (hallmootlaw13_few.calls k _ _ l0 true _ ?side1 ?side2 A8.out).mono ?_); (case side1 => repeat (first | exact (Kd.C_below HR0.out HB.out) | (with_reducible refine Kd.C_alloc ?_ _) | (with_reducible refine Kd.C_drewN ?_ _) | (with_reducible refine Kd.C_drew ?_))); (case side2 => exact HC0.out); rintro e w' ⟨rfl, ⟨nd, rfl⟩⟩; refine ⟨_, rfl, ?_⟩))
  go_meet
  case rel => exact ⟨_, (true), (by first | rfl | (simp; done) | (simp [*]; done)), H', ⟨by first | omega | exact Nat.le_refl _⟩, ⟨by repeat (first | (with_reducible first | exact HB.out | apply below_alloc | apply pw_below_drewN | apply below_drew1) | exact HB.out)⟩⟩ }
  {
  rw [if_neg c11] at H
  have c11b0 : decide (6 < (l0.length : Int)) = false := decide_eq_false c11
  have c11b1 : decide (6 < l0.length) = false := decide_eq_false (by omega)
  clear c11
  by_cases c12 : (l1.length : Int) > 20
  {
  rw [if_pos c12] at H
  have c12b0 : decide (20 < (l1.length : Int)) = true := decide_eq_true c12
  have c12b1 : decide (20 < l1.length) = true := decide_eq_true (by omega)
  clear c12
  have H' := Aside0.mk H
  clear H
  go_wp2_with (first | ((with_reducible refine gate_callee (f := 11) rfl ?_); refine goesL_ (some 24) rfl rfl Try.func11 (by kernel_rfl) rfl #[.slice A0 l0.length c0] rfl (by (try simp only [List.map_toArray, List.map_cons, List.map_nil]); first | done | rfl | (simp only [List.length_drop, List.length_take]; rfl)) ?_; (with_reducible refine (hallmootlaw13_few.calls k _ _ l0 true _ ?side1 ?side2 A8.out).mono ?_); (case side1 => repeat (first | exact (Kd.C_below HR0.out HB.out) | (with_reducible refine Kd.C_alloc ?_ _) | (with_reducible refine Kd.C_drewN ?_ _) | (with_reducible refine Kd.C_drew ?_))); (case side2 => exact HC0.out); rintro e w' ⟨rfl, ⟨nd, rfl⟩⟩; refine ⟨_, rfl, ?_⟩))
  go_meet
  case rel => exact ⟨_, (true), (by first | rfl | (simp; done) | (simp [*]; done)), H', ⟨by first | omega | exact Nat.le_refl _⟩, ⟨by repeat (first | (with_reducible first | exact HB.out | apply below_alloc | apply pw_below_drewN | apply below_drew1) | exact HB.out)⟩⟩ }
  {
  rw [if_neg c12] at H
  have c12b0 : decide (20 < (l1.length : Int)) = false := decide_eq_false c12
  have c12b1 : decide (20 < l1.length) = false := decide_eq_false (by omega)
  clear c12
  have H' := Aside0.mk H
  clear H
  go_wp2_with (first | ((with_reducible refine gate_callee (f := 11) rfl ?_); refine goesL_ (some 24) rfl rfl Try.func11 (by kernel_rfl) rfl #[.slice A0 l0.length c0] rfl (by (try simp only [List.map_toArray, List.map_cons, List.map_nil]); first | done | rfl | (simp only [List.length_drop, List.length_take]; rfl)) ?_; (with_reducible refine (hallmootlaw13_few.calls k _ _ l0 true _ ?side1 ?side2 A8.out).mono ?_); (case side1 => repeat (first | exact (Kd.C_below HR0.out HB.out) | (with_reducible refine Kd.C_alloc ?_ _) | (with_reducible refine Kd.C_drewN ?_ _) | (with_reducible refine Kd.C_drew ?_))); (case side2 => exact HC0.out); rintro e w' ⟨rfl, ⟨nd, rfl⟩⟩; refine ⟨_, rfl, ?_⟩))
  go_meet
  case rel => exact ⟨_, (decide ((l2.length : Int) > 20)), (by first | rfl | (simp; done) | (simp [*]; done)), H', ⟨by first | omega | exact Nat.le_refl _⟩, ⟨by repeat (first | (with_reducible first | exact HB.out | apply below_alloc | apply pw_below_drewN | apply below_drew1) | exact HB.out)⟩⟩ } } } }
  {
  replace c9 := Bool.eq_false_iff.mpr c9
  subst c9
  have H1 : (hallmootlaw13_NestDrop.j0 k l0 l1 l2 a3 t144 true) = some r := by rw [if_neg (show ¬ (false = true) by decide)] at H; exact H
  clear H
  have H := H1
  clear H1
  have H' := Aside0.mk H
  clear H
  go_wp2_with (first | ((with_reducible refine gate_callee (f := 11) rfl ?_); refine goesL_ (some 24) rfl rfl Try.func11 (by kernel_rfl) rfl #[.slice A0 l0.length c0] rfl (by (try simp only [List.map_toArray, List.map_cons, List.map_nil]); first | done | rfl | (simp only [List.length_drop, List.length_take]; rfl)) ?_; (with_reducible refine (hallmootlaw13_few.calls k _ _ l0 false _ ?side1 ?side2 A8.out).mono ?_); (case side1 => repeat (first | exact (Kd.C_below HR0.out HB.out) | (with_reducible refine Kd.C_alloc ?_ _) | (with_reducible refine Kd.C_drewN ?_ _) | (with_reducible refine Kd.C_drew ?_))); (case side2 => exact HC0.out); rintro e w' ⟨rfl, ⟨nd, rfl⟩⟩; refine ⟨_, rfl, ?_⟩))
  go_meet
  case rel => exact ⟨_, (true), (by first | rfl | (simp; done) | (simp [*]; done)), H', ⟨by first | omega | exact Nat.le_refl _⟩, ⟨by repeat (first | (with_reducible first | exact HB.out | apply below_alloc | apply pw_below_drewN | apply below_drew1) | exact HB.out)⟩⟩ }
 case rest =>
  clear HC6
  try clear c1
  try clear c2
  try clear p2
  try clear c3
  try clear c9
  try clear c10
  try clear c10b0
  try clear c10b1
  try clear c10b2
  try clear c11
  try clear c11b0
  try clear c11b1
  try clear c12
  try clear c12b0
  try clear c12b1
  obtain ⟨kq, x45_5, rfl, HA, HJ5, HB⟩ := hcut
  cases kq with
  | zero => exact absurd HA.out (by simp [hallmootlaw13_NestDrop.j0])
  | succ kj5 => {
  have H := HA.out
  clear HA
  simp only [hallmootlaw13_NestDrop.j0] at H
  by_cases c13 : x45_5 = true
  {
  subst c13
  have H1 : (some t144) = some r := by rw [if_pos rfl] at H; exact H
  clear H
  have H := H1
  clear H1
  obtain rfl := Option.some.inj H
  go_wp2
  go_ret
  exact ⟨by first | rfl | (simp [errW_none, errW_some] <;> rfl) | (simp [*, errW_none, errW_some] <;> rfl), by repeat (first | (with_reducible first | exact HB.out | apply below_alloc | apply pw_below_drewN | apply below_drew1) | exact HB.out)⟩ }
  {
  replace c13 := Bool.eq_false_iff.mpr c13
  subst c13
  have H1 : ((nBegin.f l0).bind fun t146 => (hallmootlaw13_NestDrop.l0 kj5 l0 l1 l2 a3 t144 t146 0)) = some r := by rw [if_neg (show ¬ (false = true) by decide)] at H; exact H
  clear H
  have H := H1
  clear H1
  replace H := Option.bind_eq_some_iff.mp H
  obtain ⟨t146, A140, H⟩ := H
  replace H : (hallmootlaw13_NestDrop.l0 kj5 l0 l1 l2 a3 t144 t146 0) = some r := H
  have A14 := Aside0.mk A140
  clear A140
  have H' := Aside0.mk H
  clear H
  go_wp2_with (first | ((with_reducible refine gate_callee (f := 12) rfl ?_); refine goesL_ (some 48) rfl rfl Try.func12 (by kernel_rfl) rfl #[.slice A0 l0.length c0] rfl (by (try simp only [List.map_toArray, List.map_cons, List.map_nil]); first | done | rfl | (simp only [List.length_drop, List.length_take]; rfl)) ?_; (with_reducible refine (nBegin.calls (fun k_ => k_ < w.heap.size) _ _ l0 t146 _ ?side1 A14.out).mono ?_); (case side1 => exact Kd.V_mk HC0.out (Kd.F_below (Kd.C_F k62_heap HR0.out) (by repeat (first | (with_reducible first | exact HB.out | apply below_alloc | apply pw_below_drewN | apply below_drew1) | exact HB.out)))); rintro e w15 ⟨v147, rfl, ho0, hb⟩; refine ⟨_, rfl, ?_⟩; have n0_ := Aside0.mk (Kd.V_lower (Kd.V_mono (ok' := fun k_ => True) ho0 (fun k_ hk_ => trivial)) (below_size (by repeat (first | (with_reducible first | exact HB.out | apply below_alloc | apply pw_below_drewN | apply below_drew1) | exact HB.out)))); have n1_ := Aside0.mk (below_step (by repeat (first | (with_reducible first | exact HB.out | apply below_alloc | apply pw_below_drewN | apply below_drew1) | exact HB.out)) hb); clear HB; have HO148 := n0_; have HB := n1_; clear n0_ n1_; (try clear hb); (try clear hb2); (try clear hk); (try clear hi); (try clear ho0)))
  go_loopg [10, 11] kj5 (fun kq v10 v11 w' => ∃ (x10_2 : List (S62)) (x11_2 : Int), v11 = .int .i64 x11_2 ∧ Aside0 (hallmootlaw13_NestDrop.l0 kq l0 l1 l2 a3 t144 x10_2 x11_2 = some r) ∧ Aside0 (kq ≤ kj5) ∧ Aside0 (Kd.V k62 62 w' w.heap.size (fun _ => True) v10 x10_2) ∧ Aside0 (Below w.heap.size w w'))
  case atStart => exact ⟨(t146), (0), (by first | rfl | (simp; done) | (simp [*]; done)), H', ⟨Nat.le_refl _⟩, ⟨by (with_reducible repeat (first | apply Kd.V_alloc | apply Kd.V_drewN | apply Kd.V_drew)); exact HO148.out⟩, ⟨by repeat (first | (with_reducible first | exact HB.out | apply below_alloc | apply pw_below_drewN | apply below_drew1) | exact HB.out)⟩⟩
  case round =>
   clear H'
   try clear c1
   try clear c2
   try clear p2
   try clear c3
   try clear c9
   try clear c10
   try clear c10b0
   try clear c10b1
   try clear c10b2
   try clear c11
   try clear c11b0
   try clear c11b1
   try clear c12
   try clear c12b0
   try clear c12b1
   try clear c13
   try clear p2
   obtain ⟨x10_2, x11_2, rfl, HA, HK2, HO_10, HB⟩ := hrel
   cases gk with
   | zero => exact absurd HA.out (by simp [hallmootlaw13_NestDrop.l0])
   | succ k2 => {
   have H := HA.out
   clear HA
   simp only [hallmootlaw13_NestDrop.l0] at H
   have HC16 := Aside0.mk H
   clear H
   go_upto_region 6 with (fail)
   go_cut [58] (fun v58 wc => ∃ (kq : Nat) (x58_15 : Bool), v58 = .bool x58_15 ∧ Aside0 (hallmootlaw13_NestDrop.j2 kq l0 l1 l2 a3 t144 x10_2 x11_2 x58_15 = some r) ∧ Aside0 (kq ≤ k2) ∧ Aside0 (Kd.V k62 62 wc w.heap.size (fun _ => True) u10 x10_2) ∧ Aside0 (Below w.heap.size w wc))
   case first =>
    have H := HC16.out
    clear HC16
    by_cases c17 : x11_2 < (l1.length : Int)
    {
    rw [if_pos c17] at H
    have c17b0 : decide (x11_2 < (l1.length : Int)) = true := decide_eq_true c17
    clear c17
    (first | rw [c17b0] | (simp only [i64_w, i32_w]; rw [c17b0]) | skip)
    have H' := Aside0.mk H
    clear H
    go_wp2
    go_meet
    case rel => exact ⟨_, (true), (by first | rfl | (simp; done) | (simp [*]; done)), H', ⟨by have := HJ5.out; have := HK2.out; first | omega | exact Nat.le_refl _⟩, ⟨by (with_reducible repeat (first | apply Kd.V_alloc | apply Kd.V_drewN | apply Kd.V_drew)); exact HO_10.out⟩, ⟨by repeat (first | (with_reducible first | exact HB.out | apply below_alloc | apply pw_below_drewN | apply below_drew1) | exact HB.out)⟩⟩ }
    {
    rw [if_neg c17] at H
    have c17b0 : decide (x11_2 < (l1.length : Int)) = false := decide_eq_false c17
    clear c17
    (first | rw [c17b0] | (simp only [i64_w, i32_w]; rw [c17b0]) | skip)
    have H' := Aside0.mk H
    clear H
    go_wp2
    go_meet
    case rel => exact ⟨_, (decide (x11_2 < (l2.length : Int))), (by first | rfl | (simp; done) | (simp [*]; done)), H', ⟨by have := HJ5.out; have := HK2.out; first | omega | exact Nat.le_refl _⟩, ⟨by (with_reducible repeat (first | apply Kd.V_alloc | apply Kd.V_drewN | apply Kd.V_drew)); exact HO_10.out⟩, ⟨by repeat (first | (with_reducible first | exact HB.out | apply below_alloc | apply pw_below_drewN | apply below_drew1) | exact HB.out)⟩⟩ }
   case rest =>
    clear HC16
    try clear c1
    try clear c2
    try clear p2
    try clear c3
    try clear c9
    try clear c10
    try clear c10b0
    try clear c10b1
    try clear c10b2
    try clear c11
    try clear c11b0
    try clear c11b1
    try clear c12
    try clear c12b0
    try clear c12b1
    try clear c13
    try clear c17
    try clear c17b0
    try clear p2
    obtain ⟨kq, x58_15, rfl, HA, HJ15, HO_10, HB⟩ := hcut
    cases kq with
    | zero => exact absurd HA.out (by simp [hallmootlaw13_NestDrop.j2])
    | succ kj15 => {
    have H := HA.out
    clear HA
    simp only [hallmootlaw13_NestDrop.j2] at H
    by_cases c18 : x58_15 = true
    {
    subst c18
    have H1 : (if (Int.tmod x11_2 3) = 1 then ((nBegin.f x10_2).bind fun t149 => (hallmootlaw13_NestDrop.j3 kj15 l0 l1 l2 a3 t144 t149 x11_2)) else (hallmootlaw13_NestDrop.j3 kj15 l0 l1 l2 a3 t144 x10_2 x11_2)) = some r := by rw [if_pos rfl] at H; exact H
    clear H
    have H := H1
    clear H1
    have HC19 := Aside0.mk H
    clear H
    go_upto_if 63 with (fail)
    go_cut [10] (fun v10 wc => ∃ (kq : Nat) (x10_18 : List (S62)), Aside0 (hallmootlaw13_NestDrop.j3 kq l0 l1 l2 a3 t144 x10_18 x11_2 = some r) ∧ Aside0 (kq ≤ kj15) ∧ Aside0 (Kd.V k62 62 wc w.heap.size (fun _ => True) v10 x10_18) ∧ Aside0 (Below w.heap.size w wc))
    case first =>
     have H := HC19.out
     clear HC19
     by_cases c20 : (Int.tmod x11_2 3) = 1
     {
     rw [if_pos c20] at H
     have c20b0 : ((Int.tmod x11_2 3) == 1) = true := beq_iff_eq.mpr c20
     have c20b1 : ((Int.tmod x11_2 3) != 1) = false := bne_eq_false_iff_eq.mpr c20
     clear c20
     (first | rw [c20b0] | (simp only [i64_w, i32_w]; rw [c20b0]) | skip)
     replace H := Option.bind_eq_some_iff.mp H
     obtain ⟨t149, A210, H⟩ := H
     replace H : (hallmootlaw13_NestDrop.j3 kj15 l0 l1 l2 a3 t144 t149 x11_2) = some r := H
     have A21 := Aside0.mk A210
     clear A210
     have H' := Aside0.mk H
     clear H
     obtain ⟨Ao22, co22, eo22⟩ := Kd.V_slice HO_10.out
     subst eo22
     go_wp2_with (first | ((with_reducible refine gate_callee (f := 12) rfl ?_); refine goesL_ (some 65) rfl rfl Try.func12 (by kernel_rfl) rfl #[.slice Ao22 x10_2.length co22] rfl (by (try simp only [List.map_toArray, List.map_cons, List.map_nil]); first | done | rfl | (simp only [List.length_drop, List.length_take]; rfl)) ?_; (with_reducible refine (nBegin.calls (fun k_ => True) _ _ x10_2 t149 _ ?side1 A21.out).mono ?_); (case side1 => exact HO_10.out); rintro e w23 ⟨v150, rfl, ho0, hb⟩; refine ⟨_, rfl, ?_⟩; have n0_ := Aside0.mk (Kd.V_below (by (with_reducible repeat (first | apply Kd.V_alloc | apply Kd.V_drewN | apply Kd.V_drew)); exact HO_10.out) hb); have n1_ := Aside0.mk (Kd.V_lower (Kd.V_mono (ok' := fun k_ => True) ho0 (fun k_ hk_ => trivial)) (below_size (by repeat (first | (with_reducible first | exact HB.out | apply below_alloc | apply pw_below_drewN | apply below_drew1) | exact HB.out)))); have n2_ := Aside0.mk (below_step (by repeat (first | (with_reducible first | exact HB.out | apply below_alloc | apply pw_below_drewN | apply below_drew1) | exact HB.out)) hb); clear HO_10; clear HB; have HO_10 := n0_; have HO151 := n1_; have HB := n2_; clear n0_ n1_ n2_; (try clear hb); (try clear hb2); (try clear hk); (try clear hi); (try clear ho0)))
     go_meet
     case rel => exact ⟨_, (t149), H', ⟨by have := HJ5.out; have := HK2.out; have := HJ15.out; first | omega | exact Nat.le_refl _⟩, ⟨by (with_reducible repeat (first | apply Kd.V_alloc | apply Kd.V_drewN | apply Kd.V_drew)); exact HO151.out⟩, ⟨by repeat (first | (with_reducible first | exact HB.out | apply below_alloc | apply pw_below_drewN | apply below_drew1) | exact HB.out)⟩⟩ }
     {
     rw [if_neg c20] at H
     have c20b0 : ((Int.tmod x11_2 3) == 1) = false := beq_eq_false_iff_ne.mpr c20
     have c20b1 : ((Int.tmod x11_2 3) != 1) = true := bne_iff_ne.mpr c20
     (first | rw [c20b0] | (simp only [i64_w, i32_w]; rw [c20b0]) | skip)
     have H' := Aside0.mk H
     clear H
     go_wp2
     go_meet
     case rel => exact ⟨_, (x10_2), H', ⟨by have := HJ5.out; have := HK2.out; have := HJ15.out; first | omega | exact Nat.le_refl _⟩, ⟨by (with_reducible repeat (first | apply Kd.V_alloc | apply Kd.V_drewN | apply Kd.V_drew)); exact HO_10.out⟩, ⟨by repeat (first | (with_reducible first | exact HB.out | apply below_alloc | apply pw_below_drewN | apply below_drew1) | exact HB.out)⟩⟩ }
    case rest =>
     clear HC19
     try clear c1
     try clear c2
     try clear p2
     try clear c3
     try clear c9
     try clear c10
     try clear c10b0
     try clear c10b1
     try clear c10b2
     try clear c11
     try clear c11b0
     try clear c11b1
     try clear c12
     try clear c12b0
     try clear c12b1
     try clear c13
     try clear c17
     try clear c17b0
     try clear c18
     try clear c20
     try clear c20b0
     try clear c20b1
     try clear p2
     obtain ⟨kq, x10_18, HA, HJ18, HO_10, HB⟩ := hcut
     cases kq with
     | zero => exact absurd HA.out (by simp [hallmootlaw13_NestDrop.j3])
     | succ kj18 => {
     have H := HA.out
     clear HA
     simp only [hallmootlaw13_NestDrop.j3] at H
     have HC24 := Aside0.mk H
     clear H
     go_upto_if 69 with (fail)
     go_cut [10] (fun v10 wc => ∃ (kq : Nat) (x10_23 : List (S62)), Aside0 (hallmootlaw13_NestDrop.j4 kq l0 l1 l2 a3 t144 x10_23 x11_2 = some r) ∧ Aside0 (kq ≤ kj18) ∧ Aside0 (Kd.V k62 62 wc w.heap.size (fun _ => True) v10 x10_23) ∧ Aside0 (Below w.heap.size w wc))
     case first =>
      have H := HC24.out
      clear HC24
      by_cases c25 : x11_2 < (l1.length : Int)
      {
      rw [if_pos c25] at H
      have c25b0 : decide (x11_2 < (l1.length : Int)) = true := decide_eq_true c25
      clear c25
      (first | rw [c25b0] | (simp only [i64_w, i32_w]; rw [c25b0]) | skip)
      by_cases c26 : 0 ≤ x11_2
      {
      rw [if_pos c26] at H
      have c26b0 : decide (0 ≤ x11_2) = true := decide_eq_true c26
      clear c26
      replace H := Option.bind_eq_some_iff.mp H
      obtain ⟨t153, A270, H⟩ := H
      replace H : (hallmootlaw13_NestDrop.j4 kj18 l0 l1 l2 a3 t144 t153 x11_2) = some r := H
      have A27 := Aside0.mk A270
      clear A270
      have H' := Aside0.mk H
      clear H
      have p152 : 0 ≤ (x11_2 : Int) := of_decide_eq_true (by first | (with_reducible assumption) | assumption)
      have q152 : x11_2 < (l1.length : Int) := of_decide_eq_true (by first | (with_reducible assumption) | assumption)
      obtain ⟨ad152, e152, hx152_0, hx152_1, hx152_2⟩ := at_T30 HR1.out x11_2 p152 q152
      cases e152
      replace hx152_0 := (HB.out.cell (World.block_lt_of_cell? w _ hx152_0)).trans hx152_0
      replace hx152_1 := (HB.out.cell (World.block_lt_of_cell? w _ hx152_1)).trans hx152_1
      replace hx152_2 := (HB.out.cell (World.block_lt_of_cell? w _ hx152_2)).trans hx152_2
      replace p152 := eq_true p152
      replace q152 := eq_true q152
      obtain ⟨Ao28, co28, eo28⟩ := Kd.V_slice HO_10.out
      subst eo28
      go_wp2_with (first | ((with_reducible refine gate_callee (f := 13) rfl ?_); refine goesL_ (some 75) rfl rfl Try.func13 (by kernel_rfl) rfl #[.slice Ao28 x10_18.length co28, .agg #[.int .i64 ((rd_T30 l1 x11_2).f0), .int .i64 ((rd_T30 l1 x11_2).f1), .int .i64 ((rd_T30 l1 x11_2).f2)]] rfl (by (try simp only [List.map_toArray, List.map_cons, List.map_nil]); first | done | rfl | (simp only [List.length_drop, List.length_take]; rfl)) ?_; (with_reducible refine (nRead.calls (fun k_ => True) _ _ x10_18 ((rd_T30 l1 x11_2).f0) ((rd_T30 l1 x11_2).f1) ((rd_T30 l1 x11_2).f2) t153 _ ?side1 A27.out).mono ?_); (case side1 => exact HO_10.out); rintro e w29 ⟨v154, rfl, ho0, hb⟩; refine ⟨_, rfl, ?_⟩; have n0_ := Aside0.mk (Kd.V_below (by (with_reducible repeat (first | apply Kd.V_alloc | apply Kd.V_drewN | apply Kd.V_drew)); exact HO_10.out) hb); have n1_ := Aside0.mk (Kd.V_lower (Kd.V_mono (ok' := fun k_ => True) ho0 (fun k_ hk_ => trivial)) (below_size (by repeat (first | (with_reducible first | exact HB.out | apply below_alloc | apply pw_below_drewN | apply below_drew1) | exact HB.out)))); have n2_ := Aside0.mk (below_step (by repeat (first | (with_reducible first | exact HB.out | apply below_alloc | apply pw_below_drewN | apply below_drew1) | exact HB.out)) hb); clear HO_10; clear HB; have HO_10 := n0_; have HO155 := n1_; have HB := n2_; clear n0_ n1_ n2_; (try clear hb); (try clear hb2); (try clear hk); (try clear hi); (try clear ho0)))
      go_meet
      case rel => exact ⟨_, (t153), H', ⟨by have := HJ5.out; have := HK2.out; have := HJ15.out; have := HJ18.out; first | omega | exact Nat.le_refl _⟩, ⟨by (with_reducible repeat (first | apply Kd.V_alloc | apply Kd.V_drewN | apply Kd.V_drew)); exact HO155.out⟩, ⟨by repeat (first | (with_reducible first | exact HB.out | apply below_alloc | apply pw_below_drewN | apply below_drew1) | exact HB.out)⟩⟩ }
      {
      rw [if_neg c26] at H
      exact absurd H (by simp) } }
      {
      rw [if_neg c25] at H
      have c25b0 : decide (x11_2 < (l1.length : Int)) = false := decide_eq_false c25
      clear c25
      (first | rw [c25b0] | (simp only [i64_w, i32_w]; rw [c25b0]) | skip)
      have H' := Aside0.mk H
      clear H
      go_wp2
      go_meet
      case rel => exact ⟨_, (x10_18), H', ⟨by have := HJ5.out; have := HK2.out; have := HJ15.out; have := HJ18.out; first | omega | exact Nat.le_refl _⟩, ⟨by (with_reducible repeat (first | apply Kd.V_alloc | apply Kd.V_drewN | apply Kd.V_drew)); exact HO_10.out⟩, ⟨by repeat (first | (with_reducible first | exact HB.out | apply below_alloc | apply pw_below_drewN | apply below_drew1) | exact HB.out)⟩⟩ }
     case rest =>
      clear HC24
      try clear c1
      try clear p1
      try clear q1
      try clear hx1
      try clear c2
      try clear p2
      try clear c3
      try clear c9
      try clear c10
      try clear c10b0
      try clear c10b1
      try clear c10b2
      try clear c11
      try clear c11b0
      try clear c11b1
      try clear c12
      try clear c12b0
      try clear c12b1
      try clear c13
      try clear p15
      try clear q15
      try clear hx15
      try clear c17
      try clear c17b0
      try clear c18
      try clear c20
      try clear c20b0
      try clear c20b1
      try clear c25
      try clear c25b0
      try clear c26
      try clear c26b0
      try clear hx152_0
      try clear hx152_1
      try clear hx152_2
      try clear p152
      try clear p2
      try clear q152
      obtain ⟨kq, x10_23, HA, HJ23, HO_10, HB⟩ := hcut
      cases kq with
      | zero => exact absurd HA.out (by simp [hallmootlaw13_NestDrop.j4])
      | succ kj23 => {
      have H := HA.out
      clear HA
      simp only [hallmootlaw13_NestDrop.j4] at H
      by_cases c30 : x11_2 < (l2.length : Int)
      {
      rw [if_pos c30] at H
      have c30b0 : decide (x11_2 < (l2.length : Int)) = true := decide_eq_true c30
      clear c30
      by_cases c31 : 0 ≤ x11_2
      {
      rw [if_pos c31] at H
      have c31b0 : decide (0 ≤ x11_2) = true := decide_eq_true c31
      clear c31
      replace H := Option.bind_eq_some_iff.mp H
      obtain ⟨t157, A320, H⟩ := H
      replace H : (if (Int.tmod x11_2 3) = 1 then ((nEnd.f t157).bind fun t160 => (hallmootlaw13_NestDrop.l0 kj23 l0 l1 l2 a3 t144 t160 (wrap64 (x11_2 + 1)))) else (hallmootlaw13_NestDrop.l0 kj23 l0 l1 l2 a3 t144 t157 (wrap64 (x11_2 + 1)))) = some r := H
      have A32 := Aside0.mk A320
      clear A320
      by_cases c33 : (Int.tmod x11_2 3) = 1
      {
      rw [if_pos c33] at H
      have c33b0 : ((Int.tmod x11_2 3) == 1) = true := beq_iff_eq.mpr c33
      have c33b1 : ((Int.tmod x11_2 3) != 1) = false := bne_eq_false_iff_eq.mpr c33
      clear c33
      replace H := Option.bind_eq_some_iff.mp H
      obtain ⟨t160, A340, H⟩ := H
      replace H : (hallmootlaw13_NestDrop.l0 kj23 l0 l1 l2 a3 t144 t160 (wrap64 (x11_2 + 1))) = some r := H
      have A34 := Aside0.mk A340
      clear A340
      have H' := Aside0.mk H
      clear H
      have p156 : 0 ≤ (x11_2 : Int) := of_decide_eq_true (by first | (with_reducible assumption) | assumption)
      have q156 : x11_2 < (l2.length : Int) := of_decide_eq_true (by first | (with_reducible assumption) | assumption)
      obtain ⟨ad156, e156, hx156_0, hx156_1⟩ := at_T33 HR2.out x11_2 p156 q156
      cases e156
      replace hx156_0 := (HB.out.cell (World.block_lt_of_cell? w _ hx156_0)).trans hx156_0
      replace hx156_1 := (HB.out.cell (World.block_lt_of_cell? w _ hx156_1)).trans hx156_1
      replace p156 := eq_true p156
      replace q156 := eq_true q156
      obtain ⟨Ao35, co35, eo35⟩ := Kd.V_slice HO_10.out
      subst eo35
      go_wp2_with (first | ((with_reducible refine gate_callee (f := 14) rfl ?_); refine goesL_ (some 85) rfl rfl Try.func14 (by kernel_rfl) rfl #[.slice Ao35 x10_23.length co35, .agg #[.int .i64 ((rd_T33 l2 x11_2).f0), .int .i64 ((rd_T33 l2 x11_2).f1)]] rfl (by (try simp only [List.map_toArray, List.map_cons, List.map_nil]); first | done | rfl | (simp only [List.length_drop, List.length_take]; rfl)) ?_; (with_reducible refine (nPut.calls (fun k_ => True) _ _ x10_23 ((rd_T33 l2 x11_2).f0) ((rd_T33 l2 x11_2).f1) t157 _ ?side1 A32.out).mono ?_); (case side1 => exact HO_10.out); rintro e w36 ⟨v158, rfl, ho0, hb⟩; refine ⟨_, rfl, ?_⟩; have n0_ := Aside0.mk (Kd.V_below (by (with_reducible repeat (first | apply Kd.V_alloc | apply Kd.V_drewN | apply Kd.V_drew)); exact HO_10.out) hb); have n1_ := Aside0.mk (Kd.V_lower (Kd.V_mono (ok' := fun k_ => True) ho0 (fun k_ hk_ => trivial)) (below_size (by repeat (first | (with_reducible first | exact HB.out | apply below_alloc | apply pw_below_drewN | apply below_drew1) | exact HB.out)))); have n2_ := Aside0.mk (below_step (by repeat (first | (with_reducible first | exact HB.out | apply below_alloc | apply pw_below_drewN | apply below_drew1) | exact HB.out)) hb); clear HO_10; clear HB; have HO_10 := n0_; have HO159 := n1_; have HB := n2_; clear n0_ n1_ n2_; (try clear hb); (try clear hb2); (try clear hk); (try clear hi); (try clear ho0); obtain ⟨Ao37, co37, eo37⟩ := Kd.V_slice HO159.out; subst eo37) | ((with_reducible refine gate_callee (f := 15) rfl ?_); refine goesL_ (some 90) rfl rfl Try.func15 (by kernel_rfl) rfl #[.slice Ao37 t157.length co37] rfl (by (try simp only [List.map_toArray, List.map_cons, List.map_nil]); first | done | rfl | (simp only [List.length_drop, List.length_take]; rfl)) ?_; (with_reducible refine (nEnd.calls (fun k_ => True) _ _ t157 t160 _ ?side1 A34.out).mono ?_); (case side1 => exact HO159.out); rintro e w38 ⟨v161, rfl, ho0, hb⟩; refine ⟨_, rfl, ?_⟩; have n0_ := Aside0.mk (Kd.V_below (by (with_reducible repeat (first | apply Kd.V_alloc | apply Kd.V_drewN | apply Kd.V_drew)); exact HO_10.out) hb); have n1_ := Aside0.mk (Kd.V_below (by (with_reducible repeat (first | apply Kd.V_alloc | apply Kd.V_drewN | apply Kd.V_drew)); exact HO159.out) hb); have n2_ := Aside0.mk (Kd.V_lower (Kd.V_mono (ok' := fun k_ => True) ho0 (fun k_ hk_ => trivial)) (below_size (by repeat (first | (with_reducible first | exact HB.out | apply below_alloc | apply pw_below_drewN | apply below_drew1) | exact HB.out)))); have n3_ := Aside0.mk (below_step (by repeat (first | (with_reducible first | exact HB.out | apply below_alloc | apply pw_below_drewN | apply below_drew1) | exact HB.out)) hb); clear HO_10; clear HO159; clear HB; have HO_10 := n0_; have HO159 := n1_; have HO162 := n2_; have HB := n3_; clear n0_ n1_ n2_ n3_; (try clear hb); (try clear hb2); (try clear hk); (try clear hi); (try clear ho0)))
      go_roundg kj23
      case measure => have := HJ5.out; have := HK2.out; have := HJ15.out; have := HJ18.out; have := HJ23.out; omega
      case rel => exact ⟨(t160), (wrap64 (x11_2 + 1)), (by first | rfl | (simp; done) | (simp [*]; done)), H', ⟨by have := HJ5.out; have := HK2.out; have := HJ15.out; have := HJ18.out; have := HJ23.out; omega⟩, ⟨by (with_reducible repeat (first | apply Kd.V_alloc | apply Kd.V_drewN | apply Kd.V_drew)); exact HO162.out⟩, ⟨by repeat (first | (with_reducible first | exact HB.out | apply below_alloc | apply pw_below_drewN | apply below_drew1) | exact HB.out)⟩⟩ }
      {
      rw [if_neg c33] at H
      have c33b0 : ((Int.tmod x11_2 3) == 1) = false := beq_eq_false_iff_ne.mpr c33
      have c33b1 : ((Int.tmod x11_2 3) != 1) = true := bne_iff_ne.mpr c33
      have H' := Aside0.mk H
      clear H
      have p156 : 0 ≤ (x11_2 : Int) := of_decide_eq_true (by first | (with_reducible assumption) | assumption)
      have q156 : x11_2 < (l2.length : Int) := of_decide_eq_true (by first | (with_reducible assumption) | assumption)
      obtain ⟨ad156, e156, hx156_0, hx156_1⟩ := at_T33 HR2.out x11_2 p156 q156
      cases e156
      replace hx156_0 := (HB.out.cell (World.block_lt_of_cell? w _ hx156_0)).trans hx156_0
      replace hx156_1 := (HB.out.cell (World.block_lt_of_cell? w _ hx156_1)).trans hx156_1
      replace p156 := eq_true p156
      replace q156 := eq_true q156
      obtain ⟨Ao39, co39, eo39⟩ := Kd.V_slice HO_10.out
      subst eo39
      go_wp2_with (first | ((with_reducible refine gate_callee (f := 14) rfl ?_); refine goesL_ (some 85) rfl rfl Try.func14 (by kernel_rfl) rfl #[.slice Ao39 x10_23.length co39, .agg #[.int .i64 ((rd_T33 l2 x11_2).f0), .int .i64 ((rd_T33 l2 x11_2).f1)]] rfl (by (try simp only [List.map_toArray, List.map_cons, List.map_nil]); first | done | rfl | (simp only [List.length_drop, List.length_take]; rfl)) ?_; (with_reducible refine (nPut.calls (fun k_ => True) _ _ x10_23 ((rd_T33 l2 x11_2).f0) ((rd_T33 l2 x11_2).f1) t157 _ ?side1 A32.out).mono ?_); (case side1 => exact HO_10.out); rintro e w40 ⟨v158, rfl, ho0, hb⟩; refine ⟨_, rfl, ?_⟩; have n0_ := Aside0.mk (Kd.V_below (by (with_reducible repeat (first | apply Kd.V_alloc | apply Kd.V_drewN | apply Kd.V_drew)); exact HO_10.out) hb); have n1_ := Aside0.mk (Kd.V_lower (Kd.V_mono (ok' := fun k_ => True) ho0 (fun k_ hk_ => trivial)) (below_size (by repeat (first | (with_reducible first | exact HB.out | apply below_alloc | apply pw_below_drewN | apply below_drew1) | exact HB.out)))); have n2_ := Aside0.mk (below_step (by repeat (first | (with_reducible first | exact HB.out | apply below_alloc | apply pw_below_drewN | apply below_drew1) | exact HB.out)) hb); clear HO_10; clear HB; have HO_10 := n0_; have HO159 := n1_; have HB := n2_; clear n0_ n1_ n2_; (try clear hb); (try clear hb2); (try clear hk); (try clear hi); (try clear ho0)))
      go_roundg kj23
      case measure => have := HJ5.out; have := HK2.out; have := HJ15.out; have := HJ18.out; have := HJ23.out; omega
      case rel => exact ⟨(t157), (wrap64 (x11_2 + 1)), (by first | rfl | (simp; done) | (simp [*]; done)), H', ⟨by have := HJ5.out; have := HK2.out; have := HJ15.out; have := HJ18.out; have := HJ23.out; omega⟩, ⟨by (with_reducible repeat (first | apply Kd.V_alloc | apply Kd.V_drewN | apply Kd.V_drew)); exact HO159.out⟩, ⟨by repeat (first | (with_reducible first | exact HB.out | apply below_alloc | apply pw_below_drewN | apply below_drew1) | exact HB.out)⟩⟩ } }
      {
      rw [if_neg c31] at H
      exact absurd H (by simp) } }
      {
      rw [if_neg c30] at H
      have c30b0 : decide (x11_2 < (l2.length : Int)) = false := decide_eq_false c30
      clear c30
      by_cases c41 : (Int.tmod x11_2 3) = 1
      {
      rw [if_pos c41] at H
      have c41b0 : ((Int.tmod x11_2 3) == 1) = true := beq_iff_eq.mpr c41
      have c41b1 : ((Int.tmod x11_2 3) != 1) = false := bne_eq_false_iff_eq.mpr c41
      clear c41
      replace H := Option.bind_eq_some_iff.mp H
      obtain ⟨t163, A420, H⟩ := H
      replace H : (hallmootlaw13_NestDrop.l0 kj23 l0 l1 l2 a3 t144 t163 (wrap64 (x11_2 + 1))) = some r := H
      have A42 := Aside0.mk A420
      clear A420
      have H' := Aside0.mk H
      clear H
      obtain ⟨Ao43, co43, eo43⟩ := Kd.V_slice HO_10.out
      subst eo43
      go_wp2_with (first | ((with_reducible refine gate_callee (f := 15) rfl ?_); refine goesL_ (some 90) rfl rfl Try.func15 (by kernel_rfl) rfl #[.slice Ao43 x10_23.length co43] rfl (by (try simp only [List.map_toArray, List.map_cons, List.map_nil]); first | done | rfl | (simp only [List.length_drop, List.length_take]; rfl)) ?_; (with_reducible refine (nEnd.calls (fun k_ => True) _ _ x10_23 t163 _ ?side1 A42.out).mono ?_); (case side1 => exact HO_10.out); rintro e w44 ⟨v164, rfl, ho0, hb⟩; refine ⟨_, rfl, ?_⟩; have n0_ := Aside0.mk (Kd.V_below (by (with_reducible repeat (first | apply Kd.V_alloc | apply Kd.V_drewN | apply Kd.V_drew)); exact HO_10.out) hb); have n1_ := Aside0.mk (Kd.V_lower (Kd.V_mono (ok' := fun k_ => True) ho0 (fun k_ hk_ => trivial)) (below_size (by repeat (first | (with_reducible first | exact HB.out | apply below_alloc | apply pw_below_drewN | apply below_drew1) | exact HB.out)))); have n2_ := Aside0.mk (below_step (by repeat (first | (with_reducible first | exact HB.out | apply below_alloc | apply pw_below_drewN | apply below_drew1) | exact HB.out)) hb); clear HO_10; clear HB; have HO_10 := n0_; have HO165 := n1_; have HB := n2_; clear n0_ n1_ n2_; (try clear hb); (try clear hb2); (try clear hk); (try clear hi); (try clear ho0)))
      go_roundg kj23
      case measure => have := HJ5.out; have := HK2.out; have := HJ15.out; have := HJ18.out; have := HJ23.out; omega
      case rel => exact ⟨(t163), (wrap64 (x11_2 + 1)), (by first | rfl | (simp; done) | (simp [*]; done)), H', ⟨by have := HJ5.out; have := HK2.out; have := HJ15.out; have := HJ18.out; have := HJ23.out; omega⟩, ⟨by (with_reducible repeat (first | apply Kd.V_alloc | apply Kd.V_drewN | apply Kd.V_drew)); exact HO165.out⟩, ⟨by repeat (first | (with_reducible first | exact HB.out | apply below_alloc | apply pw_below_drewN | apply below_drew1) | exact HB.out)⟩⟩ }
      {
      rw [if_neg c41] at H
      have c41b0 : ((Int.tmod x11_2 3) == 1) = false := beq_eq_false_iff_ne.mpr c41
      have c41b1 : ((Int.tmod x11_2 3) != 1) = true := bne_iff_ne.mpr c41
      have H' := Aside0.mk H
      clear H
      go_wp2
      go_roundg kj23
      case measure => have := HJ5.out; have := HK2.out; have := HJ15.out; have := HJ18.out; have := HJ23.out; omega
      case rel => exact ⟨(x10_23), (wrap64 (x11_2 + 1)), (by first | rfl | (simp; done) | (simp [*]; done)), H', ⟨by have := HJ5.out; have := HK2.out; have := HJ15.out; have := HJ18.out; have := HJ23.out; omega⟩, ⟨by (with_reducible repeat (first | apply Kd.V_alloc | apply Kd.V_drewN | apply Kd.V_drew)); exact HO_10.out⟩, ⟨by repeat (first | (with_reducible first | exact HB.out | apply below_alloc | apply pw_below_drewN | apply below_drew1) | exact HB.out)⟩⟩ } } } } }
    {
    replace c18 := Bool.eq_false_iff.mpr c18
    subst c18
    have H1 : ((nDrop.f x10_2).bind fun bt166 => ((nFind.f l0 a3).bind fun bt172 => ((nFind.f bt166.1 a3).bind fun bt175 => (if (bt166.1.length : Int) = (l0.length : Int) then (hallmootlaw13_NestDrop.j5 kj15 l1 a3 t144 bt172.1 bt172.2.1 bt172.2.2 bt175.1 bt175.2.1 bt175.2.2 (decide ((bt166.2.length : Int) > 0))) else (hallmootlaw13_NestDrop.j5 kj15 l1 a3 t144 bt172.1 bt172.2.1 bt172.2.2 bt175.1 bt175.2.1 bt175.2.2 true))))) = some r := by rw [if_neg (show ¬ (false = true) by decide)] at H; exact H
    clear H
    have H := H1
    clear H1
    replace H := Option.bind_eq_some_iff.mp H
    obtain ⟨⟨t166, t169⟩, A450, H⟩ := H
    replace H : ((nFind.f l0 a3).bind fun bt172 => ((nFind.f t166 a3).bind fun bt175 => (if (t166.length : Int) = (l0.length : Int) then (hallmootlaw13_NestDrop.j5 kj15 l1 a3 t144 bt172.1 bt172.2.1 bt172.2.2 bt175.1 bt175.2.1 bt175.2.2 (decide ((t169.length : Int) > 0))) else (hallmootlaw13_NestDrop.j5 kj15 l1 a3 t144 bt172.1 bt172.2.1 bt172.2.2 bt175.1 bt175.2.1 bt175.2.2 true)))) = some r := H
    have A45 := Aside0.mk A450
    clear A450
    replace H := Option.bind_eq_some_iff.mp H
    obtain ⟨⟨t172, t173, t174⟩, A460, H⟩ := H
    replace H : ((nFind.f t166 a3).bind fun bt175 => (if (t166.length : Int) = (l0.length : Int) then (hallmootlaw13_NestDrop.j5 kj15 l1 a3 t144 t172 t173 t174 bt175.1 bt175.2.1 bt175.2.2 (decide ((t169.length : Int) > 0))) else (hallmootlaw13_NestDrop.j5 kj15 l1 a3 t144 t172 t173 t174 bt175.1 bt175.2.1 bt175.2.2 true))) = some r := H
    have A46 := Aside0.mk A460
    clear A460
    replace H := Option.bind_eq_some_iff.mp H
    obtain ⟨⟨t175, t176, t177⟩, A470, H⟩ := H
    replace H : (if (t166.length : Int) = (l0.length : Int) then (hallmootlaw13_NestDrop.j5 kj15 l1 a3 t144 t172 t173 t174 t175 t176 t177 (decide ((t169.length : Int) > 0))) else (hallmootlaw13_NestDrop.j5 kj15 l1 a3 t144 t172 t173 t174 t175 t176 t177 true)) = some r := H
    have A47 := Aside0.mk A470
    clear A470
    have HC48 := Aside0.mk H
    clear H
    obtain ⟨Ao49, co49, eo49⟩ := Kd.V_slice HO_10.out
    subst eo49
    go_upto_region 19 with (first | ((with_reducible refine gate_callee (f := 16) rfl ?_); refine goesL_ (some 93) rfl rfl Try.func16 (by kernel_rfl) rfl #[.slice Ao49 x10_2.length co49] rfl (by (try simp only [List.map_toArray, List.map_cons, List.map_nil]); first | done | rfl | (simp only [List.length_drop, List.length_take]; rfl)) ?_; (with_reducible refine (nDrop.calls (fun k_ => True) _ _ x10_2 t166 t169 _ ?side1 A45.out).mono ?_); (case side1 => exact HO_10.out); rintro e w50 ⟨v167, v170, rfl, ho0, ho1, hb⟩; refine ⟨_, rfl, ?_⟩; have n0_ := Aside0.mk (Kd.V_below (by (with_reducible repeat (first | apply Kd.V_alloc | apply Kd.V_drewN | apply Kd.V_drew)); exact HO_10.out) hb); have n1_ := Aside0.mk (Kd.V_lower (Kd.V_mono (ok' := fun k_ => True) ho0 (fun k_ hk_ => trivial)) (below_size (by repeat (first | (with_reducible first | exact HB.out | apply below_alloc | apply pw_below_drewN | apply below_drew1) | exact HB.out)))); have n2_ := Aside0.mk (Kd.V_lower (Kd.V_mono (ok' := fun k_ => True) ho1 (fun k_ hk_ => trivial)) (below_size (by repeat (first | (with_reducible first | exact HB.out | apply below_alloc | apply pw_below_drewN | apply below_drew1) | exact HB.out)))); have n3_ := Aside0.mk (below_step (by repeat (first | (with_reducible first | exact HB.out | apply below_alloc | apply pw_below_drewN | apply below_drew1) | exact HB.out)) hb); clear HO_10; clear HB; have HO_10 := n0_; have HO168 := n1_; have HO171 := n2_; have HB := n3_; clear n0_ n1_ n2_ n3_; (try clear hb); (try clear hb2); (try clear hk); (try clear hi); (try clear ho0); (try clear ho1)) | ((with_reducible refine gate_callee (f := 17) rfl ?_); refine goesL_ (some 99) rfl rfl Try.func17 (by kernel_rfl) rfl #[.slice A0 l0.length c0, .int .i64 a3] rfl (by (try simp only [List.map_toArray, List.map_cons, List.map_nil]); first | done | rfl | (simp only [List.length_drop, List.length_take]; rfl)) ?_; (with_reducible refine (nFind.calls _ _ l0 a3 t172 t173 t174 _ ?side1 ?side2 A46.out).mono ?_); (case side1 => repeat (first | exact (Kd.C_below HR0.out HB.out) | (with_reducible refine Kd.C_alloc ?_ _) | (with_reducible refine Kd.C_drewN ?_ _) | (with_reducible refine Kd.C_drew ?_))); (case side2 => exact HC0.out); rintro e w51 ⟨rfl, hb⟩; refine ⟨_, rfl, ?_⟩; have n0_ := Aside0.mk (Kd.V_below (by (with_reducible repeat (first | apply Kd.V_alloc | apply Kd.V_drewN | apply Kd.V_drew)); exact HO_10.out) hb); have n1_ := Aside0.mk (Kd.V_below (by (with_reducible repeat (first | apply Kd.V_alloc | apply Kd.V_drewN | apply Kd.V_drew)); exact HO168.out) hb); have n2_ := Aside0.mk (Kd.V_below (by (with_reducible repeat (first | apply Kd.V_alloc | apply Kd.V_drewN | apply Kd.V_drew)); exact HO171.out) hb); have n3_ := Aside0.mk (below_step (by repeat (first | (with_reducible first | exact HB.out | apply below_alloc | apply pw_below_drewN | apply below_drew1) | exact HB.out)) hb); clear HO_10; clear HO168; clear HO171; clear HB; have HO_10 := n0_; have HO168 := n1_; have HO171 := n2_; have HB := n3_; clear n0_ n1_ n2_ n3_; (try clear hb); (try clear hb2); (try clear hk); (try clear hi); obtain ⟨Ao52, co52, eo52⟩ := Kd.V_slice HO168.out; subst eo52) | ((with_reducible refine gate_callee (f := 17) rfl ?_); refine goesL_ (some 106) rfl rfl Try.func17 (by kernel_rfl) rfl #[.slice Ao52 t166.length co52, .int .i64 a3] rfl (by (try simp only [List.map_toArray, List.map_cons, List.map_nil]); first | done | rfl | (simp only [List.length_drop, List.length_take]; rfl)) ?_; (with_reducible refine (nFind.calls _ _ t166 a3 t175 t176 t177 _ ?side1 ?side2 A47.out).mono ?_); (case side1 => repeat (first | exact (Kd.V_reads' HO168.out).2.2 | (with_reducible refine Kd.C_alloc ?_ _) | (with_reducible refine Kd.C_drewN ?_ _) | (with_reducible refine Kd.C_drew ?_))); (case side2 => exact (Kd.V_reads' HO168.out).2.1); rintro e w53 ⟨rfl, hb⟩; refine ⟨_, rfl, ?_⟩; have n0_ := Aside0.mk (Kd.V_below (by (with_reducible repeat (first | apply Kd.V_alloc | apply Kd.V_drewN | apply Kd.V_drew)); exact HO_10.out) hb); have n1_ := Aside0.mk (Kd.V_below (by (with_reducible repeat (first | apply Kd.V_alloc | apply Kd.V_drewN | apply Kd.V_drew)); exact HO168.out) hb); have n2_ := Aside0.mk (Kd.V_below (by (with_reducible repeat (first | apply Kd.V_alloc | apply Kd.V_drewN | apply Kd.V_drew)); exact HO171.out) hb); have n3_ := Aside0.mk (below_step (by repeat (first | (with_reducible first | exact HB.out | apply below_alloc | apply pw_below_drewN | apply below_drew1) | exact HB.out)) hb); clear HO_10; clear HO168; clear HO171; clear HB; have HO_10 := n0_; have HO168 := n1_; have HO171 := n2_; have HB := n3_; clear n0_ n1_ n2_ n3_; (try clear hb); (try clear hb2); (try clear hk); (try clear hi)))
    (try simp only [Act.put, List.setIfInBounds_toArray, List.set_cons_zero, List.set_cons_succ])
    go_cut [119] (fun v119 wc => ∃ (kq : Nat) (x119_47 : Bool), v119 = .bool x119_47 ∧ Aside0 (hallmootlaw13_NestDrop.j5 kq l1 a3 t144 t172 t173 t174 t175 t176 t177 x119_47 = some r) ∧ Aside0 (kq ≤ kj15) ∧ Aside0 (Below w.heap.size w wc))
    case first =>
     have H := HC48.out
     clear HC48
     by_cases c54 : (t166.length : Int) = (l0.length : Int)
     {
     rw [if_pos c54] at H
     have c54b0 : ((t166.length : Int) == (l0.length : Int)) = true := beq_iff_eq.mpr c54
     have c54b1 : ((t166.length : Int) != (l0.length : Int)) = false := bne_eq_false_iff_eq.mpr c54
     have c54b2 : (t166.length == l0.length) = true := by first | simpa using c54 | (simp at c54 ⊢; omega)
     clear c54
     (first | rw [c54b0] | (simp only [i64_w, i32_w]; rw [c54b0]) | skip)
     have H' := Aside0.mk H
     clear H
     obtain ⟨Ao55, co55, eo55⟩ := Kd.V_slice HO171.out
     subst eo55
     go_wp2
     go_meet
     case rel => exact ⟨_, (decide ((t169.length : Int) > 0)), (by first | rfl | (simp; done) | (simp [*]; done)), H', ⟨by have := HJ5.out; have := HK2.out; have := HJ15.out; first | omega | exact Nat.le_refl _⟩, ⟨by repeat (first | (with_reducible first | exact HB.out | apply below_alloc | apply pw_below_drewN | apply below_drew1) | exact HB.out)⟩⟩ }
     {
     rw [if_neg c54] at H
     have c54b0 : ((t166.length : Int) == (l0.length : Int)) = false := beq_eq_false_iff_ne.mpr c54
     have c54b1 : ((t166.length : Int) != (l0.length : Int)) = true := bne_iff_ne.mpr c54
     have c54b2 : (t166.length == l0.length) = false := by first | simpa using c54 | (simp at c54 ⊢; omega)
     (first | rw [c54b0] | (simp only [i64_w, i32_w]; rw [c54b0]) | skip)
     have H' := Aside0.mk H
     clear H
     go_wp2
     go_meet
     case rel => exact ⟨_, (true), (by first | rfl | (simp; done) | (simp [*]; done)), H', ⟨by have := HJ5.out; have := HK2.out; have := HJ15.out; first | omega | exact Nat.le_refl _⟩, ⟨by repeat (first | (with_reducible first | exact HB.out | apply below_alloc | apply pw_below_drewN | apply below_drew1) | exact HB.out)⟩⟩ }
    case rest =>
     clear HC48
     try clear c1
     try clear p1
     try clear q1
     try clear hx1
     try clear c2
     try clear p2
     try clear c3
     try clear c4
     try clear c5
     try clear p6
     try clear c9
     try clear c10
     try clear c10b0
     try clear c10b1
     try clear c10b2
     try clear c11
     try clear c11b0
     try clear c11b1
     try clear c12
     try clear c12b0
     try clear c12b1
     try clear c13
     try clear c14
     try clear c15
     try clear p15
     try clear q15
     try clear hx15
     try clear c16
     try clear c17
     try clear c17b0
     try clear c18
     try clear c20
     try clear c20b0
     try clear c20b1
     try clear c25
     try clear c25b0
     try clear c26
     try clear c26b0
     try clear c30
     try clear c30b0
     try clear c31
     try clear c31b0
     try clear c33
     try clear c33b0
     try clear c33b1
     try clear c41
     try clear c41b0
     try clear c41b1
     try clear c54
     try clear c54b0
     try clear c54b1
     try clear c54b2
     try clear hx152_0
     try clear hx152_1
     try clear hx152_2
     try clear hx156_0
     try clear hx156_1
     try clear p1
     try clear p15
     try clear p152
     try clear p156
     try clear p2
     try clear q1
     try clear q15
     try clear q152
     try clear q156
     obtain ⟨kq, x119_47, rfl, HA, HJ47, HB⟩ := hcut
     cases kq with
     | zero => exact absurd HA.out (by simp [hallmootlaw13_NestDrop.j5])
     | succ kj47 => {
     have H := HA.out
     clear HA
     simp only [hallmootlaw13_NestDrop.j5] at H
     by_cases c56 : x119_47 = true
     {
     subst c56
     have H1 : (none) = some r := by rw [if_pos rfl] at H; exact H
     clear H
     have H := H1
     clear H1
     exact absurd H (by simp) }
     {
     replace c56 := Bool.eq_false_iff.mpr c56
     subst c56
     have H1 : (if t174 = 1 then (if t144 = true then (if t177 = t174 then (some (t172 == t175)) else (none)) else (none)) else (hallmootlaw13_NestDrop.l1 kj47 l1 a3 t144 t172 t173 t174 t175 t176 t177 false 0)) = some r := by rw [if_neg (show ¬ (false = true) by decide)] at H; exact H
     clear H
     have H := H1
     clear H1
     by_cases c57 : t174 = 1
     {
     rw [if_pos c57] at H
     have c57b0 : (t174 == 1) = true := beq_iff_eq.mpr c57
     have c57b1 : (t174 != 1) = false := bne_eq_false_iff_eq.mpr c57
     clear c57
     by_cases c58 : t144 = true
     {
     subst c58
     have H1 : (if t177 = t174 then (some (t172 == t175)) else (none)) = some r := by rw [if_pos rfl] at H; exact H
     clear H
     have H := H1
     clear H1
     by_cases c59 : t177 = t174
     {
     rw [if_pos c59] at H
     have c59b0 : (t177 == t174) = true := beq_iff_eq.mpr c59
     have c59b1 : (t177 != t174) = false := bne_eq_false_iff_eq.mpr c59
     clear c59
     obtain rfl := Option.some.inj H
     go_wp2
     go_ret
     exact ⟨by first | rfl | (simp [errW_none, errW_some] <;> rfl) | (simp [*, errW_none, errW_some] <;> rfl), by repeat (first | (with_reducible first | exact HB.out | apply below_alloc | apply pw_below_drewN | apply below_drew1) | exact HB.out)⟩ }
     {
     rw [if_neg c59] at H
     exact absurd H (by simp) } }
     {
     replace c58 := Bool.eq_false_iff.mpr c58
     subst c58
     have H1 : (none) = some r := by rw [if_neg (show ¬ (false = true) by decide)] at H; exact H
     clear H
     have H := H1
     clear H1
     exact absurd H (by simp) } }
     {
     rw [if_neg c57] at H
     have c57b0 : (t174 == 1) = false := beq_eq_false_iff_ne.mpr c57
     have c57b1 : (t174 != 1) = true := bne_iff_ne.mpr c57
     have H' := Aside0.mk H
     clear H
     go_wp2
     go_loopg [20, 21] kj47 (fun kq v20 v21 w' => ∃ (x20_5 : Bool) (x21_5 : Int), v20 = .bool x20_5 ∧ v21 = .int .i64 x21_5 ∧ Aside0 (hallmootlaw13_NestDrop.l1 kq l1 a3 t144 t172 t173 t174 t175 t176 t177 x20_5 x21_5 = some r) ∧ Aside0 (kq ≤ kj47) ∧ Aside0 (Below w.heap.size w w'))
     case atStart => exact ⟨(false), (0), (by first | rfl | (simp; done) | (simp [*]; done)), (by first | rfl | (simp; done) | (simp [*]; done)), H', ⟨Nat.le_refl _⟩, ⟨by repeat (first | (with_reducible first | exact HB.out | apply below_alloc | apply pw_below_drewN | apply below_drew1) | exact HB.out)⟩⟩
     case round =>
      clear H'
      try clear c1
      try clear p1
      try clear q1
      try clear hx1
      try clear c2
      try clear p2
      try clear c3
      try clear c4
      try clear c5
      try clear p6
      try clear c9
      try clear c10
      try clear c10b0
      try clear c10b1
      try clear c10b2
      try clear c11
      try clear c11b0
      try clear c11b1
      try clear c12
      try clear c12b0
      try clear c12b1
      try clear c13
      try clear c14
      try clear c15
      try clear p15
      try clear q15
      try clear hx15
      try clear c16
      try clear c17
      try clear c17b0
      try clear c18
      try clear c20
      try clear c20b0
      try clear c20b1
      try clear c25
      try clear c25b0
      try clear c26
      try clear c26b0
      try clear c30
      try clear c30b0
      try clear c31
      try clear c31b0
      try clear c33
      try clear c33b0
      try clear c33b1
      try clear c41
      try clear c41b0
      try clear c41b1
      try clear c54
      try clear c54b0
      try clear c54b1
      try clear c54b2
      try clear c56
      try clear c57
      try clear c57b0
      try clear c57b1
      try clear c58
      try clear c59
      try clear c59b0
      try clear c59b1
      try clear hx152_0
      try clear hx152_1
      try clear hx152_2
      try clear hx156_0
      try clear hx156_1
      try clear p1
      try clear p15
      try clear p152
      try clear p156
      try clear p2
      try clear p6
      try clear q1
      try clear q15
      try clear q152
      try clear q156
      obtain ⟨x20_5, x21_5, rfl, rfl, HA, HK5, HB⟩ := hrel
      cases gk with
      | zero => exact absurd HA.out (by simp [hallmootlaw13_NestDrop.l1])
      | succ k5 => {
      have H := HA.out
      clear HA
      simp only [hallmootlaw13_NestDrop.l1] at H
      by_cases c60 : x21_5 < (l1.length : Int)
      {
      rw [if_pos c60] at H
      have c60b0 : decide (x21_5 < (l1.length : Int)) = true := decide_eq_true c60
      clear c60
      by_cases c61 : x20_5 = true
      {
      subst c61
      have H1 : (hallmootlaw13_NestDrop.l1 k5 l1 a3 t144 t172 t173 t174 t175 t176 t177 true (wrap64 (x21_5 + 1))) = some r := by rw [if_pos rfl] at H; exact H
      clear H
      have H := H1
      clear H1
      have H' := Aside0.mk H
      clear H
      go_wp2
      go_roundg k5
      case measure => have := HJ5.out; have := HK2.out; have := HJ15.out; have := HJ47.out; have := HK5.out; omega
      case rel => exact ⟨(true), (wrap64 (x21_5 + 1)), (by first | rfl | (simp; done) | (simp [*]; done)), (by first | rfl | (simp; done) | (simp [*]; done)), H', ⟨by have := HJ5.out; have := HK2.out; have := HJ15.out; have := HJ47.out; have := HK5.out; omega⟩, ⟨by repeat (first | (with_reducible first | exact HB.out | apply below_alloc | apply pw_below_drewN | apply below_drew1) | exact HB.out)⟩⟩ }
      {
      replace c61 := Bool.eq_false_iff.mpr c61
      subst c61
      have H1 : (if 0 ≤ x21_5 then (hallmootlaw13_NestDrop.l1 k5 l1 a3 t144 t172 t173 t174 t175 t176 t177 (((rd_T30 l1 x21_5).f0) == a3) (wrap64 (x21_5 + 1))) else (none)) = some r := by rw [if_neg (show ¬ (false = true) by decide)] at H; exact H
      clear H
      have H := H1
      clear H1
      by_cases c62 : 0 ≤ x21_5
      {
      rw [if_pos c62] at H
      have c62b0 : decide (0 ≤ x21_5) = true := decide_eq_true c62
      clear c62
      have H' := Aside0.mk H
      clear H
      have p178 : 0 ≤ (x21_5 : Int) := of_decide_eq_true (by first | (with_reducible assumption) | assumption)
      have q178 : x21_5 < (l1.length : Int) := of_decide_eq_true (by first | (with_reducible assumption) | assumption)
      obtain ⟨ad178, e178, hx178_0, hx178_1, hx178_2⟩ := at_T30 HR1.out x21_5 p178 q178
      cases e178
      replace hx178_0 := (HB.out.cell (World.block_lt_of_cell? w _ hx178_0)).trans hx178_0
      replace hx178_1 := (HB.out.cell (World.block_lt_of_cell? w _ hx178_1)).trans hx178_1
      replace hx178_2 := (HB.out.cell (World.block_lt_of_cell? w _ hx178_2)).trans hx178_2
      replace p178 := eq_true p178
      replace q178 := eq_true q178
      go_wp2
      go_roundg k5
      case measure => have := HJ5.out; have := HK2.out; have := HJ15.out; have := HJ47.out; have := HK5.out; omega
      case rel => exact ⟨((((rd_T30 l1 x21_5).f0) == a3)), (wrap64 (x21_5 + 1)), (by first | rfl | (simp; done) | (simp [*]; done)), (by first | rfl | (simp; done) | (simp [*]; done)), H', ⟨by have := HJ5.out; have := HK2.out; have := HJ15.out; have := HJ47.out; have := HK5.out; omega⟩, ⟨by repeat (first | (with_reducible first | exact HB.out | apply below_alloc | apply pw_below_drewN | apply below_drew1) | exact HB.out)⟩⟩ }
      {
      rw [if_neg c62] at H
      exact absurd H (by simp) } } }
      {
      rw [if_neg c60] at H
      have c60b0 : decide (x21_5 < (l1.length : Int)) = false := decide_eq_false c60
      clear c60
      by_cases c63 : t174 = 0
      {
      rw [if_pos c63] at H
      have c63b0 : (t174 == 0) = true := beq_iff_eq.mpr c63
      have c63b1 : (t174 != 0) = false := bne_eq_false_iff_eq.mpr c63
      clear c63
      by_cases c64 : t144 = true
      {
      subst c64
      have H1 : (if ((t177 == 2) == x20_5) = true then (some (t177 != 1)) else (none)) = some r := by rw [if_pos rfl] at H; exact H
      clear H
      have H := H1
      clear H1
      by_cases c65 : ((t177 == 2) == x20_5) = true
      {
      rw [if_pos c65] at H
      have c65b0 : ((t177 == 2) == x20_5) = true := c65
      (try (have c65b1 : decide ((t177 == 2) = x20_5) = true := by simpa using c65))
      (try (have c65b2 : ((t177 == 2) == x20_5) = true := by simpa using c65))
      clear c65
      obtain rfl := Option.some.inj H
      go_wp2
      go_ret
      exact ⟨by first | rfl | (simp [errW_none, errW_some] <;> rfl) | (simp [*, errW_none, errW_some] <;> rfl), by repeat (first | (with_reducible first | exact HB.out | apply below_alloc | apply pw_below_drewN | apply below_drew1) | exact HB.out)⟩ }
      {
      rw [if_neg c65] at H
      exact absurd H (by simp) } }
      {
      replace c64 := Bool.eq_false_iff.mpr c64
      subst c64
      have H1 : (none) = some r := by rw [if_neg (show ¬ (false = true) by decide)] at H; exact H
      clear H
      have H := H1
      clear H1
      exact absurd H (by simp) } }
      {
      rw [if_neg c63] at H
      have c63b0 : (t174 == 0) = false := beq_eq_false_iff_ne.mpr c63
      have c63b1 : (t174 != 0) = true := bne_iff_ne.mpr c63
      by_cases c66 : t144 = true
      {
      subst c66
      have H1 : (if t177 = 2 then (if x20_5 = true then (some true) else (if t172 = t175 then (some (t173 == t176)) else (none))) else (none)) = some r := by rw [if_pos rfl] at H; exact H
      clear H
      have H := H1
      clear H1
      by_cases c67 : t177 = 2
      {
      rw [if_pos c67] at H
      have c67b0 : (t177 == 2) = true := beq_iff_eq.mpr c67
      have c67b1 : (t177 != 2) = false := bne_eq_false_iff_eq.mpr c67
      clear c67
      by_cases c68 : x20_5 = true
      {
      subst c68
      have H1 : (some true) = some r := by rw [if_pos rfl] at H; exact H
      clear H
      have H := H1
      clear H1
      obtain rfl := Option.some.inj H
      go_wp2
      go_ret
      exact ⟨by first | rfl | (simp [errW_none, errW_some] <;> rfl) | (simp [*, errW_none, errW_some] <;> rfl), by repeat (first | (with_reducible first | exact HB.out | apply below_alloc | apply pw_below_drewN | apply below_drew1) | exact HB.out)⟩ }
      {
      replace c68 := Bool.eq_false_iff.mpr c68
      subst c68
      have H1 : (if t172 = t175 then (some (t173 == t176)) else (none)) = some r := by rw [if_neg (show ¬ (false = true) by decide)] at H; exact H
      clear H
      have H := H1
      clear H1
      by_cases c69 : t172 = t175
      {
      rw [if_pos c69] at H
      have c69b0 : (t172 == t175) = true := beq_iff_eq.mpr c69
      have c69b1 : (t172 != t175) = false := bne_eq_false_iff_eq.mpr c69
      clear c69
      obtain rfl := Option.some.inj H
      go_wp2
      go_ret
      exact ⟨by first | rfl | (simp [errW_none, errW_some] <;> rfl) | (simp [*, errW_none, errW_some] <;> rfl), by repeat (first | (with_reducible first | exact HB.out | apply below_alloc | apply pw_below_drewN | apply below_drew1) | exact HB.out)⟩ }
      {
      rw [if_neg c69] at H
      exact absurd H (by simp) } } }
      {
      rw [if_neg c67] at H
      exact absurd H (by simp) } }
      {
      replace c66 := Bool.eq_false_iff.mpr c66
      subst c66
      have H1 : (none) = some r := by rw [if_neg (show ¬ (false = true) by decide)] at H; exact H
      clear H
      have H := H1
      clear H1
      exact absurd H (by simp) } } } } } } } } } } } }

end Go.Proofs.Ytfojpobblebigaa.P
