-- Written by pp.py (this session's program over the kit's printer): functions, contracts. Not trusted: Lean checks it.
import Derived.Test.YtfojpobblebigaaYM0
import Derived.Test.YtfojpobblebigaaPx13
import Derived.Test.YtfojpobblebigaaYM4
import Derived.Test.YtfojpobblebigaaPx20
import Derived.Test.YtfojpobblebigaaYM2
import Derived.Test.YtfojpobblebigaaYM3
import Derived.Test.YtfojpobblebigaaYM1
namespace Go.Proofs.Ytfojpobblebigaa.P
open Go.RowKit Go.Proofs.YtfojpobblebigaaW.PrintWords Go.Proofs.YtfojpobblebigaaW.PrintLast Go.Proofs.YtfojpobblebigaaW.PrintMore
attribute [local go_sem] max2_int min2_int max_two min_two max_three min_three max_four min_four   -- for this text's walks alone
set_option linter.unusedVariables false
set_option linter.unusedSimpArgs false

/-! ### hallmootlaw13_NestMatches: function 5 -/
def hallmootlaw13_NestMatches.f (k : Nat) (l0 : List (S62)) (a1 : Int) (a2_0 : Int) (a2_1 : Int) (a2_2 : Int) (a3_0 : Int) (a3_1 : Int) (a4 : Int) : Option (Bool) := (hallmootlaw13_sanity.f).bind fun t329 => ((hallmootlaw13_few.f k l0).bind fun t330 => (if t330 = true then ((nFind.f l0 a1).bind fun bt331 => ((hallmootref13_Find.f k l0 a1).bind fun bt334 => (if t329 = true then (if bt331.1 = bt334.1 then (if bt331.2.1 = bt334.2.1 then (if bt331.2.2 = bt334.2.2 then ((nBegin.f l0).bind fun t338 => ((hallmootref13_Begin.f l0).bind fun t341 => ((hallmootref13_Same.f k t338 t341).bind fun t344 => (if t344 = true then ((nRead.f l0 a2_0 a2_1 a2_2).bind fun t345 => ((hallmootref13_Read.f k l0 a2_0 a2_1 a2_2).bind fun t348 => ((hallmootref13_Same.f k t345 t348).bind fun t351 => (if t351 = true then ((nPut.f l0 a3_0 a3_1).bind fun t352 => ((hallmootref13_Put.f k l0 a3_0 a3_1).bind fun t355 => ((hallmootref13_Same.f k t352 t355).bind fun t358 => (if t358 = true then ((nKeep.f l0 0 0 0 ([] : List (S48)) a4).bind fun t359 => ((hallmootref13_Keep.f l0 0 0 0 ([] : List (S48)) a4).bind fun t362 => ((hallmootref13_Same.f k t359 t362).bind fun t365 => (some t365)))) else (none))))) else (none))))) else (none))))) else (none)) else (none)) else (none)) else (none)))) else (some t329)))
theorem hallmootlaw13_NestMatches.mono : ∀ a0 a1 a2 a3 a4 a5 a6 a7 k, LeO (hallmootlaw13_NestMatches.f k a0 a1 a2 a3 a4 a5 a6 a7) (hallmootlaw13_NestMatches.f (k + 1) a0 a1 a2 a3 a4 a5 a6 a7) := by
 intro a0 a1 a2 a3 a4 a5 a6 a7 k
 unfold hallmootlaw13_NestMatches.f
 repeat' first | (with_reducible exact hallmootlaw13_few.mono _ _) | (with_reducible exact hallmootref13_Find.mono _ _ _) | (with_reducible exact hallmootref13_Put.mono _ _ _ _) | (with_reducible exact hallmootref13_Read.mono _ _ _ _ _) | (with_reducible exact hallmootref13_Same.mono _ _ _) | (with_reducible exact LeO.refl _) | (with_reducible exact LeO.none _) | (with_reducible refine LeO.ite ?_ ?_) | (with_reducible refine LeO.bind ?_ (fun _ => ?_)) | exact hallmootlaw13_few.mono _ _ | exact hallmootref13_Find.mono _ _ _ | exact hallmootref13_Put.mono _ _ _ _ | exact hallmootref13_Read.mono _ _ _ _ _ | exact hallmootref13_Same.mono _ _ _ | exact LeO.none _ | refine LeO.ite ?_ ?_ | refine LeO.bind ?_ (fun _ => ?_)
def hallmootlaw13_NestMatches.T7 : Bool × List (List Nat × List Nat) := (true, [([], []), ([0], [0]), ([1], [1]), ([1], [1]), ([2, 3, 1], [1, 2, 3]), ([1, 4], [1, 4]), ([5, 1], [5]), ([6], [6]), ([6], [6]), ([7, 8, 6], [6, 7, 8]), ([6, 9], [6, 9]), ([10, 6], [10]), ([11], [11]), ([11], [11]), ([12, 13, 11], [11, 12, 13]), ([11, 14], [11, 14]), ([15, 11], [15]), ([16], [16]), ([17, 16, 16], [16, 17]), ([16], [16]), ([19, 18, 16], [16, 19]), ([18, 20, 20, 16], [16, 18, 20]), ([16, 21], [16, 21]), ([22, 21], [22]), ([23], [23]), ([23], [23]), ([24, 25, 23, 23], [23, 24, 25]), ([23], [23]), ([23], [23]), ([27, 28, 26, 23], [23, 27, 28]), ([26, 29, 29, 23], [23, 26, 29]), ([23, 30], [23, 30]), ([31, 30], [31]), ([32], [32]), ([32], [32]), ([33, 34, 32, 32], [32, 33, 34]), ([32], [32]), ([32], [32]), ([36, 37, 35, 32], [32, 36, 37]), ([35, 38, 38, 32], [32, 35, 38]), ([32, 39], [32, 39]), ([40, 39], [40]), ([41], [41]), ([41], [41]), ([42, 43, 41, 41], [41, 42, 43]), ([41], [41]), ([41], [41]), ([45, 46, 44, 41], [41, 45, 46]), ([44, 47, 47, 41], [41, 44, 47]), ([41, 48], [41, 48]), ([49, 48, 0, 1, 2, 3, 4, 5, 6, 7, 8, 9, 10, 11, 12, 13, 14, 15, 16, 17, 18, 19, 20, 21, 22, 23, 24, 25, 26, 27, 28, 29, 30, 31, 32, 33, 34, 35, 36, 37, 38, 39, 40, 41, 42, 43, 44, 45, 46, 47, 48, 49], [49])])
def hallmootlaw13_NestMatches.B7 : List Nat := [0, 1, 3, 3, 15, 31, 63, 127, 127, 511, 1023, 2047, 4095, 4095, 16383, 32767, 65535, 131071, 262143, 131071, 1048575, 2097151, 4194303, 8388607, 16777215, 16777215, 67108863, 16777215, 16777215, 536870911, 1073741823, 2147483647, 4294967295, 8589934591, 8589934591, 34359738367, 8589934591, 8589934591, 274877906943, 549755813887, 1099511627775, 2199023255551, 4398046511103, 4398046511103, 17592186044415, 4398046511103, 4398046511103, 140737488355327, 281474976710655, 562949953421311, 1125899906842623]
theorem hallmootlaw13_NestMatches.tab7 : rtab .any (opsOf Try.f5 7) = hallmootlaw13_NestMatches.T7 := by kernel_rfl
theorem hallmootlaw13_NestMatches.bits7 : waitsOk hallmootlaw13_NestMatches.T7.2 hallmootlaw13_NestMatches.B7 = true := by kernel_rfl
set_option maxHeartbeats 8000000 in
set_option maxRecDepth 100000 in
theorem hallmootlaw13_NestMatches.calls (k : Nat) (A0 : Option Addr) (c0 : Nat) (l0 : List (S62)) (a1 : Int) (a2_0 : Int) (a2_1 : Int) (a2_2 : Int) (a3_0 : Int) (a3_1 : Int) (a4 : Int) (r : Bool) (w : World) (hr0 : Kd.C k62 w A0 l0.length l0) (hc0 : l0.length ≤ c0) (h : hallmootlaw13_NestMatches.f k l0 a1 a2_0 a2_1 a2_2 a3_0 a3_1 a4 = some r) : Calls Try.prog 5 #[.slice A0 l0.length c0, .int .i64 a1, .agg #[.int .i64 a2_0, .int .i64 a2_1, .int .i64 a2_2], .agg #[.int .i64 a3_0, .int .i64 a3_1], .int .i64 a4] w fun e w' => e = .returned (.bool r) ∧ Below w.heap.size w w' := by
 have hu30 := Try.underlying30
 have hu33 := Try.underlying33
 have hu50 := Try.underlying50
 have HR0 := aS hr0
 have HC0 := aS hc0
 clear hr0 hc0
 have HB := aS (Below.refl w.heap.size w)
 have H : ((hallmootlaw13_sanity.f).bind fun t329 => ((hallmootlaw13_few.f k l0).bind fun t330 => (if t330 = true then ((nFind.f l0 a1).bind fun bt331 => ((hallmootref13_Find.f k l0 a1).bind fun bt334 => (if t329 = true then (if bt331.1 = bt334.1 then (if bt331.2.1 = bt334.2.1 then (if bt331.2.2 = bt334.2.2 then ((nBegin.f l0).bind fun t338 => ((hallmootref13_Begin.f l0).bind fun t341 => ((hallmootref13_Same.f k t338 t341).bind fun t344 => (if t344 = true then ((nRead.f l0 a2_0 a2_1 a2_2).bind fun t345 => ((hallmootref13_Read.f k l0 a2_0 a2_1 a2_2).bind fun t348 => ((hallmootref13_Same.f k t345 t348).bind fun t351 => (if t351 = true then ((nPut.f l0 a3_0 a3_1).bind fun t352 => ((hallmootref13_Put.f k l0 a3_0 a3_1).bind fun t355 => ((hallmootref13_Same.f k t352 t355).bind fun t358 => (if t358 = true then ((nKeep.f l0 0 0 0 ([] : List (S48)) a4).bind fun t359 => ((hallmootref13_Keep.f l0 0 0 0 ([] : List (S48)) a4).bind fun t362 => ((hallmootref13_Same.f k t359 t362).bind fun t365 => (some t365)))) else (none))))) else (none))))) else (none))))) else (none)) else (none)) else (none)) else (none)))) else (some t329)))) = some r := h
 clear h
 replace H := Option.bind_eq_some_iff.mp H
 obtain ⟨t329, A60, H⟩ := H
 replace H : ((hallmootlaw13_few.f k l0).bind fun t330 => (if t330 = true then ((nFind.f l0 a1).bind fun bt331 => ((hallmootref13_Find.f k l0 a1).bind fun bt334 => (if t329 = true then (if bt331.1 = bt334.1 then (if bt331.2.1 = bt334.2.1 then (if bt331.2.2 = bt334.2.2 then ((nBegin.f l0).bind fun t338 => ((hallmootref13_Begin.f l0).bind fun t341 => ((hallmootref13_Same.f k t338 t341).bind fun t344 => (if t344 = true then ((nRead.f l0 a2_0 a2_1 a2_2).bind fun t345 => ((hallmootref13_Read.f k l0 a2_0 a2_1 a2_2).bind fun t348 => ((hallmootref13_Same.f k t345 t348).bind fun t351 => (if t351 = true then ((nPut.f l0 a3_0 a3_1).bind fun t352 => ((hallmootref13_Put.f k l0 a3_0 a3_1).bind fun t355 => ((hallmootref13_Same.f k t352 t355).bind fun t358 => (if t358 = true then ((nKeep.f l0 0 0 0 ([] : List (S48)) a4).bind fun t359 => ((hallmootref13_Keep.f l0 0 0 0 ([] : List (S48)) a4).bind fun t362 => ((hallmootref13_Same.f k t359 t362).bind fun t365 => (some t365)))) else (none))))) else (none))))) else (none))))) else (none)) else (none)) else (none)) else (none)))) else (some t329))) = some r := H
 have A6 := aS A60
 clear A60
 replace H := Option.bind_eq_some_iff.mp H
 obtain ⟨t330, A70, H⟩ := H
 replace H : (if t330 = true then ((nFind.f l0 a1).bind fun bt331 => ((hallmootref13_Find.f k l0 a1).bind fun bt334 => (if t329 = true then (if bt331.1 = bt334.1 then (if bt331.2.1 = bt334.2.1 then (if bt331.2.2 = bt334.2.2 then ((nBegin.f l0).bind fun t338 => ((hallmootref13_Begin.f l0).bind fun t341 => ((hallmootref13_Same.f k t338 t341).bind fun t344 => (if t344 = true then ((nRead.f l0 a2_0 a2_1 a2_2).bind fun t345 => ((hallmootref13_Read.f k l0 a2_0 a2_1 a2_2).bind fun t348 => ((hallmootref13_Same.f k t345 t348).bind fun t351 => (if t351 = true then ((nPut.f l0 a3_0 a3_1).bind fun t352 => ((hallmootref13_Put.f k l0 a3_0 a3_1).bind fun t355 => ((hallmootref13_Same.f k t352 t355).bind fun t358 => (if t358 = true then ((nKeep.f l0 0 0 0 ([] : List (S48)) a4).bind fun t359 => ((hallmootref13_Keep.f l0 0 0 0 ([] : List (S48)) a4).bind fun t362 => ((hallmootref13_Same.f k t359 t362).bind fun t365 => (some t365)))) else (none))))) else (none))))) else (none))))) else (none)) else (none)) else (none)) else (none)))) else (some t329)) = some r := H
 have A7 := aS A70
 clear A70
 by_cases c8 : t330 = true
 {
 subst c8
 have H1 : ((nFind.f l0 a1).bind fun bt331 => ((hallmootref13_Find.f k l0 a1).bind fun bt334 => (if t329 = true then (if bt331.1 = bt334.1 then (if bt331.2.1 = bt334.2.1 then (if bt331.2.2 = bt334.2.2 then ((nBegin.f l0).bind fun t338 => ((hallmootref13_Begin.f l0).bind fun t341 => ((hallmootref13_Same.f k t338 t341).bind fun t344 => (if t344 = true then ((nRead.f l0 a2_0 a2_1 a2_2).bind fun t345 => ((hallmootref13_Read.f k l0 a2_0 a2_1 a2_2).bind fun t348 => ((hallmootref13_Same.f k t345 t348).bind fun t351 => (if t351 = true then ((nPut.f l0 a3_0 a3_1).bind fun t352 => ((hallmootref13_Put.f k l0 a3_0 a3_1).bind fun t355 => ((hallmootref13_Same.f k t352 t355).bind fun t358 => (if t358 = true then ((nKeep.f l0 0 0 0 ([] : List (S48)) a4).bind fun t359 => ((hallmootref13_Keep.f l0 0 0 0 ([] : List (S48)) a4).bind fun t362 => ((hallmootref13_Same.f k t359 t362).bind fun t365 => (some t365)))) else (none))))) else (none))))) else (none))))) else (none)) else (none)) else (none)) else (none)))) = some r := by rw [if_pos rfl] at H; exact H
 clear H
 have H := H1
 clear H1
 replace H := Option.bind_eq_some_iff.mp H
 obtain ⟨⟨t331, t332, t333⟩, A90, H⟩ := H
 replace H : ((hallmootref13_Find.f k l0 a1).bind fun bt334 => (if t329 = true then (if t331 = bt334.1 then (if t332 = bt334.2.1 then (if t333 = bt334.2.2 then ((nBegin.f l0).bind fun t338 => ((hallmootref13_Begin.f l0).bind fun t341 => ((hallmootref13_Same.f k t338 t341).bind fun t344 => (if t344 = true then ((nRead.f l0 a2_0 a2_1 a2_2).bind fun t345 => ((hallmootref13_Read.f k l0 a2_0 a2_1 a2_2).bind fun t348 => ((hallmootref13_Same.f k t345 t348).bind fun t351 => (if t351 = true then ((nPut.f l0 a3_0 a3_1).bind fun t352 => ((hallmootref13_Put.f k l0 a3_0 a3_1).bind fun t355 => ((hallmootref13_Same.f k t352 t355).bind fun t358 => (if t358 = true then ((nKeep.f l0 0 0 0 ([] : List (S48)) a4).bind fun t359 => ((hallmootref13_Keep.f l0 0 0 0 ([] : List (S48)) a4).bind fun t362 => ((hallmootref13_Same.f k t359 t362).bind fun t365 => (some t365)))) else (none))))) else (none))))) else (none))))) else (none)) else (none)) else (none)) else (none))) = some r := H
 have A9 := aS A90
 clear A90
 replace H := Option.bind_eq_some_iff.mp H
 obtain ⟨⟨t334, t335, t336⟩, A100, H⟩ := H
 replace H : (if t329 = true then (if t331 = t334 then (if t332 = t335 then (if t333 = t336 then ((nBegin.f l0).bind fun t338 => ((hallmootref13_Begin.f l0).bind fun t341 => ((hallmootref13_Same.f k t338 t341).bind fun t344 => (if t344 = true then ((nRead.f l0 a2_0 a2_1 a2_2).bind fun t345 => ((hallmootref13_Read.f k l0 a2_0 a2_1 a2_2).bind fun t348 => ((hallmootref13_Same.f k t345 t348).bind fun t351 => (if t351 = true then ((nPut.f l0 a3_0 a3_1).bind fun t352 => ((hallmootref13_Put.f k l0 a3_0 a3_1).bind fun t355 => ((hallmootref13_Same.f k t352 t355).bind fun t358 => (if t358 = true then ((nKeep.f l0 0 0 0 ([] : List (S48)) a4).bind fun t359 => ((hallmootref13_Keep.f l0 0 0 0 ([] : List (S48)) a4).bind fun t362 => ((hallmootref13_Same.f k t359 t362).bind fun t365 => (some t365)))) else (none))))) else (none))))) else (none))))) else (none)) else (none)) else (none)) else (none)) = some r := H
 have A10 := aS A100
 clear A100
 by_cases c11 : t329 = true
 {
 subst c11
 have H1 : (if t331 = t334 then (if t332 = t335 then (if t333 = t336 then ((nBegin.f l0).bind fun t338 => ((hallmootref13_Begin.f l0).bind fun t341 => ((hallmootref13_Same.f k t338 t341).bind fun t344 => (if t344 = true then ((nRead.f l0 a2_0 a2_1 a2_2).bind fun t345 => ((hallmootref13_Read.f k l0 a2_0 a2_1 a2_2).bind fun t348 => ((hallmootref13_Same.f k t345 t348).bind fun t351 => (if t351 = true then ((nPut.f l0 a3_0 a3_1).bind fun t352 => ((hallmootref13_Put.f k l0 a3_0 a3_1).bind fun t355 => ((hallmootref13_Same.f k t352 t355).bind fun t358 => (if t358 = true then ((nKeep.f l0 0 0 0 ([] : List (S48)) a4).bind fun t359 => ((hallmootref13_Keep.f l0 0 0 0 ([] : List (S48)) a4).bind fun t362 => ((hallmootref13_Same.f k t359 t362).bind fun t365 => (some t365)))) else (none))))) else (none))))) else (none))))) else (none)) else (none)) else (none)) = some r := by rw [if_pos rfl] at H; exact H
 clear H
 have H := H1
 clear H1
 by_cases c12 : t331 = t334
 {
 rw [if_pos c12] at H
 have c12b0 : (t331 == t334) = true := beq_iff_eq.mpr c12
 have c12b1 : (t331 != t334) = false := bne_eq_false_iff_eq.mpr c12
 clear c12
 by_cases c13 : t332 = t335
 {
 rw [if_pos c13] at H
 have c13b0 : (t332 == t335) = true := beq_iff_eq.mpr c13
 have c13b1 : (t332 != t335) = false := bne_eq_false_iff_eq.mpr c13
 clear c13
 by_cases c14 : t333 = t336
 {
 rw [if_pos c14] at H
 have c14b0 : (t333 == t336) = true := beq_iff_eq.mpr c14
 have c14b1 : (t333 != t336) = false := bne_eq_false_iff_eq.mpr c14
 clear c14
 replace H := Option.bind_eq_some_iff.mp H
 obtain ⟨t338, A150, H⟩ := H
 replace H : ((hallmootref13_Begin.f l0).bind fun t341 => ((hallmootref13_Same.f k t338 t341).bind fun t344 => (if t344 = true then ((nRead.f l0 a2_0 a2_1 a2_2).bind fun t345 => ((hallmootref13_Read.f k l0 a2_0 a2_1 a2_2).bind fun t348 => ((hallmootref13_Same.f k t345 t348).bind fun t351 => (if t351 = true then ((nPut.f l0 a3_0 a3_1).bind fun t352 => ((hallmootref13_Put.f k l0 a3_0 a3_1).bind fun t355 => ((hallmootref13_Same.f k t352 t355).bind fun t358 => (if t358 = true then ((nKeep.f l0 0 0 0 ([] : List (S48)) a4).bind fun t359 => ((hallmootref13_Keep.f l0 0 0 0 ([] : List (S48)) a4).bind fun t362 => ((hallmootref13_Same.f k t359 t362).bind fun t365 => (some t365)))) else (none))))) else (none))))) else (none)))) = some r := H
 have A15 := aS A150
 clear A150
 replace H := Option.bind_eq_some_iff.mp H
 obtain ⟨t341, A160, H⟩ := H
 replace H : ((hallmootref13_Same.f k t338 t341).bind fun t344 => (if t344 = true then ((nRead.f l0 a2_0 a2_1 a2_2).bind fun t345 => ((hallmootref13_Read.f k l0 a2_0 a2_1 a2_2).bind fun t348 => ((hallmootref13_Same.f k t345 t348).bind fun t351 => (if t351 = true then ((nPut.f l0 a3_0 a3_1).bind fun t352 => ((hallmootref13_Put.f k l0 a3_0 a3_1).bind fun t355 => ((hallmootref13_Same.f k t352 t355).bind fun t358 => (if t358 = true then ((nKeep.f l0 0 0 0 ([] : List (S48)) a4).bind fun t359 => ((hallmootref13_Keep.f l0 0 0 0 ([] : List (S48)) a4).bind fun t362 => ((hallmootref13_Same.f k t359 t362).bind fun t365 => (some t365)))) else (none))))) else (none))))) else (none))) = some r := H
 have A16 := aS A160
 clear A160
 replace H := Option.bind_eq_some_iff.mp H
 obtain ⟨t344, A170, H⟩ := H
 replace H : (if t344 = true then ((nRead.f l0 a2_0 a2_1 a2_2).bind fun t345 => ((hallmootref13_Read.f k l0 a2_0 a2_1 a2_2).bind fun t348 => ((hallmootref13_Same.f k t345 t348).bind fun t351 => (if t351 = true then ((nPut.f l0 a3_0 a3_1).bind fun t352 => ((hallmootref13_Put.f k l0 a3_0 a3_1).bind fun t355 => ((hallmootref13_Same.f k t352 t355).bind fun t358 => (if t358 = true then ((nKeep.f l0 0 0 0 ([] : List (S48)) a4).bind fun t359 => ((hallmootref13_Keep.f l0 0 0 0 ([] : List (S48)) a4).bind fun t362 => ((hallmootref13_Same.f k t359 t362).bind fun t365 => (some t365)))) else (none))))) else (none))))) else (none)) = some r := H
 have A17 := aS A170
 clear A170
 by_cases c18 : t344 = true
 {
 subst c18
 have H1 : ((nRead.f l0 a2_0 a2_1 a2_2).bind fun t345 => ((hallmootref13_Read.f k l0 a2_0 a2_1 a2_2).bind fun t348 => ((hallmootref13_Same.f k t345 t348).bind fun t351 => (if t351 = true then ((nPut.f l0 a3_0 a3_1).bind fun t352 => ((hallmootref13_Put.f k l0 a3_0 a3_1).bind fun t355 => ((hallmootref13_Same.f k t352 t355).bind fun t358 => (if t358 = true then ((nKeep.f l0 0 0 0 ([] : List (S48)) a4).bind fun t359 => ((hallmootref13_Keep.f l0 0 0 0 ([] : List (S48)) a4).bind fun t362 => ((hallmootref13_Same.f k t359 t362).bind fun t365 => (some t365)))) else (none))))) else (none))))) = some r := by rw [if_pos rfl] at H; exact H
 clear H
 have H := H1
 clear H1
 replace H := Option.bind_eq_some_iff.mp H
 obtain ⟨t345, A190, H⟩ := H
 replace H : ((hallmootref13_Read.f k l0 a2_0 a2_1 a2_2).bind fun t348 => ((hallmootref13_Same.f k t345 t348).bind fun t351 => (if t351 = true then ((nPut.f l0 a3_0 a3_1).bind fun t352 => ((hallmootref13_Put.f k l0 a3_0 a3_1).bind fun t355 => ((hallmootref13_Same.f k t352 t355).bind fun t358 => (if t358 = true then ((nKeep.f l0 0 0 0 ([] : List (S48)) a4).bind fun t359 => ((hallmootref13_Keep.f l0 0 0 0 ([] : List (S48)) a4).bind fun t362 => ((hallmootref13_Same.f k t359 t362).bind fun t365 => (some t365)))) else (none))))) else (none)))) = some r := H
 have A19 := aS A190
 clear A190
 replace H := Option.bind_eq_some_iff.mp H
 obtain ⟨t348, A200, H⟩ := H
 replace H : ((hallmootref13_Same.f k t345 t348).bind fun t351 => (if t351 = true then ((nPut.f l0 a3_0 a3_1).bind fun t352 => ((hallmootref13_Put.f k l0 a3_0 a3_1).bind fun t355 => ((hallmootref13_Same.f k t352 t355).bind fun t358 => (if t358 = true then ((nKeep.f l0 0 0 0 ([] : List (S48)) a4).bind fun t359 => ((hallmootref13_Keep.f l0 0 0 0 ([] : List (S48)) a4).bind fun t362 => ((hallmootref13_Same.f k t359 t362).bind fun t365 => (some t365)))) else (none))))) else (none))) = some r := H
 have A20 := aS A200
 clear A200
 replace H := Option.bind_eq_some_iff.mp H
 obtain ⟨t351, A210, H⟩ := H
 replace H : (if t351 = true then ((nPut.f l0 a3_0 a3_1).bind fun t352 => ((hallmootref13_Put.f k l0 a3_0 a3_1).bind fun t355 => ((hallmootref13_Same.f k t352 t355).bind fun t358 => (if t358 = true then ((nKeep.f l0 0 0 0 ([] : List (S48)) a4).bind fun t359 => ((hallmootref13_Keep.f l0 0 0 0 ([] : List (S48)) a4).bind fun t362 => ((hallmootref13_Same.f k t359 t362).bind fun t365 => (some t365)))) else (none))))) else (none)) = some r := H
 have A21 := aS A210
 clear A210
 by_cases c22 : t351 = true
 {
 subst c22
 have H1 : ((nPut.f l0 a3_0 a3_1).bind fun t352 => ((hallmootref13_Put.f k l0 a3_0 a3_1).bind fun t355 => ((hallmootref13_Same.f k t352 t355).bind fun t358 => (if t358 = true then ((nKeep.f l0 0 0 0 ([] : List (S48)) a4).bind fun t359 => ((hallmootref13_Keep.f l0 0 0 0 ([] : List (S48)) a4).bind fun t362 => ((hallmootref13_Same.f k t359 t362).bind fun t365 => (some t365)))) else (none))))) = some r := by rw [if_pos rfl] at H; exact H
 clear H
 have H := H1
 clear H1
 replace H := Option.bind_eq_some_iff.mp H
 obtain ⟨t352, A230, H⟩ := H
 replace H : ((hallmootref13_Put.f k l0 a3_0 a3_1).bind fun t355 => ((hallmootref13_Same.f k t352 t355).bind fun t358 => (if t358 = true then ((nKeep.f l0 0 0 0 ([] : List (S48)) a4).bind fun t359 => ((hallmootref13_Keep.f l0 0 0 0 ([] : List (S48)) a4).bind fun t362 => ((hallmootref13_Same.f k t359 t362).bind fun t365 => (some t365)))) else (none)))) = some r := H
 have A23 := aS A230
 clear A230
 replace H := Option.bind_eq_some_iff.mp H
 obtain ⟨t355, A240, H⟩ := H
 replace H : ((hallmootref13_Same.f k t352 t355).bind fun t358 => (if t358 = true then ((nKeep.f l0 0 0 0 ([] : List (S48)) a4).bind fun t359 => ((hallmootref13_Keep.f l0 0 0 0 ([] : List (S48)) a4).bind fun t362 => ((hallmootref13_Same.f k t359 t362).bind fun t365 => (some t365)))) else (none))) = some r := H
 have A24 := aS A240
 clear A240
 replace H := Option.bind_eq_some_iff.mp H
 obtain ⟨t358, A250, H⟩ := H
 replace H : (if t358 = true then ((nKeep.f l0 0 0 0 ([] : List (S48)) a4).bind fun t359 => ((hallmootref13_Keep.f l0 0 0 0 ([] : List (S48)) a4).bind fun t362 => ((hallmootref13_Same.f k t359 t362).bind fun t365 => (some t365)))) else (none)) = some r := H
 have A25 := aS A250
 clear A250
 by_cases c26 : t358 = true
 {
 subst c26
 have H1 : ((nKeep.f l0 0 0 0 ([] : List (S48)) a4).bind fun t359 => ((hallmootref13_Keep.f l0 0 0 0 ([] : List (S48)) a4).bind fun t362 => ((hallmootref13_Same.f k t359 t362).bind fun t365 => (some t365)))) = some r := by rw [if_pos rfl] at H; exact H
 clear H
 have H := H1
 clear H1
 replace H := Option.bind_eq_some_iff.mp H
 obtain ⟨t359, A270, H⟩ := H
 replace H : ((hallmootref13_Keep.f l0 0 0 0 ([] : List (S48)) a4).bind fun t362 => ((hallmootref13_Same.f k t359 t362).bind fun t365 => (some t365))) = some r := H
 have A27 := aS A270
 clear A270
 replace H := Option.bind_eq_some_iff.mp H
 obtain ⟨t362, A280, H⟩ := H
 replace H : ((hallmootref13_Same.f k t359 t362).bind fun t365 => (some t365)) = some r := H
 have A28 := aS A280
 clear A280
 replace H := Option.bind_eq_some_iff.mp H
 obtain ⟨t365, A290, H⟩ := H
 replace H : (some t365) = some r := H
 have A29 := aS A290
 clear A290
 obtain rfl := Option.some.inj H
 go_enter Try.func5, Try.ntmps5
 try go_wp2_with (first | ((with_reducible refine gate_dst (N := 7) rfl ?_); refine box_event ?hg (N := 7) ?hd (cs := #[.int .i64 a2_0, .int .i64 a2_1, .int .i64 a2_2]) (t := 30) ?hr ?_; (case hd => rfl); (case hg => rfl); (case hr => first | (go_simp; done) | (go_simp; rfl)); intro gb327 hg w30 hbox hb; have n0_ := aS (below_step bb hb); have n1_ := aS (hbox); have n2_ := aS ((by rw [hg]; exact bz : w.heap.size ≤ gb327)); have n3_ := aS ((by rw [hg]; exact bz : w.heap.size ≤ gb327)); clear HB; have HB := n0_; have BK327 := n1_; have GW327 := n2_; have GE327 := n3_; clear n0_ n1_ n2_ n3_; clear hb hbox hg) | ((with_reducible refine gate_dst (N := 8) rfl ?_); refine box_event ?hg (N := 8) ?hd (cs := #[.int .i64 a3_0, .int .i64 a3_1]) (t := 33) ?hr ?_; (case hd => rfl); (case hg => rfl); (case hr => first | (go_simp; done) | (go_simp; rfl)); intro gb328 hg w31 hbox hb; have n0_ := aS (blk_below (g := gb327) (o := .cells #[.int .i64 a2_0, .int .i64 a2_1, .int .i64 a2_2] 30 (0, 0)) (kk BK327.out) hb); have n1_ := aS (below_step bb hb); have n2_ := aS (hbox); have n3_ := aS ((by rw [hg]; exact bz : w.heap.size ≤ gb328)); have n4_ := aS ((by rw [hg]; exact bz : w.heap.size ≤ gb328)); have n5_ := aS ((by rw [hg]; exact Nat.ne_of_lt (blk_lt (g := gb327) (o := .cells #[.int .i64 a2_0, .int .i64 a2_1, .int .i64 a2_2] 30 (0, 0)) (kk BK327.out)) : gb327 ≠ gb328)); have n6_ := aS ((by rw [hg]; exact Nat.ne_of_gt (blk_lt (g := gb327) (o := .cells #[.int .i64 a2_0, .int .i64 a2_1, .int .i64 a2_2] 30 (0, 0)) (kk BK327.out)) : gb328 ≠ gb327)); clear BK327; clear HB; have BK327 := n0_; have HB := n1_; have BK328 := n2_; have GW328 := n3_; have GE328 := n4_; have NB327_328 := n5_; have NB328_327 := n6_; clear n0_ n1_ n2_ n3_ n4_ n5_ n6_; clear hb hbox hg) | ((with_reducible refine gate_callee (f := 10) rfl ?_); refine goesL_ (some 19) rfl rfl Try.func10 (by kernel_rfl) rfl #[] rfl (by (try simp only [List.map_toArray, List.map_cons, List.map_nil]); first | done | rfl | (simp only [List.length_drop, List.length_take]; rfl)) ?_; (with_reducible refine (hallmootlaw13_sanity.calls  true _ A6.out).mono ?_); rintro e w32 ⟨rfl, hb⟩; refine ⟨_, rfl, ?_⟩; have n0_ := aS (blk_below (g := gb327) (o := .cells #[.int .i64 a2_0, .int .i64 a2_1, .int .i64 a2_2] 30 (0, 0)) (kk BK327.out) hb); have n1_ := aS (blk_below (g := gb328) (o := .cells #[.int .i64 a3_0, .int .i64 a3_1] 33 (0, 0)) (kk BK328.out) hb); have n2_ := aS (below_step bb hb); clear BK327; clear BK328; clear HB; have BK327 := n0_; have BK328 := n1_; have HB := n2_; clear n0_ n1_ n2_; (try clear hb); (try clear hb2); (try clear hk); (try clear hi)) | ((with_reducible refine gate_callee (f := 11) rfl ?_); refine goesL_ (some 21) rfl rfl Try.func11 (by kernel_rfl) rfl #[.slice A0 l0.length c0] rfl (by (try simp only [List.map_toArray, List.map_cons, List.map_nil]); first | done | rfl | (simp only [List.length_drop, List.length_take]; rfl)) ?_; (with_reducible refine (hallmootlaw13_few.calls k _ _ l0 true _ ?side1 ?side2 A7.out).mono ?_); (case side1 => repeat (first | exact (Kd.C_below HR0.out HB.out) | (with_reducible refine Kd.C_alloc ?_ _) | (with_reducible refine Kd.C_drewN ?_ _) | (with_reducible refine Kd.C_drew ?_))); (case side2 => exact HC0.out); rintro e w' ⟨rfl, ⟨nd, rfl⟩⟩; refine ⟨_, rfl, ?_⟩; (try (rw [drewN_self w32]; generalize hq_ : World.drewN w32 _ = w32; have n0_ : Aside0 (w32.heap[gb327]? = some (.cells #[.int .i64 a2_0, .int .i64 a2_1, .int .i64 a2_2] 30 (0, 0))) := ⟨by rw [← hq_]; exact (kk BK327.out)⟩; have n1_ : Aside0 (w32.heap[gb328]? = some (.cells #[.int .i64 a3_0, .int .i64 a3_1] 33 (0, 0))) := ⟨by rw [← hq_]; exact (kk BK328.out)⟩; have n2_ : Aside0 (Below w.heap.size w w32) := ⟨by rw [← hq_]; exact bb⟩; clear BK327 BK328 HB hq_; have BK327 := n0_; have BK328 := n1_; have HB := n2_; clear n0_ n1_ n2_))) | ((with_reducible refine gate_callee (f := 17) rfl ?_); refine goesL_ (some 27) rfl rfl Try.func17 (by kernel_rfl) rfl #[.slice A0 l0.length c0, .int .i64 a1] rfl (by (try simp only [List.map_toArray, List.map_cons, List.map_nil]); first | done | rfl | (simp only [List.length_drop, List.length_take]; rfl)) ?_; (with_reducible refine (nFind.calls _ _ l0 a1 t331 t332 t333 _ ?side1 ?side2 A9.out).mono ?_); (case side1 => repeat (first | exact (Kd.C_below HR0.out HB.out) | (with_reducible refine Kd.C_alloc ?_ _) | (with_reducible refine Kd.C_drewN ?_ _) | (with_reducible refine Kd.C_drew ?_))); (case side2 => exact HC0.out); rintro e w33 ⟨rfl, hb⟩; refine ⟨_, rfl, ?_⟩; have n0_ := aS (blk_below (g := gb327) (o := .cells #[.int .i64 a2_0, .int .i64 a2_1, .int .i64 a2_2] 30 (0, 0)) (kk BK327.out) hb); have n1_ := aS (blk_below (g := gb328) (o := .cells #[.int .i64 a3_0, .int .i64 a3_1] 33 (0, 0)) (kk BK328.out) hb); have n2_ := aS (below_step bb hb); clear BK327; clear BK328; clear HB; have BK327 := n0_; have BK328 := n1_; have HB := n2_; clear n0_ n1_ n2_; (try clear hb); (try clear hb2); (try clear hk); (try clear hi)) | ((with_reducible refine gate_callee (f := 18) rfl ?_); refine goesL_ (some 34) rfl rfl Try.func18 (by kernel_rfl) rfl #[.slice A0 l0.length c0, .int .i64 a1] rfl (by (try simp only [List.map_toArray, List.map_cons, List.map_nil]); first | done | rfl | (simp only [List.length_drop, List.length_take]; rfl)) ?_; (with_reducible refine (hallmootref13_Find.calls k _ _ l0 a1 t334 t335 t336 _ ?side1 ?side2 A10.out).mono ?_); (case side1 => repeat (first | exact (Kd.C_below HR0.out HB.out) | (with_reducible refine Kd.C_alloc ?_ _) | (with_reducible refine Kd.C_drewN ?_ _) | (with_reducible refine Kd.C_drew ?_))); (case side2 => exact HC0.out); rintro e w' ⟨rfl, ⟨nd, rfl⟩⟩; refine ⟨_, rfl, ?_⟩; (try (rw [drewN_self w33]; generalize hq_ : World.drewN w33 _ = w33; have n0_ : Aside0 (w33.heap[gb327]? = some (.cells #[.int .i64 a2_0, .int .i64 a2_1, .int .i64 a2_2] 30 (0, 0))) := ⟨by rw [← hq_]; exact (kk BK327.out)⟩; have n1_ : Aside0 (w33.heap[gb328]? = some (.cells #[.int .i64 a3_0, .int .i64 a3_1] 33 (0, 0))) := ⟨by rw [← hq_]; exact (kk BK328.out)⟩; have n2_ : Aside0 (Below w.heap.size w w33) := ⟨by rw [← hq_]; exact bb⟩; clear BK327 BK328 HB hq_; have BK327 := n0_; have BK328 := n1_; have HB := n2_; clear n0_ n1_ n2_))) | ((with_reducible refine gate_dst (N := 18) rfl ?_); refine box_event ?hg (N := 18) ?hd (cs := #[.int .i64 0, .int .i64 0, .int .i64 0, .slice none 0 0, .int .i64 0]) (t := 50) ?hr ?_; (case hd => rfl); (case hg => rfl); (case hr => first | (go_simp; done) | (go_simp; rfl)); intro gb337 hg w34 hbox hb; have n0_ := aS (blk_below (g := gb327) (o := .cells #[.int .i64 a2_0, .int .i64 a2_1, .int .i64 a2_2] 30 (0, 0)) (kk BK327.out) hb); have n1_ := aS (blk_below (g := gb328) (o := .cells #[.int .i64 a3_0, .int .i64 a3_1] 33 (0, 0)) (kk BK328.out) hb); have n2_ := aS (below_step bb hb); have n3_ := aS (hbox); have n4_ := aS ((by rw [hg]; exact bz : w.heap.size ≤ gb337)); have n5_ := aS ((by rw [hg]; exact bz : w.heap.size ≤ gb337)); have n6_ := aS ((by rw [hg]; exact Nat.ne_of_lt (blk_lt (g := gb327) (o := .cells #[.int .i64 a2_0, .int .i64 a2_1, .int .i64 a2_2] 30 (0, 0)) (kk BK327.out)) : gb327 ≠ gb337)); have n7_ := aS ((by rw [hg]; exact Nat.ne_of_gt (blk_lt (g := gb327) (o := .cells #[.int .i64 a2_0, .int .i64 a2_1, .int .i64 a2_2] 30 (0, 0)) (kk BK327.out)) : gb337 ≠ gb327)); have n8_ := aS ((by rw [hg]; exact Nat.ne_of_lt (blk_lt (g := gb328) (o := .cells #[.int .i64 a3_0, .int .i64 a3_1] 33 (0, 0)) (kk BK328.out)) : gb328 ≠ gb337)); have n9_ := aS ((by rw [hg]; exact Nat.ne_of_gt (blk_lt (g := gb328) (o := .cells #[.int .i64 a3_0, .int .i64 a3_1] 33 (0, 0)) (kk BK328.out)) : gb337 ≠ gb328)); clear BK327; clear BK328; clear HB; have BK327 := n0_; have BK328 := n1_; have HB := n2_; have BK337 := n3_; have GW337 := n4_; have GE337 := n5_; have NB327_337 := n6_; have NB337_327 := n7_; have NB328_337 := n8_; have NB337_328 := n9_; clear n0_ n1_ n2_ n3_ n4_ n5_ n6_ n7_ n8_ n9_; clear hb hbox hg; have hnb35 := NB337_327.out; have hnc35 := NB327_337.out; have hnb36 := NB337_328.out; have hnc36 := NB328_337.out; have hcz37_0 : w34.cell? ⟨gb337, 0, none⟩ = some (.int .i64 0) := (blk_cell BK337.out 0).trans rfl; have hcz37_1 : w34.cell? ⟨gb337, 1, none⟩ = some (.int .i64 0) := (blk_cell BK337.out 1).trans rfl; have hcz37_2 : w34.cell? ⟨gb337, 2, none⟩ = some (.int .i64 0) := (blk_cell BK337.out 2).trans rfl; have hcz37_3 : w34.cell? ⟨gb337, 3, none⟩ = some (.slice none 0 0) := (blk_cell BK337.out 3).trans rfl; have hcz37_4 : w34.cell? ⟨gb337, 4, none⟩ = some (.int .i64 0) := (blk_cell BK337.out 4).trans rfl; have hfz37_0 := blk_frozen BK337.out 0; have hfz37_1 := blk_frozen BK337.out 1; have hfz37_2 := blk_frozen BK337.out 2; have hfz37_3 := blk_frozen BK337.out 3; have hfz37_4 := blk_frozen BK337.out 4))
 have n0_ : Aside0 ((((((w34.setCell ⟨gb337, 0, none⟩ (.int .i64 0)).setCell ⟨gb337, 1, none⟩ (.int .i64 0)).setCell ⟨gb337, 2, none⟩ (.int .i64 0)).setCell ⟨gb337, 3, none⟩ (.slice none 0 0)).setCell ⟨gb337, 4, none⟩ (.int .i64 a4)).heap[gb327]? = some (.cells #[.int .i64 a2_0, .int .i64 a2_1, .int .i64 a2_2] 30 (0, 0))) := ⟨by (with_reducible repeat (first | refine blk_drewN ?_ _ | refine blk_drew ?_ | refine blk_alloc ?_ _)); refine blk_far ?_ NB327_337.out _; (with_reducible repeat (first | refine blk_drewN ?_ _ | refine blk_drew ?_ | refine blk_alloc ?_ _)); refine blk_far ?_ NB327_337.out _; (with_reducible repeat (first | refine blk_drewN ?_ _ | refine blk_drew ?_ | refine blk_alloc ?_ _)); refine blk_far ?_ NB327_337.out _; (with_reducible repeat (first | refine blk_drewN ?_ _ | refine blk_drew ?_ | refine blk_alloc ?_ _)); refine blk_far ?_ NB327_337.out _; (with_reducible repeat (first | refine blk_drewN ?_ _ | refine blk_drew ?_ | refine blk_alloc ?_ _)); refine blk_far ?_ NB327_337.out _; (with_reducible repeat (first | refine blk_drewN ?_ _ | refine blk_drew ?_ | refine blk_alloc ?_ _)); exact BK327.out⟩
 have n1_ : Aside0 ((((((w34.setCell ⟨gb337, 0, none⟩ (.int .i64 0)).setCell ⟨gb337, 1, none⟩ (.int .i64 0)).setCell ⟨gb337, 2, none⟩ (.int .i64 0)).setCell ⟨gb337, 3, none⟩ (.slice none 0 0)).setCell ⟨gb337, 4, none⟩ (.int .i64 a4)).heap[gb328]? = some (.cells #[.int .i64 a3_0, .int .i64 a3_1] 33 (0, 0))) := ⟨by (with_reducible repeat (first | refine blk_drewN ?_ _ | refine blk_drew ?_ | refine blk_alloc ?_ _)); refine blk_far ?_ NB328_337.out _; (with_reducible repeat (first | refine blk_drewN ?_ _ | refine blk_drew ?_ | refine blk_alloc ?_ _)); refine blk_far ?_ NB328_337.out _; (with_reducible repeat (first | refine blk_drewN ?_ _ | refine blk_drew ?_ | refine blk_alloc ?_ _)); refine blk_far ?_ NB328_337.out _; (with_reducible repeat (first | refine blk_drewN ?_ _ | refine blk_drew ?_ | refine blk_alloc ?_ _)); refine blk_far ?_ NB328_337.out _; (with_reducible repeat (first | refine blk_drewN ?_ _ | refine blk_drew ?_ | refine blk_alloc ?_ _)); refine blk_far ?_ NB328_337.out _; (with_reducible repeat (first | refine blk_drewN ?_ _ | refine blk_drew ?_ | refine blk_alloc ?_ _)); exact BK328.out⟩
 have n2_ : Aside0 ((((((w34.setCell ⟨gb337, 0, none⟩ (.int .i64 0)).setCell ⟨gb337, 1, none⟩ (.int .i64 0)).setCell ⟨gb337, 2, none⟩ (.int .i64 0)).setCell ⟨gb337, 3, none⟩ (.slice none 0 0)).setCell ⟨gb337, 4, none⟩ (.int .i64 a4)).heap[gb337]? = some (.cells #[.int .i64 0, .int .i64 0, .int .i64 0, .slice none 0 0, .int .i64 a4] 50 (0, 0))) := ⟨by (with_reducible repeat (first | refine blk_drewN ?_ _ | refine blk_drew ?_ | refine blk_alloc ?_ _)); refine blk_put (cs := #[.int .i64 0, .int .i64 0, .int .i64 0, .slice none 0 0, .int .i64 0]) ?_ 4 _ rfl; (with_reducible repeat (first | refine blk_drewN ?_ _ | refine blk_drew ?_ | refine blk_alloc ?_ _)); refine blk_put (cs := #[.int .i64 0, .int .i64 0, .int .i64 0, .slice none 0 0, .int .i64 0]) ?_ 3 _ rfl; (with_reducible repeat (first | refine blk_drewN ?_ _ | refine blk_drew ?_ | refine blk_alloc ?_ _)); refine blk_put (cs := #[.int .i64 0, .int .i64 0, .int .i64 0, .slice none 0 0, .int .i64 0]) ?_ 2 _ rfl; (with_reducible repeat (first | refine blk_drewN ?_ _ | refine blk_drew ?_ | refine blk_alloc ?_ _)); refine blk_put (cs := #[.int .i64 0, .int .i64 0, .int .i64 0, .slice none 0 0, .int .i64 0]) ?_ 1 _ rfl; (with_reducible repeat (first | refine blk_drewN ?_ _ | refine blk_drew ?_ | refine blk_alloc ?_ _)); refine blk_put (cs := #[.int .i64 0, .int .i64 0, .int .i64 0, .slice none 0 0, .int .i64 0]) ?_ 0 _ rfl; (with_reducible repeat (first | refine blk_drewN ?_ _ | refine blk_drew ?_ | refine blk_alloc ?_ _)); exact BK337.out⟩
 have n3_ : Aside0 (Below w.heap.size w (((((w34.setCell ⟨gb337, 0, none⟩ (.int .i64 0)).setCell ⟨gb337, 1, none⟩ (.int .i64 0)).setCell ⟨gb337, 2, none⟩ (.int .i64 0)).setCell ⟨gb337, 3, none⟩ (.slice none 0 0)).setCell ⟨gb337, 4, none⟩ (.int .i64 a4))) := ⟨by repeat (first | (with_reducible first | exact HB.out | apply below_alloc | apply pw_below_drewN | apply below_drew1 | refine below_set ?_ GE327.out | refine below_set ?_ GE328.out | refine below_set ?_ GE337.out) | exact HB.out)⟩
 (try clear BK327)
 (try clear BK328)
 (try clear BK337)
 (try clear HB)
 generalize (((((w34.setCell ⟨gb337, 0, none⟩ (.int .i64 0)).setCell ⟨gb337, 1, none⟩ (.int .i64 0)).setCell ⟨gb337, 2, none⟩ (.int .i64 0)).setCell ⟨gb337, 3, none⟩ (.slice none 0 0)).setCell ⟨gb337, 4, none⟩ (.int .i64 a4)) = w38 at n0_ n1_ n2_ n3_ ⊢
 have BK327 := n0_
 have BK328 := n1_
 have BK337 := n2_
 have HB := n3_
 clear n0_ n1_ n2_ n3_
 have n0_ := aS (blk_drew BK327.out)
 have n1_ := aS (blk_drew BK328.out)
 have n2_ := aS (blk_drew BK337.out)
 have n3_ := aS (below_drew1 HB.out)
 clear BK327
 clear BK328
 clear BK337
 clear HB
 have BK327 := n0_
 have BK328 := n1_
 have BK337 := n2_
 have HB := n3_
 clear n0_ n1_ n2_ n3_
 refine start_ (n := 51) (S := fun w' => w'.cell? ⟨gb327, 0, none⟩ = some (.int .i64 a2_0) ∧ w'.cell? ⟨gb327, 1, none⟩ = some (.int .i64 a2_1) ∧ w'.cell? ⟨gb327, 2, none⟩ = some (.int .i64 a2_2) ∧ w'.cell? ⟨gb328, 0, none⟩ = some (.int .i64 a3_0) ∧ w'.cell? ⟨gb328, 1, none⟩ = some (.int .i64 a3_1) ∧ w'.cell? ⟨gb337, 0, none⟩ = some (.int .i64 0) ∧ w'.cell? ⟨gb337, 1, none⟩ = some (.int .i64 0) ∧ w'.cell? ⟨gb337, 2, none⟩ = some (.int .i64 0) ∧ w'.cell? ⟨gb337, 3, none⟩ = some (.slice none 0 0) ∧ w'.cell? ⟨gb337, 4, none⟩ = some (.int .i64 a4)) (ds := []) #[false, false, false, false, false, false, false, false, false, false, false, false, false, false, false, false, false, false, false, false, false, false, false, false, false, false, false, false, false, false, false, false, false, false, false, false, false, false, false, false, false, false, false, false, false, false, false, false, false, false, false] (by kernel_rfl) rfl rfl ⟨(blk_cell BK327.out 0).trans rfl, (blk_cell BK327.out 1).trans rfl, (blk_cell BK327.out 2).trans rfl, (blk_cell BK328.out 0).trans rfl, (blk_cell BK328.out 1).trans rfl, (blk_cell BK337.out 0).trans rfl, (blk_cell BK337.out 1).trans rfl, (blk_cell BK337.out 2).trans rfl, (blk_cell BK337.out 3).trans rfl, (blk_cell BK337.out 4).trans rfl⟩ (fun hHeld => ?_); refine with_tabW hallmootlaw13_NestMatches.tab7 hallmootlaw13_NestMatches.bits7 (fun HT_ HW_ => ?_)
 generalize w38.drew = w39 at BK327 BK328 BK337 HB hHeld ⊢
 refine pure_ (i := 0) (N := some 40) (v := ?_) (a' := ?_) #[true, false, false, false, false, false, false, false, false, false, false, false, false, false, false, false, false, false, false, false, false, false, false, false, false, false, false, false, false, false, false, false, false, false, false, false, false, false, false, false, false, false, false, false, false, false, false, false, false, false, false] rfl rfl (any_of HT_.out (by kernel_rfl)) (fun _ _ _ h => h) (Or.inl ⟨by rfl, ?_⟩) ?_ ?_
 rotate_left
 {
 intro w'
 go_simp
 with_reducible rfl }
 rotate_left
 {
 simp only [Act.put, sT, s0, s1, i64_w, i32_w]
 rfl }
 refine pure_ (i := 1) (N := some 41) (v := ?_) (a' := ?_) #[true, true, false, false, false, false, false, false, false, false, false, false, false, false, false, false, false, false, false, false, false, false, false, false, false, false, false, false, false, false, false, false, false, false, false, false, false, false, false, false, false, false, false, false, false, false, false, false, false, false, false] rfl rfl (any_of HT_.out (by kernel_rfl)) (fun _ _ _ h => h) (Or.inl ⟨by rfl, ?_⟩) ?_ ?_
 rotate_left
 {
 intro w'
 go_simp
 with_reducible rfl }
 rotate_left
 {
 simp only [Act.put, sT, s0, s1, i64_w, i32_w]
 rfl }
 refine pure_ (i := 2) (N := some 42) (v := ?_) (a' := ?_) #[true, true, true, false, false, false, false, false, false, false, false, false, false, false, false, false, false, false, false, false, false, false, false, false, false, false, false, false, false, false, false, false, false, false, false, false, false, false, false, false, false, false, false, false, false, false, false, false, false, false, false] rfl rfl (any_of HT_.out (by kernel_rfl)) (fun _ _ _ h => h) (Or.inl ⟨by rfl, ?_⟩) ?_ ?_
 rotate_left
 {
 intro w'
 go_simp
 with_reducible rfl }
 rotate_left
 {
 simp only [Act.put, sT, s0, s1, i64_w, i32_w]
 rfl }
 refine pure_ (i := 3) (N := some 43) (v := ?_) (a' := ?_) #[true, true, true, true, false, false, false, false, false, false, false, false, false, false, false, false, false, false, false, false, false, false, false, false, false, false, false, false, false, false, false, false, false, false, false, false, false, false, false, false, false, false, false, false, false, false, false, false, false, false, false] rfl rfl (any_of HT_.out (by kernel_rfl)) (fun _ _ _ h => h) (Or.inl ⟨by rfl, ?_⟩) ?_ ?_
 rotate_left
 {
 intro w'
 go_simp
 with_reducible rfl }
 rotate_left
 {
 simp only [Act.put, sT, s0, s1, i64_w, i32_w]
 rfl }
 refine pure_ (i := 4) (N := some 44) (v := ?_) (a' := ?_) #[true, true, true, true, true, false, false, false, false, false, false, false, false, false, false, false, false, false, false, false, false, false, false, false, false, false, false, false, false, false, false, false, false, false, false, false, false, false, false, false, false, false, false, false, false, false, false, false, false, false, false] rfl rfl (any_of HT_.out (by kernel_rfl)) (fun _ _ _ h => h) (Or.inl ⟨by rfl, ?_⟩) ?_ ?_
 rotate_left
 {
 intro w'
 go_simp
 with_reducible rfl }
 rotate_left
 {
 simp only [Act.put, sT, s0, s1, i64_w, i32_w]
 rfl }
 refine pure_ (i := 5) (N := some 45) (v := ?_) (a' := ?_) #[true, true, true, true, true, true, false, false, false, false, false, false, false, false, false, false, false, false, false, false, false, false, false, false, false, false, false, false, false, false, false, false, false, false, false, false, false, false, false, false, false, false, false, false, false, false, false, false, false, false, false] rfl rfl (any_of HT_.out (by kernel_rfl)) (fun _ _ _ h => h) (Or.inl ⟨by rfl, ?_⟩) ?_ ?_
 rotate_left
 {
 intro w'
 go_simp
 with_reducible rfl }
 rotate_left
 {
 simp only [Act.put, sT, s0, s1, i64_w, i32_w]
 rfl }
 refine pure_ (i := 6) (N := some 46) (v := ?_) (a' := ?_) #[true, true, true, true, true, true, true, false, false, false, false, false, false, false, false, false, false, false, false, false, false, false, false, false, false, false, false, false, false, false, false, false, false, false, false, false, false, false, false, false, false, false, false, false, false, false, false, false, false, false, false] rfl rfl (any_of HT_.out (by kernel_rfl)) (fun _ _ _ h => h) (Or.inl ⟨by rfl, ?_⟩) ?_ ?_
 rotate_left
 {
 intro w'
 go_simp
 with_reducible rfl }
 rotate_left
 {
 simp only [Act.put, sT, s0, s1, i64_w, i32_w]
 rfl }
 refine pure_ (i := 7) (N := some 47) (v := ?_) (a' := ?_) #[true, true, true, true, true, true, true, true, false, false, false, false, false, false, false, false, false, false, false, false, false, false, false, false, false, false, false, false, false, false, false, false, false, false, false, false, false, false, false, false, false, false, false, false, false, false, false, false, false, false, false] rfl rfl (any_of HT_.out (by kernel_rfl)) (fun _ _ _ h => h) (Or.inl ⟨by rfl, ?_⟩) ?_ ?_
 rotate_left
 {
 intro w'
 go_simp
 with_reducible rfl }
 rotate_left
 {
 simp only [Act.put, sT, s0, s1, i64_w, i32_w]
 rfl }
 refine pure_ (i := 8) (N := some 48) (v := ?_) (a' := ?_) #[true, true, true, true, true, true, true, true, true, false, false, false, false, false, false, false, false, false, false, false, false, false, false, false, false, false, false, false, false, false, false, false, false, false, false, false, false, false, false, false, false, false, false, false, false, false, false, false, false, false, false] rfl rfl (any_of HT_.out (by kernel_rfl)) (fun _ _ _ h => h) (Or.inl ⟨by rfl, ?_⟩) ?_ ?_
 rotate_left
 {
 intro w'
 go_simp
 with_reducible rfl }
 rotate_left
 {
 simp only [Act.put, sT, s0, s1, i64_w, i32_w]
 rfl }
 refine pure_ (i := 9) (N := some 49) (v := ?_) (a' := ?_) #[true, true, true, true, true, true, true, true, true, true, false, false, false, false, false, false, false, false, false, false, false, false, false, false, false, false, false, false, false, false, false, false, false, false, false, false, false, false, false, false, false, false, false, false, false, false, false, false, false, false, false] rfl rfl (any_of HT_.out (by kernel_rfl)) (fun _ _ _ h => h) (Or.inl ⟨by rfl, ?_⟩) ?_ ?_
 rotate_left
 {
 intro w'
 go_simp
 with_reducible rfl }
 rotate_left
 {
 simp only [Act.put, sT, s0, s1, i64_w, i32_w]
 rfl }
 refine pure_ (i := 10) (N := some 50) (v := ?_) (a' := ?_) #[true, true, true, true, true, true, true, true, true, true, true, false, false, false, false, false, false, false, false, false, false, false, false, false, false, false, false, false, false, false, false, false, false, false, false, false, false, false, false, false, false, false, false, false, false, false, false, false, false, false, false] rfl rfl (any_of HT_.out (by kernel_rfl)) (fun _ _ _ h => h) (Or.inl ⟨by rfl, ?_⟩) ?_ ?_
 rotate_left
 {
 intro w'
 go_simp
 with_reducible rfl }
 rotate_left
 {
 simp only [Act.put, sT, s0, s1, i64_w, i32_w]
 rfl }
 refine pure_ (i := 11) (N := some 51) (v := ?_) (a' := ?_) #[true, true, true, true, true, true, true, true, true, true, true, true, false, false, false, false, false, false, false, false, false, false, false, false, false, false, false, false, false, false, false, false, false, false, false, false, false, false, false, false, false, false, false, false, false, false, false, false, false, false, false] rfl rfl (any_of HT_.out (by kernel_rfl)) (fun _ _ _ h => h) (Or.inl ⟨by rfl, ?_⟩) ?_ ?_
 rotate_left
 {
 intro w'
 go_simp
 with_reducible rfl }
 rotate_left
 {
 simp only [Act.put, sT, s0, s1, i64_w, i32_w]
 rfl }
 refine pure_ (i := 12) (N := some 52) (v := ?_) (a' := ?_) #[true, true, true, true, true, true, true, true, true, true, true, true, true, false, false, false, false, false, false, false, false, false, false, false, false, false, false, false, false, false, false, false, false, false, false, false, false, false, false, false, false, false, false, false, false, false, false, false, false, false, false] rfl rfl (any_of HT_.out (by kernel_rfl)) (fun _ _ _ h => h) (Or.inl ⟨by rfl, ?_⟩) ?_ ?_
 rotate_left
 {
 intro w'
 go_simp
 with_reducible rfl }
 rotate_left
 {
 simp only [Act.put, sT, s0, s1, i64_w, i32_w]
 rfl }
 refine pure_ (i := 13) (N := some 53) (v := ?_) (a' := ?_) #[true, true, true, true, true, true, true, true, true, true, true, true, true, true, false, false, false, false, false, false, false, false, false, false, false, false, false, false, false, false, false, false, false, false, false, false, false, false, false, false, false, false, false, false, false, false, false, false, false, false, false] rfl rfl (any_of HT_.out (by kernel_rfl)) (fun _ _ _ h => h) (Or.inl ⟨by rfl, ?_⟩) ?_ ?_
 rotate_left
 {
 intro w'
 go_simp
 with_reducible rfl }
 rotate_left
 {
 simp only [Act.put, sT, s0, s1, i64_w, i32_w]
 rfl }
 refine pure_ (i := 14) (N := some 54) (v := ?_) (a' := ?_) #[true, true, true, true, true, true, true, true, true, true, true, true, true, true, true, false, false, false, false, false, false, false, false, false, false, false, false, false, false, false, false, false, false, false, false, false, false, false, false, false, false, false, false, false, false, false, false, false, false, false, false] rfl rfl (any_of HT_.out (by kernel_rfl)) (fun _ _ _ h => h) (Or.inl ⟨by rfl, ?_⟩) ?_ ?_
 rotate_left
 {
 intro w'
 go_simp
 with_reducible rfl }
 rotate_left
 {
 simp only [Act.put, sT, s0, s1, i64_w, i32_w]
 rfl }
 refine pure_ (i := 15) (N := some 55) (v := ?_) (a' := ?_) #[true, true, true, true, true, true, true, true, true, true, true, true, true, true, true, true, false, false, false, false, false, false, false, false, false, false, false, false, false, false, false, false, false, false, false, false, false, false, false, false, false, false, false, false, false, false, false, false, false, false, false] rfl rfl (any_of HT_.out (by kernel_rfl)) (fun _ _ _ h => h) (Or.inl ⟨by rfl, ?_⟩) ?_ ?_
 rotate_left
 {
 intro w'
 go_simp
 with_reducible rfl }
 rotate_left
 {
 simp only [Act.put, sT, s0, s1, i64_w, i32_w]
 rfl }
 refine pure_ (i := 16) (N := some 56) (v := ?_) (a' := ?_) #[true, true, true, true, true, true, true, true, true, true, true, true, true, true, true, true, true, false, false, false, false, false, false, false, false, false, false, false, false, false, false, false, false, false, false, false, false, false, false, false, false, false, false, false, false, false, false, false, false, false, false] rfl rfl (any_of HT_.out (by kernel_rfl)) (fun _ _ _ h => h) (Or.inl ⟨by rfl, ?_⟩) ?_ ?_
 rotate_left
 {
 intro w'
 go_simp
 with_reducible rfl }
 rotate_left
 {
 simp only [Act.put, sT, s0, s1, i64_w, i32_w]
 rfl }
 refine pure_ (i := 17) (N := some 57) (v := ?_) (a' := ?_) #[true, true, true, true, true, true, true, true, true, true, true, true, true, true, true, true, true, true, false, false, false, false, false, false, false, false, false, false, false, false, false, false, false, false, false, false, false, false, false, false, false, false, false, false, false, false, false, false, false, false, false] rfl rfl (any_of HT_.out (by kernel_rfl)) (fun _ _ _ h => h) (Or.inl ⟨by rfl, ?_⟩) ?_ ?_
 rotate_left
 {
 intro w'
 go_simp
 with_reducible rfl }
 rotate_left
 {
 simp only [Act.put, sT, s0, s1, i64_w, i32_w]
 rfl }
 refine pure_ (i := 19) (N := some 59) (v := ?_) (a' := ?_) #[true, true, true, true, true, true, true, true, true, true, true, true, true, true, true, true, true, true, false, true, false, false, false, false, false, false, false, false, false, false, false, false, false, false, false, false, false, false, false, false, false, false, false, false, false, false, false, false, false, false, false] rfl rfl (any_of HT_.out (by kernel_rfl)) (fun _ _ _ h => h) (Or.inl ⟨by rfl, ?_⟩) ?_ ?_
 rotate_left
 {
 intro w'
 go_simp
 with_reducible rfl }
 rotate_left
 {
 simp only [Act.put, sT, s0, s1, i64_w, i32_w]
 rfl }
 refine one_ (i := 18) (N := some 58) #[true, true, true, true, true, true, true, true, true, true, true, true, true, true, true, true, true, true, true, true, false, false, false, false, false, false, false, false, false, false, false, false, false, false, false, false, false, false, false, false, false, false, false, false, false, false, false, false, false, false, false] rfl rfl (one_of HT_.out (by kernel_rfl)) (by decide) (fun K hK => ?_)
 refine goes_ Try.func12 (by kernel_rfl) rfl #[.slice A0 l0.length c0] (by rfl) rfl rfl (by (try simp only [List.map_toArray, List.map_cons, List.map_nil]); first | done | rfl | (simp only [List.length_drop, List.length_take]; rfl)) ?_
 with_reducible refine (nBegin.calls (fun k_ => k_ < w.heap.size) _ _ l0 t338 _ ?side1 A15.out).mono ?_
 (case side1 => exact Kd.V_mk HC0.out (Kd.F_below (Kd.C_F k62_heap HR0.out) bb))
 rintro e w40 ⟨v339, rfl, ho0, hb⟩
 refine ⟨_, rfl, ?_⟩
 have n0_ := aS (Kd.V_lower (Kd.V_mono (ok' := fun k_ => k_ ≠ gb327 ∧ k_ ≠ gb328 ∧ k_ ≠ gb337) ho0 (fun k_ hk_ => ⟨Or.elim hk_ (fun hs_ => fun e_ => Nat.not_le.2 hs_ (by rw [e_]; exact GW327.out)) (fun hn_ => (Kd.freshB (g := gb327) (o := .cells #[.int .i64 a2_0, .int .i64 a2_1, .int .i64 a2_2] 30 (0, 0)) (kk BK327.out) k_ hn_)), Or.elim hk_ (fun hs_ => fun e_ => Nat.not_le.2 hs_ (by rw [e_]; exact GW328.out)) (fun hn_ => (Kd.freshB (g := gb328) (o := .cells #[.int .i64 a3_0, .int .i64 a3_1] 33 (0, 0)) (kk BK328.out) k_ hn_)), Or.elim hk_ (fun hs_ => fun e_ => Nat.not_le.2 hs_ (by rw [e_]; exact GW337.out)) (fun hn_ => (Kd.freshB (g := gb337) (o := .cells #[.int .i64 0, .int .i64 0, .int .i64 0, .slice none 0 0, .int .i64 a4] 50 (0, 0)) (kk BK337.out) k_ hn_))⟩)) bz)
 have n1_ := aS (blk_below (g := gb327) (o := .cells #[.int .i64 a2_0, .int .i64 a2_1, .int .i64 a2_2] 30 (0, 0)) (kk BK327.out) hb)
 have n2_ := aS (blk_below (g := gb328) (o := .cells #[.int .i64 a3_0, .int .i64 a3_1] 33 (0, 0)) (kk BK328.out) hb)
 have n3_ := aS (blk_below (g := gb337) (o := .cells #[.int .i64 0, .int .i64 0, .int .i64 0, .slice none 0 0, .int .i64 a4] 50 (0, 0)) (kk BK337.out) hb)
 have n4_ := aS (below_step bb hb)
 clear BK327
 clear BK328
 clear BK337
 clear HB
 have HO340 := n0_
 have BK327 := n1_
 have BK328 := n2_
 have BK337 := n3_
 have HB := n4_
 clear n0_ n1_ n2_ n3_ n4_
 (try clear hb)
 (try clear hb2)
 (try clear hk)
 (try clear hi)
 (try clear ho0)
 refine hK.out _ _ ⟨(blk_cell BK327.out 0).trans rfl, (blk_cell BK327.out 1).trans rfl, (blk_cell BK327.out 2).trans rfl, (blk_cell BK328.out 0).trans rfl, (blk_cell BK328.out 1).trans rfl, (blk_cell BK337.out 0).trans rfl, (blk_cell BK337.out 1).trans rfl, (blk_cell BK337.out 2).trans rfl, (blk_cell BK337.out 3).trans rfl, (blk_cell BK337.out 4).trans rfl⟩ (fun hHeld => ?_)
 clear hK K
 refine norm_ (a' := ?_) ?_ ?_
 rotate_left
 {
 show Act.put _ (some 58) _ = _
 simp only [Act.put, sT, s0, s1, i64_w, i32_w]
 rfl }
 refine one_ (i := 20) (N := some 60) #[true, true, true, true, true, true, true, true, true, true, true, true, true, true, true, true, true, true, true, true, true, false, false, false, false, false, false, false, false, false, false, false, false, false, false, false, false, false, false, false, false, false, false, false, false, false, false, false, false, false, false] rfl rfl (one_of HT_.out (by kernel_rfl)) (by decide) (fun K hK => ?_)
 refine goes_ Try.func20 (by kernel_rfl) rfl #[.slice A0 l0.length c0] (by rfl) rfl rfl (by (try simp only [List.map_toArray, List.map_cons, List.map_nil]); first | done | rfl | (simp only [List.length_drop, List.length_take]; rfl)) ?_
 with_reducible refine (hallmootref13_Begin.calls (fun k_ => k_ < w.heap.size) _ _ l0 t341 _ ?side1 A16.out).mono ?_
 (case side1 => exact Kd.V_mk HC0.out (Kd.F_below (Kd.C_F k62_heap HR0.out) bb))
 rintro e w41 ⟨v342, rfl, ho0, hb⟩
 refine ⟨_, rfl, ?_⟩
 have n0_ := aS (Kd.V_elder' (vv HO340.out) (Kd.N_base ho0) hb)
 have n1_ := aS (Kd.N_lower (Kd.N_mono (ok' := fun k_ => k_ ≠ gb327 ∧ k_ ≠ gb328 ∧ k_ ≠ gb337) ho0 (fun k_ hk_ => ⟨Or.elim hk_ (fun hs_ => fun e_ => Nat.not_le.2 hs_ (by rw [e_]; exact GW327.out)) (fun hn_ => (Kd.freshB (g := gb327) (o := .cells #[.int .i64 a2_0, .int .i64 a2_1, .int .i64 a2_2] 30 (0, 0)) (kk BK327.out) k_ hn_)), Or.elim hk_ (fun hs_ => fun e_ => Nat.not_le.2 hs_ (by rw [e_]; exact GW328.out)) (fun hn_ => (Kd.freshB (g := gb328) (o := .cells #[.int .i64 a3_0, .int .i64 a3_1] 33 (0, 0)) (kk BK328.out) k_ hn_)), Or.elim hk_ (fun hs_ => fun e_ => Nat.not_le.2 hs_ (by rw [e_]; exact GW337.out)) (fun hn_ => (Kd.freshB (g := gb337) (o := .cells #[.int .i64 0, .int .i64 0, .int .i64 0, .slice none 0 0, .int .i64 a4] 50 (0, 0)) (kk BK337.out) k_ hn_))⟩)) bz)
 have n2_ := aS (blk_below (g := gb327) (o := .cells #[.int .i64 a2_0, .int .i64 a2_1, .int .i64 a2_2] 30 (0, 0)) (kk BK327.out) hb)
 have n3_ := aS (blk_below (g := gb328) (o := .cells #[.int .i64 a3_0, .int .i64 a3_1] 33 (0, 0)) (kk BK328.out) hb)
 have n4_ := aS (blk_below (g := gb337) (o := .cells #[.int .i64 0, .int .i64 0, .int .i64 0, .slice none 0 0, .int .i64 a4] 50 (0, 0)) (kk BK337.out) hb)
 have n5_ := aS (below_step bb hb)
 clear HO340
 clear BK327
 clear BK328
 clear BK337
 clear HB
 have HO340 := n0_
 have HO343 := n1_
 have BK327 := n2_
 have BK328 := n3_
 have BK337 := n4_
 have HB := n5_
 clear n0_ n1_ n2_ n3_ n4_ n5_
 (try clear hb)
 (try clear hb2)
 (try clear hk)
 (try clear hi)
 (try clear ho0)
 obtain ⟨Ao42, co42, eo42⟩ := Kd.V_slice HO340.out
 (first | subst eo42 | (injection eo42 with f1_ f2_ f3_; have f4_ := f1_.symm; have f5_ := f3_.symm; clear f1_ f2_ f3_; subst f4_; subst f5_))
 obtain ⟨Ao43, co43, eo43⟩ := Kd.N_slice HO343.out
 (first | subst eo43 | (injection eo43 with f1_ f2_ f3_; have f4_ := f1_.symm; have f5_ := f3_.symm; clear f1_ f2_ f3_; subst f4_; subst f5_))
 refine hK.out _ _ ⟨(blk_cell BK327.out 0).trans rfl, (blk_cell BK327.out 1).trans rfl, (blk_cell BK327.out 2).trans rfl, (blk_cell BK328.out 0).trans rfl, (blk_cell BK328.out 1).trans rfl, (blk_cell BK337.out 0).trans rfl, (blk_cell BK337.out 1).trans rfl, (blk_cell BK337.out 2).trans rfl, (blk_cell BK337.out 3).trans rfl, (blk_cell BK337.out 4).trans rfl⟩ (fun hHeld => ?_)
 clear hK K
 refine norm_ (a' := ?_) ?_ ?_
 rotate_left
 {
 show Act.put _ (some 60) _ = _
 simp only [Act.put, sT, s0, s1, i64_w, i32_w]
 rfl }
 refine one_ (i := 21) (N := some 61) #[true, true, true, true, true, true, true, true, true, true, true, true, true, true, true, true, true, true, true, true, true, true, false, false, false, false, false, false, false, false, false, false, false, false, false, false, false, false, false, false, false, false, false, false, false, false, false, false, false, false, false] rfl rfl (one_of HT_.out (by kernel_rfl)) (by decide) (fun K hK => ?_)
 refine goes_ Try.func19 (by kernel_rfl) rfl #[.slice Ao42 t338.length co42, .slice Ao43 t341.length co43] (by rfl) rfl rfl (by (try simp only [List.map_toArray, List.map_cons, List.map_nil]); first | done | rfl | (simp only [List.length_drop, List.length_take]; rfl)) ?_
 with_reducible refine (hallmootref13_Same.calls k _ _ t338 _ _ t341 true _ ?side1 ?side2 ?side3 ?side4 A17.out).mono ?_
 (case side1 => repeat (first | exact (Kd.V_reads' HO340.out).2.2 | (with_reducible refine Kd.C_alloc ?_ _) | (with_reducible refine Kd.C_drewN ?_ _) | (with_reducible refine Kd.C_drew ?_)))
 (case side2 => exact (Kd.V_reads' HO340.out).2.1)
 (case side3 => repeat (first | exact (Kd.N_reads' HO343.out).2.2 | (with_reducible refine Kd.C_alloc ?_ _) | (with_reducible refine Kd.C_drewN ?_ _) | (with_reducible refine Kd.C_drew ?_)))
 (case side4 => exact (Kd.N_reads' HO343.out).2.1)
 rintro e w44 ⟨rfl, hb⟩
 refine ⟨_, rfl, ?_⟩
 have n0_ := aS (Kd.V_below (vv HO340.out) hb)
 have n1_ := aS (Kd.N_below (by (with_reducible repeat (first | apply Kd.N_alloc | apply Kd.N_drewN | apply Kd.N_drew)); exact HO343.out) hb)
 have n2_ := aS (blk_below (g := gb327) (o := .cells #[.int .i64 a2_0, .int .i64 a2_1, .int .i64 a2_2] 30 (0, 0)) (kk BK327.out) hb)
 have n3_ := aS (blk_below (g := gb328) (o := .cells #[.int .i64 a3_0, .int .i64 a3_1] 33 (0, 0)) (kk BK328.out) hb)
 have n4_ := aS (blk_below (g := gb337) (o := .cells #[.int .i64 0, .int .i64 0, .int .i64 0, .slice none 0 0, .int .i64 a4] 50 (0, 0)) (kk BK337.out) hb)
 have n5_ := aS (below_step bb hb)
 clear HO340
 clear HO343
 clear BK327
 clear BK328
 clear BK337
 clear HB
 have HO340 := n0_
 have HO343 := n1_
 have BK327 := n2_
 have BK328 := n3_
 have BK337 := n4_
 have HB := n5_
 clear n0_ n1_ n2_ n3_ n4_ n5_
 (try clear hb)
 (try clear hb2)
 (try clear hk)
 (try clear hi)
 refine hK.out _ _ ⟨(blk_cell BK327.out 0).trans rfl, (blk_cell BK327.out 1).trans rfl, (blk_cell BK327.out 2).trans rfl, (blk_cell BK328.out 0).trans rfl, (blk_cell BK328.out 1).trans rfl, (blk_cell BK337.out 0).trans rfl, (blk_cell BK337.out 1).trans rfl, (blk_cell BK337.out 2).trans rfl, (blk_cell BK337.out 3).trans rfl, (blk_cell BK337.out 4).trans rfl⟩ (fun hHeld => ?_)
 clear hK K
 refine norm_ (a' := ?_) ?_ ?_
 rotate_left
 {
 show Act.put _ (some 61) _ = _
 simp only [Act.put, sT, s0, s1, i64_w, i32_w]
 rfl }
 refine pure_ (i := 22) (N := some 62) (v := ?_) (a' := ?_) #[true, true, true, true, true, true, true, true, true, true, true, true, true, true, true, true, true, true, true, true, true, true, true, false, false, false, false, false, false, false, false, false, false, false, false, false, false, false, false, false, false, false, false, false, false, false, false, false, false, false, false] rfl rfl (any_of HT_.out (by kernel_rfl)) (fun _ _ _ h => h) (Or.inl ⟨by rfl, ?_⟩) ?_ ?_
 rotate_left
 {
 intro w'
 go_simp
 with_reducible rfl }
 rotate_left
 {
 simp only [Act.put, sT, s0, s1, i64_w, i32_w]
 rfl }
 refine pure_ (i := 23) (N := some 63) (v := ?_) (a' := ?_) #[true, true, true, true, true, true, true, true, true, true, true, true, true, true, true, true, true, true, true, true, true, true, true, true, false, false, false, false, false, false, false, false, false, false, false, false, false, false, false, false, false, false, false, false, false, false, false, false, false, false, false] rfl rfl (any_of HT_.out (by kernel_rfl)) (fun _ _ _ h => h) (Or.inl ⟨by rfl, ?_⟩) ?_ ?_
 rotate_left
 {
 intro w'
 go_simp
 with_reducible rfl }
 rotate_left
 {
 simp only [Act.put, sT, s0, s1, i64_w, i32_w]
 rfl }
 refine pure_ (i := 24) (N := some 64) (v := ?_) (a' := ?_) #[true, true, true, true, true, true, true, true, true, true, true, true, true, true, true, true, true, true, true, true, true, true, true, true, true, false, false, false, false, false, false, false, false, false, false, false, false, false, false, false, false, false, false, false, false, false, false, false, false, false, false] rfl rfl (any_of HT_.out (by kernel_rfl)) (fun _ _ _ h => h) (Or.inl ⟨by rfl, ?_⟩) ?_ ?_
 rotate_left
 {
 intro w'
 go_simp
 with_reducible rfl }
 rotate_left
 {
 simp only [Act.put, sT, s0, s1, i64_w, i32_w]
 rfl }
 refine pure_ (i := 27) (N := some 67) (v := ?_) (a' := ?_) #[true, true, true, true, true, true, true, true, true, true, true, true, true, true, true, true, true, true, true, true, true, true, true, true, true, false, false, true, false, false, false, false, false, false, false, false, false, false, false, false, false, false, false, false, false, false, false, false, false, false, false] rfl rfl (any_of HT_.out (by kernel_rfl)) (fun _ _ _ h => h) (Or.inl ⟨by rfl, ?_⟩) ?_ ?_
 rotate_left
 {
 intro w'
 go_simp
 with_reducible rfl }
 rotate_left
 {
 simp only [Act.put, sT, s0, s1, i64_w, i32_w]
 rfl }
 refine take_ (i := 25) (N := some 65) (v := ?_) (a' := ?_) #[true, true, true, true, true, true, true, true, true, true, true, true, true, true, true, true, true, true, true, true, true, true, true, true, true, true, false, true, false, false, false, false, false, false, false, false, false, false, false, false, false, false, false, false, false, false, false, false, false, false, false] rfl rfl (take_ofW HT_.out HW_.out (by kernel_rfl)) (fun _ _ _ h => h) (Or.inl ⟨by rfl, ?_⟩) hHeld ?_ ?_
 rotate_left
 {
 rintro w' ⟨s0, s1, s2, s3, s4, s5, s6, s7, s8, s9⟩
 go_simp
 with_reducible rfl }
 rotate_left
 {
 simp only [Act.put, sT, s0, s1, i64_w, i32_w]
 rfl }
 refine take_ (i := 28) (N := some 68) (v := ?_) (a' := ?_) #[true, true, true, true, true, true, true, true, true, true, true, true, true, true, true, true, true, true, true, true, true, true, true, true, true, true, false, true, true, false, false, false, false, false, false, false, false, false, false, false, false, false, false, false, false, false, false, false, false, false, false] rfl rfl (take_ofW HT_.out HW_.out (by kernel_rfl)) (fun _ _ _ h => h) (Or.inl ⟨by rfl, ?_⟩) hHeld ?_ ?_
 rotate_left
 {
 rintro w' ⟨s0, s1, s2, s3, s4, s5, s6, s7, s8, s9⟩
 go_simp
 with_reducible rfl }
 rotate_left
 {
 simp only [Act.put, sT, s0, s1, i64_w, i32_w]
 rfl }
 refine one_ (i := 26) (N := some 66) #[true, true, true, true, true, true, true, true, true, true, true, true, true, true, true, true, true, true, true, true, true, true, true, true, true, true, true, true, true, false, false, false, false, false, false, false, false, false, false, false, false, false, false, false, false, false, false, false, false, false, false] rfl rfl (one_of HT_.out (by kernel_rfl)) (by decide) (fun K hK => ?_)
 refine goes_ Try.func13 (by kernel_rfl) rfl #[.slice A0 l0.length c0, .agg #[.int .i64 a2_0, .int .i64 a2_1, .int .i64 a2_2]] (by rfl) rfl rfl (by (try simp only [List.map_toArray, List.map_cons, List.map_nil]); first | done | rfl | (simp only [List.length_drop, List.length_take]; rfl)) ?_
 with_reducible refine (nRead.calls (fun k_ => k_ < w.heap.size) _ _ l0 a2_0 a2_1 a2_2 t345 _ ?side1 A19.out).mono ?_
 (case side1 => exact Kd.V_mk HC0.out (Kd.F_below (Kd.C_F k62_heap HR0.out) bb))
 rintro e w45 ⟨v346, rfl, ho0, hb⟩
 refine ⟨_, rfl, ?_⟩
 have n0_ := aS (Kd.V_below (vv HO340.out) hb)
 have n1_ := aS (Kd.N_below (by (with_reducible repeat (first | apply Kd.N_alloc | apply Kd.N_drewN | apply Kd.N_drew)); exact HO343.out) hb)
 have n2_ := aS (Kd.V_lower (Kd.V_mono (ok' := fun k_ => some k_ ≠ (.slice Ao43 t341.length co43 : Value).ownBlock ∧ k_ ≠ gb327 ∧ k_ ≠ gb328 ∧ k_ ≠ gb337) ho0 (fun k_ hk_ => ⟨Or.elim hk_ (fun hs_ => fun e_ => Nat.not_le.2 hs_ (Kd.N_base HO343.out k_ e_.symm)) (fun hn_ => (Kd.fresh' (Kd.N_lt (by (with_reducible repeat (first | apply Kd.N_alloc | apply Kd.N_drewN | apply Kd.N_drew)); exact HO343.out)) k_ hn_)), Or.elim hk_ (fun hs_ => fun e_ => Nat.not_le.2 hs_ (by rw [e_]; exact GW327.out)) (fun hn_ => (Kd.freshB (g := gb327) (o := .cells #[.int .i64 a2_0, .int .i64 a2_1, .int .i64 a2_2] 30 (0, 0)) (kk BK327.out) k_ hn_)), Or.elim hk_ (fun hs_ => fun e_ => Nat.not_le.2 hs_ (by rw [e_]; exact GW328.out)) (fun hn_ => (Kd.freshB (g := gb328) (o := .cells #[.int .i64 a3_0, .int .i64 a3_1] 33 (0, 0)) (kk BK328.out) k_ hn_)), Or.elim hk_ (fun hs_ => fun e_ => Nat.not_le.2 hs_ (by rw [e_]; exact GW337.out)) (fun hn_ => (Kd.freshB (g := gb337) (o := .cells #[.int .i64 0, .int .i64 0, .int .i64 0, .slice none 0 0, .int .i64 a4] 50 (0, 0)) (kk BK337.out) k_ hn_))⟩)) bz)
 have n3_ := aS (blk_below (g := gb327) (o := .cells #[.int .i64 a2_0, .int .i64 a2_1, .int .i64 a2_2] 30 (0, 0)) (kk BK327.out) hb)
 have n4_ := aS (blk_below (g := gb328) (o := .cells #[.int .i64 a3_0, .int .i64 a3_1] 33 (0, 0)) (kk BK328.out) hb)
 have n5_ := aS (blk_below (g := gb337) (o := .cells #[.int .i64 0, .int .i64 0, .int .i64 0, .slice none 0 0, .int .i64 a4] 50 (0, 0)) (kk BK337.out) hb)
 have n6_ := aS (below_step bb hb)
 clear HO340
 clear HO343
 clear BK327
 clear BK328
 clear BK337
 clear HB
 have HO340 := n0_
 have HO343 := n1_
 have HO347 := n2_
 have BK327 := n3_
 have BK328 := n4_
 have BK337 := n5_
 have HB := n6_
 clear n0_ n1_ n2_ n3_ n4_ n5_ n6_
 (try clear hb)
 (try clear hb2)
 (try clear hk)
 (try clear hi)
 (try clear ho0)
 refine hK.out _ _ ⟨(blk_cell BK327.out 0).trans rfl, (blk_cell BK327.out 1).trans rfl, (blk_cell BK327.out 2).trans rfl, (blk_cell BK328.out 0).trans rfl, (blk_cell BK328.out 1).trans rfl, (blk_cell BK337.out 0).trans rfl, (blk_cell BK337.out 1).trans rfl, (blk_cell BK337.out 2).trans rfl, (blk_cell BK337.out 3).trans rfl, (blk_cell BK337.out 4).trans rfl⟩ (fun hHeld => ?_)
 clear hK K
 refine norm_ (a' := ?_) ?_ ?_
 rotate_left
 {
 show Act.put _ (some 66) _ = _
 simp only [Act.put, sT, s0, s1, i64_w, i32_w]
 rfl }
 refine one_ (i := 29) (N := some 69) #[true, true, true, true, true, true, true, true, true, true, true, true, true, true, true, true, true, true, true, true, true, true, true, true, true, true, true, true, true, true, false, false, false, false, false, false, false, false, false, false, false, false, false, false, false, false, false, false, false, false, false] rfl rfl (one_of HT_.out (by kernel_rfl)) (by decide) (fun K hK => ?_)
 refine goes_ Try.func21 (by kernel_rfl) rfl #[.slice A0 l0.length c0, .agg #[.int .i64 a2_0, .int .i64 a2_1, .int .i64 a2_2]] (by rfl) rfl rfl (by (try simp only [List.map_toArray, List.map_cons, List.map_nil]); first | done | rfl | (simp only [List.length_drop, List.length_take]; rfl)) ?_
 with_reducible refine (hallmootref13_Read.calls k (fun k_ => k_ < w.heap.size) _ _ l0 a2_0 a2_1 a2_2 t348 _ ?side1 A20.out).mono ?_
 (case side1 => exact Kd.V_mk HC0.out (Kd.F_below (Kd.C_F k62_heap HR0.out) bb))
 rintro e w46 ⟨v349, rfl, ho0, hb⟩
 refine ⟨_, rfl, ?_⟩
 have n0_ := aS (Kd.V_below (vv HO340.out) hb)
 have n1_ := aS (Kd.N_below (by (with_reducible repeat (first | apply Kd.N_alloc | apply Kd.N_drewN | apply Kd.N_drew)); exact HO343.out) hb)
 have n2_ := aS (Kd.V_below (vv HO347.out) hb)
 have n3_ := aS (Kd.V_lower (Kd.V_mono (ok' := fun k_ => some k_ ≠ (.slice Ao43 t341.length co43 : Value).ownBlock ∧ k_ ≠ gb327 ∧ k_ ≠ gb328 ∧ k_ ≠ gb337) ho0 (fun k_ hk_ => ⟨Or.elim hk_ (fun hs_ => fun e_ => Nat.not_le.2 hs_ (Kd.N_base HO343.out k_ e_.symm)) (fun hn_ => (Kd.fresh' (Kd.N_lt (by (with_reducible repeat (first | apply Kd.N_alloc | apply Kd.N_drewN | apply Kd.N_drew)); exact HO343.out)) k_ hn_)), Or.elim hk_ (fun hs_ => fun e_ => Nat.not_le.2 hs_ (by rw [e_]; exact GW327.out)) (fun hn_ => (Kd.freshB (g := gb327) (o := .cells #[.int .i64 a2_0, .int .i64 a2_1, .int .i64 a2_2] 30 (0, 0)) (kk BK327.out) k_ hn_)), Or.elim hk_ (fun hs_ => fun e_ => Nat.not_le.2 hs_ (by rw [e_]; exact GW328.out)) (fun hn_ => (Kd.freshB (g := gb328) (o := .cells #[.int .i64 a3_0, .int .i64 a3_1] 33 (0, 0)) (kk BK328.out) k_ hn_)), Or.elim hk_ (fun hs_ => fun e_ => Nat.not_le.2 hs_ (by rw [e_]; exact GW337.out)) (fun hn_ => (Kd.freshB (g := gb337) (o := .cells #[.int .i64 0, .int .i64 0, .int .i64 0, .slice none 0 0, .int .i64 a4] 50 (0, 0)) (kk BK337.out) k_ hn_))⟩)) bz)
 have n4_ := aS (blk_below (g := gb327) (o := .cells #[.int .i64 a2_0, .int .i64 a2_1, .int .i64 a2_2] 30 (0, 0)) (kk BK327.out) hb)
 have n5_ := aS (blk_below (g := gb328) (o := .cells #[.int .i64 a3_0, .int .i64 a3_1] 33 (0, 0)) (kk BK328.out) hb)
 have n6_ := aS (blk_below (g := gb337) (o := .cells #[.int .i64 0, .int .i64 0, .int .i64 0, .slice none 0 0, .int .i64 a4] 50 (0, 0)) (kk BK337.out) hb)
 have n7_ := aS (below_step bb hb)
 clear HO340
 clear HO343
 clear HO347
 clear BK327
 clear BK328
 clear BK337
 clear HB
 have HO340 := n0_
 have HO343 := n1_
 have HO347 := n2_
 have HO350 := n3_
 have BK327 := n4_
 have BK328 := n5_
 have BK337 := n6_
 have HB := n7_
 clear n0_ n1_ n2_ n3_ n4_ n5_ n6_ n7_
 (try clear hb)
 (try clear hb2)
 (try clear hk)
 (try clear hi)
 (try clear ho0)
 obtain ⟨Ao47, co47, eo47⟩ := Kd.V_slice HO347.out
 (first | subst eo47 | (injection eo47 with f1_ f2_ f3_; have f4_ := f1_.symm; have f5_ := f3_.symm; clear f1_ f2_ f3_; subst f4_; subst f5_))
 obtain ⟨Ao48, co48, eo48⟩ := Kd.V_slice HO350.out
 (first | subst eo48 | (injection eo48 with f1_ f2_ f3_; have f4_ := f1_.symm; have f5_ := f3_.symm; clear f1_ f2_ f3_; subst f4_; subst f5_))
 refine hK.out _ _ ⟨(blk_cell BK327.out 0).trans rfl, (blk_cell BK327.out 1).trans rfl, (blk_cell BK327.out 2).trans rfl, (blk_cell BK328.out 0).trans rfl, (blk_cell BK328.out 1).trans rfl, (blk_cell BK337.out 0).trans rfl, (blk_cell BK337.out 1).trans rfl, (blk_cell BK337.out 2).trans rfl, (blk_cell BK337.out 3).trans rfl, (blk_cell BK337.out 4).trans rfl⟩ (fun hHeld => ?_)
 clear hK K
 refine norm_ (a' := ?_) ?_ ?_
 rotate_left
 {
 show Act.put _ (some 69) _ = _
 simp only [Act.put, sT, s0, s1, i64_w, i32_w]
 rfl }
 refine one_ (i := 30) (N := some 70) #[true, true, true, true, true, true, true, true, true, true, true, true, true, true, true, true, true, true, true, true, true, true, true, true, true, true, true, true, true, true, true, false, false, false, false, false, false, false, false, false, false, false, false, false, false, false, false, false, false, false, false] rfl rfl (one_of HT_.out (by kernel_rfl)) (by decide) (fun K hK => ?_)
 refine goes_ Try.func19 (by kernel_rfl) rfl #[.slice Ao47 t345.length co47, .slice Ao48 t348.length co48] (by rfl) rfl rfl (by (try simp only [List.map_toArray, List.map_cons, List.map_nil]); first | done | rfl | (simp only [List.length_drop, List.length_take]; rfl)) ?_
 with_reducible refine (hallmootref13_Same.calls k _ _ t345 _ _ t348 true _ ?side1 ?side2 ?side3 ?side4 A21.out).mono ?_
 (case side1 => repeat (first | exact (Kd.V_reads' HO347.out).2.2 | (with_reducible refine Kd.C_alloc ?_ _) | (with_reducible refine Kd.C_drewN ?_ _) | (with_reducible refine Kd.C_drew ?_)))
 (case side2 => exact (Kd.V_reads' HO347.out).2.1)
 (case side3 => repeat (first | exact (Kd.V_reads' HO350.out).2.2 | (with_reducible refine Kd.C_alloc ?_ _) | (with_reducible refine Kd.C_drewN ?_ _) | (with_reducible refine Kd.C_drew ?_)))
 (case side4 => exact (Kd.V_reads' HO350.out).2.1)
 rintro e w49 ⟨rfl, hb⟩
 refine ⟨_, rfl, ?_⟩
 have n0_ := aS (Kd.V_below (vv HO340.out) hb)
 have n1_ := aS (Kd.N_below (by (with_reducible repeat (first | apply Kd.N_alloc | apply Kd.N_drewN | apply Kd.N_drew)); exact HO343.out) hb)
 have n2_ := aS (Kd.V_below (vv HO347.out) hb)
 have n3_ := aS (Kd.V_below (vv HO350.out) hb)
 have n4_ := aS (blk_below (g := gb327) (o := .cells #[.int .i64 a2_0, .int .i64 a2_1, .int .i64 a2_2] 30 (0, 0)) (kk BK327.out) hb)
 have n5_ := aS (blk_below (g := gb328) (o := .cells #[.int .i64 a3_0, .int .i64 a3_1] 33 (0, 0)) (kk BK328.out) hb)
 have n6_ := aS (blk_below (g := gb337) (o := .cells #[.int .i64 0, .int .i64 0, .int .i64 0, .slice none 0 0, .int .i64 a4] 50 (0, 0)) (kk BK337.out) hb)
 have n7_ := aS (below_step bb hb)
 clear HO340
 clear HO343
 clear HO347
 clear HO350
 clear BK327
 clear BK328
 clear BK337
 clear HB
 have HO340 := n0_
 have HO343 := n1_
 have HO347 := n2_
 have HO350 := n3_
 have BK327 := n4_
 have BK328 := n5_
 have BK337 := n6_
 have HB := n7_
 clear n0_ n1_ n2_ n3_ n4_ n5_ n6_ n7_
 (try clear hb)
 (try clear hb2)
 (try clear hk)
 (try clear hi)
 refine hK.out _ _ ⟨(blk_cell BK327.out 0).trans rfl, (blk_cell BK327.out 1).trans rfl, (blk_cell BK327.out 2).trans rfl, (blk_cell BK328.out 0).trans rfl, (blk_cell BK328.out 1).trans rfl, (blk_cell BK337.out 0).trans rfl, (blk_cell BK337.out 1).trans rfl, (blk_cell BK337.out 2).trans rfl, (blk_cell BK337.out 3).trans rfl, (blk_cell BK337.out 4).trans rfl⟩ (fun hHeld => ?_)
 clear hK K
 refine norm_ (a' := ?_) ?_ ?_
 rotate_left
 {
 show Act.put _ (some 70) _ = _
 simp only [Act.put, sT, s0, s1, i64_w, i32_w]
 rfl }
 refine pure_ (i := 31) (N := some 71) (v := ?_) (a' := ?_) #[true, true, true, true, true, true, true, true, true, true, true, true, true, true, true, true, true, true, true, true, true, true, true, true, true, true, true, true, true, true, true, true, false, false, false, false, false, false, false, false, false, false, false, false, false, false, false, false, false, false, false] rfl rfl (any_of HT_.out (by kernel_rfl)) (fun _ _ _ h => h) (Or.inl ⟨by rfl, ?_⟩) ?_ ?_
 rotate_left
 {
 intro w'
 go_simp
 with_reducible rfl }
 rotate_left
 {
 simp only [Act.put, sT, s0, s1, i64_w, i32_w]
 rfl }
 refine pure_ (i := 32) (N := some 72) (v := ?_) (a' := ?_) #[true, true, true, true, true, true, true, true, true, true, true, true, true, true, true, true, true, true, true, true, true, true, true, true, true, true, true, true, true, true, true, true, true, false, false, false, false, false, false, false, false, false, false, false, false, false, false, false, false, false, false] rfl rfl (any_of HT_.out (by kernel_rfl)) (fun _ _ _ h => h) (Or.inl ⟨by rfl, ?_⟩) ?_ ?_
 rotate_left
 {
 intro w'
 go_simp
 with_reducible rfl }
 rotate_left
 {
 simp only [Act.put, sT, s0, s1, i64_w, i32_w]
 rfl }
 refine pure_ (i := 33) (N := some 73) (v := ?_) (a' := ?_) #[true, true, true, true, true, true, true, true, true, true, true, true, true, true, true, true, true, true, true, true, true, true, true, true, true, true, true, true, true, true, true, true, true, true, false, false, false, false, false, false, false, false, false, false, false, false, false, false, false, false, false] rfl rfl (any_of HT_.out (by kernel_rfl)) (fun _ _ _ h => h) (Or.inl ⟨by rfl, ?_⟩) ?_ ?_
 rotate_left
 {
 intro w'
 go_simp
 with_reducible rfl }
 rotate_left
 {
 simp only [Act.put, sT, s0, s1, i64_w, i32_w]
 rfl }
 refine pure_ (i := 36) (N := some 76) (v := ?_) (a' := ?_) #[true, true, true, true, true, true, true, true, true, true, true, true, true, true, true, true, true, true, true, true, true, true, true, true, true, true, true, true, true, true, true, true, true, true, false, false, true, false, false, false, false, false, false, false, false, false, false, false, false, false, false] rfl rfl (any_of HT_.out (by kernel_rfl)) (fun _ _ _ h => h) (Or.inl ⟨by rfl, ?_⟩) ?_ ?_
 rotate_left
 {
 intro w'
 go_simp
 with_reducible rfl }
 rotate_left
 {
 simp only [Act.put, sT, s0, s1, i64_w, i32_w]
 rfl }
 refine take_ (i := 34) (N := some 74) (v := ?_) (a' := ?_) #[true, true, true, true, true, true, true, true, true, true, true, true, true, true, true, true, true, true, true, true, true, true, true, true, true, true, true, true, true, true, true, true, true, true, true, false, true, false, false, false, false, false, false, false, false, false, false, false, false, false, false] rfl rfl (take_ofW HT_.out HW_.out (by kernel_rfl)) (fun _ _ _ h => h) (Or.inl ⟨by rfl, ?_⟩) hHeld ?_ ?_
 rotate_left
 {
 rintro w' ⟨s0, s1, s2, s3, s4, s5, s6, s7, s8, s9⟩
 go_simp
 with_reducible rfl }
 rotate_left
 {
 simp only [Act.put, sT, s0, s1, i64_w, i32_w]
 rfl }
 refine take_ (i := 37) (N := some 77) (v := ?_) (a' := ?_) #[true, true, true, true, true, true, true, true, true, true, true, true, true, true, true, true, true, true, true, true, true, true, true, true, true, true, true, true, true, true, true, true, true, true, true, false, true, true, false, false, false, false, false, false, false, false, false, false, false, false, false] rfl rfl (take_ofW HT_.out HW_.out (by kernel_rfl)) (fun _ _ _ h => h) (Or.inl ⟨by rfl, ?_⟩) hHeld ?_ ?_
 rotate_left
 {
 rintro w' ⟨s0, s1, s2, s3, s4, s5, s6, s7, s8, s9⟩
 go_simp
 with_reducible rfl }
 rotate_left
 {
 simp only [Act.put, sT, s0, s1, i64_w, i32_w]
 rfl }
 refine one_ (i := 35) (N := some 75) #[true, true, true, true, true, true, true, true, true, true, true, true, true, true, true, true, true, true, true, true, true, true, true, true, true, true, true, true, true, true, true, true, true, true, true, true, true, true, false, false, false, false, false, false, false, false, false, false, false, false, false] rfl rfl (one_of HT_.out (by kernel_rfl)) (by decide) (fun K hK => ?_)
 refine goes_ Try.func14 (by kernel_rfl) rfl #[.slice A0 l0.length c0, .agg #[.int .i64 a3_0, .int .i64 a3_1]] (by rfl) rfl rfl (by (try simp only [List.map_toArray, List.map_cons, List.map_nil]); first | done | rfl | (simp only [List.length_drop, List.length_take]; rfl)) ?_
 with_reducible refine (nPut.calls (fun k_ => k_ < w.heap.size) _ _ l0 a3_0 a3_1 t352 _ ?side1 A23.out).mono ?_
 (case side1 => exact Kd.V_mk HC0.out (Kd.F_below (Kd.C_F k62_heap HR0.out) bb))
 rintro e w50 ⟨v353, rfl, ho0, hb⟩
 refine ⟨_, rfl, ?_⟩
 have n0_ := aS (Kd.V_below (vv HO340.out) hb)
 have n1_ := aS (Kd.N_below (by (with_reducible repeat (first | apply Kd.N_alloc | apply Kd.N_drewN | apply Kd.N_drew)); exact HO343.out) hb)
 have n2_ := aS (Kd.V_below (vv HO347.out) hb)
 have n3_ := aS (Kd.V_below (vv HO350.out) hb)
 have n4_ := aS (Kd.V_lower (Kd.V_mono (ok' := fun k_ => some k_ ≠ (.slice Ao43 t341.length co43 : Value).ownBlock ∧ k_ ≠ gb327 ∧ k_ ≠ gb328 ∧ k_ ≠ gb337) ho0 (fun k_ hk_ => ⟨Or.elim hk_ (fun hs_ => fun e_ => Nat.not_le.2 hs_ (Kd.N_base HO343.out k_ e_.symm)) (fun hn_ => (Kd.fresh' (Kd.N_lt (by (with_reducible repeat (first | apply Kd.N_alloc | apply Kd.N_drewN | apply Kd.N_drew)); exact HO343.out)) k_ hn_)), Or.elim hk_ (fun hs_ => fun e_ => Nat.not_le.2 hs_ (by rw [e_]; exact GW327.out)) (fun hn_ => (Kd.freshB (g := gb327) (o := .cells #[.int .i64 a2_0, .int .i64 a2_1, .int .i64 a2_2] 30 (0, 0)) (kk BK327.out) k_ hn_)), Or.elim hk_ (fun hs_ => fun e_ => Nat.not_le.2 hs_ (by rw [e_]; exact GW328.out)) (fun hn_ => (Kd.freshB (g := gb328) (o := .cells #[.int .i64 a3_0, .int .i64 a3_1] 33 (0, 0)) (kk BK328.out) k_ hn_)), Or.elim hk_ (fun hs_ => fun e_ => Nat.not_le.2 hs_ (by rw [e_]; exact GW337.out)) (fun hn_ => (Kd.freshB (g := gb337) (o := .cells #[.int .i64 0, .int .i64 0, .int .i64 0, .slice none 0 0, .int .i64 a4] 50 (0, 0)) (kk BK337.out) k_ hn_))⟩)) bz)
 have n5_ := aS (blk_below (g := gb327) (o := .cells #[.int .i64 a2_0, .int .i64 a2_1, .int .i64 a2_2] 30 (0, 0)) (kk BK327.out) hb)
 have n6_ := aS (blk_below (g := gb328) (o := .cells #[.int .i64 a3_0, .int .i64 a3_1] 33 (0, 0)) (kk BK328.out) hb)
 have n7_ := aS (blk_below (g := gb337) (o := .cells #[.int .i64 0, .int .i64 0, .int .i64 0, .slice none 0 0, .int .i64 a4] 50 (0, 0)) (kk BK337.out) hb)
 have n8_ := aS (below_step bb hb)
 clear HO340
 clear HO343
 clear HO347
 clear HO350
 clear BK327
 clear BK328
 clear BK337
 clear HB
 have HO340 := n0_
 have HO343 := n1_
 have HO347 := n2_
 have HO350 := n3_
 have HO354 := n4_
 have BK327 := n5_
 have BK328 := n6_
 have BK337 := n7_
 have HB := n8_
 clear n0_ n1_ n2_ n3_ n4_ n5_ n6_ n7_ n8_
 (try clear hb)
 (try clear hb2)
 (try clear hk)
 (try clear hi)
 (try clear ho0)
 refine hK.out _ _ ⟨(blk_cell BK327.out 0).trans rfl, (blk_cell BK327.out 1).trans rfl, (blk_cell BK327.out 2).trans rfl, (blk_cell BK328.out 0).trans rfl, (blk_cell BK328.out 1).trans rfl, (blk_cell BK337.out 0).trans rfl, (blk_cell BK337.out 1).trans rfl, (blk_cell BK337.out 2).trans rfl, (blk_cell BK337.out 3).trans rfl, (blk_cell BK337.out 4).trans rfl⟩ (fun hHeld => ?_)
 clear hK K
 refine norm_ (a' := ?_) ?_ ?_
 rotate_left
 {
 show Act.put _ (some 75) _ = _
 simp only [Act.put, sT, s0, s1, i64_w, i32_w]
 rfl }
 refine one_ (i := 38) (N := some 78) #[true, true, true, true, true, true, true, true, true, true, true, true, true, true, true, true, true, true, true, true, true, true, true, true, true, true, true, true, true, true, true, true, true, true, true, true, true, true, true, false, false, false, false, false, false, false, false, false, false, false, false] rfl rfl (one_of HT_.out (by kernel_rfl)) (by decide) (fun K hK => ?_)
 refine goes_ Try.func22 (by kernel_rfl) rfl #[.slice A0 l0.length c0, .agg #[.int .i64 a3_0, .int .i64 a3_1]] (by rfl) rfl rfl (by (try simp only [List.map_toArray, List.map_cons, List.map_nil]); first | done | rfl | (simp only [List.length_drop, List.length_take]; rfl)) ?_
 with_reducible refine (hallmootref13_Put.calls k (fun k_ => k_ < w.heap.size) _ _ l0 a3_0 a3_1 t355 _ ?side1 A24.out).mono ?_
 (case side1 => exact Kd.V_mk HC0.out (Kd.F_below (Kd.C_F k62_heap HR0.out) bb))
 rintro e w51 ⟨v356, rfl, ho0, hb⟩
 refine ⟨_, rfl, ?_⟩
 have n0_ := aS (Kd.V_below (vv HO340.out) hb)
 have n1_ := aS (Kd.N_below (by (with_reducible repeat (first | apply Kd.N_alloc | apply Kd.N_drewN | apply Kd.N_drew)); exact HO343.out) hb)
 have n2_ := aS (Kd.V_below (vv HO347.out) hb)
 have n3_ := aS (Kd.V_below (vv HO350.out) hb)
 have n4_ := aS (Kd.V_below (vv HO354.out) hb)
 have n5_ := aS (Kd.V_lower (Kd.V_mono (ok' := fun k_ => some k_ ≠ (.slice Ao43 t341.length co43 : Value).ownBlock ∧ k_ ≠ gb327 ∧ k_ ≠ gb328 ∧ k_ ≠ gb337) ho0 (fun k_ hk_ => ⟨Or.elim hk_ (fun hs_ => fun e_ => Nat.not_le.2 hs_ (Kd.N_base HO343.out k_ e_.symm)) (fun hn_ => (Kd.fresh' (Kd.N_lt (by (with_reducible repeat (first | apply Kd.N_alloc | apply Kd.N_drewN | apply Kd.N_drew)); exact HO343.out)) k_ hn_)), Or.elim hk_ (fun hs_ => fun e_ => Nat.not_le.2 hs_ (by rw [e_]; exact GW327.out)) (fun hn_ => (Kd.freshB (g := gb327) (o := .cells #[.int .i64 a2_0, .int .i64 a2_1, .int .i64 a2_2] 30 (0, 0)) (kk BK327.out) k_ hn_)), Or.elim hk_ (fun hs_ => fun e_ => Nat.not_le.2 hs_ (by rw [e_]; exact GW328.out)) (fun hn_ => (Kd.freshB (g := gb328) (o := .cells #[.int .i64 a3_0, .int .i64 a3_1] 33 (0, 0)) (kk BK328.out) k_ hn_)), Or.elim hk_ (fun hs_ => fun e_ => Nat.not_le.2 hs_ (by rw [e_]; exact GW337.out)) (fun hn_ => (Kd.freshB (g := gb337) (o := .cells #[.int .i64 0, .int .i64 0, .int .i64 0, .slice none 0 0, .int .i64 a4] 50 (0, 0)) (kk BK337.out) k_ hn_))⟩)) bz)
 have n6_ := aS (blk_below (g := gb327) (o := .cells #[.int .i64 a2_0, .int .i64 a2_1, .int .i64 a2_2] 30 (0, 0)) (kk BK327.out) hb)
 have n7_ := aS (blk_below (g := gb328) (o := .cells #[.int .i64 a3_0, .int .i64 a3_1] 33 (0, 0)) (kk BK328.out) hb)
 have n8_ := aS (blk_below (g := gb337) (o := .cells #[.int .i64 0, .int .i64 0, .int .i64 0, .slice none 0 0, .int .i64 a4] 50 (0, 0)) (kk BK337.out) hb)
 have n9_ := aS (below_step bb hb)
 clear HO340
 clear HO343
 clear HO347
 clear HO350
 clear HO354
 clear BK327
 clear BK328
 clear BK337
 clear HB
 have HO340 := n0_
 have HO343 := n1_
 have HO347 := n2_
 have HO350 := n3_
 have HO354 := n4_
 have HO357 := n5_
 have BK327 := n6_
 have BK328 := n7_
 have BK337 := n8_
 have HB := n9_
 clear n0_ n1_ n2_ n3_ n4_ n5_ n6_ n7_ n8_ n9_
 (try clear hb)
 (try clear hb2)
 (try clear hk)
 (try clear hi)
 (try clear ho0)
 obtain ⟨Ao52, co52, eo52⟩ := Kd.V_slice HO354.out
 (first | subst eo52 | (injection eo52 with f1_ f2_ f3_; have f4_ := f1_.symm; have f5_ := f3_.symm; clear f1_ f2_ f3_; subst f4_; subst f5_))
 obtain ⟨Ao53, co53, eo53⟩ := Kd.V_slice HO357.out
 (first | subst eo53 | (injection eo53 with f1_ f2_ f3_; have f4_ := f1_.symm; have f5_ := f3_.symm; clear f1_ f2_ f3_; subst f4_; subst f5_))
 refine hK.out _ _ ⟨(blk_cell BK327.out 0).trans rfl, (blk_cell BK327.out 1).trans rfl, (blk_cell BK327.out 2).trans rfl, (blk_cell BK328.out 0).trans rfl, (blk_cell BK328.out 1).trans rfl, (blk_cell BK337.out 0).trans rfl, (blk_cell BK337.out 1).trans rfl, (blk_cell BK337.out 2).trans rfl, (blk_cell BK337.out 3).trans rfl, (blk_cell BK337.out 4).trans rfl⟩ (fun hHeld => ?_)
 clear hK K
 refine norm_ (a' := ?_) ?_ ?_
 rotate_left
 {
 show Act.put _ (some 78) _ = _
 simp only [Act.put, sT, s0, s1, i64_w, i32_w]
 rfl }
 refine one_ (i := 39) (N := some 79) #[true, true, true, true, true, true, true, true, true, true, true, true, true, true, true, true, true, true, true, true, true, true, true, true, true, true, true, true, true, true, true, true, true, true, true, true, true, true, true, true, false, false, false, false, false, false, false, false, false, false, false] rfl rfl (one_of HT_.out (by kernel_rfl)) (by decide) (fun K hK => ?_)
 refine goes_ Try.func19 (by kernel_rfl) rfl #[.slice Ao52 t352.length co52, .slice Ao53 t355.length co53] (by rfl) rfl rfl (by (try simp only [List.map_toArray, List.map_cons, List.map_nil]); first | done | rfl | (simp only [List.length_drop, List.length_take]; rfl)) ?_
 with_reducible refine (hallmootref13_Same.calls k _ _ t352 _ _ t355 true _ ?side1 ?side2 ?side3 ?side4 A25.out).mono ?_
 (case side1 => repeat (first | exact (Kd.V_reads' HO354.out).2.2 | (with_reducible refine Kd.C_alloc ?_ _) | (with_reducible refine Kd.C_drewN ?_ _) | (with_reducible refine Kd.C_drew ?_)))
 (case side2 => exact (Kd.V_reads' HO354.out).2.1)
 (case side3 => repeat (first | exact (Kd.V_reads' HO357.out).2.2 | (with_reducible refine Kd.C_alloc ?_ _) | (with_reducible refine Kd.C_drewN ?_ _) | (with_reducible refine Kd.C_drew ?_)))
 (case side4 => exact (Kd.V_reads' HO357.out).2.1)
 rintro e w54 ⟨rfl, hb⟩
 refine ⟨_, rfl, ?_⟩
 have n0_ := aS (Kd.V_below (vv HO340.out) hb)
 have n1_ := aS (Kd.N_below (by (with_reducible repeat (first | apply Kd.N_alloc | apply Kd.N_drewN | apply Kd.N_drew)); exact HO343.out) hb)
 have n2_ := aS (Kd.V_below (vv HO347.out) hb)
 have n3_ := aS (Kd.V_below (vv HO350.out) hb)
 have n4_ := aS (Kd.V_below (vv HO354.out) hb)
 have n5_ := aS (Kd.V_below (vv HO357.out) hb)
 have n6_ := aS (blk_below (g := gb327) (o := .cells #[.int .i64 a2_0, .int .i64 a2_1, .int .i64 a2_2] 30 (0, 0)) (kk BK327.out) hb)
 have n7_ := aS (blk_below (g := gb328) (o := .cells #[.int .i64 a3_0, .int .i64 a3_1] 33 (0, 0)) (kk BK328.out) hb)
 have n8_ := aS (blk_below (g := gb337) (o := .cells #[.int .i64 0, .int .i64 0, .int .i64 0, .slice none 0 0, .int .i64 a4] 50 (0, 0)) (kk BK337.out) hb)
 have n9_ := aS (below_step bb hb)
 clear HO340
 clear HO343
 clear HO347
 clear HO350
 clear HO354
 clear HO357
 clear BK327
 clear BK328
 clear BK337
 clear HB
 have HO340 := n0_
 have HO343 := n1_
 have HO347 := n2_
 have HO350 := n3_
 have HO354 := n4_
 have HO357 := n5_
 have BK327 := n6_
 have BK328 := n7_
 have BK337 := n8_
 have HB := n9_
 clear n0_ n1_ n2_ n3_ n4_ n5_ n6_ n7_ n8_ n9_
 (try clear hb)
 (try clear hb2)
 (try clear hk)
 (try clear hi)
 refine hK.out _ _ ⟨(blk_cell BK327.out 0).trans rfl, (blk_cell BK327.out 1).trans rfl, (blk_cell BK327.out 2).trans rfl, (blk_cell BK328.out 0).trans rfl, (blk_cell BK328.out 1).trans rfl, (blk_cell BK337.out 0).trans rfl, (blk_cell BK337.out 1).trans rfl, (blk_cell BK337.out 2).trans rfl, (blk_cell BK337.out 3).trans rfl, (blk_cell BK337.out 4).trans rfl⟩ (fun hHeld => ?_)
 clear hK K
 refine norm_ (a' := ?_) ?_ ?_
 rotate_left
 {
 show Act.put _ (some 79) _ = _
 simp only [Act.put, sT, s0, s1, i64_w, i32_w]
 rfl }
 refine pure_ (i := 40) (N := some 80) (v := ?_) (a' := ?_) #[true, true, true, true, true, true, true, true, true, true, true, true, true, true, true, true, true, true, true, true, true, true, true, true, true, true, true, true, true, true, true, true, true, true, true, true, true, true, true, true, true, false, false, false, false, false, false, false, false, false, false] rfl rfl (any_of HT_.out (by kernel_rfl)) (fun _ _ _ h => h) (Or.inl ⟨by rfl, ?_⟩) ?_ ?_
 rotate_left
 {
 intro w'
 go_simp
 with_reducible rfl }
 rotate_left
 {
 simp only [Act.put, sT, s0, s1, i64_w, i32_w]
 rfl }
 refine pure_ (i := 41) (N := some 81) (v := ?_) (a' := ?_) #[true, true, true, true, true, true, true, true, true, true, true, true, true, true, true, true, true, true, true, true, true, true, true, true, true, true, true, true, true, true, true, true, true, true, true, true, true, true, true, true, true, true, false, false, false, false, false, false, false, false, false] rfl rfl (any_of HT_.out (by kernel_rfl)) (fun _ _ _ h => h) (Or.inl ⟨by rfl, ?_⟩) ?_ ?_
 rotate_left
 {
 intro w'
 go_simp
 with_reducible rfl }
 rotate_left
 {
 simp only [Act.put, sT, s0, s1, i64_w, i32_w]
 rfl }
 refine pure_ (i := 42) (N := some 82) (v := ?_) (a' := ?_) #[true, true, true, true, true, true, true, true, true, true, true, true, true, true, true, true, true, true, true, true, true, true, true, true, true, true, true, true, true, true, true, true, true, true, true, true, true, true, true, true, true, true, true, false, false, false, false, false, false, false, false] rfl rfl (any_of HT_.out (by kernel_rfl)) (fun _ _ _ h => h) (Or.inl ⟨by rfl, ?_⟩) ?_ ?_
 rotate_left
 {
 intro w'
 go_simp
 with_reducible rfl }
 rotate_left
 {
 simp only [Act.put, sT, s0, s1, i64_w, i32_w]
 rfl }
 refine pure_ (i := 45) (N := some 85) (v := ?_) (a' := ?_) #[true, true, true, true, true, true, true, true, true, true, true, true, true, true, true, true, true, true, true, true, true, true, true, true, true, true, true, true, true, true, true, true, true, true, true, true, true, true, true, true, true, true, true, false, false, true, false, false, false, false, false] rfl rfl (any_of HT_.out (by kernel_rfl)) (fun _ _ _ h => h) (Or.inl ⟨by rfl, ?_⟩) ?_ ?_
 rotate_left
 {
 intro w'
 go_simp
 with_reducible rfl }
 rotate_left
 {
 simp only [Act.put, sT, s0, s1, i64_w, i32_w]
 rfl }
 refine take_ (i := 43) (N := some 83) (v := ?_) (a' := ?_) #[true, true, true, true, true, true, true, true, true, true, true, true, true, true, true, true, true, true, true, true, true, true, true, true, true, true, true, true, true, true, true, true, true, true, true, true, true, true, true, true, true, true, true, true, false, true, false, false, false, false, false] rfl rfl (take_ofW HT_.out HW_.out (by kernel_rfl)) (fun _ _ _ h => h) (Or.inl ⟨by rfl, ?_⟩) hHeld ?_ ?_
 rotate_left
 {
 rintro w' ⟨s0, s1, s2, s3, s4, s5, s6, s7, s8, s9⟩
 go_simp
 with_reducible rfl }
 rotate_left
 {
 simp only [Act.put, sT, s0, s1, i64_w, i32_w]
 rfl }
 refine take_ (i := 46) (N := some 86) (v := ?_) (a' := ?_) #[true, true, true, true, true, true, true, true, true, true, true, true, true, true, true, true, true, true, true, true, true, true, true, true, true, true, true, true, true, true, true, true, true, true, true, true, true, true, true, true, true, true, true, true, false, true, true, false, false, false, false] rfl rfl (take_ofW HT_.out HW_.out (by kernel_rfl)) (fun _ _ _ h => h) (Or.inl ⟨by rfl, ?_⟩) hHeld ?_ ?_
 rotate_left
 {
 rintro w' ⟨s0, s1, s2, s3, s4, s5, s6, s7, s8, s9⟩
 go_simp
 with_reducible rfl }
 rotate_left
 {
 simp only [Act.put, sT, s0, s1, i64_w, i32_w]
 rfl }
 refine one_ (i := 44) (N := some 84) #[true, true, true, true, true, true, true, true, true, true, true, true, true, true, true, true, true, true, true, true, true, true, true, true, true, true, true, true, true, true, true, true, true, true, true, true, true, true, true, true, true, true, true, true, true, true, true, false, false, false, false] rfl rfl (one_of HT_.out (by kernel_rfl)) (by decide) (fun K hK => ?_)
 refine goes_ Try.func23 (by kernel_rfl) rfl #[.slice A0 l0.length c0, .agg #[.int .i64 0, .int .i64 0, .int .i64 0, .slice none 0 0, .int .i64 a4]] (by rfl) rfl rfl (by (try simp only [List.map_toArray, List.map_cons, List.map_nil]); first | done | rfl | (simp only [List.length_drop, List.length_take]; rfl)) ?_
 refine (nKeep.calls (fun k_ => k_ < w.heap.size) _ _ l0 0 0 0 (fun k_ => False) _ _ ([] : List (S48)) a4 t359 _ ?side1 ?side2 A27.out).mono ?_
 (case side1 => exact Kd.V_mk HC0.out (Kd.F_below (Kd.C_F k62_heap HR0.out) bb))
 (case side2 => exact Kd.V_nil _ _ _ _ _)
 rintro e w55 ⟨v360, rfl, ho0, hb⟩
 refine ⟨_, rfl, ?_⟩
 have n0_ := aS (Kd.V_below (vv HO340.out) hb)
 have n1_ := aS (Kd.N_below (by (with_reducible repeat (first | apply Kd.N_alloc | apply Kd.N_drewN | apply Kd.N_drew)); exact HO343.out) hb)
 have n2_ := aS (Kd.V_below (vv HO347.out) hb)
 have n3_ := aS (Kd.V_below (vv HO350.out) hb)
 have n4_ := aS (Kd.V_below (vv HO354.out) hb)
 have n5_ := aS (Kd.V_below (vv HO357.out) hb)
 have n6_ := aS (Kd.V_lower (Kd.V_mono (ok' := fun k_ => some k_ ≠ (.slice Ao43 t341.length co43 : Value).ownBlock ∧ k_ ≠ gb327 ∧ k_ ≠ gb328 ∧ k_ ≠ gb337) ho0 (fun k_ hk_ => ⟨Or.elim hk_ (fun hs_ => Or.elim hs_ (fun hs_ => fun e_ => Nat.not_le.2 hs_ (Kd.N_base HO343.out k_ e_.symm)) (fun hs_ => (hs_).elim)) (fun hn_ => (Kd.fresh' (Kd.N_lt (by (with_reducible repeat (first | apply Kd.N_alloc | apply Kd.N_drewN | apply Kd.N_drew)); exact HO343.out)) k_ hn_)), Or.elim hk_ (fun hs_ => Or.elim hs_ (fun hs_ => fun e_ => Nat.not_le.2 hs_ (by rw [e_]; exact GW327.out)) (fun hs_ => (hs_).elim)) (fun hn_ => (Kd.freshB (g := gb327) (o := .cells #[.int .i64 a2_0, .int .i64 a2_1, .int .i64 a2_2] 30 (0, 0)) (kk BK327.out) k_ hn_)), Or.elim hk_ (fun hs_ => Or.elim hs_ (fun hs_ => fun e_ => Nat.not_le.2 hs_ (by rw [e_]; exact GW328.out)) (fun hs_ => (hs_).elim)) (fun hn_ => (Kd.freshB (g := gb328) (o := .cells #[.int .i64 a3_0, .int .i64 a3_1] 33 (0, 0)) (kk BK328.out) k_ hn_)), Or.elim hk_ (fun hs_ => Or.elim hs_ (fun hs_ => fun e_ => Nat.not_le.2 hs_ (by rw [e_]; exact GW337.out)) (fun hs_ => (hs_).elim)) (fun hn_ => (Kd.freshB (g := gb337) (o := .cells #[.int .i64 0, .int .i64 0, .int .i64 0, .slice none 0 0, .int .i64 a4] 50 (0, 0)) (kk BK337.out) k_ hn_))⟩)) bz)
 have n7_ := aS (blk_below (g := gb327) (o := .cells #[.int .i64 a2_0, .int .i64 a2_1, .int .i64 a2_2] 30 (0, 0)) (kk BK327.out) hb)
 have n8_ := aS (blk_below (g := gb328) (o := .cells #[.int .i64 a3_0, .int .i64 a3_1] 33 (0, 0)) (kk BK328.out) hb)
 have n9_ := aS (blk_below (g := gb337) (o := .cells #[.int .i64 0, .int .i64 0, .int .i64 0, .slice none 0 0, .int .i64 a4] 50 (0, 0)) (kk BK337.out) hb)
 have n10_ := aS (below_step bb hb)
 clear HO340
 clear HO343
 clear HO347
 clear HO350
 clear HO354
 clear HO357
 clear BK327
 clear BK328
 clear BK337
 clear HB
 have HO340 := n0_
 have HO343 := n1_
 have HO347 := n2_
 have HO350 := n3_
 have HO354 := n4_
 have HO357 := n5_
 have HO361 := n6_
 have BK327 := n7_
 have BK328 := n8_
 have BK337 := n9_
 have HB := n10_
 clear n0_ n1_ n2_ n3_ n4_ n5_ n6_ n7_ n8_ n9_ n10_
 (try clear hb)
 (try clear hb2)
 (try clear hk)
 (try clear hi)
 (try clear ho0)
 refine hK.out _ _ ⟨(blk_cell BK327.out 0).trans rfl, (blk_cell BK327.out 1).trans rfl, (blk_cell BK327.out 2).trans rfl, (blk_cell BK328.out 0).trans rfl, (blk_cell BK328.out 1).trans rfl, (blk_cell BK337.out 0).trans rfl, (blk_cell BK337.out 1).trans rfl, (blk_cell BK337.out 2).trans rfl, (blk_cell BK337.out 3).trans rfl, (blk_cell BK337.out 4).trans rfl⟩ (fun hHeld => ?_)
 clear hK K
 refine norm_ (a' := ?_) ?_ ?_
 rotate_left
 {
 show Act.put _ (some 84) _ = _
 simp only [Act.put, sT, s0, s1, i64_w, i32_w]
 rfl }
 refine one_ (i := 47) (N := some 87) #[true, true, true, true, true, true, true, true, true, true, true, true, true, true, true, true, true, true, true, true, true, true, true, true, true, true, true, true, true, true, true, true, true, true, true, true, true, true, true, true, true, true, true, true, true, true, true, true, false, false, false] rfl rfl (one_of HT_.out (by kernel_rfl)) (by decide) (fun K hK => ?_)
 refine goes_ Try.func24 (by kernel_rfl) rfl #[.slice A0 l0.length c0, .agg #[.int .i64 0, .int .i64 0, .int .i64 0, .slice none 0 0, .int .i64 a4]] (by rfl) rfl rfl (by (try simp only [List.map_toArray, List.map_cons, List.map_nil]); first | done | rfl | (simp only [List.length_drop, List.length_take]; rfl)) ?_
 refine (hallmootref13_Keep.calls (fun k_ => k_ < w.heap.size) _ _ l0 0 0 0 (fun k_ => False) _ _ ([] : List (S48)) a4 t362 _ ?side1 ?side2 A28.out).mono ?_
 (case side1 => exact Kd.V_mk HC0.out (Kd.F_below (Kd.C_F k62_heap HR0.out) bb))
 (case side2 => exact Kd.V_nil _ _ _ _ _)
 rintro e w56 ⟨v363, rfl, ho0, hb⟩
 refine ⟨_, rfl, ?_⟩
 have n0_ := aS (Kd.V_below (vv HO340.out) hb)
 have n1_ := aS (Kd.N_below (by (with_reducible repeat (first | apply Kd.N_alloc | apply Kd.N_drewN | apply Kd.N_drew)); exact HO343.out) hb)
 have n2_ := aS (Kd.V_below (vv HO347.out) hb)
 have n3_ := aS (Kd.V_below (vv HO350.out) hb)
 have n4_ := aS (Kd.V_below (vv HO354.out) hb)
 have n5_ := aS (Kd.V_below (vv HO357.out) hb)
 have n6_ := aS (Kd.V_below (vv HO361.out) hb)
 have n7_ := aS (Kd.V_lower (Kd.V_mono (ok' := fun k_ => some k_ ≠ (.slice Ao43 t341.length co43 : Value).ownBlock ∧ k_ ≠ gb327 ∧ k_ ≠ gb328 ∧ k_ ≠ gb337) ho0 (fun k_ hk_ => ⟨Or.elim hk_ (fun hs_ => Or.elim hs_ (fun hs_ => fun e_ => Nat.not_le.2 hs_ (Kd.N_base HO343.out k_ e_.symm)) (fun hs_ => (hs_).elim)) (fun hn_ => (Kd.fresh' (Kd.N_lt (by (with_reducible repeat (first | apply Kd.N_alloc | apply Kd.N_drewN | apply Kd.N_drew)); exact HO343.out)) k_ hn_)), Or.elim hk_ (fun hs_ => Or.elim hs_ (fun hs_ => fun e_ => Nat.not_le.2 hs_ (by rw [e_]; exact GW327.out)) (fun hs_ => (hs_).elim)) (fun hn_ => (Kd.freshB (g := gb327) (o := .cells #[.int .i64 a2_0, .int .i64 a2_1, .int .i64 a2_2] 30 (0, 0)) (kk BK327.out) k_ hn_)), Or.elim hk_ (fun hs_ => Or.elim hs_ (fun hs_ => fun e_ => Nat.not_le.2 hs_ (by rw [e_]; exact GW328.out)) (fun hs_ => (hs_).elim)) (fun hn_ => (Kd.freshB (g := gb328) (o := .cells #[.int .i64 a3_0, .int .i64 a3_1] 33 (0, 0)) (kk BK328.out) k_ hn_)), Or.elim hk_ (fun hs_ => Or.elim hs_ (fun hs_ => fun e_ => Nat.not_le.2 hs_ (by rw [e_]; exact GW337.out)) (fun hs_ => (hs_).elim)) (fun hn_ => (Kd.freshB (g := gb337) (o := .cells #[.int .i64 0, .int .i64 0, .int .i64 0, .slice none 0 0, .int .i64 a4] 50 (0, 0)) (kk BK337.out) k_ hn_))⟩)) bz)
 have n8_ := aS (blk_below (g := gb327) (o := .cells #[.int .i64 a2_0, .int .i64 a2_1, .int .i64 a2_2] 30 (0, 0)) (kk BK327.out) hb)
 have n9_ := aS (blk_below (g := gb328) (o := .cells #[.int .i64 a3_0, .int .i64 a3_1] 33 (0, 0)) (kk BK328.out) hb)
 have n10_ := aS (blk_below (g := gb337) (o := .cells #[.int .i64 0, .int .i64 0, .int .i64 0, .slice none 0 0, .int .i64 a4] 50 (0, 0)) (kk BK337.out) hb)
 have n11_ := aS (below_step bb hb)
 clear HO340
 clear HO343
 clear HO347
 clear HO350
 clear HO354
 clear HO357
 clear HO361
 clear BK327
 clear BK328
 clear BK337
 clear HB
 have HO340 := n0_
 have HO343 := n1_
 have HO347 := n2_
 have HO350 := n3_
 have HO354 := n4_
 have HO357 := n5_
 have HO361 := n6_
 have HO364 := n7_
 have BK327 := n8_
 have BK328 := n9_
 have BK337 := n10_
 have HB := n11_
 clear n0_ n1_ n2_ n3_ n4_ n5_ n6_ n7_ n8_ n9_ n10_ n11_
 (try clear hb)
 (try clear hb2)
 (try clear hk)
 (try clear hi)
 (try clear ho0)
 obtain ⟨Ao57, co57, eo57⟩ := Kd.V_slice HO361.out
 (first | subst eo57 | (injection eo57 with f1_ f2_ f3_; have f4_ := f1_.symm; have f5_ := f3_.symm; clear f1_ f2_ f3_; subst f4_; subst f5_))
 obtain ⟨Ao58, co58, eo58⟩ := Kd.V_slice HO364.out
 (first | subst eo58 | (injection eo58 with f1_ f2_ f3_; have f4_ := f1_.symm; have f5_ := f3_.symm; clear f1_ f2_ f3_; subst f4_; subst f5_))
 refine hK.out _ _ ⟨(blk_cell BK327.out 0).trans rfl, (blk_cell BK327.out 1).trans rfl, (blk_cell BK327.out 2).trans rfl, (blk_cell BK328.out 0).trans rfl, (blk_cell BK328.out 1).trans rfl, (blk_cell BK337.out 0).trans rfl, (blk_cell BK337.out 1).trans rfl, (blk_cell BK337.out 2).trans rfl, (blk_cell BK337.out 3).trans rfl, (blk_cell BK337.out 4).trans rfl⟩ (fun hHeld => ?_)
 clear hK K
 refine norm_ (a' := ?_) ?_ ?_
 rotate_left
 {
 show Act.put _ (some 87) _ = _
 simp only [Act.put, sT, s0, s1, i64_w, i32_w]
 rfl }
 refine one_ (i := 48) (N := some 88) #[true, true, true, true, true, true, true, true, true, true, true, true, true, true, true, true, true, true, true, true, true, true, true, true, true, true, true, true, true, true, true, true, true, true, true, true, true, true, true, true, true, true, true, true, true, true, true, true, true, false, false] rfl rfl (one_of HT_.out (by kernel_rfl)) (by decide) (fun K hK => ?_)
 refine goes_ Try.func19 (by kernel_rfl) rfl #[.slice Ao57 t359.length co57, .slice Ao58 t362.length co58] (by rfl) rfl rfl (by (try simp only [List.map_toArray, List.map_cons, List.map_nil]); first | done | rfl | (simp only [List.length_drop, List.length_take]; rfl)) ?_
 with_reducible refine (hallmootref13_Same.calls k _ _ t359 _ _ t362 t365 _ ?side1 ?side2 ?side3 ?side4 A29.out).mono ?_
 (case side1 => repeat (first | exact (Kd.V_reads' HO361.out).2.2 | (with_reducible refine Kd.C_alloc ?_ _) | (with_reducible refine Kd.C_drewN ?_ _) | (with_reducible refine Kd.C_drew ?_)))
 (case side2 => exact (Kd.V_reads' HO361.out).2.1)
 (case side3 => repeat (first | exact (Kd.V_reads' HO364.out).2.2 | (with_reducible refine Kd.C_alloc ?_ _) | (with_reducible refine Kd.C_drewN ?_ _) | (with_reducible refine Kd.C_drew ?_)))
 (case side4 => exact (Kd.V_reads' HO364.out).2.1)
 rintro e w59 ⟨rfl, hb⟩
 refine ⟨_, rfl, ?_⟩
 have n0_ := aS (Kd.V_below (vv HO340.out) hb)
 have n1_ := aS (Kd.N_below (by (with_reducible repeat (first | apply Kd.N_alloc | apply Kd.N_drewN | apply Kd.N_drew)); exact HO343.out) hb)
 have n2_ := aS (Kd.V_below (vv HO347.out) hb)
 have n3_ := aS (Kd.V_below (vv HO350.out) hb)
 have n4_ := aS (Kd.V_below (vv HO354.out) hb)
 have n5_ := aS (Kd.V_below (vv HO357.out) hb)
 have n6_ := aS (Kd.V_below (vv HO361.out) hb)
 have n7_ := aS (Kd.V_below (vv HO364.out) hb)
 have n8_ := aS (blk_below (g := gb327) (o := .cells #[.int .i64 a2_0, .int .i64 a2_1, .int .i64 a2_2] 30 (0, 0)) (kk BK327.out) hb)
 have n9_ := aS (blk_below (g := gb328) (o := .cells #[.int .i64 a3_0, .int .i64 a3_1] 33 (0, 0)) (kk BK328.out) hb)
 have n10_ := aS (blk_below (g := gb337) (o := .cells #[.int .i64 0, .int .i64 0, .int .i64 0, .slice none 0 0, .int .i64 a4] 50 (0, 0)) (kk BK337.out) hb)
 have n11_ := aS (below_step bb hb)
 clear HO340
 clear HO343
 clear HO347
 clear HO350
 clear HO354
 clear HO357
 clear HO361
 clear HO364
 clear BK327
 clear BK328
 clear BK337
 clear HB
 have HO340 := n0_
 have HO343 := n1_
 have HO347 := n2_
 have HO350 := n3_
 have HO354 := n4_
 have HO357 := n5_
 have HO361 := n6_
 have HO364 := n7_
 have BK327 := n8_
 have BK328 := n9_
 have BK337 := n10_
 have HB := n11_
 clear n0_ n1_ n2_ n3_ n4_ n5_ n6_ n7_ n8_ n9_ n10_ n11_
 (try clear hb)
 (try clear hb2)
 (try clear hk)
 (try clear hi)
 refine hK.out _ _ ⟨(blk_cell BK327.out 0).trans rfl, (blk_cell BK327.out 1).trans rfl, (blk_cell BK327.out 2).trans rfl, (blk_cell BK328.out 0).trans rfl, (blk_cell BK328.out 1).trans rfl, (blk_cell BK337.out 0).trans rfl, (blk_cell BK337.out 1).trans rfl, (blk_cell BK337.out 2).trans rfl, (blk_cell BK337.out 3).trans rfl, (blk_cell BK337.out 4).trans rfl⟩ (fun hHeld => ?_)
 clear hK K
 refine norm_ (a' := ?_) ?_ ?_
 rotate_left
 {
 show Act.put _ (some 88) _ = _
 simp only [Act.put, sT, s0, s1, i64_w, i32_w]
 rfl }
 refine pure_ (i := 49) (N := some 89) (v := ?_) (a' := ?_) #[true, true, true, true, true, true, true, true, true, true, true, true, true, true, true, true, true, true, true, true, true, true, true, true, true, true, true, true, true, true, true, true, true, true, true, true, true, true, true, true, true, true, true, true, true, true, true, true, true, true, false] rfl rfl (any_of HT_.out (by kernel_rfl)) (fun _ _ _ h => h) (Or.inl ⟨by rfl, ?_⟩) ?_ ?_
 rotate_left
 {
 intro w'
 go_simp
 with_reducible rfl }
 rotate_left
 {
 simp only [Act.put, sT, s0, s1, i64_w, i32_w]
 rfl }
 refine pure_ (i := 50) (N := some 10) (v := ?_) (a' := ?_) #[true, true, true, true, true, true, true, true, true, true, true, true, true, true, true, true, true, true, true, true, true, true, true, true, true, true, true, true, true, true, true, true, true, true, true, true, true, true, true, true, true, true, true, true, true, true, true, true, true, true, true] rfl rfl (any_of HT_.out (by kernel_rfl)) (fun _ _ _ h => h) (Or.inl ⟨by rfl, ?_⟩) ?_ ?_
 rotate_left
 {
 intro w'
 go_simp
 with_reducible rfl }
 rotate_left
 {
 simp only [Act.put, sT, s0, s1, i64_w, i32_w]
 rfl }
 refine done_ (done_of HT_.out (by kernel_rfl)) ?_
 try go_wp2
 go_ret
 exact ⟨by first | rfl | (simp [errW_none, errW_some] <;> rfl) | (simp [*, errW_none, errW_some] <;> rfl), by repeat (first | (with_reducible first | exact HB.out | apply below_alloc | apply pw_below_drewN | apply below_drew1 | refine below_set ?_ GE327.out | refine below_set ?_ GE328.out | refine below_set ?_ GE337.out) | exact HB.out)⟩ }
 {
 replace c26 := Bool.eq_false_iff.mpr c26
 subst c26
 have H1 : (none) = some r := by rw [if_neg (show ¬ (false = true) by decide)] at H; exact H
 clear H
 have H := H1
 clear H1
 exact absurd H (by simp) } }
 {
 replace c22 := Bool.eq_false_iff.mpr c22
 subst c22
 have H1 : (none) = some r := by rw [if_neg (show ¬ (false = true) by decide)] at H; exact H
 clear H
 have H := H1
 clear H1
 exact absurd H (by simp) } }
 {
 replace c18 := Bool.eq_false_iff.mpr c18
 subst c18
 have H1 : (none) = some r := by rw [if_neg (show ¬ (false = true) by decide)] at H; exact H
 clear H
 have H := H1
 clear H1
 exact absurd H (by simp) } }
 {
 rw [if_neg c14] at H
 exact absurd H (by simp) } }
 {
 rw [if_neg c13] at H
 exact absurd H (by simp) } }
 {
 rw [if_neg c12] at H
 exact absurd H (by simp) } }
 {
 replace c11 := Bool.eq_false_iff.mpr c11
 subst c11
 have H1 : (none) = some r := by rw [if_neg (show ¬ (false = true) by decide)] at H; exact H
 clear H
 have H := H1
 clear H1
 exact absurd H (by simp) } }
 {
 replace c8 := Bool.eq_false_iff.mpr c8
 subst c8
 have H1 : (some t329) = some r := by rw [if_neg (show ¬ (false = true) by decide)] at H; exact H
 clear H
 have H := H1
 clear H1
 obtain rfl := Option.some.inj H
 go_enter Try.func5, Try.ntmps5
 go_wp2_with (first | ((with_reducible refine gate_dst (N := 7) rfl ?_); refine box_event ?hg (N := 7) ?hd (cs := #[.int .i64 a2_0, .int .i64 a2_1, .int .i64 a2_2]) (t := 30) ?hr ?_; (case hd => rfl); (case hg => rfl); (case hr => first | (go_simp; done) | (go_simp; rfl)); intro gb327 hg w60 hbox hb; have n0_ := aS (below_step bb hb); have n1_ := aS (hbox); have n2_ := aS ((by rw [hg]; exact bz : w.heap.size ≤ gb327)); have n3_ := aS ((by rw [hg]; exact bz : w.heap.size ≤ gb327)); clear HB; have HB := n0_; have BK327 := n1_; have GW327 := n2_; have GE327 := n3_; clear n0_ n1_ n2_ n3_; clear hb hbox hg) | ((with_reducible refine gate_dst (N := 8) rfl ?_); refine box_event ?hg (N := 8) ?hd (cs := #[.int .i64 a3_0, .int .i64 a3_1]) (t := 33) ?hr ?_; (case hd => rfl); (case hg => rfl); (case hr => first | (go_simp; done) | (go_simp; rfl)); intro gb328 hg w61 hbox hb; have n0_ := aS (blk_below (g := gb327) (o := .cells #[.int .i64 a2_0, .int .i64 a2_1, .int .i64 a2_2] 30 (0, 0)) (kk BK327.out) hb); have n1_ := aS (below_step bb hb); have n2_ := aS (hbox); have n3_ := aS ((by rw [hg]; exact bz : w.heap.size ≤ gb328)); have n4_ := aS ((by rw [hg]; exact bz : w.heap.size ≤ gb328)); have n5_ := aS ((by rw [hg]; exact Nat.ne_of_lt (blk_lt (g := gb327) (o := .cells #[.int .i64 a2_0, .int .i64 a2_1, .int .i64 a2_2] 30 (0, 0)) (kk BK327.out)) : gb327 ≠ gb328)); have n6_ := aS ((by rw [hg]; exact Nat.ne_of_gt (blk_lt (g := gb327) (o := .cells #[.int .i64 a2_0, .int .i64 a2_1, .int .i64 a2_2] 30 (0, 0)) (kk BK327.out)) : gb328 ≠ gb327)); clear BK327; clear HB; have BK327 := n0_; have HB := n1_; have BK328 := n2_; have GW328 := n3_; have GE328 := n4_; have NB327_328 := n5_; have NB328_327 := n6_; clear n0_ n1_ n2_ n3_ n4_ n5_ n6_; clear hb hbox hg) | ((with_reducible refine gate_callee (f := 10) rfl ?_); refine goesL_ (some 19) rfl rfl Try.func10 (by kernel_rfl) rfl #[] rfl (by (try simp only [List.map_toArray, List.map_cons, List.map_nil]); first | done | rfl | (simp only [List.length_drop, List.length_take]; rfl)) ?_; (with_reducible refine (hallmootlaw13_sanity.calls  t329 _ A6.out).mono ?_); rintro e w62 ⟨rfl, hb⟩; refine ⟨_, rfl, ?_⟩; have n0_ := aS (blk_below (g := gb327) (o := .cells #[.int .i64 a2_0, .int .i64 a2_1, .int .i64 a2_2] 30 (0, 0)) (kk BK327.out) hb); have n1_ := aS (blk_below (g := gb328) (o := .cells #[.int .i64 a3_0, .int .i64 a3_1] 33 (0, 0)) (kk BK328.out) hb); have n2_ := aS (below_step bb hb); clear BK327; clear BK328; clear HB; have BK327 := n0_; have BK328 := n1_; have HB := n2_; clear n0_ n1_ n2_; (try clear hb); (try clear hb2); (try clear hk); (try clear hi)) | ((with_reducible refine gate_callee (f := 11) rfl ?_); refine goesL_ (some 21) rfl rfl Try.func11 (by kernel_rfl) rfl #[.slice A0 l0.length c0] rfl (by (try simp only [List.map_toArray, List.map_cons, List.map_nil]); first | done | rfl | (simp only [List.length_drop, List.length_take]; rfl)) ?_; (with_reducible refine (hallmootlaw13_few.calls k _ _ l0 false _ ?side1 ?side2 A7.out).mono ?_); (case side1 => repeat (first | exact (Kd.C_below HR0.out HB.out) | (with_reducible refine Kd.C_alloc ?_ _) | (with_reducible refine Kd.C_drewN ?_ _) | (with_reducible refine Kd.C_drew ?_))); (case side2 => exact HC0.out); rintro e w' ⟨rfl, ⟨nd, rfl⟩⟩; refine ⟨_, rfl, ?_⟩))
 go_ret
 exact ⟨by first | rfl | (simp [errW_none, errW_some] <;> rfl) | (simp [*, errW_none, errW_some] <;> rfl), by repeat (first | (with_reducible first | exact HB.out | apply below_alloc | apply pw_below_drewN | apply below_drew1 | refine below_set ?_ GE327.out | refine below_set ?_ GE328.out) | exact HB.out)⟩ }

end Go.Proofs.Ytfojpobblebigaa.P
