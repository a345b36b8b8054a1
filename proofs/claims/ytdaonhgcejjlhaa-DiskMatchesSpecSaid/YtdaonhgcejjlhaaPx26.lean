-- Written by pp.py (this session's program over the kit's printer): functions, contracts. Not trusted: Lean checks it.
import Derived.Test.YtdaonhgcejjlhaaYM0
import Derived.Test.YtdaonhgcejjlhaaPx14
import Derived.Test.YtdaonhgcejjlhaaYM1
import Derived.Test.YtdaonhgcejjlhaaYM2
import Derived.Test.YtdaonhgcejjlhaaYM4
namespace Go.Proofs.Ytdaonhgcejjlhaa.P
open Go.RowKit Go.Proofs.YtdaonhgcejjlhaaW.PrintWords Go.Proofs.YtdaonhgcejjlhaaW.PrintLast Go.Proofs.YtdaonhgcejjlhaaW.PrintMore
attribute [local go_sem] max2_int min2_int max_two min_two max_three min_three max_four min_four   -- for this text's walks alone
set_option linter.unusedVariables false
set_option linter.unusedSimpArgs false

/-! ### hallmootlaw22_DiskMatchesSpec: function 3 -/
mutual
def hallmootlaw22_DiskMatchesSpec.j0 : Nat → Int → ByteArray → List Int → Bool → Bool → List ByteArray → List (S46) → List ByteArray → List (S46) → Option (Bool)
  | 0, _, _, _, _, _, _, _, _, _ => none
  | k + 1, x5, x6, x7, x8, x50, x285000, x285001, x286000, x286001 => if x50 = true then (some x8) else ((disk_New.f x5).bind fun bt289 => ((hallmootref22_New.f k x5).bind fun bt297 => ((hallmootref22_Right.f k x285000 x285001).bind fun t305 => ((dRight.f x285000 x285001).bind fun t306 => (if (t306 != t305) = true then (hallmootlaw22_DiskMatchesSpec.j1 k x5 x6 x7 x8 t305 true x285000 x285001) else ((disk_Same.f k x285000 x285001 x286000 x286001).bind fun t307 => ((hallmootref22_Same.f k x285000 x285001 x286000 x286001).bind fun t308 => (if (t307 != t308) = true then (hallmootlaw22_DiskMatchesSpec.j1 k x5 x6 x7 x8 t305 true x285000 x285001) else ((hallmootref22_Same.f k bt289.1 bt289.2.1 bt297.1 bt297.2.1).bind fun t309 => (if t309 = true then (hallmootlaw22_DiskMatchesSpec.j1 k x5 x6 x7 x8 t305 (bt289.2.2 != bt297.2.2) x285000 x285001) else (hallmootlaw22_DiskMatchesSpec.j1 k x5 x6 x7 x8 t305 true x285000 x285001)))))))))))
def hallmootlaw22_DiskMatchesSpec.j1 : Nat → Int → ByteArray → List Int → Bool → Bool → Bool → List ByteArray → List (S46) → Option (Bool)
  | 0, _, _, _, _, _, _, _, _ => none
  | k + 1, x5, x6, x7, x8, x13, x87, x285000, x285001 => if x87 = true then (none) else (if x13 = true then ((disk_Read.f x285000 x285001 x5).bind fun bt310 => ((hallmootref22_Read.f x285000 x285001 x5).bind fun bt312 => ((dWrite.f x285000 x285001 x5 x6).bind fun bt314 => ((rWrite.f x285000 x285001 x5 x6).bind fun bt322 => (if x8 = true then (if bt310.1.toList = bt312.1.toList then (if bt310.2 = bt312.2 then ((hallmootref22_Same.f k bt314.1 bt314.2.1 bt322.1 bt322.2.1).bind fun t330 => (if t330 = true then (if bt314.2.2 = bt322.2.2 then ((disk_Sync.f x285000 x285001).bind fun bt331 => ((hallmootref22_Sync.f x285000 x285001).bind fun bt337 => ((hallmootref22_Same.f k bt331.1 bt331.2 bt337.1 bt337.2).bind fun t343 => (if t343 = true then ((dCrash.f x285000 x285001 x7).bind fun bt344 => ((rCrash.f x285000 x285001 x7).bind fun bt350 => ((hallmootref22_Same.f k bt344.1 bt344.2 bt350.1 bt350.2).bind fun t356 => (some t356)))) else (none))))) else (none)) else (none))) else (none)) else (none)) else (none)))))) else (some x8))
end
def hallmootlaw22_DiskMatchesSpec.f (k : Nat) (l0_0 : List ByteArray) (l0_1 : List (S46)) (l0_2 : List ByteArray) (l0_3 : List (S46)) (a0_4 : Int) (a0_5 : ByteArray) (l0_6 : List Int) : Option (Bool) := (hallmootlaw22_sanity.f k).bind fun t286 => ((hallmootref22_Few.f k l0_0 l0_1).bind fun t287 => (if t287 = true then ((hallmootref22_Few.f k l0_2 l0_3).bind fun t288 => (if t288 = true then (if (a0_5.size : Int) > 60 then (hallmootlaw22_DiskMatchesSpec.j0 k a0_4 a0_5 l0_6 t286 true l0_0 l0_1 l0_2 l0_3) else (hallmootlaw22_DiskMatchesSpec.j0 k a0_4 a0_5 l0_6 t286 (decide ((l0_6.length : Int) > 80)) l0_0 l0_1 l0_2 l0_3)) else (hallmootlaw22_DiskMatchesSpec.j0 k a0_4 a0_5 l0_6 t286 true l0_0 l0_1 l0_2 l0_3))) else (hallmootlaw22_DiskMatchesSpec.j0 k a0_4 a0_5 l0_6 t286 true l0_0 l0_1 l0_2 l0_3)))
theorem hallmootlaw22_DiskMatchesSpec.mono_l : ∀ k, (∀ y0 y1 y2 y3 y4 y5 y6 y7 y8, LeO (hallmootlaw22_DiskMatchesSpec.j0 k y0 y1 y2 y3 y4 y5 y6 y7 y8) (hallmootlaw22_DiskMatchesSpec.j0 (k + 1) y0 y1 y2 y3 y4 y5 y6 y7 y8)) ∧ (∀ y0 y1 y2 y3 y4 y5 y6 y7, LeO (hallmootlaw22_DiskMatchesSpec.j1 k y0 y1 y2 y3 y4 y5 y6 y7) (hallmootlaw22_DiskMatchesSpec.j1 (k + 1) y0 y1 y2 y3 y4 y5 y6 y7))
  | 0 => ⟨fun _ _ _ _ _ _ _ _ _ r h => by simp [hallmootlaw22_DiskMatchesSpec.j0] at h, fun _ _ _ _ _ _ _ _ r h => by simp [hallmootlaw22_DiskMatchesSpec.j1] at h⟩
  | k + 1 => by
    obtain ⟨ih0, ih1⟩ := hallmootlaw22_DiskMatchesSpec.mono_l k
    refine ⟨?_, ?_⟩
    · intro y0 y1 y2 y3 y4 y5 y6 y7 y8
      unfold hallmootlaw22_DiskMatchesSpec.j0
      repeat' first
      | (with_reducible exact ih0 _ _ _ _ _ _ _ _ _)
      | (with_reducible exact ih1 _ _ _ _ _ _ _ _)
      | (with_reducible exact disk_Same.mono _ _ _ _ _)
      | (with_reducible exact hallmootlaw22_sanity.mono _)
      | (with_reducible exact hallmootref22_Few.mono _ _ _)
      | (with_reducible exact hallmootref22_New.mono _ _)
      | (with_reducible exact hallmootref22_Right.mono _ _ _)
      | (with_reducible exact hallmootref22_Same.mono _ _ _ _ _)
      | (with_reducible exact LeO.refl _)
      | (with_reducible exact LeO.none _)
      | (with_reducible refine LeO.ite ?_ ?_)
      | (with_reducible refine LeO.bind ?_ (fun _ => ?_))
      | exact ih0 _ _ _ _ _ _ _ _ _
      | exact ih1 _ _ _ _ _ _ _ _
      | exact disk_Same.mono _ _ _ _ _
      | exact hallmootlaw22_sanity.mono _
      | exact hallmootref22_Few.mono _ _ _
      | exact hallmootref22_New.mono _ _
      | exact hallmootref22_Right.mono _ _ _
      | exact hallmootref22_Same.mono _ _ _ _ _
      | exact LeO.none _
      | refine LeO.ite ?_ ?_
      | refine LeO.bind ?_ (fun _ => ?_)
    · intro y0 y1 y2 y3 y4 y5 y6 y7
      unfold hallmootlaw22_DiskMatchesSpec.j1
      repeat' first
      | (with_reducible exact ih0 _ _ _ _ _ _ _ _ _)
      | (with_reducible exact ih1 _ _ _ _ _ _ _ _)
      | (with_reducible exact disk_Same.mono _ _ _ _ _)
      | (with_reducible exact hallmootlaw22_sanity.mono _)
      | (with_reducible exact hallmootref22_Few.mono _ _ _)
      | (with_reducible exact hallmootref22_New.mono _ _)
      | (with_reducible exact hallmootref22_Right.mono _ _ _)
      | (with_reducible exact hallmootref22_Same.mono _ _ _ _ _)
      | (with_reducible exact LeO.refl _)
      | (with_reducible exact LeO.none _)
      | (with_reducible refine LeO.ite ?_ ?_)
      | (with_reducible refine LeO.bind ?_ (fun _ => ?_))
      | exact ih0 _ _ _ _ _ _ _ _ _
      | exact ih1 _ _ _ _ _ _ _ _
      | exact disk_Same.mono _ _ _ _ _
      | exact hallmootlaw22_sanity.mono _
      | exact hallmootref22_Few.mono _ _ _
      | exact hallmootref22_New.mono _ _
      | exact hallmootref22_Right.mono _ _ _
      | exact hallmootref22_Same.mono _ _ _ _ _
      | exact LeO.none _
      | refine LeO.ite ?_ ?_
      | refine LeO.bind ?_ (fun _ => ?_)
theorem hallmootlaw22_DiskMatchesSpec.mono : ∀ a0 a1 a2 a3 a4 a5 a6 k, LeO (hallmootlaw22_DiskMatchesSpec.f k a0 a1 a2 a3 a4 a5 a6) (hallmootlaw22_DiskMatchesSpec.f (k + 1) a0 a1 a2 a3 a4 a5 a6) := by
 intro a0 a1 a2 a3 a4 a5 a6 k
 obtain ⟨ih0, ih1⟩ := hallmootlaw22_DiskMatchesSpec.mono_l k
 unfold hallmootlaw22_DiskMatchesSpec.f
 repeat' first | (with_reducible exact ih0 _ _ _ _ _ _ _ _ _) | (with_reducible exact ih1 _ _ _ _ _ _ _ _) | (with_reducible exact disk_Same.mono _ _ _ _ _) | (with_reducible exact hallmootlaw22_sanity.mono _) | (with_reducible exact hallmootref22_Few.mono _ _ _) | (with_reducible exact hallmootref22_New.mono _ _) | (with_reducible exact hallmootref22_Right.mono _ _ _) | (with_reducible exact hallmootref22_Same.mono _ _ _ _ _) | (with_reducible exact LeO.refl _) | (with_reducible exact LeO.none _) | (with_reducible refine LeO.ite ?_ ?_) | (with_reducible refine LeO.bind ?_ (fun _ => ?_)) | exact ih0 _ _ _ _ _ _ _ _ _ | exact ih1 _ _ _ _ _ _ _ _ | exact disk_Same.mono _ _ _ _ _ | exact hallmootlaw22_sanity.mono _ | exact hallmootref22_Few.mono _ _ _ | exact hallmootref22_New.mono _ _ | exact hallmootref22_Right.mono _ _ _ | exact hallmootref22_Same.mono _ _ _ _ _ | exact LeO.none _ | refine LeO.ite ?_ ?_ | refine LeO.bind ?_ (fun _ => ?_)
def hallmootlaw22_DiskMatchesSpec.T12 : Bool × List (List Nat × List Nat) := (true, [([], []), ([0], [0]), ([], []), ([1, 2], [1, 2]), ([3, 1], [3]), ([4], [4]), ([4], [4]), ([5, 6, 4, 4], [4, 5, 6]), ([4], [4]), ([4], [4]), ([8, 9, 7, 4], [4, 8, 9]), ([7, 10, 4], [4, 7, 10]), ([4, 11], [4, 11]), ([12, 10], [12]), ([13], [13]), ([13], [13]), ([14, 15, 13, 13], [13, 14, 15]), ([16, 13], [13, 16]), ([13, 17], [13, 17]), ([18, 16], [18]), ([19], [19]), ([19], [19]), ([20, 21, 19], [19, 20, 21]), ([19, 22], [19, 22])])
def hallmootlaw22_DiskMatchesSpec.B12 : List Nat := [0, 1, 0, 7, 15, 31, 31, 127, 31, 31, 1023, 2047, 4095, 8191, 16383, 16383, 65535, 131071, 262143, 524287, 1048575, 1048575, 4194303, 8388607]
theorem hallmootlaw22_DiskMatchesSpec.tab12 : rtab .any (opsOf Try.f3 12) = hallmootlaw22_DiskMatchesSpec.T12 := by kernel_rfl
theorem hallmootlaw22_DiskMatchesSpec.bits12 : waitsOk hallmootlaw22_DiskMatchesSpec.T12.2 hallmootlaw22_DiskMatchesSpec.B12 = true := by kernel_rfl
def hallmootlaw22_DiskMatchesSpec.T20 : Bool × List (List Nat × List Nat) := (true, [([], []), ([0], [0]), ([1], [1]), ([1], [1]), ([2, 3, 1], [1, 2, 3]), ([1, 4], [1, 4]), ([5, 1], [5]), ([6], [6]), ([6], [6]), ([7, 8, 6], [6, 7, 8]), ([6, 9], [6, 9]), ([10, 6], [10]), ([11], [11]), ([11], [11]), ([12, 13, 11, 11], [11, 12, 13]), ([11, 14], [11, 14]), ([15, 14], [15]), ([16], [16]), ([16], [16]), ([17, 18, 16], [16, 17, 18]), ([16, 19], [16, 19]), ([20, 16], [20]), ([21], [21]), ([22, 21, 21], [21, 22]), ([21], [21]), ([24, 23, 21], [21, 24]), ([23, 25, 25, 21], [21, 23, 25]), ([21, 26], [21, 26]), ([27, 26], [27]), ([28], [28]), ([28], [28]), ([29, 30, 28, 28], [28, 29, 30]), ([28], [28]), ([28], [28]), ([32, 33, 31, 28], [28, 32, 33]), ([31, 34, 34, 28], [28, 31, 34]), ([28, 35], [28, 35]), ([36, 35, 0, 1, 2, 3, 4, 5, 6, 7, 8, 9, 10, 11, 12, 13, 14, 15, 16, 17, 18, 19, 20, 21, 22, 23, 24, 25, 26, 27, 28, 29, 30, 31, 32, 33, 34, 35, 36], [36])])
def hallmootlaw22_DiskMatchesSpec.B20 : List Nat := [0, 1, 3, 3, 15, 31, 63, 127, 127, 511, 1023, 2047, 4095, 4095, 16383, 32767, 65535, 131071, 131071, 524287, 1048575, 2097151, 4194303, 8388607, 4194303, 33554431, 67108863, 134217727, 268435455, 536870911, 536870911, 2147483647, 536870911, 536870911, 17179869183, 34359738367, 68719476735, 137438953471]
theorem hallmootlaw22_DiskMatchesSpec.tab20 : rtab .any (opsOf Try.f3 20) = hallmootlaw22_DiskMatchesSpec.T20 := by kernel_rfl
theorem hallmootlaw22_DiskMatchesSpec.bits20 : waitsOk hallmootlaw22_DiskMatchesSpec.T20.2 hallmootlaw22_DiskMatchesSpec.B20 = true := by kernel_rfl
set_option maxHeartbeats 8000000 in
set_option maxRecDepth 100000 in
theorem hallmootlaw22_DiskMatchesSpec.calls (k : Nat) (A0_0 : Option Addr) (c0_0 : Nat) (l0_0 : List ByteArray) (A0_1 : Option Addr) (c0_1 : Nat) (l0_1 : List (S46)) (A0_2 : Option Addr) (c0_2 : Nat) (l0_2 : List ByteArray) (A0_3 : Option Addr) (c0_3 : Nat) (l0_3 : List (S46)) (a0_4 : Int) (a0_5 : ByteArray) (A0_6 : Option Addr) (c0_6 : Nat) (l0_6 : List Int) (r : Bool) (w : World) (hr0_0 : Kd.C Kd.string w A0_0 l0_0.length l0_0) (hc0_0 : l0_0.length ≤ c0_0) (hr0_1 : Kd.C k46 w A0_1 l0_1.length l0_1) (hc0_1 : l0_1.length ≤ c0_1) (hr0_2 : Kd.C Kd.string w A0_2 l0_2.length l0_2) (hc0_2 : l0_2.length ≤ c0_2) (hr0_3 : Kd.C k46 w A0_3 l0_3.length l0_3) (hc0_3 : l0_3.length ≤ c0_3) (hr0_6 : Kd.C (Kd.int .i64) w A0_6 l0_6.length l0_6) (hc0_6 : l0_6.length ≤ c0_6) (h : hallmootlaw22_DiskMatchesSpec.f k l0_0 l0_1 l0_2 l0_3 a0_4 a0_5 l0_6 = some r) : Calls Try.prog 3 #[.agg #[.slice A0_0 l0_0.length c0_0, .slice A0_1 l0_1.length c0_1, .slice A0_2 l0_2.length c0_2, .slice A0_3 l0_3.length c0_3, .int .i64 a0_4, .string a0_5, .slice A0_6 l0_6.length c0_6]] w fun e w' => e = .returned (.bool r) ∧ Below w.heap.size w w' := by
 have hu28 := Try.underlying28
 have hu25 := Try.underlying25
 have HR0_0 := aS hr0_0
 have HC0_0 := aS hc0_0
 clear hr0_0 hc0_0
 have HR0_1 := aS hr0_1
 have HC0_1 := aS hc0_1
 clear hr0_1 hc0_1
 have HR0_2 := aS hr0_2
 have HC0_2 := aS hc0_2
 clear hr0_2 hc0_2
 have HR0_3 := aS hr0_3
 have HC0_3 := aS hc0_3
 clear hr0_3 hc0_3
 have HR0_6 := aS hr0_6
 have HC0_6 := aS hc0_6
 clear hr0_6 hc0_6
 have HB := aS (Below.refl w.heap.size w)
 have H : ((hallmootlaw22_sanity.f k).bind fun t286 => ((hallmootref22_Few.f k l0_0 l0_1).bind fun t287 => (if t287 = true then ((hallmootref22_Few.f k l0_2 l0_3).bind fun t288 => (if t288 = true then (if (a0_5.size : Int) > 60 then (hallmootlaw22_DiskMatchesSpec.j0 k a0_4 a0_5 l0_6 t286 true l0_0 l0_1 l0_2 l0_3) else (hallmootlaw22_DiskMatchesSpec.j0 k a0_4 a0_5 l0_6 t286 (decide ((l0_6.length : Int) > 80)) l0_0 l0_1 l0_2 l0_3)) else (hallmootlaw22_DiskMatchesSpec.j0 k a0_4 a0_5 l0_6 t286 true l0_0 l0_1 l0_2 l0_3))) else (hallmootlaw22_DiskMatchesSpec.j0 k a0_4 a0_5 l0_6 t286 true l0_0 l0_1 l0_2 l0_3)))) = some r := h
 clear h
 replace H := Option.bind_eq_some_iff.mp H
 obtain ⟨t286, A20, H⟩ := H
 replace H : ((hallmootref22_Few.f k l0_0 l0_1).bind fun t287 => (if t287 = true then ((hallmootref22_Few.f k l0_2 l0_3).bind fun t288 => (if t288 = true then (if (a0_5.size : Int) > 60 then (hallmootlaw22_DiskMatchesSpec.j0 k a0_4 a0_5 l0_6 t286 true l0_0 l0_1 l0_2 l0_3) else (hallmootlaw22_DiskMatchesSpec.j0 k a0_4 a0_5 l0_6 t286 (decide ((l0_6.length : Int) > 80)) l0_0 l0_1 l0_2 l0_3)) else (hallmootlaw22_DiskMatchesSpec.j0 k a0_4 a0_5 l0_6 t286 true l0_0 l0_1 l0_2 l0_3))) else (hallmootlaw22_DiskMatchesSpec.j0 k a0_4 a0_5 l0_6 t286 true l0_0 l0_1 l0_2 l0_3))) = some r := H
 have A2 := aS A20
 clear A20
 have HC3 := aS H
 clear H
 go_enter Try.func3, Try.ntmps3
 go_upto_region 7 with (first | ((with_reducible refine gate_dst (N := 1) rfl ?_); (try (refine gate_guard (by rfl) ?_; dsimp only)); refine box_event ?hg (N := 1) ?hd (cs := #[.slice A0_0 l0_0.length c0_0, .slice A0_1 l0_1.length c0_1, .slice A0_2 l0_2.length c0_2, .slice A0_3 l0_3.length c0_3, .int .i64 a0_4, .string a0_5, .slice A0_6 l0_6.length c0_6]) (t := 28) ?hr ?_; (case hd => rfl); (case hg => rfl); (case hr => first | (go_simp; done) | (go_simp; rfl)); intro gb283 hg w4 hbox hb; have n0_ := aS (below_step bb hb); have n1_ := aS (hbox); have n2_ := aS ((by rw [hg]; exact bz : w.heap.size ≤ gb283)); have n3_ := aS ((by rw [hg]; exact bz : w.heap.size ≤ gb283)); clear HB; have HB := n0_; have BK283 := n1_; have GW283 := n2_; have GE283 := n3_; clear n0_ n1_ n2_ n3_; clear hb hbox hg; have hcz5_0 : w4.cell? ⟨gb283, 0, none⟩ = some (.slice A0_0 l0_0.length c0_0) := (blk_cell BK283.out 0).trans rfl; have hcz5_1 : w4.cell? ⟨gb283, 1, none⟩ = some (.slice A0_1 l0_1.length c0_1) := (blk_cell BK283.out 1).trans rfl; have hcz5_2 : w4.cell? ⟨gb283, 2, none⟩ = some (.slice A0_2 l0_2.length c0_2) := (blk_cell BK283.out 2).trans rfl; have hcz5_3 : w4.cell? ⟨gb283, 3, none⟩ = some (.slice A0_3 l0_3.length c0_3) := (blk_cell BK283.out 3).trans rfl; have hcz5_4 : w4.cell? ⟨gb283, 4, none⟩ = some (.int .i64 a0_4) := (blk_cell BK283.out 4).trans rfl; have hcz5_5 : w4.cell? ⟨gb283, 5, none⟩ = some (.string a0_5) := (blk_cell BK283.out 5).trans rfl; have hcz5_6 : w4.cell? ⟨gb283, 6, none⟩ = some (.slice A0_6 l0_6.length c0_6) := (blk_cell BK283.out 6).trans rfl; have hfz5_0 := blk_frozen BK283.out 0; have hfz5_1 := blk_frozen BK283.out 1; have hfz5_2 := blk_frozen BK283.out 2; have hfz5_3 := blk_frozen BK283.out 3; have hfz5_4 := blk_frozen BK283.out 4; have hfz5_5 := blk_frozen BK283.out 5; have hfz5_6 := blk_frozen BK283.out 6) | ((with_reducible refine gate_dst (N := 3) rfl ?_); (try (refine gate_guard (by rfl) ?_; dsimp only)); refine box_event ?hg (N := 3) ?hd (cs := #[.slice none 0 0, .slice none 0 0]) (t := 25) ?hr ?_; (case hd => rfl); (case hg => rfl); (case hr => first | (go_simp; done) | (go_simp; rfl)); intro gb284 hg w6 hbox hb; have n0_ := aS (kb BK283.out hb); have n1_ := aS (below_step bb hb); have n2_ := aS (hbox); have n3_ := aS ((by rw [hg]; exact bz : w.heap.size ≤ gb284)); have n4_ := aS ((by rw [hg]; exact bz : w.heap.size ≤ gb284)); have n5_ := aS ((by rw [hg]; exact Nat.ne_of_lt (blk_lt (g := gb283) (o := .cells #[.slice A0_0 l0_0.length c0_0, .slice A0_1 l0_1.length c0_1, .slice A0_2 l0_2.length c0_2, .slice A0_3 l0_3.length c0_3, .int .i64 a0_4, .string a0_5, .slice A0_6 l0_6.length c0_6] 28 (0, 0)) (kk BK283.out)) : gb283 ≠ gb284)); have n6_ := aS ((by rw [hg]; exact Nat.ne_of_gt (blk_lt (g := gb283) (o := .cells #[.slice A0_0 l0_0.length c0_0, .slice A0_1 l0_1.length c0_1, .slice A0_2 l0_2.length c0_2, .slice A0_3 l0_3.length c0_3, .int .i64 a0_4, .string a0_5, .slice A0_6 l0_6.length c0_6] 28 (0, 0)) (kk BK283.out)) : gb284 ≠ gb283)); clear BK283; clear HB; have BK283 := n0_; have HB := n1_; have BK284 := n2_; have GW284 := n3_; have GE284 := n4_; have NB283_284 := n5_; have NB284_283 := n6_; clear n0_ n1_ n2_ n3_ n4_ n5_ n6_; clear hb hbox hg; have hnb7 := NB284_283.out; have hnc7 := NB283_284.out; have hcz8_0 : w6.cell? ⟨gb284, 0, none⟩ = some (.slice none 0 0) := (blk_cell BK284.out 0).trans rfl; have hcz8_1 : w6.cell? ⟨gb284, 1, none⟩ = some (.slice none 0 0) := (blk_cell BK284.out 1).trans rfl; have hfz8_0 := blk_frozen BK284.out 0; have hfz8_1 := blk_frozen BK284.out 1; have hcz9_0 : w6.cell? ⟨gb283, 0, none⟩ = some (.slice A0_0 l0_0.length c0_0) := (blk_cell BK283.out 0).trans rfl; have hcz9_1 : w6.cell? ⟨gb283, 1, none⟩ = some (.slice A0_1 l0_1.length c0_1) := (blk_cell BK283.out 1).trans rfl; have hcz9_2 : w6.cell? ⟨gb283, 2, none⟩ = some (.slice A0_2 l0_2.length c0_2) := (blk_cell BK283.out 2).trans rfl; have hcz9_3 : w6.cell? ⟨gb283, 3, none⟩ = some (.slice A0_3 l0_3.length c0_3) := (blk_cell BK283.out 3).trans rfl; have hcz9_4 : w6.cell? ⟨gb283, 4, none⟩ = some (.int .i64 a0_4) := (blk_cell BK283.out 4).trans rfl; have hcz9_5 : w6.cell? ⟨gb283, 5, none⟩ = some (.string a0_5) := (blk_cell BK283.out 5).trans rfl; have hcz9_6 : w6.cell? ⟨gb283, 6, none⟩ = some (.slice A0_6 l0_6.length c0_6) := (blk_cell BK283.out 6).trans rfl; have hfz9_0 := blk_frozen BK283.out 0; have hfz9_1 := blk_frozen BK283.out 1; have hfz9_2 := blk_frozen BK283.out 2; have hfz9_3 := blk_frozen BK283.out 3; have hfz9_4 := blk_frozen BK283.out 4; have hfz9_5 := blk_frozen BK283.out 5; have hfz9_6 := blk_frozen BK283.out 6) | ((with_reducible refine gate_dst (N := 4) rfl ?_); (try (refine gate_guard (by rfl) ?_; dsimp only)); refine box_event ?hg (N := 4) ?hd (cs := #[.slice none 0 0, .slice none 0 0]) (t := 25) ?hr ?_; (case hd => rfl); (case hg => rfl); (case hr => first | (go_simp; done) | (go_simp; rfl)); intro gb285 hg w10 hbox hb; have n0_ := aS (blk_below (g := gb283) (o := .cells #[.slice A0_0 l0_0.length c0_0, .slice A0_1 l0_1.length c0_1, .slice A0_2 l0_2.length c0_2, .slice A0_3 l0_3.length c0_3, .int .i64 a0_4, .string a0_5, .slice A0_6 l0_6.length c0_6] 28 (0, 0)) (by (with_reducible repeat (first | refine blk_drewN ?_ _ | refine blk_drew ?_ | refine blk_alloc ?_ _)); refine blk_far ?_ NB283_284.out _; (with_reducible repeat (first | refine blk_drewN ?_ _ | refine blk_drew ?_ | refine blk_alloc ?_ _)); refine blk_far ?_ NB283_284.out _; (with_reducible repeat (first | refine blk_drewN ?_ _ | refine blk_drew ?_ | refine blk_alloc ?_ _)); exact BK283.out) hb); have n1_ := aS (blk_below (g := gb284) (o := .cells #[.slice A0_0 l0_0.length c0_0, .slice A0_1 l0_1.length c0_1] 25 (0, 0)) (by (with_reducible repeat (first | refine blk_drewN ?_ _ | refine blk_drew ?_ | refine blk_alloc ?_ _)); refine blk_put (cs := #[.slice A0_0 l0_0.length c0_0, .slice none 0 0]) ?_ 1 _ rfl; (with_reducible repeat (first | refine blk_drewN ?_ _ | refine blk_drew ?_ | refine blk_alloc ?_ _)); refine blk_put (cs := #[.slice none 0 0, .slice none 0 0]) ?_ 0 _ rfl; (with_reducible repeat (first | refine blk_drewN ?_ _ | refine blk_drew ?_ | refine blk_alloc ?_ _)); exact BK284.out) hb); have n2_ := aS (below_step bb hb); have n3_ := aS (hbox); have n4_ := aS ((by rw [hg]; exact bz : w.heap.size ≤ gb285)); have n5_ := aS ((by rw [hg]; exact bz : w.heap.size ≤ gb285)); have n6_ := aS ((by rw [hg]; exact Nat.ne_of_lt (blk_lt (g := gb283) (o := .cells #[.slice A0_0 l0_0.length c0_0, .slice A0_1 l0_1.length c0_1, .slice A0_2 l0_2.length c0_2, .slice A0_3 l0_3.length c0_3, .int .i64 a0_4, .string a0_5, .slice A0_6 l0_6.length c0_6] 28 (0, 0)) (by (with_reducible repeat (first | refine blk_drewN ?_ _ | refine blk_drew ?_ | refine blk_alloc ?_ _)); refine blk_far ?_ NB283_284.out _; (with_reducible repeat (first | refine blk_drewN ?_ _ | refine blk_drew ?_ | refine blk_alloc ?_ _)); refine blk_far ?_ NB283_284.out _; (with_reducible repeat (first | refine blk_drewN ?_ _ | refine blk_drew ?_ | refine blk_alloc ?_ _)); exact BK283.out)) : gb283 ≠ gb285)); have n7_ := aS ((by rw [hg]; exact Nat.ne_of_gt (blk_lt (g := gb283) (o := .cells #[.slice A0_0 l0_0.length c0_0, .slice A0_1 l0_1.length c0_1, .slice A0_2 l0_2.length c0_2, .slice A0_3 l0_3.length c0_3, .int .i64 a0_4, .string a0_5, .slice A0_6 l0_6.length c0_6] 28 (0, 0)) (by (with_reducible repeat (first | refine blk_drewN ?_ _ | refine blk_drew ?_ | refine blk_alloc ?_ _)); refine blk_far ?_ NB283_284.out _; (with_reducible repeat (first | refine blk_drewN ?_ _ | refine blk_drew ?_ | refine blk_alloc ?_ _)); refine blk_far ?_ NB283_284.out _; (with_reducible repeat (first | refine blk_drewN ?_ _ | refine blk_drew ?_ | refine blk_alloc ?_ _)); exact BK283.out)) : gb285 ≠ gb283)); have n8_ := aS ((by rw [hg]; exact Nat.ne_of_lt (blk_lt (g := gb284) (o := .cells #[.slice A0_0 l0_0.length c0_0, .slice A0_1 l0_1.length c0_1] 25 (0, 0)) (by (with_reducible repeat (first | refine blk_drewN ?_ _ | refine blk_drew ?_ | refine blk_alloc ?_ _)); refine blk_put (cs := #[.slice A0_0 l0_0.length c0_0, .slice none 0 0]) ?_ 1 _ rfl; (with_reducible repeat (first | refine blk_drewN ?_ _ | refine blk_drew ?_ | refine blk_alloc ?_ _)); refine blk_put (cs := #[.slice none 0 0, .slice none 0 0]) ?_ 0 _ rfl; (with_reducible repeat (first | refine blk_drewN ?_ _ | refine blk_drew ?_ | refine blk_alloc ?_ _)); exact BK284.out)) : gb284 ≠ gb285)); have n9_ := aS ((by rw [hg]; exact Nat.ne_of_gt (blk_lt (g := gb284) (o := .cells #[.slice A0_0 l0_0.length c0_0, .slice A0_1 l0_1.length c0_1] 25 (0, 0)) (by (with_reducible repeat (first | refine blk_drewN ?_ _ | refine blk_drew ?_ | refine blk_alloc ?_ _)); refine blk_put (cs := #[.slice A0_0 l0_0.length c0_0, .slice none 0 0]) ?_ 1 _ rfl; (with_reducible repeat (first | refine blk_drewN ?_ _ | refine blk_drew ?_ | refine blk_alloc ?_ _)); refine blk_put (cs := #[.slice none 0 0, .slice none 0 0]) ?_ 0 _ rfl; (with_reducible repeat (first | refine blk_drewN ?_ _ | refine blk_drew ?_ | refine blk_alloc ?_ _)); exact BK284.out)) : gb285 ≠ gb284)); clear BK283; clear BK284; clear HB; have BK283 := n0_; have BK284 := n1_; have HB := n2_; have BK285 := n3_; have GW285 := n4_; have GE285 := n5_; have NB283_285 := n6_; have NB285_283 := n7_; have NB284_285 := n8_; have NB285_284 := n9_; clear n0_ n1_ n2_ n3_ n4_ n5_ n6_ n7_ n8_ n9_; clear hb hbox hg; have hnb11 := NB285_283.out; have hnc11 := NB283_285.out; have hnb12 := NB285_284.out; have hnc12 := NB284_285.out; have hcz13_0 : w10.cell? ⟨gb285, 0, none⟩ = some (.slice none 0 0) := (blk_cell BK285.out 0).trans rfl; have hcz13_1 : w10.cell? ⟨gb285, 1, none⟩ = some (.slice none 0 0) := (blk_cell BK285.out 1).trans rfl; have hfz13_0 := blk_frozen BK285.out 0; have hfz13_1 := blk_frozen BK285.out 1; have hcz14_0 : w10.cell? ⟨gb283, 0, none⟩ = some (.slice A0_0 l0_0.length c0_0) := (blk_cell BK283.out 0).trans rfl; have hcz14_1 : w10.cell? ⟨gb283, 1, none⟩ = some (.slice A0_1 l0_1.length c0_1) := (blk_cell BK283.out 1).trans rfl; have hcz14_2 : w10.cell? ⟨gb283, 2, none⟩ = some (.slice A0_2 l0_2.length c0_2) := (blk_cell BK283.out 2).trans rfl; have hcz14_3 : w10.cell? ⟨gb283, 3, none⟩ = some (.slice A0_3 l0_3.length c0_3) := (blk_cell BK283.out 3).trans rfl; have hcz14_4 : w10.cell? ⟨gb283, 4, none⟩ = some (.int .i64 a0_4) := (blk_cell BK283.out 4).trans rfl; have hcz14_5 : w10.cell? ⟨gb283, 5, none⟩ = some (.string a0_5) := (blk_cell BK283.out 5).trans rfl; have hcz14_6 : w10.cell? ⟨gb283, 6, none⟩ = some (.slice A0_6 l0_6.length c0_6) := (blk_cell BK283.out 6).trans rfl; have hfz14_0 := blk_frozen BK283.out 0; have hfz14_1 := blk_frozen BK283.out 1; have hfz14_2 := blk_frozen BK283.out 2; have hfz14_3 := blk_frozen BK283.out 3; have hfz14_4 := blk_frozen BK283.out 4; have hfz14_5 := blk_frozen BK283.out 5; have hfz14_6 := blk_frozen BK283.out 6) | ((with_reducible refine gate_callee (f := 7) rfl ?_); refine goesL_ (some 32) rfl rfl Try.func7 (by kernel_rfl) rfl #[] rfl (by (try simp only [List.map_toArray, List.map_cons, List.map_nil]); first | done | rfl | (simp only [List.length_drop, List.length_take]; rfl)) ?_; (with_reducible refine (hallmootlaw22_sanity.calls k  t286 _ A2.out).mono ?_); rintro e w15 ⟨rfl, hb⟩; refine ⟨_, rfl, ?_⟩; have n0_ := aS (blk_below (g := gb283) (o := .cells #[.slice A0_0 l0_0.length c0_0, .slice A0_1 l0_1.length c0_1, .slice A0_2 l0_2.length c0_2, .slice A0_3 l0_3.length c0_3, .int .i64 a0_4, .string a0_5, .slice A0_6 l0_6.length c0_6] 28 (0, 0)) (by (with_reducible repeat (first | refine blk_drewN ?_ _ | refine blk_drew ?_ | refine blk_alloc ?_ _)); refine blk_far ?_ NB283_285.out _; (with_reducible repeat (first | refine blk_drewN ?_ _ | refine blk_drew ?_ | refine blk_alloc ?_ _)); refine blk_far ?_ NB283_285.out _; (with_reducible repeat (first | refine blk_drewN ?_ _ | refine blk_drew ?_ | refine blk_alloc ?_ _)); exact BK283.out) hb); have n1_ := aS (blk_below (g := gb284) (o := .cells #[.slice A0_0 l0_0.length c0_0, .slice A0_1 l0_1.length c0_1] 25 (0, 0)) (by (with_reducible repeat (first | refine blk_drewN ?_ _ | refine blk_drew ?_ | refine blk_alloc ?_ _)); refine blk_far ?_ NB284_285.out _; (with_reducible repeat (first | refine blk_drewN ?_ _ | refine blk_drew ?_ | refine blk_alloc ?_ _)); refine blk_far ?_ NB284_285.out _; (with_reducible repeat (first | refine blk_drewN ?_ _ | refine blk_drew ?_ | refine blk_alloc ?_ _)); exact BK284.out) hb); have n2_ := aS (blk_below (g := gb285) (o := .cells #[.slice A0_2 l0_2.length c0_2, .slice A0_3 l0_3.length c0_3] 25 (0, 0)) (by (with_reducible repeat (first | refine blk_drewN ?_ _ | refine blk_drew ?_ | refine blk_alloc ?_ _)); refine blk_put (cs := #[.slice A0_2 l0_2.length c0_2, .slice none 0 0]) ?_ 1 _ rfl; (with_reducible repeat (first | refine blk_drewN ?_ _ | refine blk_drew ?_ | refine blk_alloc ?_ _)); refine blk_put (cs := #[.slice none 0 0, .slice none 0 0]) ?_ 0 _ rfl; (with_reducible repeat (first | refine blk_drewN ?_ _ | refine blk_drew ?_ | refine blk_alloc ?_ _)); exact BK285.out) hb); have n3_ := aS (below_step bb hb); clear BK283; clear BK284; clear BK285; clear HB; have BK283 := n0_; have BK284 := n1_; have BK285 := n2_; have HB := n3_; clear n0_ n1_ n2_ n3_; (try clear hb); (try clear hb2); (try clear hk); (try clear hi)))
 (try simp only [Act.put, List.setIfInBounds_toArray, List.set_cons_zero, List.set_cons_succ])
 go_cut [50] (fun v50 wc => ∃ (kq : Nat) (x50_2 : Bool), v50 = .bool x50_2 ∧ Aside0 (hallmootlaw22_DiskMatchesSpec.j0 kq a0_4 a0_5 l0_6 t286 x50_2 l0_0 l0_1 l0_2 l0_3 = some r) ∧ Aside0 (kq ≤ k) ∧ Aside0 (wc.heap[gb283]? = some (.cells #[(.slice A0_0 l0_0.length c0_0), (.slice A0_1 l0_1.length c0_1), (.slice A0_2 l0_2.length c0_2), (.slice A0_3 l0_3.length c0_3), .int .i64 a0_4, .string a0_5, (.slice A0_6 l0_6.length c0_6)] 28 (0, 0))) ∧ Aside0 (wc.heap[gb284]? = some (.cells #[(.slice A0_0 l0_0.length c0_0), (.slice A0_1 l0_1.length c0_1)] 25 (0, 0))) ∧ Aside0 (wc.heap[gb285]? = some (.cells #[(.slice A0_2 l0_2.length c0_2), (.slice A0_3 l0_3.length c0_3)] 25 (0, 0))) ∧ Aside0 (Below w.heap.size w wc))
 case first =>
  have H := HC3.out
  clear HC3
  replace H := Option.bind_eq_some_iff.mp H
  obtain ⟨t287, A160, H⟩ := H
  replace H : (if t287 = true then ((hallmootref22_Few.f k l0_2 l0_3).bind fun t288 => (if t288 = true then (if (a0_5.size : Int) > 60 then (hallmootlaw22_DiskMatchesSpec.j0 k a0_4 a0_5 l0_6 t286 true l0_0 l0_1 l0_2 l0_3) else (hallmootlaw22_DiskMatchesSpec.j0 k a0_4 a0_5 l0_6 t286 (decide ((l0_6.length : Int) > 80)) l0_0 l0_1 l0_2 l0_3)) else (hallmootlaw22_DiskMatchesSpec.j0 k a0_4 a0_5 l0_6 t286 true l0_0 l0_1 l0_2 l0_3))) else (hallmootlaw22_DiskMatchesSpec.j0 k a0_4 a0_5 l0_6 t286 true l0_0 l0_1 l0_2 l0_3)) = some r := H
  have A16 := aS A160
  clear A160
  by_cases c17 : t287 = true
  {
  subst c17
  have H1 : ((hallmootref22_Few.f k l0_2 l0_3).bind fun t288 => (if t288 = true then (if (a0_5.size : Int) > 60 then (hallmootlaw22_DiskMatchesSpec.j0 k a0_4 a0_5 l0_6 t286 true l0_0 l0_1 l0_2 l0_3) else (hallmootlaw22_DiskMatchesSpec.j0 k a0_4 a0_5 l0_6 t286 (decide ((l0_6.length : Int) > 80)) l0_0 l0_1 l0_2 l0_3)) else (hallmootlaw22_DiskMatchesSpec.j0 k a0_4 a0_5 l0_6 t286 true l0_0 l0_1 l0_2 l0_3))) = some r := by rw [if_pos rfl] at H; exact H
  clear H
  have H := H1
  clear H1
  replace H := Option.bind_eq_some_iff.mp H
  obtain ⟨t288, A180, H⟩ := H
  replace H : (if t288 = true then (if (a0_5.size : Int) > 60 then (hallmootlaw22_DiskMatchesSpec.j0 k a0_4 a0_5 l0_6 t286 true l0_0 l0_1 l0_2 l0_3) else (hallmootlaw22_DiskMatchesSpec.j0 k a0_4 a0_5 l0_6 t286 (decide ((l0_6.length : Int) > 80)) l0_0 l0_1 l0_2 l0_3)) else (hallmootlaw22_DiskMatchesSpec.j0 k a0_4 a0_5 l0_6 t286 true l0_0 l0_1 l0_2 l0_3)) = some r := H
  have A18 := aS A180
  clear A180
  by_cases c19 : t288 = true
  {
  subst c19
  have H1 : (if (a0_5.size : Int) > 60 then (hallmootlaw22_DiskMatchesSpec.j0 k a0_4 a0_5 l0_6 t286 true l0_0 l0_1 l0_2 l0_3) else (hallmootlaw22_DiskMatchesSpec.j0 k a0_4 a0_5 l0_6 t286 (decide ((l0_6.length : Int) > 80)) l0_0 l0_1 l0_2 l0_3)) = some r := by rw [if_pos rfl] at H; exact H
  clear H
  have H := H1
  clear H1
  by_cases c20 : (a0_5.size : Int) > 60
  {
  rw [if_pos c20] at H
  have c20b0 : decide (60 < (a0_5.size : Int)) = true := decide_eq_true c20
  have c20b1 : decide (60 < a0_5.size) = true := decide_eq_true (by omega)
  clear c20
  (first | rw [c20b0] | (simp only [i64_w, i32_w]; rw [c20b0]) | skip)
  have H' := aS H
  clear H
  have hnb21 := NB284_283.out
  have hnc21 := NB283_284.out
  have hnb22 := NB284_285.out
  have hnc22 := NB285_284.out
  have hcz23_0 : w15.cell? ⟨gb284, 0, none⟩ = some (.slice A0_0 l0_0.length c0_0) := (blk_cell BK284.out 0).trans rfl
  have hcz23_1 : w15.cell? ⟨gb284, 1, none⟩ = some (.slice A0_1 l0_1.length c0_1) := (blk_cell BK284.out 1).trans rfl
  have hfz23_0 := blk_frozen BK284.out 0
  have hfz23_1 := blk_frozen BK284.out 1
  go_wp2_with (first | ((with_reducible refine gate_callee (f := 8) rfl ?_); refine goesL_ (some 34) rfl rfl Try.func8 (by kernel_rfl) rfl #[.agg #[.slice A0_0 l0_0.length c0_0, .slice A0_1 l0_1.length c0_1]] rfl (by (try simp only [List.map_toArray, List.map_cons, List.map_nil]); first | done | rfl | (simp only [List.length_drop, List.length_take]; rfl)) ?_; (with_reducible refine (hallmootref22_Few.calls k _ _ l0_0 _ _ l0_1 true _ ?side1 ?side2 ?side3 ?side4 A16.out).mono ?_); (case side1 => exact Kd.C_below HR0_0.out bb); (case side2 => exact HC0_0.out); (case side3 => exact Kd.C_below HR0_1.out bb); (case side4 => exact HC0_1.out); rintro e w24 ⟨rfl, hb⟩; refine ⟨_, rfl, ?_⟩; have n0_ := aS (kb BK283.out hb); have n1_ := aS (kb BK284.out hb); have n2_ := aS (kb BK285.out hb); have n3_ := aS (below_step bb hb); clear BK283; clear BK284; clear BK285; clear HB; have BK283 := n0_; have BK284 := n1_; have BK285 := n2_; have HB := n3_; clear n0_ n1_ n2_ n3_; (try clear hb); (try clear hb2); (try clear hk); (try clear hi); have hnb25 := NB285_283.out; have hnc25 := NB283_285.out; have hcz26_0 : w24.cell? ⟨gb285, 0, none⟩ = some (.slice A0_2 l0_2.length c0_2) := (blk_cell BK285.out 0).trans rfl; have hcz26_1 : w24.cell? ⟨gb285, 1, none⟩ = some (.slice A0_3 l0_3.length c0_3) := (blk_cell BK285.out 1).trans rfl; have hfz26_0 := blk_frozen BK285.out 0; have hfz26_1 := blk_frozen BK285.out 1) | (go_at_call 8; (with_reducible refine (hallmootref22_Few.calls k _ _ l0_2 _ _ l0_3 true _ ?side1 ?side2 ?side3 ?side4 A18.out).mono ?_); (case side1 => exact Kd.C_below HR0_2.out bb); (case side2 => exact HC0_2.out); (case side3 => exact Kd.C_below HR0_3.out bb); (case side4 => exact HC0_3.out); rintro e w27 ⟨rfl, hb⟩; have n0_ := aS (kb BK283.out hb); have n1_ := aS (kb BK284.out hb); have n2_ := aS (kb BK285.out hb); have n3_ := aS (below_step bb hb); clear BK283; clear BK284; clear BK285; clear HB; have BK283 := n0_; have BK284 := n1_; have BK285 := n2_; have HB := n3_; clear n0_ n1_ n2_ n3_; (try clear hb); (try clear hb2); (try clear hk); (try clear hi)))
  go_meet
  case rel => exact ⟨_, (true), (by first | rfl | (simp; done) | (simp [*]; done)), H', ⟨by first | omega | exact Nat.le_refl _⟩, ⟨kk BK283.out⟩, ⟨kk BK284.out⟩, ⟨kk BK285.out⟩, ⟨by repeat (first | (with_reducible first | exact HB.out | apply below_alloc | apply pw_below_drewN | apply below_drew1 | refine below_set ?_ GE283.out | refine below_set ?_ GE284.out | refine below_set ?_ GE285.out) | exact HB.out)⟩⟩ }
  {
  rw [if_neg c20] at H
  have c20b0 : decide (60 < (a0_5.size : Int)) = false := decide_eq_false c20
  have c20b1 : decide (60 < a0_5.size) = false := decide_eq_false (by omega)
  clear c20
  (first | rw [c20b0] | (simp only [i64_w, i32_w]; rw [c20b0]) | skip)
  have H' := aS H
  clear H
  have hnb28 := NB284_283.out
  have hnc28 := NB283_284.out
  have hnb29 := NB284_285.out
  have hnc29 := NB285_284.out
  have hcz30_0 : w15.cell? ⟨gb284, 0, none⟩ = some (.slice A0_0 l0_0.length c0_0) := (blk_cell BK284.out 0).trans rfl
  have hcz30_1 : w15.cell? ⟨gb284, 1, none⟩ = some (.slice A0_1 l0_1.length c0_1) := (blk_cell BK284.out 1).trans rfl
  have hfz30_0 := blk_frozen BK284.out 0
  have hfz30_1 := blk_frozen BK284.out 1
  go_wp2_with (first | ((with_reducible refine gate_callee (f := 8) rfl ?_); refine goesL_ (some 34) rfl rfl Try.func8 (by kernel_rfl) rfl #[.agg #[.slice A0_0 l0_0.length c0_0, .slice A0_1 l0_1.length c0_1]] rfl (by (try simp only [List.map_toArray, List.map_cons, List.map_nil]); first | done | rfl | (simp only [List.length_drop, List.length_take]; rfl)) ?_; (with_reducible refine (hallmootref22_Few.calls k _ _ l0_0 _ _ l0_1 true _ ?side1 ?side2 ?side3 ?side4 A16.out).mono ?_); (case side1 => exact Kd.C_below HR0_0.out bb); (case side2 => exact HC0_0.out); (case side3 => exact Kd.C_below HR0_1.out bb); (case side4 => exact HC0_1.out); rintro e w31 ⟨rfl, hb⟩; refine ⟨_, rfl, ?_⟩; have n0_ := aS (kb BK283.out hb); have n1_ := aS (kb BK284.out hb); have n2_ := aS (kb BK285.out hb); have n3_ := aS (below_step bb hb); clear BK283; clear BK284; clear BK285; clear HB; have BK283 := n0_; have BK284 := n1_; have BK285 := n2_; have HB := n3_; clear n0_ n1_ n2_ n3_; (try clear hb); (try clear hb2); (try clear hk); (try clear hi); have hnb32 := NB285_283.out; have hnc32 := NB283_285.out; have hcz33_0 : w31.cell? ⟨gb285, 0, none⟩ = some (.slice A0_2 l0_2.length c0_2) := (blk_cell BK285.out 0).trans rfl; have hcz33_1 : w31.cell? ⟨gb285, 1, none⟩ = some (.slice A0_3 l0_3.length c0_3) := (blk_cell BK285.out 1).trans rfl; have hfz33_0 := blk_frozen BK285.out 0; have hfz33_1 := blk_frozen BK285.out 1) | (go_at_call 8; (with_reducible refine (hallmootref22_Few.calls k _ _ l0_2 _ _ l0_3 true _ ?side1 ?side2 ?side3 ?side4 A18.out).mono ?_); (case side1 => exact Kd.C_below HR0_2.out bb); (case side2 => exact HC0_2.out); (case side3 => exact Kd.C_below HR0_3.out bb); (case side4 => exact HC0_3.out); rintro e w34 ⟨rfl, hb⟩; have n0_ := aS (kb BK283.out hb); have n1_ := aS (kb BK284.out hb); have n2_ := aS (kb BK285.out hb); have n3_ := aS (below_step bb hb); clear BK283; clear BK284; clear BK285; clear HB; have BK283 := n0_; have BK284 := n1_; have BK285 := n2_; have HB := n3_; clear n0_ n1_ n2_ n3_; (try clear hb); (try clear hb2); (try clear hk); (try clear hi)))
  go_meet
  case rel => exact ⟨_, (decide ((l0_6.length : Int) > 80)), (by first | rfl | (simp; done) | (simp [*]; done)), H', ⟨by first | omega | exact Nat.le_refl _⟩, ⟨kk BK283.out⟩, ⟨kk BK284.out⟩, ⟨kk BK285.out⟩, ⟨by repeat (first | (with_reducible first | exact HB.out | apply below_alloc | apply pw_below_drewN | apply below_drew1 | refine below_set ?_ GE283.out | refine below_set ?_ GE284.out | refine below_set ?_ GE285.out) | exact HB.out)⟩⟩ } }
  {
  replace c19 := Bool.eq_false_iff.mpr c19
  subst c19
  have H1 : (hallmootlaw22_DiskMatchesSpec.j0 k a0_4 a0_5 l0_6 t286 true l0_0 l0_1 l0_2 l0_3) = some r := by rw [if_neg (show ¬ (false = true) by decide)] at H; exact H
  clear H
  have H := H1
  clear H1
  have H' := aS H
  clear H
  have hnb35 := NB284_283.out
  have hnc35 := NB283_284.out
  have hnb36 := NB284_285.out
  have hnc36 := NB285_284.out
  have hcz37_0 : w15.cell? ⟨gb284, 0, none⟩ = some (.slice A0_0 l0_0.length c0_0) := (blk_cell BK284.out 0).trans rfl
  have hcz37_1 : w15.cell? ⟨gb284, 1, none⟩ = some (.slice A0_1 l0_1.length c0_1) := (blk_cell BK284.out 1).trans rfl
  have hfz37_0 := blk_frozen BK284.out 0
  have hfz37_1 := blk_frozen BK284.out 1
  go_wp2_with (first | ((with_reducible refine gate_callee (f := 8) rfl ?_); refine goesL_ (some 34) rfl rfl Try.func8 (by kernel_rfl) rfl #[.agg #[.slice A0_0 l0_0.length c0_0, .slice A0_1 l0_1.length c0_1]] rfl (by (try simp only [List.map_toArray, List.map_cons, List.map_nil]); first | done | rfl | (simp only [List.length_drop, List.length_take]; rfl)) ?_; (with_reducible refine (hallmootref22_Few.calls k _ _ l0_0 _ _ l0_1 true _ ?side1 ?side2 ?side3 ?side4 A16.out).mono ?_); (case side1 => exact Kd.C_below HR0_0.out bb); (case side2 => exact HC0_0.out); (case side3 => exact Kd.C_below HR0_1.out bb); (case side4 => exact HC0_1.out); rintro e w38 ⟨rfl, hb⟩; refine ⟨_, rfl, ?_⟩; have n0_ := aS (kb BK283.out hb); have n1_ := aS (kb BK284.out hb); have n2_ := aS (kb BK285.out hb); have n3_ := aS (below_step bb hb); clear BK283; clear BK284; clear BK285; clear HB; have BK283 := n0_; have BK284 := n1_; have BK285 := n2_; have HB := n3_; clear n0_ n1_ n2_ n3_; (try clear hb); (try clear hb2); (try clear hk); (try clear hi); have hnb39 := NB285_283.out; have hnc39 := NB283_285.out; have hcz40_0 : w38.cell? ⟨gb285, 0, none⟩ = some (.slice A0_2 l0_2.length c0_2) := (blk_cell BK285.out 0).trans rfl; have hcz40_1 : w38.cell? ⟨gb285, 1, none⟩ = some (.slice A0_3 l0_3.length c0_3) := (blk_cell BK285.out 1).trans rfl; have hfz40_0 := blk_frozen BK285.out 0; have hfz40_1 := blk_frozen BK285.out 1) | (go_at_call 8; (with_reducible refine (hallmootref22_Few.calls k _ _ l0_2 _ _ l0_3 false _ ?side1 ?side2 ?side3 ?side4 A18.out).mono ?_); (case side1 => exact Kd.C_below HR0_2.out bb); (case side2 => exact HC0_2.out); (case side3 => exact Kd.C_below HR0_3.out bb); (case side4 => exact HC0_3.out); rintro e w41 ⟨rfl, hb⟩; have n0_ := aS (kb BK283.out hb); have n1_ := aS (kb BK284.out hb); have n2_ := aS (kb BK285.out hb); have n3_ := aS (below_step bb hb); clear BK283; clear BK284; clear BK285; clear HB; have BK283 := n0_; have BK284 := n1_; have BK285 := n2_; have HB := n3_; clear n0_ n1_ n2_ n3_; (try clear hb); (try clear hb2); (try clear hk); (try clear hi)))
  go_meet
  case rel => exact ⟨_, (true), (by first | rfl | (simp; done) | (simp [*]; done)), H', ⟨by first | omega | exact Nat.le_refl _⟩, ⟨kk BK283.out⟩, ⟨kk BK284.out⟩, ⟨kk BK285.out⟩, ⟨by repeat (first | (with_reducible first | exact HB.out | apply below_alloc | apply pw_below_drewN | apply below_drew1 | refine below_set ?_ GE283.out | refine below_set ?_ GE284.out | refine below_set ?_ GE285.out) | exact HB.out)⟩⟩ } }
  {
  replace c17 := Bool.eq_false_iff.mpr c17
  subst c17
  have H1 : (hallmootlaw22_DiskMatchesSpec.j0 k a0_4 a0_5 l0_6 t286 true l0_0 l0_1 l0_2 l0_3) = some r := by rw [if_neg (show ¬ (false = true) by decide)] at H; exact H
  clear H
  have H := H1
  clear H1
  have H' := aS H
  clear H
  have hnb42 := NB284_283.out
  have hnc42 := NB283_284.out
  have hnb43 := NB284_285.out
  have hnc43 := NB285_284.out
  have hcz44_0 : w15.cell? ⟨gb284, 0, none⟩ = some (.slice A0_0 l0_0.length c0_0) := (blk_cell BK284.out 0).trans rfl
  have hcz44_1 : w15.cell? ⟨gb284, 1, none⟩ = some (.slice A0_1 l0_1.length c0_1) := (blk_cell BK284.out 1).trans rfl
  have hfz44_0 := blk_frozen BK284.out 0
  have hfz44_1 := blk_frozen BK284.out 1
  go_wp2_with (first | ((with_reducible refine gate_callee (f := 8) rfl ?_); refine goesL_ (some 34) rfl rfl Try.func8 (by kernel_rfl) rfl #[.agg #[.slice A0_0 l0_0.length c0_0, .slice A0_1 l0_1.length c0_1]] rfl (by (try simp only [List.map_toArray, List.map_cons, List.map_nil]); first | done | rfl | (simp only [List.length_drop, List.length_take]; rfl)) ?_; (with_reducible refine (hallmootref22_Few.calls k _ _ l0_0 _ _ l0_1 false _ ?side1 ?side2 ?side3 ?side4 A16.out).mono ?_); (case side1 => exact Kd.C_below HR0_0.out bb); (case side2 => exact HC0_0.out); (case side3 => exact Kd.C_below HR0_1.out bb); (case side4 => exact HC0_1.out); rintro e w45 ⟨rfl, hb⟩; refine ⟨_, rfl, ?_⟩; have n0_ := aS (kb BK283.out hb); have n1_ := aS (kb BK284.out hb); have n2_ := aS (kb BK285.out hb); have n3_ := aS (below_step bb hb); clear BK283; clear BK284; clear BK285; clear HB; have BK283 := n0_; have BK284 := n1_; have BK285 := n2_; have HB := n3_; clear n0_ n1_ n2_ n3_; (try clear hb); (try clear hb2); (try clear hk); (try clear hi)))
  go_meet
  case rel => exact ⟨_, (true), (by first | rfl | (simp; done) | (simp [*]; done)), H', ⟨by first | omega | exact Nat.le_refl _⟩, ⟨kk BK283.out⟩, ⟨kk BK284.out⟩, ⟨kk BK285.out⟩, ⟨by repeat (first | (with_reducible first | exact HB.out | apply below_alloc | apply pw_below_drewN | apply below_drew1 | refine below_set ?_ GE283.out | refine below_set ?_ GE284.out | refine below_set ?_ GE285.out) | exact HB.out)⟩⟩ }
 case rest =>
  clear HC3
  try clear c1
  try clear c2
  try clear p2
  try clear c3
  try clear c4
  try clear c7
  try clear c8
  try clear c11
  try clear c12
  try clear c17
  try clear c19
  try clear c20
  try clear c20b0
  try clear c20b1
  try clear c21
  try clear c22
  try clear c25
  try clear c28
  try clear c29
  try clear c32
  try clear c35
  try clear c36
  try clear c39
  try clear c42
  try clear c43
  try clear hcz13_0
  try clear hcz13_1
  try clear hcz14_0
  try clear hcz14_1
  try clear hcz14_2
  try clear hcz14_3
  try clear hcz14_4
  try clear hcz14_5
  try clear hcz14_6
  try clear hcz23_0
  try clear hcz23_1
  try clear hcz26_0
  try clear hcz26_1
  try clear hcz30_0
  try clear hcz30_1
  try clear hcz33_0
  try clear hcz33_1
  try clear hcz37_0
  try clear hcz37_1
  try clear hcz40_0
  try clear hcz40_1
  try clear hcz44_0
  try clear hcz44_1
  try clear hcz5_0
  try clear hcz5_1
  try clear hcz5_2
  try clear hcz5_3
  try clear hcz5_4
  try clear hcz5_5
  try clear hcz5_6
  try clear hcz8_0
  try clear hcz8_1
  try clear hcz9_0
  try clear hcz9_1
  try clear hcz9_2
  try clear hcz9_3
  try clear hcz9_4
  try clear hcz9_5
  try clear hcz9_6
  try clear hfz13_0
  try clear hfz13_1
  try clear hfz14_0
  try clear hfz14_1
  try clear hfz14_2
  try clear hfz14_3
  try clear hfz14_4
  try clear hfz14_5
  try clear hfz14_6
  try clear hfz23_0
  try clear hfz23_1
  try clear hfz26_0
  try clear hfz26_1
  try clear hfz30_0
  try clear hfz30_1
  try clear hfz33_0
  try clear hfz33_1
  try clear hfz37_0
  try clear hfz37_1
  try clear hfz40_0
  try clear hfz40_1
  try clear hfz44_0
  try clear hfz44_1
  try clear hfz5_0
  try clear hfz5_1
  try clear hfz5_2
  try clear hfz5_3
  try clear hfz5_4
  try clear hfz5_5
  try clear hfz5_6
  try clear hfz8_0
  try clear hfz8_1
  try clear hfz9_0
  try clear hfz9_1
  try clear hfz9_2
  try clear hfz9_3
  try clear hfz9_4
  try clear hfz9_5
  try clear hfz9_6
  obtain ⟨kq, x50_2, rfl, HA, HJ2, BK283, BK284, BK285, HB⟩ := hcut
  cases kq with
  | zero => exact absurd HA.out (by simp [hallmootlaw22_DiskMatchesSpec.j0])
  | succ kj2 => {
  have H := HA.out
  clear HA
  simp only [hallmootlaw22_DiskMatchesSpec.j0] at H
  by_cases c46 : x50_2 = true
  {
  subst c46
  have H1 : (some t286) = some r := by rw [if_pos rfl] at H; exact H
  clear H
  have H := H1
  clear H1
  obtain rfl := Option.some.inj H
  go_wp2
  go_ret
  exact ⟨by first | rfl | (simp [errW_none, errW_some] <;> rfl) | (simp [*, errW_none, errW_some] <;> rfl), by repeat (first | (with_reducible first | exact HB.out | apply below_alloc | apply pw_below_drewN | apply below_drew1 | refine below_set ?_ GE283.out | refine below_set ?_ GE284.out | refine below_set ?_ GE285.out) | exact HB.out)⟩ }
  {
  replace c46 := Bool.eq_false_iff.mpr c46
  subst c46
  have H1 : ((disk_New.f a0_4).bind fun bt289 => ((hallmootref22_New.f kj2 a0_4).bind fun bt297 => ((hallmootref22_Right.f kj2 l0_0 l0_1).bind fun t305 => ((dRight.f l0_0 l0_1).bind fun t306 => (if (t306 != t305) = true then (hallmootlaw22_DiskMatchesSpec.j1 kj2 a0_4 a0_5 l0_6 t286 t305 true l0_0 l0_1) else ((disk_Same.f kj2 l0_0 l0_1 l0_2 l0_3).bind fun t307 => ((hallmootref22_Same.f kj2 l0_0 l0_1 l0_2 l0_3).bind fun t308 => (if (t307 != t308) = true then (hallmootlaw22_DiskMatchesSpec.j1 kj2 a0_4 a0_5 l0_6 t286 t305 true l0_0 l0_1) else ((hallmootref22_Same.f kj2 bt289.1 bt289.2.1 bt297.1 bt297.2.1).bind fun t309 => (if t309 = true then (hallmootlaw22_DiskMatchesSpec.j1 kj2 a0_4 a0_5 l0_6 t286 t305 (bt289.2.2 != bt297.2.2) l0_0 l0_1) else (hallmootlaw22_DiskMatchesSpec.j1 kj2 a0_4 a0_5 l0_6 t286 t305 true l0_0 l0_1))))))))))) = some r := by rw [if_neg (show ¬ (false = true) by decide)] at H; exact H
  clear H
  have H := H1
  clear H1
  replace H := Option.bind_eq_some_iff.mp H
  obtain ⟨⟨t289, t292, t295⟩, A470, H⟩ := H
  replace H : ((hallmootref22_New.f kj2 a0_4).bind fun bt297 => ((hallmootref22_Right.f kj2 l0_0 l0_1).bind fun t305 => ((dRight.f l0_0 l0_1).bind fun t306 => (if (t306 != t305) = true then (hallmootlaw22_DiskMatchesSpec.j1 kj2 a0_4 a0_5 l0_6 t286 t305 true l0_0 l0_1) else ((disk_Same.f kj2 l0_0 l0_1 l0_2 l0_3).bind fun t307 => ((hallmootref22_Same.f kj2 l0_0 l0_1 l0_2 l0_3).bind fun t308 => (if (t307 != t308) = true then (hallmootlaw22_DiskMatchesSpec.j1 kj2 a0_4 a0_5 l0_6 t286 t305 true l0_0 l0_1) else ((hallmootref22_Same.f kj2 t289 t292 bt297.1 bt297.2.1).bind fun t309 => (if t309 = true then (hallmootlaw22_DiskMatchesSpec.j1 kj2 a0_4 a0_5 l0_6 t286 t305 (t295 != bt297.2.2) l0_0 l0_1) else (hallmootlaw22_DiskMatchesSpec.j1 kj2 a0_4 a0_5 l0_6 t286 t305 true l0_0 l0_1)))))))))) = some r := H
  have A47 := aS A470
  clear A470
  replace H := Option.bind_eq_some_iff.mp H
  obtain ⟨⟨t297, t300, t303⟩, A480, H⟩ := H
  replace H : ((hallmootref22_Right.f kj2 l0_0 l0_1).bind fun t305 => ((dRight.f l0_0 l0_1).bind fun t306 => (if (t306 != t305) = true then (hallmootlaw22_DiskMatchesSpec.j1 kj2 a0_4 a0_5 l0_6 t286 t305 true l0_0 l0_1) else ((disk_Same.f kj2 l0_0 l0_1 l0_2 l0_3).bind fun t307 => ((hallmootref22_Same.f kj2 l0_0 l0_1 l0_2 l0_3).bind fun t308 => (if (t307 != t308) = true then (hallmootlaw22_DiskMatchesSpec.j1 kj2 a0_4 a0_5 l0_6 t286 t305 true l0_0 l0_1) else ((hallmootref22_Same.f kj2 t289 t292 t297 t300).bind fun t309 => (if t309 = true then (hallmootlaw22_DiskMatchesSpec.j1 kj2 a0_4 a0_5 l0_6 t286 t305 (t295 != t303) l0_0 l0_1) else (hallmootlaw22_DiskMatchesSpec.j1 kj2 a0_4 a0_5 l0_6 t286 t305 true l0_0 l0_1))))))))) = some r := H
  have A48 := aS A480
  clear A480
  replace H := Option.bind_eq_some_iff.mp H
  obtain ⟨t305, A490, H⟩ := H
  replace H : ((dRight.f l0_0 l0_1).bind fun t306 => (if (t306 != t305) = true then (hallmootlaw22_DiskMatchesSpec.j1 kj2 a0_4 a0_5 l0_6 t286 t305 true l0_0 l0_1) else ((disk_Same.f kj2 l0_0 l0_1 l0_2 l0_3).bind fun t307 => ((hallmootref22_Same.f kj2 l0_0 l0_1 l0_2 l0_3).bind fun t308 => (if (t307 != t308) = true then (hallmootlaw22_DiskMatchesSpec.j1 kj2 a0_4 a0_5 l0_6 t286 t305 true l0_0 l0_1) else ((hallmootref22_Same.f kj2 t289 t292 t297 t300).bind fun t309 => (if t309 = true then (hallmootlaw22_DiskMatchesSpec.j1 kj2 a0_4 a0_5 l0_6 t286 t305 (t295 != t303) l0_0 l0_1) else (hallmootlaw22_DiskMatchesSpec.j1 kj2 a0_4 a0_5 l0_6 t286 t305 true l0_0 l0_1)))))))) = some r := H
  have A49 := aS A490
  clear A490
  have HC50 := aS H
  clear H
  go_upto_region 12 with (first | ((with_reducible refine gate_callee (f := 9) rfl ?_); refine goesL_ (some 54) rfl rfl Try.func9 (by kernel_rfl) rfl #[.int .i64 a0_4] rfl (by (try simp only [List.map_toArray, List.map_cons, List.map_nil]); first | done | rfl | (simp only [List.length_drop, List.length_take]; rfl)) ?_; (with_reducible refine (disk_New.calls a0_4 t289 t292 t295 _ A47.out).mono ?_); rintro e w51 ⟨v290, v293, rfl, ho0, ho1, hb⟩; refine ⟨_, rfl, ?_⟩; have n0_ := aS (Kd.R_lower ho0 bz); have n1_ := aS (Kd.R_lower ho1 bz); have n2_ := aS (kb BK283.out hb); have n3_ := aS (kb BK284.out hb); have n4_ := aS (kb BK285.out hb); have n5_ := aS (below_step bb hb); clear BK283; clear BK284; clear BK285; clear HB; have HO291 := n0_; have HO294 := n1_; have BK283 := n2_; have BK284 := n3_; have BK285 := n4_; have HB := n5_; clear n0_ n1_ n2_ n3_ n4_ n5_; (try clear hb); (try clear hb2); (try clear hk); (try clear hi); (try clear ho0); (try clear ho1)) | ((with_reducible refine gate_dst (N := 9) rfl ?_); (try (refine gate_guard (by rfl) ?_; dsimp only)); refine box_event ?hg (N := 9) ?hd (cs := #[.slice none 0 0, .slice none 0 0]) (t := 25) ?hr ?_; (case hd => rfl); (case hg => rfl); (case hr => first | (go_simp; done) | (go_simp; rfl)); intro gb296 hg w52 hbox hb; have n0_ := aS (Kd.R_below (rr HO291.out) hb); have n1_ := aS (Kd.R_below (rr HO294.out) hb); have n2_ := aS (kb BK283.out hb); have n3_ := aS (kb BK284.out hb); have n4_ := aS (kb BK285.out hb); have n5_ := aS (below_step bb hb); have n6_ := aS (hbox); have n7_ := aS ((by rw [hg]; exact bz : w.heap.size ≤ gb296)); have n8_ := aS ((by rw [hg]; exact bz : w.heap.size ≤ gb296)); have n9_ := aS ((by rw [hg]; exact Nat.ne_of_lt (blk_lt (g := gb283) (o := .cells #[.slice A0_0 l0_0.length c0_0, .slice A0_1 l0_1.length c0_1, .slice A0_2 l0_2.length c0_2, .slice A0_3 l0_3.length c0_3, .int .i64 a0_4, .string a0_5, .slice A0_6 l0_6.length c0_6] 28 (0, 0)) (kk BK283.out)) : gb283 ≠ gb296)); have n10_ := aS ((by rw [hg]; exact Nat.ne_of_gt (blk_lt (g := gb283) (o := .cells #[.slice A0_0 l0_0.length c0_0, .slice A0_1 l0_1.length c0_1, .slice A0_2 l0_2.length c0_2, .slice A0_3 l0_3.length c0_3, .int .i64 a0_4, .string a0_5, .slice A0_6 l0_6.length c0_6] 28 (0, 0)) (kk BK283.out)) : gb296 ≠ gb283)); have n11_ := aS ((by rw [hg]; exact Nat.ne_of_lt (blk_lt (g := gb284) (o := .cells #[.slice A0_0 l0_0.length c0_0, .slice A0_1 l0_1.length c0_1] 25 (0, 0)) (kk BK284.out)) : gb284 ≠ gb296)); have n12_ := aS ((by rw [hg]; exact Nat.ne_of_gt (blk_lt (g := gb284) (o := .cells #[.slice A0_0 l0_0.length c0_0, .slice A0_1 l0_1.length c0_1] 25 (0, 0)) (kk BK284.out)) : gb296 ≠ gb284)); have n13_ := aS ((by rw [hg]; exact Nat.ne_of_lt (blk_lt (g := gb285) (o := .cells #[.slice A0_2 l0_2.length c0_2, .slice A0_3 l0_3.length c0_3] 25 (0, 0)) (kk BK285.out)) : gb285 ≠ gb296)); have n14_ := aS ((by rw [hg]; exact Nat.ne_of_gt (blk_lt (g := gb285) (o := .cells #[.slice A0_2 l0_2.length c0_2, .slice A0_3 l0_3.length c0_3] 25 (0, 0)) (kk BK285.out)) : gb296 ≠ gb285)); clear HO291; clear HO294; clear BK283; clear BK284; clear BK285; clear HB; have HO291 := n0_; have HO294 := n1_; have BK283 := n2_; have BK284 := n3_; have BK285 := n4_; have HB := n5_; have BK296 := n6_; have GW296 := n7_; have GE296 := n8_; have NB283_296 := n9_; have NB296_283 := n10_; have NB284_296 := n11_; have NB296_284 := n12_; have NB285_296 := n13_; have NB296_285 := n14_; clear n0_ n1_ n2_ n3_ n4_ n5_ n6_ n7_ n8_ n9_ n10_ n11_ n12_ n13_ n14_; clear hb hbox hg; obtain ⟨Ao53, co53, eo53⟩ := Kd.R_slice HO291.out; subst eo53; have hnb54 := NB296_283.out; have hnc54 := NB283_296.out; have hnb55 := NB296_284.out; have hnc55 := NB284_296.out; have hnb56 := NB296_285.out; have hnc56 := NB285_296.out; have hcz57_0 : w52.cell? ⟨gb296, 0, none⟩ = some (.slice none 0 0) := (blk_cell BK296.out 0).trans rfl; have hcz57_1 : w52.cell? ⟨gb296, 1, none⟩ = some (.slice none 0 0) := (blk_cell BK296.out 1).trans rfl; have hfz57_0 := blk_frozen BK296.out 0; have hfz57_1 := blk_frozen BK296.out 1; obtain ⟨Ao58, co58, eo58⟩ := Kd.R_slice HO294.out; subst eo58) | ((with_reducible refine gate_callee (f := 10) rfl ?_); refine goesL_ (some 59) rfl rfl Try.func10 (by kernel_rfl) rfl #[.int .i64 a0_4] rfl (by (try simp only [List.map_toArray, List.map_cons, List.map_nil]); first | done | rfl | (simp only [List.length_drop, List.length_take]; rfl)) ?_; (with_reducible refine (hallmootref22_New.calls kj2 a0_4 t297 t300 t303 _ A48.out).mono ?_); rintro e w59 ⟨v298, v301, rfl, ho0, ho1, hb⟩; refine ⟨_, rfl, ?_⟩; have n0_ := aS (Kd.R_elder' (rr ((Kd.R_mono (Kd.R_far (p := ⟨gb296, 1, none⟩) (Kd.R_far (p := ⟨gb296, 0, none⟩) (Kd.R_types HO291.out BK296.out (by decide)) (fun _ hk => hk.2) (.slice Ao53 t289.length co53)) (fun _ hk => hk.2) (.slice Ao58 t292.length co58)) (fun _ h_ => h_.1)))) (Kd.R_base ho0) hb); have n1_ := aS (Kd.R_elder' (rr ((Kd.R_mono (Kd.R_far (p := ⟨gb296, 1, none⟩) (Kd.R_far (p := ⟨gb296, 0, none⟩) (Kd.R_types HO294.out BK296.out (by decide)) (fun _ hk => hk.2) (.slice Ao53 t289.length co53)) (fun _ hk => hk.2) (.slice Ao58 t292.length co58)) (fun _ h_ => h_.1)))) (Kd.R_base ho1) hb); have n2_ := aS (Kd.R_lower (Kd.R_new' ho0 (Kd.R_lt (rr ((Kd.R_mono (Kd.R_far (p := ⟨gb296, 1, none⟩) (Kd.R_far (p := ⟨gb296, 0, none⟩) (Kd.R_types HO291.out BK296.out (by decide)) (fun _ hk => hk.2) (.slice Ao53 t289.length co53)) (fun _ hk => hk.2) (.slice Ao58 t292.length co58)) (fun _ h_ => h_.1)))))) bz); have n3_ := aS (Kd.R_lower (Kd.R_new' ho1 (Kd.R_lt (rr ((Kd.R_mono (Kd.R_far (p := ⟨gb296, 1, none⟩) (Kd.R_far (p := ⟨gb296, 0, none⟩) (Kd.R_types HO294.out BK296.out (by decide)) (fun _ hk => hk.2) (.slice Ao53 t289.length co53)) (fun _ hk => hk.2) (.slice Ao58 t292.length co58)) (fun _ h_ => h_.1)))))) bz); have n4_ := aS (blk_below (g := gb283) (o := .cells #[.slice A0_0 l0_0.length c0_0, .slice A0_1 l0_1.length c0_1, .slice A0_2 l0_2.length c0_2, .slice A0_3 l0_3.length c0_3, .int .i64 a0_4, .string a0_5, .slice A0_6 l0_6.length c0_6] 28 (0, 0)) (by (with_reducible repeat (first | refine blk_drewN ?_ _ | refine blk_drew ?_ | refine blk_alloc ?_ _)); refine blk_far ?_ NB283_296.out _; (with_reducible repeat (first | refine blk_drewN ?_ _ | refine blk_drew ?_ | refine blk_alloc ?_ _)); refine blk_far ?_ NB283_296.out _; (with_reducible repeat (first | refine blk_drewN ?_ _ | refine blk_drew ?_ | refine blk_alloc ?_ _)); exact BK283.out) hb); have n5_ := aS (blk_below (g := gb284) (o := .cells #[.slice A0_0 l0_0.length c0_0, .slice A0_1 l0_1.length c0_1] 25 (0, 0)) (by (with_reducible repeat (first | refine blk_drewN ?_ _ | refine blk_drew ?_ | refine blk_alloc ?_ _)); refine blk_far ?_ NB284_296.out _; (with_reducible repeat (first | refine blk_drewN ?_ _ | refine blk_drew ?_ | refine blk_alloc ?_ _)); refine blk_far ?_ NB284_296.out _; (with_reducible repeat (first | refine blk_drewN ?_ _ | refine blk_drew ?_ | refine blk_alloc ?_ _)); exact BK284.out) hb); have n6_ := aS (blk_below (g := gb285) (o := .cells #[.slice A0_2 l0_2.length c0_2, .slice A0_3 l0_3.length c0_3] 25 (0, 0)) (by (with_reducible repeat (first | refine blk_drewN ?_ _ | refine blk_drew ?_ | refine blk_alloc ?_ _)); refine blk_far ?_ NB285_296.out _; (with_reducible repeat (first | refine blk_drewN ?_ _ | refine blk_drew ?_ | refine blk_alloc ?_ _)); refine blk_far ?_ NB285_296.out _; (with_reducible repeat (first | refine blk_drewN ?_ _ | refine blk_drew ?_ | refine blk_alloc ?_ _)); exact BK285.out) hb); have n7_ := aS (blk_below (g := gb296) (o := .cells #[.slice Ao53 t289.length co53, .slice Ao58 t292.length co58] 25 (0, 0)) (by (with_reducible repeat (first | refine blk_drewN ?_ _ | refine blk_drew ?_ | refine blk_alloc ?_ _)); refine blk_put (cs := #[.slice Ao53 t289.length co53, .slice none 0 0]) ?_ 1 _ rfl; (with_reducible repeat (first | refine blk_drewN ?_ _ | refine blk_drew ?_ | refine blk_alloc ?_ _)); refine blk_put (cs := #[.slice none 0 0, .slice none 0 0]) ?_ 0 _ rfl; (with_reducible repeat (first | refine blk_drewN ?_ _ | refine blk_drew ?_ | refine blk_alloc ?_ _)); exact BK296.out) hb); have n8_ := aS (below_step bb hb); clear HO291; clear HO294; clear BK283; clear BK284; clear BK285; clear BK296; clear HB; have HO291 := n0_; have HO294 := n1_; have HO299 := n2_; have HO302 := n3_; have BK283 := n4_; have BK284 := n5_; have BK285 := n6_; have BK296 := n7_; have HB := n8_; clear n0_ n1_ n2_ n3_ n4_ n5_ n6_ n7_ n8_; (try clear hb); (try clear hb2); (try clear hk); (try clear hi); (try clear ho0); (try clear ho1)) | ((with_reducible refine gate_dst (N := 11) rfl ?_); (try (refine gate_guard (by rfl) ?_; dsimp only)); refine box_event ?hg (N := 11) ?hd (cs := #[.slice none 0 0, .slice none 0 0]) (t := 25) ?hr ?_; (case hd => rfl); (case hg => rfl); (case hr => first | (go_simp; done) | (go_simp; rfl)); intro gb304 hg w60 hbox hb; have n0_ := aS (Kd.R_below (rr HO291.out) hb); have n1_ := aS (Kd.R_below (rr HO294.out) hb); have n2_ := aS (Kd.R_below (rr HO299.out) hb); have n3_ := aS (Kd.R_below (rr HO302.out) hb); have n4_ := aS (kb BK283.out hb); have n5_ := aS (kb BK284.out hb); have n6_ := aS (kb BK285.out hb); have n7_ := aS (kb BK296.out hb); have n8_ := aS (below_step bb hb); have n9_ := aS (hbox); have n10_ := aS ((by rw [hg]; exact bz : w.heap.size ≤ gb304)); have n11_ := aS ((by rw [hg]; exact bz : w.heap.size ≤ gb304)); have n12_ := aS ((by rw [hg]; exact Nat.ne_of_lt (blk_lt (g := gb283) (o := .cells #[.slice A0_0 l0_0.length c0_0, .slice A0_1 l0_1.length c0_1, .slice A0_2 l0_2.length c0_2, .slice A0_3 l0_3.length c0_3, .int .i64 a0_4, .string a0_5, .slice A0_6 l0_6.length c0_6] 28 (0, 0)) (kk BK283.out)) : gb283 ≠ gb304)); have n13_ := aS ((by rw [hg]; exact Nat.ne_of_gt (blk_lt (g := gb283) (o := .cells #[.slice A0_0 l0_0.length c0_0, .slice A0_1 l0_1.length c0_1, .slice A0_2 l0_2.length c0_2, .slice A0_3 l0_3.length c0_3, .int .i64 a0_4, .string a0_5, .slice A0_6 l0_6.length c0_6] 28 (0, 0)) (kk BK283.out)) : gb304 ≠ gb283)); have n14_ := aS ((by rw [hg]; exact Nat.ne_of_lt (blk_lt (g := gb284) (o := .cells #[.slice A0_0 l0_0.length c0_0, .slice A0_1 l0_1.length c0_1] 25 (0, 0)) (kk BK284.out)) : gb284 ≠ gb304)); have n15_ := aS ((by rw [hg]; exact Nat.ne_of_gt (blk_lt (g := gb284) (o := .cells #[.slice A0_0 l0_0.length c0_0, .slice A0_1 l0_1.length c0_1] 25 (0, 0)) (kk BK284.out)) : gb304 ≠ gb284)); have n16_ := aS ((by rw [hg]; exact Nat.ne_of_lt (blk_lt (g := gb285) (o := .cells #[.slice A0_2 l0_2.length c0_2, .slice A0_3 l0_3.length c0_3] 25 (0, 0)) (kk BK285.out)) : gb285 ≠ gb304)); have n17_ := aS ((by rw [hg]; exact Nat.ne_of_gt (blk_lt (g := gb285) (o := .cells #[.slice A0_2 l0_2.length c0_2, .slice A0_3 l0_3.length c0_3] 25 (0, 0)) (kk BK285.out)) : gb304 ≠ gb285)); have n18_ := aS ((by rw [hg]; exact Nat.ne_of_lt (blk_lt (g := gb296) (o := .cells #[.slice Ao53 t289.length co53, .slice Ao58 t292.length co58] 25 (0, 0)) (kk BK296.out)) : gb296 ≠ gb304)); have n19_ := aS ((by rw [hg]; exact Nat.ne_of_gt (blk_lt (g := gb296) (o := .cells #[.slice Ao53 t289.length co53, .slice Ao58 t292.length co58] 25 (0, 0)) (kk BK296.out)) : gb304 ≠ gb296)); clear HO291; clear HO294; clear HO299; clear HO302; clear BK283; clear BK284; clear BK285; clear BK296; clear HB; have HO291 := n0_; have HO294 := n1_; have HO299 := n2_; have HO302 := n3_; have BK283 := n4_; have BK284 := n5_; have BK285 := n6_; have BK296 := n7_; have HB := n8_; have BK304 := n9_; have GW304 := n10_; have GE304 := n11_; have NB283_304 := n12_; have NB304_283 := n13_; have NB284_304 := n14_; have NB304_284 := n15_; have NB285_304 := n16_; have NB304_285 := n17_; have NB296_304 := n18_; have NB304_296 := n19_; clear n0_ n1_ n2_ n3_ n4_ n5_ n6_ n7_ n8_ n9_ n10_ n11_ n12_ n13_ n14_ n15_ n16_ n17_ n18_ n19_; clear hb hbox hg; obtain ⟨Ao61, co61, eo61⟩ := Kd.R_slice HO299.out; subst eo61; have hnb62 := NB304_283.out; have hnc62 := NB283_304.out; have hnb63 := NB304_284.out; have hnc63 := NB284_304.out; have hnb64 := NB304_285.out; have hnc64 := NB285_304.out; have hnb65 := NB304_296.out; have hnc65 := NB296_304.out; have hcz66_0 : w60.cell? ⟨gb304, 0, none⟩ = some (.slice none 0 0) := (blk_cell BK304.out 0).trans rfl; have hcz66_1 : w60.cell? ⟨gb304, 1, none⟩ = some (.slice none 0 0) := (blk_cell BK304.out 1).trans rfl; have hfz66_0 := blk_frozen BK304.out 0; have hfz66_1 := blk_frozen BK304.out 1; obtain ⟨Ao67, co67, eo67⟩ := Kd.R_slice HO302.out; subst eo67; have hnb68 := NB284_283.out; have hnc68 := NB283_284.out; have hnb69 := NB284_285.out; have hnc69 := NB285_284.out; have hcz70_0 : w60.cell? ⟨gb284, 0, none⟩ = some (.slice A0_0 l0_0.length c0_0) := (blk_cell BK284.out 0).trans rfl; have hcz70_1 : w60.cell? ⟨gb284, 1, none⟩ = some (.slice A0_1 l0_1.length c0_1) := (blk_cell BK284.out 1).trans rfl; have hfz70_0 := blk_frozen BK284.out 0; have hfz70_1 := blk_frozen BK284.out 1) | ((with_reducible refine gate_callee (f := 11) rfl ?_); refine goesL_ (some 63) rfl rfl Try.func11 (by kernel_rfl) rfl #[.agg #[.slice A0_0 l0_0.length c0_0, .slice A0_1 l0_1.length c0_1]] rfl (by (try simp only [List.map_toArray, List.map_cons, List.map_nil]); first | done | rfl | (simp only [List.length_drop, List.length_take]; rfl)) ?_; (with_reducible refine (hallmootref22_Right.calls kj2 _ _ l0_0 _ _ l0_1 t305 _ ?side1 ?side2 ?side3 ?side4 A49.out).mono ?_); (case side1 => exact Kd.C_below HR0_0.out bb); (case side2 => exact HC0_0.out); (case side3 => exact Kd.C_below HR0_1.out bb); (case side4 => exact HC0_1.out); rintro e w71 ⟨rfl, hb⟩; refine ⟨_, rfl, ?_⟩; have n0_ := aS (Kd.R_below (rr ((Kd.R_mono (Kd.R_far (p := ⟨gb304, 1, none⟩) (Kd.R_far (p := ⟨gb304, 0, none⟩) (Kd.R_types HO291.out BK304.out (by decide)) (fun _ hk => hk.2) (.slice Ao61 t297.length co61)) (fun _ hk => hk.2) (.slice Ao67 t300.length co67)) (fun _ h_ => h_.1)))) hb); have n1_ := aS (Kd.R_below (rr ((Kd.R_mono (Kd.R_far (p := ⟨gb304, 1, none⟩) (Kd.R_far (p := ⟨gb304, 0, none⟩) (Kd.R_types HO294.out BK304.out (by decide)) (fun _ hk => hk.2) (.slice Ao61 t297.length co61)) (fun _ hk => hk.2) (.slice Ao67 t300.length co67)) (fun _ h_ => h_.1)))) hb); have n2_ := aS (Kd.R_below (rr ((Kd.R_mono (Kd.R_far (p := ⟨gb304, 1, none⟩) (Kd.R_far (p := ⟨gb304, 0, none⟩) (Kd.R_types HO299.out BK304.out (by decide)) (fun _ hk => hk.2) (.slice Ao61 t297.length co61)) (fun _ hk => hk.2) (.slice Ao67 t300.length co67)) (fun _ h_ => h_.1)))) hb); have n3_ := aS (Kd.R_below (rr ((Kd.R_mono (Kd.R_far (p := ⟨gb304, 1, none⟩) (Kd.R_far (p := ⟨gb304, 0, none⟩) (Kd.R_types HO302.out BK304.out (by decide)) (fun _ hk => hk.2) (.slice Ao61 t297.length co61)) (fun _ hk => hk.2) (.slice Ao67 t300.length co67)) (fun _ h_ => h_.1)))) hb); have n4_ := aS (blk_below (g := gb283) (o := .cells #[.slice A0_0 l0_0.length c0_0, .slice A0_1 l0_1.length c0_1, .slice A0_2 l0_2.length c0_2, .slice A0_3 l0_3.length c0_3, .int .i64 a0_4, .string a0_5, .slice A0_6 l0_6.length c0_6] 28 (0, 0)) (by (with_reducible repeat (first | refine blk_drewN ?_ _ | refine blk_drew ?_ | refine blk_alloc ?_ _)); refine blk_far ?_ NB283_304.out _; (with_reducible repeat (first | refine blk_drewN ?_ _ | refine blk_drew ?_ | refine blk_alloc ?_ _)); refine blk_far ?_ NB283_304.out _; (with_reducible repeat (first | refine blk_drewN ?_ _ | refine blk_drew ?_ | refine blk_alloc ?_ _)); exact BK283.out) hb); have n5_ := aS (blk_below (g := gb284) (o := .cells #[.slice A0_0 l0_0.length c0_0, .slice A0_1 l0_1.length c0_1] 25 (0, 0)) (by (with_reducible repeat (first | refine blk_drewN ?_ _ | refine blk_drew ?_ | refine blk_alloc ?_ _)); refine blk_far ?_ NB284_304.out _; (with_reducible repeat (first | refine blk_drewN ?_ _ | refine blk_drew ?_ | refine blk_alloc ?_ _)); refine blk_far ?_ NB284_304.out _; (with_reducible repeat (first | refine blk_drewN ?_ _ | refine blk_drew ?_ | refine blk_alloc ?_ _)); exact BK284.out) hb); have n6_ := aS (blk_below (g := gb285) (o := .cells #[.slice A0_2 l0_2.length c0_2, .slice A0_3 l0_3.length c0_3] 25 (0, 0)) (by (with_reducible repeat (first | refine blk_drewN ?_ _ | refine blk_drew ?_ | refine blk_alloc ?_ _)); refine blk_far ?_ NB285_304.out _; (with_reducible repeat (first | refine blk_drewN ?_ _ | refine blk_drew ?_ | refine blk_alloc ?_ _)); refine blk_far ?_ NB285_304.out _; (with_reducible repeat (first | refine blk_drewN ?_ _ | refine blk_drew ?_ | refine blk_alloc ?_ _)); exact BK285.out) hb); have n7_ := aS (blk_below (g := gb296) (o := .cells #[.slice Ao53 t289.length co53, .slice Ao58 t292.length co58] 25 (0, 0)) (by (with_reducible repeat (first | refine blk_drewN ?_ _ | refine blk_drew ?_ | refine blk_alloc ?_ _)); refine blk_far ?_ NB296_304.out _; (with_reducible repeat (first | refine blk_drewN ?_ _ | refine blk_drew ?_ | refine blk_alloc ?_ _)); refine blk_far ?_ NB296_304.out _; (with_reducible repeat (first | refine blk_drewN ?_ _ | refine blk_drew ?_ | refine blk_alloc ?_ _)); exact BK296.out) hb); have n8_ := aS (blk_below (g := gb304) (o := .cells #[.slice Ao61 t297.length co61, .slice Ao67 t300.length co67] 25 (0, 0)) (by (with_reducible repeat (first | refine blk_drewN ?_ _ | refine blk_drew ?_ | refine blk_alloc ?_ _)); refine blk_put (cs := #[.slice Ao61 t297.length co61, .slice none 0 0]) ?_ 1 _ rfl; (with_reducible repeat (first | refine blk_drewN ?_ _ | refine blk_drew ?_ | refine blk_alloc ?_ _)); refine blk_put (cs := #[.slice none 0 0, .slice none 0 0]) ?_ 0 _ rfl; (with_reducible repeat (first | refine blk_drewN ?_ _ | refine blk_drew ?_ | refine blk_alloc ?_ _)); exact BK304.out) hb); have n9_ := aS (below_step bb hb); clear HO291; clear HO294; clear HO299; clear HO302; clear BK283; clear BK284; clear BK285; clear BK296; clear BK304; clear HB; have HO291 := n0_; have HO294 := n1_; have HO299 := n2_; have HO302 := n3_; have BK283 := n4_; have BK284 := n5_; have BK285 := n6_; have BK296 := n7_; have BK304 := n8_; have HB := n9_; clear n0_ n1_ n2_ n3_ n4_ n5_ n6_ n7_ n8_ n9_; (try clear hb); (try clear hb2); (try clear hk); (try clear hi)))
  (try simp only [Act.put, List.setIfInBounds_toArray, List.set_cons_zero, List.set_cons_succ])
  go_cut [87] (fun v87 wc => ∃ (kq : Nat) (x87_49 : Bool), v87 = .bool x87_49 ∧ Aside0 (hallmootlaw22_DiskMatchesSpec.j1 kq a0_4 a0_5 l0_6 t286 t305 x87_49 l0_0 l0_1 = some r) ∧ Aside0 (kq ≤ kj2) ∧ Aside0 (Kd.R Kd.string 9 wc w.heap.size (fun k_ => some k_ ≠ ((.slice Ao61 t297.length co61) : Value).ownBlock) (.slice Ao53 t289.length co53) t289) ∧ Aside0 (Kd.R k46 46 wc w.heap.size (fun k_ => some k_ ≠ ((.slice Ao67 t300.length co67) : Value).ownBlock) (.slice Ao58 t292.length co58) t292) ∧ Aside0 (Kd.R Kd.string 9 wc w.heap.size (fun k_ => some k_ ≠ ((.slice Ao53 t289.length co53) : Value).ownBlock) (.slice Ao61 t297.length co61) t297) ∧ Aside0 (Kd.R k46 46 wc w.heap.size (fun k_ => some k_ ≠ ((.slice Ao58 t292.length co58) : Value).ownBlock) (.slice Ao67 t300.length co67) t300) ∧ Aside0 (wc.heap[gb283]? = some (.cells #[(.slice A0_0 l0_0.length c0_0), (.slice A0_1 l0_1.length c0_1), (.slice A0_2 l0_2.length c0_2), (.slice A0_3 l0_3.length c0_3), .int .i64 a0_4, .string a0_5, (.slice A0_6 l0_6.length c0_6)] 28 (0, 0))) ∧ Aside0 (wc.heap[gb284]? = some (.cells #[(.slice A0_0 l0_0.length c0_0), (.slice A0_1 l0_1.length c0_1)] 25 (0, 0))) ∧ Aside0 (wc.heap[gb285]? = some (.cells #[(.slice A0_2 l0_2.length c0_2), (.slice A0_3 l0_3.length c0_3)] 25 (0, 0))) ∧ Aside0 (wc.heap[gb296]? = some (.cells #[(.slice Ao53 t289.length co53), (.slice Ao58 t292.length co58)] 25 (0, 0))) ∧ Aside0 (wc.heap[gb304]? = some (.cells #[(.slice Ao61 t297.length co61), (.slice Ao67 t300.length co67)] 25 (0, 0))) ∧ Aside0 (Below w.heap.size w wc))
  case first =>
   have H := HC50.out
   clear HC50
   replace H := Option.bind_eq_some_iff.mp H
   obtain ⟨t306, A720, H⟩ := H
   replace H : (if (t306 != t305) = true then (hallmootlaw22_DiskMatchesSpec.j1 kj2 a0_4 a0_5 l0_6 t286 t305 true l0_0 l0_1) else ((disk_Same.f kj2 l0_0 l0_1 l0_2 l0_3).bind fun t307 => ((hallmootref22_Same.f kj2 l0_0 l0_1 l0_2 l0_3).bind fun t308 => (if (t307 != t308) = true then (hallmootlaw22_DiskMatchesSpec.j1 kj2 a0_4 a0_5 l0_6 t286 t305 true l0_0 l0_1) else ((hallmootref22_Same.f kj2 t289 t292 t297 t300).bind fun t309 => (if t309 = true then (hallmootlaw22_DiskMatchesSpec.j1 kj2 a0_4 a0_5 l0_6 t286 t305 (t295 != t303) l0_0 l0_1) else (hallmootlaw22_DiskMatchesSpec.j1 kj2 a0_4 a0_5 l0_6 t286 t305 true l0_0 l0_1))))))) = some r := H
   have A72 := aS A720
   clear A720
   by_cases c73 : (t306 != t305) = true
   {
   rw [if_pos c73] at H
   have c73b0 : (t306 != t305) = true := c73
   (try (have c73b1 : decide (t306 = t305) = false := by simpa using c73))
   (try (have c73b2 : (t306 == t305) = false := by simpa using c73))
   (try (have c73b3 : ¬ (t306 = t305) := by simpa using c73))
   clear c73
   (first | rw [c73b0] | (simp only [i64_w, i32_w]; rw [c73b0]) | skip)
   have H' := aS H
   clear H
   try go_wp2
   have n0_ := aS (Kd.R_drew HO291.out)
   have n1_ := aS (Kd.R_drew HO294.out)
   have n2_ := aS (Kd.R_drew HO299.out)
   have n3_ := aS (Kd.R_drew HO302.out)
   have n4_ := aS (blk_drew BK283.out)
   have n5_ := aS (blk_drew BK284.out)
   have n6_ := aS (blk_drew BK285.out)
   have n7_ := aS (blk_drew BK296.out)
   have n8_ := aS (blk_drew BK304.out)
   have n9_ := aS (below_drew1 HB.out)
   clear HO291
   clear HO294
   clear HO299
   clear HO302
   clear BK283
   clear BK284
   clear BK285
   clear BK296
   clear BK304
   clear HB
   have HO291 := n0_
   have HO294 := n1_
   have HO299 := n2_
   have HO302 := n3_
   have BK283 := n4_
   have BK284 := n5_
   have BK285 := n6_
   have BK296 := n7_
   have BK304 := n8_
   have HB := n9_
   clear n0_ n1_ n2_ n3_ n4_ n5_ n6_ n7_ n8_ n9_
   refine start_ (n := 24) (S := fun w' => w'.cell? ⟨gb284, 0, none⟩ = some (.slice A0_0 l0_0.length c0_0) ∧ w'.cell? ⟨gb284, 1, none⟩ = some (.slice A0_1 l0_1.length c0_1)) (ds := []) #[false, false, false, false, false, false, false, false, false, false, false, false, false, false, false, false, false, false, false, false, false, false, false, false] (by kernel_rfl) rfl rfl ⟨(blk_cell BK284.out 0).trans rfl, (blk_cell BK284.out 1).trans rfl⟩ (fun hHeld => ?_); refine with_tabW hallmootlaw22_DiskMatchesSpec.tab12 hallmootlaw22_DiskMatchesSpec.bits12 (fun HT_ HW_ => ?_)
   generalize w71.drew = w74 at HO291 HO294 HO299 HO302 BK283 BK284 BK285 BK296 BK304 HB hHeld ⊢
   refine pure_ (i := 2) (N := some 66) (v := ?_) (a' := ?_) #[false, false, true, false, false, false, false, false, false, false, false, false, false, false, false, false, false, false, false, false, false, false, false, false] rfl rfl (any_of HT_.out (by kernel_rfl)) (fun _ _ _ h => h) (Or.inl ⟨by rfl, ?_⟩) ?_ ?_
   rotate_left
   {
   intro w'
   go_simp
   with_reducible rfl }
   rotate_left
   {
   simp only [Act.put, sT, s0, s1, i64_w, i32_w]
   rfl }
   refine take_ (i := 0) (N := some 64) (v := ?_) (a' := ?_) #[true, false, true, false, false, false, false, false, false, false, false, false, false, false, false, false, false, false, false, false, false, false, false, false] rfl rfl (take_ofW HT_.out HW_.out (by kernel_rfl)) (fun _ _ _ h => h) (Or.inl ⟨by rfl, ?_⟩) hHeld ?_ ?_
   rotate_left
   {
   rintro w' ⟨s0, s1⟩
   go_simp
   with_reducible rfl }
   rotate_left
   {
   simp only [Act.put, sT, s0, s1, i64_w, i32_w]
   rfl }
   refine one_ (i := 1) (N := some 65) #[true, true, true, false, false, false, false, false, false, false, false, false, false, false, false, false, false, false, false, false, false, false, false, false] rfl rfl (one_of HT_.out (by kernel_rfl)) (by decide) (fun K hK => ?_)
   refine goes_ Try.func12 (by kernel_rfl) rfl #[.agg #[.slice A0_0 l0_0.length c0_0, .slice A0_1 l0_1.length c0_1]] (by rfl) rfl rfl (by (try simp only [List.map_toArray, List.map_cons, List.map_nil]); first | done | rfl | (simp only [List.length_drop, List.length_take]; rfl)) ?_
   with_reducible refine (dRight.calls _ _ l0_0 _ _ l0_1 t306 _ ?side1 ?side2 ?side3 ?side4 A72.out).mono ?_
   (case side1 => exact Kd.C_below HR0_0.out bb)
   (case side2 => exact HC0_0.out)
   (case side3 => exact Kd.C_below HR0_1.out bb)
   (case side4 => exact HC0_1.out)
   rintro e w75 ⟨rfl, hb⟩
   refine ⟨_, rfl, ?_⟩
   have n0_ := aS (Kd.R_below (rr HO291.out) hb)
   have n1_ := aS (Kd.R_below (rr HO294.out) hb)
   have n2_ := aS (Kd.R_below (rr HO299.out) hb)
   have n3_ := aS (Kd.R_below (rr HO302.out) hb)
   have n4_ := aS (kb BK283.out hb)
   have n5_ := aS (kb BK284.out hb)
   have n6_ := aS (kb BK285.out hb)
   have n7_ := aS (kb BK296.out hb)
   have n8_ := aS (kb BK304.out hb)
   have n9_ := aS (below_step bb hb)
   clear HO291
   clear HO294
   clear HO299
   clear HO302
   clear BK283
   clear BK284
   clear BK285
   clear BK296
   clear BK304
   clear HB
   have HO291 := n0_
   have HO294 := n1_
   have HO299 := n2_
   have HO302 := n3_
   have BK283 := n4_
   have BK284 := n5_
   have BK285 := n6_
   have BK296 := n7_
   have BK304 := n8_
   have HB := n9_
   clear n0_ n1_ n2_ n3_ n4_ n5_ n6_ n7_ n8_ n9_
   (try clear hb)
   (try clear hb2)
   (try clear hk)
   (try clear hi)
   refine hK.out _ _ ⟨(blk_cell BK284.out 0).trans rfl, (blk_cell BK284.out 1).trans rfl⟩ (fun hHeld => ?_)
   clear hK K
   refine norm_ (a' := ?_) ?_ ?_
   rotate_left
   {
   show Act.put _ (some 65) _ = _
   simp only [Act.put, sT, s0, s1, i64_w, i32_w]
   rfl }
   refine pure_ (i := 3) (N := some 67) (v := ?_) (a' := ?_) #[true, true, true, true, false, false, false, false, false, false, false, false, false, false, false, false, false, false, false, false, false, false, false, false] rfl rfl (any_of HT_.out (by kernel_rfl)) (fun _ _ _ h => h) (Or.inl ⟨by rfl, ?_⟩) ?_ ?_
   rotate_left
   {
   intro w'
   go_simp
   with_reducible rfl }
   rotate_left
   {
   simp only [Act.put, sT, s0, s1, i64_w, i32_w]
   rfl }
   refine pure_ (i := 4) (N := some 68) (v := ?_) (a' := ?_) #[true, true, true, true, true, false, false, false, false, false, false, false, false, false, false, false, false, false, false, false, false, false, false, false] rfl rfl (any_of HT_.out (by kernel_rfl)) (fun _ _ _ h => h) (Or.inl ⟨by rfl, ?_⟩) ?_ ?_
   rotate_left
   {
   intro w'
   go_simp
   with_reducible rfl }
   rotate_left
   {
   simp only [Act.put, sT, s0, s1, i64_w, i32_w]
   rfl }
   refine pure_ (i := 5) (N := some 69) (v := undef) (a' := ?_) #[true, true, true, true, true, true, false, false, false, false, false, false, false, false, false, false, false, false, false, false, false, false, false, false] rfl rfl (any_of HT_.out (by kernel_rfl)) (fun _ _ _ h => h) (Or.inr ⟨by rfl, rfl⟩) ?_ ?_
   rotate_left
   {
   simp only [Act.put, sT, s0, s1, i64_w, i32_w]
   rfl }
   refine pure_ (i := 6) (N := some 70) (v := undef) (a' := ?_) #[true, true, true, true, true, true, true, false, false, false, false, false, false, false, false, false, false, false, false, false, false, false, false, false] rfl rfl (any_of HT_.out (by kernel_rfl)) (fun _ _ _ h => h) (Or.inr ⟨by rfl, rfl⟩) ?_ ?_
   rotate_left
   {
   simp only [Act.put, sT, s0, s1, i64_w, i32_w]
   rfl }
   refine pure_ (i := 7) (N := some 71) (v := undef) (a' := ?_) #[true, true, true, true, true, true, true, true, false, false, false, false, false, false, false, false, false, false, false, false, false, false, false, false] rfl rfl (any_of HT_.out (by kernel_rfl)) (fun _ _ _ h => h) (Or.inr ⟨by rfl, rfl⟩) ?_ ?_
   rotate_left
   {
   simp only [Act.put, sT, s0, s1, i64_w, i32_w]
   rfl }
   refine pure_ (i := 8) (N := some 72) (v := undef) (a' := ?_) #[true, true, true, true, true, true, true, true, true, false, false, false, false, false, false, false, false, false, false, false, false, false, false, false] rfl rfl (any_of HT_.out (by kernel_rfl)) (fun _ _ _ h => h) (Or.inr ⟨by rfl, rfl⟩) ?_ ?_
   rotate_left
   {
   simp only [Act.put, sT, s0, s1, i64_w, i32_w]
   rfl }
   refine pure_ (i := 9) (N := some 73) (v := undef) (a' := ?_) #[true, true, true, true, true, true, true, true, true, true, false, false, false, false, false, false, false, false, false, false, false, false, false, false] rfl rfl (any_of HT_.out (by kernel_rfl)) (fun _ _ _ h => h) (Or.inr ⟨by rfl, rfl⟩) ?_ ?_
   rotate_left
   {
   simp only [Act.put, sT, s0, s1, i64_w, i32_w]
   rfl }
   refine pure_ (i := 10) (N := some 74) (v := undef) (a' := ?_) #[true, true, true, true, true, true, true, true, true, true, true, false, false, false, false, false, false, false, false, false, false, false, false, false] rfl rfl (any_of HT_.out (by kernel_rfl)) (fun _ _ _ h => h) (Or.inr ⟨by rfl, rfl⟩) ?_ ?_
   rotate_left
   {
   simp only [Act.put, sT, s0, s1, i64_w, i32_w]
   rfl }
   refine pure_ (i := 11) (N := some 75) (v := undef) (a' := ?_) #[true, true, true, true, true, true, true, true, true, true, true, true, false, false, false, false, false, false, false, false, false, false, false, false] rfl rfl (any_of HT_.out (by kernel_rfl)) (fun _ _ _ h => h) (Or.inr ⟨by rfl, rfl⟩) ?_ ?_
   rotate_left
   {
   simp only [Act.put, sT, s0, s1, i64_w, i32_w]
   rfl }
   refine pure_ (i := 12) (N := some 76) (v := ?_) (a' := ?_) #[true, true, true, true, true, true, true, true, true, true, true, true, true, false, false, false, false, false, false, false, false, false, false, false] rfl rfl (any_of HT_.out (by kernel_rfl)) (fun _ _ _ h => h) (Or.inl ⟨by rfl, ?_⟩) ?_ ?_
   rotate_left
   {
   intro w'
   go_simp
   with_reducible rfl }
   rotate_left
   {
   simp only [Act.put, sT, s0, s1, i64_w, i32_w]
   rfl }
   refine pure_ (i := 13) (N := some 77) (v := ?_) (a' := ?_) #[true, true, true, true, true, true, true, true, true, true, true, true, true, true, false, false, false, false, false, false, false, false, false, false] rfl rfl (any_of HT_.out (by kernel_rfl)) (fun _ _ _ h => h) (Or.inl ⟨by rfl, ?_⟩) ?_ ?_
   rotate_left
   {
   intro w'
   go_simp
   with_reducible rfl }
   rotate_left
   {
   simp only [Act.put, sT, s0, s1, i64_w, i32_w]
   rfl }
   refine pure_ (i := 14) (N := some 78) (v := undef) (a' := ?_) #[true, true, true, true, true, true, true, true, true, true, true, true, true, true, true, false, false, false, false, false, false, false, false, false] rfl rfl (any_of HT_.out (by kernel_rfl)) (fun _ _ _ h => h) (Or.inr ⟨by rfl, rfl⟩) ?_ ?_
   rotate_left
   {
   simp only [Act.put, sT, s0, s1, i64_w, i32_w]
   rfl }
   refine pure_ (i := 15) (N := some 79) (v := undef) (a' := ?_) #[true, true, true, true, true, true, true, true, true, true, true, true, true, true, true, true, false, false, false, false, false, false, false, false] rfl rfl (any_of HT_.out (by kernel_rfl)) (fun _ _ _ h => h) (Or.inr ⟨by rfl, rfl⟩) ?_ ?_
   rotate_left
   {
   simp only [Act.put, sT, s0, s1, i64_w, i32_w]
   rfl }
   refine pure_ (i := 16) (N := some 80) (v := undef) (a' := ?_) #[true, true, true, true, true, true, true, true, true, true, true, true, true, true, true, true, true, false, false, false, false, false, false, false] rfl rfl (any_of HT_.out (by kernel_rfl)) (fun _ _ _ h => h) (Or.inr ⟨by rfl, rfl⟩) ?_ ?_
   rotate_left
   {
   simp only [Act.put, sT, s0, s1, i64_w, i32_w]
   rfl }
   refine pure_ (i := 17) (N := some 81) (v := undef) (a' := ?_) #[true, true, true, true, true, true, true, true, true, true, true, true, true, true, true, true, true, true, false, false, false, false, false, false] rfl rfl (any_of HT_.out (by kernel_rfl)) (fun _ _ _ h => h) (Or.inr ⟨by rfl, rfl⟩) ?_ ?_
   rotate_left
   {
   simp only [Act.put, sT, s0, s1, i64_w, i32_w]
   rfl }
   refine pure_ (i := 18) (N := some 82) (v := ?_) (a' := ?_) #[true, true, true, true, true, true, true, true, true, true, true, true, true, true, true, true, true, true, true, false, false, false, false, false] rfl rfl (any_of HT_.out (by kernel_rfl)) (fun _ _ _ h => h) (Or.inl ⟨by rfl, ?_⟩) ?_ ?_
   rotate_left
   {
   intro w'
   go_simp
   with_reducible rfl }
   rotate_left
   {
   simp only [Act.put, sT, s0, s1, i64_w, i32_w]
   rfl }
   refine pure_ (i := 19) (N := some 83) (v := ?_) (a' := ?_) #[true, true, true, true, true, true, true, true, true, true, true, true, true, true, true, true, true, true, true, true, false, false, false, false] rfl rfl (any_of HT_.out (by kernel_rfl)) (fun _ _ _ h => h) (Or.inl ⟨by rfl, ?_⟩) ?_ ?_
   rotate_left
   {
   intro w'
   go_simp
   with_reducible rfl }
   rotate_left
   {
   simp only [Act.put, sT, s0, s1, i64_w, i32_w]
   rfl }
   refine pure_ (i := 20) (N := some 84) (v := undef) (a' := ?_) #[true, true, true, true, true, true, true, true, true, true, true, true, true, true, true, true, true, true, true, true, true, false, false, false] rfl rfl (any_of HT_.out (by kernel_rfl)) (fun _ _ _ h => h) (Or.inr ⟨by rfl, rfl⟩) ?_ ?_
   rotate_left
   {
   simp only [Act.put, sT, s0, s1, i64_w, i32_w]
   rfl }
   refine pure_ (i := 21) (N := some 85) (v := undef) (a' := ?_) #[true, true, true, true, true, true, true, true, true, true, true, true, true, true, true, true, true, true, true, true, true, true, false, false] rfl rfl (any_of HT_.out (by kernel_rfl)) (fun _ _ _ h => h) (Or.inr ⟨by rfl, rfl⟩) ?_ ?_
   rotate_left
   {
   simp only [Act.put, sT, s0, s1, i64_w, i32_w]
   rfl }
   refine pure_ (i := 22) (N := some 86) (v := undef) (a' := ?_) #[true, true, true, true, true, true, true, true, true, true, true, true, true, true, true, true, true, true, true, true, true, true, true, false] rfl rfl (any_of HT_.out (by kernel_rfl)) (fun _ _ _ h => h) (Or.inr ⟨by rfl, rfl⟩) ?_ ?_
   rotate_left
   {
   simp only [Act.put, sT, s0, s1, i64_w, i32_w]
   rfl }
   refine pure_ (i := 23) (N := some 87) (v := ?_) (a' := ?_) #[true, true, true, true, true, true, true, true, true, true, true, true, true, true, true, true, true, true, true, true, true, true, true, true] rfl rfl (any_of HT_.out (by kernel_rfl)) (fun _ _ _ h => h) (Or.inl ⟨by rfl, ?_⟩) ?_ ?_
   rotate_left
   {
   intro w'
   go_simp
   with_reducible rfl }
   rotate_left
   {
   simp only [Act.put, sT, s0, s1, i64_w, i32_w]
   rfl }
   refine done_ (done_of HT_.out (by kernel_rfl)) ?_
   try go_wp2
   go_meet
   case rel => exact ⟨_, (true), (by first | rfl | (simp; done) | (simp [*]; done)), H', ⟨by have := HJ2.out; first | omega | exact Nat.le_refl _⟩, ⟨by (with_reducible repeat (first | apply Kd.R_alloc | apply Kd.R_drewN | apply Kd.R_drew)); exact Kd.R_mono HO291.out (fun _ hk => hk.2)⟩, ⟨by (with_reducible repeat (first | apply Kd.R_alloc | apply Kd.R_drewN | apply Kd.R_drew)); exact Kd.R_mono HO294.out (fun _ hk => hk.2)⟩, ⟨by (with_reducible repeat (first | apply Kd.R_alloc | apply Kd.R_drewN | apply Kd.R_drew)); exact Kd.R_mono HO299.out (fun _ hk => hk.2)⟩, ⟨by (with_reducible repeat (first | apply Kd.R_alloc | apply Kd.R_drewN | apply Kd.R_drew)); exact Kd.R_mono HO302.out (fun _ hk => hk.2)⟩, ⟨kk BK283.out⟩, ⟨kk BK284.out⟩, ⟨kk BK285.out⟩, ⟨kk BK296.out⟩, ⟨kk BK304.out⟩, ⟨by repeat (first | (with_reducible first | exact HB.out | apply below_alloc | apply pw_below_drewN | apply below_drew1 | refine below_set ?_ GE283.out | refine below_set ?_ GE284.out | refine below_set ?_ GE285.out | refine below_set ?_ GE296.out | refine below_set ?_ GE304.out) | exact HB.out)⟩⟩ }
   {
   rw [if_neg c73] at H
   have c73b0 : (t306 != t305) = false := by simpa using c73
   (try (have c73b1 : decide (t306 = t305) = true := by simpa using c73))
   (try (have c73b2 : (t306 == t305) = true := by simpa using c73))
   clear c73
   (first | rw [c73b0] | (simp only [i64_w, i32_w]; rw [c73b0]) | skip)
   replace H := Option.bind_eq_some_iff.mp H
   obtain ⟨t307, A760, H⟩ := H
   replace H : ((hallmootref22_Same.f kj2 l0_0 l0_1 l0_2 l0_3).bind fun t308 => (if (t307 != t308) = true then (hallmootlaw22_DiskMatchesSpec.j1 kj2 a0_4 a0_5 l0_6 t286 t305 true l0_0 l0_1) else ((hallmootref22_Same.f kj2 t289 t292 t297 t300).bind fun t309 => (if t309 = true then (hallmootlaw22_DiskMatchesSpec.j1 kj2 a0_4 a0_5 l0_6 t286 t305 (t295 != t303) l0_0 l0_1) else (hallmootlaw22_DiskMatchesSpec.j1 kj2 a0_4 a0_5 l0_6 t286 t305 true l0_0 l0_1))))) = some r := H
   have A76 := aS A760
   clear A760
   replace H := Option.bind_eq_some_iff.mp H
   obtain ⟨t308, A770, H⟩ := H
   replace H : (if (t307 != t308) = true then (hallmootlaw22_DiskMatchesSpec.j1 kj2 a0_4 a0_5 l0_6 t286 t305 true l0_0 l0_1) else ((hallmootref22_Same.f kj2 t289 t292 t297 t300).bind fun t309 => (if t309 = true then (hallmootlaw22_DiskMatchesSpec.j1 kj2 a0_4 a0_5 l0_6 t286 t305 (t295 != t303) l0_0 l0_1) else (hallmootlaw22_DiskMatchesSpec.j1 kj2 a0_4 a0_5 l0_6 t286 t305 true l0_0 l0_1)))) = some r := H
   have A77 := aS A770
   clear A770
   by_cases c78 : (t307 != t308) = true
   {
   rw [if_pos c78] at H
   have c78b0 : (t307 != t308) = true := c78
   (try (have c78b1 : decide (t307 = t308) = false := by simpa using c78))
   (try (have c78b2 : (t307 == t308) = false := by simpa using c78))
   (try (have c78b3 : ¬ (t307 = t308) := by simpa using c78))
   clear c78
   have H' := aS H
   clear H
   try go_wp2
   have n0_ := aS (Kd.R_drew HO291.out)
   have n1_ := aS (Kd.R_drew HO294.out)
   have n2_ := aS (Kd.R_drew HO299.out)
   have n3_ := aS (Kd.R_drew HO302.out)
   have n4_ := aS (blk_drew BK283.out)
   have n5_ := aS (blk_drew BK284.out)
   have n6_ := aS (blk_drew BK285.out)
   have n7_ := aS (blk_drew BK296.out)
   have n8_ := aS (blk_drew BK304.out)
   have n9_ := aS (below_drew1 HB.out)
   clear HO291
   clear HO294
   clear HO299
   clear HO302
   clear BK283
   clear BK284
   clear BK285
   clear BK296
   clear BK304
   clear HB
   have HO291 := n0_
   have HO294 := n1_
   have HO299 := n2_
   have HO302 := n3_
   have BK283 := n4_
   have BK284 := n5_
   have BK285 := n6_
   have BK296 := n7_
   have BK304 := n8_
   have HB := n9_
   clear n0_ n1_ n2_ n3_ n4_ n5_ n6_ n7_ n8_ n9_
   refine start_ (n := 24) (S := fun w' => w'.cell? ⟨gb284, 0, none⟩ = some (.slice A0_0 l0_0.length c0_0) ∧ w'.cell? ⟨gb284, 1, none⟩ = some (.slice A0_1 l0_1.length c0_1) ∧ w'.cell? ⟨gb285, 0, none⟩ = some (.slice A0_2 l0_2.length c0_2) ∧ w'.cell? ⟨gb285, 1, none⟩ = some (.slice A0_3 l0_3.length c0_3)) (ds := []) #[false, false, false, false, false, false, false, false, false, false, false, false, false, false, false, false, false, false, false, false, false, false, false, false] (by kernel_rfl) rfl rfl ⟨(blk_cell BK284.out 0).trans rfl, (blk_cell BK284.out 1).trans rfl, (blk_cell BK285.out 0).trans rfl, (blk_cell BK285.out 1).trans rfl⟩ (fun hHeld => ?_); refine with_tabW hallmootlaw22_DiskMatchesSpec.tab12 hallmootlaw22_DiskMatchesSpec.bits12 (fun HT_ HW_ => ?_)
   generalize w71.drew = w79 at HO291 HO294 HO299 HO302 BK283 BK284 BK285 BK296 BK304 HB hHeld ⊢
   refine pure_ (i := 2) (N := some 66) (v := ?_) (a' := ?_) #[false, false, true, false, false, false, false, false, false, false, false, false, false, false, false, false, false, false, false, false, false, false, false, false] rfl rfl (any_of HT_.out (by kernel_rfl)) (fun _ _ _ h => h) (Or.inl ⟨by rfl, ?_⟩) ?_ ?_
   rotate_left
   {
   intro w'
   go_simp
   with_reducible rfl }
   rotate_left
   {
   simp only [Act.put, sT, s0, s1, i64_w, i32_w]
   rfl }
   refine take_ (i := 0) (N := some 64) (v := ?_) (a' := ?_) #[true, false, true, false, false, false, false, false, false, false, false, false, false, false, false, false, false, false, false, false, false, false, false, false] rfl rfl (take_ofW HT_.out HW_.out (by kernel_rfl)) (fun _ _ _ h => h) (Or.inl ⟨by rfl, ?_⟩) hHeld ?_ ?_
   rotate_left
   {
   rintro w' ⟨s0, s1, s2, s3⟩
   go_simp
   with_reducible rfl }
   rotate_left
   {
   simp only [Act.put, sT, s0, s1, i64_w, i32_w]
   rfl }
   refine one_ (i := 1) (N := some 65) #[true, true, true, false, false, false, false, false, false, false, false, false, false, false, false, false, false, false, false, false, false, false, false, false] rfl rfl (one_of HT_.out (by kernel_rfl)) (by decide) (fun K hK => ?_)
   refine goes_ Try.func12 (by kernel_rfl) rfl #[.agg #[.slice A0_0 l0_0.length c0_0, .slice A0_1 l0_1.length c0_1]] (by rfl) rfl rfl (by (try simp only [List.map_toArray, List.map_cons, List.map_nil]); first | done | rfl | (simp only [List.length_drop, List.length_take]; rfl)) ?_
   with_reducible refine (dRight.calls _ _ l0_0 _ _ l0_1 t306 _ ?side1 ?side2 ?side3 ?side4 A72.out).mono ?_
   (case side1 => exact Kd.C_below HR0_0.out bb)
   (case side2 => exact HC0_0.out)
   (case side3 => exact Kd.C_below HR0_1.out bb)
   (case side4 => exact HC0_1.out)
   rintro e w80 ⟨rfl, hb⟩
   refine ⟨_, rfl, ?_⟩
   have n0_ := aS (Kd.R_below (rr HO291.out) hb)
   have n1_ := aS (Kd.R_below (rr HO294.out) hb)
   have n2_ := aS (Kd.R_below (rr HO299.out) hb)
   have n3_ := aS (Kd.R_below (rr HO302.out) hb)
   have n4_ := aS (kb BK283.out hb)
   have n5_ := aS (kb BK284.out hb)
   have n6_ := aS (kb BK285.out hb)
   have n7_ := aS (kb BK296.out hb)
   have n8_ := aS (kb BK304.out hb)
   have n9_ := aS (below_step bb hb)
   clear HO291
   clear HO294
   clear HO299
   clear HO302
   clear BK283
   clear BK284
   clear BK285
   clear BK296
   clear BK304
   clear HB
   have HO291 := n0_
   have HO294 := n1_
   have HO299 := n2_
   have HO302 := n3_
   have BK283 := n4_
   have BK284 := n5_
   have BK285 := n6_
   have BK296 := n7_
   have BK304 := n8_
   have HB := n9_
   clear n0_ n1_ n2_ n3_ n4_ n5_ n6_ n7_ n8_ n9_
   (try clear hb)
   (try clear hb2)
   (try clear hk)
   (try clear hi)
   refine hK.out _ _ ⟨(blk_cell BK284.out 0).trans rfl, (blk_cell BK284.out 1).trans rfl, (blk_cell BK285.out 0).trans rfl, (blk_cell BK285.out 1).trans rfl⟩ (fun hHeld => ?_)
   clear hK K
   refine norm_ (a' := ?_) ?_ ?_
   rotate_left
   {
   show Act.put _ (some 65) _ = _
   simp only [Act.put, sT, s0, s1, i64_w, i32_w]
   rfl }
   refine pure_ (i := 3) (N := some 67) (v := ?_) (a' := ?_) #[true, true, true, true, false, false, false, false, false, false, false, false, false, false, false, false, false, false, false, false, false, false, false, false] rfl rfl (any_of HT_.out (by kernel_rfl)) (fun _ _ _ h => h) (Or.inl ⟨by rfl, ?_⟩) ?_ ?_
   rotate_left
   {
   intro w'
   go_simp
   with_reducible rfl }
   rotate_left
   {
   simp only [Act.put, sT, s0, s1, i64_w, i32_w]
   rfl }
   refine pure_ (i := 4) (N := some 68) (v := ?_) (a' := ?_) #[true, true, true, true, true, false, false, false, false, false, false, false, false, false, false, false, false, false, false, false, false, false, false, false] rfl rfl (any_of HT_.out (by kernel_rfl)) (fun _ _ _ h => h) (Or.inl ⟨by rfl, ?_⟩) ?_ ?_
   rotate_left
   {
   intro w'
   go_simp
   with_reducible rfl }
   rotate_left
   {
   simp only [Act.put, sT, s0, s1, i64_w, i32_w]
   rfl }
   refine take_ (i := 5) (N := some 69) (v := ?_) (a' := ?_) #[true, true, true, true, true, true, false, false, false, false, false, false, false, false, false, false, false, false, false, false, false, false, false, false] rfl rfl (take_ofW HT_.out HW_.out (by kernel_rfl)) (fun _ _ _ h => h) (Or.inl ⟨by rfl, ?_⟩) hHeld ?_ ?_
   rotate_left
   {
   rintro w' ⟨s0, s1, s2, s3⟩
   go_simp
   with_reducible rfl }
   rotate_left
   {
   simp only [Act.put, sT, s0, s1, i64_w, i32_w]
   rfl }
   refine take_ (i := 6) (N := some 70) (v := ?_) (a' := ?_) #[true, true, true, true, true, true, true, false, false, false, false, false, false, false, false, false, false, false, false, false, false, false, false, false] rfl rfl (take_ofW HT_.out HW_.out (by kernel_rfl)) (fun _ _ _ h => h) (Or.inl ⟨by rfl, ?_⟩) hHeld ?_ ?_
   rotate_left
   {
   rintro w' ⟨s0, s1, s2, s3⟩
   go_simp
   with_reducible rfl }
   rotate_left
   {
   simp only [Act.put, sT, s0, s1, i64_w, i32_w]
   rfl }
   refine take_ (i := 8) (N := some 72) (v := ?_) (a' := ?_) #[true, true, true, true, true, true, true, false, true, false, false, false, false, false, false, false, false, false, false, false, false, false, false, false] rfl rfl (take_ofW HT_.out HW_.out (by kernel_rfl)) (fun _ _ _ h => h) (Or.inl ⟨by rfl, ?_⟩) hHeld ?_ ?_
   rotate_left
   {
   rintro w' ⟨s0, s1, s2, s3⟩
   go_simp
   with_reducible rfl }
   rotate_left
   {
   simp only [Act.put, sT, s0, s1, i64_w, i32_w]
   rfl }
   refine take_ (i := 9) (N := some 73) (v := ?_) (a' := ?_) #[true, true, true, true, true, true, true, false, true, true, false, false, false, false, false, false, false, false, false, false, false, false, false, false] rfl rfl (take_ofW HT_.out HW_.out (by kernel_rfl)) (fun _ _ _ h => h) (Or.inl ⟨by rfl, ?_⟩) hHeld ?_ ?_
   rotate_left
   {
   rintro w' ⟨s0, s1, s2, s3⟩
   go_simp
   with_reducible rfl }
   rotate_left
   {
   simp only [Act.put, sT, s0, s1, i64_w, i32_w]
   rfl }
   refine one_ (i := 7) (N := some 71) #[true, true, true, true, true, true, true, true, true, true, false, false, false, false, false, false, false, false, false, false, false, false, false, false] rfl rfl (one_of HT_.out (by kernel_rfl)) (by decide) (fun K hK => ?_)
   refine goes_ Try.func13 (by kernel_rfl) rfl #[.agg #[.slice A0_0 l0_0.length c0_0, .slice A0_1 l0_1.length c0_1], .agg #[.slice A0_2 l0_2.length c0_2, .slice A0_3 l0_3.length c0_3]] (by rfl) rfl rfl (by (try simp only [List.map_toArray, List.map_cons, List.map_nil]); first | done | rfl | (simp only [List.length_drop, List.length_take]; rfl)) ?_
   with_reducible refine (disk_Same.calls kj2 _ _ l0_0 _ _ l0_1 _ _ l0_2 _ _ l0_3 t307 _ ?side1 ?side2 ?side3 ?side4 ?side5 ?side6 ?side7 ?side8 A76.out).mono ?_
   (case side1 => exact Kd.C_below HR0_0.out bb)
   (case side2 => exact HC0_0.out)
   (case side3 => exact Kd.C_below HR0_1.out bb)
   (case side4 => exact HC0_1.out)
   (case side5 => exact Kd.C_below HR0_2.out bb)
   (case side6 => exact HC0_2.out)
   (case side7 => exact Kd.C_below HR0_3.out bb)
   (case side8 => exact HC0_3.out)
   rintro e w81 ⟨rfl, hb⟩
   refine ⟨_, rfl, ?_⟩
   have n0_ := aS (Kd.R_below (rr HO291.out) hb)
   have n1_ := aS (Kd.R_below (rr HO294.out) hb)
   have n2_ := aS (Kd.R_below (rr HO299.out) hb)
   have n3_ := aS (Kd.R_below (rr HO302.out) hb)
   have n4_ := aS (kb BK283.out hb)
   have n5_ := aS (kb BK284.out hb)
   have n6_ := aS (kb BK285.out hb)
   have n7_ := aS (kb BK296.out hb)
   have n8_ := aS (kb BK304.out hb)
   have n9_ := aS (below_step bb hb)
   clear HO291
   clear HO294
   clear HO299
   clear HO302
   clear BK283
   clear BK284
   clear BK285
   clear BK296
   clear BK304
   clear HB
   have HO291 := n0_
   have HO294 := n1_
   have HO299 := n2_
   have HO302 := n3_
   have BK283 := n4_
   have BK284 := n5_
   have BK285 := n6_
   have BK296 := n7_
   have BK304 := n8_
   have HB := n9_
   clear n0_ n1_ n2_ n3_ n4_ n5_ n6_ n7_ n8_ n9_
   (try clear hb)
   (try clear hb2)
   (try clear hk)
   (try clear hi)
   refine hK.out _ _ ⟨(blk_cell BK284.out 0).trans rfl, (blk_cell BK284.out 1).trans rfl, (blk_cell BK285.out 0).trans rfl, (blk_cell BK285.out 1).trans rfl⟩ (fun hHeld => ?_)
   clear hK K
   refine norm_ (a' := ?_) ?_ ?_
   rotate_left
   {
   show Act.put _ (some 71) _ = _
   simp only [Act.put, sT, s0, s1, i64_w, i32_w]
   rfl }
   refine one_ (i := 10) (N := some 74) #[true, true, true, true, true, true, true, true, true, true, true, false, false, false, false, false, false, false, false, false, false, false, false, false] rfl rfl (one_of HT_.out (by kernel_rfl)) (by decide) (fun K hK => ?_)
   refine goes_ Try.func14 (by kernel_rfl) rfl #[.agg #[.slice A0_0 l0_0.length c0_0, .slice A0_1 l0_1.length c0_1], .agg #[.slice A0_2 l0_2.length c0_2, .slice A0_3 l0_3.length c0_3]] (by rfl) rfl rfl (by (try simp only [List.map_toArray, List.map_cons, List.map_nil]); first | done | rfl | (simp only [List.length_drop, List.length_take]; rfl)) ?_
   with_reducible refine (hallmootref22_Same.calls kj2 _ _ l0_0 _ _ l0_1 _ _ l0_2 _ _ l0_3 t308 _ ?side1 ?side2 ?side3 ?side4 ?side5 ?side6 ?side7 ?side8 A77.out).mono ?_
   (case side1 => exact Kd.C_below HR0_0.out bb)
   (case side2 => exact HC0_0.out)
   (case side3 => exact Kd.C_below HR0_1.out bb)
   (case side4 => exact HC0_1.out)
   (case side5 => exact Kd.C_below HR0_2.out bb)
   (case side6 => exact HC0_2.out)
   (case side7 => exact Kd.C_below HR0_3.out bb)
   (case side8 => exact HC0_3.out)
   rintro e w82 ⟨rfl, hb⟩
   refine ⟨_, rfl, ?_⟩
   have n0_ := aS (Kd.R_below (rr HO291.out) hb)
   have n1_ := aS (Kd.R_below (rr HO294.out) hb)
   have n2_ := aS (Kd.R_below (rr HO299.out) hb)
   have n3_ := aS (Kd.R_below (rr HO302.out) hb)
   have n4_ := aS (kb BK283.out hb)
   have n5_ := aS (kb BK284.out hb)
   have n6_ := aS (kb BK285.out hb)
   have n7_ := aS (kb BK296.out hb)
   have n8_ := aS (kb BK304.out hb)
   have n9_ := aS (below_step bb hb)
   clear HO291
   clear HO294
   clear HO299
   clear HO302
   clear BK283
   clear BK284
   clear BK285
   clear BK296
   clear BK304
   clear HB
   have HO291 := n0_
   have HO294 := n1_
   have HO299 := n2_
   have HO302 := n3_
   have BK283 := n4_
   have BK284 := n5_
   have BK285 := n6_
   have BK296 := n7_
   have BK304 := n8_
   have HB := n9_
   clear n0_ n1_ n2_ n3_ n4_ n5_ n6_ n7_ n8_ n9_
   (try clear hb)
   (try clear hb2)
   (try clear hk)
   (try clear hi)
   refine hK.out _ _ ⟨(blk_cell BK284.out 0).trans rfl, (blk_cell BK284.out 1).trans rfl, (blk_cell BK285.out 0).trans rfl, (blk_cell BK285.out 1).trans rfl⟩ (fun hHeld => ?_)
   clear hK K
   refine norm_ (a' := ?_) ?_ ?_
   rotate_left
   {
   show Act.put _ (some 74) _ = _
   simp only [Act.put, sT, s0, s1, i64_w, i32_w]
   rfl }
   refine pure_ (i := 11) (N := some 75) (v := ?_) (a' := ?_) #[true, true, true, true, true, true, true, true, true, true, true, true, false, false, false, false, false, false, false, false, false, false, false, false] rfl rfl (any_of HT_.out (by kernel_rfl)) (fun _ _ _ h => h) (Or.inl ⟨by rfl, ?_⟩) ?_ ?_
   rotate_left
   {
   intro w'
   go_simp
   with_reducible rfl }
   rotate_left
   {
   simp only [Act.put, sT, s0, s1, i64_w, i32_w]
   rfl }
   refine pure_ (i := 12) (N := some 76) (v := ?_) (a' := ?_) #[true, true, true, true, true, true, true, true, true, true, true, true, true, false, false, false, false, false, false, false, false, false, false, false] rfl rfl (any_of HT_.out (by kernel_rfl)) (fun _ _ _ h => h) (Or.inl ⟨by rfl, ?_⟩) ?_ ?_
   rotate_left
   {
   intro w'
   go_simp
   with_reducible rfl }
   rotate_left
   {
   simp only [Act.put, sT, s0, s1, i64_w, i32_w]
   rfl }
   refine pure_ (i := 13) (N := some 77) (v := ?_) (a' := ?_) #[true, true, true, true, true, true, true, true, true, true, true, true, true, true, false, false, false, false, false, false, false, false, false, false] rfl rfl (any_of HT_.out (by kernel_rfl)) (fun _ _ _ h => h) (Or.inl ⟨by rfl, ?_⟩) ?_ ?_
   rotate_left
   {
   intro w'
   go_simp
   with_reducible rfl }
   rotate_left
   {
   simp only [Act.put, sT, s0, s1, i64_w, i32_w]
   rfl }
   refine pure_ (i := 14) (N := some 78) (v := undef) (a' := ?_) #[true, true, true, true, true, true, true, true, true, true, true, true, true, true, true, false, false, false, false, false, false, false, false, false] rfl rfl (any_of HT_.out (by kernel_rfl)) (fun _ _ _ h => h) (Or.inr ⟨by rfl, rfl⟩) ?_ ?_
   rotate_left
   {
   simp only [Act.put, sT, s0, s1, i64_w, i32_w]
   rfl }
   refine pure_ (i := 15) (N := some 79) (v := undef) (a' := ?_) #[true, true, true, true, true, true, true, true, true, true, true, true, true, true, true, true, false, false, false, false, false, false, false, false] rfl rfl (any_of HT_.out (by kernel_rfl)) (fun _ _ _ h => h) (Or.inr ⟨by rfl, rfl⟩) ?_ ?_
   rotate_left
   {
   simp only [Act.put, sT, s0, s1, i64_w, i32_w]
   rfl }
   refine pure_ (i := 16) (N := some 80) (v := undef) (a' := ?_) #[true, true, true, true, true, true, true, true, true, true, true, true, true, true, true, true, true, false, false, false, false, false, false, false] rfl rfl (any_of HT_.out (by kernel_rfl)) (fun _ _ _ h => h) (Or.inr ⟨by rfl, rfl⟩) ?_ ?_
   rotate_left
   {
   simp only [Act.put, sT, s0, s1, i64_w, i32_w]
   rfl }
   refine pure_ (i := 17) (N := some 81) (v := undef) (a' := ?_) #[true, true, true, true, true, true, true, true, true, true, true, true, true, true, true, true, true, true, false, false, false, false, false, false] rfl rfl (any_of HT_.out (by kernel_rfl)) (fun _ _ _ h => h) (Or.inr ⟨by rfl, rfl⟩) ?_ ?_
   rotate_left
   {
   simp only [Act.put, sT, s0, s1, i64_w, i32_w]
   rfl }
   refine pure_ (i := 18) (N := some 82) (v := ?_) (a' := ?_) #[true, true, true, true, true, true, true, true, true, true, true, true, true, true, true, true, true, true, true, false, false, false, false, false] rfl rfl (any_of HT_.out (by kernel_rfl)) (fun _ _ _ h => h) (Or.inl ⟨by rfl, ?_⟩) ?_ ?_
   rotate_left
   {
   intro w'
   go_simp
   with_reducible rfl }
   rotate_left
   {
   simp only [Act.put, sT, s0, s1, i64_w, i32_w]
   rfl }
   refine pure_ (i := 19) (N := some 83) (v := ?_) (a' := ?_) #[true, true, true, true, true, true, true, true, true, true, true, true, true, true, true, true, true, true, true, true, false, false, false, false] rfl rfl (any_of HT_.out (by kernel_rfl)) (fun _ _ _ h => h) (Or.inl ⟨by rfl, ?_⟩) ?_ ?_
   rotate_left
   {
   intro w'
   go_simp
   with_reducible rfl }
   rotate_left
   {
   simp only [Act.put, sT, s0, s1, i64_w, i32_w]
   rfl }
   refine pure_ (i := 20) (N := some 84) (v := undef) (a' := ?_) #[true, true, true, true, true, true, true, true, true, true, true, true, true, true, true, true, true, true, true, true, true, false, false, false] rfl rfl (any_of HT_.out (by kernel_rfl)) (fun _ _ _ h => h) (Or.inr ⟨by rfl, rfl⟩) ?_ ?_
   rotate_left
   {
   simp only [Act.put, sT, s0, s1, i64_w, i32_w]
   rfl }
   refine pure_ (i := 21) (N := some 85) (v := undef) (a' := ?_) #[true, true, true, true, true, true, true, true, true, true, true, true, true, true, true, true, true, true, true, true, true, true, false, false] rfl rfl (any_of HT_.out (by kernel_rfl)) (fun _ _ _ h => h) (Or.inr ⟨by rfl, rfl⟩) ?_ ?_
   rotate_left
   {
   simp only [Act.put, sT, s0, s1, i64_w, i32_w]
   rfl }
   refine pure_ (i := 22) (N := some 86) (v := undef) (a' := ?_) #[true, true, true, true, true, true, true, true, true, true, true, true, true, true, true, true, true, true, true, true, true, true, true, false] rfl rfl (any_of HT_.out (by kernel_rfl)) (fun _ _ _ h => h) (Or.inr ⟨by rfl, rfl⟩) ?_ ?_
   rotate_left
   {
   simp only [Act.put, sT, s0, s1, i64_w, i32_w]
   rfl }
   refine pure_ (i := 23) (N := some 87) (v := ?_) (a' := ?_) #[true, true, true, true, true, true, true, true, true, true, true, true, true, true, true, true, true, true, true, true, true, true, true, true] rfl rfl (any_of HT_.out (by kernel_rfl)) (fun _ _ _ h => h) (Or.inl ⟨by rfl, ?_⟩) ?_ ?_
   rotate_left
   {
   intro w'
   go_simp
   with_reducible rfl }
   rotate_left
   {
   simp only [Act.put, sT, s0, s1, i64_w, i32_w]
   rfl }
   refine done_ (done_of HT_.out (by kernel_rfl)) ?_
   try go_wp2
   go_meet
   case rel => exact ⟨_, (true), (by first | rfl | (simp; done) | (simp [*]; done)), H', ⟨by have := HJ2.out; first | omega | exact Nat.le_refl _⟩, ⟨by (with_reducible repeat (first | apply Kd.R_alloc | apply Kd.R_drewN | apply Kd.R_drew)); exact Kd.R_mono HO291.out (fun _ hk => hk.2)⟩, ⟨by (with_reducible repeat (first | apply Kd.R_alloc | apply Kd.R_drewN | apply Kd.R_drew)); exact Kd.R_mono HO294.out (fun _ hk => hk.2)⟩, ⟨by (with_reducible repeat (first | apply Kd.R_alloc | apply Kd.R_drewN | apply Kd.R_drew)); exact Kd.R_mono HO299.out (fun _ hk => hk.2)⟩, ⟨by (with_reducible repeat (first | apply Kd.R_alloc | apply Kd.R_drewN | apply Kd.R_drew)); exact Kd.R_mono HO302.out (fun _ hk => hk.2)⟩, ⟨kk BK283.out⟩, ⟨kk BK284.out⟩, ⟨kk BK285.out⟩, ⟨kk BK296.out⟩, ⟨kk BK304.out⟩, ⟨by repeat (first | (with_reducible first | exact HB.out | apply below_alloc | apply pw_below_drewN | apply below_drew1 | refine below_set ?_ GE283.out | refine below_set ?_ GE284.out | refine below_set ?_ GE285.out | refine below_set ?_ GE296.out | refine below_set ?_ GE304.out) | exact HB.out)⟩⟩ }
   {
   rw [if_neg c78] at H
   have c78b0 : (t307 != t308) = false := by simpa using c78
   (try (have c78b1 : decide (t307 = t308) = true := by simpa using c78))
   (try (have c78b2 : (t307 == t308) = true := by simpa using c78))
   clear c78
   replace H := Option.bind_eq_some_iff.mp H
   obtain ⟨t309, A830, H⟩ := H
   replace H : (if t309 = true then (hallmootlaw22_DiskMatchesSpec.j1 kj2 a0_4 a0_5 l0_6 t286 t305 (t295 != t303) l0_0 l0_1) else (hallmootlaw22_DiskMatchesSpec.j1 kj2 a0_4 a0_5 l0_6 t286 t305 true l0_0 l0_1)) = some r := H
   have A83 := aS A830
   clear A830
   by_cases c84 : t309 = true
   {
   subst c84
   have H1 : (hallmootlaw22_DiskMatchesSpec.j1 kj2 a0_4 a0_5 l0_6 t286 t305 (t295 != t303) l0_0 l0_1) = some r := by rw [if_pos rfl] at H; exact H
   clear H
   have H := H1
   clear H1
   have H' := aS H
   clear H
   try go_wp2
   have n0_ := aS (Kd.R_drew HO291.out)
   have n1_ := aS (Kd.R_drew HO294.out)
   have n2_ := aS (Kd.R_drew HO299.out)
   have n3_ := aS (Kd.R_drew HO302.out)
   have n4_ := aS (blk_drew BK283.out)
   have n5_ := aS (blk_drew BK284.out)
   have n6_ := aS (blk_drew BK285.out)
   have n7_ := aS (blk_drew BK296.out)
   have n8_ := aS (blk_drew BK304.out)
   have n9_ := aS (below_drew1 HB.out)
   clear HO291
   clear HO294
   clear HO299
   clear HO302
   clear BK283
   clear BK284
   clear BK285
   clear BK296
   clear BK304
   clear HB
   have HO291 := n0_
   have HO294 := n1_
   have HO299 := n2_
   have HO302 := n3_
   have BK283 := n4_
   have BK284 := n5_
   have BK285 := n6_
   have BK296 := n7_
   have BK304 := n8_
   have HB := n9_
   clear n0_ n1_ n2_ n3_ n4_ n5_ n6_ n7_ n8_ n9_
   refine start_ (n := 24) (S := fun w' => w'.cell? ⟨gb284, 0, none⟩ = some (.slice A0_0 l0_0.length c0_0) ∧ w'.cell? ⟨gb284, 1, none⟩ = some (.slice A0_1 l0_1.length c0_1) ∧ w'.cell? ⟨gb285, 0, none⟩ = some (.slice A0_2 l0_2.length c0_2) ∧ w'.cell? ⟨gb285, 1, none⟩ = some (.slice A0_3 l0_3.length c0_3) ∧ w'.cell? ⟨gb296, 0, none⟩ = some (.slice Ao53 t289.length co53) ∧ w'.cell? ⟨gb296, 1, none⟩ = some (.slice Ao58 t292.length co58) ∧ w'.cell? ⟨gb304, 0, none⟩ = some (.slice Ao61 t297.length co61) ∧ w'.cell? ⟨gb304, 1, none⟩ = some (.slice Ao67 t300.length co67)) (ds := []) #[false, false, false, false, false, false, false, false, false, false, false, false, false, false, false, false, false, false, false, false, false, false, false, false] (by kernel_rfl) rfl rfl ⟨(blk_cell BK284.out 0).trans rfl, (blk_cell BK284.out 1).trans rfl, (blk_cell BK285.out 0).trans rfl, (blk_cell BK285.out 1).trans rfl, (blk_cell BK296.out 0).trans rfl, (blk_cell BK296.out 1).trans rfl, (blk_cell BK304.out 0).trans rfl, (blk_cell BK304.out 1).trans rfl⟩ (fun hHeld => ?_); refine with_tabW hallmootlaw22_DiskMatchesSpec.tab12 hallmootlaw22_DiskMatchesSpec.bits12 (fun HT_ HW_ => ?_)
   generalize w71.drew = w85 at HO291 HO294 HO299 HO302 BK283 BK284 BK285 BK296 BK304 HB hHeld ⊢
   refine pure_ (i := 2) (N := some 66) (v := ?_) (a' := ?_) #[false, false, true, false, false, false, false, false, false, false, false, false, false, false, false, false, false, false, false, false, false, false, false, false] rfl rfl (any_of HT_.out (by kernel_rfl)) (fun _ _ _ h => h) (Or.inl ⟨by rfl, ?_⟩) ?_ ?_
   rotate_left
   {
   intro w'
   go_simp
   with_reducible rfl }
   rotate_left
   {
   simp only [Act.put, sT, s0, s1, i64_w, i32_w]
   rfl }
   refine take_ (i := 0) (N := some 64) (v := ?_) (a' := ?_) #[true, false, true, false, false, false, false, false, false, false, false, false, false, false, false, false, false, false, false, false, false, false, false, false] rfl rfl (take_ofW HT_.out HW_.out (by kernel_rfl)) (fun _ _ _ h => h) (Or.inl ⟨by rfl, ?_⟩) hHeld ?_ ?_
   rotate_left
   {
   rintro w' ⟨s0, s1, s2, s3, s4, s5, s6, s7⟩
   go_simp
   with_reducible rfl }
   rotate_left
   {
   simp only [Act.put, sT, s0, s1, i64_w, i32_w]
   rfl }
   refine one_ (i := 1) (N := some 65) #[true, true, true, false, false, false, false, false, false, false, false, false, false, false, false, false, false, false, false, false, false, false, false, false] rfl rfl (one_of HT_.out (by kernel_rfl)) (by decide) (fun K hK => ?_)
   refine goes_ Try.func12 (by kernel_rfl) rfl #[.agg #[.slice A0_0 l0_0.length c0_0, .slice A0_1 l0_1.length c0_1]] (by rfl) rfl rfl (by (try simp only [List.map_toArray, List.map_cons, List.map_nil]); first | done | rfl | (simp only [List.length_drop, List.length_take]; rfl)) ?_
   with_reducible refine (dRight.calls _ _ l0_0 _ _ l0_1 t306 _ ?side1 ?side2 ?side3 ?side4 A72.out).mono ?_
   (case side1 => exact Kd.C_below HR0_0.out bb)
   (case side2 => exact HC0_0.out)
   (case side3 => exact Kd.C_below HR0_1.out bb)
   (case side4 => exact HC0_1.out)
   rintro e w86 ⟨rfl, hb⟩
   refine ⟨_, rfl, ?_⟩
   have n0_ := aS (Kd.R_below (rr HO291.out) hb)
   have n1_ := aS (Kd.R_below (rr HO294.out) hb)
   have n2_ := aS (Kd.R_below (rr HO299.out) hb)
   have n3_ := aS (Kd.R_below (rr HO302.out) hb)
   have n4_ := aS (kb BK283.out hb)
   have n5_ := aS (kb BK284.out hb)
   have n6_ := aS (kb BK285.out hb)
   have n7_ := aS (kb BK296.out hb)
   have n8_ := aS (kb BK304.out hb)
   have n9_ := aS (below_step bb hb)
   clear HO291
   clear HO294
   clear HO299
   clear HO302
   clear BK283
   clear BK284
   clear BK285
   clear BK296
   clear BK304
   clear HB
   have HO291 := n0_
   have HO294 := n1_
   have HO299 := n2_
   have HO302 := n3_
   have BK283 := n4_
   have BK284 := n5_
   have BK285 := n6_
   have BK296 := n7_
   have BK304 := n8_
   have HB := n9_
   clear n0_ n1_ n2_ n3_ n4_ n5_ n6_ n7_ n8_ n9_
   (try clear hb)
   (try clear hb2)
   (try clear hk)
   (try clear hi)
   refine hK.out _ _ ⟨(blk_cell BK284.out 0).trans rfl, (blk_cell BK284.out 1).trans rfl, (blk_cell BK285.out 0).trans rfl, (blk_cell BK285.out 1).trans rfl, (blk_cell BK296.out 0).trans rfl, (blk_cell BK296.out 1).trans rfl, (blk_cell BK304.out 0).trans rfl, (blk_cell BK304.out 1).trans rfl⟩ (fun hHeld => ?_)
   clear hK K
   refine norm_ (a' := ?_) ?_ ?_
   rotate_left
   {
   show Act.put _ (some 65) _ = _
   simp only [Act.put, sT, s0, s1, i64_w, i32_w]
   rfl }
   refine pure_ (i := 3) (N := some 67) (v := ?_) (a' := ?_) #[true, true, true, true, false, false, false, false, false, false, false, false, false, false, false, false, false, false, false, false, false, false, false, false] rfl rfl (any_of HT_.out (by kernel_rfl)) (fun _ _ _ h => h) (Or.inl ⟨by rfl, ?_⟩) ?_ ?_
   rotate_left
   {
   intro w'
   go_simp
   with_reducible rfl }
   rotate_left
   {
   simp only [Act.put, sT, s0, s1, i64_w, i32_w]
   rfl }
   refine pure_ (i := 4) (N := some 68) (v := ?_) (a' := ?_) #[true, true, true, true, true, false, false, false, false, false, false, false, false, false, false, false, false, false, false, false, false, false, false, false] rfl rfl (any_of HT_.out (by kernel_rfl)) (fun _ _ _ h => h) (Or.inl ⟨by rfl, ?_⟩) ?_ ?_
   rotate_left
   {
   intro w'
   go_simp
   with_reducible rfl }
   rotate_left
   {
   simp only [Act.put, sT, s0, s1, i64_w, i32_w]
   rfl }
   refine take_ (i := 5) (N := some 69) (v := ?_) (a' := ?_) #[true, true, true, true, true, true, false, false, false, false, false, false, false, false, false, false, false, false, false, false, false, false, false, false] rfl rfl (take_ofW HT_.out HW_.out (by kernel_rfl)) (fun _ _ _ h => h) (Or.inl ⟨by rfl, ?_⟩) hHeld ?_ ?_
   rotate_left
   {
   rintro w' ⟨s0, s1, s2, s3, s4, s5, s6, s7⟩
   go_simp
   with_reducible rfl }
   rotate_left
   {
   simp only [Act.put, sT, s0, s1, i64_w, i32_w]
   rfl }
   refine take_ (i := 6) (N := some 70) (v := ?_) (a' := ?_) #[true, true, true, true, true, true, true, false, false, false, false, false, false, false, false, false, false, false, false, false, false, false, false, false] rfl rfl (take_ofW HT_.out HW_.out (by kernel_rfl)) (fun _ _ _ h => h) (Or.inl ⟨by rfl, ?_⟩) hHeld ?_ ?_
   rotate_left
   {
   rintro w' ⟨s0, s1, s2, s3, s4, s5, s6, s7⟩
   go_simp
   with_reducible rfl }
   rotate_left
   {
   simp only [Act.put, sT, s0, s1, i64_w, i32_w]
   rfl }
   refine take_ (i := 8) (N := some 72) (v := ?_) (a' := ?_) #[true, true, true, true, true, true, true, false, true, false, false, false, false, false, false, false, false, false, false, false, false, false, false, false] rfl rfl (take_ofW HT_.out HW_.out (by kernel_rfl)) (fun _ _ _ h => h) (Or.inl ⟨by rfl, ?_⟩) hHeld ?_ ?_
   rotate_left
   {
   rintro w' ⟨s0, s1, s2, s3, s4, s5, s6, s7⟩
   go_simp
   with_reducible rfl }
   rotate_left
   {
   simp only [Act.put, sT, s0, s1, i64_w, i32_w]
   rfl }
   refine take_ (i := 9) (N := some 73) (v := ?_) (a' := ?_) #[true, true, true, true, true, true, true, false, true, true, false, false, false, false, false, false, false, false, false, false, false, false, false, false] rfl rfl (take_ofW HT_.out HW_.out (by kernel_rfl)) (fun _ _ _ h => h) (Or.inl ⟨by rfl, ?_⟩) hHeld ?_ ?_
   rotate_left
   {
   rintro w' ⟨s0, s1, s2, s3, s4, s5, s6, s7⟩
   go_simp
   with_reducible rfl }
   rotate_left
   {
   simp only [Act.put, sT, s0, s1, i64_w, i32_w]
   rfl }
   refine one_ (i := 7) (N := some 71) #[true, true, true, true, true, true, true, true, true, true, false, false, false, false, false, false, false, false, false, false, false, false, false, false] rfl rfl (one_of HT_.out (by kernel_rfl)) (by decide) (fun K hK => ?_)
   refine goes_ Try.func13 (by kernel_rfl) rfl #[.agg #[.slice A0_0 l0_0.length c0_0, .slice A0_1 l0_1.length c0_1], .agg #[.slice A0_2 l0_2.length c0_2, .slice A0_3 l0_3.length c0_3]] (by rfl) rfl rfl (by (try simp only [List.map_toArray, List.map_cons, List.map_nil]); first | done | rfl | (simp only [List.length_drop, List.length_take]; rfl)) ?_
   with_reducible refine (disk_Same.calls kj2 _ _ l0_0 _ _ l0_1 _ _ l0_2 _ _ l0_3 t307 _ ?side1 ?side2 ?side3 ?side4 ?side5 ?side6 ?side7 ?side8 A76.out).mono ?_
   (case side1 => exact Kd.C_below HR0_0.out bb)
   (case side2 => exact HC0_0.out)
   (case side3 => exact Kd.C_below HR0_1.out bb)
   (case side4 => exact HC0_1.out)
   (case side5 => exact Kd.C_below HR0_2.out bb)
   (case side6 => exact HC0_2.out)
   (case side7 => exact Kd.C_below HR0_3.out bb)
   (case side8 => exact HC0_3.out)
   rintro e w87 ⟨rfl, hb⟩
   refine ⟨_, rfl, ?_⟩
   have n0_ := aS (Kd.R_below (rr HO291.out) hb)
   have n1_ := aS (Kd.R_below (rr HO294.out) hb)
   have n2_ := aS (Kd.R_below (rr HO299.out) hb)
   have n3_ := aS (Kd.R_below (rr HO302.out) hb)
   have n4_ := aS (kb BK283.out hb)
   have n5_ := aS (kb BK284.out hb)
   have n6_ := aS (kb BK285.out hb)
   have n7_ := aS (kb BK296.out hb)
   have n8_ := aS (kb BK304.out hb)
   have n9_ := aS (below_step bb hb)
   clear HO291
   clear HO294
   clear HO299
   clear HO302
   clear BK283
   clear BK284
   clear BK285
   clear BK296
   clear BK304
   clear HB
   have HO291 := n0_
   have HO294 := n1_
   have HO299 := n2_
   have HO302 := n3_
   have BK283 := n4_
   have BK284 := n5_
   have BK285 := n6_
   have BK296 := n7_
   have BK304 := n8_
   have HB := n9_
   clear n0_ n1_ n2_ n3_ n4_ n5_ n6_ n7_ n8_ n9_
   (try clear hb)
   (try clear hb2)
   (try clear hk)
   (try clear hi)
   refine hK.out _ _ ⟨(blk_cell BK284.out 0).trans rfl, (blk_cell BK284.out 1).trans rfl, (blk_cell BK285.out 0).trans rfl, (blk_cell BK285.out 1).trans rfl, (blk_cell BK296.out 0).trans rfl, (blk_cell BK296.out 1).trans rfl, (blk_cell BK304.out 0).trans rfl, (blk_cell BK304.out 1).trans rfl⟩ (fun hHeld => ?_)
   clear hK K
   refine norm_ (a' := ?_) ?_ ?_
   rotate_left
   {
   show Act.put _ (some 71) _ = _
   simp only [Act.put, sT, s0, s1, i64_w, i32_w]
   rfl }
   refine one_ (i := 10) (N := some 74) #[true, true, true, true, true, true, true, true, true, true, true, false, false, false, false, false, false, false, false, false, false, false, false, false] rfl rfl (one_of HT_.out (by kernel_rfl)) (by decide) (fun K hK => ?_)
   refine goes_ Try.func14 (by kernel_rfl) rfl #[.agg #[.slice A0_0 l0_0.length c0_0, .slice A0_1 l0_1.length c0_1], .agg #[.slice A0_2 l0_2.length c0_2, .slice A0_3 l0_3.length c0_3]] (by rfl) rfl rfl (by (try simp only [List.map_toArray, List.map_cons, List.map_nil]); first | done | rfl | (simp only [List.length_drop, List.length_take]; rfl)) ?_
   with_reducible refine (hallmootref22_Same.calls kj2 _ _ l0_0 _ _ l0_1 _ _ l0_2 _ _ l0_3 t308 _ ?side1 ?side2 ?side3 ?side4 ?side5 ?side6 ?side7 ?side8 A77.out).mono ?_
   (case side1 => exact Kd.C_below HR0_0.out bb)
   (case side2 => exact HC0_0.out)
   (case side3 => exact Kd.C_below HR0_1.out bb)
   (case side4 => exact HC0_1.out)
   (case side5 => exact Kd.C_below HR0_2.out bb)
   (case side6 => exact HC0_2.out)
   (case side7 => exact Kd.C_below HR0_3.out bb)
   (case side8 => exact HC0_3.out)
   rintro e w88 ⟨rfl, hb⟩
   refine ⟨_, rfl, ?_⟩
   have n0_ := aS (Kd.R_below (rr HO291.out) hb)
   have n1_ := aS (Kd.R_below (rr HO294.out) hb)
   have n2_ := aS (Kd.R_below (rr HO299.out) hb)
   have n3_ := aS (Kd.R_below (rr HO302.out) hb)
   have n4_ := aS (kb BK283.out hb)
   have n5_ := aS (kb BK284.out hb)
   have n6_ := aS (kb BK285.out hb)
   have n7_ := aS (kb BK296.out hb)
   have n8_ := aS (kb BK304.out hb)
   have n9_ := aS (below_step bb hb)
   clear HO291
   clear HO294
   clear HO299
   clear HO302
   clear BK283
   clear BK284
   clear BK285
   clear BK296
   clear BK304
   clear HB
   have HO291 := n0_
   have HO294 := n1_
   have HO299 := n2_
   have HO302 := n3_
   have BK283 := n4_
   have BK284 := n5_
   have BK285 := n6_
   have BK296 := n7_
   have BK304 := n8_
   have HB := n9_
   clear n0_ n1_ n2_ n3_ n4_ n5_ n6_ n7_ n8_ n9_
   (try clear hb)
   (try clear hb2)
   (try clear hk)
   (try clear hi)
   refine hK.out _ _ ⟨(blk_cell BK284.out 0).trans rfl, (blk_cell BK284.out 1).trans rfl, (blk_cell BK285.out 0).trans rfl, (blk_cell BK285.out 1).trans rfl, (blk_cell BK296.out 0).trans rfl, (blk_cell BK296.out 1).trans rfl, (blk_cell BK304.out 0).trans rfl, (blk_cell BK304.out 1).trans rfl⟩ (fun hHeld => ?_)
   clear hK K
   refine norm_ (a' := ?_) ?_ ?_
   rotate_left
   {
   show Act.put _ (some 74) _ = _
   simp only [Act.put, sT, s0, s1, i64_w, i32_w]
   rfl }
   refine pure_ (i := 11) (N := some 75) (v := ?_) (a' := ?_) #[true, true, true, true, true, true, true, true, true, true, true, true, false, false, false, false, false, false, false, false, false, false, false, false] rfl rfl (any_of HT_.out (by kernel_rfl)) (fun _ _ _ h => h) (Or.inl ⟨by rfl, ?_⟩) ?_ ?_
   rotate_left
   {
   intro w'
   go_simp
   with_reducible rfl }
   rotate_left
   {
   simp only [Act.put, sT, s0, s1, i64_w, i32_w]
   rfl }
   refine pure_ (i := 12) (N := some 76) (v := ?_) (a' := ?_) #[true, true, true, true, true, true, true, true, true, true, true, true, true, false, false, false, false, false, false, false, false, false, false, false] rfl rfl (any_of HT_.out (by kernel_rfl)) (fun _ _ _ h => h) (Or.inl ⟨by rfl, ?_⟩) ?_ ?_
   rotate_left
   {
   intro w'
   go_simp
   with_reducible rfl }
   rotate_left
   {
   simp only [Act.put, sT, s0, s1, i64_w, i32_w]
   rfl }
   refine pure_ (i := 13) (N := some 77) (v := ?_) (a' := ?_) #[true, true, true, true, true, true, true, true, true, true, true, true, true, true, false, false, false, false, false, false, false, false, false, false] rfl rfl (any_of HT_.out (by kernel_rfl)) (fun _ _ _ h => h) (Or.inl ⟨by rfl, ?_⟩) ?_ ?_
   rotate_left
   {
   intro w'
   go_simp
   with_reducible rfl }
   rotate_left
   {
   simp only [Act.put, sT, s0, s1, i64_w, i32_w]
   rfl }
   refine take_ (i := 14) (N := some 78) (v := ?_) (a' := ?_) #[true, true, true, true, true, true, true, true, true, true, true, true, true, true, true, false, false, false, false, false, false, false, false, false] rfl rfl (take_ofW HT_.out HW_.out (by kernel_rfl)) (fun _ _ _ h => h) (Or.inl ⟨by rfl, ?_⟩) hHeld ?_ ?_
   rotate_left
   {
   rintro w' ⟨s0, s1, s2, s3, s4, s5, s6, s7⟩
   go_simp
   with_reducible rfl }
   rotate_left
   {
   simp only [Act.put, sT, s0, s1, i64_w, i32_w]
   rfl }
   refine take_ (i := 15) (N := some 79) (v := ?_) (a' := ?_) #[true, true, true, true, true, true, true, true, true, true, true, true, true, true, true, true, false, false, false, false, false, false, false, false] rfl rfl (take_ofW HT_.out HW_.out (by kernel_rfl)) (fun _ _ _ h => h) (Or.inl ⟨by rfl, ?_⟩) hHeld ?_ ?_
   rotate_left
   {
   rintro w' ⟨s0, s1, s2, s3, s4, s5, s6, s7⟩
   go_simp
   with_reducible rfl }
   rotate_left
   {
   simp only [Act.put, sT, s0, s1, i64_w, i32_w]
   rfl }
   refine one_ (i := 16) (N := some 80) #[true, true, true, true, true, true, true, true, true, true, true, true, true, true, true, true, true, false, false, false, false, false, false, false] rfl rfl (one_of HT_.out (by kernel_rfl)) (by decide) (fun K hK => ?_)
   refine goes_ Try.func14 (by kernel_rfl) rfl #[.agg #[.slice Ao53 t289.length co53, .slice Ao58 t292.length co58], .agg #[.slice Ao61 t297.length co61, .slice Ao67 t300.length co67]] (by rfl) rfl rfl (by (try simp only [List.map_toArray, List.map_cons, List.map_nil]); first | done | rfl | (simp only [List.length_drop, List.length_take]; rfl)) ?_
   with_reducible refine (hallmootref22_Same.calls kj2 _ _ t289 _ _ t292 _ _ t297 _ _ t300 true _ ?side1 ?side2 ?side3 ?side4 ?side5 ?side6 ?side7 ?side8 A83.out).mono ?_
   (case side1 => repeat (first | exact (Kd.R_reads' HO291.out).2.2 | (with_reducible refine Kd.C_alloc ?_ _) | (with_reducible refine Kd.C_drewN ?_ _) | (with_reducible refine Kd.C_drew ?_)))
   (case side2 => exact (Kd.R_reads' HO291.out).2.1)
   (case side3 => repeat (first | exact (Kd.R_reads' HO294.out).2.2 | (with_reducible refine Kd.C_alloc ?_ _) | (with_reducible refine Kd.C_drewN ?_ _) | (with_reducible refine Kd.C_drew ?_)))
   (case side4 => exact (Kd.R_reads' HO294.out).2.1)
   (case side5 => repeat (first | exact (Kd.R_reads' HO299.out).2.2 | (with_reducible refine Kd.C_alloc ?_ _) | (with_reducible refine Kd.C_drewN ?_ _) | (with_reducible refine Kd.C_drew ?_)))
   (case side6 => exact (Kd.R_reads' HO299.out).2.1)
   (case side7 => repeat (first | exact (Kd.R_reads' HO302.out).2.2 | (with_reducible refine Kd.C_alloc ?_ _) | (with_reducible refine Kd.C_drewN ?_ _) | (with_reducible refine Kd.C_drew ?_)))
   (case side8 => exact (Kd.R_reads' HO302.out).2.1)
   rintro e w89 ⟨rfl, hb⟩
   refine ⟨_, rfl, ?_⟩
   have n0_ := aS (Kd.R_below (rr HO291.out) hb)
   have n1_ := aS (Kd.R_below (rr HO294.out) hb)
   have n2_ := aS (Kd.R_below (rr HO299.out) hb)
   have n3_ := aS (Kd.R_below (rr HO302.out) hb)
   have n4_ := aS (kb BK283.out hb)
   have n5_ := aS (kb BK284.out hb)
   have n6_ := aS (kb BK285.out hb)
   have n7_ := aS (kb BK296.out hb)
   have n8_ := aS (kb BK304.out hb)
   have n9_ := aS (below_step bb hb)
   clear HO291
   clear HO294
   clear HO299
   clear HO302
   clear BK283
   clear BK284
   clear BK285
   clear BK296
   clear BK304
   clear HB
   have HO291 := n0_
   have HO294 := n1_
   have HO299 := n2_
   have HO302 := n3_
   have BK283 := n4_
   have BK284 := n5_
   have BK285 := n6_
   have BK296 := n7_
   have BK304 := n8_
   have HB := n9_
   clear n0_ n1_ n2_ n3_ n4_ n5_ n6_ n7_ n8_ n9_
   (try clear hb)
   (try clear hb2)
   (try clear hk)
   (try clear hi)
   refine hK.out _ _ ⟨(blk_cell BK284.out 0).trans rfl, (blk_cell BK284.out 1).trans rfl, (blk_cell BK285.out 0).trans rfl, (blk_cell BK285.out 1).trans rfl, (blk_cell BK296.out 0).trans rfl, (blk_cell BK296.out 1).trans rfl, (blk_cell BK304.out 0).trans rfl, (blk_cell BK304.out 1).trans rfl⟩ (fun hHeld => ?_)
   clear hK K
   refine norm_ (a' := ?_) ?_ ?_
   rotate_left
   {
   show Act.put _ (some 80) _ = _
   simp only [Act.put, sT, s0, s1, i64_w, i32_w]
   rfl }
   refine pure_ (i := 17) (N := some 81) (v := ?_) (a' := ?_) #[true, true, true, true, true, true, true, true, true, true, true, true, true, true, true, true, true, true, false, false, false, false, false, false] rfl rfl (any_of HT_.out (by kernel_rfl)) (fun _ _ _ h => h) (Or.inl ⟨by rfl, ?_⟩) ?_ ?_
   rotate_left
   {
   intro w'
   go_simp
   with_reducible rfl }
   rotate_left
   {
   simp only [Act.put, sT, s0, s1, i64_w, i32_w]
   rfl }
   refine pure_ (i := 18) (N := some 82) (v := ?_) (a' := ?_) #[true, true, true, true, true, true, true, true, true, true, true, true, true, true, true, true, true, true, true, false, false, false, false, false] rfl rfl (any_of HT_.out (by kernel_rfl)) (fun _ _ _ h => h) (Or.inl ⟨by rfl, ?_⟩) ?_ ?_
   rotate_left
   {
   intro w'
   go_simp
   with_reducible rfl }
   rotate_left
   {
   simp only [Act.put, sT, s0, s1, i64_w, i32_w]
   rfl }
   refine pure_ (i := 19) (N := some 83) (v := ?_) (a' := ?_) #[true, true, true, true, true, true, true, true, true, true, true, true, true, true, true, true, true, true, true, true, false, false, false, false] rfl rfl (any_of HT_.out (by kernel_rfl)) (fun _ _ _ h => h) (Or.inl ⟨by rfl, ?_⟩) ?_ ?_
   rotate_left
   {
   intro w'
   go_simp
   with_reducible rfl }
   rotate_left
   {
   simp only [Act.put, sT, s0, s1, i64_w, i32_w]
   rfl }
   refine pure_ (i := 20) (N := some 84) (v := ?_) (a' := ?_) #[true, true, true, true, true, true, true, true, true, true, true, true, true, true, true, true, true, true, true, true, true, false, false, false] rfl rfl (any_of HT_.out (by kernel_rfl)) (fun _ _ _ h => h) (Or.inl ⟨by rfl, ?_⟩) ?_ ?_
   rotate_left
   {
   intro w'
   go_simp
   with_reducible rfl }
   rotate_left
   {
   simp only [Act.put, sT, s0, s1, i64_w, i32_w]
   rfl }
   refine pure_ (i := 21) (N := some 85) (v := ?_) (a' := ?_) #[true, true, true, true, true, true, true, true, true, true, true, true, true, true, true, true, true, true, true, true, true, true, false, false] rfl rfl (any_of HT_.out (by kernel_rfl)) (fun _ _ _ h => h) (Or.inl ⟨by rfl, ?_⟩) ?_ ?_
   rotate_left
   {
   intro w'
   go_simp
   with_reducible rfl }
   rotate_left
   {
   simp only [Act.put, sT, s0, s1, i64_w, i32_w]
   rfl }
   refine pure_ (i := 22) (N := some 86) (v := ?_) (a' := ?_) #[true, true, true, true, true, true, true, true, true, true, true, true, true, true, true, true, true, true, true, true, true, true, true, false] rfl rfl (any_of HT_.out (by kernel_rfl)) (fun _ _ _ h => h) (Or.inl ⟨by rfl, ?_⟩) ?_ ?_
   rotate_left
   {
   intro w'
   go_simp
   with_reducible rfl }
   rotate_left
   {
   simp only [Act.put, sT, s0, s1, i64_w, i32_w]
   rfl }
   refine pure_ (i := 23) (N := some 87) (v := ?_) (a' := ?_) #[true, true, true, true, true, true, true, true, true, true, true, true, true, true, true, true, true, true, true, true, true, true, true, true] rfl rfl (any_of HT_.out (by kernel_rfl)) (fun _ _ _ h => h) (Or.inl ⟨by rfl, ?_⟩) ?_ ?_
   rotate_left
   {
   intro w'
   go_simp
   with_reducible rfl }
   rotate_left
   {
   simp only [Act.put, sT, s0, s1, i64_w, i32_w]
   rfl }
   refine done_ (done_of HT_.out (by kernel_rfl)) ?_
   try go_wp2
   go_meet
   case rel => exact ⟨_, ((t295 != t303)), (by first | rfl | (simp; done) | (simp [*]; done)), H', ⟨by have := HJ2.out; first | omega | exact Nat.le_refl _⟩, ⟨by (with_reducible repeat (first | apply Kd.R_alloc | apply Kd.R_drewN | apply Kd.R_drew)); exact Kd.R_mono HO291.out (fun _ hk => hk.2)⟩, ⟨by (with_reducible repeat (first | apply Kd.R_alloc | apply Kd.R_drewN | apply Kd.R_drew)); exact Kd.R_mono HO294.out (fun _ hk => hk.2)⟩, ⟨by (with_reducible repeat (first | apply Kd.R_alloc | apply Kd.R_drewN | apply Kd.R_drew)); exact Kd.R_mono HO299.out (fun _ hk => hk.2)⟩, ⟨by (with_reducible repeat (first | apply Kd.R_alloc | apply Kd.R_drewN | apply Kd.R_drew)); exact Kd.R_mono HO302.out (fun _ hk => hk.2)⟩, ⟨kk BK283.out⟩, ⟨kk BK284.out⟩, ⟨kk BK285.out⟩, ⟨kk BK296.out⟩, ⟨kk BK304.out⟩, ⟨by repeat (first | (with_reducible first | exact HB.out | apply below_alloc | apply pw_below_drewN | apply below_drew1 | refine below_set ?_ GE283.out | refine below_set ?_ GE284.out | refine below_set ?_ GE285.out | refine below_set ?_ GE296.out | refine below_set ?_ GE304.out) | exact HB.out)⟩⟩ }
   {
   replace c84 := Bool.eq_false_iff.mpr c84
   subst c84
   have H1 : (hallmootlaw22_DiskMatchesSpec.j1 kj2 a0_4 a0_5 l0_6 t286 t305 true l0_0 l0_1) = some r := by rw [if_neg (show ¬ (false = true) by decide)] at H; exact H
   clear H
   have H := H1
   clear H1
   have H' := aS H
   clear H
   try go_wp2
   have n0_ := aS (Kd.R_drew HO291.out)
   have n1_ := aS (Kd.R_drew HO294.out)
   have n2_ := aS (Kd.R_drew HO299.out)
   have n3_ := aS (Kd.R_drew HO302.out)
   have n4_ := aS (blk_drew BK283.out)
   have n5_ := aS (blk_drew BK284.out)
   have n6_ := aS (blk_drew BK285.out)
   have n7_ := aS (blk_drew BK296.out)
   have n8_ := aS (blk_drew BK304.out)
   have n9_ := aS (below_drew1 HB.out)
   clear HO291
   clear HO294
   clear HO299
   clear HO302
   clear BK283
   clear BK284
   clear BK285
   clear BK296
   clear BK304
   clear HB
   have HO291 := n0_
   have HO294 := n1_
   have HO299 := n2_
   have HO302 := n3_
   have BK283 := n4_
   have BK284 := n5_
   have BK285 := n6_
   have BK296 := n7_
   have BK304 := n8_
   have HB := n9_
   clear n0_ n1_ n2_ n3_ n4_ n5_ n6_ n7_ n8_ n9_
   refine start_ (n := 24) (S := fun w' => w'.cell? ⟨gb284, 0, none⟩ = some (.slice A0_0 l0_0.length c0_0) ∧ w'.cell? ⟨gb284, 1, none⟩ = some (.slice A0_1 l0_1.length c0_1) ∧ w'.cell? ⟨gb285, 0, none⟩ = some (.slice A0_2 l0_2.length c0_2) ∧ w'.cell? ⟨gb285, 1, none⟩ = some (.slice A0_3 l0_3.length c0_3) ∧ w'.cell? ⟨gb296, 0, none⟩ = some (.slice Ao53 t289.length co53) ∧ w'.cell? ⟨gb296, 1, none⟩ = some (.slice Ao58 t292.length co58) ∧ w'.cell? ⟨gb304, 0, none⟩ = some (.slice Ao61 t297.length co61) ∧ w'.cell? ⟨gb304, 1, none⟩ = some (.slice Ao67 t300.length co67)) (ds := []) #[false, false, false, false, false, false, false, false, false, false, false, false, false, false, false, false, false, false, false, false, false, false, false, false] (by kernel_rfl) rfl rfl ⟨(blk_cell BK284.out 0).trans rfl, (blk_cell BK284.out 1).trans rfl, (blk_cell BK285.out 0).trans rfl, (blk_cell BK285.out 1).trans rfl, (blk_cell BK296.out 0).trans rfl, (blk_cell BK296.out 1).trans rfl, (blk_cell BK304.out 0).trans rfl, (blk_cell BK304.out 1).trans rfl⟩ (fun hHeld => ?_); refine with_tabW hallmootlaw22_DiskMatchesSpec.tab12 hallmootlaw22_DiskMatchesSpec.bits12 (fun HT_ HW_ => ?_)
   generalize w71.drew = w90 at HO291 HO294 HO299 HO302 BK283 BK284 BK285 BK296 BK304 HB hHeld ⊢
   refine pure_ (i := 2) (N := some 66) (v := ?_) (a' := ?_) #[false, false, true, false, false, false, false, false, false, false, false, false, false, false, false, false, false, false, false, false, false, false, false, false] rfl rfl (any_of HT_.out (by kernel_rfl)) (fun _ _ _ h => h) (Or.inl ⟨by rfl, ?_⟩) ?_ ?_
   rotate_left
   {
   intro w'
   go_simp
   with_reducible rfl }
   rotate_left
   {
   simp only [Act.put, sT, s0, s1, i64_w, i32_w]
   rfl }
   refine take_ (i := 0) (N := some 64) (v := ?_) (a' := ?_) #[true, false, true, false, false, false, false, false, false, false, false, false, false, false, false, false, false, false, false, false, false, false, false, false] rfl rfl (take_ofW HT_.out HW_.out (by kernel_rfl)) (fun _ _ _ h => h) (Or.inl ⟨by rfl, ?_⟩) hHeld ?_ ?_
   rotate_left
   {
   rintro w' ⟨s0, s1, s2, s3, s4, s5, s6, s7⟩
   go_simp
   with_reducible rfl }
   rotate_left
   {
   simp only [Act.put, sT, s0, s1, i64_w, i32_w]
   rfl }
   refine one_ (i := 1) (N := some 65) #[true, true, true, false, false, false, false, false, false, false, false, false, false, false, false, false, false, false, false, false, false, false, false, false] rfl rfl (one_of HT_.out (by kernel_rfl)) (by decide) (fun K hK => ?_)
   refine goes_ Try.func12 (by kernel_rfl) rfl #[.agg #[.slice A0_0 l0_0.length c0_0, .slice A0_1 l0_1.length c0_1]] (by rfl) rfl rfl (by (try simp only [List.map_toArray, List.map_cons, List.map_nil]); first | done | rfl | (simp only [List.length_drop, List.length_take]; rfl)) ?_
   with_reducible refine (dRight.calls _ _ l0_0 _ _ l0_1 t306 _ ?side1 ?side2 ?side3 ?side4 A72.out).mono ?_
   (case side1 => exact Kd.C_below HR0_0.out bb)
   (case side2 => exact HC0_0.out)
   (case side3 => exact Kd.C_below HR0_1.out bb)
   (case side4 => exact HC0_1.out)
   rintro e w91 ⟨rfl, hb⟩
   refine ⟨_, rfl, ?_⟩
   have n0_ := aS (Kd.R_below (rr HO291.out) hb)
   have n1_ := aS (Kd.R_below (rr HO294.out) hb)
   have n2_ := aS (Kd.R_below (rr HO299.out) hb)
   have n3_ := aS (Kd.R_below (rr HO302.out) hb)
   have n4_ := aS (kb BK283.out hb)
   have n5_ := aS (kb BK284.out hb)
   have n6_ := aS (kb BK285.out hb)
   have n7_ := aS (kb BK296.out hb)
   have n8_ := aS (kb BK304.out hb)
   have n9_ := aS (below_step bb hb)
   clear HO291
   clear HO294
   clear HO299
   clear HO302
   clear BK283
   clear BK284
   clear BK285
   clear BK296
   clear BK304
   clear HB
   have HO291 := n0_
   have HO294 := n1_
   have HO299 := n2_
   have HO302 := n3_
   have BK283 := n4_
   have BK284 := n5_
   have BK285 := n6_
   have BK296 := n7_
   have BK304 := n8_
   have HB := n9_
   clear n0_ n1_ n2_ n3_ n4_ n5_ n6_ n7_ n8_ n9_
   (try clear hb)
   (try clear hb2)
   (try clear hk)
   (try clear hi)
   refine hK.out _ _ ⟨(blk_cell BK284.out 0).trans rfl, (blk_cell BK284.out 1).trans rfl, (blk_cell BK285.out 0).trans rfl, (blk_cell BK285.out 1).trans rfl, (blk_cell BK296.out 0).trans rfl, (blk_cell BK296.out 1).trans rfl, (blk_cell BK304.out 0).trans rfl, (blk_cell BK304.out 1).trans rfl⟩ (fun hHeld => ?_)
   clear hK K
   refine norm_ (a' := ?_) ?_ ?_
   rotate_left
   {
   show Act.put _ (some 65) _ = _
   simp only [Act.put, sT, s0, s1, i64_w, i32_w]
   rfl }
   refine pure_ (i := 3) (N := some 67) (v := ?_) (a' := ?_) #[true, true, true, true, false, false, false, false, false, false, false, false, false, false, false, false, false, false, false, false, false, false, false, false] rfl rfl (any_of HT_.out (by kernel_rfl)) (fun _ _ _ h => h) (Or.inl ⟨by rfl, ?_⟩) ?_ ?_
   rotate_left
   {
   intro w'
   go_simp
   with_reducible rfl }
   rotate_left
   {
   simp only [Act.put, sT, s0, s1, i64_w, i32_w]
   rfl }
   refine pure_ (i := 4) (N := some 68) (v := ?_) (a' := ?_) #[true, true, true, true, true, false, false, false, false, false, false, false, false, false, false, false, false, false, false, false, false, false, false, false] rfl rfl (any_of HT_.out (by kernel_rfl)) (fun _ _ _ h => h) (Or.inl ⟨by rfl, ?_⟩) ?_ ?_
   rotate_left
   {
   intro w'
   go_simp
   with_reducible rfl }
   rotate_left
   {
   simp only [Act.put, sT, s0, s1, i64_w, i32_w]
   rfl }
   refine take_ (i := 5) (N := some 69) (v := ?_) (a' := ?_) #[true, true, true, true, true, true, false, false, false, false, false, false, false, false, false, false, false, false, false, false, false, false, false, false] rfl rfl (take_ofW HT_.out HW_.out (by kernel_rfl)) (fun _ _ _ h => h) (Or.inl ⟨by rfl, ?_⟩) hHeld ?_ ?_
   rotate_left
   {
   rintro w' ⟨s0, s1, s2, s3, s4, s5, s6, s7⟩
   go_simp
   with_reducible rfl }
   rotate_left
   {
   simp only [Act.put, sT, s0, s1, i64_w, i32_w]
   rfl }
   refine take_ (i := 6) (N := some 70) (v := ?_) (a' := ?_) #[true, true, true, true, true, true, true, false, false, false, false, false, false, false, false, false, false, false, false, false, false, false, false, false] rfl rfl (take_ofW HT_.out HW_.out (by kernel_rfl)) (fun _ _ _ h => h) (Or.inl ⟨by rfl, ?_⟩) hHeld ?_ ?_
   rotate_left
   {
   rintro w' ⟨s0, s1, s2, s3, s4, s5, s6, s7⟩
   go_simp
   with_reducible rfl }
   rotate_left
   {
   simp only [Act.put, sT, s0, s1, i64_w, i32_w]
   rfl }
   refine take_ (i := 8) (N := some 72) (v := ?_) (a' := ?_) #[true, true, true, true, true, true, true, false, true, false, false, false, false, false, false, false, false, false, false, false, false, false, false, false] rfl rfl (take_ofW HT_.out HW_.out (by kernel_rfl)) (fun _ _ _ h => h) (Or.inl ⟨by rfl, ?_⟩) hHeld ?_ ?_
   rotate_left
   {
   rintro w' ⟨s0, s1, s2, s3, s4, s5, s6, s7⟩
   go_simp
   with_reducible rfl }
   rotate_left
   {
   simp only [Act.put, sT, s0, s1, i64_w, i32_w]
   rfl }
   refine take_ (i := 9) (N := some 73) (v := ?_) (a' := ?_) #[true, true, true, true, true, true, true, false, true, true, false, false, false, false, false, false, false, false, false, false, false, false, false, false] rfl rfl (take_ofW HT_.out HW_.out (by kernel_rfl)) (fun _ _ _ h => h) (Or.inl ⟨by rfl, ?_⟩) hHeld ?_ ?_
   rotate_left
   {
   rintro w' ⟨s0, s1, s2, s3, s4, s5, s6, s7⟩
   go_simp
   with_reducible rfl }
   rotate_left
   {
   simp only [Act.put, sT, s0, s1, i64_w, i32_w]
   rfl }
   refine one_ (i := 7) (N := some 71) #[true, true, true, true, true, true, true, true, true, true, false, false, false, false, false, false, false, false, false, false, false, false, false, false] rfl rfl (one_of HT_.out (by kernel_rfl)) (by decide) (fun K hK => ?_)
   refine goes_ Try.func13 (by kernel_rfl) rfl #[.agg #[.slice A0_0 l0_0.length c0_0, .slice A0_1 l0_1.length c0_1], .agg #[.slice A0_2 l0_2.length c0_2, .slice A0_3 l0_3.length c0_3]] (by rfl) rfl rfl (by (try simp only [List.map_toArray, List.map_cons, List.map_nil]); first | done | rfl | (simp only [List.length_drop, List.length_take]; rfl)) ?_
   with_reducible refine (disk_Same.calls kj2 _ _ l0_0 _ _ l0_1 _ _ l0_2 _ _ l0_3 t307 _ ?side1 ?side2 ?side3 ?side4 ?side5 ?side6 ?side7 ?side8 A76.out).mono ?_
   (case side1 => exact Kd.C_below HR0_0.out bb)
   (case side2 => exact HC0_0.out)
   (case side3 => exact Kd.C_below HR0_1.out bb)
   (case side4 => exact HC0_1.out)
   (case side5 => exact Kd.C_below HR0_2.out bb)
   (case side6 => exact HC0_2.out)
   (case side7 => exact Kd.C_below HR0_3.out bb)
   (case side8 => exact HC0_3.out)
   rintro e w92 ⟨rfl, hb⟩
   refine ⟨_, rfl, ?_⟩
   have n0_ := aS (Kd.R_below (rr HO291.out) hb)
   have n1_ := aS (Kd.R_below (rr HO294.out) hb)
   have n2_ := aS (Kd.R_below (rr HO299.out) hb)
   have n3_ := aS (Kd.R_below (rr HO302.out) hb)
   have n4_ := aS (kb BK283.out hb)
   have n5_ := aS (kb BK284.out hb)
   have n6_ := aS (kb BK285.out hb)
   have n7_ := aS (kb BK296.out hb)
   have n8_ := aS (kb BK304.out hb)
   have n9_ := aS (below_step bb hb)
   clear HO291
   clear HO294
   clear HO299
   clear HO302
   clear BK283
   clear BK284
   clear BK285
   clear BK296
   clear BK304
   clear HB
   have HO291 := n0_
   have HO294 := n1_
   have HO299 := n2_
   have HO302 := n3_
   have BK283 := n4_
   have BK284 := n5_
   have BK285 := n6_
   have BK296 := n7_
   have BK304 := n8_
   have HB := n9_
   clear n0_ n1_ n2_ n3_ n4_ n5_ n6_ n7_ n8_ n9_
   (try clear hb)
   (try clear hb2)
   (try clear hk)
   (try clear hi)
   refine hK.out _ _ ⟨(blk_cell BK284.out 0).trans rfl, (blk_cell BK284.out 1).trans rfl, (blk_cell BK285.out 0).trans rfl, (blk_cell BK285.out 1).trans rfl, (blk_cell BK296.out 0).trans rfl, (blk_cell BK296.out 1).trans rfl, (blk_cell BK304.out 0).trans rfl, (blk_cell BK304.out 1).trans rfl⟩ (fun hHeld => ?_)
   clear hK K
   refine norm_ (a' := ?_) ?_ ?_
   rotate_left
   {
   show Act.put _ (some 71) _ = _
   simp only [Act.put, sT, s0, s1, i64_w, i32_w]
   rfl }
   refine one_ (i := 10) (N := some 74) #[true, true, true, true, true, true, true, true, true, true, true, false, false, false, false, false, false, false, false, false, false, false, false, false] rfl rfl (one_of HT_.out (by kernel_rfl)) (by decide) (fun K hK => ?_)
   refine goes_ Try.func14 (by kernel_rfl) rfl #[.agg #[.slice A0_0 l0_0.length c0_0, .slice A0_1 l0_1.length c0_1], .agg #[.slice A0_2 l0_2.length c0_2, .slice A0_3 l0_3.length c0_3]] (by rfl) rfl rfl (by (try simp only [List.map_toArray, List.map_cons, List.map_nil]); first | done | rfl | (simp only [List.length_drop, List.length_take]; rfl)) ?_
   with_reducible refine (hallmootref22_Same.calls kj2 _ _ l0_0 _ _ l0_1 _ _ l0_2 _ _ l0_3 t308 _ ?side1 ?side2 ?side3 ?side4 ?side5 ?side6 ?side7 ?side8 A77.out).mono ?_
   (case side1 => exact Kd.C_below HR0_0.out bb)
   (case side2 => exact HC0_0.out)
   (case side3 => exact Kd.C_below HR0_1.out bb)
   (case side4 => exact HC0_1.out)
   (case side5 => exact Kd.C_below HR0_2.out bb)
   (case side6 => exact HC0_2.out)
   (case side7 => exact Kd.C_below HR0_3.out bb)
   (case side8 => exact HC0_3.out)
   rintro e w93 ⟨rfl, hb⟩
   refine ⟨_, rfl, ?_⟩
   have n0_ := aS (Kd.R_below (rr HO291.out) hb)
   have n1_ := aS (Kd.R_below (rr HO294.out) hb)
   have n2_ := aS (Kd.R_below (rr HO299.out) hb)
   have n3_ := aS (Kd.R_below (rr HO302.out) hb)
   have n4_ := aS (kb BK283.out hb)
   have n5_ := aS (kb BK284.out hb)
   have n6_ := aS (kb BK285.out hb)
   have n7_ := aS (kb BK296.out hb)
   have n8_ := aS (kb BK304.out hb)
   have n9_ := aS (below_step bb hb)
   clear HO291
   clear HO294
   clear HO299
   clear HO302
   clear BK283
   clear BK284
   clear BK285
   clear BK296
   clear BK304
   clear HB
   have HO291 := n0_
   have HO294 := n1_
   have HO299 := n2_
   have HO302 := n3_
   have BK283 := n4_
   have BK284 := n5_
   have BK285 := n6_
   have BK296 := n7_
   have BK304 := n8_
   have HB := n9_
   clear n0_ n1_ n2_ n3_ n4_ n5_ n6_ n7_ n8_ n9_
   (try clear hb)
   (try clear hb2)
   (try clear hk)
   (try clear hi)
   refine hK.out _ _ ⟨(blk_cell BK284.out 0).trans rfl, (blk_cell BK284.out 1).trans rfl, (blk_cell BK285.out 0).trans rfl, (blk_cell BK285.out 1).trans rfl, (blk_cell BK296.out 0).trans rfl, (blk_cell BK296.out 1).trans rfl, (blk_cell BK304.out 0).trans rfl, (blk_cell BK304.out 1).trans rfl⟩ (fun hHeld => ?_)
   clear hK K
   refine norm_ (a' := ?_) ?_ ?_
   rotate_left
   {
   show Act.put _ (some 74) _ = _
   simp only [Act.put, sT, s0, s1, i64_w, i32_w]
   rfl }
   refine pure_ (i := 11) (N := some 75) (v := ?_) (a' := ?_) #[true, true, true, true, true, true, true, true, true, true, true, true, false, false, false, false, false, false, false, false, false, false, false, false] rfl rfl (any_of HT_.out (by kernel_rfl)) (fun _ _ _ h => h) (Or.inl ⟨by rfl, ?_⟩) ?_ ?_
   rotate_left
   {
   intro w'
   go_simp
   with_reducible rfl }
   rotate_left
   {
   simp only [Act.put, sT, s0, s1, i64_w, i32_w]
   rfl }
   refine pure_ (i := 12) (N := some 76) (v := ?_) (a' := ?_) #[true, true, true, true, true, true, true, true, true, true, true, true, true, false, false, false, false, false, false, false, false, false, false, false] rfl rfl (any_of HT_.out (by kernel_rfl)) (fun _ _ _ h => h) (Or.inl ⟨by rfl, ?_⟩) ?_ ?_
   rotate_left
   {
   intro w'
   go_simp
   with_reducible rfl }
   rotate_left
   {
   simp only [Act.put, sT, s0, s1, i64_w, i32_w]
   rfl }
   refine pure_ (i := 13) (N := some 77) (v := ?_) (a' := ?_) #[true, true, true, true, true, true, true, true, true, true, true, true, true, true, false, false, false, false, false, false, false, false, false, false] rfl rfl (any_of HT_.out (by kernel_rfl)) (fun _ _ _ h => h) (Or.inl ⟨by rfl, ?_⟩) ?_ ?_
   rotate_left
   {
   intro w'
   go_simp
   with_reducible rfl }
   rotate_left
   {
   simp only [Act.put, sT, s0, s1, i64_w, i32_w]
   rfl }
   refine take_ (i := 14) (N := some 78) (v := ?_) (a' := ?_) #[true, true, true, true, true, true, true, true, true, true, true, true, true, true, true, false, false, false, false, false, false, false, false, false] rfl rfl (take_ofW HT_.out HW_.out (by kernel_rfl)) (fun _ _ _ h => h) (Or.inl ⟨by rfl, ?_⟩) hHeld ?_ ?_
   rotate_left
   {
   rintro w' ⟨s0, s1, s2, s3, s4, s5, s6, s7⟩
   go_simp
   with_reducible rfl }
   rotate_left
   {
   simp only [Act.put, sT, s0, s1, i64_w, i32_w]
   rfl }
   refine take_ (i := 15) (N := some 79) (v := ?_) (a' := ?_) #[true, true, true, true, true, true, true, true, true, true, true, true, true, true, true, true, false, false, false, false, false, false, false, false] rfl rfl (take_ofW HT_.out HW_.out (by kernel_rfl)) (fun _ _ _ h => h) (Or.inl ⟨by rfl, ?_⟩) hHeld ?_ ?_
   rotate_left
   {
   rintro w' ⟨s0, s1, s2, s3, s4, s5, s6, s7⟩
   go_simp
   with_reducible rfl }
   rotate_left
   {
   simp only [Act.put, sT, s0, s1, i64_w, i32_w]
   rfl }
   refine one_ (i := 16) (N := some 80) #[true, true, true, true, true, true, true, true, true, true, true, true, true, true, true, true, true, false, false, false, false, false, false, false] rfl rfl (one_of HT_.out (by kernel_rfl)) (by decide) (fun K hK => ?_)
   refine goes_ Try.func14 (by kernel_rfl) rfl #[.agg #[.slice Ao53 t289.length co53, .slice Ao58 t292.length co58], .agg #[.slice Ao61 t297.length co61, .slice Ao67 t300.length co67]] (by rfl) rfl rfl (by (try simp only [List.map_toArray, List.map_cons, List.map_nil]); first | done | rfl | (simp only [List.length_drop, List.length_take]; rfl)) ?_
   with_reducible refine (hallmootref22_Same.calls kj2 _ _ t289 _ _ t292 _ _ t297 _ _ t300 false _ ?side1 ?side2 ?side3 ?side4 ?side5 ?side6 ?side7 ?side8 A83.out).mono ?_
   (case side1 => repeat (first | exact (Kd.R_reads' HO291.out).2.2 | (with_reducible refine Kd.C_alloc ?_ _) | (with_reducible refine Kd.C_drewN ?_ _) | (with_reducible refine Kd.C_drew ?_)))
   (case side2 => exact (Kd.R_reads' HO291.out).2.1)
   (case side3 => repeat (first | exact (Kd.R_reads' HO294.out).2.2 | (with_reducible refine Kd.C_alloc ?_ _) | (with_reducible refine Kd.C_drewN ?_ _) | (with_reducible refine Kd.C_drew ?_)))
   (case side4 => exact (Kd.R_reads' HO294.out).2.1)
   (case side5 => repeat (first | exact (Kd.R_reads' HO299.out).2.2 | (with_reducible refine Kd.C_alloc ?_ _) | (with_reducible refine Kd.C_drewN ?_ _) | (with_reducible refine Kd.C_drew ?_)))
   (case side6 => exact (Kd.R_reads' HO299.out).2.1)
   (case side7 => repeat (first | exact (Kd.R_reads' HO302.out).2.2 | (with_reducible refine Kd.C_alloc ?_ _) | (with_reducible refine Kd.C_drewN ?_ _) | (with_reducible refine Kd.C_drew ?_)))
   (case side8 => exact (Kd.R_reads' HO302.out).2.1)
   rintro e w94 ⟨rfl, hb⟩
   refine ⟨_, rfl, ?_⟩
   have n0_ := aS (Kd.R_below (rr HO291.out) hb)
   have n1_ := aS (Kd.R_below (rr HO294.out) hb)
   have n2_ := aS (Kd.R_below (rr HO299.out) hb)
   have n3_ := aS (Kd.R_below (rr HO302.out) hb)
   have n4_ := aS (kb BK283.out hb)
   have n5_ := aS (kb BK284.out hb)
   have n6_ := aS (kb BK285.out hb)
   have n7_ := aS (kb BK296.out hb)
   have n8_ := aS (kb BK304.out hb)
   have n9_ := aS (below_step bb hb)
   clear HO291
   clear HO294
   clear HO299
   clear HO302
   clear BK283
   clear BK284
   clear BK285
   clear BK296
   clear BK304
   clear HB
   have HO291 := n0_
   have HO294 := n1_
   have HO299 := n2_
   have HO302 := n3_
   have BK283 := n4_
   have BK284 := n5_
   have BK285 := n6_
   have BK296 := n7_
   have BK304 := n8_
   have HB := n9_
   clear n0_ n1_ n2_ n3_ n4_ n5_ n6_ n7_ n8_ n9_
   (try clear hb)
   (try clear hb2)
   (try clear hk)
   (try clear hi)
   refine hK.out _ _ ⟨(blk_cell BK284.out 0).trans rfl, (blk_cell BK284.out 1).trans rfl, (blk_cell BK285.out 0).trans rfl, (blk_cell BK285.out 1).trans rfl, (blk_cell BK296.out 0).trans rfl, (blk_cell BK296.out 1).trans rfl, (blk_cell BK304.out 0).trans rfl, (blk_cell BK304.out 1).trans rfl⟩ (fun hHeld => ?_)
   clear hK K
   refine norm_ (a' := ?_) ?_ ?_
   rotate_left
   {
   show Act.put _ (some 80) _ = _
   simp only [Act.put, sT, s0, s1, i64_w, i32_w]
   rfl }
   refine pure_ (i := 17) (N := some 81) (v := ?_) (a' := ?_) #[true, true, true, true, true, true, true, true, true, true, true, true, true, true, true, true, true, true, false, false, false, false, false, false] rfl rfl (any_of HT_.out (by kernel_rfl)) (fun _ _ _ h => h) (Or.inl ⟨by rfl, ?_⟩) ?_ ?_
   rotate_left
   {
   intro w'
   go_simp
   with_reducible rfl }
   rotate_left
   {
   simp only [Act.put, sT, s0, s1, i64_w, i32_w]
   rfl }
   refine pure_ (i := 18) (N := some 82) (v := ?_) (a' := ?_) #[true, true, true, true, true, true, true, true, true, true, true, true, true, true, true, true, true, true, true, false, false, false, false, false] rfl rfl (any_of HT_.out (by kernel_rfl)) (fun _ _ _ h => h) (Or.inl ⟨by rfl, ?_⟩) ?_ ?_
   rotate_left
   {
   intro w'
   go_simp
   with_reducible rfl }
   rotate_left
   {
   simp only [Act.put, sT, s0, s1, i64_w, i32_w]
   rfl }
   refine pure_ (i := 19) (N := some 83) (v := ?_) (a' := ?_) #[true, true, true, true, true, true, true, true, true, true, true, true, true, true, true, true, true, true, true, true, false, false, false, false] rfl rfl (any_of HT_.out (by kernel_rfl)) (fun _ _ _ h => h) (Or.inl ⟨by rfl, ?_⟩) ?_ ?_
   rotate_left
   {
   intro w'
   go_simp
   with_reducible rfl }
   rotate_left
   {
   simp only [Act.put, sT, s0, s1, i64_w, i32_w]
   rfl }
   refine pure_ (i := 20) (N := some 84) (v := undef) (a' := ?_) #[true, true, true, true, true, true, true, true, true, true, true, true, true, true, true, true, true, true, true, true, true, false, false, false] rfl rfl (any_of HT_.out (by kernel_rfl)) (fun _ _ _ h => h) (Or.inr ⟨by rfl, rfl⟩) ?_ ?_
   rotate_left
   {
   simp only [Act.put, sT, s0, s1, i64_w, i32_w]
   rfl }
   refine pure_ (i := 21) (N := some 85) (v := undef) (a' := ?_) #[true, true, true, true, true, true, true, true, true, true, true, true, true, true, true, true, true, true, true, true, true, true, false, false] rfl rfl (any_of HT_.out (by kernel_rfl)) (fun _ _ _ h => h) (Or.inr ⟨by rfl, rfl⟩) ?_ ?_
   rotate_left
   {
   simp only [Act.put, sT, s0, s1, i64_w, i32_w]
   rfl }
   refine pure_ (i := 22) (N := some 86) (v := undef) (a' := ?_) #[true, true, true, true, true, true, true, true, true, true, true, true, true, true, true, true, true, true, true, true, true, true, true, false] rfl rfl (any_of HT_.out (by kernel_rfl)) (fun _ _ _ h => h) (Or.inr ⟨by rfl, rfl⟩) ?_ ?_
   rotate_left
   {
   simp only [Act.put, sT, s0, s1, i64_w, i32_w]
   rfl }
   refine pure_ (i := 23) (N := some 87) (v := ?_) (a' := ?_) #[true, true, true, true, true, true, true, true, true, true, true, true, true, true, true, true, true, true, true, true, true, true, true, true] rfl rfl (any_of HT_.out (by kernel_rfl)) (fun _ _ _ h => h) (Or.inl ⟨by rfl, ?_⟩) ?_ ?_
   rotate_left
   {
   intro w'
   go_simp
   with_reducible rfl }
   rotate_left
   {
   simp only [Act.put, sT, s0, s1, i64_w, i32_w]
   rfl }
   refine done_ (done_of HT_.out (by kernel_rfl)) ?_
   try go_wp2
   go_meet
   case rel => exact ⟨_, (true), (by first | rfl | (simp; done) | (simp [*]; done)), H', ⟨by have := HJ2.out; first | omega | exact Nat.le_refl _⟩, ⟨by (with_reducible repeat (first | apply Kd.R_alloc | apply Kd.R_drewN | apply Kd.R_drew)); exact Kd.R_mono HO291.out (fun _ hk => hk.2)⟩, ⟨by (with_reducible repeat (first | apply Kd.R_alloc | apply Kd.R_drewN | apply Kd.R_drew)); exact Kd.R_mono HO294.out (fun _ hk => hk.2)⟩, ⟨by (with_reducible repeat (first | apply Kd.R_alloc | apply Kd.R_drewN | apply Kd.R_drew)); exact Kd.R_mono HO299.out (fun _ hk => hk.2)⟩, ⟨by (with_reducible repeat (first | apply Kd.R_alloc | apply Kd.R_drewN | apply Kd.R_drew)); exact Kd.R_mono HO302.out (fun _ hk => hk.2)⟩, ⟨kk BK283.out⟩, ⟨kk BK284.out⟩, ⟨kk BK285.out⟩, ⟨kk BK296.out⟩, ⟨kk BK304.out⟩, ⟨by repeat (first | (with_reducible first | exact HB.out | apply below_alloc | apply pw_below_drewN | apply below_drew1 | refine below_set ?_ GE283.out | refine below_set ?_ GE284.out | refine below_set ?_ GE285.out | refine below_set ?_ GE296.out | refine below_set ?_ GE304.out) | exact HB.out)⟩⟩ } } }
  case rest =>
   clear HC50
   try clear c1
   try clear p2
   try clear c8
   try clear c12
   try clear c13
   try clear c14
   try clear c84
   obtain ⟨kq, x87_49, rfl, HA, HJ49, HO_297000, HO_297001, HO_305000, HO_305001, BK283, BK284, BK285, BK296, BK304, HB⟩ := hcut
   cases kq with
   | zero => exact absurd HA.out (by simp [hallmootlaw22_DiskMatchesSpec.j1])
   | succ kj49 => {
   have H := HA.out
   clear HA
   simp only [hallmootlaw22_DiskMatchesSpec.j1] at H
   by_cases c95 : x87_49 = true
   {
   subst c95
   have H1 : (none) = some r := by rw [if_pos rfl] at H; exact H
   clear H
   have H := H1
   clear H1
   exact absurd H (by simp) }
   {
   replace c95 := Bool.eq_false_iff.mpr c95
   subst c95
   have H1 : (if t305 = true then ((disk_Read.f l0_0 l0_1 a0_4).bind fun bt310 => ((hallmootref22_Read.f l0_0 l0_1 a0_4).bind fun bt312 => ((dWrite.f l0_0 l0_1 a0_4 a0_5).bind fun bt314 => ((rWrite.f l0_0 l0_1 a0_4 a0_5).bind fun bt322 => (if t286 = true then (if bt310.1.toList = bt312.1.toList then (if bt310.2 = bt312.2 then ((hallmootref22_Same.f kj49 bt314.1 bt314.2.1 bt322.1 bt322.2.1).bind fun t330 => (if t330 = true then (if bt314.2.2 = bt322.2.2 then ((disk_Sync.f l0_0 l0_1).bind fun bt331 => ((hallmootref22_Sync.f l0_0 l0_1).bind fun bt337 => ((hallmootref22_Same.f kj49 bt331.1 bt331.2 bt337.1 bt337.2).bind fun t343 => (if t343 = true then ((dCrash.f l0_0 l0_1 l0_6).bind fun bt344 => ((rCrash.f l0_0 l0_1 l0_6).bind fun bt350 => ((hallmootref22_Same.f kj49 bt344.1 bt344.2 bt350.1 bt350.2).bind fun t356 => (some t356)))) else (none))))) else (none)) else (none))) else (none)) else (none)) else (none)))))) else (some t286)) = some r := by rw [if_neg (show ¬ (false = true) by decide)] at H; exact H
   clear H
   have H := H1
   clear H1
   by_cases c96 : t305 = true
   {
   subst c96
   have H1 : ((disk_Read.f l0_0 l0_1 a0_4).bind fun bt310 => ((hallmootref22_Read.f l0_0 l0_1 a0_4).bind fun bt312 => ((dWrite.f l0_0 l0_1 a0_4 a0_5).bind fun bt314 => ((rWrite.f l0_0 l0_1 a0_4 a0_5).bind fun bt322 => (if t286 = true then (if bt310.1.toList = bt312.1.toList then (if bt310.2 = bt312.2 then ((hallmootref22_Same.f kj49 bt314.1 bt314.2.1 bt322.1 bt322.2.1).bind fun t330 => (if t330 = true then (if bt314.2.2 = bt322.2.2 then ((disk_Sync.f l0_0 l0_1).bind fun bt331 => ((hallmootref22_Sync.f l0_0 l0_1).bind fun bt337 => ((hallmootref22_Same.f kj49 bt331.1 bt331.2 bt337.1 bt337.2).bind fun t343 => (if t343 = true then ((dCrash.f l0_0 l0_1 l0_6).bind fun bt344 => ((rCrash.f l0_0 l0_1 l0_6).bind fun bt350 => ((hallmootref22_Same.f kj49 bt344.1 bt344.2 bt350.1 bt350.2).bind fun t356 => (some t356)))) else (none))))) else (none)) else (none))) else (none)) else (none)) else (none)))))) = some r := by rw [if_pos rfl] at H; exact H
   clear H
   have H := H1
   clear H1
   replace H := Option.bind_eq_some_iff.mp H
   obtain ⟨⟨t310, t311⟩, A970, H⟩ := H
   replace H : ((hallmootref22_Read.f l0_0 l0_1 a0_4).bind fun bt312 => ((dWrite.f l0_0 l0_1 a0_4 a0_5).bind fun bt314 => ((rWrite.f l0_0 l0_1 a0_4 a0_5).bind fun bt322 => (if t286 = true then (if t310.toList = bt312.1.toList then (if t311 = bt312.2 then ((hallmootref22_Same.f kj49 bt314.1 bt314.2.1 bt322.1 bt322.2.1).bind fun t330 => (if t330 = true then (if bt314.2.2 = bt322.2.2 then ((disk_Sync.f l0_0 l0_1).bind fun bt331 => ((hallmootref22_Sync.f l0_0 l0_1).bind fun bt337 => ((hallmootref22_Same.f kj49 bt331.1 bt331.2 bt337.1 bt337.2).bind fun t343 => (if t343 = true then ((dCrash.f l0_0 l0_1 l0_6).bind fun bt344 => ((rCrash.f l0_0 l0_1 l0_6).bind fun bt350 => ((hallmootref22_Same.f kj49 bt344.1 bt344.2 bt350.1 bt350.2).bind fun t356 => (some t356)))) else (none))))) else (none)) else (none))) else (none)) else (none)) else (none))))) = some r := H
   have A97 := aS A970
   clear A970
   replace H := Option.bind_eq_some_iff.mp H
   obtain ⟨⟨t312, t313⟩, A980, H⟩ := H
   replace H : ((dWrite.f l0_0 l0_1 a0_4 a0_5).bind fun bt314 => ((rWrite.f l0_0 l0_1 a0_4 a0_5).bind fun bt322 => (if t286 = true then (if t310.toList = t312.toList then (if t311 = t313 then ((hallmootref22_Same.f kj49 bt314.1 bt314.2.1 bt322.1 bt322.2.1).bind fun t330 => (if t330 = true then (if bt314.2.2 = bt322.2.2 then ((disk_Sync.f l0_0 l0_1).bind fun bt331 => ((hallmootref22_Sync.f l0_0 l0_1).bind fun bt337 => ((hallmootref22_Same.f kj49 bt331.1 bt331.2 bt337.1 bt337.2).bind fun t343 => (if t343 = true then ((dCrash.f l0_0 l0_1 l0_6).bind fun bt344 => ((rCrash.f l0_0 l0_1 l0_6).bind fun bt350 => ((hallmootref22_Same.f kj49 bt344.1 bt344.2 bt350.1 bt350.2).bind fun t356 => (some t356)))) else (none))))) else (none)) else (none))) else (none)) else (none)) else (none)))) = some r := H
   have A98 := aS A980
   clear A980
   replace H := Option.bind_eq_some_iff.mp H
   obtain ⟨⟨t314, t317, t320⟩, A990, H⟩ := H
   replace H : ((rWrite.f l0_0 l0_1 a0_4 a0_5).bind fun bt322 => (if t286 = true then (if t310.toList = t312.toList then (if t311 = t313 then ((hallmootref22_Same.f kj49 t314 t317 bt322.1 bt322.2.1).bind fun t330 => (if t330 = true then (if t320 = bt322.2.2 then ((disk_Sync.f l0_0 l0_1).bind fun bt331 => ((hallmootref22_Sync.f l0_0 l0_1).bind fun bt337 => ((hallmootref22_Same.f kj49 bt331.1 bt331.2 bt337.1 bt337.2).bind fun t343 => (if t343 = true then ((dCrash.f l0_0 l0_1 l0_6).bind fun bt344 => ((rCrash.f l0_0 l0_1 l0_6).bind fun bt350 => ((hallmootref22_Same.f kj49 bt344.1 bt344.2 bt350.1 bt350.2).bind fun t356 => (some t356)))) else (none))))) else (none)) else (none))) else (none)) else (none)) else (none))) = some r := H
   have A99 := aS A990
   clear A990
   replace H := Option.bind_eq_some_iff.mp H
   obtain ⟨⟨t322, t325, t328⟩, A1000, H⟩ := H
   replace H : (if t286 = true then (if t310.toList = t312.toList then (if t311 = t313 then ((hallmootref22_Same.f kj49 t314 t317 t322 t325).bind fun t330 => (if t330 = true then (if t320 = t328 then ((disk_Sync.f l0_0 l0_1).bind fun bt331 => ((hallmootref22_Sync.f l0_0 l0_1).bind fun bt337 => ((hallmootref22_Same.f kj49 bt331.1 bt331.2 bt337.1 bt337.2).bind fun t343 => (if t343 = true then ((dCrash.f l0_0 l0_1 l0_6).bind fun bt344 => ((rCrash.f l0_0 l0_1 l0_6).bind fun bt350 => ((hallmootref22_Same.f kj49 bt344.1 bt344.2 bt350.1 bt350.2).bind fun t356 => (some t356)))) else (none))))) else (none)) else (none))) else (none)) else (none)) else (none)) = some r := H
   have A100 := aS A1000
   clear A1000
   by_cases c101 : t286 = true
   {
   subst c101
   have H1 : (if t310.toList = t312.toList then (if t311 = t313 then ((hallmootref22_Same.f kj49 t314 t317 t322 t325).bind fun t330 => (if t330 = true then (if t320 = t328 then ((disk_Sync.f l0_0 l0_1).bind fun bt331 => ((hallmootref22_Sync.f l0_0 l0_1).bind fun bt337 => ((hallmootref22_Same.f kj49 bt331.1 bt331.2 bt337.1 bt337.2).bind fun t343 => (if t343 = true then ((dCrash.f l0_0 l0_1 l0_6).bind fun bt344 => ((rCrash.f l0_0 l0_1 l0_6).bind fun bt350 => ((hallmootref22_Same.f kj49 bt344.1 bt344.2 bt350.1 bt350.2).bind fun t356 => (some t356)))) else (none))))) else (none)) else (none))) else (none)) else (none)) = some r := by rw [if_pos rfl] at H; exact H
   clear H
   have H := H1
   clear H1
   by_cases c102 : t310.toList = t312.toList
   {
   rw [if_pos c102] at H
   have c102b0 : (t310.toList == t312.toList) = true := beq_iff_eq.mpr c102
   have c102b1 : (t310.toList != t312.toList) = false := bne_eq_false_iff_eq.mpr c102
   clear c102
   by_cases c103 : t311 = t313
   {
   rw [if_pos c103] at H
   have c103b0 : (t311 == t313) = true := beq_iff_eq.mpr c103
   have c103b1 : (t311 != t313) = false := bne_eq_false_iff_eq.mpr c103
   clear c103
   replace H := Option.bind_eq_some_iff.mp H
   obtain ⟨t330, A1040, H⟩ := H
   replace H : (if t330 = true then (if t320 = t328 then ((disk_Sync.f l0_0 l0_1).bind fun bt331 => ((hallmootref22_Sync.f l0_0 l0_1).bind fun bt337 => ((hallmootref22_Same.f kj49 bt331.1 bt331.2 bt337.1 bt337.2).bind fun t343 => (if t343 = true then ((dCrash.f l0_0 l0_1 l0_6).bind fun bt344 => ((rCrash.f l0_0 l0_1 l0_6).bind fun bt350 => ((hallmootref22_Same.f kj49 bt344.1 bt344.2 bt350.1 bt350.2).bind fun t356 => (some t356)))) else (none))))) else (none)) else (none)) = some r := H
   have A104 := aS A1040
   clear A1040
   by_cases c105 : t330 = true
   {
   subst c105
   have H1 : (if t320 = t328 then ((disk_Sync.f l0_0 l0_1).bind fun bt331 => ((hallmootref22_Sync.f l0_0 l0_1).bind fun bt337 => ((hallmootref22_Same.f kj49 bt331.1 bt331.2 bt337.1 bt337.2).bind fun t343 => (if t343 = true then ((dCrash.f l0_0 l0_1 l0_6).bind fun bt344 => ((rCrash.f l0_0 l0_1 l0_6).bind fun bt350 => ((hallmootref22_Same.f kj49 bt344.1 bt344.2 bt350.1 bt350.2).bind fun t356 => (some t356)))) else (none))))) else (none)) = some r := by rw [if_pos rfl] at H; exact H
   clear H
   have H := H1
   clear H1
   by_cases c106 : t320 = t328
   {
   rw [if_pos c106] at H
   have c106b0 : (t320 == t328) = true := beq_iff_eq.mpr c106
   have c106b1 : (t320 != t328) = false := bne_eq_false_iff_eq.mpr c106
   clear c106
   replace H := Option.bind_eq_some_iff.mp H
   obtain ⟨⟨t331, t334⟩, A1070, H⟩ := H
   replace H : ((hallmootref22_Sync.f l0_0 l0_1).bind fun bt337 => ((hallmootref22_Same.f kj49 t331 t334 bt337.1 bt337.2).bind fun t343 => (if t343 = true then ((dCrash.f l0_0 l0_1 l0_6).bind fun bt344 => ((rCrash.f l0_0 l0_1 l0_6).bind fun bt350 => ((hallmootref22_Same.f kj49 bt344.1 bt344.2 bt350.1 bt350.2).bind fun t356 => (some t356)))) else (none)))) = some r := H
   have A107 := aS A1070
   clear A1070
   replace H := Option.bind_eq_some_iff.mp H
   obtain ⟨⟨t337, t340⟩, A1080, H⟩ := H
   replace H : ((hallmootref22_Same.f kj49 t331 t334 t337 t340).bind fun t343 => (if t343 = true then ((dCrash.f l0_0 l0_1 l0_6).bind fun bt344 => ((rCrash.f l0_0 l0_1 l0_6).bind fun bt350 => ((hallmootref22_Same.f kj49 bt344.1 bt344.2 bt350.1 bt350.2).bind fun t356 => (some t356)))) else (none))) = some r := H
   have A108 := aS A1080
   clear A1080
   replace H := Option.bind_eq_some_iff.mp H
   obtain ⟨t343, A1090, H⟩ := H
   replace H : (if t343 = true then ((dCrash.f l0_0 l0_1 l0_6).bind fun bt344 => ((rCrash.f l0_0 l0_1 l0_6).bind fun bt350 => ((hallmootref22_Same.f kj49 bt344.1 bt344.2 bt350.1 bt350.2).bind fun t356 => (some t356)))) else (none)) = some r := H
   have A109 := aS A1090
   clear A1090
   by_cases c110 : t343 = true
   {
   subst c110
   have H1 : ((dCrash.f l0_0 l0_1 l0_6).bind fun bt344 => ((rCrash.f l0_0 l0_1 l0_6).bind fun bt350 => ((hallmootref22_Same.f kj49 bt344.1 bt344.2 bt350.1 bt350.2).bind fun t356 => (some t356)))) = some r := by rw [if_pos rfl] at H; exact H
   clear H
   have H := H1
   clear H1
   replace H := Option.bind_eq_some_iff.mp H
   obtain ⟨⟨t344, t347⟩, A1110, H⟩ := H
   replace H : ((rCrash.f l0_0 l0_1 l0_6).bind fun bt350 => ((hallmootref22_Same.f kj49 t344 t347 bt350.1 bt350.2).bind fun t356 => (some t356))) = some r := H
   have A111 := aS A1110
   clear A1110
   replace H := Option.bind_eq_some_iff.mp H
   obtain ⟨⟨t350, t353⟩, A1120, H⟩ := H
   replace H : ((hallmootref22_Same.f kj49 t344 t347 t350 t353).bind fun t356 => (some t356)) = some r := H
   have A112 := aS A1120
   clear A1120
   replace H := Option.bind_eq_some_iff.mp H
   obtain ⟨t356, A1130, H⟩ := H
   replace H : (some t356) = some r := H
   have A113 := aS A1130
   clear A1130
   obtain rfl := Option.some.inj H
   have hnb114 := NB284_283.out
   have hnc114 := NB283_284.out
   have hnb115 := NB284_285.out
   have hnc115 := NB285_284.out
   have hnb116 := NB284_296.out
   have hnc116 := NB296_284.out
   have hnb117 := NB284_304.out
   have hnc117 := NB304_284.out
   have hcz118_0 : wc.cell? ⟨gb284, 0, none⟩ = some (.slice A0_0 l0_0.length c0_0) := (blk_cell BK284.out 0).trans rfl
   have hcz118_1 : wc.cell? ⟨gb284, 1, none⟩ = some (.slice A0_1 l0_1.length c0_1) := (blk_cell BK284.out 1).trans rfl
   have hfz118_0 := blk_frozen BK284.out 0
   have hfz118_1 := blk_frozen BK284.out 1
   try go_wp2_with (first | ((with_reducible refine gate_callee (f := 15) rfl ?_); refine goesL_ (some 94) rfl rfl Try.func15 (by kernel_rfl) rfl #[.agg #[.slice A0_0 l0_0.length c0_0, .slice A0_1 l0_1.length c0_1], .int .i64 a0_4] rfl (by (try simp only [List.map_toArray, List.map_cons, List.map_nil]); first | done | rfl | (simp only [List.length_drop, List.length_take]; rfl)) ?_; (with_reducible refine (disk_Read.calls _ _ l0_0 _ _ l0_1 a0_4 t310 t311 _ ?side1 ?side2 ?side3 ?side4 A97.out).mono ?_); (case side1 => exact Kd.C_below HR0_0.out bb); (case side2 => exact HC0_0.out); (case side3 => exact Kd.C_below HR0_1.out bb); (case side4 => exact HC0_1.out); rintro e w119 ⟨rfl, hb⟩; refine ⟨_, rfl, ?_⟩; have n0_ := aS (Kd.R_below (rr HO_297000.out) hb); have n1_ := aS (Kd.R_below (rr HO_297001.out) hb); have n2_ := aS (Kd.R_below (rr HO_305000.out) hb); have n3_ := aS (Kd.R_below (rr HO_305001.out) hb); have n4_ := aS (kb BK283.out hb); have n5_ := aS (kb BK284.out hb); have n6_ := aS (kb BK285.out hb); have n7_ := aS (kb BK296.out hb); have n8_ := aS (kb BK304.out hb); have n9_ := aS (below_step bb hb); clear HO_297000; clear HO_297001; clear HO_305000; clear HO_305001; clear BK283; clear BK284; clear BK285; clear BK296; clear BK304; clear HB; have HO_297000 := n0_; have HO_297001 := n1_; have HO_305000 := n2_; have HO_305001 := n3_; have BK283 := n4_; have BK284 := n5_; have BK285 := n6_; have BK296 := n7_; have BK304 := n8_; have HB := n9_; clear n0_ n1_ n2_ n3_ n4_ n5_ n6_ n7_ n8_ n9_; (try clear hb); (try clear hb2); (try clear hk); (try clear hi); have hcz120_0 : w119.cell? ⟨gb284, 0, none⟩ = some (.slice A0_0 l0_0.length c0_0) := (blk_cell BK284.out 0).trans rfl; have hcz120_1 : w119.cell? ⟨gb284, 1, none⟩ = some (.slice A0_1 l0_1.length c0_1) := (blk_cell BK284.out 1).trans rfl; have hfz120_0 := blk_frozen BK284.out 0; have hfz120_1 := blk_frozen BK284.out 1) | ((with_reducible refine gate_callee (f := 16) rfl ?_); refine goesL_ (some 100) rfl rfl Try.func16 (by kernel_rfl) rfl #[.agg #[.slice A0_0 l0_0.length c0_0, .slice A0_1 l0_1.length c0_1], .int .i64 a0_4] rfl (by (try simp only [List.map_toArray, List.map_cons, List.map_nil]); first | done | rfl | (simp only [List.length_drop, List.length_take]; rfl)) ?_; (with_reducible refine (hallmootref22_Read.calls _ _ l0_0 _ _ l0_1 a0_4 t312 t313 _ ?side1 ?side2 ?side3 ?side4 A98.out).mono ?_); (case side1 => exact Kd.C_below HR0_0.out bb); (case side2 => exact HC0_0.out); (case side3 => exact Kd.C_below HR0_1.out bb); (case side4 => exact HC0_1.out); rintro e w121 ⟨rfl, hb⟩; refine ⟨_, rfl, ?_⟩; have n0_ := aS (Kd.R_below (rr HO_297000.out) hb); have n1_ := aS (Kd.R_below (rr HO_297001.out) hb); have n2_ := aS (Kd.R_below (rr HO_305000.out) hb); have n3_ := aS (Kd.R_below (rr HO_305001.out) hb); have n4_ := aS (kb BK283.out hb); have n5_ := aS (kb BK284.out hb); have n6_ := aS (kb BK285.out hb); have n7_ := aS (kb BK296.out hb); have n8_ := aS (kb BK304.out hb); have n9_ := aS (below_step bb hb); clear HO_297000; clear HO_297001; clear HO_305000; clear HO_305001; clear BK283; clear BK284; clear BK285; clear BK296; clear BK304; clear HB; have HO_297000 := n0_; have HO_297001 := n1_; have HO_305000 := n2_; have HO_305001 := n3_; have BK283 := n4_; have BK284 := n5_; have BK285 := n6_; have BK296 := n7_; have BK304 := n8_; have HB := n9_; clear n0_ n1_ n2_ n3_ n4_ n5_ n6_ n7_ n8_ n9_; (try clear hb); (try clear hb2); (try clear hk); (try clear hi); have hcz122_0 : w121.cell? ⟨gb284, 0, none⟩ = some (.slice A0_0 l0_0.length c0_0) := (blk_cell BK284.out 0).trans rfl; have hcz122_1 : w121.cell? ⟨gb284, 1, none⟩ = some (.slice A0_1 l0_1.length c0_1) := (blk_cell BK284.out 1).trans rfl; have hfz122_0 := blk_frozen BK284.out 0; have hfz122_1 := blk_frozen BK284.out 1) | ((with_reducible refine gate_callee (f := 17) rfl ?_); refine goesL_ (some 107) rfl rfl Try.func17 (by kernel_rfl) rfl #[.agg #[.slice A0_0 l0_0.length c0_0, .slice A0_1 l0_1.length c0_1], .int .i64 a0_4, .string a0_5] rfl (by (try simp only [List.map_toArray, List.map_cons, List.map_nil]); first | done | rfl | (simp only [List.length_drop, List.length_take]; rfl)) ?_; (with_reducible refine (dWrite.calls (fun k_ => k_ < w.heap.size) _ _ l0_0 (fun k_ => k_ < w.heap.size) _ _ l0_1 a0_4 a0_5 t314 t317 t320 _ ?side1 ?side2 A99.out).mono ?_); (case side1 => exact Kd.V_mk HC0_0.out (Kd.F_below (Kd.C_F Kd.heap_string HR0_0.out) bb)); (case side2 => exact Kd.V_mk HC0_1.out (Kd.F_below (Kd.C_F k46_heap HR0_1.out) bb)); rintro e w123 ⟨v315, v318, rfl, ho0, ho1, hb⟩; refine ⟨_, rfl, ?_⟩; have n0_ := aS (Kd.R_below (rr HO_297000.out) hb); have n1_ := aS (Kd.R_below (rr HO_297001.out) hb); have n2_ := aS (Kd.R_below (rr HO_305000.out) hb); have n3_ := aS (Kd.R_below (rr HO_305001.out) hb); have n4_ := aS (Kd.V_lower (Kd.V_mono (ok' := fun k_ => some k_ ≠ (.slice Ao53 t289.length co53 : Value).ownBlock ∧ some k_ ≠ (.slice Ao58 t292.length co58 : Value).ownBlock ∧ some k_ ≠ (.slice Ao61 t297.length co61 : Value).ownBlock ∧ some k_ ≠ (.slice Ao67 t300.length co67 : Value).ownBlock ∧ k_ ≠ gb283 ∧ k_ ≠ gb284 ∧ k_ ≠ gb285 ∧ k_ ≠ gb296 ∧ k_ ≠ gb304) ho0 (fun k_ hk_ => ⟨Or.elim hk_ (fun hs_ => Or.elim hs_ (fun hs_ => fun e_ => Nat.not_le.2 hs_ (Kd.R_base HO_297000.out k_ e_.symm)) (fun hs_ => fun e_ => Nat.not_le.2 hs_ (Kd.R_base HO_297000.out k_ e_.symm))) (fun hn_ => (Kd.fresh' (Kd.R_lt (rr HO_297000.out)) k_ hn_)), Or.elim hk_ (fun hs_ => Or.elim hs_ (fun hs_ => fun e_ => Nat.not_le.2 hs_ (Kd.R_base HO_297001.out k_ e_.symm)) (fun hs_ => fun e_ => Nat.not_le.2 hs_ (Kd.R_base HO_297001.out k_ e_.symm))) (fun hn_ => (Kd.fresh' (Kd.R_lt (rr HO_297001.out)) k_ hn_)), Or.elim hk_ (fun hs_ => Or.elim hs_ (fun hs_ => fun e_ => Nat.not_le.2 hs_ (Kd.R_base HO_305000.out k_ e_.symm)) (fun hs_ => fun e_ => Nat.not_le.2 hs_ (Kd.R_base HO_305000.out k_ e_.symm))) (fun hn_ => (Kd.fresh' (Kd.R_lt (rr HO_305000.out)) k_ hn_)), Or.elim hk_ (fun hs_ => Or.elim hs_ (fun hs_ => fun e_ => Nat.not_le.2 hs_ (Kd.R_base HO_305001.out k_ e_.symm)) (fun hs_ => fun e_ => Nat.not_le.2 hs_ (Kd.R_base HO_305001.out k_ e_.symm))) (fun hn_ => (Kd.fresh' (Kd.R_lt (rr HO_305001.out)) k_ hn_)), Or.elim hk_ (fun hs_ => Or.elim hs_ (fun hs_ => fun e_ => Nat.not_le.2 hs_ (by rw [e_]; exact GW283.out)) (fun hs_ => fun e_ => Nat.not_le.2 hs_ (by rw [e_]; exact GW283.out))) (fun hn_ => (Kd.freshB (g := gb283) (o := .cells #[.slice A0_0 l0_0.length c0_0, .slice A0_1 l0_1.length c0_1, .slice A0_2 l0_2.length c0_2, .slice A0_3 l0_3.length c0_3, .int .i64 a0_4, .string a0_5, .slice A0_6 l0_6.length c0_6] 28 (0, 0)) (kk BK283.out) k_ hn_)), Or.elim hk_ (fun hs_ => Or.elim hs_ (fun hs_ => fun e_ => Nat.not_le.2 hs_ (by rw [e_]; exact GW284.out)) (fun hs_ => fun e_ => Nat.not_le.2 hs_ (by rw [e_]; exact GW284.out))) (fun hn_ => (Kd.freshB (g := gb284) (o := .cells #[.slice A0_0 l0_0.length c0_0, .slice A0_1 l0_1.length c0_1] 25 (0, 0)) (kk BK284.out) k_ hn_)), Or.elim hk_ (fun hs_ => Or.elim hs_ (fun hs_ => fun e_ => Nat.not_le.2 hs_ (by rw [e_]; exact GW285.out)) (fun hs_ => fun e_ => Nat.not_le.2 hs_ (by rw [e_]; exact GW285.out))) (fun hn_ => (Kd.freshB (g := gb285) (o := .cells #[.slice A0_2 l0_2.length c0_2, .slice A0_3 l0_3.length c0_3] 25 (0, 0)) (kk BK285.out) k_ hn_)), Or.elim hk_ (fun hs_ => Or.elim hs_ (fun hs_ => fun e_ => Nat.not_le.2 hs_ (by rw [e_]; exact GW296.out)) (fun hs_ => fun e_ => Nat.not_le.2 hs_ (by rw [e_]; exact GW296.out))) (fun hn_ => (Kd.freshB (g := gb296) (o := .cells #[.slice Ao53 t289.length co53, .slice Ao58 t292.length co58] 25 (0, 0)) (kk BK296.out) k_ hn_)), Or.elim hk_ (fun hs_ => Or.elim hs_ (fun hs_ => fun e_ => Nat.not_le.2 hs_ (by rw [e_]; exact GW304.out)) (fun hs_ => fun e_ => Nat.not_le.2 hs_ (by rw [e_]; exact GW304.out))) (fun hn_ => (Kd.freshB (g := gb304) (o := .cells #[.slice Ao61 t297.length co61, .slice Ao67 t300.length co67] 25 (0, 0)) (kk BK304.out) k_ hn_))⟩)) bz); have n5_ := aS (Kd.V_lower (Kd.V_mono (ok' := fun k_ => some k_ ≠ (.slice Ao53 t289.length co53 : Value).ownBlock ∧ some k_ ≠ (.slice Ao58 t292.length co58 : Value).ownBlock ∧ some k_ ≠ (.slice Ao61 t297.length co61 : Value).ownBlock ∧ some k_ ≠ (.slice Ao67 t300.length co67 : Value).ownBlock ∧ k_ ≠ gb283 ∧ k_ ≠ gb284 ∧ k_ ≠ gb285 ∧ k_ ≠ gb296 ∧ k_ ≠ gb304) ho1 (fun k_ hk_ => ⟨Or.elim hk_ (fun hs_ => Or.elim hs_ (fun hs_ => fun e_ => Nat.not_le.2 hs_ (Kd.R_base HO_297000.out k_ e_.symm)) (fun hs_ => fun e_ => Nat.not_le.2 hs_ (Kd.R_base HO_297000.out k_ e_.symm))) (fun hn_ => (Kd.fresh' (Kd.R_lt (rr HO_297000.out)) k_ hn_)), Or.elim hk_ (fun hs_ => Or.elim hs_ (fun hs_ => fun e_ => Nat.not_le.2 hs_ (Kd.R_base HO_297001.out k_ e_.symm)) (fun hs_ => fun e_ => Nat.not_le.2 hs_ (Kd.R_base HO_297001.out k_ e_.symm))) (fun hn_ => (Kd.fresh' (Kd.R_lt (rr HO_297001.out)) k_ hn_)), Or.elim hk_ (fun hs_ => Or.elim hs_ (fun hs_ => fun e_ => Nat.not_le.2 hs_ (Kd.R_base HO_305000.out k_ e_.symm)) (fun hs_ => fun e_ => Nat.not_le.2 hs_ (Kd.R_base HO_305000.out k_ e_.symm))) (fun hn_ => (Kd.fresh' (Kd.R_lt (rr HO_305000.out)) k_ hn_)), Or.elim hk_ (fun hs_ => Or.elim hs_ (fun hs_ => fun e_ => Nat.not_le.2 hs_ (Kd.R_base HO_305001.out k_ e_.symm)) (fun hs_ => fun e_ => Nat.not_le.2 hs_ (Kd.R_base HO_305001.out k_ e_.symm))) (fun hn_ => (Kd.fresh' (Kd.R_lt (rr HO_305001.out)) k_ hn_)), Or.elim hk_ (fun hs_ => Or.elim hs_ (fun hs_ => fun e_ => Nat.not_le.2 hs_ (by rw [e_]; exact GW283.out)) (fun hs_ => fun e_ => Nat.not_le.2 hs_ (by rw [e_]; exact GW283.out))) (fun hn_ => (Kd.freshB (g := gb283) (o := .cells #[.slice A0_0 l0_0.length c0_0, .slice A0_1 l0_1.length c0_1, .slice A0_2 l0_2.length c0_2, .slice A0_3 l0_3.length c0_3, .int .i64 a0_4, .string a0_5, .slice A0_6 l0_6.length c0_6] 28 (0, 0)) (kk BK283.out) k_ hn_)), Or.elim hk_ (fun hs_ => Or.elim hs_ (fun hs_ => fun e_ => Nat.not_le.2 hs_ (by rw [e_]; exact GW284.out)) (fun hs_ => fun e_ => Nat.not_le.2 hs_ (by rw [e_]; exact GW284.out))) (fun hn_ => (Kd.freshB (g := gb284) (o := .cells #[.slice A0_0 l0_0.length c0_0, .slice A0_1 l0_1.length c0_1] 25 (0, 0)) (kk BK284.out) k_ hn_)), Or.elim hk_ (fun hs_ => Or.elim hs_ (fun hs_ => fun e_ => Nat.not_le.2 hs_ (by rw [e_]; exact GW285.out)) (fun hs_ => fun e_ => Nat.not_le.2 hs_ (by rw [e_]; exact GW285.out))) (fun hn_ => (Kd.freshB (g := gb285) (o := .cells #[.slice A0_2 l0_2.length c0_2, .slice A0_3 l0_3.length c0_3] 25 (0, 0)) (kk BK285.out) k_ hn_)), Or.elim hk_ (fun hs_ => Or.elim hs_ (fun hs_ => fun e_ => Nat.not_le.2 hs_ (by rw [e_]; exact GW296.out)) (fun hs_ => fun e_ => Nat.not_le.2 hs_ (by rw [e_]; exact GW296.out))) (fun hn_ => (Kd.freshB (g := gb296) (o := .cells #[.slice Ao53 t289.length co53, .slice Ao58 t292.length co58] 25 (0, 0)) (kk BK296.out) k_ hn_)), Or.elim hk_ (fun hs_ => Or.elim hs_ (fun hs_ => fun e_ => Nat.not_le.2 hs_ (by rw [e_]; exact GW304.out)) (fun hs_ => fun e_ => Nat.not_le.2 hs_ (by rw [e_]; exact GW304.out))) (fun hn_ => (Kd.freshB (g := gb304) (o := .cells #[.slice Ao61 t297.length co61, .slice Ao67 t300.length co67] 25 (0, 0)) (kk BK304.out) k_ hn_))⟩)) bz); have n6_ := aS (kb BK283.out hb); have n7_ := aS (kb BK284.out hb); have n8_ := aS (kb BK285.out hb); have n9_ := aS (kb BK296.out hb); have n10_ := aS (kb BK304.out hb); have n11_ := aS (below_step bb hb); clear HO_297000; clear HO_297001; clear HO_305000; clear HO_305001; clear BK283; clear BK284; clear BK285; clear BK296; clear BK304; clear HB; have HO_297000 := n0_; have HO_297001 := n1_; have HO_305000 := n2_; have HO_305001 := n3_; have HO316 := n4_; have HO319 := n5_; have BK283 := n6_; have BK284 := n7_; have BK285 := n8_; have BK296 := n9_; have BK304 := n10_; have HB := n11_; clear n0_ n1_ n2_ n3_ n4_ n5_ n6_ n7_ n8_ n9_ n10_ n11_; (try clear hb); (try clear hb2); (try clear hk); (try clear hi); (try clear ho0); (try clear ho1)) | ((with_reducible refine gate_dst (N := 18) rfl ?_); (try (refine gate_guard (by rfl) ?_; dsimp only)); refine box_event ?hg (N := 18) ?hd (cs := #[.slice none 0 0, .slice none 0 0]) (t := 25) ?hr ?_; (case hd => rfl); (case hg => rfl); (case hr => first | (go_simp; done) | (go_simp; rfl)); intro gb321 hg w124 hbox hb; have n0_ := aS (Kd.R_below (rr HO_297000.out) hb); have n1_ := aS (Kd.R_below (rr HO_297001.out) hb); have n2_ := aS (Kd.R_below (rr HO_305000.out) hb); have n3_ := aS (Kd.R_below (rr HO_305001.out) hb); have n4_ := aS (Kd.V_below (Kd.V_elderB (vv HO316.out) gb321 (Nat.le_of_eq hg.symm)) hb); have n5_ := aS (Kd.V_below (Kd.V_elderB (vv HO319.out) gb321 (Nat.le_of_eq hg.symm)) hb); have n6_ := aS (kb BK283.out hb); have n7_ := aS (kb BK284.out hb); have n8_ := aS (kb BK285.out hb); have n9_ := aS (kb BK296.out hb); have n10_ := aS (kb BK304.out hb); have n11_ := aS (below_step bb hb); have n12_ := aS (hbox); have n13_ := aS ((by rw [hg]; exact bz : w.heap.size ≤ gb321)); have n14_ := aS ((by rw [hg]; exact bz : w.heap.size ≤ gb321)); have n15_ := aS ((by rw [hg]; exact Nat.ne_of_lt (blk_lt (g := gb283) (o := .cells #[.slice A0_0 l0_0.length c0_0, .slice A0_1 l0_1.length c0_1, .slice A0_2 l0_2.length c0_2, .slice A0_3 l0_3.length c0_3, .int .i64 a0_4, .string a0_5, .slice A0_6 l0_6.length c0_6] 28 (0, 0)) (kk BK283.out)) : gb283 ≠ gb321)); have n16_ := aS ((by rw [hg]; exact Nat.ne_of_gt (blk_lt (g := gb283) (o := .cells #[.slice A0_0 l0_0.length c0_0, .slice A0_1 l0_1.length c0_1, .slice A0_2 l0_2.length c0_2, .slice A0_3 l0_3.length c0_3, .int .i64 a0_4, .string a0_5, .slice A0_6 l0_6.length c0_6] 28 (0, 0)) (kk BK283.out)) : gb321 ≠ gb283)); have n17_ := aS ((by rw [hg]; exact Nat.ne_of_lt (blk_lt (g := gb284) (o := .cells #[.slice A0_0 l0_0.length c0_0, .slice A0_1 l0_1.length c0_1] 25 (0, 0)) (kk BK284.out)) : gb284 ≠ gb321)); have n18_ := aS ((by rw [hg]; exact Nat.ne_of_gt (blk_lt (g := gb284) (o := .cells #[.slice A0_0 l0_0.length c0_0, .slice A0_1 l0_1.length c0_1] 25 (0, 0)) (kk BK284.out)) : gb321 ≠ gb284)); have n19_ := aS ((by rw [hg]; exact Nat.ne_of_lt (blk_lt (g := gb285) (o := .cells #[.slice A0_2 l0_2.length c0_2, .slice A0_3 l0_3.length c0_3] 25 (0, 0)) (kk BK285.out)) : gb285 ≠ gb321)); have n20_ := aS ((by rw [hg]; exact Nat.ne_of_gt (blk_lt (g := gb285) (o := .cells #[.slice A0_2 l0_2.length c0_2, .slice A0_3 l0_3.length c0_3] 25 (0, 0)) (kk BK285.out)) : gb321 ≠ gb285)); have n21_ := aS ((by rw [hg]; exact Nat.ne_of_lt (blk_lt (g := gb296) (o := .cells #[.slice Ao53 t289.length co53, .slice Ao58 t292.length co58] 25 (0, 0)) (kk BK296.out)) : gb296 ≠ gb321)); have n22_ := aS ((by rw [hg]; exact Nat.ne_of_gt (blk_lt (g := gb296) (o := .cells #[.slice Ao53 t289.length co53, .slice Ao58 t292.length co58] 25 (0, 0)) (kk BK296.out)) : gb321 ≠ gb296)); have n23_ := aS ((by rw [hg]; exact Nat.ne_of_lt (blk_lt (g := gb304) (o := .cells #[.slice Ao61 t297.length co61, .slice Ao67 t300.length co67] 25 (0, 0)) (kk BK304.out)) : gb304 ≠ gb321)); have n24_ := aS ((by rw [hg]; exact Nat.ne_of_gt (blk_lt (g := gb304) (o := .cells #[.slice Ao61 t297.length co61, .slice Ao67 t300.length co67] 25 (0, 0)) (kk BK304.out)) : gb321 ≠ gb304)); clear HO_297000; clear HO_297001; clear HO_305000; clear HO_305001; clear HO316; clear HO319; clear BK283; clear BK284; clear BK285; clear BK296; clear BK304; clear HB; have HO_297000 := n0_; have HO_297001 := n1_; have HO_305000 := n2_; have HO_305001 := n3_; have HO316 := n4_; have HO319 := n5_; have BK283 := n6_; have BK284 := n7_; have BK285 := n8_; have BK296 := n9_; have BK304 := n10_; have HB := n11_; have BK321 := n12_; have GW321 := n13_; have GE321 := n14_; have NB283_321 := n15_; have NB321_283 := n16_; have NB284_321 := n17_; have NB321_284 := n18_; have NB285_321 := n19_; have NB321_285 := n20_; have NB296_321 := n21_; have NB321_296 := n22_; have NB304_321 := n23_; have NB321_304 := n24_; clear n0_ n1_ n2_ n3_ n4_ n5_ n6_ n7_ n8_ n9_ n10_ n11_ n12_ n13_ n14_ n15_ n16_ n17_ n18_ n19_ n20_ n21_ n22_ n23_ n24_; clear hb hbox hg; obtain ⟨Ao125, co125, eo125⟩ := Kd.V_slice HO316.out; subst eo125; have hnb126 := NB321_283.out; have hnc126 := NB283_321.out; have hnb127 := NB321_284.out; have hnc127 := NB284_321.out; have hnb128 := NB321_285.out; have hnc128 := NB285_321.out; have hnb129 := NB321_296.out; have hnc129 := NB296_321.out; have hnb130 := NB321_304.out; have hnc130 := NB304_321.out; have hcz131_0 : w124.cell? ⟨gb321, 0, none⟩ = some (.slice none 0 0) := (blk_cell BK321.out 0).trans rfl; have hcz131_1 : w124.cell? ⟨gb321, 1, none⟩ = some (.slice none 0 0) := (blk_cell BK321.out 1).trans rfl; have hfz131_0 := blk_frozen BK321.out 0; have hfz131_1 := blk_frozen BK321.out 1; obtain ⟨Ao132, co132, eo132⟩ := Kd.V_slice HO319.out; subst eo132) | ((with_reducible refine gate_store (t := 25) (p := 18) rfl ?_); refine store_event (t := 25) (p := 18) (v := ?vo_w133) (w1 := ((w124.setCell ⟨gb321, 0, none⟩ (.slice Ao125 t314.length co125)).setCell ⟨gb321, 1, none⟩ (.slice Ao132 t317.length co132))) ?hg ?ho ?hn ?hr ?_; (case ho => rfl); (case hg => rfl); (case hn => rfl); (case hr => first | (go_simp; done) | (go_simp; rfl)); intro w133 hw; have n0_ : Aside0 (Kd.R Kd.string 9 w133 w.heap.size (fun k_ => some k_ ≠ (.slice Ao61 t297.length co61 : Value).ownBlock) (.slice Ao53 t289.length co53) t289) := ⟨(by rw [hw]; exact (rr (Kd.R_mono (Kd.R_far (p := ⟨gb321, 1, none⟩) (Kd.R_far (p := ⟨gb321, 0, none⟩) (Kd.R_types HO_297000.out BK321.out (by decide)) (fun _ hk => hk.2) (.slice Ao125 t314.length co125)) (fun _ hk => hk.2) (.slice Ao132 t317.length co132)) (fun _ hk => hk.1))))⟩; have n1_ : Aside0 (Kd.R k46 46 w133 w.heap.size (fun k_ => some k_ ≠ (.slice Ao67 t300.length co67 : Value).ownBlock) (.slice Ao58 t292.length co58) t292) := ⟨(by rw [hw]; exact (rr (Kd.R_mono (Kd.R_far (p := ⟨gb321, 1, none⟩) (Kd.R_far (p := ⟨gb321, 0, none⟩) (Kd.R_types HO_297001.out BK321.out (by decide)) (fun _ hk => hk.2) (.slice Ao125 t314.length co125)) (fun _ hk => hk.2) (.slice Ao132 t317.length co132)) (fun _ hk => hk.1))))⟩; have n2_ : Aside0 (Kd.R Kd.string 9 w133 w.heap.size (fun k_ => some k_ ≠ (.slice Ao53 t289.length co53 : Value).ownBlock) (.slice Ao61 t297.length co61) t297) := ⟨(by rw [hw]; exact (rr (Kd.R_mono (Kd.R_far (p := ⟨gb321, 1, none⟩) (Kd.R_far (p := ⟨gb321, 0, none⟩) (Kd.R_types HO_305000.out BK321.out (by decide)) (fun _ hk => hk.2) (.slice Ao125 t314.length co125)) (fun _ hk => hk.2) (.slice Ao132 t317.length co132)) (fun _ hk => hk.1))))⟩; have n3_ : Aside0 (Kd.R k46 46 w133 w.heap.size (fun k_ => some k_ ≠ (.slice Ao58 t292.length co58 : Value).ownBlock) (.slice Ao67 t300.length co67) t300) := ⟨(by rw [hw]; exact (rr (Kd.R_mono (Kd.R_far (p := ⟨gb321, 1, none⟩) (Kd.R_far (p := ⟨gb321, 0, none⟩) (Kd.R_types HO_305001.out BK321.out (by decide)) (fun _ hk => hk.2) (.slice Ao125 t314.length co125)) (fun _ hk => hk.2) (.slice Ao132 t317.length co132)) (fun _ hk => hk.1))))⟩; have n4_ : Aside0 (Kd.V Kd.string 9 w133 w.heap.size (fun k_ => some k_ ≠ (.slice Ao53 t289.length co53 : Value).ownBlock ∧ some k_ ≠ (.slice Ao58 t292.length co58 : Value).ownBlock ∧ some k_ ≠ (.slice Ao61 t297.length co61 : Value).ownBlock ∧ some k_ ≠ (.slice Ao67 t300.length co67 : Value).ownBlock ∧ k_ ≠ gb283 ∧ k_ ≠ gb284 ∧ k_ ≠ gb285 ∧ k_ ≠ gb296 ∧ k_ ≠ gb304 ∧ k_ ≠ gb321) (.slice Ao125 t314.length co125) t314) := ⟨(by rw [hw]; exact (vv (Kd.V_mono (Kd.V_far (p := ⟨gb321, 1, none⟩) (Kd.V_far (p := ⟨gb321, 0, none⟩) (Kd.V_mono HO316.out (fun k_ hk => (⟨hk, hk.2⟩ : _ ∧ k_ ≠ gb321))) (fun _ hk => hk.2) (.slice Ao125 t314.length co125)) (fun _ hk => hk.2) (.slice Ao132 t317.length co132)) (fun _ hk => ⟨hk.1.1.1, ⟨hk.1.1.2.1, ⟨hk.1.1.2.2.1, ⟨hk.1.1.2.2.2.1, ⟨hk.1.1.2.2.2.2.1, ⟨hk.1.1.2.2.2.2.2.1, ⟨hk.1.1.2.2.2.2.2.2.1, ⟨hk.1.1.2.2.2.2.2.2.2.1, ⟨hk.1.1.2.2.2.2.2.2.2.2, hk.1.2⟩⟩⟩⟩⟩⟩⟩⟩⟩))))⟩; have n5_ : Aside0 (Kd.V k46 46 w133 w.heap.size (fun k_ => some k_ ≠ (.slice Ao53 t289.length co53 : Value).ownBlock ∧ some k_ ≠ (.slice Ao58 t292.length co58 : Value).ownBlock ∧ some k_ ≠ (.slice Ao61 t297.length co61 : Value).ownBlock ∧ some k_ ≠ (.slice Ao67 t300.length co67 : Value).ownBlock ∧ k_ ≠ gb283 ∧ k_ ≠ gb284 ∧ k_ ≠ gb285 ∧ k_ ≠ gb296 ∧ k_ ≠ gb304 ∧ k_ ≠ gb321) (.slice Ao132 t317.length co132) t317) := ⟨(by rw [hw]; exact (vv (Kd.V_mono (Kd.V_far (p := ⟨gb321, 1, none⟩) (Kd.V_far (p := ⟨gb321, 0, none⟩) (Kd.V_mono HO319.out (fun k_ hk => (⟨hk, hk.2⟩ : _ ∧ k_ ≠ gb321))) (fun _ hk => hk.2) (.slice Ao125 t314.length co125)) (fun _ hk => hk.2) (.slice Ao132 t317.length co132)) (fun _ hk => ⟨hk.1.1.1, ⟨hk.1.1.2.1, ⟨hk.1.1.2.2.1, ⟨hk.1.1.2.2.2.1, ⟨hk.1.1.2.2.2.2.1, ⟨hk.1.1.2.2.2.2.2.1, ⟨hk.1.1.2.2.2.2.2.2.1, ⟨hk.1.1.2.2.2.2.2.2.2.1, ⟨hk.1.1.2.2.2.2.2.2.2.2, hk.1.2⟩⟩⟩⟩⟩⟩⟩⟩⟩))))⟩; have n6_ : Aside0 (w133.heap[gb283]? = some (.cells #[.slice A0_0 l0_0.length c0_0, .slice A0_1 l0_1.length c0_1, .slice A0_2 l0_2.length c0_2, .slice A0_3 l0_3.length c0_3, .int .i64 a0_4, .string a0_5, .slice A0_6 l0_6.length c0_6] 28 (0, 0))) := ⟨(by rw [hw]; exact (by (with_reducible repeat (first | refine blk_drewN ?_ _ | refine blk_drew ?_ | refine blk_alloc ?_ _)); refine blk_far ?_ NB283_321.out _; (with_reducible repeat (first | refine blk_drewN ?_ _ | refine blk_drew ?_ | refine blk_alloc ?_ _)); refine blk_far ?_ NB283_321.out _; (with_reducible repeat (first | refine blk_drewN ?_ _ | refine blk_drew ?_ | refine blk_alloc ?_ _)); exact BK283.out))⟩; have n7_ : Aside0 (w133.heap[gb284]? = some (.cells #[.slice A0_0 l0_0.length c0_0, .slice A0_1 l0_1.length c0_1] 25 (0, 0))) := ⟨(by rw [hw]; exact (by (with_reducible repeat (first | refine blk_drewN ?_ _ | refine blk_drew ?_ | refine blk_alloc ?_ _)); refine blk_far ?_ NB284_321.out _; (with_reducible repeat (first | refine blk_drewN ?_ _ | refine blk_drew ?_ | refine blk_alloc ?_ _)); refine blk_far ?_ NB284_321.out _; (with_reducible repeat (first | refine blk_drewN ?_ _ | refine blk_drew ?_ | refine blk_alloc ?_ _)); exact BK284.out))⟩; have n8_ : Aside0 (w133.heap[gb285]? = some (.cells #[.slice A0_2 l0_2.length c0_2, .slice A0_3 l0_3.length c0_3] 25 (0, 0))) := ⟨(by rw [hw]; exact (by (with_reducible repeat (first | refine blk_drewN ?_ _ | refine blk_drew ?_ | refine blk_alloc ?_ _)); refine blk_far ?_ NB285_321.out _; (with_reducible repeat (first | refine blk_drewN ?_ _ | refine blk_drew ?_ | refine blk_alloc ?_ _)); refine blk_far ?_ NB285_321.out _; (with_reducible repeat (first | refine blk_drewN ?_ _ | refine blk_drew ?_ | refine blk_alloc ?_ _)); exact BK285.out))⟩; have n9_ : Aside0 (w133.heap[gb296]? = some (.cells #[.slice Ao53 t289.length co53, .slice Ao58 t292.length co58] 25 (0, 0))) := ⟨(by rw [hw]; exact (by (with_reducible repeat (first | refine blk_drewN ?_ _ | refine blk_drew ?_ | refine blk_alloc ?_ _)); refine blk_far ?_ NB296_321.out _; (with_reducible repeat (first | refine blk_drewN ?_ _ | refine blk_drew ?_ | refine blk_alloc ?_ _)); refine blk_far ?_ NB296_321.out _; (with_reducible repeat (first | refine blk_drewN ?_ _ | refine blk_drew ?_ | refine blk_alloc ?_ _)); exact BK296.out))⟩; have n10_ : Aside0 (w133.heap[gb304]? = some (.cells #[.slice Ao61 t297.length co61, .slice Ao67 t300.length co67] 25 (0, 0))) := ⟨(by rw [hw]; exact (by (with_reducible repeat (first | refine blk_drewN ?_ _ | refine blk_drew ?_ | refine blk_alloc ?_ _)); refine blk_far ?_ NB304_321.out _; (with_reducible repeat (first | refine blk_drewN ?_ _ | refine blk_drew ?_ | refine blk_alloc ?_ _)); refine blk_far ?_ NB304_321.out _; (with_reducible repeat (first | refine blk_drewN ?_ _ | refine blk_drew ?_ | refine blk_alloc ?_ _)); exact BK304.out))⟩; have n11_ : Aside0 (w133.heap[gb321]? = some (.cells #[.slice Ao125 t314.length co125, .slice Ao132 t317.length co132] 25 (0, 0))) := ⟨(by rw [hw]; exact (by (with_reducible repeat (first | refine blk_drewN ?_ _ | refine blk_drew ?_ | refine blk_alloc ?_ _)); refine blk_put (cs := #[.slice Ao125 t314.length co125, .slice none 0 0]) ?_ 1 _ rfl; (with_reducible repeat (first | refine blk_drewN ?_ _ | refine blk_drew ?_ | refine blk_alloc ?_ _)); refine blk_put (cs := #[.slice none 0 0, .slice none 0 0]) ?_ 0 _ rfl; (with_reducible repeat (first | refine blk_drewN ?_ _ | refine blk_drew ?_ | refine blk_alloc ?_ _)); exact BK321.out))⟩; have n12_ : Aside0 (Below w.heap.size w w133) := ⟨(by rw [hw]; exact bb)⟩; clear hw; clear HO_297000; clear HO_297001; clear HO_305000; clear HO_305001; clear HO316; clear HO319; clear BK283; clear BK284; clear BK285; clear BK296; clear BK304; clear BK321; clear HB; have HO_297000 := n0_; have HO_297001 := n1_; have HO_305000 := n2_; have HO_305001 := n3_; have HO316 := n4_; have HO319 := n5_; have BK283 := n6_; have BK284 := n7_; have BK285 := n8_; have BK296 := n9_; have BK304 := n10_; have BK321 := n11_; have HB := n12_; clear n0_ n1_ n2_ n3_ n4_ n5_ n6_ n7_ n8_ n9_ n10_ n11_ n12_; have hcz134_0 : w133.cell? ⟨gb284, 0, none⟩ = some (.slice A0_0 l0_0.length c0_0) := (blk_cell BK284.out 0).trans rfl; have hcz134_1 : w133.cell? ⟨gb284, 1, none⟩ = some (.slice A0_1 l0_1.length c0_1) := (blk_cell BK284.out 1).trans rfl; have hfz134_0 := blk_frozen BK284.out 0; have hfz134_1 := blk_frozen BK284.out 1) | ((with_reducible refine gate_callee (f := 18) rfl ?_); refine goesL_ (some 114) rfl rfl Try.func18 (by kernel_rfl) rfl #[.agg #[.slice A0_0 l0_0.length c0_0, .slice A0_1 l0_1.length c0_1], .int .i64 a0_4, .string a0_5] rfl (by (try simp only [List.map_toArray, List.map_cons, List.map_nil]); first | done | rfl | (simp only [List.length_drop, List.length_take]; rfl)) ?_; (with_reducible refine (rWrite.calls (fun k_ => k_ < w.heap.size) _ _ l0_0 (fun k_ => k_ < w.heap.size) _ _ l0_1 a0_4 a0_5 t322 t325 t328 _ ?side1 ?side2 A100.out).mono ?_); (case side1 => exact Kd.V_mk HC0_0.out (Kd.F_below (Kd.C_F Kd.heap_string HR0_0.out) bb)); (case side2 => exact Kd.V_mk HC0_1.out (Kd.F_below (Kd.C_F k46_heap HR0_1.out) bb)); rintro e w135 ⟨v323, v326, rfl, ho0, ho1, hb⟩; refine ⟨_, rfl, ?_⟩; have n0_ := aS (Kd.R_below (rr HO_297000.out) hb); have n1_ := aS (Kd.R_below (rr HO_297001.out) hb); have n2_ := aS (Kd.R_below (rr HO_305000.out) hb); have n3_ := aS (Kd.R_below (rr HO_305001.out) hb); have n4_ := aS (Kd.V_below (vv HO316.out) hb); have n5_ := aS (Kd.V_below (vv HO319.out) hb); have n6_ := aS (Kd.V_lower (Kd.V_mono (ok' := fun k_ => some k_ ≠ (.slice Ao53 t289.length co53 : Value).ownBlock ∧ some k_ ≠ (.slice Ao58 t292.length co58 : Value).ownBlock ∧ some k_ ≠ (.slice Ao61 t297.length co61 : Value).ownBlock ∧ some k_ ≠ (.slice Ao67 t300.length co67 : Value).ownBlock ∧ k_ ≠ gb283 ∧ k_ ≠ gb284 ∧ k_ ≠ gb285 ∧ k_ ≠ gb296 ∧ k_ ≠ gb304 ∧ k_ ≠ gb321) ho0 (fun k_ hk_ => ⟨Or.elim hk_ (fun hs_ => Or.elim hs_ (fun hs_ => fun e_ => Nat.not_le.2 hs_ (Kd.R_base HO_297000.out k_ e_.symm)) (fun hs_ => fun e_ => Nat.not_le.2 hs_ (Kd.R_base HO_297000.out k_ e_.symm))) (fun hn_ => (Kd.fresh' (Kd.R_lt (rr HO_297000.out)) k_ hn_)), Or.elim hk_ (fun hs_ => Or.elim hs_ (fun hs_ => fun e_ => Nat.not_le.2 hs_ (Kd.R_base HO_297001.out k_ e_.symm)) (fun hs_ => fun e_ => Nat.not_le.2 hs_ (Kd.R_base HO_297001.out k_ e_.symm))) (fun hn_ => (Kd.fresh' (Kd.R_lt (rr HO_297001.out)) k_ hn_)), Or.elim hk_ (fun hs_ => Or.elim hs_ (fun hs_ => fun e_ => Nat.not_le.2 hs_ (Kd.R_base HO_305000.out k_ e_.symm)) (fun hs_ => fun e_ => Nat.not_le.2 hs_ (Kd.R_base HO_305000.out k_ e_.symm))) (fun hn_ => (Kd.fresh' (Kd.R_lt (rr HO_305000.out)) k_ hn_)), Or.elim hk_ (fun hs_ => Or.elim hs_ (fun hs_ => fun e_ => Nat.not_le.2 hs_ (Kd.R_base HO_305001.out k_ e_.symm)) (fun hs_ => fun e_ => Nat.not_le.2 hs_ (Kd.R_base HO_305001.out k_ e_.symm))) (fun hn_ => (Kd.fresh' (Kd.R_lt (rr HO_305001.out)) k_ hn_)), Or.elim hk_ (fun hs_ => Or.elim hs_ (fun hs_ => fun e_ => Nat.not_le.2 hs_ (by rw [e_]; exact GW283.out)) (fun hs_ => fun e_ => Nat.not_le.2 hs_ (by rw [e_]; exact GW283.out))) (fun hn_ => (Kd.freshB (g := gb283) (o := .cells #[.slice A0_0 l0_0.length c0_0, .slice A0_1 l0_1.length c0_1, .slice A0_2 l0_2.length c0_2, .slice A0_3 l0_3.length c0_3, .int .i64 a0_4, .string a0_5, .slice A0_6 l0_6.length c0_6] 28 (0, 0)) (kk BK283.out) k_ hn_)), Or.elim hk_ (fun hs_ => Or.elim hs_ (fun hs_ => fun e_ => Nat.not_le.2 hs_ (by rw [e_]; exact GW284.out)) (fun hs_ => fun e_ => Nat.not_le.2 hs_ (by rw [e_]; exact GW284.out))) (fun hn_ => (Kd.freshB (g := gb284) (o := .cells #[.slice A0_0 l0_0.length c0_0, .slice A0_1 l0_1.length c0_1] 25 (0, 0)) (kk BK284.out) k_ hn_)), Or.elim hk_ (fun hs_ => Or.elim hs_ (fun hs_ => fun e_ => Nat.not_le.2 hs_ (by rw [e_]; exact GW285.out)) (fun hs_ => fun e_ => Nat.not_le.2 hs_ (by rw [e_]; exact GW285.out))) (fun hn_ => (Kd.freshB (g := gb285) (o := .cells #[.slice A0_2 l0_2.length c0_2, .slice A0_3 l0_3.length c0_3] 25 (0, 0)) (kk BK285.out) k_ hn_)), Or.elim hk_ (fun hs_ => Or.elim hs_ (fun hs_ => fun e_ => Nat.not_le.2 hs_ (by rw [e_]; exact GW296.out)) (fun hs_ => fun e_ => Nat.not_le.2 hs_ (by rw [e_]; exact GW296.out))) (fun hn_ => (Kd.freshB (g := gb296) (o := .cells #[.slice Ao53 t289.length co53, .slice Ao58 t292.length co58] 25 (0, 0)) (kk BK296.out) k_ hn_)), Or.elim hk_ (fun hs_ => Or.elim hs_ (fun hs_ => fun e_ => Nat.not_le.2 hs_ (by rw [e_]; exact GW304.out)) (fun hs_ => fun e_ => Nat.not_le.2 hs_ (by rw [e_]; exact GW304.out))) (fun hn_ => (Kd.freshB (g := gb304) (o := .cells #[.slice Ao61 t297.length co61, .slice Ao67 t300.length co67] 25 (0, 0)) (kk BK304.out) k_ hn_)), Or.elim hk_ (fun hs_ => Or.elim hs_ (fun hs_ => fun e_ => Nat.not_le.2 hs_ (by rw [e_]; exact GW321.out)) (fun hs_ => fun e_ => Nat.not_le.2 hs_ (by rw [e_]; exact GW321.out))) (fun hn_ => (Kd.freshB (g := gb321) (o := .cells #[.slice Ao125 t314.length co125, .slice Ao132 t317.length co132] 25 (0, 0)) (kk BK321.out) k_ hn_))⟩)) bz); have n7_ := aS (Kd.V_lower (Kd.V_mono (ok' := fun k_ => some k_ ≠ (.slice Ao53 t289.length co53 : Value).ownBlock ∧ some k_ ≠ (.slice Ao58 t292.length co58 : Value).ownBlock ∧ some k_ ≠ (.slice Ao61 t297.length co61 : Value).ownBlock ∧ some k_ ≠ (.slice Ao67 t300.length co67 : Value).ownBlock ∧ k_ ≠ gb283 ∧ k_ ≠ gb284 ∧ k_ ≠ gb285 ∧ k_ ≠ gb296 ∧ k_ ≠ gb304 ∧ k_ ≠ gb321) ho1 (fun k_ hk_ => ⟨Or.elim hk_ (fun hs_ => Or.elim hs_ (fun hs_ => fun e_ => Nat.not_le.2 hs_ (Kd.R_base HO_297000.out k_ e_.symm)) (fun hs_ => fun e_ => Nat.not_le.2 hs_ (Kd.R_base HO_297000.out k_ e_.symm))) (fun hn_ => (Kd.fresh' (Kd.R_lt (rr HO_297000.out)) k_ hn_)), Or.elim hk_ (fun hs_ => Or.elim hs_ (fun hs_ => fun e_ => Nat.not_le.2 hs_ (Kd.R_base HO_297001.out k_ e_.symm)) (fun hs_ => fun e_ => Nat.not_le.2 hs_ (Kd.R_base HO_297001.out k_ e_.symm))) (fun hn_ => (Kd.fresh' (Kd.R_lt (rr HO_297001.out)) k_ hn_)), Or.elim hk_ (fun hs_ => Or.elim hs_ (fun hs_ => fun e_ => Nat.not_le.2 hs_ (Kd.R_base HO_305000.out k_ e_.symm)) (fun hs_ => fun e_ => Nat.not_le.2 hs_ (Kd.R_base HO_305000.out k_ e_.symm))) (fun hn_ => (Kd.fresh' (Kd.R_lt (rr HO_305000.out)) k_ hn_)), Or.elim hk_ (fun hs_ => Or.elim hs_ (fun hs_ => fun e_ => Nat.not_le.2 hs_ (Kd.R_base HO_305001.out k_ e_.symm)) (fun hs_ => fun e_ => Nat.not_le.2 hs_ (Kd.R_base HO_305001.out k_ e_.symm))) (fun hn_ => (Kd.fresh' (Kd.R_lt (rr HO_305001.out)) k_ hn_)), Or.elim hk_ (fun hs_ => Or.elim hs_ (fun hs_ => fun e_ => Nat.not_le.2 hs_ (by rw [e_]; exact GW283.out)) (fun hs_ => fun e_ => Nat.not_le.2 hs_ (by rw [e_]; exact GW283.out))) (fun hn_ => (Kd.freshB (g := gb283) (o := .cells #[.slice A0_0 l0_0.length c0_0, .slice A0_1 l0_1.length c0_1, .slice A0_2 l0_2.length c0_2, .slice A0_3 l0_3.length c0_3, .int .i64 a0_4, .string a0_5, .slice A0_6 l0_6.length c0_6] 28 (0, 0)) (kk BK283.out) k_ hn_)), Or.elim hk_ (fun hs_ => Or.elim hs_ (fun hs_ => fun e_ => Nat.not_le.2 hs_ (by rw [e_]; exact GW284.out)) (fun hs_ => fun e_ => Nat.not_le.2 hs_ (by rw [e_]; exact GW284.out))) (fun hn_ => (Kd.freshB (g := gb284) (o := .cells #[.slice A0_0 l0_0.length c0_0, .slice A0_1 l0_1.length c0_1] 25 (0, 0)) (kk BK284.out) k_ hn_)), Or.elim hk_ (fun hs_ => Or.elim hs_ (fun hs_ => fun e_ => Nat.not_le.2 hs_ (by rw [e_]; exact GW285.out)) (fun hs_ => fun e_ => Nat.not_le.2 hs_ (by rw [e_]; exact GW285.out))) (fun hn_ => (Kd.freshB (g := gb285) (o := .cells #[.slice A0_2 l0_2.length c0_2, .slice A0_3 l0_3.length c0_3] 25 (0, 0)) (kk BK285.out) k_ hn_)), Or.elim hk_ (fun hs_ => Or.elim hs_ (fun hs_ => fun e_ => Nat.not_le.2 hs_ (by rw [e_]; exact GW296.out)) (fun hs_ => fun e_ => Nat.not_le.2 hs_ (by rw [e_]; exact GW296.out))) (fun hn_ => (Kd.freshB (g := gb296) (o := .cells #[.slice Ao53 t289.length co53, .slice Ao58 t292.length co58] 25 (0, 0)) (kk BK296.out) k_ hn_)), Or.elim hk_ (fun hs_ => Or.elim hs_ (fun hs_ => fun e_ => Nat.not_le.2 hs_ (by rw [e_]; exact GW304.out)) (fun hs_ => fun e_ => Nat.not_le.2 hs_ (by rw [e_]; exact GW304.out))) (fun hn_ => (Kd.freshB (g := gb304) (o := .cells #[.slice Ao61 t297.length co61, .slice Ao67 t300.length co67] 25 (0, 0)) (kk BK304.out) k_ hn_)), Or.elim hk_ (fun hs_ => Or.elim hs_ (fun hs_ => fun e_ => Nat.not_le.2 hs_ (by rw [e_]; exact GW321.out)) (fun hs_ => fun e_ => Nat.not_le.2 hs_ (by rw [e_]; exact GW321.out))) (fun hn_ => (Kd.freshB (g := gb321) (o := .cells #[.slice Ao125 t314.length co125, .slice Ao132 t317.length co132] 25 (0, 0)) (kk BK321.out) k_ hn_))⟩)) bz); have n8_ := aS (kb BK283.out hb); have n9_ := aS (kb BK284.out hb); have n10_ := aS (kb BK285.out hb); have n11_ := aS (kb BK296.out hb); have n12_ := aS (kb BK304.out hb); have n13_ := aS (kb BK321.out hb); have n14_ := aS (below_step bb hb); clear HO_297000; clear HO_297001; clear HO_305000; clear HO_305001; clear HO316; clear HO319; clear BK283; clear BK284; clear BK285; clear BK296; clear BK304; clear BK321; clear HB; have HO_297000 := n0_; have HO_297001 := n1_; have HO_305000 := n2_; have HO_305001 := n3_; have HO316 := n4_; have HO319 := n5_; have HO324 := n6_; have HO327 := n7_; have BK283 := n8_; have BK284 := n9_; have BK285 := n10_; have BK296 := n11_; have BK304 := n12_; have BK321 := n13_; have HB := n14_; clear n0_ n1_ n2_ n3_ n4_ n5_ n6_ n7_ n8_ n9_ n10_ n11_ n12_ n13_ n14_; (try clear hb); (try clear hb2); (try clear hk); (try clear hi); (try clear ho0); (try clear ho1)) | ((with_reducible refine gate_dst (N := 20) rfl ?_); (try (refine gate_guard (by rfl) ?_; dsimp only)); refine box_event ?hg (N := 20) ?hd (cs := #[.slice none 0 0, .slice none 0 0]) (t := 25) ?hr ?_; (case hd => rfl); (case hg => rfl); (case hr => first | (go_simp; done) | (go_simp; rfl)); intro gb329 hg w136 hbox hb; have n0_ := aS (Kd.R_below (rr HO_297000.out) hb); have n1_ := aS (Kd.R_below (rr HO_297001.out) hb); have n2_ := aS (Kd.R_below (rr HO_305000.out) hb); have n3_ := aS (Kd.R_below (rr HO_305001.out) hb); have n4_ := aS (Kd.V_below (Kd.V_elderB (vv HO316.out) gb329 (Nat.le_of_eq hg.symm)) hb); have n5_ := aS (Kd.V_below (Kd.V_elderB (vv HO319.out) gb329 (Nat.le_of_eq hg.symm)) hb); have n6_ := aS (Kd.V_below (Kd.V_elderB (vv HO324.out) gb329 (Nat.le_of_eq hg.symm)) hb); have n7_ := aS (Kd.V_below (Kd.V_elderB (vv HO327.out) gb329 (Nat.le_of_eq hg.symm)) hb); have n8_ := aS (kb BK283.out hb); have n9_ := aS (kb BK284.out hb); have n10_ := aS (kb BK285.out hb); have n11_ := aS (kb BK296.out hb); have n12_ := aS (kb BK304.out hb); have n13_ := aS (kb BK321.out hb); have n14_ := aS (below_step bb hb); have n15_ := aS (hbox); have n16_ := aS ((by rw [hg]; exact bz : w.heap.size ≤ gb329)); have n17_ := aS ((by rw [hg]; exact bz : w.heap.size ≤ gb329)); have n18_ := aS ((by rw [hg]; exact Nat.ne_of_lt (blk_lt (g := gb283) (o := .cells #[.slice A0_0 l0_0.length c0_0, .slice A0_1 l0_1.length c0_1, .slice A0_2 l0_2.length c0_2, .slice A0_3 l0_3.length c0_3, .int .i64 a0_4, .string a0_5, .slice A0_6 l0_6.length c0_6] 28 (0, 0)) (kk BK283.out)) : gb283 ≠ gb329)); have n19_ := aS ((by rw [hg]; exact Nat.ne_of_gt (blk_lt (g := gb283) (o := .cells #[.slice A0_0 l0_0.length c0_0, .slice A0_1 l0_1.length c0_1, .slice A0_2 l0_2.length c0_2, .slice A0_3 l0_3.length c0_3, .int .i64 a0_4, .string a0_5, .slice A0_6 l0_6.length c0_6] 28 (0, 0)) (kk BK283.out)) : gb329 ≠ gb283)); have n20_ := aS ((by rw [hg]; exact Nat.ne_of_lt (blk_lt (g := gb284) (o := .cells #[.slice A0_0 l0_0.length c0_0, .slice A0_1 l0_1.length c0_1] 25 (0, 0)) (kk BK284.out)) : gb284 ≠ gb329)); have n21_ := aS ((by rw [hg]; exact Nat.ne_of_gt (blk_lt (g := gb284) (o := .cells #[.slice A0_0 l0_0.length c0_0, .slice A0_1 l0_1.length c0_1] 25 (0, 0)) (kk BK284.out)) : gb329 ≠ gb284)); have n22_ := aS ((by rw [hg]; exact Nat.ne_of_lt (blk_lt (g := gb285) (o := .cells #[.slice A0_2 l0_2.length c0_2, .slice A0_3 l0_3.length c0_3] 25 (0, 0)) (kk BK285.out)) : gb285 ≠ gb329)); have n23_ := aS ((by rw [hg]; exact Nat.ne_of_gt (blk_lt (g := gb285) (o := .cells #[.slice A0_2 l0_2.length c0_2, .slice A0_3 l0_3.length c0_3] 25 (0, 0)) (kk BK285.out)) : gb329 ≠ gb285)); have n24_ := aS ((by rw [hg]; exact Nat.ne_of_lt (blk_lt (g := gb296) (o := .cells #[.slice Ao53 t289.length co53, .slice Ao58 t292.length co58] 25 (0, 0)) (kk BK296.out)) : gb296 ≠ gb329)); have n25_ := aS ((by rw [hg]; exact Nat.ne_of_gt (blk_lt (g := gb296) (o := .cells #[.slice Ao53 t289.length co53, .slice Ao58 t292.length co58] 25 (0, 0)) (kk BK296.out)) : gb329 ≠ gb296)); have n26_ := aS ((by rw [hg]; exact Nat.ne_of_lt (blk_lt (g := gb304) (o := .cells #[.slice Ao61 t297.length co61, .slice Ao67 t300.length co67] 25 (0, 0)) (kk BK304.out)) : gb304 ≠ gb329)); have n27_ := aS ((by rw [hg]; exact Nat.ne_of_gt (blk_lt (g := gb304) (o := .cells #[.slice Ao61 t297.length co61, .slice Ao67 t300.length co67] 25 (0, 0)) (kk BK304.out)) : gb329 ≠ gb304)); have n28_ := aS ((by rw [hg]; exact Nat.ne_of_lt (blk_lt (g := gb321) (o := .cells #[.slice Ao125 t314.length co125, .slice Ao132 t317.length co132] 25 (0, 0)) (kk BK321.out)) : gb321 ≠ gb329)); have n29_ := aS ((by rw [hg]; exact Nat.ne_of_gt (blk_lt (g := gb321) (o := .cells #[.slice Ao125 t314.length co125, .slice Ao132 t317.length co132] 25 (0, 0)) (kk BK321.out)) : gb329 ≠ gb321)); clear HO_297000; clear HO_297001; clear HO_305000; clear HO_305001; clear HO316; clear HO319; clear HO324; clear HO327; clear BK283; clear BK284; clear BK285; clear BK296; clear BK304; clear BK321; clear HB; have HO_297000 := n0_; have HO_297001 := n1_; have HO_305000 := n2_; have HO_305001 := n3_; have HO316 := n4_; have HO319 := n5_; have HO324 := n6_; have HO327 := n7_; have BK283 := n8_; have BK284 := n9_; have BK285 := n10_; have BK296 := n11_; have BK304 := n12_; have BK321 := n13_; have HB := n14_; have BK329 := n15_; have GW329 := n16_; have GE329 := n17_; have NB283_329 := n18_; have NB329_283 := n19_; have NB284_329 := n20_; have NB329_284 := n21_; have NB285_329 := n22_; have NB329_285 := n23_; have NB296_329 := n24_; have NB329_296 := n25_; have NB304_329 := n26_; have NB329_304 := n27_; have NB321_329 := n28_; have NB329_321 := n29_; clear n0_ n1_ n2_ n3_ n4_ n5_ n6_ n7_ n8_ n9_ n10_ n11_ n12_ n13_ n14_ n15_ n16_ n17_ n18_ n19_ n20_ n21_ n22_ n23_ n24_ n25_ n26_ n27_ n28_ n29_; clear hb hbox hg; obtain ⟨Ao137, co137, eo137⟩ := Kd.V_slice HO324.out; subst eo137; have hnb138 := NB329_283.out; have hnc138 := NB283_329.out; have hnb139 := NB329_284.out; have hnc139 := NB284_329.out; have hnb140 := NB329_285.out; have hnc140 := NB285_329.out; have hnb141 := NB329_296.out; have hnc141 := NB296_329.out; have hnb142 := NB329_304.out; have hnc142 := NB304_329.out; have hnb143 := NB329_321.out; have hnc143 := NB321_329.out; have hcz144_0 : w136.cell? ⟨gb329, 0, none⟩ = some (.slice none 0 0) := (blk_cell BK329.out 0).trans rfl; have hcz144_1 : w136.cell? ⟨gb329, 1, none⟩ = some (.slice none 0 0) := (blk_cell BK329.out 1).trans rfl; have hfz144_0 := blk_frozen BK329.out 0; have hfz144_1 := blk_frozen BK329.out 1; obtain ⟨Ao145, co145, eo145⟩ := Kd.V_slice HO327.out; subst eo145))
   have n0_ : Aside0 (Kd.R Kd.string 9 ((w136.setCell ⟨gb329, 0, none⟩ (.slice Ao137 t322.length co137)).setCell ⟨gb329, 1, none⟩ (.slice Ao145 t325.length co145)) w.heap.size (fun k_ => some k_ ≠ (.slice Ao61 t297.length co61 : Value).ownBlock) (.slice Ao53 t289.length co53) t289) := ⟨by (with_reducible repeat (first | apply Kd.R_alloc | apply Kd.R_drewN | apply Kd.R_drew)); exact Kd.R_mono (Kd.R_far (p := ⟨gb329, 1, none⟩) (Kd.R_far (p := ⟨gb329, 0, none⟩) (Kd.R_types HO_297000.out BK329.out (by decide)) (fun _ hk => hk.2) (.slice Ao137 t322.length co137)) (fun _ hk => hk.2) (.slice Ao145 t325.length co145)) (fun _ hk => hk.1)⟩
   have n1_ : Aside0 (Kd.R k46 46 ((w136.setCell ⟨gb329, 0, none⟩ (.slice Ao137 t322.length co137)).setCell ⟨gb329, 1, none⟩ (.slice Ao145 t325.length co145)) w.heap.size (fun k_ => some k_ ≠ (.slice Ao67 t300.length co67 : Value).ownBlock) (.slice Ao58 t292.length co58) t292) := ⟨by (with_reducible repeat (first | apply Kd.R_alloc | apply Kd.R_drewN | apply Kd.R_drew)); exact Kd.R_mono (Kd.R_far (p := ⟨gb329, 1, none⟩) (Kd.R_far (p := ⟨gb329, 0, none⟩) (Kd.R_types HO_297001.out BK329.out (by decide)) (fun _ hk => hk.2) (.slice Ao137 t322.length co137)) (fun _ hk => hk.2) (.slice Ao145 t325.length co145)) (fun _ hk => hk.1)⟩
   have n2_ : Aside0 (Kd.R Kd.string 9 ((w136.setCell ⟨gb329, 0, none⟩ (.slice Ao137 t322.length co137)).setCell ⟨gb329, 1, none⟩ (.slice Ao145 t325.length co145)) w.heap.size (fun k_ => some k_ ≠ (.slice Ao53 t289.length co53 : Value).ownBlock) (.slice Ao61 t297.length co61) t297) := ⟨by (with_reducible repeat (first | apply Kd.R_alloc | apply Kd.R_drewN | apply Kd.R_drew)); exact Kd.R_mono (Kd.R_far (p := ⟨gb329, 1, none⟩) (Kd.R_far (p := ⟨gb329, 0, none⟩) (Kd.R_types HO_305000.out BK329.out (by decide)) (fun _ hk => hk.2) (.slice Ao137 t322.length co137)) (fun _ hk => hk.2) (.slice Ao145 t325.length co145)) (fun _ hk => hk.1)⟩
   have n3_ : Aside0 (Kd.R k46 46 ((w136.setCell ⟨gb329, 0, none⟩ (.slice Ao137 t322.length co137)).setCell ⟨gb329, 1, none⟩ (.slice Ao145 t325.length co145)) w.heap.size (fun k_ => some k_ ≠ (.slice Ao58 t292.length co58 : Value).ownBlock) (.slice Ao67 t300.length co67) t300) := ⟨by (with_reducible repeat (first | apply Kd.R_alloc | apply Kd.R_drewN | apply Kd.R_drew)); exact Kd.R_mono (Kd.R_far (p := ⟨gb329, 1, none⟩) (Kd.R_far (p := ⟨gb329, 0, none⟩) (Kd.R_types HO_305001.out BK329.out (by decide)) (fun _ hk => hk.2) (.slice Ao137 t322.length co137)) (fun _ hk => hk.2) (.slice Ao145 t325.length co145)) (fun _ hk => hk.1)⟩
   have n4_ : Aside0 (Kd.V Kd.string 9 ((w136.setCell ⟨gb329, 0, none⟩ (.slice Ao137 t322.length co137)).setCell ⟨gb329, 1, none⟩ (.slice Ao145 t325.length co145)) w.heap.size (fun k_ => some k_ ≠ (.slice Ao53 t289.length co53 : Value).ownBlock ∧ some k_ ≠ (.slice Ao58 t292.length co58 : Value).ownBlock ∧ some k_ ≠ (.slice Ao61 t297.length co61 : Value).ownBlock ∧ some k_ ≠ (.slice Ao67 t300.length co67 : Value).ownBlock ∧ k_ ≠ gb283 ∧ k_ ≠ gb284 ∧ k_ ≠ gb285 ∧ k_ ≠ gb296 ∧ k_ ≠ gb304 ∧ k_ ≠ gb321 ∧ k_ ≠ gb329) (.slice Ao125 t314.length co125) t314) := ⟨by (with_reducible repeat (first | apply Kd.V_alloc | apply Kd.V_drewN | apply Kd.V_drew)); exact Kd.V_mono (Kd.V_far (p := ⟨gb329, 1, none⟩) (Kd.V_far (p := ⟨gb329, 0, none⟩) (Kd.V_mono HO316.out (fun k_ hk => (⟨hk, hk.2⟩ : _ ∧ k_ ≠ gb329))) (fun _ hk => hk.2) (.slice Ao137 t322.length co137)) (fun _ hk => hk.2) (.slice Ao145 t325.length co145)) (fun _ hk => ⟨hk.1.1.1, ⟨hk.1.1.2.1, ⟨hk.1.1.2.2.1, ⟨hk.1.1.2.2.2.1, ⟨hk.1.1.2.2.2.2.1, ⟨hk.1.1.2.2.2.2.2.1, ⟨hk.1.1.2.2.2.2.2.2.1, ⟨hk.1.1.2.2.2.2.2.2.2.1, ⟨hk.1.1.2.2.2.2.2.2.2.2.1, ⟨hk.1.1.2.2.2.2.2.2.2.2.2, hk.1.2⟩⟩⟩⟩⟩⟩⟩⟩⟩⟩)⟩
   have n5_ : Aside0 (Kd.V k46 46 ((w136.setCell ⟨gb329, 0, none⟩ (.slice Ao137 t322.length co137)).setCell ⟨gb329, 1, none⟩ (.slice Ao145 t325.length co145)) w.heap.size (fun k_ => some k_ ≠ (.slice Ao53 t289.length co53 : Value).ownBlock ∧ some k_ ≠ (.slice Ao58 t292.length co58 : Value).ownBlock ∧ some k_ ≠ (.slice Ao61 t297.length co61 : Value).ownBlock ∧ some k_ ≠ (.slice Ao67 t300.length co67 : Value).ownBlock ∧ k_ ≠ gb283 ∧ k_ ≠ gb284 ∧ k_ ≠ gb285 ∧ k_ ≠ gb296 ∧ k_ ≠ gb304 ∧ k_ ≠ gb321 ∧ k_ ≠ gb329) (.slice Ao132 t317.length co132) t317) := ⟨by (with_reducible repeat (first | apply Kd.V_alloc | apply Kd.V_drewN | apply Kd.V_drew)); exact Kd.V_mono (Kd.V_far (p := ⟨gb329, 1, none⟩) (Kd.V_far (p := ⟨gb329, 0, none⟩) (Kd.V_mono HO319.out (fun k_ hk => (⟨hk, hk.2⟩ : _ ∧ k_ ≠ gb329))) (fun _ hk => hk.2) (.slice Ao137 t322.length co137)) (fun _ hk => hk.2) (.slice Ao145 t325.length co145)) (fun _ hk => ⟨hk.1.1.1, ⟨hk.1.1.2.1, ⟨hk.1.1.2.2.1, ⟨hk.1.1.2.2.2.1, ⟨hk.1.1.2.2.2.2.1, ⟨hk.1.1.2.2.2.2.2.1, ⟨hk.1.1.2.2.2.2.2.2.1, ⟨hk.1.1.2.2.2.2.2.2.2.1, ⟨hk.1.1.2.2.2.2.2.2.2.2.1, ⟨hk.1.1.2.2.2.2.2.2.2.2.2, hk.1.2⟩⟩⟩⟩⟩⟩⟩⟩⟩⟩)⟩
   have n6_ : Aside0 (Kd.V Kd.string 9 ((w136.setCell ⟨gb329, 0, none⟩ (.slice Ao137 t322.length co137)).setCell ⟨gb329, 1, none⟩ (.slice Ao145 t325.length co145)) w.heap.size (fun k_ => some k_ ≠ (.slice Ao53 t289.length co53 : Value).ownBlock ∧ some k_ ≠ (.slice Ao58 t292.length co58 : Value).ownBlock ∧ some k_ ≠ (.slice Ao61 t297.length co61 : Value).ownBlock ∧ some k_ ≠ (.slice Ao67 t300.length co67 : Value).ownBlock ∧ k_ ≠ gb283 ∧ k_ ≠ gb284 ∧ k_ ≠ gb285 ∧ k_ ≠ gb296 ∧ k_ ≠ gb304 ∧ k_ ≠ gb321 ∧ k_ ≠ gb329) (.slice Ao137 t322.length co137) t322) := ⟨by (with_reducible repeat (first | apply Kd.V_alloc | apply Kd.V_drewN | apply Kd.V_drew)); exact Kd.V_mono (Kd.V_far (p := ⟨gb329, 1, none⟩) (Kd.V_far (p := ⟨gb329, 0, none⟩) (Kd.V_mono HO324.out (fun k_ hk => (⟨hk, hk.2⟩ : _ ∧ k_ ≠ gb329))) (fun _ hk => hk.2) (.slice Ao137 t322.length co137)) (fun _ hk => hk.2) (.slice Ao145 t325.length co145)) (fun _ hk => ⟨hk.1.1.1, ⟨hk.1.1.2.1, ⟨hk.1.1.2.2.1, ⟨hk.1.1.2.2.2.1, ⟨hk.1.1.2.2.2.2.1, ⟨hk.1.1.2.2.2.2.2.1, ⟨hk.1.1.2.2.2.2.2.2.1, ⟨hk.1.1.2.2.2.2.2.2.2.1, ⟨hk.1.1.2.2.2.2.2.2.2.2.1, ⟨hk.1.1.2.2.2.2.2.2.2.2.2, hk.1.2⟩⟩⟩⟩⟩⟩⟩⟩⟩⟩)⟩
   have n7_ : Aside0 (Kd.V k46 46 ((w136.setCell ⟨gb329, 0, none⟩ (.slice Ao137 t322.length co137)).setCell ⟨gb329, 1, none⟩ (.slice Ao145 t325.length co145)) w.heap.size (fun k_ => some k_ ≠ (.slice Ao53 t289.length co53 : Value).ownBlock ∧ some k_ ≠ (.slice Ao58 t292.length co58 : Value).ownBlock ∧ some k_ ≠ (.slice Ao61 t297.length co61 : Value).ownBlock ∧ some k_ ≠ (.slice Ao67 t300.length co67 : Value).ownBlock ∧ k_ ≠ gb283 ∧ k_ ≠ gb284 ∧ k_ ≠ gb285 ∧ k_ ≠ gb296 ∧ k_ ≠ gb304 ∧ k_ ≠ gb321 ∧ k_ ≠ gb329) (.slice Ao145 t325.length co145) t325) := ⟨by (with_reducible repeat (first | apply Kd.V_alloc | apply Kd.V_drewN | apply Kd.V_drew)); exact Kd.V_mono (Kd.V_far (p := ⟨gb329, 1, none⟩) (Kd.V_far (p := ⟨gb329, 0, none⟩) (Kd.V_mono HO327.out (fun k_ hk => (⟨hk, hk.2⟩ : _ ∧ k_ ≠ gb329))) (fun _ hk => hk.2) (.slice Ao137 t322.length co137)) (fun _ hk => hk.2) (.slice Ao145 t325.length co145)) (fun _ hk => ⟨hk.1.1.1, ⟨hk.1.1.2.1, ⟨hk.1.1.2.2.1, ⟨hk.1.1.2.2.2.1, ⟨hk.1.1.2.2.2.2.1, ⟨hk.1.1.2.2.2.2.2.1, ⟨hk.1.1.2.2.2.2.2.2.1, ⟨hk.1.1.2.2.2.2.2.2.2.1, ⟨hk.1.1.2.2.2.2.2.2.2.2.1, ⟨hk.1.1.2.2.2.2.2.2.2.2.2, hk.1.2⟩⟩⟩⟩⟩⟩⟩⟩⟩⟩)⟩
   have n8_ : Aside0 (((w136.setCell ⟨gb329, 0, none⟩ (.slice Ao137 t322.length co137)).setCell ⟨gb329, 1, none⟩ (.slice Ao145 t325.length co145)).heap[gb283]? = some (.cells #[.slice A0_0 l0_0.length c0_0, .slice A0_1 l0_1.length c0_1, .slice A0_2 l0_2.length c0_2, .slice A0_3 l0_3.length c0_3, .int .i64 a0_4, .string a0_5, .slice A0_6 l0_6.length c0_6] 28 (0, 0))) := ⟨by (with_reducible repeat (first | refine blk_drewN ?_ _ | refine blk_drew ?_ | refine blk_alloc ?_ _)); refine blk_far ?_ NB283_329.out _; (with_reducible repeat (first | refine blk_drewN ?_ _ | refine blk_drew ?_ | refine blk_alloc ?_ _)); refine blk_far ?_ NB283_329.out _; (with_reducible repeat (first | refine blk_drewN ?_ _ | refine blk_drew ?_ | refine blk_alloc ?_ _)); exact BK283.out⟩
   have n9_ : Aside0 (((w136.setCell ⟨gb329, 0, none⟩ (.slice Ao137 t322.length co137)).setCell ⟨gb329, 1, none⟩ (.slice Ao145 t325.length co145)).heap[gb284]? = some (.cells #[.slice A0_0 l0_0.length c0_0, .slice A0_1 l0_1.length c0_1] 25 (0, 0))) := ⟨by (with_reducible repeat (first | refine blk_drewN ?_ _ | refine blk_drew ?_ | refine blk_alloc ?_ _)); refine blk_far ?_ NB284_329.out _; (with_reducible repeat (first | refine blk_drewN ?_ _ | refine blk_drew ?_ | refine blk_alloc ?_ _)); refine blk_far ?_ NB284_329.out _; (with_reducible repeat (first | refine blk_drewN ?_ _ | refine blk_drew ?_ | refine blk_alloc ?_ _)); exact BK284.out⟩
   have n10_ : Aside0 (((w136.setCell ⟨gb329, 0, none⟩ (.slice Ao137 t322.length co137)).setCell ⟨gb329, 1, none⟩ (.slice Ao145 t325.length co145)).heap[gb285]? = some (.cells #[.slice A0_2 l0_2.length c0_2, .slice A0_3 l0_3.length c0_3] 25 (0, 0))) := ⟨by (with_reducible repeat (first | refine blk_drewN ?_ _ | refine blk_drew ?_ | refine blk_alloc ?_ _)); refine blk_far ?_ NB285_329.out _; (with_reducible repeat (first | refine blk_drewN ?_ _ | refine blk_drew ?_ | refine blk_alloc ?_ _)); refine blk_far ?_ NB285_329.out _; (with_reducible repeat (first | refine blk_drewN ?_ _ | refine blk_drew ?_ | refine blk_alloc ?_ _)); exact BK285.out⟩
   have n11_ : Aside0 (((w136.setCell ⟨gb329, 0, none⟩ (.slice Ao137 t322.length co137)).setCell ⟨gb329, 1, none⟩ (.slice Ao145 t325.length co145)).heap[gb296]? = some (.cells #[.slice Ao53 t289.length co53, .slice Ao58 t292.length co58] 25 (0, 0))) := ⟨by (with_reducible repeat (first | refine blk_drewN ?_ _ | refine blk_drew ?_ | refine blk_alloc ?_ _)); refine blk_far ?_ NB296_329.out _; (with_reducible repeat (first | refine blk_drewN ?_ _ | refine blk_drew ?_ | refine blk_alloc ?_ _)); refine blk_far ?_ NB296_329.out _; (with_reducible repeat (first | refine blk_drewN ?_ _ | refine blk_drew ?_ | refine blk_alloc ?_ _)); exact BK296.out⟩
   have n12_ : Aside0 (((w136.setCell ⟨gb329, 0, none⟩ (.slice Ao137 t322.length co137)).setCell ⟨gb329, 1, none⟩ (.slice Ao145 t325.length co145)).heap[gb304]? = some (.cells #[.slice Ao61 t297.length co61, .slice Ao67 t300.length co67] 25 (0, 0))) := ⟨by (with_reducible repeat (first | refine blk_drewN ?_ _ | refine blk_drew ?_ | refine blk_alloc ?_ _)); refine blk_far ?_ NB304_329.out _; (with_reducible repeat (first | refine blk_drewN ?_ _ | refine blk_drew ?_ | refine blk_alloc ?_ _)); refine blk_far ?_ NB304_329.out _; (with_reducible repeat (first | refine blk_drewN ?_ _ | refine blk_drew ?_ | refine blk_alloc ?_ _)); exact BK304.out⟩
   have n13_ : Aside0 (((w136.setCell ⟨gb329, 0, none⟩ (.slice Ao137 t322.length co137)).setCell ⟨gb329, 1, none⟩ (.slice Ao145 t325.length co145)).heap[gb321]? = some (.cells #[.slice Ao125 t314.length co125, .slice Ao132 t317.length co132] 25 (0, 0))) := ⟨by (with_reducible repeat (first | refine blk_drewN ?_ _ | refine blk_drew ?_ | refine blk_alloc ?_ _)); refine blk_far ?_ NB321_329.out _; (with_reducible repeat (first | refine blk_drewN ?_ _ | refine blk_drew ?_ | refine blk_alloc ?_ _)); refine blk_far ?_ NB321_329.out _; (with_reducible repeat (first | refine blk_drewN ?_ _ | refine blk_drew ?_ | refine blk_alloc ?_ _)); exact BK321.out⟩
   have n14_ : Aside0 (((w136.setCell ⟨gb329, 0, none⟩ (.slice Ao137 t322.length co137)).setCell ⟨gb329, 1, none⟩ (.slice Ao145 t325.length co145)).heap[gb329]? = some (.cells #[.slice Ao137 t322.length co137, .slice Ao145 t325.length co145] 25 (0, 0))) := ⟨by (with_reducible repeat (first | refine blk_drewN ?_ _ | refine blk_drew ?_ | refine blk_alloc ?_ _)); refine blk_put (cs := #[.slice Ao137 t322.length co137, .slice none 0 0]) ?_ 1 _ rfl; (with_reducible repeat (first | refine blk_drewN ?_ _ | refine blk_drew ?_ | refine blk_alloc ?_ _)); refine blk_put (cs := #[.slice none 0 0, .slice none 0 0]) ?_ 0 _ rfl; (with_reducible repeat (first | refine blk_drewN ?_ _ | refine blk_drew ?_ | refine blk_alloc ?_ _)); exact BK329.out⟩
   have n15_ : Aside0 (Below w.heap.size w ((w136.setCell ⟨gb329, 0, none⟩ (.slice Ao137 t322.length co137)).setCell ⟨gb329, 1, none⟩ (.slice Ao145 t325.length co145))) := ⟨by repeat (first | (with_reducible first | exact HB.out | apply below_alloc | apply pw_below_drewN | apply below_drew1 | refine below_set ?_ GE283.out | refine below_set ?_ GE284.out | refine below_set ?_ GE285.out | refine below_set ?_ GE296.out | refine below_set ?_ GE304.out | refine below_set ?_ GE321.out | refine below_set ?_ GE329.out) | exact HB.out)⟩
   (try clear HO_297000)
   (try clear HO_297001)
   (try clear HO_305000)
   (try clear HO_305001)
   (try clear HO316)
   (try clear HO319)
   (try clear HO324)
   (try clear HO327)
   (try clear BK283)
   (try clear BK284)
   (try clear BK285)
   (try clear BK296)
   (try clear BK304)
   (try clear BK321)
   (try clear BK329)
   (try clear HB)
   generalize ((w136.setCell ⟨gb329, 0, none⟩ (.slice Ao137 t322.length co137)).setCell ⟨gb329, 1, none⟩ (.slice Ao145 t325.length co145)) = w146 at n0_ n1_ n2_ n3_ n4_ n5_ n6_ n7_ n8_ n9_ n10_ n11_ n12_ n13_ n14_ n15_ ⊢
   have HO_297000 := n0_
   have HO_297001 := n1_
   have HO_305000 := n2_
   have HO_305001 := n3_
   have HO316 := n4_
   have HO319 := n5_
   have HO324 := n6_
   have HO327 := n7_
   have BK283 := n8_
   have BK284 := n9_
   have BK285 := n10_
   have BK296 := n11_
   have BK304 := n12_
   have BK321 := n13_
   have BK329 := n14_
   have HB := n15_
   clear n0_ n1_ n2_ n3_ n4_ n5_ n6_ n7_ n8_ n9_ n10_ n11_ n12_ n13_ n14_ n15_
   have n0_ := aS (Kd.R_drew HO_297000.out)
   have n1_ := aS (Kd.R_drew HO_297001.out)
   have n2_ := aS (Kd.R_drew HO_305000.out)
   have n3_ := aS (Kd.R_drew HO_305001.out)
   have n4_ := aS (Kd.V_drew HO316.out)
   have n5_ := aS (Kd.V_drew HO319.out)
   have n6_ := aS (Kd.V_drew HO324.out)
   have n7_ := aS (Kd.V_drew HO327.out)
   have n8_ := aS (blk_drew BK283.out)
   have n9_ := aS (blk_drew BK284.out)
   have n10_ := aS (blk_drew BK285.out)
   have n11_ := aS (blk_drew BK296.out)
   have n12_ := aS (blk_drew BK304.out)
   have n13_ := aS (blk_drew BK321.out)
   have n14_ := aS (blk_drew BK329.out)
   have n15_ := aS (below_drew1 HB.out)
   clear HO_297000
   clear HO_297001
   clear HO_305000
   clear HO_305001
   clear HO316
   clear HO319
   clear HO324
   clear HO327
   clear BK283
   clear BK284
   clear BK285
   clear BK296
   clear BK304
   clear BK321
   clear BK329
   clear HB
   have HO_297000 := n0_
   have HO_297001 := n1_
   have HO_305000 := n2_
   have HO_305001 := n3_
   have HO316 := n4_
   have HO319 := n5_
   have HO324 := n6_
   have HO327 := n7_
   have BK283 := n8_
   have BK284 := n9_
   have BK285 := n10_
   have BK296 := n11_
   have BK304 := n12_
   have BK321 := n13_
   have BK329 := n14_
   have HB := n15_
   clear n0_ n1_ n2_ n3_ n4_ n5_ n6_ n7_ n8_ n9_ n10_ n11_ n12_ n13_ n14_ n15_
   refine start_ (n := 38) (S := fun w' => w'.cell? ⟨gb321, 0, none⟩ = some (.slice Ao125 t314.length co125) ∧ w'.cell? ⟨gb321, 1, none⟩ = some (.slice Ao132 t317.length co132) ∧ w'.cell? ⟨gb329, 0, none⟩ = some (.slice Ao137 t322.length co137) ∧ w'.cell? ⟨gb329, 1, none⟩ = some (.slice Ao145 t325.length co145) ∧ w'.cell? ⟨gb284, 0, none⟩ = some (.slice A0_0 l0_0.length c0_0) ∧ w'.cell? ⟨gb284, 1, none⟩ = some (.slice A0_1 l0_1.length c0_1)) (ds := []) #[false, false, false, false, false, false, false, false, false, false, false, false, false, false, false, false, false, false, false, false, false, false, false, false, false, false, false, false, false, false, false, false, false, false, false, false, false, false] (by kernel_rfl) rfl rfl ⟨(blk_cell BK321.out 0).trans rfl, (blk_cell BK321.out 1).trans rfl, (blk_cell BK329.out 0).trans rfl, (blk_cell BK329.out 1).trans rfl, (blk_cell BK284.out 0).trans rfl, (blk_cell BK284.out 1).trans rfl⟩ (fun hHeld => ?_); refine with_tabW hallmootlaw22_DiskMatchesSpec.tab20 hallmootlaw22_DiskMatchesSpec.bits20 (fun HT_ HW_ => ?_)
   generalize w146.drew = w147 at HO_297000 HO_297001 HO_305000 HO_305001 HO316 HO319 HO324 HO327 BK283 BK284 BK285 BK296 BK304 BK321 BK329 HB hHeld ⊢
   refine pure_ (i := 0) (N := some 117) (v := ?_) (a' := ?_) #[true, false, false, false, false, false, false, false, false, false, false, false, false, false, false, false, false, false, false, false, false, false, false, false, false, false, false, false, false, false, false, false, false, false, false, false, false, false] rfl rfl (any_of HT_.out (by kernel_rfl)) (fun _ _ _ h => h) (Or.inl ⟨by rfl, ?_⟩) ?_ ?_
   rotate_left
   {
   intro w'
   go_simp
   with_reducible rfl }
   rotate_left
   {
   simp only [Act.put, sT, s0, s1, i64_w, i32_w]
   rfl }
   refine pure_ (i := 1) (N := some 118) (v := ?_) (a' := ?_) #[true, true, false, false, false, false, false, false, false, false, false, false, false, false, false, false, false, false, false, false, false, false, false, false, false, false, false, false, false, false, false, false, false, false, false, false, false, false] rfl rfl (any_of HT_.out (by kernel_rfl)) (fun _ _ _ h => h) (Or.inl ⟨by rfl, ?_⟩) ?_ ?_
   rotate_left
   {
   intro w'
   go_simp
   with_reducible rfl }
   rotate_left
   {
   simp only [Act.put, sT, s0, s1, i64_w, i32_w]
   rfl }
   refine pure_ (i := 2) (N := some 119) (v := ?_) (a' := ?_) #[true, true, true, false, false, false, false, false, false, false, false, false, false, false, false, false, false, false, false, false, false, false, false, false, false, false, false, false, false, false, false, false, false, false, false, false, false, false] rfl rfl (any_of HT_.out (by kernel_rfl)) (fun _ _ _ h => h) (Or.inl ⟨by rfl, ?_⟩) ?_ ?_
   rotate_left
   {
   intro w'
   go_simp
   with_reducible rfl }
   rotate_left
   {
   simp only [Act.put, sT, s0, s1, i64_w, i32_w]
   rfl }
   refine pure_ (i := 3) (N := some 120) (v := ?_) (a' := ?_) #[true, true, true, true, false, false, false, false, false, false, false, false, false, false, false, false, false, false, false, false, false, false, false, false, false, false, false, false, false, false, false, false, false, false, false, false, false, false] rfl rfl (any_of HT_.out (by kernel_rfl)) (fun _ _ _ h => h) (Or.inl ⟨by rfl, ?_⟩) ?_ ?_
   rotate_left
   {
   intro w'
   go_simp
   with_reducible rfl }
   rotate_left
   {
   simp only [Act.put, sT, s0, s1, i64_w, i32_w]
   rfl }
   refine pure_ (i := 4) (N := some 121) (v := ?_) (a' := ?_) #[true, true, true, true, true, false, false, false, false, false, false, false, false, false, false, false, false, false, false, false, false, false, false, false, false, false, false, false, false, false, false, false, false, false, false, false, false, false] rfl rfl (any_of HT_.out (by kernel_rfl)) (fun _ _ _ h => h) (Or.inl ⟨by rfl, ?_⟩) ?_ ?_
   rotate_left
   {
   intro w'
   go_simp
   with_reducible rfl }
   rotate_left
   {
   simp only [Act.put, sT, s0, s1, i64_w, i32_w]
   rfl }
   refine pure_ (i := 5) (N := some 122) (v := ?_) (a' := ?_) #[true, true, true, true, true, true, false, false, false, false, false, false, false, false, false, false, false, false, false, false, false, false, false, false, false, false, false, false, false, false, false, false, false, false, false, false, false, false] rfl rfl (any_of HT_.out (by kernel_rfl)) (fun _ _ _ h => h) (Or.inl ⟨by rfl, ?_⟩) ?_ ?_
   rotate_left
   {
   intro w'
   go_simp
   with_reducible rfl }
   rotate_left
   {
   simp only [Act.put, sT, s0, s1, i64_w, i32_w]
   rfl }
   refine pure_ (i := 6) (N := some 123) (v := ?_) (a' := ?_) #[true, true, true, true, true, true, true, false, false, false, false, false, false, false, false, false, false, false, false, false, false, false, false, false, false, false, false, false, false, false, false, false, false, false, false, false, false, false] rfl rfl (any_of HT_.out (by kernel_rfl)) (fun _ _ _ h => h) (Or.inl ⟨by rfl, ?_⟩) ?_ ?_
   rotate_left
   {
   intro w'
   go_simp
   with_reducible rfl }
   rotate_left
   {
   simp only [Act.put, sT, s0, s1, i64_w, i32_w]
   rfl }
   refine pure_ (i := 7) (N := some 124) (v := ?_) (a' := ?_) #[true, true, true, true, true, true, true, true, false, false, false, false, false, false, false, false, false, false, false, false, false, false, false, false, false, false, false, false, false, false, false, false, false, false, false, false, false, false] rfl rfl (any_of HT_.out (by kernel_rfl)) (fun _ _ _ h => h) (Or.inl ⟨by rfl, ?_⟩) ?_ ?_
   rotate_left
   {
   intro w'
   go_simp
   with_reducible rfl }
   rotate_left
   {
   simp only [Act.put, sT, s0, s1, i64_w, i32_w]
   rfl }
   refine pure_ (i := 8) (N := some 125) (v := ?_) (a' := ?_) #[true, true, true, true, true, true, true, true, true, false, false, false, false, false, false, false, false, false, false, false, false, false, false, false, false, false, false, false, false, false, false, false, false, false, false, false, false, false] rfl rfl (any_of HT_.out (by kernel_rfl)) (fun _ _ _ h => h) (Or.inl ⟨by rfl, ?_⟩) ?_ ?_
   rotate_left
   {
   intro w'
   go_simp
   with_reducible rfl }
   rotate_left
   {
   simp only [Act.put, sT, s0, s1, i64_w, i32_w]
   rfl }
   refine pure_ (i := 9) (N := some 126) (v := ?_) (a' := ?_) #[true, true, true, true, true, true, true, true, true, true, false, false, false, false, false, false, false, false, false, false, false, false, false, false, false, false, false, false, false, false, false, false, false, false, false, false, false, false] rfl rfl (any_of HT_.out (by kernel_rfl)) (fun _ _ _ h => h) (Or.inl ⟨by rfl, ?_⟩) ?_ ?_
   rotate_left
   {
   intro w'
   go_simp
   with_reducible rfl }
   rotate_left
   {
   simp only [Act.put, sT, s0, s1, i64_w, i32_w]
   rfl }
   refine pure_ (i := 10) (N := some 127) (v := ?_) (a' := ?_) #[true, true, true, true, true, true, true, true, true, true, true, false, false, false, false, false, false, false, false, false, false, false, false, false, false, false, false, false, false, false, false, false, false, false, false, false, false, false] rfl rfl (any_of HT_.out (by kernel_rfl)) (fun _ _ _ h => h) (Or.inl ⟨by rfl, ?_⟩) ?_ ?_
   rotate_left
   {
   intro w'
   go_simp
   with_reducible rfl }
   rotate_left
   {
   simp only [Act.put, sT, s0, s1, i64_w, i32_w]
   rfl }
   refine pure_ (i := 11) (N := some 128) (v := ?_) (a' := ?_) #[true, true, true, true, true, true, true, true, true, true, true, true, false, false, false, false, false, false, false, false, false, false, false, false, false, false, false, false, false, false, false, false, false, false, false, false, false, false] rfl rfl (any_of HT_.out (by kernel_rfl)) (fun _ _ _ h => h) (Or.inl ⟨by rfl, ?_⟩) ?_ ?_
   rotate_left
   {
   intro w'
   go_simp
   with_reducible rfl }
   rotate_left
   {
   simp only [Act.put, sT, s0, s1, i64_w, i32_w]
   rfl }
   refine take_ (i := 12) (N := some 129) (v := ?_) (a' := ?_) #[true, true, true, true, true, true, true, true, true, true, true, true, true, false, false, false, false, false, false, false, false, false, false, false, false, false, false, false, false, false, false, false, false, false, false, false, false, false] rfl rfl (take_ofW HT_.out HW_.out (by kernel_rfl)) (fun _ _ _ h => h) (Or.inl ⟨by rfl, ?_⟩) hHeld ?_ ?_
   rotate_left
   {
   rintro w' ⟨s0, s1, s2, s3, s4, s5⟩
   go_simp
   with_reducible rfl }
   rotate_left
   {
   simp only [Act.put, sT, s0, s1, i64_w, i32_w]
   rfl }
   refine take_ (i := 13) (N := some 130) (v := ?_) (a' := ?_) #[true, true, true, true, true, true, true, true, true, true, true, true, true, true, false, false, false, false, false, false, false, false, false, false, false, false, false, false, false, false, false, false, false, false, false, false, false, false] rfl rfl (take_ofW HT_.out HW_.out (by kernel_rfl)) (fun _ _ _ h => h) (Or.inl ⟨by rfl, ?_⟩) hHeld ?_ ?_
   rotate_left
   {
   rintro w' ⟨s0, s1, s2, s3, s4, s5⟩
   go_simp
   with_reducible rfl }
   rotate_left
   {
   simp only [Act.put, sT, s0, s1, i64_w, i32_w]
   rfl }
   refine one_ (i := 14) (N := some 131) #[true, true, true, true, true, true, true, true, true, true, true, true, true, true, true, false, false, false, false, false, false, false, false, false, false, false, false, false, false, false, false, false, false, false, false, false, false, false] rfl rfl (one_of HT_.out (by kernel_rfl)) (by decide) (fun K hK => ?_)
   refine goes_ Try.func14 (by kernel_rfl) rfl #[.agg #[.slice Ao125 t314.length co125, .slice Ao132 t317.length co132], .agg #[.slice Ao137 t322.length co137, .slice Ao145 t325.length co145]] (by rfl) rfl rfl (by (try simp only [List.map_toArray, List.map_cons, List.map_nil]); first | done | rfl | (simp only [List.length_drop, List.length_take]; rfl)) ?_
   with_reducible refine (hallmootref22_Same.calls kj49 _ _ t314 _ _ t317 _ _ t322 _ _ t325 true _ ?side1 ?side2 ?side3 ?side4 ?side5 ?side6 ?side7 ?side8 A104.out).mono ?_
   (case side1 => repeat (first | exact (Kd.V_reads' HO316.out).2.2 | (with_reducible refine Kd.C_alloc ?_ _) | (with_reducible refine Kd.C_drewN ?_ _) | (with_reducible refine Kd.C_drew ?_)))
   (case side2 => exact (Kd.V_reads' HO316.out).2.1)
   (case side3 => repeat (first | exact (Kd.V_reads' HO319.out).2.2 | (with_reducible refine Kd.C_alloc ?_ _) | (with_reducible refine Kd.C_drewN ?_ _) | (with_reducible refine Kd.C_drew ?_)))
   (case side4 => exact (Kd.V_reads' HO319.out).2.1)
   (case side5 => repeat (first | exact (Kd.V_reads' HO324.out).2.2 | (with_reducible refine Kd.C_alloc ?_ _) | (with_reducible refine Kd.C_drewN ?_ _) | (with_reducible refine Kd.C_drew ?_)))
   (case side6 => exact (Kd.V_reads' HO324.out).2.1)
   (case side7 => repeat (first | exact (Kd.V_reads' HO327.out).2.2 | (with_reducible refine Kd.C_alloc ?_ _) | (with_reducible refine Kd.C_drewN ?_ _) | (with_reducible refine Kd.C_drew ?_)))
   (case side8 => exact (Kd.V_reads' HO327.out).2.1)
   rintro e w148 ⟨rfl, hb⟩
   refine ⟨_, rfl, ?_⟩
   have n0_ := aS (Kd.R_below (rr HO_297000.out) hb)
   have n1_ := aS (Kd.R_below (rr HO_297001.out) hb)
   have n2_ := aS (Kd.R_below (rr HO_305000.out) hb)
   have n3_ := aS (Kd.R_below (rr HO_305001.out) hb)
   have n4_ := aS (Kd.V_below (vv HO316.out) hb)
   have n5_ := aS (Kd.V_below (vv HO319.out) hb)
   have n6_ := aS (Kd.V_below (vv HO324.out) hb)
   have n7_ := aS (Kd.V_below (vv HO327.out) hb)
   have n8_ := aS (kb BK283.out hb)
   have n9_ := aS (kb BK284.out hb)
   have n10_ := aS (kb BK285.out hb)
   have n11_ := aS (kb BK296.out hb)
   have n12_ := aS (kb BK304.out hb)
   have n13_ := aS (kb BK321.out hb)
   have n14_ := aS (kb BK329.out hb)
   have n15_ := aS (below_step bb hb)
   clear HO_297000
   clear HO_297001
   clear HO_305000
   clear HO_305001
   clear HO316
   clear HO319
   clear HO324
   clear HO327
   clear BK283
   clear BK284
   clear BK285
   clear BK296
   clear BK304
   clear BK321
   clear BK329
   clear HB
   have HO_297000 := n0_
   have HO_297001 := n1_
   have HO_305000 := n2_
   have HO_305001 := n3_
   have HO316 := n4_
   have HO319 := n5_
   have HO324 := n6_
   have HO327 := n7_
   have BK283 := n8_
   have BK284 := n9_
   have BK285 := n10_
   have BK296 := n11_
   have BK304 := n12_
   have BK321 := n13_
   have BK329 := n14_
   have HB := n15_
   clear n0_ n1_ n2_ n3_ n4_ n5_ n6_ n7_ n8_ n9_ n10_ n11_ n12_ n13_ n14_ n15_
   (try clear hb)
   (try clear hb2)
   (try clear hk)
   (try clear hi)
   refine hK.out _ _ ⟨(blk_cell BK321.out 0).trans rfl, (blk_cell BK321.out 1).trans rfl, (blk_cell BK329.out 0).trans rfl, (blk_cell BK329.out 1).trans rfl, (blk_cell BK284.out 0).trans rfl, (blk_cell BK284.out 1).trans rfl⟩ (fun hHeld => ?_)
   clear hK K
   refine norm_ (a' := ?_) ?_ ?_
   rotate_left
   {
   show Act.put _ (some 131) _ = _
   simp only [Act.put, sT, s0, s1, i64_w, i32_w]
   rfl }
   refine pure_ (i := 15) (N := some 132) (v := ?_) (a' := ?_) #[true, true, true, true, true, true, true, true, true, true, true, true, true, true, true, true, false, false, false, false, false, false, false, false, false, false, false, false, false, false, false, false, false, false, false, false, false, false] rfl rfl (any_of HT_.out (by kernel_rfl)) (fun _ _ _ h => h) (Or.inl ⟨by rfl, ?_⟩) ?_ ?_
   rotate_left
   {
   intro w'
   go_simp
   with_reducible rfl }
   rotate_left
   {
   simp only [Act.put, sT, s0, s1, i64_w, i32_w]
   rfl }
   refine pure_ (i := 16) (N := some 133) (v := ?_) (a' := ?_) #[true, true, true, true, true, true, true, true, true, true, true, true, true, true, true, true, true, false, false, false, false, false, false, false, false, false, false, false, false, false, false, false, false, false, false, false, false, false] rfl rfl (any_of HT_.out (by kernel_rfl)) (fun _ _ _ h => h) (Or.inl ⟨by rfl, ?_⟩) ?_ ?_
   rotate_left
   {
   intro w'
   go_simp
   with_reducible rfl }
   rotate_left
   {
   simp only [Act.put, sT, s0, s1, i64_w, i32_w]
   rfl }
   refine pure_ (i := 17) (N := some 134) (v := ?_) (a' := ?_) #[true, true, true, true, true, true, true, true, true, true, true, true, true, true, true, true, true, true, false, false, false, false, false, false, false, false, false, false, false, false, false, false, false, false, false, false, false, false] rfl rfl (any_of HT_.out (by kernel_rfl)) (fun _ _ _ h => h) (Or.inl ⟨by rfl, ?_⟩) ?_ ?_
   rotate_left
   {
   intro w'
   go_simp
   with_reducible rfl }
   rotate_left
   {
   simp only [Act.put, sT, s0, s1, i64_w, i32_w]
   rfl }
   refine pure_ (i := 18) (N := some 135) (v := ?_) (a' := ?_) #[true, true, true, true, true, true, true, true, true, true, true, true, true, true, true, true, true, true, true, false, false, false, false, false, false, false, false, false, false, false, false, false, false, false, false, false, false, false] rfl rfl (any_of HT_.out (by kernel_rfl)) (fun _ _ _ h => h) (Or.inl ⟨by rfl, ?_⟩) ?_ ?_
   rotate_left
   {
   intro w'
   go_simp
   with_reducible rfl }
   rotate_left
   {
   simp only [Act.put, sT, s0, s1, i64_w, i32_w]
   rfl }
   refine pure_ (i := 19) (N := some 136) (v := ?_) (a' := ?_) #[true, true, true, true, true, true, true, true, true, true, true, true, true, true, true, true, true, true, true, true, false, false, false, false, false, false, false, false, false, false, false, false, false, false, false, false, false, false] rfl rfl (any_of HT_.out (by kernel_rfl)) (fun _ _ _ h => h) (Or.inl ⟨by rfl, ?_⟩) ?_ ?_
   rotate_left
   {
   intro w'
   go_simp
   with_reducible rfl }
   rotate_left
   {
   simp only [Act.put, sT, s0, s1, i64_w, i32_w]
   rfl }
   refine pure_ (i := 20) (N := some 137) (v := ?_) (a' := ?_) #[true, true, true, true, true, true, true, true, true, true, true, true, true, true, true, true, true, true, true, true, true, false, false, false, false, false, false, false, false, false, false, false, false, false, false, false, false, false] rfl rfl (any_of HT_.out (by kernel_rfl)) (fun _ _ _ h => h) (Or.inl ⟨by rfl, ?_⟩) ?_ ?_
   rotate_left
   {
   intro w'
   go_simp
   with_reducible rfl }
   rotate_left
   {
   simp only [Act.put, sT, s0, s1, i64_w, i32_w]
   rfl }
   refine pure_ (i := 21) (N := some 138) (v := ?_) (a' := ?_) #[true, true, true, true, true, true, true, true, true, true, true, true, true, true, true, true, true, true, true, true, true, true, false, false, false, false, false, false, false, false, false, false, false, false, false, false, false, false] rfl rfl (any_of HT_.out (by kernel_rfl)) (fun _ _ _ h => h) (Or.inl ⟨by rfl, ?_⟩) ?_ ?_
   rotate_left
   {
   intro w'
   go_simp
   with_reducible rfl }
   rotate_left
   {
   simp only [Act.put, sT, s0, s1, i64_w, i32_w]
   rfl }
   refine take_ (i := 22) (N := some 139) (v := ?_) (a' := ?_) #[true, true, true, true, true, true, true, true, true, true, true, true, true, true, true, true, true, true, true, true, true, true, true, false, false, false, false, false, false, false, false, false, false, false, false, false, false, false] rfl rfl (take_ofW HT_.out HW_.out (by kernel_rfl)) (fun _ _ _ h => h) (Or.inl ⟨by rfl, ?_⟩) hHeld ?_ ?_
   rotate_left
   {
   rintro w' ⟨s0, s1, s2, s3, s4, s5⟩
   go_simp
   with_reducible rfl }
   rotate_left
   {
   simp only [Act.put, sT, s0, s1, i64_w, i32_w]
   rfl }
   refine take_ (i := 24) (N := some 141) (v := ?_) (a' := ?_) #[true, true, true, true, true, true, true, true, true, true, true, true, true, true, true, true, true, true, true, true, true, true, true, false, true, false, false, false, false, false, false, false, false, false, false, false, false, false] rfl rfl (take_ofW HT_.out HW_.out (by kernel_rfl)) (fun _ _ _ h => h) (Or.inl ⟨by rfl, ?_⟩) hHeld ?_ ?_
   rotate_left
   {
   rintro w' ⟨s0, s1, s2, s3, s4, s5⟩
   go_simp
   with_reducible rfl }
   rotate_left
   {
   simp only [Act.put, sT, s0, s1, i64_w, i32_w]
   rfl }
   refine one_ (i := 23) (N := some 140) #[true, true, true, true, true, true, true, true, true, true, true, true, true, true, true, true, true, true, true, true, true, true, true, true, true, false, false, false, false, false, false, false, false, false, false, false, false, false] rfl rfl (one_of HT_.out (by kernel_rfl)) (by decide) (fun K hK => ?_)
   refine goes_ Try.func19 (by kernel_rfl) rfl #[.agg #[.slice A0_0 l0_0.length c0_0, .slice A0_1 l0_1.length c0_1]] (by rfl) rfl rfl (by (try simp only [List.map_toArray, List.map_cons, List.map_nil]); first | done | rfl | (simp only [List.length_drop, List.length_take]; rfl)) ?_
   with_reducible refine (disk_Sync.calls _ _ l0_0 _ _ l0_1 t331 t334 _ ?side1 ?side2 ?side3 ?side4 A107.out).mono ?_
   (case side1 => exact Kd.C_below HR0_0.out bb)
   (case side2 => exact HC0_0.out)
   (case side3 => exact Kd.C_below HR0_1.out bb)
   (case side4 => exact HC0_1.out)
   rintro e w149 ⟨v332, v335, rfl, ho0, ho1, hb⟩
   refine ⟨_, rfl, ?_⟩
   have n0_ := aS (Kd.R_elder' (rr HO_297000.out) (Kd.R_base ho0) hb)
   have n1_ := aS (Kd.R_elder' (rr HO_297001.out) (Kd.R_base ho1) hb)
   have n2_ := aS (Kd.R_elder' (rr HO_305000.out) (Kd.R_base ho0) hb)
   have n3_ := aS (Kd.R_elder' (rr HO_305001.out) (Kd.R_base ho1) hb)
   have n4_ := aS (Kd.V_mono (Kd.V_told (Kd.V_told (Kd.V_old (vv HO316.out) hb) (Kd.R_base ho0)) (Kd.R_base ho1)) (fun _ h_ => h_.1))
   have n5_ := aS (Kd.V_mono (Kd.V_told (Kd.V_told (Kd.V_old (vv HO319.out) hb) (Kd.R_base ho0)) (Kd.R_base ho1)) (fun _ h_ => h_.1))
   have n6_ := aS (Kd.V_mono (Kd.V_told (Kd.V_told (Kd.V_old (vv HO324.out) hb) (Kd.R_base ho0)) (Kd.R_base ho1)) (fun _ h_ => h_.1))
   have n7_ := aS (Kd.V_mono (Kd.V_told (Kd.V_told (Kd.V_old (vv HO327.out) hb) (Kd.R_base ho0)) (Kd.R_base ho1)) (fun _ h_ => h_.1))
   have n8_ := aS (Kd.R_lower (Kd.R_new' (Kd.R_new' ho0 (Kd.R_lt (rr HO_297000.out))) (Kd.R_lt (rr HO_305000.out))) bz)
   have n9_ := aS (Kd.R_lower (Kd.R_new' (Kd.R_new' ho1 (Kd.R_lt (rr HO_297001.out))) (Kd.R_lt (rr HO_305001.out))) bz)
   have n10_ := aS (kb BK283.out hb)
   have n11_ := aS (kb BK284.out hb)
   have n12_ := aS (kb BK285.out hb)
   have n13_ := aS (kb BK296.out hb)
   have n14_ := aS (kb BK304.out hb)
   have n15_ := aS (kb BK321.out hb)
   have n16_ := aS (kb BK329.out hb)
   have n17_ := aS (below_step bb hb)
   clear HO_297000
   clear HO_297001
   clear HO_305000
   clear HO_305001
   clear HO316
   clear HO319
   clear HO324
   clear HO327
   clear BK283
   clear BK284
   clear BK285
   clear BK296
   clear BK304
   clear BK321
   clear BK329
   clear HB
   have HO_297000 := n0_
   have HO_297001 := n1_
   have HO_305000 := n2_
   have HO_305001 := n3_
   have HO316 := n4_
   have HO319 := n5_
   have HO324 := n6_
   have HO327 := n7_
   have HO333 := n8_
   have HO336 := n9_
   have BK283 := n10_
   have BK284 := n11_
   have BK285 := n12_
   have BK296 := n13_
   have BK304 := n14_
   have BK321 := n15_
   have BK329 := n16_
   have HB := n17_
   clear n0_ n1_ n2_ n3_ n4_ n5_ n6_ n7_ n8_ n9_ n10_ n11_ n12_ n13_ n14_ n15_ n16_ n17_
   (try clear hb)
   (try clear hb2)
   (try clear hk)
   (try clear hi)
   (try clear ho0)
   (try clear ho1)
   refine hK.out _ _ ⟨(blk_cell BK321.out 0).trans rfl, (blk_cell BK321.out 1).trans rfl, (blk_cell BK329.out 0).trans rfl, (blk_cell BK329.out 1).trans rfl, (blk_cell BK284.out 0).trans rfl, (blk_cell BK284.out 1).trans rfl⟩ (fun hHeld => ?_)
   clear hK K
   refine norm_ (a' := ?_) ?_ ?_
   rotate_left
   {
   show Act.put _ (some 140) _ = _
   simp only [Act.put, sT, s0, s1, i64_w, i32_w]
   rfl }
   refine one_ (i := 25) (N := some 142) #[true, true, true, true, true, true, true, true, true, true, true, true, true, true, true, true, true, true, true, true, true, true, true, true, true, true, false, false, false, false, false, false, false, false, false, false, false, false] rfl rfl (one_of HT_.out (by kernel_rfl)) (by decide) (fun K hK => ?_)
   refine goes_ Try.func20 (by kernel_rfl) rfl #[.agg #[.slice A0_0 l0_0.length c0_0, .slice A0_1 l0_1.length c0_1]] (by rfl) rfl rfl (by (try simp only [List.map_toArray, List.map_cons, List.map_nil]); first | done | rfl | (simp only [List.length_drop, List.length_take]; rfl)) ?_
   with_reducible refine (hallmootref22_Sync.calls _ _ l0_0 _ _ l0_1 t337 t340 _ ?side1 ?side2 ?side3 ?side4 A108.out).mono ?_
   (case side1 => exact Kd.C_below HR0_0.out bb)
   (case side2 => exact HC0_0.out)
   (case side3 => exact Kd.C_below HR0_1.out bb)
   (case side4 => exact HC0_1.out)
   rintro e w150 ⟨v338, v341, rfl, ho0, ho1, hb⟩
   refine ⟨_, rfl, ?_⟩
   have n0_ := aS (Kd.R_elder' (rr HO_297000.out) (Kd.R_base ho0) hb)
   have n1_ := aS (Kd.R_elder' (rr HO_297001.out) (Kd.R_base ho1) hb)
   have n2_ := aS (Kd.R_elder' (rr HO_305000.out) (Kd.R_base ho0) hb)
   have n3_ := aS (Kd.R_elder' (rr HO_305001.out) (Kd.R_base ho1) hb)
   have n4_ := aS (Kd.V_mono (Kd.V_told (Kd.V_told (Kd.V_old (vv HO316.out) hb) (Kd.R_base ho0)) (Kd.R_base ho1)) (fun _ h_ => h_.1))
   have n5_ := aS (Kd.V_mono (Kd.V_told (Kd.V_told (Kd.V_old (vv HO319.out) hb) (Kd.R_base ho0)) (Kd.R_base ho1)) (fun _ h_ => h_.1))
   have n6_ := aS (Kd.V_mono (Kd.V_told (Kd.V_told (Kd.V_old (vv HO324.out) hb) (Kd.R_base ho0)) (Kd.R_base ho1)) (fun _ h_ => h_.1))
   have n7_ := aS (Kd.V_mono (Kd.V_told (Kd.V_told (Kd.V_old (vv HO327.out) hb) (Kd.R_base ho0)) (Kd.R_base ho1)) (fun _ h_ => h_.1))
   have n8_ := aS (Kd.R_elder' (rr HO333.out) (Kd.R_base ho0) hb)
   have n9_ := aS (Kd.R_elder' (rr HO336.out) (Kd.R_base ho1) hb)
   have n10_ := aS (Kd.R_lower (Kd.R_new' (Kd.R_new' (Kd.R_new' ho0 (Kd.R_lt (rr HO_297000.out))) (Kd.R_lt (rr HO_305000.out))) (Kd.R_lt (rr HO333.out))) bz)
   have n11_ := aS (Kd.R_lower (Kd.R_new' (Kd.R_new' (Kd.R_new' ho1 (Kd.R_lt (rr HO_297001.out))) (Kd.R_lt (rr HO_305001.out))) (Kd.R_lt (rr HO336.out))) bz)
   have n12_ := aS (kb BK283.out hb)
   have n13_ := aS (kb BK284.out hb)
   have n14_ := aS (kb BK285.out hb)
   have n15_ := aS (kb BK296.out hb)
   have n16_ := aS (kb BK304.out hb)
   have n17_ := aS (kb BK321.out hb)
   have n18_ := aS (kb BK329.out hb)
   have n19_ := aS (below_step bb hb)
   clear HO_297000
   clear HO_297001
   clear HO_305000
   clear HO_305001
   clear HO316
   clear HO319
   clear HO324
   clear HO327
   clear HO333
   clear HO336
   clear BK283
   clear BK284
   clear BK285
   clear BK296
   clear BK304
   clear BK321
   clear BK329
   clear HB
   have HO_297000 := n0_
   have HO_297001 := n1_
   have HO_305000 := n2_
   have HO_305001 := n3_
   have HO316 := n4_
   have HO319 := n5_
   have HO324 := n6_
   have HO327 := n7_
   have HO333 := n8_
   have HO336 := n9_
   have HO339 := n10_
   have HO342 := n11_
   have BK283 := n12_
   have BK284 := n13_
   have BK285 := n14_
   have BK296 := n15_
   have BK304 := n16_
   have BK321 := n17_
   have BK329 := n18_
   have HB := n19_
   clear n0_ n1_ n2_ n3_ n4_ n5_ n6_ n7_ n8_ n9_ n10_ n11_ n12_ n13_ n14_ n15_ n16_ n17_ n18_ n19_
   (try clear hb)
   (try clear hb2)
   (try clear hk)
   (try clear hi)
   (try clear ho0)
   (try clear ho1)
   obtain ⟨Ao151, co151, eo151⟩ := Kd.R_slice HO333.out
   (first | subst eo151 | (injection eo151 with f1_ f2_ f3_; have f4_ := f1_.symm; have f5_ := f3_.symm; clear f1_ f2_ f3_; subst f4_; subst f5_))
   obtain ⟨Ao152, co152, eo152⟩ := Kd.R_slice HO336.out
   (first | subst eo152 | (injection eo152 with f1_ f2_ f3_; have f4_ := f1_.symm; have f5_ := f3_.symm; clear f1_ f2_ f3_; subst f4_; subst f5_))
   obtain ⟨Ao153, co153, eo153⟩ := Kd.R_slice HO339.out
   (first | subst eo153 | (injection eo153 with f1_ f2_ f3_; have f4_ := f1_.symm; have f5_ := f3_.symm; clear f1_ f2_ f3_; subst f4_; subst f5_))
   obtain ⟨Ao154, co154, eo154⟩ := Kd.R_slice HO342.out
   (first | subst eo154 | (injection eo154 with f1_ f2_ f3_; have f4_ := f1_.symm; have f5_ := f3_.symm; clear f1_ f2_ f3_; subst f4_; subst f5_))
   refine hK.out _ _ ⟨(blk_cell BK321.out 0).trans rfl, (blk_cell BK321.out 1).trans rfl, (blk_cell BK329.out 0).trans rfl, (blk_cell BK329.out 1).trans rfl, (blk_cell BK284.out 0).trans rfl, (blk_cell BK284.out 1).trans rfl⟩ (fun hHeld => ?_)
   clear hK K
   refine norm_ (a' := ?_) ?_ ?_
   rotate_left
   {
   show Act.put _ (some 142) _ = _
   simp only [Act.put, sT, s0, s1, i64_w, i32_w]
   rfl }
   refine one_ (i := 26) (N := some 143) #[true, true, true, true, true, true, true, true, true, true, true, true, true, true, true, true, true, true, true, true, true, true, true, true, true, true, true, false, false, false, false, false, false, false, false, false, false, false] rfl rfl (one_of HT_.out (by kernel_rfl)) (by decide) (fun K hK => ?_)
   refine goes_ Try.func14 (by kernel_rfl) rfl #[.agg #[.slice Ao151 t331.length co151, .slice Ao152 t334.length co152], .agg #[.slice Ao153 t337.length co153, .slice Ao154 t340.length co154]] (by rfl) rfl rfl (by (try simp only [List.map_toArray, List.map_cons, List.map_nil]); first | done | rfl | (simp only [List.length_drop, List.length_take]; rfl)) ?_
   with_reducible refine (hallmootref22_Same.calls kj49 _ _ t331 _ _ t334 _ _ t337 _ _ t340 true _ ?side1 ?side2 ?side3 ?side4 ?side5 ?side6 ?side7 ?side8 A109.out).mono ?_
   (case side1 => repeat (first | exact (Kd.R_reads' HO333.out).2.2 | (with_reducible refine Kd.C_alloc ?_ _) | (with_reducible refine Kd.C_drewN ?_ _) | (with_reducible refine Kd.C_drew ?_)))
   (case side2 => exact (Kd.R_reads' HO333.out).2.1)
   (case side3 => repeat (first | exact (Kd.R_reads' HO336.out).2.2 | (with_reducible refine Kd.C_alloc ?_ _) | (with_reducible refine Kd.C_drewN ?_ _) | (with_reducible refine Kd.C_drew ?_)))
   (case side4 => exact (Kd.R_reads' HO336.out).2.1)
   (case side5 => repeat (first | exact (Kd.R_reads' HO339.out).2.2 | (with_reducible refine Kd.C_alloc ?_ _) | (with_reducible refine Kd.C_drewN ?_ _) | (with_reducible refine Kd.C_drew ?_)))
   (case side6 => exact (Kd.R_reads' HO339.out).2.1)
   (case side7 => repeat (first | exact (Kd.R_reads' HO342.out).2.2 | (with_reducible refine Kd.C_alloc ?_ _) | (with_reducible refine Kd.C_drewN ?_ _) | (with_reducible refine Kd.C_drew ?_)))
   (case side8 => exact (Kd.R_reads' HO342.out).2.1)
   rintro e w155 ⟨rfl, hb⟩
   refine ⟨_, rfl, ?_⟩
   have n0_ := aS (Kd.R_below (rr HO_297000.out) hb)
   have n1_ := aS (Kd.R_below (rr HO_297001.out) hb)
   have n2_ := aS (Kd.R_below (rr HO_305000.out) hb)
   have n3_ := aS (Kd.R_below (rr HO_305001.out) hb)
   have n4_ := aS (Kd.V_below (vv HO316.out) hb)
   have n5_ := aS (Kd.V_below (vv HO319.out) hb)
   have n6_ := aS (Kd.V_below (vv HO324.out) hb)
   have n7_ := aS (Kd.V_below (vv HO327.out) hb)
   have n8_ := aS (Kd.R_below (rr HO333.out) hb)
   have n9_ := aS (Kd.R_below (rr HO336.out) hb)
   have n10_ := aS (Kd.R_below (rr HO339.out) hb)
   have n11_ := aS (Kd.R_below (rr HO342.out) hb)
   have n12_ := aS (kb BK283.out hb)
   have n13_ := aS (kb BK284.out hb)
   have n14_ := aS (kb BK285.out hb)
   have n15_ := aS (kb BK296.out hb)
   have n16_ := aS (kb BK304.out hb)
   have n17_ := aS (kb BK321.out hb)
   have n18_ := aS (kb BK329.out hb)
   have n19_ := aS (below_step bb hb)
   clear HO_297000
   clear HO_297001
   clear HO_305000
   clear HO_305001
   clear HO316
   clear HO319
   clear HO324
   clear HO327
   clear HO333
   clear HO336
   clear HO339
   clear HO342
   clear BK283
   clear BK284
   clear BK285
   clear BK296
   clear BK304
   clear BK321
   clear BK329
   clear HB
   have HO_297000 := n0_
   have HO_297001 := n1_
   have HO_305000 := n2_
   have HO_305001 := n3_
   have HO316 := n4_
   have HO319 := n5_
   have HO324 := n6_
   have HO327 := n7_
   have HO333 := n8_
   have HO336 := n9_
   have HO339 := n10_
   have HO342 := n11_
   have BK283 := n12_
   have BK284 := n13_
   have BK285 := n14_
   have BK296 := n15_
   have BK304 := n16_
   have BK321 := n17_
   have BK329 := n18_
   have HB := n19_
   clear n0_ n1_ n2_ n3_ n4_ n5_ n6_ n7_ n8_ n9_ n10_ n11_ n12_ n13_ n14_ n15_ n16_ n17_ n18_ n19_
   (try clear hb)
   (try clear hb2)
   (try clear hk)
   (try clear hi)
   refine hK.out _ _ ⟨(blk_cell BK321.out 0).trans rfl, (blk_cell BK321.out 1).trans rfl, (blk_cell BK329.out 0).trans rfl, (blk_cell BK329.out 1).trans rfl, (blk_cell BK284.out 0).trans rfl, (blk_cell BK284.out 1).trans rfl⟩ (fun hHeld => ?_)
   clear hK K
   refine norm_ (a' := ?_) ?_ ?_
   rotate_left
   {
   show Act.put _ (some 143) _ = _
   simp only [Act.put, sT, s0, s1, i64_w, i32_w]
   rfl }
   refine pure_ (i := 27) (N := some 144) (v := ?_) (a' := ?_) #[true, true, true, true, true, true, true, true, true, true, true, true, true, true, true, true, true, true, true, true, true, true, true, true, true, true, true, true, false, false, false, false, false, false, false, false, false, false] rfl rfl (any_of HT_.out (by kernel_rfl)) (fun _ _ _ h => h) (Or.inl ⟨by rfl, ?_⟩) ?_ ?_
   rotate_left
   {
   intro w'
   go_simp
   with_reducible rfl }
   rotate_left
   {
   simp only [Act.put, sT, s0, s1, i64_w, i32_w]
   rfl }
   refine pure_ (i := 28) (N := some 145) (v := ?_) (a' := ?_) #[true, true, true, true, true, true, true, true, true, true, true, true, true, true, true, true, true, true, true, true, true, true, true, true, true, true, true, true, true, false, false, false, false, false, false, false, false, false] rfl rfl (any_of HT_.out (by kernel_rfl)) (fun _ _ _ h => h) (Or.inl ⟨by rfl, ?_⟩) ?_ ?_
   rotate_left
   {
   intro w'
   go_simp
   with_reducible rfl }
   rotate_left
   {
   simp only [Act.put, sT, s0, s1, i64_w, i32_w]
   rfl }
   refine pure_ (i := 30) (N := some 147) (v := ?_) (a' := ?_) #[true, true, true, true, true, true, true, true, true, true, true, true, true, true, true, true, true, true, true, true, true, true, true, true, true, true, true, true, true, false, true, false, false, false, false, false, false, false] rfl rfl (any_of HT_.out (by kernel_rfl)) (fun _ _ _ h => h) (Or.inl ⟨by rfl, ?_⟩) ?_ ?_
   rotate_left
   {
   intro w'
   go_simp
   with_reducible rfl }
   rotate_left
   {
   simp only [Act.put, sT, s0, s1, i64_w, i32_w]
   rfl }
   refine pure_ (i := 33) (N := some 150) (v := ?_) (a' := ?_) #[true, true, true, true, true, true, true, true, true, true, true, true, true, true, true, true, true, true, true, true, true, true, true, true, true, true, true, true, true, false, true, false, false, true, false, false, false, false] rfl rfl (any_of HT_.out (by kernel_rfl)) (fun _ _ _ h => h) (Or.inl ⟨by rfl, ?_⟩) ?_ ?_
   rotate_left
   {
   intro w'
   go_simp
   with_reducible rfl }
   rotate_left
   {
   simp only [Act.put, sT, s0, s1, i64_w, i32_w]
   rfl }
   refine take_ (i := 29) (N := some 146) (v := ?_) (a' := ?_) #[true, true, true, true, true, true, true, true, true, true, true, true, true, true, true, true, true, true, true, true, true, true, true, true, true, true, true, true, true, true, true, false, false, true, false, false, false, false] rfl rfl (take_ofW HT_.out HW_.out (by kernel_rfl)) (fun _ _ _ h => h) (Or.inl ⟨by rfl, ?_⟩) hHeld ?_ ?_
   rotate_left
   {
   rintro w' ⟨s0, s1, s2, s3, s4, s5⟩
   go_simp
   with_reducible rfl }
   rotate_left
   {
   simp only [Act.put, sT, s0, s1, i64_w, i32_w]
   rfl }
   refine take_ (i := 32) (N := some 149) (v := ?_) (a' := ?_) #[true, true, true, true, true, true, true, true, true, true, true, true, true, true, true, true, true, true, true, true, true, true, true, true, true, true, true, true, true, true, true, false, true, true, false, false, false, false] rfl rfl (take_ofW HT_.out HW_.out (by kernel_rfl)) (fun _ _ _ h => h) (Or.inl ⟨by rfl, ?_⟩) hHeld ?_ ?_
   rotate_left
   {
   rintro w' ⟨s0, s1, s2, s3, s4, s5⟩
   go_simp
   with_reducible rfl }
   rotate_left
   {
   simp only [Act.put, sT, s0, s1, i64_w, i32_w]
   rfl }
   refine one_ (i := 31) (N := some 148) #[true, true, true, true, true, true, true, true, true, true, true, true, true, true, true, true, true, true, true, true, true, true, true, true, true, true, true, true, true, true, true, true, true, true, false, false, false, false] rfl rfl (one_of HT_.out (by kernel_rfl)) (by decide) (fun K hK => ?_)
   refine goes_ Try.func21 (by kernel_rfl) rfl #[.agg #[.slice A0_0 l0_0.length c0_0, .slice A0_1 l0_1.length c0_1], .slice A0_6 l0_6.length c0_6] (by rfl) rfl rfl (by (try simp only [List.map_toArray, List.map_cons, List.map_nil]); first | done | rfl | (simp only [List.length_drop, List.length_take]; rfl)) ?_
   with_reducible refine (dCrash.calls _ _ l0_0 _ _ l0_1 _ _ l0_6 t344 t347 _ ?side1 ?side2 ?side3 ?side4 ?side5 ?side6 A111.out).mono ?_
   (case side1 => exact Kd.C_below HR0_0.out bb)
   (case side2 => exact HC0_0.out)
   (case side3 => exact Kd.C_below HR0_1.out bb)
   (case side4 => exact HC0_1.out)
   (case side5 => exact Kd.C_below HR0_6.out bb)
   (case side6 => exact HC0_6.out)
   rintro e w156 ⟨v345, v348, rfl, ho0, ho1, hb⟩
   refine ⟨_, rfl, ?_⟩
   have n0_ := aS (Kd.R_elder' (rr HO_297000.out) (Kd.R_base ho0) hb)
   have n1_ := aS (Kd.R_elder' (rr HO_297001.out) (Kd.R_base ho1) hb)
   have n2_ := aS (Kd.R_elder' (rr HO_305000.out) (Kd.R_base ho0) hb)
   have n3_ := aS (Kd.R_elder' (rr HO_305001.out) (Kd.R_base ho1) hb)
   have n4_ := aS (Kd.V_mono (Kd.V_told (Kd.V_told (Kd.V_old (vv HO316.out) hb) (Kd.R_base ho0)) (Kd.R_base ho1)) (fun _ h_ => h_.1))
   have n5_ := aS (Kd.V_mono (Kd.V_told (Kd.V_told (Kd.V_old (vv HO319.out) hb) (Kd.R_base ho0)) (Kd.R_base ho1)) (fun _ h_ => h_.1))
   have n6_ := aS (Kd.V_mono (Kd.V_told (Kd.V_told (Kd.V_old (vv HO324.out) hb) (Kd.R_base ho0)) (Kd.R_base ho1)) (fun _ h_ => h_.1))
   have n7_ := aS (Kd.V_mono (Kd.V_told (Kd.V_told (Kd.V_old (vv HO327.out) hb) (Kd.R_base ho0)) (Kd.R_base ho1)) (fun _ h_ => h_.1))
   have n8_ := aS (Kd.R_elder' (rr HO333.out) (Kd.R_base ho0) hb)
   have n9_ := aS (Kd.R_elder' (rr HO336.out) (Kd.R_base ho1) hb)
   have n10_ := aS (Kd.R_elder' (rr HO339.out) (Kd.R_base ho0) hb)
   have n11_ := aS (Kd.R_elder' (rr HO342.out) (Kd.R_base ho1) hb)
   have n12_ := aS (Kd.R_lower (Kd.R_new' (Kd.R_new' (Kd.R_new' (Kd.R_new' ho0 (Kd.R_lt (rr HO_297000.out))) (Kd.R_lt (rr HO_305000.out))) (Kd.R_lt (rr HO333.out))) (Kd.R_lt (rr HO339.out))) bz)
   have n13_ := aS (Kd.R_lower (Kd.R_new' (Kd.R_new' (Kd.R_new' (Kd.R_new' ho1 (Kd.R_lt (rr HO_297001.out))) (Kd.R_lt (rr HO_305001.out))) (Kd.R_lt (rr HO336.out))) (Kd.R_lt (rr HO342.out))) bz)
   have n14_ := aS (kb BK283.out hb)
   have n15_ := aS (kb BK284.out hb)
   have n16_ := aS (kb BK285.out hb)
   have n17_ := aS (kb BK296.out hb)
   have n18_ := aS (kb BK304.out hb)
   have n19_ := aS (kb BK321.out hb)
   have n20_ := aS (kb BK329.out hb)
   have n21_ := aS (below_step bb hb)
   clear HO_297000
   clear HO_297001
   clear HO_305000
   clear HO_305001
   clear HO316
   clear HO319
   clear HO324
   clear HO327
   clear HO333
   clear HO336
   clear HO339
   clear HO342
   clear BK283
   clear BK284
   clear BK285
   clear BK296
   clear BK304
   clear BK321
   clear BK329
   clear HB
   have HO_297000 := n0_
   have HO_297001 := n1_
   have HO_305000 := n2_
   have HO_305001 := n3_
   have HO316 := n4_
   have HO319 := n5_
   have HO324 := n6_
   have HO327 := n7_
   have HO333 := n8_
   have HO336 := n9_
   have HO339 := n10_
   have HO342 := n11_
   have HO346 := n12_
   have HO349 := n13_
   have BK283 := n14_
   have BK284 := n15_
   have BK285 := n16_
   have BK296 := n17_
   have BK304 := n18_
   have BK321 := n19_
   have BK329 := n20_
   have HB := n21_
   clear n0_ n1_ n2_ n3_ n4_ n5_ n6_ n7_ n8_ n9_ n10_ n11_ n12_ n13_ n14_ n15_ n16_ n17_ n18_ n19_ n20_ n21_
   (try clear hb)
   (try clear hb2)
   (try clear hk)
   (try clear hi)
   (try clear ho0)
   (try clear ho1)
   refine hK.out _ _ ⟨(blk_cell BK321.out 0).trans rfl, (blk_cell BK321.out 1).trans rfl, (blk_cell BK329.out 0).trans rfl, (blk_cell BK329.out 1).trans rfl, (blk_cell BK284.out 0).trans rfl, (blk_cell BK284.out 1).trans rfl⟩ (fun hHeld => ?_)
   clear hK K
   refine norm_ (a' := ?_) ?_ ?_
   rotate_left
   {
   show Act.put _ (some 148) _ = _
   simp only [Act.put, sT, s0, s1, i64_w, i32_w]
   rfl }
   refine one_ (i := 34) (N := some 151) #[true, true, true, true, true, true, true, true, true, true, true, true, true, true, true, true, true, true, true, true, true, true, true, true, true, true, true, true, true, true, true, true, true, true, true, false, false, false] rfl rfl (one_of HT_.out (by kernel_rfl)) (by decide) (fun K hK => ?_)
   refine goes_ Try.func22 (by kernel_rfl) rfl #[.agg #[.slice A0_0 l0_0.length c0_0, .slice A0_1 l0_1.length c0_1], .slice A0_6 l0_6.length c0_6] (by rfl) rfl rfl (by (try simp only [List.map_toArray, List.map_cons, List.map_nil]); first | done | rfl | (simp only [List.length_drop, List.length_take]; rfl)) ?_
   with_reducible refine (rCrash.calls _ _ l0_0 _ _ l0_1 _ _ l0_6 t350 t353 _ ?side1 ?side2 ?side3 ?side4 ?side5 ?side6 A112.out).mono ?_
   (case side1 => exact Kd.C_below HR0_0.out bb)
   (case side2 => exact HC0_0.out)
   (case side3 => exact Kd.C_below HR0_1.out bb)
   (case side4 => exact HC0_1.out)
   (case side5 => exact Kd.C_below HR0_6.out bb)
   (case side6 => exact HC0_6.out)
   rintro e w157 ⟨v351, v354, rfl, ho0, ho1, hb⟩
   refine ⟨_, rfl, ?_⟩
   have n0_ := aS (Kd.R_elder' (rr HO_297000.out) (Kd.R_base ho0) hb)
   have n1_ := aS (Kd.R_elder' (rr HO_297001.out) (Kd.R_base ho1) hb)
   have n2_ := aS (Kd.R_elder' (rr HO_305000.out) (Kd.R_base ho0) hb)
   have n3_ := aS (Kd.R_elder' (rr HO_305001.out) (Kd.R_base ho1) hb)
   have n4_ := aS (Kd.V_mono (Kd.V_told (Kd.V_told (Kd.V_old (vv HO316.out) hb) (Kd.R_base ho0)) (Kd.R_base ho1)) (fun _ h_ => h_.1))
   have n5_ := aS (Kd.V_mono (Kd.V_told (Kd.V_told (Kd.V_old (vv HO319.out) hb) (Kd.R_base ho0)) (Kd.R_base ho1)) (fun _ h_ => h_.1))
   have n6_ := aS (Kd.V_mono (Kd.V_told (Kd.V_told (Kd.V_old (vv HO324.out) hb) (Kd.R_base ho0)) (Kd.R_base ho1)) (fun _ h_ => h_.1))
   have n7_ := aS (Kd.V_mono (Kd.V_told (Kd.V_told (Kd.V_old (vv HO327.out) hb) (Kd.R_base ho0)) (Kd.R_base ho1)) (fun _ h_ => h_.1))
   have n8_ := aS (Kd.R_elder' (rr HO333.out) (Kd.R_base ho0) hb)
   have n9_ := aS (Kd.R_elder' (rr HO336.out) (Kd.R_base ho1) hb)
   have n10_ := aS (Kd.R_elder' (rr HO339.out) (Kd.R_base ho0) hb)
   have n11_ := aS (Kd.R_elder' (rr HO342.out) (Kd.R_base ho1) hb)
   have n12_ := aS (Kd.R_elder' (rr HO346.out) (Kd.R_base ho0) hb)
   have n13_ := aS (Kd.R_elder' (rr HO349.out) (Kd.R_base ho1) hb)
   have n14_ := aS (Kd.R_lower (Kd.R_new' (Kd.R_new' (Kd.R_new' (Kd.R_new' (Kd.R_new' ho0 (Kd.R_lt (rr HO_297000.out))) (Kd.R_lt (rr HO_305000.out))) (Kd.R_lt (rr HO333.out))) (Kd.R_lt (rr HO339.out))) (Kd.R_lt (rr HO346.out))) bz)
   have n15_ := aS (Kd.R_lower (Kd.R_new' (Kd.R_new' (Kd.R_new' (Kd.R_new' (Kd.R_new' ho1 (Kd.R_lt (rr HO_297001.out))) (Kd.R_lt (rr HO_305001.out))) (Kd.R_lt (rr HO336.out))) (Kd.R_lt (rr HO342.out))) (Kd.R_lt (rr HO349.out))) bz)
   have n16_ := aS (kb BK283.out hb)
   have n17_ := aS (kb BK284.out hb)
   have n18_ := aS (kb BK285.out hb)
   have n19_ := aS (kb BK296.out hb)
   have n20_ := aS (kb BK304.out hb)
   have n21_ := aS (kb BK321.out hb)
   have n22_ := aS (kb BK329.out hb)
   have n23_ := aS (below_step bb hb)
   clear HO_297000
   clear HO_297001
   clear HO_305000
   clear HO_305001
   clear HO316
   clear HO319
   clear HO324
   clear HO327
   clear HO333
   clear HO336
   clear HO339
   clear HO342
   clear HO346
   clear HO349
   clear BK283
   clear BK284
   clear BK285
   clear BK296
   clear BK304
   clear BK321
   clear BK329
   clear HB
   have HO_297000 := n0_
   have HO_297001 := n1_
   have HO_305000 := n2_
   have HO_305001 := n3_
   have HO316 := n4_
   have HO319 := n5_
   have HO324 := n6_
   have HO327 := n7_
   have HO333 := n8_
   have HO336 := n9_
   have HO339 := n10_
   have HO342 := n11_
   have HO346 := n12_
   have HO349 := n13_
   have HO352 := n14_
   have HO355 := n15_
   have BK283 := n16_
   have BK284 := n17_
   have BK285 := n18_
   have BK296 := n19_
   have BK304 := n20_
   have BK321 := n21_
   have BK329 := n22_
   have HB := n23_
   clear n0_ n1_ n2_ n3_ n4_ n5_ n6_ n7_ n8_ n9_ n10_ n11_ n12_ n13_ n14_ n15_ n16_ n17_ n18_ n19_ n20_ n21_ n22_ n23_
   (try clear hb)
   (try clear hb2)
   (try clear hk)
   (try clear hi)
   (try clear ho0)
   (try clear ho1)
   obtain ⟨Ao158, co158, eo158⟩ := Kd.R_slice HO346.out
   (first | subst eo158 | (injection eo158 with f1_ f2_ f3_; have f4_ := f1_.symm; have f5_ := f3_.symm; clear f1_ f2_ f3_; subst f4_; subst f5_))
   obtain ⟨Ao159, co159, eo159⟩ := Kd.R_slice HO349.out
   (first | subst eo159 | (injection eo159 with f1_ f2_ f3_; have f4_ := f1_.symm; have f5_ := f3_.symm; clear f1_ f2_ f3_; subst f4_; subst f5_))
   obtain ⟨Ao160, co160, eo160⟩ := Kd.R_slice HO352.out
   (first | subst eo160 | (injection eo160 with f1_ f2_ f3_; have f4_ := f1_.symm; have f5_ := f3_.symm; clear f1_ f2_ f3_; subst f4_; subst f5_))
   obtain ⟨Ao161, co161, eo161⟩ := Kd.R_slice HO355.out
   (first | subst eo161 | (injection eo161 with f1_ f2_ f3_; have f4_ := f1_.symm; have f5_ := f3_.symm; clear f1_ f2_ f3_; subst f4_; subst f5_))
   refine hK.out _ _ ⟨(blk_cell BK321.out 0).trans rfl, (blk_cell BK321.out 1).trans rfl, (blk_cell BK329.out 0).trans rfl, (blk_cell BK329.out 1).trans rfl, (blk_cell BK284.out 0).trans rfl, (blk_cell BK284.out 1).trans rfl⟩ (fun hHeld => ?_)
   clear hK K
   refine norm_ (a' := ?_) ?_ ?_
   rotate_left
   {
   show Act.put _ (some 151) _ = _
   simp only [Act.put, sT, s0, s1, i64_w, i32_w]
   rfl }
   refine one_ (i := 35) (N := some 152) #[true, true, true, true, true, true, true, true, true, true, true, true, true, true, true, true, true, true, true, true, true, true, true, true, true, true, true, true, true, true, true, true, true, true, true, true, false, false] rfl rfl (one_of HT_.out (by kernel_rfl)) (by decide) (fun K hK => ?_)
   refine goes_ Try.func14 (by kernel_rfl) rfl #[.agg #[.slice Ao158 t344.length co158, .slice Ao159 t347.length co159], .agg #[.slice Ao160 t350.length co160, .slice Ao161 t353.length co161]] (by rfl) rfl rfl (by (try simp only [List.map_toArray, List.map_cons, List.map_nil]); first | done | rfl | (simp only [List.length_drop, List.length_take]; rfl)) ?_
   with_reducible refine (hallmootref22_Same.calls kj49 _ _ t344 _ _ t347 _ _ t350 _ _ t353 t356 _ ?side1 ?side2 ?side3 ?side4 ?side5 ?side6 ?side7 ?side8 A113.out).mono ?_
   (case side1 => repeat (first | exact (Kd.R_reads' HO346.out).2.2 | (with_reducible refine Kd.C_alloc ?_ _) | (with_reducible refine Kd.C_drewN ?_ _) | (with_reducible refine Kd.C_drew ?_)))
   (case side2 => exact (Kd.R_reads' HO346.out).2.1)
   (case side3 => repeat (first | exact (Kd.R_reads' HO349.out).2.2 | (with_reducible refine Kd.C_alloc ?_ _) | (with_reducible refine Kd.C_drewN ?_ _) | (with_reducible refine Kd.C_drew ?_)))
   (case side4 => exact (Kd.R_reads' HO349.out).2.1)
   (case side5 => repeat (first | exact (Kd.R_reads' HO352.out).2.2 | (with_reducible refine Kd.C_alloc ?_ _) | (with_reducible refine Kd.C_drewN ?_ _) | (with_reducible refine Kd.C_drew ?_)))
   (case side6 => exact (Kd.R_reads' HO352.out).2.1)
   (case side7 => repeat (first | exact (Kd.R_reads' HO355.out).2.2 | (with_reducible refine Kd.C_alloc ?_ _) | (with_reducible refine Kd.C_drewN ?_ _) | (with_reducible refine Kd.C_drew ?_)))
   (case side8 => exact (Kd.R_reads' HO355.out).2.1)
   rintro e w162 ⟨rfl, hb⟩
   refine ⟨_, rfl, ?_⟩
   have n0_ := aS (Kd.R_below (rr HO_297000.out) hb)
   have n1_ := aS (Kd.R_below (rr HO_297001.out) hb)
   have n2_ := aS (Kd.R_below (rr HO_305000.out) hb)
   have n3_ := aS (Kd.R_below (rr HO_305001.out) hb)
   have n4_ := aS (Kd.V_below (vv HO316.out) hb)
   have n5_ := aS (Kd.V_below (vv HO319.out) hb)
   have n6_ := aS (Kd.V_below (vv HO324.out) hb)
   have n7_ := aS (Kd.V_below (vv HO327.out) hb)
   have n8_ := aS (Kd.R_below (rr HO333.out) hb)
   have n9_ := aS (Kd.R_below (rr HO336.out) hb)
   have n10_ := aS (Kd.R_below (rr HO339.out) hb)
   have n11_ := aS (Kd.R_below (rr HO342.out) hb)
   have n12_ := aS (Kd.R_below (rr HO346.out) hb)
   have n13_ := aS (Kd.R_below (rr HO349.out) hb)
   have n14_ := aS (Kd.R_below (rr HO352.out) hb)
   have n15_ := aS (Kd.R_below (rr HO355.out) hb)
   have n16_ := aS (kb BK283.out hb)
   have n17_ := aS (kb BK284.out hb)
   have n18_ := aS (kb BK285.out hb)
   have n19_ := aS (kb BK296.out hb)
   have n20_ := aS (kb BK304.out hb)
   have n21_ := aS (kb BK321.out hb)
   have n22_ := aS (kb BK329.out hb)
   have n23_ := aS (below_step bb hb)
   clear HO_297000
   clear HO_297001
   clear HO_305000
   clear HO_305001
   clear HO316
   clear HO319
   clear HO324
   clear HO327
   clear HO333
   clear HO336
   clear HO339
   clear HO342
   clear HO346
   clear HO349
   clear HO352
   clear HO355
   clear BK283
   clear BK284
   clear BK285
   clear BK296
   clear BK304
   clear BK321
   clear BK329
   clear HB
   have HO_297000 := n0_
   have HO_297001 := n1_
   have HO_305000 := n2_
   have HO_305001 := n3_
   have HO316 := n4_
   have HO319 := n5_
   have HO324 := n6_
   have HO327 := n7_
   have HO333 := n8_
   have HO336 := n9_
   have HO339 := n10_
   have HO342 := n11_
   have HO346 := n12_
   have HO349 := n13_
   have HO352 := n14_
   have HO355 := n15_
   have BK283 := n16_
   have BK284 := n17_
   have BK285 := n18_
   have BK296 := n19_
   have BK304 := n20_
   have BK321 := n21_
   have BK329 := n22_
   have HB := n23_
   clear n0_ n1_ n2_ n3_ n4_ n5_ n6_ n7_ n8_ n9_ n10_ n11_ n12_ n13_ n14_ n15_ n16_ n17_ n18_ n19_ n20_ n21_ n22_ n23_
   (try clear hb)
   (try clear hb2)
   (try clear hk)
   (try clear hi)
   refine hK.out _ _ ⟨(blk_cell BK321.out 0).trans rfl, (blk_cell BK321.out 1).trans rfl, (blk_cell BK329.out 0).trans rfl, (blk_cell BK329.out 1).trans rfl, (blk_cell BK284.out 0).trans rfl, (blk_cell BK284.out 1).trans rfl⟩ (fun hHeld => ?_)
   clear hK K
   refine norm_ (a' := ?_) ?_ ?_
   rotate_left
   {
   show Act.put _ (some 152) _ = _
   simp only [Act.put, sT, s0, s1, i64_w, i32_w]
   rfl }
   refine pure_ (i := 36) (N := some 153) (v := ?_) (a' := ?_) #[true, true, true, true, true, true, true, true, true, true, true, true, true, true, true, true, true, true, true, true, true, true, true, true, true, true, true, true, true, true, true, true, true, true, true, true, true, false] rfl rfl (any_of HT_.out (by kernel_rfl)) (fun _ _ _ h => h) (Or.inl ⟨by rfl, ?_⟩) ?_ ?_
   rotate_left
   {
   intro w'
   go_simp
   with_reducible rfl }
   rotate_left
   {
   simp only [Act.put, sT, s0, s1, i64_w, i32_w]
   rfl }
   refine pure_ (i := 37) (N := some 2) (v := ?_) (a' := ?_) #[true, true, true, true, true, true, true, true, true, true, true, true, true, true, true, true, true, true, true, true, true, true, true, true, true, true, true, true, true, true, true, true, true, true, true, true, true, true] rfl rfl (any_of HT_.out (by kernel_rfl)) (fun _ _ _ h => h) (Or.inl ⟨by rfl, ?_⟩) ?_ ?_
   rotate_left
   {
   intro w'
   go_simp
   with_reducible rfl }
   rotate_left
   {
   simp only [Act.put, sT, s0, s1, i64_w, i32_w]
   rfl }
   refine done_ (done_of HT_.out (by kernel_rfl)) ?_
   try go_wp2
   go_ret
   exact ⟨by first | rfl | (simp [errW_none, errW_some] <;> rfl) | (simp [*, errW_none, errW_some] <;> rfl), by repeat (first | (with_reducible first | exact HB.out | apply below_alloc | apply pw_below_drewN | apply below_drew1 | refine below_set ?_ GE283.out | refine below_set ?_ GE284.out | refine below_set ?_ GE285.out | refine below_set ?_ GE296.out | refine below_set ?_ GE304.out | refine below_set ?_ GE321.out | refine below_set ?_ GE329.out) | exact HB.out)⟩ }
   {
   replace c110 := Bool.eq_false_iff.mpr c110
   subst c110
   have H1 : (none) = some r := by rw [if_neg (show ¬ (false = true) by decide)] at H; exact H
   clear H
   have H := H1
   clear H1
   exact absurd H (by simp) } }
   {
   rw [if_neg c106] at H
   exact absurd H (by simp) } }
   {
   replace c105 := Bool.eq_false_iff.mpr c105
   subst c105
   have H1 : (none) = some r := by rw [if_neg (show ¬ (false = true) by decide)] at H; exact H
   clear H
   have H := H1
   clear H1
   exact absurd H (by simp) } }
   {
   rw [if_neg c103] at H
   exact absurd H (by simp) } }
   {
   rw [if_neg c102] at H
   exact absurd H (by simp) } }
   {
   replace c101 := Bool.eq_false_iff.mpr c101
   subst c101
   have H1 : (none) = some r := by rw [if_neg (show ¬ (false = true) by decide)] at H; exact H
   clear H
   have H := H1
   clear H1
   exact absurd H (by simp) } }
   {
   replace c96 := Bool.eq_false_iff.mpr c96
   subst c96
   have H1 : (some t286) = some r := by rw [if_neg (show ¬ (false = true) by decide)] at H; exact H
   clear H
   have H := H1
   clear H1
   obtain rfl := Option.some.inj H
   go_wp2
   go_ret
   exact ⟨by first | rfl | (simp [errW_none, errW_some] <;> rfl) | (simp [*, errW_none, errW_some] <;> rfl), by repeat (first | (with_reducible first | exact HB.out | apply below_alloc | apply pw_below_drewN | apply below_drew1 | refine below_set ?_ GE283.out | refine below_set ?_ GE284.out | refine below_set ?_ GE285.out | refine below_set ?_ GE296.out | refine below_set ?_ GE304.out) | exact HB.out)⟩ } } } } }

end Go.Proofs.Ytdaonhgcejjlhaa.P
