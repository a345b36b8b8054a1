-- Written by pp.py (this session's program over the kit's printer): functions, contracts. Not trusted: Lean checks it.
import Derived.Test.YtfojpobblebigaaYM0
namespace Go.Proofs.Ytfojpobblebigaa.P
open Go.RowKit Go.Proofs.YtfojpobblebigaaW.PrintWords Go.Proofs.YtfojpobblebigaaW.PrintLast Go.Proofs.YtfojpobblebigaaW.PrintMore
attribute [local go_sem] max2_int min2_int max_two min_two max_three min_three max_four min_four   -- for this text's walks alone
set_option linter.unusedVariables false
set_option linter.unusedSimpArgs false

/-! ### hallmootref13_reads: function 48 -/
def hallmootref13_reads.l0 : Nat → Int → List (S30) → List (S33) → List (S50) → Int → Int → Int → Option ((List (S30)) × (List (S33)) × (List (S50)))
  | 0, _, _, _, _, _, _, _ => none
  | k + 1, x5, x236000, x236001, x236002, x237000, x237001, x237002 => if x5 < (x236000.length : Int) then (if 0 ≤ x5 then (if ((rd_T30 x236000 x5).f0) = x237000 then (some (x236000, x236001, x236002)) else (hallmootref13_reads.l0 k (wrap64 (x5 + 1)) x236000 x236001 x236002 x237000 x237001 x237002)) else (none)) else ((some (([] : List (S30)) : List (S30))).bind fun y239 => (if y239.length + x236000.length < 5864062014805 then ((some (y239 ++ x236000 : List (S30))).bind fun y242 => ((some (([(⟨x237000, x237001, x237002⟩ : S30)] : List (S30)) : List (S30))).bind fun y245 => (if y242.length + y245.length < 5864062014805 then (some ((y242 ++ y245), x236001, x236002)) else (none)))) else (none)))
def hallmootref13_reads.f (k : Nat) (l0_0 : List (S30)) (l0_1 : List (S33)) (l0_2 : List (S50)) (a1_0 : Int) (a1_1 : Int) (a1_2 : Int) : Option ((List (S30)) × (List (S33)) × (List (S50))) := hallmootref13_reads.l0 k 0 l0_0 l0_1 l0_2 a1_0 a1_1 a1_2
theorem hallmootref13_reads.mono_l : ∀ k, (∀ y0 y1 y2 y3 y4 y5 y6, LeO (hallmootref13_reads.l0 k y0 y1 y2 y3 y4 y5 y6) (hallmootref13_reads.l0 (k + 1) y0 y1 y2 y3 y4 y5 y6))
  | 0 => fun _ _ _ _ _ _ _ r h => by simp [hallmootref13_reads.l0] at h
  | k + 1 => by
    have ih0 := hallmootref13_reads.mono_l k
    · intro y0 y1 y2 y3 y4 y5 y6
      unfold hallmootref13_reads.l0
      repeat' first
      | (with_reducible exact ih0 _ _ _ _ _ _ _)
      | (with_reducible exact LeO.refl _)
      | (with_reducible exact LeO.none _)
      | (with_reducible refine LeO.ite ?_ ?_)
      | (with_reducible refine LeO.bind ?_ (fun _ => ?_))
      | exact ih0 _ _ _ _ _ _ _
      | exact LeO.none _
      | refine LeO.ite ?_ ?_
      | refine LeO.bind ?_ (fun _ => ?_)
theorem hallmootref13_reads.mono : ∀ a0 a1 a2 a3 a4 a5 k, LeO (hallmootref13_reads.f k a0 a1 a2 a3 a4 a5) (hallmootref13_reads.f (k + 1) a0 a1 a2 a3 a4 a5) := by
 intro a0 a1 a2 a3 a4 a5 k
 have ih0 := hallmootref13_reads.mono_l k
 unfold hallmootref13_reads.f
 repeat' first | (with_reducible exact ih0 _ _ _ _ _ _ _) | (with_reducible exact LeO.refl _) | (with_reducible exact LeO.none _) | (with_reducible refine LeO.ite ?_ ?_) | (with_reducible refine LeO.bind ?_ (fun _ => ?_)) | exact ih0 _ _ _ _ _ _ _ | exact LeO.none _ | refine LeO.ite ?_ ?_ | refine LeO.bind ?_ (fun _ => ?_)
def hallmootref13_reads.T4 : Bool × List (List Nat × List Nat) := (true, [([], []), ([0], [0]), ([], []), ([1, 2], [1, 2]), ([3], [3]), ([4], [4]), ([], []), ([6], [6]), ([5, 7], [5, 7])])
def hallmootref13_reads.B4 : List Nat := [0, 1, 0, 7, 15, 31, 0, 64, 255]
theorem hallmootref13_reads.tab4 : rtab .any (opsOf Try.f48 4) = hallmootref13_reads.T4 := by kernel_rfl
theorem hallmootref13_reads.bits4 : waitsOk hallmootref13_reads.T4.2 hallmootref13_reads.B4 = true := by kernel_rfl
def hallmootref13_reads.T6 : Bool × List (List Nat × List Nat) := (true, [([], []), ([], []), ([1], [1]), ([0, 2], [0, 2]), ([], []), ([4], [4]), ([3, 5, 3], [3, 5]), ([0, 1, 2, 3, 4, 5, 6], []), ([7, 6, 6, 0, 1, 2, 3, 4, 5, 6], [6, 7])])
def hallmootref13_reads.B6 : List Nat := [0, 0, 2, 7, 0, 16, 63, 127, 255]
theorem hallmootref13_reads.tab6 : rtab .any (opsOf Try.f48 6) = hallmootref13_reads.T6 := by kernel_rfl
theorem hallmootref13_reads.bits6 : waitsOk hallmootref13_reads.T6.2 hallmootref13_reads.B6 = true := by kernel_rfl
set_option maxHeartbeats 8000000 in
set_option maxRecDepth 100000 in
theorem hallmootref13_reads.calls (k : Nat) (P0_0_ : Nat → Prop) (A0_0 : Option Addr) (c0_0 : Nat) (l0_0 : List (S30)) (P0_1_ : Nat → Prop) (A0_1 : Option Addr) (c0_1 : Nat) (l0_1 : List (S33)) (P0_2_ : Nat → Prop) (A0_2 : Option Addr) (c0_2 : Nat) (l0_2 : List (S50)) (a1_0 : Int) (a1_1 : Int) (a1_2 : Int) (r1 : List (S30)) (r2 : List (S33)) (r3 : List (S50)) (w : World) (hs0_0 : Kd.V k30 30 w w.heap.size (fun k_ => P0_0_ k_) (.slice A0_0 l0_0.length c0_0) l0_0) (hs0_1 : Kd.V k33 33 w w.heap.size (fun k_ => P0_1_ k_) (.slice A0_1 l0_1.length c0_1) l0_1) (hs0_2 : Kd.V k50 50 w w.heap.size (fun k_ => P0_2_ k_) (.slice A0_2 l0_2.length c0_2) l0_2) (h : hallmootref13_reads.f k l0_0 l0_1 l0_2 a1_0 a1_1 a1_2 = some (r1, r2, r3)) : Calls Try.prog 48 #[.agg #[.slice A0_0 l0_0.length c0_0, .slice A0_1 l0_1.length c0_1, .slice A0_2 l0_2.length c0_2], .agg #[.int .i64 a1_0, .int .i64 a1_1, .int .i64 a1_2]] w fun e w' => ∃ v0_ v1_ v2_ : Value, e = .returned (.agg #[v0_, v1_, v2_]) ∧ Kd.V k30 30 w' w.heap.size (fun k_ => ((P0_0_ k_ ∨ P0_1_ k_ ∨ P0_2_ k_) ∨ w.heap.size ≤ k_)) v0_ r1 ∧ Kd.V k33 33 w' w.heap.size (fun k_ => ((P0_0_ k_ ∨ P0_1_ k_ ∨ P0_2_ k_) ∨ w.heap.size ≤ k_)) v1_ r2 ∧ Kd.V k50 50 w' w.heap.size (fun k_ => ((P0_0_ k_ ∨ P0_1_ k_ ∨ P0_2_ k_) ∨ w.heap.size ≤ k_)) v2_ r3 ∧ Below w.heap.size w w' := by
 have hu62 := Try.underlying62
 have hu30 := Try.underlying30
 have HO0_0 := aS (show Kd.V k30 30 w w.heap.size (fun k_ => ((P0_0_ k_ ∨ P0_1_ k_ ∨ P0_2_ k_) ∨ w.heap.size ≤ k_)) (.slice A0_0 l0_0.length c0_0) l0_0 from Kd.V_mono hs0_0 (fun k_ hk => .inl (.inl hk)))
 have HO0_1 := aS (show Kd.V k33 33 w w.heap.size (fun k_ => ((P0_0_ k_ ∨ P0_1_ k_ ∨ P0_2_ k_) ∨ w.heap.size ≤ k_)) (.slice A0_1 l0_1.length c0_1) l0_1 from Kd.V_mono hs0_1 (fun k_ hk => .inl (.inr (.inl hk))))
 have HO0_2 := aS (show Kd.V k50 50 w w.heap.size (fun k_ => ((P0_0_ k_ ∨ P0_1_ k_ ∨ P0_2_ k_) ∨ w.heap.size ≤ k_)) (.slice A0_2 l0_2.length c0_2) l0_2 from Kd.V_mono hs0_2 (fun k_ hk => .inl (.inr (.inr hk))))
 have HB := aS (Below.refl w.heap.size w)
 have H : (hallmootref13_reads.l0 k 0 l0_0 l0_1 l0_2 a1_0 a1_1 a1_2) = some (r1, r2, r3) := h
 clear h
 have H' := aS H
 clear H
 go_enter Try.func48, Try.ntmps48
 go_wp2_with (first | ((with_reducible refine gate_dst (N := 2) rfl ?_); refine box_event ?hg (N := 2) ?hd (cs := #[.slice A0_0 l0_0.length c0_0, .slice A0_1 l0_1.length c0_1, .slice A0_2 l0_2.length c0_2]) (t := 62) ?hr ?_; (case hd => rfl); (case hg => rfl); (case hr => first | (go_simp; done) | (go_simp; rfl)); intro gb235 hg w3 hbox hb; have n0_ := aS (Kd.V_below (Kd.V_elderB (vv HO0_0.out) gb235 (Nat.le_of_eq hg.symm)) hb); have n1_ := aS (Kd.V_below (Kd.V_elderB (vv HO0_1.out) gb235 (Nat.le_of_eq hg.symm)) hb); have n2_ := aS (Kd.V_below (Kd.V_elderB (vv HO0_2.out) gb235 (Nat.le_of_eq hg.symm)) hb); have n3_ := aS (below_step bb hb); have n4_ := aS (hbox); have n5_ := aS ((by rw [hg]; exact bz : w.heap.size ≤ gb235)); have n6_ := aS ((by rw [hg]; exact bz : w.heap.size ≤ gb235)); clear HO0_0; clear HO0_1; clear HO0_2; clear HB; have HO0_0 := n0_; have HO0_1 := n1_; have HO0_2 := n2_; have HB := n3_; have BK235 := n4_; have GW235 := n5_; have GE235 := n6_; clear n0_ n1_ n2_ n3_ n4_ n5_ n6_; clear hb hbox hg) | ((with_reducible refine gate_dst (N := 3) rfl ?_); refine box_event ?hg (N := 3) ?hd (cs := #[.int .i64 a1_0, .int .i64 a1_1, .int .i64 a1_2]) (t := 30) ?hr ?_; (case hd => rfl); (case hg => rfl); (case hr => first | (go_simp; done) | (go_simp; rfl)); intro gb236 hg w4 hbox hb; have n0_ := aS (Kd.V_below (Kd.V_elderB (vv HO0_0.out) gb236 (Nat.le_of_eq hg.symm)) hb); have n1_ := aS (Kd.V_below (Kd.V_elderB (vv HO0_1.out) gb236 (Nat.le_of_eq hg.symm)) hb); have n2_ := aS (Kd.V_below (Kd.V_elderB (vv HO0_2.out) gb236 (Nat.le_of_eq hg.symm)) hb); have n3_ := aS (blk_below (g := gb235) (o := .cells #[.slice A0_0 l0_0.length c0_0, .slice A0_1 l0_1.length c0_1, .slice A0_2 l0_2.length c0_2] 62 (0, 0)) (kk BK235.out) hb); have n4_ := aS (below_step bb hb); have n5_ := aS (hbox); have n6_ := aS ((by rw [hg]; exact bz : w.heap.size ≤ gb236)); have n7_ := aS ((by rw [hg]; exact bz : w.heap.size ≤ gb236)); have n8_ := aS ((by rw [hg]; exact Nat.ne_of_lt (blk_lt (g := gb235) (o := .cells #[.slice A0_0 l0_0.length c0_0, .slice A0_1 l0_1.length c0_1, .slice A0_2 l0_2.length c0_2] 62 (0, 0)) (kk BK235.out)) : gb235 ≠ gb236)); have n9_ := aS ((by rw [hg]; exact Nat.ne_of_gt (blk_lt (g := gb235) (o := .cells #[.slice A0_0 l0_0.length c0_0, .slice A0_1 l0_1.length c0_1, .slice A0_2 l0_2.length c0_2] 62 (0, 0)) (kk BK235.out)) : gb236 ≠ gb235)); clear HO0_0; clear HO0_1; clear HO0_2; clear BK235; clear HB; have HO0_0 := n0_; have HO0_1 := n1_; have HO0_2 := n2_; have BK235 := n3_; have HB := n4_; have BK236 := n5_; have GW236 := n6_; have GE236 := n7_; have NB235_236 := n8_; have NB236_235 := n9_; clear n0_ n1_ n2_ n3_ n4_ n5_ n6_ n7_ n8_ n9_; clear hb hbox hg) | ((with_reducible refine gate_dst (N := 4) rfl ?_); refine box_event ?hg (N := 4) ?hd (cs := #[.slice none 0 0, .slice none 0 0, .slice none 0 0]) (t := 62) ?hr ?_; (case hd => rfl); (case hg => rfl); (case hr => first | (go_simp; done) | (go_simp; rfl)); intro gb237 hg w5 hbox hb; have n0_ := aS (Kd.V_below (Kd.V_elderB (vv HO0_0.out) gb237 (Nat.le_of_eq hg.symm)) hb); have n1_ := aS (Kd.V_below (Kd.V_elderB (vv HO0_1.out) gb237 (Nat.le_of_eq hg.symm)) hb); have n2_ := aS (Kd.V_below (Kd.V_elderB (vv HO0_2.out) gb237 (Nat.le_of_eq hg.symm)) hb); have n3_ := aS (blk_below (g := gb235) (o := .cells #[.slice A0_0 l0_0.length c0_0, .slice A0_1 l0_1.length c0_1, .slice A0_2 l0_2.length c0_2] 62 (0, 0)) (kk BK235.out) hb); have n4_ := aS (blk_below (g := gb236) (o := .cells #[.int .i64 a1_0, .int .i64 a1_1, .int .i64 a1_2] 30 (0, 0)) (kk BK236.out) hb); have n5_ := aS (below_step bb hb); have n6_ := aS (hbox); have n7_ := aS ((by rw [hg]; exact bz : w.heap.size ≤ gb237)); have n8_ := aS ((by rw [hg]; exact bz : w.heap.size ≤ gb237)); have n9_ := aS ((by rw [hg]; exact Nat.ne_of_lt (blk_lt (g := gb235) (o := .cells #[.slice A0_0 l0_0.length c0_0, .slice A0_1 l0_1.length c0_1, .slice A0_2 l0_2.length c0_2] 62 (0, 0)) (kk BK235.out)) : gb235 ≠ gb237)); have n10_ := aS ((by rw [hg]; exact Nat.ne_of_gt (blk_lt (g := gb235) (o := .cells #[.slice A0_0 l0_0.length c0_0, .slice A0_1 l0_1.length c0_1, .slice A0_2 l0_2.length c0_2] 62 (0, 0)) (kk BK235.out)) : gb237 ≠ gb235)); have n11_ := aS ((by rw [hg]; exact Nat.ne_of_lt (blk_lt (g := gb236) (o := .cells #[.int .i64 a1_0, .int .i64 a1_1, .int .i64 a1_2] 30 (0, 0)) (kk BK236.out)) : gb236 ≠ gb237)); have n12_ := aS ((by rw [hg]; exact Nat.ne_of_gt (blk_lt (g := gb236) (o := .cells #[.int .i64 a1_0, .int .i64 a1_1, .int .i64 a1_2] 30 (0, 0)) (kk BK236.out)) : gb237 ≠ gb236)); clear HO0_0; clear HO0_1; clear HO0_2; clear BK235; clear BK236; clear HB; have HO0_0 := n0_; have HO0_1 := n1_; have HO0_2 := n2_; have BK235 := n3_; have BK236 := n4_; have HB := n5_; have BK237 := n6_; have GW237 := n7_; have GE237 := n8_; have NB235_237 := n9_; have NB237_235 := n10_; have NB236_237 := n11_; have NB237_236 := n12_; clear n0_ n1_ n2_ n3_ n4_ n5_ n6_ n7_ n8_ n9_ n10_ n11_ n12_; clear hb hbox hg))
 go_loopg [5] k (fun kq v5 w' => ∃ (x5_1 : Int), v5 = .int .i64 x5_1 ∧ Aside0 (hallmootref13_reads.l0 kq x5_1 l0_0 l0_1 l0_2 a1_0 a1_1 a1_2 = some (r1, r2, r3)) ∧ Aside0 (kq ≤ k) ∧ Aside0 (Kd.V k30 30 w' w.heap.size (fun k_ => ((P0_0_ k_ ∨ P0_1_ k_ ∨ P0_2_ k_) ∨ w.heap.size ≤ k_) ∧ k_ ≠ gb235 ∧ k_ ≠ gb236 ∧ k_ ≠ gb237) (.slice A0_0 l0_0.length c0_0) l0_0) ∧ Aside0 (Kd.V k33 33 w' w.heap.size (fun k_ => ((P0_0_ k_ ∨ P0_1_ k_ ∨ P0_2_ k_) ∨ w.heap.size ≤ k_) ∧ k_ ≠ gb235 ∧ k_ ≠ gb236 ∧ k_ ≠ gb237) (.slice A0_1 l0_1.length c0_1) l0_1) ∧ Aside0 (Kd.V k50 50 w' w.heap.size (fun k_ => ((P0_0_ k_ ∨ P0_1_ k_ ∨ P0_2_ k_) ∨ w.heap.size ≤ k_) ∧ k_ ≠ gb235 ∧ k_ ≠ gb236 ∧ k_ ≠ gb237) (.slice A0_2 l0_2.length c0_2) l0_2) ∧ Aside0 (w'.heap[gb235]? = some (.cells #[(.slice A0_0 l0_0.length c0_0), (.slice A0_1 l0_1.length c0_1), (.slice A0_2 l0_2.length c0_2)] 62 (0, 0))) ∧ Aside0 (w'.heap[gb236]? = some (.cells #[.int .i64 a1_0, .int .i64 a1_1, .int .i64 a1_2] 30 (0, 0))) ∧ Aside0 (w'.heap[gb237]? = some (.cells #[(.slice none 0 0), (.slice none 0 0), (.slice none 0 0)] 62 (0, 0))) ∧ Aside0 (Below w.heap.size w w'))
 case atStart => exact ⟨(0), (by first | rfl | (simp; done) | (simp [*]; done)), H', ⟨Nat.le_refl _⟩, ⟨by (with_reducible repeat (first | apply Kd.V_alloc | apply Kd.V_drewN | apply Kd.V_drew)); exact Kd.V_mono HO0_0.out (fun _ hk => ⟨hk.1.1.1, ⟨hk.1.1.2, ⟨hk.1.2, hk.2⟩⟩⟩)⟩, ⟨by (with_reducible repeat (first | apply Kd.V_alloc | apply Kd.V_drewN | apply Kd.V_drew)); exact Kd.V_mono HO0_1.out (fun _ hk => ⟨hk.1.1.1, ⟨hk.1.1.2, ⟨hk.1.2, hk.2⟩⟩⟩)⟩, ⟨by (with_reducible repeat (first | apply Kd.V_alloc | apply Kd.V_drewN | apply Kd.V_drew)); exact Kd.V_mono HO0_2.out (fun _ hk => ⟨hk.1.1.1, ⟨hk.1.1.2, ⟨hk.1.2, hk.2⟩⟩⟩)⟩, ⟨by (with_reducible repeat (first | refine blk_drewN ?_ _ | refine blk_drew ?_ | refine blk_alloc ?_ _)); exact BK235.out⟩, ⟨by (with_reducible repeat (first | refine blk_drewN ?_ _ | refine blk_drew ?_ | refine blk_alloc ?_ _)); exact BK236.out⟩, ⟨by (with_reducible repeat (first | refine blk_drewN ?_ _ | refine blk_drew ?_ | refine blk_alloc ?_ _)); exact BK237.out⟩, ⟨by repeat (first | (with_reducible first | exact HB.out | apply below_alloc | apply pw_below_drewN | apply below_drew1 | refine below_set ?_ GE235.out | refine below_set ?_ GE236.out | refine below_set ?_ GE237.out) | exact HB.out)⟩⟩
 case round =>
  clear H'
  try clear p2
  try clear c4
  obtain ⟨x5_1, rfl, HA, HK1, HO_236000, HO_236001, HO_236002, BK235, BK236, BK237, HB⟩ := hrel
  cases gk with
  | zero => exact absurd HA.out (by simp [hallmootref13_reads.l0])
  | succ k1 => {
  have H := HA.out
  clear HA
  simp only [hallmootref13_reads.l0] at H
  by_cases c6 : x5_1 < (l0_0.length : Int)
  {
  rw [if_pos c6] at H
  have c6b0 : decide (x5_1 < (l0_0.length : Int)) = true := decide_eq_true c6
  clear c6
  by_cases c7 : 0 ≤ x5_1
  {
  rw [if_pos c7] at H
  have c7b0 : decide (0 ≤ x5_1) = true := decide_eq_true c7
  clear c7
  by_cases c8 : ((rd_T30 l0_0 x5_1).f0) = a1_0
  {
  rw [if_pos c8] at H
  have c8b0 : (((rd_T30 l0_0 x5_1).f0) == a1_0) = true := beq_iff_eq.mpr c8
  have c8b1 : (((rd_T30 l0_0 x5_1).f0) != a1_0) = false := bne_eq_false_iff_eq.mpr c8
  clear c8
  simp only [Option.some.injEq, Prod.mk.injEq] at H
  obtain ⟨rfl, rfl, rfl⟩ := H
  have hnb9 := NB235_236.out
  have hnc9 := NB236_235.out
  have hnb10 := NB235_237.out
  have hnc10 := NB237_235.out
  have hcz11_0 : wr.cell? ⟨gb235, 0, none⟩ = some (.slice A0_0 l0_0.length c0_0) := (blk_cell BK235.out 0).trans rfl
  have hcz11_1 : wr.cell? ⟨gb235, 1, none⟩ = some (.slice A0_1 l0_1.length c0_1) := (blk_cell BK235.out 1).trans rfl
  have hcz11_2 : wr.cell? ⟨gb235, 2, none⟩ = some (.slice A0_2 l0_2.length c0_2) := (blk_cell BK235.out 2).trans rfl
  have hfz11_0 := blk_frozen BK235.out 0
  have hfz11_1 := blk_frozen BK235.out 1
  have hfz11_2 := blk_frozen BK235.out 2
  try go_wp2
  have n0_ := aS (Kd.V_drew HO_236000.out)
  have n1_ := aS (Kd.V_drew HO_236001.out)
  have n2_ := aS (Kd.V_drew HO_236002.out)
  have n3_ := aS (blk_drew BK235.out)
  have n4_ := aS (blk_drew BK236.out)
  have n5_ := aS (blk_drew BK237.out)
  have n6_ := aS (below_drew1 HB.out)
  clear HO_236000
  clear HO_236001
  clear HO_236002
  clear BK235
  clear BK236
  clear BK237
  clear HB
  have HO_236000 := n0_
  have HO_236001 := n1_
  have HO_236002 := n2_
  have BK235 := n3_
  have BK236 := n4_
  have BK237 := n5_
  have HB := n6_
  clear n0_ n1_ n2_ n3_ n4_ n5_ n6_
  have p238 : 0 ≤ (x5_1 : Int) := dd
  have q238 : x5_1 < (l0_0.length : Int) := dd
  obtain ⟨ad238, e238, hx238_0, hx238_1, hx238_2⟩ := at_T30 (Kd.V_reads' HO_236000.out).2.2 x5_1 p238 q238
  cases e238
  replace p238 := eq_true p238
  replace q238 := eq_true q238
  refine start_ (n := 9) (S := fun w' => w'.cell? ⟨gb235, 0, none⟩ = some (.slice (some ad238) l0_0.length c0_0) ∧ w'.cell? ⟨gb235, 1, none⟩ = some (.slice A0_1 l0_1.length c0_1) ∧ w'.cell? ⟨gb235, 2, none⟩ = some (.slice A0_2 l0_2.length c0_2) ∧ w'.cell? ⟨gb236, 0, none⟩ = some (.int .i64 a1_0) ∧ w'.cell? ⟨gb236, 1, none⟩ = some (.int .i64 a1_1) ∧ w'.cell? ⟨gb236, 2, none⟩ = some (.int .i64 a1_2) ∧ w'.cell? (ad238.add ((x5_1).toNat * 3)) = some (.int .i64 ((rd_T30 l0_0 x5_1).f0)) ∧ w'.cell? ⟨(ad238.add ((x5_1).toNat * 3)).block, (ad238.add ((x5_1).toNat * 3)).off + 1, none⟩ = some (.int .i64 ((rd_T30 l0_0 x5_1).f1)) ∧ w'.cell? ⟨(ad238.add ((x5_1).toNat * 3)).block, (ad238.add ((x5_1).toNat * 3)).off + 2, none⟩ = some (.int .i64 ((rd_T30 l0_0 x5_1).f2))) (ds := []) #[false, false, false, false, false, false, false, false, false] (by kernel_rfl) rfl rfl ⟨(blk_cell BK235.out 0).trans rfl, (blk_cell BK235.out 1).trans rfl, (blk_cell BK235.out 2).trans rfl, (blk_cell BK236.out 0).trans rfl, (blk_cell BK236.out 1).trans rfl, (blk_cell BK236.out 2).trans rfl, hx238_0, hx238_1, hx238_2⟩ (fun hHeld => ?_); refine with_tabW hallmootref13_reads.tab4 hallmootref13_reads.bits4 (fun HT_ HW_ => ?_)
  generalize wr.drew = w12 at HO_236000 HO_236001 HO_236002 BK235 BK236 BK237 HB hx238_0 hx238_1 hx238_2 hHeld ⊢
  refine pure_ (i := 0) (N := some 13) (v := ?_) (a' := ?_) #[true, false, false, false, false, false, false, false, false] rfl rfl (any_of HT_.out (by kernel_rfl)) (fun _ _ _ h => h) (Or.inl ⟨by rfl, ?_⟩) ?_ ?_
  rotate_left
  {
  intro w'
  go_simp
  with_reducible rfl }
  rotate_left
  {
  simp only [Act.put, sT, s0, s1, i64_w, i32_w]
  rfl }
  refine pure_ (i := 2) (N := some 15) (v := ?_) (a' := ?_) #[true, false, true, false, false, false, false, false, false] rfl rfl (any_of HT_.out (by kernel_rfl)) (fun _ _ _ h => h) (Or.inl ⟨by rfl, ?_⟩) ?_ ?_
  rotate_left
  {
  intro w'
  go_simp
  with_reducible rfl }
  rotate_left
  {
  simp only [Act.put, sT, s0, s1, i64_w, i32_w]
  rfl }
  refine pure_ (i := 6) (N := some 19) (v := ?_) (a' := ?_) #[true, false, true, false, false, false, true, false, false] rfl rfl (any_of HT_.out (by kernel_rfl)) (fun _ _ _ h => h) (Or.inl ⟨by rfl, ?_⟩) ?_ ?_
  rotate_left
  {
  intro w'
  go_simp
  with_reducible rfl }
  rotate_left
  {
  simp only [Act.put, sT, s0, s1, i64_w, i32_w]
  rfl }
  refine take_ (i := 1) (N := some 14) (v := ?_) (a' := ?_) #[true, true, true, false, false, false, true, false, false] rfl rfl (take_ofW HT_.out HW_.out (by kernel_rfl)) (fun _ _ _ h => h) (Or.inl ⟨by rfl, ?_⟩) hHeld ?_ ?_
  rotate_left
  {
  rintro w' ⟨s0, s1, s2, s3, s4, s5, s6, s7, s8⟩
  go_simp
  with_reducible rfl }
  rotate_left
  {
  simp only [Act.put, sT, s0, s1, i64_w, i32_w]
  rfl }
  refine pure_ (i := 3) (N := some 16) (v := ?_) (a' := ?_) #[true, true, true, true, false, false, true, false, false] rfl rfl (any_of HT_.out (by kernel_rfl)) (fun _ _ _ h => h) (Or.inl ⟨by rfl, ?_⟩) ?_ ?_
  rotate_left
  {
  intro w'
  go_simp
  with_reducible rfl }
  rotate_left
  {
  simp only [Act.put, sT, s0, s1, i64_w, i32_w]
  rfl }
  refine pure_ (i := 4) (N := some 17) (v := ?_) (a' := ?_) #[true, true, true, true, true, false, true, false, false] rfl rfl (any_of HT_.out (by kernel_rfl)) (fun _ _ _ h => h) (Or.inl ⟨by rfl, ?_⟩) ?_ ?_
  rotate_left
  {
  intro w'
  go_simp
  with_reducible rfl }
  rotate_left
  {
  simp only [Act.put, sT, s0, s1, i64_w, i32_w]
  rfl }
  refine take_ (i := 5) (N := some 18) (v := ?_) (a' := ?_) #[true, true, true, true, true, true, true, false, false] rfl rfl (take_ofW HT_.out HW_.out (by kernel_rfl)) (fun _ _ _ h => h) (Or.inl ⟨by rfl, ?_⟩) hHeld ?_ ?_
  rotate_left
  {
  rintro w' ⟨s0, s1, s2, s3, s4, s5, s6, s7, s8⟩
  go_simp
  with_reducible rfl }
  rotate_left
  {
  simp only [Act.put, sT, s0, s1, i64_w, i32_w]
  rfl }
  refine take_ (i := 7) (N := some 20) (v := ?_) (a' := ?_) #[true, true, true, true, true, true, true, true, false] rfl rfl (take_ofW HT_.out HW_.out (by kernel_rfl)) (fun _ _ _ h => h) (Or.inl ⟨by rfl, ?_⟩) hHeld ?_ ?_
  rotate_left
  {
  rintro w' ⟨s0, s1, s2, s3, s4, s5, s6, s7, s8⟩
  go_simp
  with_reducible rfl }
  rotate_left
  {
  simp only [Act.put, sT, s0, s1, i64_w, i32_w]
  rfl }
  refine pure_ (i := 8) (N := some 21) (v := ?_) (a' := ?_) #[true, true, true, true, true, true, true, true, true] rfl rfl (any_of HT_.out (by kernel_rfl)) (fun _ _ _ h => h) (Or.inl ⟨by rfl, ?_⟩) ?_ ?_
  rotate_left
  {
  intro w'
  go_simp
  with_reducible rfl }
  rotate_left
  {
  simp only [Act.put, sT, s0, s1, i64_w, i32_w]
  rfl }
  refine done_ (done_of HT_.out (by kernel_rfl)) ?_
  have hcz13_0 : w12.cell? ⟨gb235, 0, none⟩ = some (.slice (some ad238) l0_0.length c0_0) := (blk_cell BK235.out 0).trans rfl
  have hcz13_1 : w12.cell? ⟨gb235, 1, none⟩ = some (.slice A0_1 l0_1.length c0_1) := (blk_cell BK235.out 1).trans rfl
  have hcz13_2 : w12.cell? ⟨gb235, 2, none⟩ = some (.slice A0_2 l0_2.length c0_2) := (blk_cell BK235.out 2).trans rfl
  have hfz13_0 := blk_frozen BK235.out 0
  have hfz13_1 := blk_frozen BK235.out 1
  have hfz13_2 := blk_frozen BK235.out 2
  have hnb14 := NB237_236.out
  have hnc14 := NB236_237.out
  have hcz15_0 : w12.cell? ⟨gb237, 0, none⟩ = some (.slice none 0 0) := (blk_cell BK237.out 0).trans rfl
  have hcz15_1 : w12.cell? ⟨gb237, 1, none⟩ = some (.slice none 0 0) := (blk_cell BK237.out 1).trans rfl
  have hcz15_2 : w12.cell? ⟨gb237, 2, none⟩ = some (.slice none 0 0) := (blk_cell BK237.out 2).trans rfl
  have hfz15_0 := blk_frozen BK237.out 0
  have hfz15_1 := blk_frozen BK237.out 1
  have hfz15_2 := blk_frozen BK237.out 2
  try go_wp2
  refine bodyPost_ret (results_cell_row rfl _ _ gb237 62 #[.slice (some ad238) l0_0.length c0_0, .slice A0_1 l0_1.length c0_1, .slice A0_2 l0_2.length c0_2] (0, 0) _ rfl (by (with_reducible repeat (first | refine blk_drewN ?_ _ | refine blk_drew ?_ | refine blk_alloc ?_ _)); refine blk_put (cs := #[.slice (some ad238) l0_0.length c0_0, .slice A0_1 l0_1.length c0_1, .slice none 0 0]) ?_ 2 _ rfl; (with_reducible repeat (first | refine blk_drewN ?_ _ | refine blk_drew ?_ | refine blk_alloc ?_ _)); refine blk_put (cs := #[.slice (some ad238) l0_0.length c0_0, .slice none 0 0, .slice none 0 0]) ?_ 1 _ rfl; (with_reducible repeat (first | refine blk_drewN ?_ _ | refine blk_drew ?_ | refine blk_alloc ?_ _)); refine blk_put (cs := #[.slice none 0 0, .slice none 0 0, .slice none 0 0]) ?_ 0 _ rfl; (with_reducible repeat (first | refine blk_drewN ?_ _ | refine blk_drew ?_ | refine blk_alloc ?_ _)); exact BK237.out) Try.underlying62 rfl (by kernel_rfl)) rfl ?_
  exact ⟨_, _, _, by first | rfl | (simp [errW_none, errW_some] <;> rfl) | (simp [*, errW_none, errW_some] <;> rfl), by (with_reducible repeat (first | apply Kd.V_alloc | apply Kd.V_drewN | apply Kd.V_drew)); exact Kd.V_mono (Kd.V_far (p := ⟨gb237, 2, none⟩) (Kd.V_far (p := ⟨gb237, 1, none⟩) (Kd.V_far (p := ⟨gb237, 0, none⟩) (Kd.V_mono HO_236000.out (fun k_ hk => (⟨hk, hk.2.2.2⟩ : _ ∧ k_ ≠ gb237))) (fun _ hk => hk.2) (.slice (some ad238) l0_0.length c0_0)) (fun _ hk => hk.2) (.slice A0_1 l0_1.length c0_1)) (fun _ hk => hk.2) (.slice A0_2 l0_2.length c0_2)) (fun _ hk => hk.1.1), by (with_reducible repeat (first | apply Kd.V_alloc | apply Kd.V_drewN | apply Kd.V_drew)); exact Kd.V_mono (Kd.V_far (p := ⟨gb237, 2, none⟩) (Kd.V_far (p := ⟨gb237, 1, none⟩) (Kd.V_far (p := ⟨gb237, 0, none⟩) (Kd.V_mono HO_236001.out (fun k_ hk => (⟨hk, hk.2.2.2⟩ : _ ∧ k_ ≠ gb237))) (fun _ hk => hk.2) (.slice (some ad238) l0_0.length c0_0)) (fun _ hk => hk.2) (.slice A0_1 l0_1.length c0_1)) (fun _ hk => hk.2) (.slice A0_2 l0_2.length c0_2)) (fun _ hk => hk.1.1), by (with_reducible repeat (first | apply Kd.V_alloc | apply Kd.V_drewN | apply Kd.V_drew)); exact Kd.V_mono (Kd.V_far (p := ⟨gb237, 2, none⟩) (Kd.V_far (p := ⟨gb237, 1, none⟩) (Kd.V_far (p := ⟨gb237, 0, none⟩) (Kd.V_mono HO_236002.out (fun k_ hk => (⟨hk, hk.2.2.2⟩ : _ ∧ k_ ≠ gb237))) (fun _ hk => hk.2) (.slice (some ad238) l0_0.length c0_0)) (fun _ hk => hk.2) (.slice A0_1 l0_1.length c0_1)) (fun _ hk => hk.2) (.slice A0_2 l0_2.length c0_2)) (fun _ hk => hk.1.1), by repeat (first | (with_reducible first | exact HB.out | apply below_alloc | apply pw_below_drewN | apply below_drew1 | refine below_set ?_ GE235.out | refine below_set ?_ GE236.out | refine below_set ?_ GE237.out) | exact HB.out)⟩ }
  {
  rw [if_neg c8] at H
  have c8b0 : (((rd_T30 l0_0 x5_1).f0) == a1_0) = false := beq_eq_false_iff_ne.mpr c8
  have c8b1 : (((rd_T30 l0_0 x5_1).f0) != a1_0) = true := bne_iff_ne.mpr c8
  have H' := aS H
  clear H
  have hnb16 := NB235_236.out
  have hnc16 := NB236_235.out
  have hnb17 := NB235_237.out
  have hnc17 := NB237_235.out
  have hcz18_0 : wr.cell? ⟨gb235, 0, none⟩ = some (.slice A0_0 l0_0.length c0_0) := (blk_cell BK235.out 0).trans rfl
  have hcz18_1 : wr.cell? ⟨gb235, 1, none⟩ = some (.slice A0_1 l0_1.length c0_1) := (blk_cell BK235.out 1).trans rfl
  have hcz18_2 : wr.cell? ⟨gb235, 2, none⟩ = some (.slice A0_2 l0_2.length c0_2) := (blk_cell BK235.out 2).trans rfl
  have hfz18_0 := blk_frozen BK235.out 0
  have hfz18_1 := blk_frozen BK235.out 1
  have hfz18_2 := blk_frozen BK235.out 2
  try go_wp2
  have n0_ := aS (Kd.V_drew HO_236000.out)
  have n1_ := aS (Kd.V_drew HO_236001.out)
  have n2_ := aS (Kd.V_drew HO_236002.out)
  have n3_ := aS (blk_drew BK235.out)
  have n4_ := aS (blk_drew BK236.out)
  have n5_ := aS (blk_drew BK237.out)
  have n6_ := aS (below_drew1 HB.out)
  clear HO_236000
  clear HO_236001
  clear HO_236002
  clear BK235
  clear BK236
  clear BK237
  clear HB
  have HO_236000 := n0_
  have HO_236001 := n1_
  have HO_236002 := n2_
  have BK235 := n3_
  have BK236 := n4_
  have BK237 := n5_
  have HB := n6_
  clear n0_ n1_ n2_ n3_ n4_ n5_ n6_
  have p238 : 0 ≤ (x5_1 : Int) := dd
  have q238 : x5_1 < (l0_0.length : Int) := dd
  obtain ⟨ad238, e238, hx238_0, hx238_1, hx238_2⟩ := at_T30 (Kd.V_reads' HO_236000.out).2.2 x5_1 p238 q238
  cases e238
  replace p238 := eq_true p238
  replace q238 := eq_true q238
  refine start_ (n := 9) (S := fun w' => w'.cell? ⟨gb235, 0, none⟩ = some (.slice (some ad238) l0_0.length c0_0) ∧ w'.cell? ⟨gb235, 1, none⟩ = some (.slice A0_1 l0_1.length c0_1) ∧ w'.cell? ⟨gb235, 2, none⟩ = some (.slice A0_2 l0_2.length c0_2) ∧ w'.cell? ⟨gb236, 0, none⟩ = some (.int .i64 a1_0) ∧ w'.cell? ⟨gb236, 1, none⟩ = some (.int .i64 a1_1) ∧ w'.cell? ⟨gb236, 2, none⟩ = some (.int .i64 a1_2) ∧ w'.cell? (ad238.add ((x5_1).toNat * 3)) = some (.int .i64 ((rd_T30 l0_0 x5_1).f0)) ∧ w'.cell? ⟨(ad238.add ((x5_1).toNat * 3)).block, (ad238.add ((x5_1).toNat * 3)).off + 1, none⟩ = some (.int .i64 ((rd_T30 l0_0 x5_1).f1)) ∧ w'.cell? ⟨(ad238.add ((x5_1).toNat * 3)).block, (ad238.add ((x5_1).toNat * 3)).off + 2, none⟩ = some (.int .i64 ((rd_T30 l0_0 x5_1).f2))) (ds := []) #[false, false, false, false, false, false, false, false, false] (by kernel_rfl) rfl rfl ⟨(blk_cell BK235.out 0).trans rfl, (blk_cell BK235.out 1).trans rfl, (blk_cell BK235.out 2).trans rfl, (blk_cell BK236.out 0).trans rfl, (blk_cell BK236.out 1).trans rfl, (blk_cell BK236.out 2).trans rfl, hx238_0, hx238_1, hx238_2⟩ (fun hHeld => ?_); refine with_tabW hallmootref13_reads.tab4 hallmootref13_reads.bits4 (fun HT_ HW_ => ?_)
  generalize wr.drew = w19 at HO_236000 HO_236001 HO_236002 BK235 BK236 BK237 HB hx238_0 hx238_1 hx238_2 hHeld ⊢
  refine pure_ (i := 0) (N := some 13) (v := ?_) (a' := ?_) #[true, false, false, false, false, false, false, false, false] rfl rfl (any_of HT_.out (by kernel_rfl)) (fun _ _ _ h => h) (Or.inl ⟨by rfl, ?_⟩) ?_ ?_
  rotate_left
  {
  intro w'
  go_simp
  with_reducible rfl }
  rotate_left
  {
  simp only [Act.put, sT, s0, s1, i64_w, i32_w]
  rfl }
  refine pure_ (i := 2) (N := some 15) (v := ?_) (a' := ?_) #[true, false, true, false, false, false, false, false, false] rfl rfl (any_of HT_.out (by kernel_rfl)) (fun _ _ _ h => h) (Or.inl ⟨by rfl, ?_⟩) ?_ ?_
  rotate_left
  {
  intro w'
  go_simp
  with_reducible rfl }
  rotate_left
  {
  simp only [Act.put, sT, s0, s1, i64_w, i32_w]
  rfl }
  refine pure_ (i := 6) (N := some 19) (v := ?_) (a' := ?_) #[true, false, true, false, false, false, true, false, false] rfl rfl (any_of HT_.out (by kernel_rfl)) (fun _ _ _ h => h) (Or.inl ⟨by rfl, ?_⟩) ?_ ?_
  rotate_left
  {
  intro w'
  go_simp
  with_reducible rfl }
  rotate_left
  {
  simp only [Act.put, sT, s0, s1, i64_w, i32_w]
  rfl }
  refine take_ (i := 1) (N := some 14) (v := ?_) (a' := ?_) #[true, true, true, false, false, false, true, false, false] rfl rfl (take_ofW HT_.out HW_.out (by kernel_rfl)) (fun _ _ _ h => h) (Or.inl ⟨by rfl, ?_⟩) hHeld ?_ ?_
  rotate_left
  {
  rintro w' ⟨s0, s1, s2, s3, s4, s5, s6, s7, s8⟩
  go_simp
  with_reducible rfl }
  rotate_left
  {
  simp only [Act.put, sT, s0, s1, i64_w, i32_w]
  rfl }
  refine pure_ (i := 3) (N := some 16) (v := ?_) (a' := ?_) #[true, true, true, true, false, false, true, false, false] rfl rfl (any_of HT_.out (by kernel_rfl)) (fun _ _ _ h => h) (Or.inl ⟨by rfl, ?_⟩) ?_ ?_
  rotate_left
  {
  intro w'
  go_simp
  with_reducible rfl }
  rotate_left
  {
  simp only [Act.put, sT, s0, s1, i64_w, i32_w]
  rfl }
  refine pure_ (i := 4) (N := some 17) (v := ?_) (a' := ?_) #[true, true, true, true, true, false, true, false, false] rfl rfl (any_of HT_.out (by kernel_rfl)) (fun _ _ _ h => h) (Or.inl ⟨by rfl, ?_⟩) ?_ ?_
  rotate_left
  {
  intro w'
  go_simp
  with_reducible rfl }
  rotate_left
  {
  simp only [Act.put, sT, s0, s1, i64_w, i32_w]
  rfl }
  refine take_ (i := 5) (N := some 18) (v := ?_) (a' := ?_) #[true, true, true, true, true, true, true, false, false] rfl rfl (take_ofW HT_.out HW_.out (by kernel_rfl)) (fun _ _ _ h => h) (Or.inl ⟨by rfl, ?_⟩) hHeld ?_ ?_
  rotate_left
  {
  rintro w' ⟨s0, s1, s2, s3, s4, s5, s6, s7, s8⟩
  go_simp
  with_reducible rfl }
  rotate_left
  {
  simp only [Act.put, sT, s0, s1, i64_w, i32_w]
  rfl }
  refine take_ (i := 7) (N := some 20) (v := ?_) (a' := ?_) #[true, true, true, true, true, true, true, true, false] rfl rfl (take_ofW HT_.out HW_.out (by kernel_rfl)) (fun _ _ _ h => h) (Or.inl ⟨by rfl, ?_⟩) hHeld ?_ ?_
  rotate_left
  {
  rintro w' ⟨s0, s1, s2, s3, s4, s5, s6, s7, s8⟩
  go_simp
  with_reducible rfl }
  rotate_left
  {
  simp only [Act.put, sT, s0, s1, i64_w, i32_w]
  rfl }
  refine pure_ (i := 8) (N := some 21) (v := ?_) (a' := ?_) #[true, true, true, true, true, true, true, true, true] rfl rfl (any_of HT_.out (by kernel_rfl)) (fun _ _ _ h => h) (Or.inl ⟨by rfl, ?_⟩) ?_ ?_
  rotate_left
  {
  intro w'
  go_simp
  with_reducible rfl }
  rotate_left
  {
  simp only [Act.put, sT, s0, s1, i64_w, i32_w]
  rfl }
  refine done_ (done_of HT_.out (by kernel_rfl)) ?_
  try go_wp2
  go_roundg k1
  case measure => have := HK1.out; omega
  case rel => exact ⟨(wrap64 (x5_1 + 1)), (by first | rfl | (simp; done) | (simp [*]; done)), H', ⟨by have := HK1.out; omega⟩, ⟨by (with_reducible repeat (first | apply Kd.V_alloc | apply Kd.V_drewN | apply Kd.V_drew)); exact HO_236000.out⟩, ⟨by (with_reducible repeat (first | apply Kd.V_alloc | apply Kd.V_drewN | apply Kd.V_drew)); exact HO_236001.out⟩, ⟨by (with_reducible repeat (first | apply Kd.V_alloc | apply Kd.V_drewN | apply Kd.V_drew)); exact HO_236002.out⟩, ⟨by (with_reducible repeat (first | refine blk_drewN ?_ _ | refine blk_drew ?_ | refine blk_alloc ?_ _)); exact BK235.out⟩, ⟨by (with_reducible repeat (first | refine blk_drewN ?_ _ | refine blk_drew ?_ | refine blk_alloc ?_ _)); exact BK236.out⟩, ⟨by (with_reducible repeat (first | refine blk_drewN ?_ _ | refine blk_drew ?_ | refine blk_alloc ?_ _)); exact BK237.out⟩, ⟨by repeat (first | (with_reducible first | exact HB.out | apply below_alloc | apply pw_below_drewN | apply below_drew1 | refine below_set ?_ GE235.out | refine below_set ?_ GE236.out | refine below_set ?_ GE237.out) | exact HB.out)⟩⟩ } }
  {
  rw [if_neg c7] at H
  exact absurd H (by simp) } }
  {
  rw [if_neg c6] at H
  have c6b0 : decide (x5_1 < (l0_0.length : Int)) = false := decide_eq_false c6
  clear c6
  obtain ⟨y239, hy239⟩ : ∃ y_ : List (S30), y_ = (([] : List (S30))) := ⟨_, rfl⟩
  replace H : (if y239.length + l0_0.length < 5864062014805 then ((some (y239 ++ l0_0 : List (S30))).bind fun y242 => ((some (([(⟨a1_0, a1_1, a1_2⟩ : S30)] : List (S30)) : List (S30))).bind fun y245 => (if y242.length + y245.length < 5864062014805 then (some ((y242 ++ y245), l0_1, l0_2)) else (none)))) else (none)) = some (r1, r2, r3) := by first | (rw [hy239]; with_reducible exact H) | (have H2_ := (Option.bind_some _ _).symm.trans H; rw [hy239]; with_reducible exact H2_) | (have H2_ := (Option.bind_some _ _).symm.trans H; with_reducible exact H2_) | with_reducible exact H | (rw [hy239]; exact H) | exact H
  have Ny239 := aS hy239
  clear hy239
  by_cases c20 : y239.length + l0_0.length < 5864062014805
  {
  rw [if_pos c20] at H
  have LMc20 := aS c20
  clear c20
  obtain ⟨y242, hy242⟩ : ∃ y_ : List (S30), y_ = (y239 ++ l0_0) := ⟨_, rfl⟩
  replace H : ((some (([(⟨a1_0, a1_1, a1_2⟩ : S30)] : List (S30)) : List (S30))).bind fun y245 => (if y242.length + y245.length < 5864062014805 then (some ((y242 ++ y245), l0_1, l0_2)) else (none))) = some (r1, r2, r3) := by first | (rw [hy242]; with_reducible exact H) | (have H2_ := (Option.bind_some _ _).symm.trans H; rw [hy242]; with_reducible exact H2_) | (have H2_ := (Option.bind_some _ _).symm.trans H; with_reducible exact H2_) | with_reducible exact H | (rw [hy242]; exact H) | exact H
  have Ny242 := aS hy242
  clear hy242
  obtain ⟨y245, hy245⟩ : ∃ y_ : List (S30), y_ = (([(⟨a1_0, a1_1, a1_2⟩ : S30)] : List (S30))) := ⟨_, rfl⟩
  replace H : (if y242.length + y245.length < 5864062014805 then (some ((y242 ++ y245), l0_1, l0_2)) else (none)) = some (r1, r2, r3) := by first | (rw [hy245]; with_reducible exact H) | (have H2_ := (Option.bind_some _ _).symm.trans H; rw [hy245]; with_reducible exact H2_) | (have H2_ := (Option.bind_some _ _).symm.trans H; with_reducible exact H2_) | with_reducible exact H | (rw [hy245]; exact H) | exact H
  have Ny245 := aS hy245
  clear hy245
  by_cases c21 : y242.length + y245.length < 5864062014805
  {
  rw [if_pos c21] at H
  have LMc21 := aS c21
  clear c21
  obtain ⟨y248, hy248⟩ : ∃ y_ : List (S30), y_ = (y242 ++ y245) := ⟨_, rfl⟩
  replace H : (some (y248, l0_1, l0_2)) = some (r1, r2, r3) := by first | (rw [hy248]; with_reducible exact H) | (have H2_ := (Option.bind_some _ _).symm.trans H; rw [hy248]; with_reducible exact H2_) | (have H2_ := (Option.bind_some _ _).symm.trans H; with_reducible exact H2_) | with_reducible exact H | (rw [hy248]; exact H) | exact H
  have Ny248 := aS hy248
  clear hy248
  simp only [Option.some.injEq, Prod.mk.injEq] at H
  obtain ⟨rfl, rfl, rfl⟩ := H
  have hnb22 := NB235_236.out
  have hnc22 := NB236_235.out
  have hnb23 := NB235_237.out
  have hnc23 := NB237_235.out
  have hcz24_0 : wr.cell? ⟨gb235, 0, none⟩ = some (.slice A0_0 l0_0.length c0_0) := (blk_cell BK235.out 0).trans rfl
  have hcz24_1 : wr.cell? ⟨gb235, 1, none⟩ = some (.slice A0_1 l0_1.length c0_1) := (blk_cell BK235.out 1).trans rfl
  have hcz24_2 : wr.cell? ⟨gb235, 2, none⟩ = some (.slice A0_2 l0_2.length c0_2) := (blk_cell BK235.out 2).trans rfl
  have hfz24_0 := blk_frozen BK235.out 0
  have hfz24_1 := blk_frozen BK235.out 1
  have hfz24_2 := blk_frozen BK235.out 2
  try go_wp2
  have n0_ := aS (Kd.V_drew HO_236000.out)
  have n1_ := aS (Kd.V_drew HO_236001.out)
  have n2_ := aS (Kd.V_drew HO_236002.out)
  have n3_ := aS (blk_drew BK235.out)
  have n4_ := aS (blk_drew BK236.out)
  have n5_ := aS (blk_drew BK237.out)
  have n6_ := aS (below_drew1 HB.out)
  clear HO_236000
  clear HO_236001
  clear HO_236002
  clear BK235
  clear BK236
  clear BK237
  clear HB
  have HO_236000 := n0_
  have HO_236001 := n1_
  have HO_236002 := n2_
  have BK235 := n3_
  have BK236 := n4_
  have BK237 := n5_
  have HB := n6_
  clear n0_ n1_ n2_ n3_ n4_ n5_ n6_
  refine start_ (n := 9) (S := fun w' => w'.cell? ⟨gb235, 0, none⟩ = some (.slice A0_0 l0_0.length c0_0) ∧ w'.cell? ⟨gb235, 1, none⟩ = some (.slice A0_1 l0_1.length c0_1) ∧ w'.cell? ⟨gb235, 2, none⟩ = some (.slice A0_2 l0_2.length c0_2) ∧ w'.cell? ⟨gb236, 0, none⟩ = some (.int .i64 a1_0) ∧ w'.cell? ⟨gb236, 1, none⟩ = some (.int .i64 a1_1) ∧ w'.cell? ⟨gb236, 2, none⟩ = some (.int .i64 a1_2)) (ds := [8]) #[false, false, false, false, false, false, false, false, false] (by kernel_rfl) rfl rfl ⟨(blk_cell BK235.out 0).trans rfl, (blk_cell BK235.out 1).trans rfl, (blk_cell BK235.out 2).trans rfl, (blk_cell BK236.out 0).trans rfl, (blk_cell BK236.out 1).trans rfl, (blk_cell BK236.out 2).trans rfl⟩ (fun hHeld => ?_); refine with_tabW hallmootref13_reads.tab6 hallmootref13_reads.bits6 (fun HT_ HW_ => ?_)
  generalize wr.drew = w25 at HO_236000 HO_236001 HO_236002 BK235 BK236 BK237 HB hHeld ⊢
  refine pure_ (i := 1) (N := some 24) (v := ?_) (a' := ?_) #[false, true, false, false, false, false, false, false, false] rfl rfl (any_of HT_.out (by kernel_rfl)) (fun _ _ _ h => h) (Or.inl ⟨by rfl, ?_⟩) ?_ ?_
  rotate_left
  {
  intro w'
  go_simp
  with_reducible rfl }
  rotate_left
  {
  simp only [Act.put, sT, s0, s1, i64_w, i32_w]
  rfl }
  refine take_ (i := 2) (N := some 25) (v := ?_) (a' := ?_) #[false, true, true, false, false, false, false, false, false] rfl rfl (take_ofW HT_.out HW_.out (by kernel_rfl)) (fun _ _ _ h => h) (Or.inl ⟨by rfl, ?_⟩) hHeld ?_ ?_
  rotate_left
  {
  rintro w' ⟨s0, s1, s2, s3, s4, s5⟩
  go_simp
  with_reducible rfl }
  rotate_left
  {
  simp only [Act.put, sT, s0, s1, i64_w, i32_w]
  rfl }
  refine take_ (i := 4) (N := some 27) (v := ?_) (a' := ?_) #[false, true, true, false, true, false, false, false, false] rfl rfl (take_ofW HT_.out HW_.out (by kernel_rfl)) (fun _ _ _ h => h) (Or.inl ⟨by rfl, ?_⟩) hHeld ?_ ?_
  rotate_left
  {
  rintro w' ⟨s0, s1, s2, s3, s4, s5⟩
  go_simp
  with_reducible rfl }
  rotate_left
  {
  simp only [Act.put, sT, s0, s1, i64_w, i32_w]
  rfl }
  refine join_ (σ := Value × Value × Value) 3 #[true, true, true, true, true, true, false, false, false] (fun s_ => [(23, s_.1), (26, s_.2.1), (28, s_.2.2)]) (fun s_ w' => (w'.cell? ⟨gb235, 0, none⟩ = some (.slice A0_0 l0_0.length c0_0) ∧ w'.cell? ⟨gb235, 1, none⟩ = some (.slice A0_1 l0_1.length c0_1) ∧ w'.cell? ⟨gb235, 2, none⟩ = some (.slice A0_2 l0_2.length c0_2) ∧ w'.cell? ⟨gb236, 0, none⟩ = some (.int .i64 a1_0) ∧ w'.cell? ⟨gb236, 1, none⟩ = some (.int .i64 a1_1) ∧ w'.cell? ⟨gb236, 2, none⟩ = some (.int .i64 a1_2)) ∧ (Kd.R k30 30 w' w.heap.size (fun k_ => (w.heap.size ≤ k_) ∧ some k_ ≠ (s_.2.2 : Value).ownBlock ∧ k_ ≠ gb236) s_.2.1 y242) ∧ (Kd.R k30 30 w' w.heap.size (fun k_ => (w.heap.size ≤ k_) ∧ some k_ ≠ (s_.2.1 : Value).ownBlock ∧ k_ ≠ gb236) s_.2.2 y245) ∧ (Kd.V k30 30 w' w.heap.size (fun k_ => ((P0_0_ k_ ∨ P0_1_ k_ ∨ P0_2_ k_) ∨ w.heap.size ≤ k_) ∧ some k_ ≠ (s_.2.1 : Value).ownBlock ∧ some k_ ≠ (s_.2.2 : Value).ownBlock ∧ k_ ≠ gb235 ∧ k_ ≠ gb236 ∧ k_ ≠ gb237) (.slice A0_0 l0_0.length c0_0) l0_0) ∧ (Kd.V k33 33 w' w.heap.size (fun k_ => ((P0_0_ k_ ∨ P0_1_ k_ ∨ P0_2_ k_) ∨ w.heap.size ≤ k_) ∧ some k_ ≠ (s_.2.1 : Value).ownBlock ∧ some k_ ≠ (s_.2.2 : Value).ownBlock ∧ k_ ≠ gb235 ∧ k_ ≠ gb236 ∧ k_ ≠ gb237) (.slice A0_1 l0_1.length c0_1) l0_1) ∧ (Kd.V k50 50 w' w.heap.size (fun k_ => ((P0_0_ k_ ∨ P0_1_ k_ ∨ P0_2_ k_) ∨ w.heap.size ≤ k_) ∧ some k_ ≠ (s_.2.1 : Value).ownBlock ∧ some k_ ≠ (s_.2.2 : Value).ownBlock ∧ k_ ≠ gb235 ∧ k_ ≠ gb236 ∧ k_ ≠ gb237) (.slice A0_2 l0_2.length c0_2) l0_2) ∧ (w'.heap[gb235]? = some (.cells #[.slice A0_0 l0_0.length c0_0, .slice A0_1 l0_1.length c0_1, .slice A0_2 l0_2.length c0_2] 62 (0, 0))) ∧ (w'.heap[gb236]? = some (.cells #[.int .i64 a1_0, .int .i64 a1_1, .int .i64 a1_2] 30 (0, 0))) ∧ (w'.heap[gb237]? = some (.cells #[.slice none 0 0, .slice none 0 0, .slice none 0 0] 62 (0, 0))) ∧ (Below w.heap.size w w')) ?_ ?_
  rotate_left
  {
  intro hCont
  refine two_ (i := 0) (j := 5) (Ni := some 23) (Nj := some 28) #[true, true, true, false, true, false, false, false, false] #[false, true, true, false, true, true, false, false, false] rfl rfl rfl rfl (two_of HT_.out (by kernel_rfl)) (by decide) (by decide) (fun K hK => ?_) (fun K hK => ?_)
  {
  skip
  refine Kd.R_lit_step k30 _ 30 ?hg (N := 23) ?hd (xs := ([] : List (S30))) (inner := []) (ok := fun _ => True) (okp := fun _ => True) ?hr ?hp (fun _ hk => hk) trivial (Below.refl _ _) (Nat.le_refl _) (by simp) ?_; (case hd => rfl); (case hg => rfl); (case hr => first | (go_simp; done) | (go_simp; rfl)); (case hp => exact (Reps.none _ _))
  intro v240 w26 ho27 hb hg_ hnew_
  clear hg_ hnew_
  (first | rw [← Ny239.out] at ho27 | (simp only [Int.reduceToNat] at ho27; rw [← Ny239.out] at ho27))
  have n0_ := aS (Kd.V_elder' (vv HO_236000.out) (Kd.R_base ho27) hb)
  have n1_ := aS (Kd.V_elder' (vv HO_236001.out) (Kd.R_base ho27) hb)
  have n2_ := aS (Kd.V_elder' (vv HO_236002.out) (Kd.R_base ho27) hb)
  have n3_ := aS (Kd.R_lower (Kd.R_newB (Kd.R_newM (M := fun k_ => (w.heap.size ≤ k_)) ho27 bz (fun k_ h_ => h_)) (g := gb236) (o := .cells #[.int .i64 a1_0, .int .i64 a1_1, .int .i64 a1_2] 30 (0, 0)) (kk BK236.out)) bz)
  have n4_ := aS (blk_below (g := gb235) (o := .cells #[.slice A0_0 l0_0.length c0_0, .slice A0_1 l0_1.length c0_1, .slice A0_2 l0_2.length c0_2] 62 (0, 0)) (kk BK235.out) hb)
  have n5_ := aS (blk_below (g := gb236) (o := .cells #[.int .i64 a1_0, .int .i64 a1_1, .int .i64 a1_2] 30 (0, 0)) (kk BK236.out) hb)
  have n6_ := aS (blk_below (g := gb237) (o := .cells #[.slice none 0 0, .slice none 0 0, .slice none 0 0] 62 (0, 0)) (kk BK237.out) hb)
  have n7_ := aS (below_step bb hb)
  clear HO_236000
  clear HO_236001
  clear HO_236002
  clear BK235
  clear BK236
  clear BK237
  clear HB
  have HO_236000 := n0_
  have HO_236001 := n1_
  have HO_236002 := n2_
  have HO241 := n3_
  have BK235 := n4_
  have BK236 := n5_
  have BK237 := n6_
  have HB := n7_
  clear n0_ n1_ n2_ n3_ n4_ n5_ n6_ n7_
  clear hb ho27
  refine hK.out _ _ ⟨(blk_cell BK235.out 0).trans rfl, (blk_cell BK235.out 1).trans rfl, (blk_cell BK235.out 2).trans rfl, (blk_cell BK236.out 0).trans rfl, (blk_cell BK236.out 1).trans rfl, (blk_cell BK236.out 2).trans rfl⟩ (fun hHeld => ?_)
  clear hK K
  refine norm_ (a' := ?_) ?_ ?_
  rotate_left
  {
  show Act.put _ (some 23) _ = _
  simp only [Act.put, sT, s0, s1, i64_w, i32_w]
  rfl }
  refine two_ (i := 3) (j := 5) (Ni := some 26) (Nj := some 28) #[true, true, true, true, true, false, false, false, false] #[true, true, true, false, true, true, false, false, false] rfl rfl rfl rfl (two_of HT_.out (by kernel_rfl)) (by decide) (by decide) (fun K hK => ?_) (fun K hK => ?_)
  {
  skip
  refine Kd.R_append_rows_step k30 (w0 := w) w.heap.size (by rfl) (.tmp 23) (.tmp 25) 23 30 (.agg #[(.int .i64 0), (.int .i64 0), (.int .i64 0)]) 24 rfl Try.underlying23 info30 rfl (by decide) (by omega) v240 y239 l0_0 _ _ _ (fun k_ => (w.heap.size ≤ k_) ∧ k_ ≠ gb236) (fun _ => False) rfl rfl ?aO ?aR (fun _ _ h => h) (fun _ h => h.elim) ?aF ?aB ?aS ?aL ?_
  (case aR => repeat (first | exact (Kd.V_reads' HO_236000.out).2.2 | (with_reducible refine Kd.C_alloc ?_ _) | (with_reducible refine Kd.C_drewN ?_ _) | (with_reducible refine Kd.C_drew ?_)))
  (case aB => exact bb)
  (case aF => exact (fun k_ hk => ⟨(Nat.le_trans bz hk), Kd.freshB (g := gb236) (o := .cells #[.int .i64 a1_0, .int .i64 a1_1, .int .i64 a1_2] 30 (0, 0)) (kk BK236.out) k_ hk⟩))
  (case aO => exact (rr (Kd.R_mono HO241.out (fun _ hk => ⟨hk.1.1, hk.2⟩))))
  (case aS => exact bz)
  (case aL => have := LMc20.out; omega)
  intro v243 w28 ho hb hg hat
  rw [← Ny242.out] at ho
  have n0_ := aS (Kd.V_afterv (ok := (fun k_ => ((P0_0_ k_ ∨ P0_1_ k_ ∨ P0_2_ k_) ∨ w.heap.size ≤ k_) ∧ k_ ≠ gb235 ∧ k_ ≠ gb236 ∧ k_ ≠ gb237)) (vv HO_236000.out) hg hat)
  have n1_ := aS (Kd.V_afterv (ok := (fun k_ => ((P0_0_ k_ ∨ P0_1_ k_ ∨ P0_2_ k_) ∨ w.heap.size ≤ k_) ∧ k_ ≠ gb235 ∧ k_ ≠ gb236 ∧ k_ ≠ gb237)) (vv HO_236001.out) hg hat)
  have n2_ := aS (Kd.V_afterv (ok := (fun k_ => ((P0_0_ k_ ∨ P0_1_ k_ ∨ P0_2_ k_) ∨ w.heap.size ≤ k_) ∧ k_ ≠ gb235 ∧ k_ ≠ gb236 ∧ k_ ≠ gb237)) (vv HO_236002.out) hg hat)
  have n3_ := aS (blk_grown (g := gb235) (o := .cells #[.slice A0_0 l0_0.length c0_0, .slice A0_1 l0_1.length c0_1, .slice A0_2 l0_2.length c0_2] 62 (0, 0)) (kk BK235.out) hg (Kd.R_ne HO241.out BK235.out (by decide)))
  have n4_ := aS (blk_grown (g := gb236) (o := .cells #[.int .i64 a1_0, .int .i64 a1_1, .int .i64 a1_2] 30 (0, 0)) (kk BK236.out) hg (Kd.R_away HO241.out (fun _ hk => hk.2)))
  have n5_ := aS (blk_grown (g := gb237) (o := .cells #[.slice none 0 0, .slice none 0 0, .slice none 0 0] 62 (0, 0)) (kk BK237.out) hg (Kd.R_ne HO241.out BK237.out (by decide)))
  have n6_ := aS (hb)
  have n7_ := aS (ho)
  clear HO_236000
  clear HO_236001
  clear HO_236002
  clear BK235
  clear BK236
  clear BK237
  clear HB
  clear HO241
  have HO_236000 := n0_
  have HO_236001 := n1_
  have HO_236002 := n2_
  have BK235 := n3_
  have BK236 := n4_
  have BK237 := n5_
  have HB := n6_
  have HO244 := n7_
  clear n0_ n1_ n2_ n3_ n4_ n5_ n6_ n7_
  clear ho hb hg hat
  refine hK.out _ _ ⟨(blk_cell BK235.out 0).trans rfl, (blk_cell BK235.out 1).trans rfl, (blk_cell BK235.out 2).trans rfl, (blk_cell BK236.out 0).trans rfl, (blk_cell BK236.out 1).trans rfl, (blk_cell BK236.out 2).trans rfl⟩ (fun hHeld => ?_)
  clear hK K
  refine norm_ (a' := ?_) ?_ ?_
  rotate_left
  {
  show Act.put _ (some 26) _ = _
  simp only [Act.put, sT, s0, s1, i64_w, i32_w]
  rfl }
  refine one_ (i := 5) (N := some 28) #[true, true, true, true, true, true, false, false, false] rfl rfl (one_of HT_.out (by kernel_rfl)) (by decide) (fun K hK => ?_)
  refine Kd.R_lit_step k30 _ 30 ?hg (N := 28) ?hd (xs := ([(⟨a1_0, a1_1, a1_2⟩ : S30)] : List (S30))) (inner := [.int .i64 a1_0, .int .i64 a1_1, .int .i64 a1_2]) (ok := fun _ => True) (okp := fun _ => True) ?hr ?hp (fun _ hk => hk) trivial (Below.refl _ _) (Nat.le_refl _) (by simp) ?_; (case hd => rfl); (case hg => rfl); (case hr => first | (go_simp; done) | (go_simp; rfl)); (case hp => exact (Reps.c3 (show Kd.M k30 _ _ _ (⟨a1_0, a1_1, a1_2⟩ : S30) [.int .i64 a1_0, .int .i64 a1_1, .int .i64 a1_2] from (k30_mkM _ _ _ (⟨a1_0, a1_1, a1_2⟩ : S30) )) (Reps.none _ _)))
  intro v246 w29 ho30 hb hg_ hnew_
  clear hg_ hnew_
  (first | rw [← Ny245.out] at ho30 | (simp only [Int.reduceToNat] at ho30; rw [← Ny245.out] at ho30))
  have n0_ := aS (Kd.V_elder' (vv HO_236000.out) (Kd.R_base ho30) hb)
  have n1_ := aS (Kd.V_elder' (vv HO_236001.out) (Kd.R_base ho30) hb)
  have n2_ := aS (Kd.V_elder' (vv HO_236002.out) (Kd.R_base ho30) hb)
  have n3_ := aS (Kd.R_elder' (rr HO244.out) (Kd.R_base ho30) hb)
  have n4_ := aS (Kd.R_lower (Kd.R_newB (Kd.R_new' (Kd.R_newM (M := fun k_ => (w.heap.size ≤ k_)) ho30 bz (fun k_ h_ => h_)) (Kd.R_lt (rr HO244.out))) (g := gb236) (o := .cells #[.int .i64 a1_0, .int .i64 a1_1, .int .i64 a1_2] 30 (0, 0)) (kk BK236.out)) bz)
  have n5_ := aS (blk_below (g := gb235) (o := .cells #[.slice A0_0 l0_0.length c0_0, .slice A0_1 l0_1.length c0_1, .slice A0_2 l0_2.length c0_2] 62 (0, 0)) (kk BK235.out) hb)
  have n6_ := aS (blk_below (g := gb236) (o := .cells #[.int .i64 a1_0, .int .i64 a1_1, .int .i64 a1_2] 30 (0, 0)) (kk BK236.out) hb)
  have n7_ := aS (blk_below (g := gb237) (o := .cells #[.slice none 0 0, .slice none 0 0, .slice none 0 0] 62 (0, 0)) (kk BK237.out) hb)
  have n8_ := aS (below_step bb hb)
  clear HO_236000
  clear HO_236001
  clear HO_236002
  clear HO244
  clear BK235
  clear BK236
  clear BK237
  clear HB
  have HO_236000 := n0_
  have HO_236001 := n1_
  have HO_236002 := n2_
  have HO244 := n3_
  have HO247 := n4_
  have BK235 := n5_
  have BK236 := n6_
  have BK237 := n7_
  have HB := n8_
  clear n0_ n1_ n2_ n3_ n4_ n5_ n6_ n7_ n8_
  clear hb ho30
  refine hK.out _ _ ⟨(blk_cell BK235.out 0).trans rfl, (blk_cell BK235.out 1).trans rfl, (blk_cell BK235.out 2).trans rfl, (blk_cell BK236.out 0).trans rfl, (blk_cell BK236.out 1).trans rfl, (blk_cell BK236.out 2).trans rfl⟩ (fun hHeld => ?_)
  clear hK K
  refine norm_ (a' := ?_) ?_ ?_
  rotate_left
  {
  show Act.put _ (some 28) _ = _
  simp only [Act.put, sT, s0, s1, i64_w, i32_w]
  rfl }
  exact norm_ (by simp only [putAll, Act.put, List.setIfInBounds_toArray, List.set_cons_zero, List.set_cons_succ]) (hCont (v240, v243, v246) _ ⟨hHeld, (rr (Kd.R_mono HO244.out (fun _ hk => ⟨hk.1.1, ⟨hk.2, hk.1.2⟩⟩))), (rr (Kd.R_mono HO247.out (fun _ hk => ⟨hk.1.1.1, ⟨hk.1.2, hk.2⟩⟩))), (vv (Kd.V_mono HO_236000.out (fun _ hk => ⟨hk.1.1.1, ⟨hk.1.2, ⟨hk.2, ⟨hk.1.1.2.1, ⟨hk.1.1.2.2.1, hk.1.1.2.2.2⟩⟩⟩⟩⟩))), (vv (Kd.V_mono HO_236001.out (fun _ hk => ⟨hk.1.1.1, ⟨hk.1.2, ⟨hk.2, ⟨hk.1.1.2.1, ⟨hk.1.1.2.2.1, hk.1.1.2.2.2⟩⟩⟩⟩⟩))), (vv (Kd.V_mono HO_236002.out (fun _ hk => ⟨hk.1.1.1, ⟨hk.1.2, ⟨hk.2, ⟨hk.1.1.2.1, ⟨hk.1.1.2.2.1, hk.1.1.2.2.2⟩⟩⟩⟩⟩))), (kk BK235.out), (kk BK236.out), (kk BK237.out), bb⟩) }
  {
  skip
  refine Kd.R_lit_step k30 _ 30 ?hg (N := 28) ?hd (xs := ([(⟨a1_0, a1_1, a1_2⟩ : S30)] : List (S30))) (inner := [.int .i64 a1_0, .int .i64 a1_1, .int .i64 a1_2]) (ok := fun _ => True) (okp := fun _ => True) ?hr ?hp (fun _ hk => hk) trivial (Below.refl _ _) (Nat.le_refl _) (by simp) ?_; (case hd => rfl); (case hg => rfl); (case hr => first | (go_simp; done) | (go_simp; rfl)); (case hp => exact (Reps.c3 (show Kd.M k30 _ _ _ (⟨a1_0, a1_1, a1_2⟩ : S30) [.int .i64 a1_0, .int .i64 a1_1, .int .i64 a1_2] from (k30_mkM _ _ _ (⟨a1_0, a1_1, a1_2⟩ : S30) )) (Reps.none _ _)))
  intro v246 w28 ho29 hb hg_ hnew_
  clear hg_ hnew_
  (first | rw [← Ny245.out] at ho29 | (simp only [Int.reduceToNat] at ho29; rw [← Ny245.out] at ho29))
  have n0_ := aS (Kd.V_elder' (vv HO_236000.out) (Kd.R_base ho29) hb)
  have n1_ := aS (Kd.V_elder' (vv HO_236001.out) (Kd.R_base ho29) hb)
  have n2_ := aS (Kd.V_elder' (vv HO_236002.out) (Kd.R_base ho29) hb)
  have n3_ := aS (Kd.R_elder' (rr HO241.out) (Kd.R_base ho29) hb)
  have n4_ := aS (Kd.R_lower (Kd.R_newB (Kd.R_new' (Kd.R_newM (M := fun k_ => (w.heap.size ≤ k_)) ho29 bz (fun k_ h_ => h_)) (Kd.R_lt (rr HO241.out))) (g := gb236) (o := .cells #[.int .i64 a1_0, .int .i64 a1_1, .int .i64 a1_2] 30 (0, 0)) (kk BK236.out)) bz)
  have n5_ := aS (blk_below (g := gb235) (o := .cells #[.slice A0_0 l0_0.length c0_0, .slice A0_1 l0_1.length c0_1, .slice A0_2 l0_2.length c0_2] 62 (0, 0)) (kk BK235.out) hb)
  have n6_ := aS (blk_below (g := gb236) (o := .cells #[.int .i64 a1_0, .int .i64 a1_1, .int .i64 a1_2] 30 (0, 0)) (kk BK236.out) hb)
  have n7_ := aS (blk_below (g := gb237) (o := .cells #[.slice none 0 0, .slice none 0 0, .slice none 0 0] 62 (0, 0)) (kk BK237.out) hb)
  have n8_ := aS (below_step bb hb)
  clear HO_236000
  clear HO_236001
  clear HO_236002
  clear HO241
  clear BK235
  clear BK236
  clear BK237
  clear HB
  have HO_236000 := n0_
  have HO_236001 := n1_
  have HO_236002 := n2_
  have HO241 := n3_
  have HO247 := n4_
  have BK235 := n5_
  have BK236 := n6_
  have BK237 := n7_
  have HB := n8_
  clear n0_ n1_ n2_ n3_ n4_ n5_ n6_ n7_ n8_
  clear hb ho29
  refine hK.out _ _ ⟨(blk_cell BK235.out 0).trans rfl, (blk_cell BK235.out 1).trans rfl, (blk_cell BK235.out 2).trans rfl, (blk_cell BK236.out 0).trans rfl, (blk_cell BK236.out 1).trans rfl, (blk_cell BK236.out 2).trans rfl⟩ (fun hHeld => ?_)
  clear hK K
  refine norm_ (a' := ?_) ?_ ?_
  rotate_left
  {
  show Act.put _ (some 28) _ = _
  simp only [Act.put, sT, s0, s1, i64_w, i32_w]
  rfl }
  refine one_ (i := 3) (N := some 26) #[true, true, true, true, true, true, false, false, false] rfl rfl (one_of HT_.out (by kernel_rfl)) (by decide) (fun K hK => ?_)
  refine Kd.R_append_rows_step k30 (w0 := w) w.heap.size (by rfl) (.tmp 23) (.tmp 25) 23 30 (.agg #[(.int .i64 0), (.int .i64 0), (.int .i64 0)]) 24 rfl Try.underlying23 info30 rfl (by decide) (by omega) v240 y239 l0_0 _ _ _ (fun k_ => (w.heap.size ≤ k_) ∧ some k_ ≠ (v246 : Value).ownBlock ∧ k_ ≠ gb236) (fun _ => False) rfl rfl ?aO ?aR (fun _ _ h => h) (fun _ h => h.elim) ?aF ?aB ?aS ?aL ?_
  (case aR => repeat (first | exact (Kd.V_reads' HO_236000.out).2.2 | (with_reducible refine Kd.C_alloc ?_ _) | (with_reducible refine Kd.C_drewN ?_ _) | (with_reducible refine Kd.C_drew ?_)))
  (case aB => exact bb)
  (case aF => exact (fun k_ hk => ⟨(Nat.le_trans bz hk), Kd.fresh' (Kd.R_lt (rr HO247.out)) k_ hk, Kd.freshB (g := gb236) (o := .cells #[.int .i64 a1_0, .int .i64 a1_1, .int .i64 a1_2] 30 (0, 0)) (kk BK236.out) k_ hk⟩))
  (case aO => exact (rr (Kd.R_mono HO241.out (fun _ hk => ⟨hk.1.1.1, ⟨hk.2, hk.1.2⟩⟩))))
  (case aS => exact bz)
  (case aL => have := LMc20.out; omega)
  intro v243 w30 ho hb hg hat
  rw [← Ny242.out] at ho
  have n0_ := aS (Kd.V_afterv (ok := (fun k_ => ((P0_0_ k_ ∨ P0_1_ k_ ∨ P0_2_ k_) ∨ w.heap.size ≤ k_) ∧ some k_ ≠ (v246 : Value).ownBlock ∧ k_ ≠ gb235 ∧ k_ ≠ gb236 ∧ k_ ≠ gb237)) (vv (Kd.V_mono HO_236000.out (fun _ hk => ⟨⟨hk.1.1.1, ⟨hk.2, ⟨hk.1.1.2.1, ⟨hk.1.1.2.2.1, hk.1.1.2.2.2⟩⟩⟩⟩, hk.1.2⟩))) hg hat)
  have n1_ := aS (Kd.V_afterv (ok := (fun k_ => ((P0_0_ k_ ∨ P0_1_ k_ ∨ P0_2_ k_) ∨ w.heap.size ≤ k_) ∧ some k_ ≠ (v246 : Value).ownBlock ∧ k_ ≠ gb235 ∧ k_ ≠ gb236 ∧ k_ ≠ gb237)) (vv (Kd.V_mono HO_236001.out (fun _ hk => ⟨⟨hk.1.1.1, ⟨hk.2, ⟨hk.1.1.2.1, ⟨hk.1.1.2.2.1, hk.1.1.2.2.2⟩⟩⟩⟩, hk.1.2⟩))) hg hat)
  have n2_ := aS (Kd.V_afterv (ok := (fun k_ => ((P0_0_ k_ ∨ P0_1_ k_ ∨ P0_2_ k_) ∨ w.heap.size ≤ k_) ∧ some k_ ≠ (v246 : Value).ownBlock ∧ k_ ≠ gb235 ∧ k_ ≠ gb236 ∧ k_ ≠ gb237)) (vv (Kd.V_mono HO_236002.out (fun _ hk => ⟨⟨hk.1.1.1, ⟨hk.2, ⟨hk.1.1.2.1, ⟨hk.1.1.2.2.1, hk.1.1.2.2.2⟩⟩⟩⟩, hk.1.2⟩))) hg hat)
  have n3_ := aS (blk_grown (g := gb235) (o := .cells #[.slice A0_0 l0_0.length c0_0, .slice A0_1 l0_1.length c0_1, .slice A0_2 l0_2.length c0_2] 62 (0, 0)) (kk BK235.out) hg (Kd.R_ne HO241.out BK235.out (by decide)))
  have n4_ := aS (blk_grown (g := gb236) (o := .cells #[.int .i64 a1_0, .int .i64 a1_1, .int .i64 a1_2] 30 (0, 0)) (kk BK236.out) hg (Kd.R_away HO241.out (fun _ hk => hk.1.2)))
  have n5_ := aS (blk_grown (g := gb237) (o := .cells #[.slice none 0 0, .slice none 0 0, .slice none 0 0] 62 (0, 0)) (kk BK237.out) hg (Kd.R_ne HO241.out BK237.out (by decide)))
  have n6_ := aS (Kd.R_after (ok := (fun k_ => (w.heap.size ≤ k_) ∧ k_ ≠ gb236)) (rr (Kd.R_mono HO247.out (fun _ hk => ⟨⟨hk.1.1.1, hk.2⟩, hk.1.2⟩))) hg hat)
  have n7_ := aS (hb)
  have n8_ := aS (ho)
  clear HO_236000
  clear HO_236001
  clear HO_236002
  clear BK235
  clear BK236
  clear BK237
  clear HO247
  clear HB
  clear HO241
  have HO_236000 := n0_
  have HO_236001 := n1_
  have HO_236002 := n2_
  have BK235 := n3_
  have BK236 := n4_
  have BK237 := n5_
  have HO247 := n6_
  have HB := n7_
  have HO244 := n8_
  clear n0_ n1_ n2_ n3_ n4_ n5_ n6_ n7_ n8_
  clear ho hb hg hat
  refine hK.out _ _ ⟨(blk_cell BK235.out 0).trans rfl, (blk_cell BK235.out 1).trans rfl, (blk_cell BK235.out 2).trans rfl, (blk_cell BK236.out 0).trans rfl, (blk_cell BK236.out 1).trans rfl, (blk_cell BK236.out 2).trans rfl⟩ (fun hHeld => ?_)
  clear hK K
  refine norm_ (a' := ?_) ?_ ?_
  rotate_left
  {
  show Act.put _ (some 26) _ = _
  simp only [Act.put, sT, s0, s1, i64_w, i32_w]
  rfl }
  exact norm_ (by simp only [putAll, Act.put, List.setIfInBounds_toArray, List.set_cons_zero, List.set_cons_succ]) (hCont (v240, v243, v246) _ ⟨hHeld, (rr HO244.out), (rr (Kd.R_mono HO247.out (fun _ hk => ⟨hk.1.1, ⟨hk.2, hk.1.2⟩⟩))), (vv (Kd.V_mono HO_236000.out (fun _ hk => ⟨hk.1.1, ⟨hk.2, ⟨hk.1.2.1, ⟨hk.1.2.2.1, ⟨hk.1.2.2.2.1, hk.1.2.2.2.2⟩⟩⟩⟩⟩))), (vv (Kd.V_mono HO_236001.out (fun _ hk => ⟨hk.1.1, ⟨hk.2, ⟨hk.1.2.1, ⟨hk.1.2.2.1, ⟨hk.1.2.2.2.1, hk.1.2.2.2.2⟩⟩⟩⟩⟩))), (vv (Kd.V_mono HO_236002.out (fun _ hk => ⟨hk.1.1, ⟨hk.2, ⟨hk.1.2.1, ⟨hk.1.2.2.1, ⟨hk.1.2.2.2.1, hk.1.2.2.2.2⟩⟩⟩⟩⟩))), (kk BK235.out), (kk BK236.out), (kk BK237.out), bb⟩) } }
  {
  skip
  refine Kd.R_lit_step k30 _ 30 ?hg (N := 28) ?hd (xs := ([(⟨a1_0, a1_1, a1_2⟩ : S30)] : List (S30))) (inner := [.int .i64 a1_0, .int .i64 a1_1, .int .i64 a1_2]) (ok := fun _ => True) (okp := fun _ => True) ?hr ?hp (fun _ hk => hk) trivial (Below.refl _ _) (Nat.le_refl _) (by simp) ?_; (case hd => rfl); (case hg => rfl); (case hr => first | (go_simp; done) | (go_simp; rfl)); (case hp => exact (Reps.c3 (show Kd.M k30 _ _ _ (⟨a1_0, a1_1, a1_2⟩ : S30) [.int .i64 a1_0, .int .i64 a1_1, .int .i64 a1_2] from (k30_mkM _ _ _ (⟨a1_0, a1_1, a1_2⟩ : S30) )) (Reps.none _ _)))
  intro v246 w26 ho27 hb hg_ hnew_
  clear hg_ hnew_
  (first | rw [← Ny245.out] at ho27 | (simp only [Int.reduceToNat] at ho27; rw [← Ny245.out] at ho27))
  have n0_ := aS (Kd.V_elder' (vv HO_236000.out) (Kd.R_base ho27) hb)
  have n1_ := aS (Kd.V_elder' (vv HO_236001.out) (Kd.R_base ho27) hb)
  have n2_ := aS (Kd.V_elder' (vv HO_236002.out) (Kd.R_base ho27) hb)
  have n3_ := aS (Kd.R_lower (Kd.R_newB (Kd.R_newM (M := fun k_ => (w.heap.size ≤ k_)) ho27 bz (fun k_ h_ => h_)) (g := gb236) (o := .cells #[.int .i64 a1_0, .int .i64 a1_1, .int .i64 a1_2] 30 (0, 0)) (kk BK236.out)) bz)
  have n4_ := aS (blk_below (g := gb235) (o := .cells #[.slice A0_0 l0_0.length c0_0, .slice A0_1 l0_1.length c0_1, .slice A0_2 l0_2.length c0_2] 62 (0, 0)) (kk BK235.out) hb)
  have n5_ := aS (blk_below (g := gb236) (o := .cells #[.int .i64 a1_0, .int .i64 a1_1, .int .i64 a1_2] 30 (0, 0)) (kk BK236.out) hb)
  have n6_ := aS (blk_below (g := gb237) (o := .cells #[.slice none 0 0, .slice none 0 0, .slice none 0 0] 62 (0, 0)) (kk BK237.out) hb)
  have n7_ := aS (below_step bb hb)
  clear HO_236000
  clear HO_236001
  clear HO_236002
  clear BK235
  clear BK236
  clear BK237
  clear HB
  have HO_236000 := n0_
  have HO_236001 := n1_
  have HO_236002 := n2_
  have HO247 := n3_
  have BK235 := n4_
  have BK236 := n5_
  have BK237 := n6_
  have HB := n7_
  clear n0_ n1_ n2_ n3_ n4_ n5_ n6_ n7_
  clear hb ho27
  refine hK.out _ _ ⟨(blk_cell BK235.out 0).trans rfl, (blk_cell BK235.out 1).trans rfl, (blk_cell BK235.out 2).trans rfl, (blk_cell BK236.out 0).trans rfl, (blk_cell BK236.out 1).trans rfl, (blk_cell BK236.out 2).trans rfl⟩ (fun hHeld => ?_)
  clear hK K
  refine norm_ (a' := ?_) ?_ ?_
  rotate_left
  {
  show Act.put _ (some 28) _ = _
  simp only [Act.put, sT, s0, s1, i64_w, i32_w]
  rfl }
  refine one_ (i := 0) (N := some 23) #[true, true, true, false, true, true, false, false, false] rfl rfl (one_of HT_.out (by kernel_rfl)) (by decide) (fun K hK => ?_)
  refine Kd.R_lit_step k30 _ 30 ?hg (N := 23) ?hd (xs := ([] : List (S30))) (inner := []) (ok := fun _ => True) (okp := fun _ => True) ?hr ?hp (fun _ hk => hk) trivial (Below.refl _ _) (Nat.le_refl _) (by simp) ?_; (case hd => rfl); (case hg => rfl); (case hr => first | (go_simp; done) | (go_simp; rfl)); (case hp => exact (Reps.none _ _))
  intro v240 w28 ho29 hb hg_ hnew_
  clear hg_ hnew_
  (first | rw [← Ny239.out] at ho29 | (simp only [Int.reduceToNat] at ho29; rw [← Ny239.out] at ho29))
  have n0_ := aS (Kd.V_elder' (vv HO_236000.out) (Kd.R_base ho29) hb)
  have n1_ := aS (Kd.V_elder' (vv HO_236001.out) (Kd.R_base ho29) hb)
  have n2_ := aS (Kd.V_elder' (vv HO_236002.out) (Kd.R_base ho29) hb)
  have n3_ := aS (Kd.R_elder' (rr HO247.out) (Kd.R_base ho29) hb)
  have n4_ := aS (Kd.R_lower (Kd.R_newB (Kd.R_new' (Kd.R_newM (M := fun k_ => (w.heap.size ≤ k_)) ho29 bz (fun k_ h_ => h_)) (Kd.R_lt (rr HO247.out))) (g := gb236) (o := .cells #[.int .i64 a1_0, .int .i64 a1_1, .int .i64 a1_2] 30 (0, 0)) (kk BK236.out)) bz)
  have n5_ := aS (blk_below (g := gb235) (o := .cells #[.slice A0_0 l0_0.length c0_0, .slice A0_1 l0_1.length c0_1, .slice A0_2 l0_2.length c0_2] 62 (0, 0)) (kk BK235.out) hb)
  have n6_ := aS (blk_below (g := gb236) (o := .cells #[.int .i64 a1_0, .int .i64 a1_1, .int .i64 a1_2] 30 (0, 0)) (kk BK236.out) hb)
  have n7_ := aS (blk_below (g := gb237) (o := .cells #[.slice none 0 0, .slice none 0 0, .slice none 0 0] 62 (0, 0)) (kk BK237.out) hb)
  have n8_ := aS (below_step bb hb)
  clear HO_236000
  clear HO_236001
  clear HO_236002
  clear HO247
  clear BK235
  clear BK236
  clear BK237
  clear HB
  have HO_236000 := n0_
  have HO_236001 := n1_
  have HO_236002 := n2_
  have HO247 := n3_
  have HO241 := n4_
  have BK235 := n5_
  have BK236 := n6_
  have BK237 := n7_
  have HB := n8_
  clear n0_ n1_ n2_ n3_ n4_ n5_ n6_ n7_ n8_
  clear hb ho29
  refine hK.out _ _ ⟨(blk_cell BK235.out 0).trans rfl, (blk_cell BK235.out 1).trans rfl, (blk_cell BK235.out 2).trans rfl, (blk_cell BK236.out 0).trans rfl, (blk_cell BK236.out 1).trans rfl, (blk_cell BK236.out 2).trans rfl⟩ (fun hHeld => ?_)
  clear hK K
  refine norm_ (a' := ?_) ?_ ?_
  rotate_left
  {
  show Act.put _ (some 23) _ = _
  simp only [Act.put, sT, s0, s1, i64_w, i32_w]
  rfl }
  refine one_ (i := 3) (N := some 26) #[true, true, true, true, true, true, false, false, false] rfl rfl (one_of HT_.out (by kernel_rfl)) (by decide) (fun K hK => ?_)
  refine Kd.R_append_rows_step k30 (w0 := w) w.heap.size (by rfl) (.tmp 23) (.tmp 25) 23 30 (.agg #[(.int .i64 0), (.int .i64 0), (.int .i64 0)]) 24 rfl Try.underlying23 info30 rfl (by decide) (by omega) v240 y239 l0_0 _ _ _ (fun k_ => (w.heap.size ≤ k_) ∧ some k_ ≠ (v246 : Value).ownBlock ∧ k_ ≠ gb236) (fun _ => False) rfl rfl ?aO ?aR (fun _ _ h => h) (fun _ h => h.elim) ?aF ?aB ?aS ?aL ?_
  (case aR => repeat (first | exact (Kd.V_reads' HO_236000.out).2.2 | (with_reducible refine Kd.C_alloc ?_ _) | (with_reducible refine Kd.C_drewN ?_ _) | (with_reducible refine Kd.C_drew ?_)))
  (case aB => exact bb)
  (case aF => exact (fun k_ hk => ⟨(Nat.le_trans bz hk), Kd.fresh' (Kd.R_lt (rr HO247.out)) k_ hk, Kd.freshB (g := gb236) (o := .cells #[.int .i64 a1_0, .int .i64 a1_1, .int .i64 a1_2] 30 (0, 0)) (kk BK236.out) k_ hk⟩))
  (case aO => exact (rr (Kd.R_mono HO241.out (fun _ hk => ⟨hk.1.1.1, ⟨hk.1.2, hk.2⟩⟩))))
  (case aS => exact bz)
  (case aL => have := LMc20.out; omega)
  intro v243 w30 ho hb hg hat
  rw [← Ny242.out] at ho
  have n0_ := aS (Kd.V_afterv (ok := (fun k_ => ((P0_0_ k_ ∨ P0_1_ k_ ∨ P0_2_ k_) ∨ w.heap.size ≤ k_) ∧ some k_ ≠ (v246 : Value).ownBlock ∧ k_ ≠ gb235 ∧ k_ ≠ gb236 ∧ k_ ≠ gb237)) (vv (Kd.V_mono HO_236000.out (fun _ hk => ⟨⟨hk.1.1.1, ⟨hk.1.2, ⟨hk.1.1.2.1, ⟨hk.1.1.2.2.1, hk.1.1.2.2.2⟩⟩⟩⟩, hk.2⟩))) hg hat)
  have n1_ := aS (Kd.V_afterv (ok := (fun k_ => ((P0_0_ k_ ∨ P0_1_ k_ ∨ P0_2_ k_) ∨ w.heap.size ≤ k_) ∧ some k_ ≠ (v246 : Value).ownBlock ∧ k_ ≠ gb235 ∧ k_ ≠ gb236 ∧ k_ ≠ gb237)) (vv (Kd.V_mono HO_236001.out (fun _ hk => ⟨⟨hk.1.1.1, ⟨hk.1.2, ⟨hk.1.1.2.1, ⟨hk.1.1.2.2.1, hk.1.1.2.2.2⟩⟩⟩⟩, hk.2⟩))) hg hat)
  have n2_ := aS (Kd.V_afterv (ok := (fun k_ => ((P0_0_ k_ ∨ P0_1_ k_ ∨ P0_2_ k_) ∨ w.heap.size ≤ k_) ∧ some k_ ≠ (v246 : Value).ownBlock ∧ k_ ≠ gb235 ∧ k_ ≠ gb236 ∧ k_ ≠ gb237)) (vv (Kd.V_mono HO_236002.out (fun _ hk => ⟨⟨hk.1.1.1, ⟨hk.1.2, ⟨hk.1.1.2.1, ⟨hk.1.1.2.2.1, hk.1.1.2.2.2⟩⟩⟩⟩, hk.2⟩))) hg hat)
  have n3_ := aS (blk_grown (g := gb235) (o := .cells #[.slice A0_0 l0_0.length c0_0, .slice A0_1 l0_1.length c0_1, .slice A0_2 l0_2.length c0_2] 62 (0, 0)) (kk BK235.out) hg (Kd.R_ne HO241.out BK235.out (by decide)))
  have n4_ := aS (blk_grown (g := gb236) (o := .cells #[.int .i64 a1_0, .int .i64 a1_1, .int .i64 a1_2] 30 (0, 0)) (kk BK236.out) hg (Kd.R_away HO241.out (fun _ hk => hk.2)))
  have n5_ := aS (blk_grown (g := gb237) (o := .cells #[.slice none 0 0, .slice none 0 0, .slice none 0 0] 62 (0, 0)) (kk BK237.out) hg (Kd.R_ne HO241.out BK237.out (by decide)))
  have n6_ := aS (Kd.R_after (ok := (fun k_ => (w.heap.size ≤ k_) ∧ k_ ≠ gb236)) (rr (Kd.R_mono HO247.out (fun _ hk => ⟨⟨hk.1.1.1, hk.1.2⟩, hk.2⟩))) hg hat)
  have n7_ := aS (hb)
  have n8_ := aS (ho)
  clear HO_236000
  clear HO_236001
  clear HO_236002
  clear BK235
  clear BK236
  clear BK237
  clear HO247
  clear HB
  clear HO241
  have HO_236000 := n0_
  have HO_236001 := n1_
  have HO_236002 := n2_
  have BK235 := n3_
  have BK236 := n4_
  have BK237 := n5_
  have HO247 := n6_
  have HB := n7_
  have HO244 := n8_
  clear n0_ n1_ n2_ n3_ n4_ n5_ n6_ n7_ n8_
  clear ho hb hg hat
  refine hK.out _ _ ⟨(blk_cell BK235.out 0).trans rfl, (blk_cell BK235.out 1).trans rfl, (blk_cell BK235.out 2).trans rfl, (blk_cell BK236.out 0).trans rfl, (blk_cell BK236.out 1).trans rfl, (blk_cell BK236.out 2).trans rfl⟩ (fun hHeld => ?_)
  clear hK K
  refine norm_ (a' := ?_) ?_ ?_
  rotate_left
  {
  show Act.put _ (some 26) _ = _
  simp only [Act.put, sT, s0, s1, i64_w, i32_w]
  rfl }
  exact norm_ (by simp only [putAll, Act.put, List.setIfInBounds_toArray, List.set_cons_zero, List.set_cons_succ]) (hCont (v240, v243, v246) _ ⟨hHeld, (rr HO244.out), (rr (Kd.R_mono HO247.out (fun _ hk => ⟨hk.1.1, ⟨hk.2, hk.1.2⟩⟩))), (vv (Kd.V_mono HO_236000.out (fun _ hk => ⟨hk.1.1, ⟨hk.2, ⟨hk.1.2.1, ⟨hk.1.2.2.1, ⟨hk.1.2.2.2.1, hk.1.2.2.2.2⟩⟩⟩⟩⟩))), (vv (Kd.V_mono HO_236001.out (fun _ hk => ⟨hk.1.1, ⟨hk.2, ⟨hk.1.2.1, ⟨hk.1.2.2.1, ⟨hk.1.2.2.2.1, hk.1.2.2.2.2⟩⟩⟩⟩⟩))), (vv (Kd.V_mono HO_236002.out (fun _ hk => ⟨hk.1.1, ⟨hk.2, ⟨hk.1.2.1, ⟨hk.1.2.2.1, ⟨hk.1.2.2.2.1, hk.1.2.2.2.2⟩⟩⟩⟩⟩))), (kk BK235.out), (kk BK236.out), (kk BK237.out), bb⟩) } }
  rintro ⟨v240, v243, v246⟩ w31 ⟨hS_, h0_, h1_, h2_, h3_, h4_, h5_, h6_, h7_, h8_⟩
  have n0_ : Aside0 (Kd.R k30 30 w31 w.heap.size (fun k_ => (w.heap.size ≤ k_) ∧ some k_ ≠ (v246 : Value).ownBlock ∧ k_ ≠ gb236) v243 y242) := ⟨h0_⟩
  have n1_ : Aside0 (Kd.R k30 30 w31 w.heap.size (fun k_ => (w.heap.size ≤ k_) ∧ some k_ ≠ (v243 : Value).ownBlock ∧ k_ ≠ gb236) v246 y245) := ⟨h1_⟩
  have n2_ : Aside0 (Kd.V k30 30 w31 w.heap.size (fun k_ => ((P0_0_ k_ ∨ P0_1_ k_ ∨ P0_2_ k_) ∨ w.heap.size ≤ k_) ∧ some k_ ≠ (v243 : Value).ownBlock ∧ some k_ ≠ (v246 : Value).ownBlock ∧ k_ ≠ gb235 ∧ k_ ≠ gb236 ∧ k_ ≠ gb237) (.slice A0_0 l0_0.length c0_0) l0_0) := ⟨h2_⟩
  have n3_ : Aside0 (Kd.V k33 33 w31 w.heap.size (fun k_ => ((P0_0_ k_ ∨ P0_1_ k_ ∨ P0_2_ k_) ∨ w.heap.size ≤ k_) ∧ some k_ ≠ (v243 : Value).ownBlock ∧ some k_ ≠ (v246 : Value).ownBlock ∧ k_ ≠ gb235 ∧ k_ ≠ gb236 ∧ k_ ≠ gb237) (.slice A0_1 l0_1.length c0_1) l0_1) := ⟨h3_⟩
  have n4_ : Aside0 (Kd.V k50 50 w31 w.heap.size (fun k_ => ((P0_0_ k_ ∨ P0_1_ k_ ∨ P0_2_ k_) ∨ w.heap.size ≤ k_) ∧ some k_ ≠ (v243 : Value).ownBlock ∧ some k_ ≠ (v246 : Value).ownBlock ∧ k_ ≠ gb235 ∧ k_ ≠ gb236 ∧ k_ ≠ gb237) (.slice A0_2 l0_2.length c0_2) l0_2) := ⟨h4_⟩
  have n5_ : Aside0 (w31.heap[gb235]? = some (.cells #[.slice A0_0 l0_0.length c0_0, .slice A0_1 l0_1.length c0_1, .slice A0_2 l0_2.length c0_2] 62 (0, 0))) := ⟨h5_⟩
  have n6_ : Aside0 (w31.heap[gb236]? = some (.cells #[.int .i64 a1_0, .int .i64 a1_1, .int .i64 a1_2] 30 (0, 0))) := ⟨h6_⟩
  have n7_ : Aside0 (w31.heap[gb237]? = some (.cells #[.slice none 0 0, .slice none 0 0, .slice none 0 0] 62 (0, 0))) := ⟨h7_⟩
  have n8_ : Aside0 (Below w.heap.size w w31) := ⟨h8_⟩
  clear HO_236000
  clear HO_236001
  clear HO_236002
  clear BK235
  clear BK236
  clear BK237
  clear HB
  clear h0_ h1_ h2_ h3_ h4_ h5_ h6_ h7_ h8_
  have HO244 := n0_
  have HO247 := n1_
  have HO_236000 := n2_
  have HO_236001 := n3_
  have HO_236002 := n4_
  have BK235 := n5_
  have BK236 := n6_
  have BK237 := n7_
  have HB := n8_
  clear n0_ n1_ n2_ n3_ n4_ n5_ n6_ n7_ n8_
  have hHeld : w31.cell? ⟨gb235, 0, none⟩ = some (.slice A0_0 l0_0.length c0_0) ∧ w31.cell? ⟨gb235, 1, none⟩ = some (.slice A0_1 l0_1.length c0_1) ∧ w31.cell? ⟨gb235, 2, none⟩ = some (.slice A0_2 l0_2.length c0_2) ∧ w31.cell? ⟨gb236, 0, none⟩ = some (.int .i64 a1_0) ∧ w31.cell? ⟨gb236, 1, none⟩ = some (.int .i64 a1_1) ∧ w31.cell? ⟨gb236, 2, none⟩ = some (.int .i64 a1_2) := hS_
  obtain ⟨Ao33, co33, eo33⟩ := Kd.R_slice HO247.out
  (first | subst eo33 | (injection eo33 with f1_ f2_ f3_; have f4_ := f1_.symm; have f5_ := f3_.symm; clear f1_ f2_ f3_; subst f4_; subst f5_))
  refine norm_ (a' := ?_) ?_ ?_
  rotate_left
  {
  simp only [putAll, Act.put, List.setIfInBounds_toArray, List.set_cons_zero, List.set_cons_succ]
  rfl }
  refine one_ (i := 6) (N := some 29) #[true, true, true, true, true, true, true, false, false] rfl rfl (one_of HT_.out (by kernel_rfl)) (by decide) (fun K hK => ?_)
  refine Kd.R_append_rows_step k30 (w0 := w) w.heap.size (by rfl) (.tmp 26) (.tmp 28) 23 30 (.agg #[(.int .i64 0), (.int .i64 0), (.int .i64 0)]) 24 rfl Try.underlying23 info30 rfl (by decide) (by omega) v243 y242 y245 _ _ _ (fun k_ => (w.heap.size ≤ k_) ∧ some k_ ≠ (.slice Ao33 y245.length co33 : Value).ownBlock ∧ k_ ≠ gb236) (fun _ => False) rfl rfl ?aO ?aR (fun _ _ h => h) (fun _ h => h.elim) ?aF ?aB ?aS ?aL ?_
  (case aR => repeat (first | exact (Kd.R_reads' HO247.out).2.2 | (with_reducible refine Kd.C_alloc ?_ _) | (with_reducible refine Kd.C_drewN ?_ _) | (with_reducible refine Kd.C_drew ?_)))
  (case aB => exact bb)
  (case aF => exact (fun k_ hk => ⟨(Nat.le_trans bz hk), Kd.fresh' (Kd.R_lt (rr HO247.out)) k_ hk, Kd.freshB (g := gb236) (o := .cells #[.int .i64 a1_0, .int .i64 a1_1, .int .i64 a1_2] 30 (0, 0)) (kk BK236.out) k_ hk⟩))
  (case aO => exact (rr HO244.out))
  (case aS => exact bz)
  (case aL => have := LMc21.out; omega)
  intro v249 w32 ho hb hg hat
  rw [← Ny248.out] at ho
  have n0_ := aS (Kd.V_afterv (ok := (fun k_ => ((P0_0_ k_ ∨ P0_1_ k_ ∨ P0_2_ k_) ∨ w.heap.size ≤ k_) ∧ some k_ ≠ (.slice Ao33 y245.length co33 : Value).ownBlock ∧ k_ ≠ gb235 ∧ k_ ≠ gb236 ∧ k_ ≠ gb237)) (vv (Kd.V_mono HO_236000.out (fun _ hk => ⟨⟨hk.1, ⟨hk.2.2.1, ⟨hk.2.2.2.1, ⟨hk.2.2.2.2.1, hk.2.2.2.2.2⟩⟩⟩⟩, hk.2.1⟩))) hg hat)
  have n1_ := aS (Kd.V_afterv (ok := (fun k_ => ((P0_0_ k_ ∨ P0_1_ k_ ∨ P0_2_ k_) ∨ w.heap.size ≤ k_) ∧ some k_ ≠ (.slice Ao33 y245.length co33 : Value).ownBlock ∧ k_ ≠ gb235 ∧ k_ ≠ gb236 ∧ k_ ≠ gb237)) (vv (Kd.V_mono HO_236001.out (fun _ hk => ⟨⟨hk.1, ⟨hk.2.2.1, ⟨hk.2.2.2.1, ⟨hk.2.2.2.2.1, hk.2.2.2.2.2⟩⟩⟩⟩, hk.2.1⟩))) hg hat)
  have n2_ := aS (Kd.V_afterv (ok := (fun k_ => ((P0_0_ k_ ∨ P0_1_ k_ ∨ P0_2_ k_) ∨ w.heap.size ≤ k_) ∧ some k_ ≠ (.slice Ao33 y245.length co33 : Value).ownBlock ∧ k_ ≠ gb235 ∧ k_ ≠ gb236 ∧ k_ ≠ gb237)) (vv (Kd.V_mono HO_236002.out (fun _ hk => ⟨⟨hk.1, ⟨hk.2.2.1, ⟨hk.2.2.2.1, ⟨hk.2.2.2.2.1, hk.2.2.2.2.2⟩⟩⟩⟩, hk.2.1⟩))) hg hat)
  have n3_ := aS (blk_grown (g := gb235) (o := .cells #[.slice A0_0 l0_0.length c0_0, .slice A0_1 l0_1.length c0_1, .slice A0_2 l0_2.length c0_2] 62 (0, 0)) (kk BK235.out) hg (Kd.R_ne HO244.out BK235.out (by decide)))
  have n4_ := aS (blk_grown (g := gb236) (o := .cells #[.int .i64 a1_0, .int .i64 a1_1, .int .i64 a1_2] 30 (0, 0)) (kk BK236.out) hg (Kd.R_away HO244.out (fun _ hk => hk.2.2)))
  have n5_ := aS (blk_grown (g := gb237) (o := .cells #[.slice none 0 0, .slice none 0 0, .slice none 0 0] 62 (0, 0)) (kk BK237.out) hg (Kd.R_ne HO244.out BK237.out (by decide)))
  have n6_ := aS (Kd.R_after (ok := (fun k_ => (w.heap.size ≤ k_) ∧ k_ ≠ gb236)) (rr (Kd.R_mono HO247.out (fun _ hk => ⟨⟨hk.1, hk.2.2⟩, hk.2.1⟩))) hg hat)
  have n7_ := aS (hb)
  have n8_ := aS (ho)
  clear HO_236000
  clear HO_236001
  clear HO_236002
  clear BK235
  clear BK236
  clear BK237
  clear HO247
  clear HB
  clear HO244
  have HO_236000 := n0_
  have HO_236001 := n1_
  have HO_236002 := n2_
  have BK235 := n3_
  have BK236 := n4_
  have BK237 := n5_
  have HO247 := n6_
  have HB := n7_
  have HO250 := n8_
  clear n0_ n1_ n2_ n3_ n4_ n5_ n6_ n7_ n8_
  clear ho hb hg hat
  obtain ⟨Ao34, co34, eo34⟩ := Kd.R_slice HO250.out
  (first | subst eo34 | (injection eo34 with f1_ f2_ f3_; have f4_ := f1_.symm; have f5_ := f3_.symm; clear f1_ f2_ f3_; subst f4_; subst f5_))
  refine hK.out _ _ ⟨(blk_cell BK235.out 0).trans rfl, (blk_cell BK235.out 1).trans rfl, (blk_cell BK235.out 2).trans rfl, (blk_cell BK236.out 0).trans rfl, (blk_cell BK236.out 1).trans rfl, (blk_cell BK236.out 2).trans rfl⟩ (fun hHeld => ?_)
  clear hK K
  refine norm_ (a' := ?_) ?_ ?_
  rotate_left
  {
  show Act.put _ (some 29) _ = _
  simp only [Act.put, sT, s0, s1, i64_w, i32_w]
  rfl }
  refine pure_ (i := 7) (N := some 30) (v := ?_) (a' := ?_) #[true, true, true, true, true, true, true, true, false] rfl rfl (any_of HT_.out (by kernel_rfl)) (fun _ _ _ h => h) (Or.inl ⟨by rfl, ?_⟩) ?_ ?_
  rotate_left
  {
  intro w'
  go_simp
  with_reducible rfl }
  rotate_left
  {
  simp only [Act.put, sT, s0, s1, i64_w, i32_w]
  rfl }
  refine last_ (i := 8) (N := none) #[true, true, true, true, true, true, true, true, true] rfl rfl (one_of HT_.out (by kernel_rfl)) (by decide) (fun K hK => ?_)
  have hs35 : w32.cell? ⟨gb235, 0, none⟩ = some (.slice A0_0 l0_0.length c0_0) := (blk_cell BK235.out 0).trans rfl
  have hfs35 := blk_frozen BK235.out 0
  have hns35_1 := NB236_235.out
  have hns35_2 := NB237_235.out
  have hms35_1 := NB235_236.out
  have hms35_2 := NB235_237.out
  refine skip_ (w1 := ?_) (by rfl) rfl ?_ ?_
  rotate_left
  {
  go_simp
  rfl }
  refine hK.out _ _ ?_
  clear hK K
  refine done_ (done_of HT_.out (by kernel_rfl)) ?_
  have hcz36_0 : w32.cell? ⟨gb235, 0, none⟩ = some (.slice A0_0 l0_0.length c0_0) := (blk_cell BK235.out 0).trans rfl
  have hcz36_1 : w32.cell? ⟨gb235, 1, none⟩ = some (.slice A0_1 l0_1.length c0_1) := (blk_cell BK235.out 1).trans rfl
  have hcz36_2 : w32.cell? ⟨gb235, 2, none⟩ = some (.slice A0_2 l0_2.length c0_2) := (blk_cell BK235.out 2).trans rfl
  have hfz36_0 := blk_frozen BK235.out 0
  have hfz36_1 := blk_frozen BK235.out 1
  have hfz36_2 := blk_frozen BK235.out 2
  have hnb37 := NB237_236.out
  have hnc37 := NB236_237.out
  have hcz38_0 : w32.cell? ⟨gb237, 0, none⟩ = some (.slice none 0 0) := (blk_cell BK237.out 0).trans rfl
  have hcz38_1 : w32.cell? ⟨gb237, 1, none⟩ = some (.slice none 0 0) := (blk_cell BK237.out 1).trans rfl
  have hcz38_2 : w32.cell? ⟨gb237, 2, none⟩ = some (.slice none 0 0) := (blk_cell BK237.out 2).trans rfl
  have hfz38_0 := blk_frozen BK237.out 0
  have hfz38_1 := blk_frozen BK237.out 1
  have hfz38_2 := blk_frozen BK237.out 2
  try go_wp2
  refine bodyPost_ret (results_cell_row rfl _ _ gb237 62 #[.slice Ao34 y248.length co34, .slice A0_1 l0_1.length c0_1, .slice A0_2 l0_2.length c0_2] (0, 0) _ rfl (by (with_reducible repeat (first | refine blk_drewN ?_ _ | refine blk_drew ?_ | refine blk_alloc ?_ _)); refine blk_put (cs := #[.slice Ao34 y248.length co34, .slice A0_1 l0_1.length c0_1, .slice none 0 0]) ?_ 2 _ rfl; (with_reducible repeat (first | refine blk_drewN ?_ _ | refine blk_drew ?_ | refine blk_alloc ?_ _)); refine blk_put (cs := #[.slice Ao34 y248.length co34, .slice none 0 0, .slice none 0 0]) ?_ 1 _ rfl; (with_reducible repeat (first | refine blk_drewN ?_ _ | refine blk_drew ?_ | refine blk_alloc ?_ _)); refine blk_put (cs := #[.slice none 0 0, .slice none 0 0, .slice none 0 0]) ?_ 0 _ rfl; (with_reducible repeat (first | refine blk_drewN ?_ _ | refine blk_drew ?_ | refine blk_alloc ?_ _)); refine blk_far ?_ NB237_235.out _; (with_reducible repeat (first | refine blk_drewN ?_ _ | refine blk_drew ?_ | refine blk_alloc ?_ _)); exact BK237.out) Try.underlying62 rfl (by kernel_rfl)) rfl ?_
  exact ⟨_, _, _, by first | rfl | (simp [errW_none, errW_some] <;> rfl) | (simp [*, errW_none, errW_some] <;> rfl), Kd.V_mono (Kd.R_V (rr (Kd.R_mono (Kd.R_far (p := ⟨gb237, 2, none⟩) (Kd.R_far (p := ⟨gb237, 1, none⟩) (Kd.R_far (p := ⟨gb237, 0, none⟩) (Kd.R_far (p := ⟨gb235, 0, none⟩) (Kd.R_types (Kd.R_types HO250.out BK235.out (by decide)) BK237.out (by decide)) (fun _ hk => hk.1.2) (.slice Ao34 y248.length co34)) (fun _ hk => hk.2) (.slice Ao34 y248.length co34)) (fun _ hk => hk.2) (.slice A0_1 l0_1.length c0_1)) (fun _ hk => hk.2) (.slice A0_2 l0_2.length c0_2)) (fun _ hk => hk.1.1.1)))) (fun k_ hk => by first | exact ⟨(.inr (hk.1)), hk.2⟩ | exact (.inr (hk))), by (with_reducible repeat (first | apply Kd.V_alloc | apply Kd.V_drewN | apply Kd.V_drew)); exact Kd.V_mono (Kd.V_far (p := ⟨gb237, 2, none⟩) (Kd.V_far (p := ⟨gb237, 1, none⟩) (Kd.V_far (p := ⟨gb237, 0, none⟩) (Kd.V_far (p := ⟨gb235, 0, none⟩) (Kd.V_mono (Kd.V_mono HO_236001.out (fun k_ hk => (⟨hk, hk.1.2.2.1⟩ : _ ∧ k_ ≠ gb235))) (fun k_ hk => (⟨hk, hk.1.1.2.2.2.2⟩ : _ ∧ k_ ≠ gb237))) (fun _ hk => hk.1.2) (.slice Ao34 y248.length co34)) (fun _ hk => hk.2) (.slice Ao34 y248.length co34)) (fun _ hk => hk.2) (.slice A0_1 l0_1.length c0_1)) (fun _ hk => hk.2) (.slice A0_2 l0_2.length c0_2)) (fun _ hk => hk.1.1.1.1), by (with_reducible repeat (first | apply Kd.V_alloc | apply Kd.V_drewN | apply Kd.V_drew)); exact Kd.V_mono (Kd.V_far (p := ⟨gb237, 2, none⟩) (Kd.V_far (p := ⟨gb237, 1, none⟩) (Kd.V_far (p := ⟨gb237, 0, none⟩) (Kd.V_far (p := ⟨gb235, 0, none⟩) (Kd.V_mono (Kd.V_mono HO_236002.out (fun k_ hk => (⟨hk, hk.1.2.2.1⟩ : _ ∧ k_ ≠ gb235))) (fun k_ hk => (⟨hk, hk.1.1.2.2.2.2⟩ : _ ∧ k_ ≠ gb237))) (fun _ hk => hk.1.2) (.slice Ao34 y248.length co34)) (fun _ hk => hk.2) (.slice Ao34 y248.length co34)) (fun _ hk => hk.2) (.slice A0_1 l0_1.length c0_1)) (fun _ hk => hk.2) (.slice A0_2 l0_2.length c0_2)) (fun _ hk => hk.1.1.1.1), by repeat (first | (with_reducible first | exact HB.out | apply below_alloc | apply pw_below_drewN | apply below_drew1 | refine below_set ?_ GE235.out | refine below_set ?_ GE236.out | refine below_set ?_ GE237.out) | exact HB.out)⟩ }
  {
  rw [if_neg c21] at H
  exact absurd H (by simp) } }
  {
  rw [if_neg c20] at H
  exact absurd H (by simp) } } }

end Go.Proofs.Ytfojpobblebigaa.P
