-- Written by pp.py (this session's program over the kit's printer): functions, contracts. Not trusted: Lean checks it.
import Derived.Test.YtfojpobblebigaaYM0
import Derived.Test.YtfojpobblebigaaPx16
import Derived.Test.YtfojpobblebigaaPx18
namespace Go.Proofs.Ytfojpobblebigaa.P
open Go.RowKit Go.Proofs.YtfojpobblebigaaW.PrintWords Go.Proofs.YtfojpobblebigaaW.PrintLast Go.Proofs.YtfojpobblebigaaW.PrintMore
attribute [local go_sem] max2_int min2_int max_two min_two max_three min_three max_four min_four   -- for this text's walks alone
set_option linter.unusedVariables false
set_option linter.unusedSimpArgs false

/-! ### hallmootref13_All: function 28 -/
mutual
def hallmootref13_All.l0 : Nat → List (S62) → Int → List (S30) → List (S33) → List (S50) → Option ((List (S30)) × (List (S33)))
  | 0, _, _, _, _, _ => none
  | k + 1, x0, x5, x415000, x415001, x415002 => if x5 < (x0.length : Int) then (hallmootref13_All.l1 k x0 x5 0 x415000 x415001 x415002) else (some (x415000, x415001))
def hallmootref13_All.l1 : Nat → List (S62) → Int → Int → List (S30) → List (S33) → List (S50) → Option ((List (S30)) × (List (S33)))
  | 0, _, _, _, _, _, _ => none
  | k + 1, x0, x5, x6, x415000, x415001, x415002 => if 0 ≤ x5 then (if x5 < (x0.length : Int) then (if x6 < (((rd_T62 x0 x5).f0).length : Int) then (if 0 ≤ x6 then ((hallmootref13_reads.f k x415000 x415001 x415002 ((rd_T30 ((rd_T62 x0 x5).f0) x6).f0) ((rd_T30 ((rd_T62 x0 x5).f0) x6).f1) ((rd_T30 ((rd_T62 x0 x5).f0) x6).f2)).bind fun bt418 => (hallmootref13_All.l1 k x0 x5 (wrap64 (x6 + 1)) bt418.1 bt418.2.1 bt418.2.2)) else (none)) else (hallmootref13_All.l2 k x0 x5 0 x415000 x415001 x415002)) else (none)) else (none)
def hallmootref13_All.l2 : Nat → List (S62) → Int → Int → List (S30) → List (S33) → List (S50) → Option ((List (S30)) × (List (S33)))
  | 0, _, _, _, _, _, _ => none
  | k + 1, x0, x5, x7, x415000, x415001, x415002 => if 0 ≤ x5 then (if x5 < (x0.length : Int) then (if x7 < (((rd_T62 x0 x5).f1).length : Int) then (if 0 ≤ x7 then ((hallmootref13_puts.f k x415000 x415001 x415002 ((rd_T33 ((rd_T62 x0 x5).f1) x7).f0) ((rd_T33 ((rd_T62 x0 x5).f1) x7).f1)).bind fun bt430 => (hallmootref13_All.l2 k x0 x5 (wrap64 (x7 + 1)) bt430.1 bt430.2.1 bt430.2.2)) else (none)) else (hallmootref13_All.l0 k x0 (wrap64 (x5 + 1)) x415000 x415001 x415002)) else (none)) else (none)
end
def hallmootref13_All.f (k : Nat) (l0 : List (S62)) : Option ((List (S30)) × (List (S33))) := hallmootref13_All.l0 k l0 0 ([] : List (S30)) ([] : List (S33)) ([] : List (S50))
theorem hallmootref13_All.mono_l : ∀ k, (∀ y0 y1 y2 y3 y4, LeO (hallmootref13_All.l0 k y0 y1 y2 y3 y4) (hallmootref13_All.l0 (k + 1) y0 y1 y2 y3 y4)) ∧ (∀ y0 y1 y2 y3 y4 y5, LeO (hallmootref13_All.l1 k y0 y1 y2 y3 y4 y5) (hallmootref13_All.l1 (k + 1) y0 y1 y2 y3 y4 y5)) ∧ (∀ y0 y1 y2 y3 y4 y5, LeO (hallmootref13_All.l2 k y0 y1 y2 y3 y4 y5) (hallmootref13_All.l2 (k + 1) y0 y1 y2 y3 y4 y5))
  | 0 => ⟨fun _ _ _ _ _ r h => by simp [hallmootref13_All.l0] at h, fun _ _ _ _ _ _ r h => by simp [hallmootref13_All.l1] at h, fun _ _ _ _ _ _ r h => by simp [hallmootref13_All.l2] at h⟩
  | k + 1 => by
    obtain ⟨ih0, ih1, ih2⟩ := hallmootref13_All.mono_l k
    refine ⟨?_, ?_, ?_⟩
    · intro y0 y1 y2 y3 y4
      unfold hallmootref13_All.l0
      repeat' first
      | (with_reducible exact ih0 _ _ _ _ _)
      | (with_reducible exact ih1 _ _ _ _ _ _)
      | (with_reducible exact ih2 _ _ _ _ _ _)
      | (with_reducible exact hallmootref13_puts.mono _ _ _ _ _ _)
      | (with_reducible exact hallmootref13_reads.mono _ _ _ _ _ _ _)
      | (with_reducible exact LeO.refl _)
      | (with_reducible exact LeO.none _)
      | (with_reducible refine LeO.ite ?_ ?_)
      | (with_reducible refine LeO.bind ?_ (fun _ => ?_))
      | exact ih0 _ _ _ _ _
      | exact ih1 _ _ _ _ _ _
      | exact ih2 _ _ _ _ _ _
      | exact hallmootref13_puts.mono _ _ _ _ _ _
      | exact hallmootref13_reads.mono _ _ _ _ _ _ _
      | exact LeO.none _
      | refine LeO.ite ?_ ?_
      | refine LeO.bind ?_ (fun _ => ?_)
    · intro y0 y1 y2 y3 y4 y5
      unfold hallmootref13_All.l1
      repeat' first
      | (with_reducible exact ih0 _ _ _ _ _)
      | (with_reducible exact ih1 _ _ _ _ _ _)
      | (with_reducible exact ih2 _ _ _ _ _ _)
      | (with_reducible exact hallmootref13_puts.mono _ _ _ _ _ _)
      | (with_reducible exact hallmootref13_reads.mono _ _ _ _ _ _ _)
      | (with_reducible exact LeO.refl _)
      | (with_reducible exact LeO.none _)
      | (with_reducible refine LeO.ite ?_ ?_)
      | (with_reducible refine LeO.bind ?_ (fun _ => ?_))
      | exact ih0 _ _ _ _ _
      | exact ih1 _ _ _ _ _ _
      | exact ih2 _ _ _ _ _ _
      | exact hallmootref13_puts.mono _ _ _ _ _ _
      | exact hallmootref13_reads.mono _ _ _ _ _ _ _
      | exact LeO.none _
      | refine LeO.ite ?_ ?_
      | refine LeO.bind ?_ (fun _ => ?_)
    · intro y0 y1 y2 y3 y4 y5
      unfold hallmootref13_All.l2
      repeat' first
      | (with_reducible exact ih0 _ _ _ _ _)
      | (with_reducible exact ih1 _ _ _ _ _ _)
      | (with_reducible exact ih2 _ _ _ _ _ _)
      | (with_reducible exact hallmootref13_puts.mono _ _ _ _ _ _)
      | (with_reducible exact hallmootref13_reads.mono _ _ _ _ _ _ _)
      | (with_reducible exact LeO.refl _)
      | (with_reducible exact LeO.none _)
      | (with_reducible refine LeO.ite ?_ ?_)
      | (with_reducible refine LeO.bind ?_ (fun _ => ?_))
      | exact ih0 _ _ _ _ _
      | exact ih1 _ _ _ _ _ _
      | exact ih2 _ _ _ _ _ _
      | exact hallmootref13_puts.mono _ _ _ _ _ _
      | exact hallmootref13_reads.mono _ _ _ _ _ _ _
      | exact LeO.none _
      | refine LeO.ite ?_ ?_
      | refine LeO.bind ?_ (fun _ => ?_)
theorem hallmootref13_All.mono : ∀ a0 k, LeO (hallmootref13_All.f k a0) (hallmootref13_All.f (k + 1) a0) := by
 intro a0 k
 obtain ⟨ih0, ih1, ih2⟩ := hallmootref13_All.mono_l k
 unfold hallmootref13_All.f
 repeat' first | (with_reducible exact ih0 _ _ _ _ _) | (with_reducible exact ih1 _ _ _ _ _ _) | (with_reducible exact ih2 _ _ _ _ _ _) | (with_reducible exact hallmootref13_puts.mono _ _ _ _ _ _) | (with_reducible exact hallmootref13_reads.mono _ _ _ _ _ _ _) | (with_reducible exact LeO.refl _) | (with_reducible exact LeO.none _) | (with_reducible refine LeO.ite ?_ ?_) | (with_reducible refine LeO.bind ?_ (fun _ => ?_)) | exact ih0 _ _ _ _ _ | exact ih1 _ _ _ _ _ _ | exact ih2 _ _ _ _ _ _ | exact hallmootref13_puts.mono _ _ _ _ _ _ | exact hallmootref13_reads.mono _ _ _ _ _ _ _ | exact LeO.none _ | refine LeO.ite ?_ ?_ | refine LeO.bind ?_ (fun _ => ?_)
def hallmootref13_All.T8 : Bool × List (List Nat × List Nat) := (true, [([], []), ([], []), ([], []), ([1, 2], [1, 2]), ([3], [3]), ([4], [4]), ([], []), ([5, 6], [5, 6]), ([7], [7]), ([0, 8], [0, 8]), ([9, 9, 0, 1, 2, 3, 4, 5, 6, 7, 8, 9], [9])])
def hallmootref13_All.B8 : List Nat := [0, 0, 0, 6, 14, 30, 0, 126, 254, 511, 1023]
theorem hallmootref13_All.tab8 : rtab .any (opsOf Try.f28 8) = hallmootref13_All.T8 := by kernel_rfl
theorem hallmootref13_All.bits8 : waitsOk hallmootref13_All.T8.2 hallmootref13_All.B8 = true := by kernel_rfl
def hallmootref13_All.T12 : Bool × List (List Nat × List Nat) := (true, [([], []), ([], []), ([], []), ([1, 2], [1, 2]), ([3], [3]), ([4], [4]), ([], []), ([5, 6], [5, 6]), ([7], [7]), ([0, 8], [0, 8]), ([9, 9, 0, 1, 2, 3, 4, 5, 6, 7, 8, 9], [9])])
def hallmootref13_All.B12 : List Nat := [0, 0, 0, 6, 14, 30, 0, 126, 254, 511, 1023]
theorem hallmootref13_All.tab12 : rtab .any (opsOf Try.f28 12) = hallmootref13_All.T12 := by kernel_rfl
theorem hallmootref13_All.bits12 : waitsOk hallmootref13_All.T12.2 hallmootref13_All.B12 = true := by kernel_rfl
set_option maxHeartbeats 8000000 in
set_option maxRecDepth 100000 in
theorem hallmootref13_All.calls (k : Nat) (A0 : Option Addr) (c0 : Nat) (l0 : List (S62)) (r1 : List (S30)) (r2 : List (S33)) (w : World) (hr0 : Kd.C k62 w A0 l0.length l0) (hc0 : l0.length ≤ c0) (h : hallmootref13_All.f k l0 = some (r1, r2)) : Calls Try.prog 28 #[.slice A0 l0.length c0] w fun e w' => ∃ v0_ v1_ : Value, e = .returned (.tuple #[v0_, v1_]) ∧ Kd.V k30 30 w' w.heap.size (fun k_ => (w.heap.size ≤ k_)) v0_ r1 ∧ Kd.V k33 33 w' w.heap.size (fun k_ => (w.heap.size ≤ k_)) v1_ r2 ∧ Below w.heap.size w w' := by
 have hu62 := Try.underlying62
 have hu30 := Try.underlying30
 have hu33 := Try.underlying33
 have HR0 := aS hr0
 have HC0 := aS hc0
 clear hr0 hc0
 have HB := aS (Below.refl w.heap.size w)
 have H : (hallmootref13_All.l0 k l0 0 ([] : List (S30)) ([] : List (S33)) ([] : List (S50))) = some (r1, r2) := h
 clear h
 have H' := aS H
 clear H
 go_enter Try.func28, Try.ntmps28
 go_wp2_with (first | ((with_reducible refine gate_dst (N := 4) rfl ?_); refine box_event ?hg (N := 4) ?hd (cs := #[.slice none 0 0, .slice none 0 0, .slice none 0 0]) (t := 62) ?hr ?_; (case hd => rfl); (case hg => rfl); (case hr => first | (go_simp; done) | (go_simp; rfl)); intro gb414 hg w2 hbox hb; have n0_ := aS (below_step bb hb); have n1_ := aS (hbox); have n2_ := aS ((by rw [hg]; exact bz : w.heap.size ≤ gb414)); have n3_ := aS ((by rw [hg]; exact bz : w.heap.size ≤ gb414)); clear HB; have HB := n0_; have BK414 := n1_; have GW414 := n2_; have GE414 := n3_; clear n0_ n1_ n2_ n3_; clear hb hbox hg; have hcz3_0 : w2.cell? ⟨gb414, 0, none⟩ = some (.slice none 0 0) := (blk_cell BK414.out 0).trans rfl; have hcz3_1 : w2.cell? ⟨gb414, 1, none⟩ = some (.slice none 0 0) := (blk_cell BK414.out 1).trans rfl; have hcz3_2 : w2.cell? ⟨gb414, 2, none⟩ = some (.slice none 0 0) := (blk_cell BK414.out 2).trans rfl; have hfz3_0 := blk_frozen BK414.out 0; have hfz3_1 := blk_frozen BK414.out 1; have hfz3_2 := blk_frozen BK414.out 2))
 go_loopg [5] k (fun kq v5 w' => ∃ (x5_1 : Int) (x415000_1 : List (S30)) (x415001_1 : List (S33)) (x415002_1 : List (S50)) (u415000 : Value) (u415001 : Value) (u415002 : Value), v5 = .int .i64 x5_1 ∧ Aside0 (hallmootref13_All.l0 kq l0 x5_1 x415000_1 x415001_1 x415002_1 = some (r1, r2)) ∧ Aside0 (kq ≤ k) ∧ Aside0 (Kd.V k30 30 w' w.heap.size (fun k_ => (w.heap.size ≤ k_) ∧ k_ ≠ gb414) u415000 x415000_1) ∧ Aside0 (Kd.V k33 33 w' w.heap.size (fun k_ => (w.heap.size ≤ k_) ∧ k_ ≠ gb414) u415001 x415001_1) ∧ Aside0 (Kd.V k50 50 w' w.heap.size (fun k_ => (w.heap.size ≤ k_) ∧ k_ ≠ gb414) u415002 x415002_1) ∧ Aside0 (w'.heap[gb414]? = some (.cells #[u415000, u415001, u415002] 62 (0, 0))) ∧ Aside0 (Below w.heap.size w w'))
 case atStart => exact ⟨(0), (([] : List (S30))), (([] : List (S33))), (([] : List (S50))), (.slice none 0 0), (.slice none 0 0), (.slice none 0 0), (by first | rfl | (simp; done) | (simp [*]; done)), H', ⟨Nat.le_refl _⟩, ⟨Kd.V_nil _ _ _ _ _⟩, ⟨Kd.V_nil _ _ _ _ _⟩, ⟨Kd.V_nil _ _ _ _ _⟩, ⟨by (with_reducible repeat (first | refine blk_drewN ?_ _ | refine blk_drew ?_ | refine blk_alloc ?_ _)); refine blk_put (cs := #[.slice none 0 0, .slice none 0 0, .slice none 0 0]) ?_ 2 _ rfl; (with_reducible repeat (first | refine blk_drewN ?_ _ | refine blk_drew ?_ | refine blk_alloc ?_ _)); refine blk_put (cs := #[.slice none 0 0, .slice none 0 0, .slice none 0 0]) ?_ 1 _ rfl; (with_reducible repeat (first | refine blk_drewN ?_ _ | refine blk_drew ?_ | refine blk_alloc ?_ _)); refine blk_put (cs := #[.slice none 0 0, .slice none 0 0, .slice none 0 0]) ?_ 0 _ rfl; (with_reducible repeat (first | refine blk_drewN ?_ _ | refine blk_drew ?_ | refine blk_alloc ?_ _)); exact BK414.out⟩, ⟨by repeat (first | (with_reducible first | exact HB.out | apply below_alloc | apply pw_below_drewN | apply below_drew1 | refine below_set ?_ GE414.out) | exact HB.out)⟩⟩
 case round =>
  clear H'
  try clear c2
  try clear p2
  try clear hcz3_0
  try clear hcz3_1
  try clear hcz3_2
  try clear hfz3_0
  try clear hfz3_1
  try clear hfz3_2
  obtain ⟨x5_1, x415000_1, x415001_1, x415002_1, u415000, u415001, u415002, rfl, HA, HK1, HO_415000, HO_415001, HO_415002, BK414, HB⟩ := hrel
  cases gk with
  | zero => exact absurd HA.out (by simp [hallmootref13_All.l0])
  | succ k1 => {
  have H := HA.out
  clear HA
  simp only [hallmootref13_All.l0] at H
  by_cases c4 : x5_1 < (l0.length : Int)
  {
  rw [if_pos c4] at H
  have c4b0 : decide (x5_1 < (l0.length : Int)) = true := decide_eq_true c4
  clear c4
  have H' := aS H
  clear H
  go_wp2
  go_loopg [6] k1 (fun kq v6 w' => ∃ (x6_2 : Int) (x415000_2 : List (S30)) (x415001_2 : List (S33)) (x415002_2 : List (S50)) (u415000 : Value) (u415001 : Value) (u415002 : Value), v6 = .int .i64 x6_2 ∧ Aside0 (hallmootref13_All.l1 kq l0 x5_1 x6_2 x415000_2 x415001_2 x415002_2 = some (r1, r2)) ∧ Aside0 (kq ≤ k1) ∧ Aside0 (Kd.V k30 30 w' w.heap.size (fun k_ => (w.heap.size ≤ k_) ∧ k_ ≠ gb414) u415000 x415000_2) ∧ Aside0 (Kd.V k33 33 w' w.heap.size (fun k_ => (w.heap.size ≤ k_) ∧ k_ ≠ gb414) u415001 x415001_2) ∧ Aside0 (Kd.V k50 50 w' w.heap.size (fun k_ => (w.heap.size ≤ k_) ∧ k_ ≠ gb414) u415002 x415002_2) ∧ Aside0 (w'.heap[gb414]? = some (.cells #[u415000, u415001, u415002] 62 (0, 0))) ∧ Aside0 (Below w.heap.size w w'))
  case atStart => exact ⟨(0), (x415000_1), (x415001_1), (x415002_1), (u415000), (u415001), (u415002), (by first | rfl | (simp; done) | (simp [*]; done)), H', ⟨Nat.le_refl _⟩, ⟨by (with_reducible repeat (first | apply Kd.V_alloc | apply Kd.V_drewN | apply Kd.V_drew)); exact HO_415000.out⟩, ⟨by (with_reducible repeat (first | apply Kd.V_alloc | apply Kd.V_drewN | apply Kd.V_drew)); exact HO_415001.out⟩, ⟨by (with_reducible repeat (first | apply Kd.V_alloc | apply Kd.V_drewN | apply Kd.V_drew)); exact HO_415002.out⟩, ⟨by (with_reducible repeat (first | refine blk_drewN ?_ _ | refine blk_drew ?_ | refine blk_alloc ?_ _)); exact BK414.out⟩, ⟨by repeat (first | (with_reducible first | exact HB.out | apply below_alloc | apply pw_below_drewN | apply below_drew1 | refine below_set ?_ GE414.out) | exact HB.out)⟩⟩
  case round =>
   clear H'
   try clear c2
   try clear p2
   try clear c4
   try clear c4b0
   try clear hcz3_0
   try clear hcz3_1
   try clear hcz3_2
   try clear hfz3_0
   try clear hfz3_1
   try clear hfz3_2
   try clear p2
   obtain ⟨x6_2, x415000_2, x415001_2, x415002_2, u415000, u415001, u415002, rfl, HA, HK2, HO_415000, HO_415001, HO_415002, BK414, HB⟩ := hrel
   cases gk with
   | zero => exact absurd HA.out (by simp [hallmootref13_All.l1])
   | succ k2 => {
   have H := HA.out
   clear HA
   simp only [hallmootref13_All.l1] at H
   by_cases c5 : 0 ≤ x5_1
   {
   rw [if_pos c5] at H
   have c5b0 : decide (0 ≤ x5_1) = true := decide_eq_true c5
   clear c5
   by_cases c6 : x5_1 < (l0.length : Int)
   {
   rw [if_pos c6] at H
   have c6b0 : decide (x5_1 < (l0.length : Int)) = true := decide_eq_true c6
   clear c6
   by_cases c7 : x6_2 < (((rd_T62 l0 x5_1).f0).length : Int)
   {
   rw [if_pos c7] at H
   have c7b0 : decide (x6_2 < (((rd_T62 l0 x5_1).f0).length : Int)) = true := decide_eq_true c7
   clear c7
   by_cases c8 : 0 ≤ x6_2
   {
   rw [if_pos c8] at H
   have c8b0 : decide (0 ≤ x6_2) = true := decide_eq_true c8
   clear c8
   replace H := Option.bind_eq_some_iff.mp H
   obtain ⟨⟨t418, t421, t424⟩, A90, H⟩ := H
   replace H : (hallmootref13_All.l1 k2 l0 x5_1 (wrap64 (x6_2 + 1)) t418 t421 t424) = some (r1, r2) := H
   have A9 := aS A90
   clear A90
   have H' := aS H
   clear H
   have p415 : 0 ≤ (x5_1 : Int) := dd
   have q415 : x5_1 < (l0.length : Int) := dd
   obtain ⟨ad415, A415_0, c415_0, A415_1, c415_1, A415_2, c415_2, e415, hx415_0, hx415_1, hx415_2, hl415_0, hi415_0, hl415_1, hi415_1, hl415_2, hi415_2⟩ := at_T62 HR0.out x5_1 p415 q415
   cases e415
   replace hx415_0 := cc HB.out hx415_0
   replace hx415_1 := cc HB.out hx415_1
   replace hx415_2 := cc HB.out hx415_2
   have HR415_0 := aS hi415_0
   have HC415_0 := aS hl415_0
   clear hi415_0 hl415_0
   have HR415_1 := aS hi415_1
   have HC415_1 := aS hl415_1
   clear hi415_1 hl415_1
   have HR415_2 := aS hi415_2
   have HC415_2 := aS hl415_2
   clear hi415_2 hl415_2
   replace p415 := eq_true p415
   replace q415 := eq_true q415
   try go_wp2
   have n0_ := aS (Kd.V_drew HO_415000.out)
   have n1_ := aS (Kd.V_drew HO_415001.out)
   have n2_ := aS (Kd.V_drew HO_415002.out)
   have n3_ := aS (blk_drew BK414.out)
   have n4_ := aS (below_drew1 HB.out)
   clear HO_415000
   clear HO_415001
   clear HO_415002
   clear BK414
   clear HB
   have HO_415000 := n0_
   have HO_415001 := n1_
   have HO_415002 := n2_
   have BK414 := n3_
   have HB := n4_
   clear n0_ n1_ n2_ n3_ n4_
   have p416 : 0 ≤ (x5_1 : Int) := dd
   have q416 : x5_1 < (l0.length : Int) := dd
   obtain ⟨ad416, A416_0, c416_0, A416_1, c416_1, A416_2, c416_2, e416, hx416_0, hx416_1, hx416_2, hl416_0, hi416_0, hl416_1, hi416_1, hl416_2, hi416_2⟩ := at_T62 HR0.out x5_1 p416 q416
   have hw416_2 := hx416_2
   have hw416_1 := hx416_1
   have hw416_0 := hx416_0
   obtain rfl : ad415 = ad416 := (by injection e416)
   replace hx416_0 := cc HB.out hx416_0
   replace hx416_1 := cc HB.out hx416_1
   replace hx416_2 := cc HB.out hx416_2
   have HR416_0 := aS hi416_0
   have HC416_0 := aS hl416_0
   clear hi416_0 hl416_0
   have HR416_1 := aS hi416_1
   have HC416_1 := aS hl416_1
   clear hi416_1 hl416_1
   have HR416_2 := aS hi416_2
   have HC416_2 := aS hl416_2
   clear hi416_2 hl416_2
   replace p416 := eq_true p416
   replace q416 := eq_true q416
   have p417 : 0 ≤ (x6_2 : Int) := dd
   have q417 : x6_2 < (((rd_T62 l0 x5_1).f0).length : Int) := dd
   obtain ⟨ad417, e417, hx417_0, hx417_1, hx417_2⟩ := at_T30 HR416_0.out x6_2 p417 q417
   have hw417_2 := hx417_2
   have hw417_1 := hx417_1
   have hw417_0 := hx417_0
   cases e417
   replace hx417_0 := cc HB.out hx417_0
   replace hx417_1 := cc HB.out hx417_1
   replace hx417_2 := cc HB.out hx417_2
   replace p417 := eq_true p417
   replace q417 := eq_true q417
   obtain ⟨Ao11, co11, eo11⟩ := Kd.V_slice HO_415000.out
   (first | subst eo11 | (injection eo11 with f1_ f2_ f3_; have f4_ := f1_.symm; have f5_ := f3_.symm; clear f1_ f2_ f3_; subst f4_; subst f5_))
   obtain ⟨Ao12, co12, eo12⟩ := Kd.V_slice HO_415001.out
   (first | subst eo12 | (injection eo12 with f1_ f2_ f3_; have f4_ := f1_.symm; have f5_ := f3_.symm; clear f1_ f2_ f3_; subst f4_; subst f5_))
   obtain ⟨Ao13, co13, eo13⟩ := Kd.V_slice HO_415002.out
   (first | subst eo13 | (injection eo13 with f1_ f2_ f3_; have f4_ := f1_.symm; have f5_ := f3_.symm; clear f1_ f2_ f3_; subst f4_; subst f5_))
   refine start_ (n := 11) (S := fun w' => w'.cell? ⟨gb414, 0, none⟩ = some (.slice Ao11 x415000_2.length co11) ∧ w'.cell? ⟨gb414, 1, none⟩ = some (.slice Ao12 x415001_2.length co12) ∧ w'.cell? ⟨gb414, 2, none⟩ = some (.slice Ao13 x415002_2.length co13) ∧ w'.cell? (ad415.add ((x5_1).toNat * 3)) = some (.slice (some ad417) ((rd_T62 l0 x5_1).f0).length c416_0) ∧ w'.cell? ⟨(ad415.add ((x5_1).toNat * 3)).block, (ad415.add ((x5_1).toNat * 3)).off + 1, none⟩ = some (.slice A416_1 ((rd_T62 l0 x5_1).f1).length c416_1) ∧ w'.cell? ⟨(ad415.add ((x5_1).toNat * 3)).block, (ad415.add ((x5_1).toNat * 3)).off + 2, none⟩ = some (.slice A416_2 ((rd_T62 l0 x5_1).f2).length c416_2) ∧ w'.cell? (ad417.add ((x6_2).toNat * 3)) = some (.int .i64 ((rd_T30 ((rd_T62 l0 x5_1).f0) x6_2).f0)) ∧ w'.cell? ⟨(ad417.add ((x6_2).toNat * 3)).block, (ad417.add ((x6_2).toNat * 3)).off + 1, none⟩ = some (.int .i64 ((rd_T30 ((rd_T62 l0 x5_1).f0) x6_2).f1)) ∧ w'.cell? ⟨(ad417.add ((x6_2).toNat * 3)).block, (ad417.add ((x6_2).toNat * 3)).off + 2, none⟩ = some (.int .i64 ((rd_T30 ((rd_T62 l0 x5_1).f0) x6_2).f2))) (ds := [10]) #[false, false, false, false, false, false, false, false, false, false, false] (by kernel_rfl) rfl rfl ⟨(blk_cell BK414.out 0).trans rfl, (blk_cell BK414.out 1).trans rfl, (blk_cell BK414.out 2).trans rfl, (cc HB.out hw416_0), (cc HB.out hw416_1), (cc HB.out hw416_2), (cc HB.out hw417_0), (cc HB.out hw417_1), (cc HB.out hw417_2)⟩ (fun hHeld => ?_); refine with_tabW hallmootref13_All.tab8 hallmootref13_All.bits8 (fun HT_ HW_ => ?_)
   generalize wr.drew = w10 at HO_415000 HO_415001 HO_415002 BK414 HB HR416_0 HR416_1 HR416_2 hx416_0 hx416_1 hx416_2 hx417_0 hx417_1 hx417_2 hHeld ⊢
   refine pure_ (i := 1) (N := some 26) (v := ?_) (a' := ?_) #[false, true, false, false, false, false, false, false, false, false, false] rfl rfl (any_of HT_.out (by kernel_rfl)) (fun _ _ _ h => h) (Or.inl ⟨by rfl, ?_⟩) ?_ ?_
   rotate_left
   {
   intro w'
   go_simp
   with_reducible rfl }
   rotate_left
   {
   simp only [Act.put, sT, s0, s1, i64_w, i32_w]
   rfl }
   refine pure_ (i := 2) (N := some 27) (v := ?_) (a' := ?_) #[false, true, true, false, false, false, false, false, false, false, false] rfl rfl (any_of HT_.out (by kernel_rfl)) (fun _ _ _ h => h) (Or.inl ⟨by rfl, ?_⟩) ?_ ?_
   rotate_left
   {
   intro w'
   go_simp
   with_reducible rfl }
   rotate_left
   {
   simp only [Act.put, sT, s0, s1, i64_w, i32_w]
   rfl }
   refine pure_ (i := 3) (N := some 28) (v := ?_) (a' := ?_) #[false, true, true, true, false, false, false, false, false, false, false] rfl rfl (any_of HT_.out (by kernel_rfl)) (fun _ _ _ h => h) (Or.inl ⟨by rfl, ?_⟩) ?_ ?_
   rotate_left
   {
   intro w'
   go_simp
   with_reducible rfl }
   rotate_left
   {
   simp only [Act.put, sT, s0, s1, i64_w, i32_w]
   rfl }
   refine pure_ (i := 4) (N := some 29) (v := ?_) (a' := ?_) #[false, true, true, true, true, false, false, false, false, false, false] rfl rfl (any_of HT_.out (by kernel_rfl)) (fun _ _ _ h => h) (Or.inl ⟨by rfl, ?_⟩) ?_ ?_
   rotate_left
   {
   intro w'
   go_simp
   with_reducible rfl }
   rotate_left
   {
   simp only [Act.put, sT, s0, s1, i64_w, i32_w]
   rfl }
   refine pure_ (i := 6) (N := some 31) (v := ?_) (a' := ?_) #[false, true, true, true, true, false, true, false, false, false, false] rfl rfl (any_of HT_.out (by kernel_rfl)) (fun _ _ _ h => h) (Or.inl ⟨by rfl, ?_⟩) ?_ ?_
   rotate_left
   {
   intro w'
   go_simp
   with_reducible rfl }
   rotate_left
   {
   simp only [Act.put, sT, s0, s1, i64_w, i32_w]
   rfl }
   refine take_ (i := 0) (N := some 25) (v := ?_) (a' := ?_) #[true, true, true, true, true, false, true, false, false, false, false] rfl rfl (take_ofW HT_.out HW_.out (by kernel_rfl)) (fun _ _ _ h => h) (Or.inl ⟨by rfl, ?_⟩) hHeld ?_ ?_
   rotate_left
   {
   rintro w' ⟨s0, s1, s2, s3, s4, s5, s6, s7, s8⟩
   go_simp
   with_reducible rfl }
   rotate_left
   {
   simp only [Act.put, sT, s0, s1, i64_w, i32_w]
   rfl }
   refine take_ (i := 5) (N := some 30) (v := ?_) (a' := ?_) #[true, true, true, true, true, true, true, false, false, false, false] rfl rfl (take_ofW HT_.out HW_.out (by kernel_rfl)) (fun _ _ _ h => h) (Or.inl ⟨by rfl, ?_⟩) hHeld ?_ ?_
   rotate_left
   {
   rintro w' ⟨s0, s1, s2, s3, s4, s5, s6, s7, s8⟩
   go_simp
   with_reducible rfl }
   rotate_left
   {
   simp only [Act.put, sT, s0, s1, i64_w, i32_w]
   rfl }
   refine pure_ (i := 7) (N := some 32) (v := ?_) (a' := ?_) #[true, true, true, true, true, true, true, true, false, false, false] rfl rfl (any_of HT_.out (by kernel_rfl)) (fun _ _ _ h => h) (Or.inl ⟨by rfl, ?_⟩) ?_ ?_
   rotate_left
   {
   intro w'
   go_simp
   with_reducible rfl }
   rotate_left
   {
   simp only [Act.put, sT, s0, s1, i64_w, i32_w]
   rfl }
   refine take_ (i := 8) (N := some 33) (v := ?_) (a' := ?_) #[true, true, true, true, true, true, true, true, true, false, false] rfl rfl (take_ofW HT_.out HW_.out (by kernel_rfl)) (fun _ _ _ h => h) (Or.inl ⟨by rfl, ?_⟩) hHeld ?_ ?_
   rotate_left
   {
   rintro w' ⟨s0, s1, s2, s3, s4, s5, s6, s7, s8⟩
   go_simp
   with_reducible rfl }
   rotate_left
   {
   simp only [Act.put, sT, s0, s1, i64_w, i32_w]
   rfl }
   refine one_ (i := 9) (N := some 34) #[true, true, true, true, true, true, true, true, true, true, false] rfl rfl (one_of HT_.out (by kernel_rfl)) (by decide) (fun K hK => ?_)
   refine goes_ Try.func48 (by kernel_rfl) rfl #[.agg #[.slice Ao11 x415000_2.length co11, .slice Ao12 x415001_2.length co12, .slice Ao13 x415002_2.length co13], .agg #[.int .i64 ((rd_T30 ((rd_T62 l0 x5_1).f0) x6_2).f0), .int .i64 ((rd_T30 ((rd_T62 l0 x5_1).f0) x6_2).f1), .int .i64 ((rd_T30 ((rd_T62 l0 x5_1).f0) x6_2).f2)]] (by rfl) rfl rfl (by (try simp only [List.map_toArray, List.map_cons, List.map_nil]); first | done | rfl | (simp only [List.length_drop, List.length_take]; rfl)) ?_
   with_reducible refine (hallmootref13_reads.calls k2 (fun k_ => ((w.heap.size ≤ k_) ∧ k_ ≠ gb414)) _ _ x415000_2 (fun k_ => ((w.heap.size ≤ k_) ∧ k_ ≠ gb414)) _ _ x415001_2 (fun k_ => ((w.heap.size ≤ k_) ∧ k_ ≠ gb414)) _ _ x415002_2 ((rd_T30 ((rd_T62 l0 x5_1).f0) x6_2).f0) ((rd_T30 ((rd_T62 l0 x5_1).f0) x6_2).f1) ((rd_T30 ((rd_T62 l0 x5_1).f0) x6_2).f2) t418 t421 t424 _ ?side1 ?side2 ?side3 A9.out).mono ?_
   (case side1 => exact HO_415000.out)
   (case side2 => exact HO_415001.out)
   (case side3 => exact HO_415002.out)
   rintro e w14 ⟨v419, v422, v425, rfl, ho0, ho1, ho2, hb⟩
   refine ⟨_, rfl, ?_⟩
   have n0_ := aS (Kd.V_below (vv HO_415000.out) hb)
   have n1_ := aS (Kd.V_below (vv HO_415001.out) hb)
   have n2_ := aS (Kd.V_below (vv HO_415002.out) hb)
   have n3_ := aS (Kd.V_lower (Kd.V_mono (ok' := fun k_ => (w.heap.size ≤ k_) ∧ k_ ≠ gb414) ho0 (fun k_ hk_ => ⟨Or.elim hk_ (fun hs_ => Or.elim hs_ (fun hs_ => hs_.1) (fun hs_ => Or.elim hs_ (fun hs_ => hs_.1) (fun hs_ => hs_.1))) (fun hn_ => (Nat.le_trans bz hn_)), Or.elim hk_ (fun hs_ => Or.elim hs_ (fun hs_ => hs_.2) (fun hs_ => Or.elim hs_ (fun hs_ => hs_.2) (fun hs_ => hs_.2))) (fun hn_ => (Kd.freshB (g := gb414) (o := .cells #[.slice Ao11 x415000_2.length co11, .slice Ao12 x415001_2.length co12, .slice Ao13 x415002_2.length co13] 62 (0, 0)) (kk BK414.out) k_ hn_))⟩)) bz)
   have n4_ := aS (Kd.V_lower (Kd.V_mono (ok' := fun k_ => (w.heap.size ≤ k_) ∧ k_ ≠ gb414) ho1 (fun k_ hk_ => ⟨Or.elim hk_ (fun hs_ => Or.elim hs_ (fun hs_ => hs_.1) (fun hs_ => Or.elim hs_ (fun hs_ => hs_.1) (fun hs_ => hs_.1))) (fun hn_ => (Nat.le_trans bz hn_)), Or.elim hk_ (fun hs_ => Or.elim hs_ (fun hs_ => hs_.2) (fun hs_ => Or.elim hs_ (fun hs_ => hs_.2) (fun hs_ => hs_.2))) (fun hn_ => (Kd.freshB (g := gb414) (o := .cells #[.slice Ao11 x415000_2.length co11, .slice Ao12 x415001_2.length co12, .slice Ao13 x415002_2.length co13] 62 (0, 0)) (kk BK414.out) k_ hn_))⟩)) bz)
   have n5_ := aS (Kd.V_lower (Kd.V_mono (ok' := fun k_ => (w.heap.size ≤ k_) ∧ k_ ≠ gb414) ho2 (fun k_ hk_ => ⟨Or.elim hk_ (fun hs_ => Or.elim hs_ (fun hs_ => hs_.1) (fun hs_ => Or.elim hs_ (fun hs_ => hs_.1) (fun hs_ => hs_.1))) (fun hn_ => (Nat.le_trans bz hn_)), Or.elim hk_ (fun hs_ => Or.elim hs_ (fun hs_ => hs_.2) (fun hs_ => Or.elim hs_ (fun hs_ => hs_.2) (fun hs_ => hs_.2))) (fun hn_ => (Kd.freshB (g := gb414) (o := .cells #[.slice Ao11 x415000_2.length co11, .slice Ao12 x415001_2.length co12, .slice Ao13 x415002_2.length co13] 62 (0, 0)) (kk BK414.out) k_ hn_))⟩)) bz)
   have n6_ := aS (blk_below (g := gb414) (o := .cells #[.slice Ao11 x415000_2.length co11, .slice Ao12 x415001_2.length co12, .slice Ao13 x415002_2.length co13] 62 (0, 0)) (kk BK414.out) hb)
   have n7_ := aS (below_step bb hb)
   clear HO_415000
   clear HO_415001
   clear HO_415002
   clear BK414
   clear HB
   have HO_415000 := n0_
   have HO_415001 := n1_
   have HO_415002 := n2_
   have HO420 := n3_
   have HO423 := n4_
   have HO426 := n5_
   have BK414 := n6_
   have HB := n7_
   clear n0_ n1_ n2_ n3_ n4_ n5_ n6_ n7_
   (try clear hb)
   (try clear hb2)
   (try clear hk)
   (try clear hi)
   (try clear ho0)
   (try clear ho1)
   (try clear ho2)
   obtain ⟨Ao15, co15, eo15⟩ := Kd.V_slice HO420.out
   (first | subst eo15 | (injection eo15 with f1_ f2_ f3_; have f4_ := f1_.symm; have f5_ := f3_.symm; clear f1_ f2_ f3_; subst f4_; subst f5_))
   obtain ⟨Ao17, co17, eo17⟩ := Kd.V_slice HO423.out
   (first | subst eo17 | (injection eo17 with f1_ f2_ f3_; have f4_ := f1_.symm; have f5_ := f3_.symm; clear f1_ f2_ f3_; subst f4_; subst f5_))
   obtain ⟨Ao19, co19, eo19⟩ := Kd.V_slice HO426.out
   (first | subst eo19 | (injection eo19 with f1_ f2_ f3_; have f4_ := f1_.symm; have f5_ := f3_.symm; clear f1_ f2_ f3_; subst f4_; subst f5_))
   refine hK.out _ _ ⟨(blk_cell BK414.out 0).trans rfl, (blk_cell BK414.out 1).trans rfl, (blk_cell BK414.out 2).trans rfl, (cc HB.out hw416_0), (cc HB.out hw416_1), (cc HB.out hw416_2), (cc HB.out hw417_0), (cc HB.out hw417_1), (cc HB.out hw417_2)⟩ (fun hHeld => ?_)
   clear hK K
   refine norm_ (a' := ?_) ?_ ?_
   rotate_left
   {
   show Act.put _ (some 34) _ = _
   simp only [Act.put, sT, s0, s1, i64_w, i32_w]
   rfl }
   refine last_ (i := 10) (N := none) #[true, true, true, true, true, true, true, true, true, true, true] rfl rfl (one_of HT_.out (by kernel_rfl)) (by decide) (fun K hK => ?_)
   have hs16 : w14.cell? ⟨gb414, 0, none⟩ = some (.slice Ao11 x415000_2.length co11) := (blk_cell BK414.out 0).trans rfl
   have hfs16 := blk_frozen BK414.out 0
   have hs18 : w14.cell? ⟨gb414, 1, none⟩ = some (.slice Ao12 x415001_2.length co12) := (blk_cell BK414.out 1).trans rfl
   have hfs18 := blk_frozen BK414.out 1
   have hs20 : w14.cell? ⟨gb414, 2, none⟩ = some (.slice Ao13 x415002_2.length co13) := (blk_cell BK414.out 2).trans rfl
   have hfs20 := blk_frozen BK414.out 2
   refine skip_ (w1 := ?_) (by rfl) rfl ?_ ?_
   rotate_left
   {
   go_simp
   rfl }
   refine hK.out _ _ ?_
   clear hK K
   refine done_ (done_of HT_.out (by kernel_rfl)) ?_
   try go_wp2
   go_roundg k2
   case measure => have := HK1.out; have := HK2.out; omega
   case rel => exact ⟨(wrap64 (x6_2 + 1)), (t418), (t421), (t424), (.slice Ao15 t418.length co15), (.slice Ao17 t421.length co17), (.slice Ao19 t424.length co19), (by first | rfl | (simp; done) | (simp [*]; done)), H', ⟨by have := HK1.out; have := HK2.out; omega⟩, ⟨by (with_reducible repeat (first | apply Kd.V_alloc | apply Kd.V_drewN | apply Kd.V_drew)); exact Kd.V_mono (Kd.V_far (p := ⟨gb414, 2, none⟩) (Kd.V_far (p := ⟨gb414, 1, none⟩) (Kd.V_far (p := ⟨gb414, 0, none⟩) (Kd.V_mono HO420.out (fun k_ hk => (⟨hk, hk.2⟩ : _ ∧ k_ ≠ gb414))) (fun _ hk => hk.2) (.slice Ao15 t418.length co15)) (fun _ hk => hk.2) (.slice Ao17 t421.length co17)) (fun _ hk => hk.2) (.slice Ao19 t424.length co19)) (fun _ hk => ⟨hk.1.1, hk.1.2⟩)⟩, ⟨by (with_reducible repeat (first | apply Kd.V_alloc | apply Kd.V_drewN | apply Kd.V_drew)); exact Kd.V_mono (Kd.V_far (p := ⟨gb414, 2, none⟩) (Kd.V_far (p := ⟨gb414, 1, none⟩) (Kd.V_far (p := ⟨gb414, 0, none⟩) (Kd.V_mono HO423.out (fun k_ hk => (⟨hk, hk.2⟩ : _ ∧ k_ ≠ gb414))) (fun _ hk => hk.2) (.slice Ao15 t418.length co15)) (fun _ hk => hk.2) (.slice Ao17 t421.length co17)) (fun _ hk => hk.2) (.slice Ao19 t424.length co19)) (fun _ hk => ⟨hk.1.1, hk.1.2⟩)⟩, ⟨by (with_reducible repeat (first | apply Kd.V_alloc | apply Kd.V_drewN | apply Kd.V_drew)); exact Kd.V_mono (Kd.V_far (p := ⟨gb414, 2, none⟩) (Kd.V_far (p := ⟨gb414, 1, none⟩) (Kd.V_far (p := ⟨gb414, 0, none⟩) (Kd.V_mono HO426.out (fun k_ hk => (⟨hk, hk.2⟩ : _ ∧ k_ ≠ gb414))) (fun _ hk => hk.2) (.slice Ao15 t418.length co15)) (fun _ hk => hk.2) (.slice Ao17 t421.length co17)) (fun _ hk => hk.2) (.slice Ao19 t424.length co19)) (fun _ hk => ⟨hk.1.1, hk.1.2⟩)⟩, ⟨by (with_reducible repeat (first | refine blk_drewN ?_ _ | refine blk_drew ?_ | refine blk_alloc ?_ _)); refine blk_put (cs := #[.slice Ao15 t418.length co15, .slice Ao17 t421.length co17, .slice Ao13 x415002_2.length co13]) ?_ 2 _ rfl; (with_reducible repeat (first | refine blk_drewN ?_ _ | refine blk_drew ?_ | refine blk_alloc ?_ _)); refine blk_put (cs := #[.slice Ao15 t418.length co15, .slice Ao12 x415001_2.length co12, .slice Ao13 x415002_2.length co13]) ?_ 1 _ rfl; (with_reducible repeat (first | refine blk_drewN ?_ _ | refine blk_drew ?_ | refine blk_alloc ?_ _)); refine blk_put (cs := #[.slice Ao11 x415000_2.length co11, .slice Ao12 x415001_2.length co12, .slice Ao13 x415002_2.length co13]) ?_ 0 _ rfl; (with_reducible repeat (first | refine blk_drewN ?_ _ | refine blk_drew ?_ | refine blk_alloc ?_ _)); exact BK414.out⟩, ⟨by repeat (first | (with_reducible first | exact HB.out | apply below_alloc | apply pw_below_drewN | apply below_drew1 | refine below_set ?_ GE414.out) | exact HB.out)⟩⟩ }
   {
   rw [if_neg c8] at H
   exact absurd H (by simp) } }
   {
   rw [if_neg c7] at H
   have c7b0 : decide (x6_2 < (((rd_T62 l0 x5_1).f0).length : Int)) = false := decide_eq_false c7
   clear c7
   have H' := aS H
   clear H
   have p415 : 0 ≤ (x5_1 : Int) := dd
   have q415 : x5_1 < (l0.length : Int) := dd
   obtain ⟨ad415, A415_0, c415_0, A415_1, c415_1, A415_2, c415_2, e415, hx415_0, hx415_1, hx415_2, hl415_0, hi415_0, hl415_1, hi415_1, hl415_2, hi415_2⟩ := at_T62 HR0.out x5_1 p415 q415
   cases e415
   replace hx415_0 := cc HB.out hx415_0
   replace hx415_1 := cc HB.out hx415_1
   replace hx415_2 := cc HB.out hx415_2
   have HR415_0 := aS hi415_0
   have HC415_0 := aS hl415_0
   clear hi415_0 hl415_0
   have HR415_1 := aS hi415_1
   have HC415_1 := aS hl415_1
   clear hi415_1 hl415_1
   have HR415_2 := aS hi415_2
   have HC415_2 := aS hl415_2
   clear hi415_2 hl415_2
   replace p415 := eq_true p415
   replace q415 := eq_true q415
   go_wp2
   go_loopg [7] k2 (fun kq v7 w' => ∃ (x7_3 : Int) (x415000_3 : List (S30)) (x415001_3 : List (S33)) (x415002_3 : List (S50)) (u415000 : Value) (u415001 : Value) (u415002 : Value), v7 = .int .i64 x7_3 ∧ Aside0 (hallmootref13_All.l2 kq l0 x5_1 x7_3 x415000_3 x415001_3 x415002_3 = some (r1, r2)) ∧ Aside0 (kq ≤ k2) ∧ Aside0 (Kd.V k30 30 w' w.heap.size (fun k_ => (w.heap.size ≤ k_) ∧ k_ ≠ gb414) u415000 x415000_3) ∧ Aside0 (Kd.V k33 33 w' w.heap.size (fun k_ => (w.heap.size ≤ k_) ∧ k_ ≠ gb414) u415001 x415001_3) ∧ Aside0 (Kd.V k50 50 w' w.heap.size (fun k_ => (w.heap.size ≤ k_) ∧ k_ ≠ gb414) u415002 x415002_3) ∧ Aside0 (w'.heap[gb414]? = some (.cells #[u415000, u415001, u415002] 62 (0, 0))) ∧ Aside0 (Below w.heap.size w w'))
   case atStart => exact ⟨(0), (x415000_2), (x415001_2), (x415002_2), (u415000), (u415001), (u415002), (by first | rfl | (simp; done) | (simp [*]; done)), H', ⟨Nat.le_refl _⟩, ⟨by (with_reducible repeat (first | apply Kd.V_alloc | apply Kd.V_drewN | apply Kd.V_drew)); exact HO_415000.out⟩, ⟨by (with_reducible repeat (first | apply Kd.V_alloc | apply Kd.V_drewN | apply Kd.V_drew)); exact HO_415001.out⟩, ⟨by (with_reducible repeat (first | apply Kd.V_alloc | apply Kd.V_drewN | apply Kd.V_drew)); exact HO_415002.out⟩, ⟨by (with_reducible repeat (first | refine blk_drewN ?_ _ | refine blk_drew ?_ | refine blk_alloc ?_ _)); exact BK414.out⟩, ⟨by repeat (first | (with_reducible first | exact HB.out | apply below_alloc | apply pw_below_drewN | apply below_drew1 | refine below_set ?_ GE414.out) | exact HB.out)⟩⟩
   case round =>
    clear H'
    try clear c2
    try clear p2
    try clear c4
    try clear c4b0
    try clear p4
    try clear q4
    try clear hx4
    try clear c5
    try clear c5b0
    try clear c6
    try clear c6b0
    try clear p6
    try clear c7
    try clear c7b0
    try clear c8
    try clear c8b0
    try clear hcz3_0
    try clear hcz3_1
    try clear hcz3_2
    try clear hfz3_0
    try clear hfz3_1
    try clear hfz3_2
    try clear hx415_0
    try clear hx415_1
    try clear hx415_2
    try clear hx416_0
    try clear hx416_1
    try clear hx416_2
    try clear hx417_0
    try clear hx417_1
    try clear hx417_2
    try clear p2
    try clear p415
    try clear p416
    try clear p417
    try clear q415
    try clear q416
    try clear q417
    obtain ⟨x7_3, x415000_3, x415001_3, x415002_3, u415000, u415001, u415002, rfl, HA, HK3, HO_415000, HO_415001, HO_415002, BK414, HB⟩ := hrel
    cases gk with
    | zero => exact absurd HA.out (by simp [hallmootref13_All.l2])
    | succ k3 => {
    have H := HA.out
    clear HA
    simp only [hallmootref13_All.l2] at H
    by_cases c21 : 0 ≤ x5_1
    {
    rw [if_pos c21] at H
    have c21b0 : decide (0 ≤ x5_1) = true := decide_eq_true c21
    clear c21
    by_cases c22 : x5_1 < (l0.length : Int)
    {
    rw [if_pos c22] at H
    have c22b0 : decide (x5_1 < (l0.length : Int)) = true := decide_eq_true c22
    clear c22
    by_cases c23 : x7_3 < (((rd_T62 l0 x5_1).f1).length : Int)
    {
    rw [if_pos c23] at H
    have c23b0 : decide (x7_3 < (((rd_T62 l0 x5_1).f1).length : Int)) = true := decide_eq_true c23
    clear c23
    by_cases c24 : 0 ≤ x7_3
    {
    rw [if_pos c24] at H
    have c24b0 : decide (0 ≤ x7_3) = true := decide_eq_true c24
    clear c24
    replace H := Option.bind_eq_some_iff.mp H
    obtain ⟨⟨t430, t433, t436⟩, A250, H⟩ := H
    replace H : (hallmootref13_All.l2 k3 l0 x5_1 (wrap64 (x7_3 + 1)) t430 t433 t436) = some (r1, r2) := H
    have A25 := aS A250
    clear A250
    have H' := aS H
    clear H
    have p427 : 0 ≤ (x5_1 : Int) := dd
    have q427 : x5_1 < (l0.length : Int) := dd
    obtain ⟨ad427, A427_0, c427_0, A427_1, c427_1, A427_2, c427_2, e427, hx427_0, hx427_1, hx427_2, hl427_0, hi427_0, hl427_1, hi427_1, hl427_2, hi427_2⟩ := at_T62 HR0.out x5_1 p427 q427
    obtain rfl : ad415 = ad427 := (by injection e427)
    replace hx427_0 := cc HB.out hx427_0
    replace hx427_1 := cc HB.out hx427_1
    replace hx427_2 := cc HB.out hx427_2
    have HR427_0 := aS hi427_0
    have HC427_0 := aS hl427_0
    clear hi427_0 hl427_0
    have HR427_1 := aS hi427_1
    have HC427_1 := aS hl427_1
    clear hi427_1 hl427_1
    have HR427_2 := aS hi427_2
    have HC427_2 := aS hl427_2
    clear hi427_2 hl427_2
    replace p427 := eq_true p427
    replace q427 := eq_true q427
    try go_wp2
    have n0_ := aS (Kd.V_drew HO_415000.out)
    have n1_ := aS (Kd.V_drew HO_415001.out)
    have n2_ := aS (Kd.V_drew HO_415002.out)
    have n3_ := aS (blk_drew BK414.out)
    have n4_ := aS (below_drew1 HB.out)
    clear HO_415000
    clear HO_415001
    clear HO_415002
    clear BK414
    clear HB
    have HO_415000 := n0_
    have HO_415001 := n1_
    have HO_415002 := n2_
    have BK414 := n3_
    have HB := n4_
    clear n0_ n1_ n2_ n3_ n4_
    have p428 : 0 ≤ (x5_1 : Int) := dd
    have q428 : x5_1 < (l0.length : Int) := dd
    obtain ⟨ad428, A428_0, c428_0, A428_1, c428_1, A428_2, c428_2, e428, hx428_0, hx428_1, hx428_2, hl428_0, hi428_0, hl428_1, hi428_1, hl428_2, hi428_2⟩ := at_T62 HR0.out x5_1 p428 q428
    have hw428_2 := hx428_2
    have hw428_1 := hx428_1
    have hw428_0 := hx428_0
    obtain rfl : ad415 = ad428 := (by injection e428)
    replace hx428_0 := cc HB.out hx428_0
    replace hx428_1 := cc HB.out hx428_1
    replace hx428_2 := cc HB.out hx428_2
    have HR428_0 := aS hi428_0
    have HC428_0 := aS hl428_0
    clear hi428_0 hl428_0
    have HR428_1 := aS hi428_1
    have HC428_1 := aS hl428_1
    clear hi428_1 hl428_1
    have HR428_2 := aS hi428_2
    have HC428_2 := aS hl428_2
    clear hi428_2 hl428_2
    replace p428 := eq_true p428
    replace q428 := eq_true q428
    have p429 : 0 ≤ (x7_3 : Int) := dd
    have q429 : x7_3 < (((rd_T62 l0 x5_1).f1).length : Int) := dd
    obtain ⟨ad429, e429, hx429_0, hx429_1⟩ := at_T33 HR428_1.out x7_3 p429 q429
    have hw429_1 := hx429_1
    have hw429_0 := hx429_0
    cases e429
    replace hx429_0 := cc HB.out hx429_0
    replace hx429_1 := cc HB.out hx429_1
    replace p429 := eq_true p429
    replace q429 := eq_true q429
    obtain ⟨Ao27, co27, eo27⟩ := Kd.V_slice HO_415000.out
    (first | subst eo27 | (injection eo27 with f1_ f2_ f3_; have f4_ := f1_.symm; have f5_ := f3_.symm; clear f1_ f2_ f3_; subst f4_; subst f5_))
    obtain ⟨Ao28, co28, eo28⟩ := Kd.V_slice HO_415001.out
    (first | subst eo28 | (injection eo28 with f1_ f2_ f3_; have f4_ := f1_.symm; have f5_ := f3_.symm; clear f1_ f2_ f3_; subst f4_; subst f5_))
    obtain ⟨Ao29, co29, eo29⟩ := Kd.V_slice HO_415002.out
    (first | subst eo29 | (injection eo29 with f1_ f2_ f3_; have f4_ := f1_.symm; have f5_ := f3_.symm; clear f1_ f2_ f3_; subst f4_; subst f5_))
    refine start_ (n := 11) (S := fun w' => w'.cell? ⟨gb414, 0, none⟩ = some (.slice Ao27 x415000_3.length co27) ∧ w'.cell? ⟨gb414, 1, none⟩ = some (.slice Ao28 x415001_3.length co28) ∧ w'.cell? ⟨gb414, 2, none⟩ = some (.slice Ao29 x415002_3.length co29) ∧ w'.cell? (ad415.add ((x5_1).toNat * 3)) = some (.slice A428_0 ((rd_T62 l0 x5_1).f0).length c428_0) ∧ w'.cell? ⟨(ad415.add ((x5_1).toNat * 3)).block, (ad415.add ((x5_1).toNat * 3)).off + 1, none⟩ = some (.slice (some ad429) ((rd_T62 l0 x5_1).f1).length c428_1) ∧ w'.cell? ⟨(ad415.add ((x5_1).toNat * 3)).block, (ad415.add ((x5_1).toNat * 3)).off + 2, none⟩ = some (.slice A428_2 ((rd_T62 l0 x5_1).f2).length c428_2) ∧ w'.cell? (ad429.add ((x7_3).toNat * 2)) = some (.int .i64 ((rd_T33 ((rd_T62 l0 x5_1).f1) x7_3).f0)) ∧ w'.cell? ⟨(ad429.add ((x7_3).toNat * 2)).block, (ad429.add ((x7_3).toNat * 2)).off + 1, none⟩ = some (.int .i64 ((rd_T33 ((rd_T62 l0 x5_1).f1) x7_3).f1))) (ds := [10]) #[false, false, false, false, false, false, false, false, false, false, false] (by kernel_rfl) rfl rfl ⟨(blk_cell BK414.out 0).trans rfl, (blk_cell BK414.out 1).trans rfl, (blk_cell BK414.out 2).trans rfl, (cc HB.out hw428_0), (cc HB.out hw428_1), (cc HB.out hw428_2), (cc HB.out hw429_0), (cc HB.out hw429_1)⟩ (fun hHeld => ?_); refine with_tabW hallmootref13_All.tab12 hallmootref13_All.bits12 (fun HT_ HW_ => ?_)
    generalize wr.drew = w26 at HO_415000 HO_415001 HO_415002 BK414 HB HR428_0 HR428_1 HR428_2 hx428_0 hx428_1 hx428_2 hx429_0 hx429_1 hHeld ⊢
    refine pure_ (i := 1) (N := some 46) (v := ?_) (a' := ?_) #[false, true, false, false, false, false, false, false, false, false, false] rfl rfl (any_of HT_.out (by kernel_rfl)) (fun _ _ _ h => h) (Or.inl ⟨by rfl, ?_⟩) ?_ ?_
    rotate_left
    {
    intro w'
    go_simp
    with_reducible rfl }
    rotate_left
    {
    simp only [Act.put, sT, s0, s1, i64_w, i32_w]
    rfl }
    refine pure_ (i := 2) (N := some 47) (v := ?_) (a' := ?_) #[false, true, true, false, false, false, false, false, false, false, false] rfl rfl (any_of HT_.out (by kernel_rfl)) (fun _ _ _ h => h) (Or.inl ⟨by rfl, ?_⟩) ?_ ?_
    rotate_left
    {
    intro w'
    go_simp
    with_reducible rfl }
    rotate_left
    {
    simp only [Act.put, sT, s0, s1, i64_w, i32_w]
    rfl }
    refine pure_ (i := 3) (N := some 48) (v := ?_) (a' := ?_) #[false, true, true, true, false, false, false, false, false, false, false] rfl rfl (any_of HT_.out (by kernel_rfl)) (fun _ _ _ h => h) (Or.inl ⟨by rfl, ?_⟩) ?_ ?_
    rotate_left
    {
    intro w'
    go_simp
    with_reducible rfl }
    rotate_left
    {
    simp only [Act.put, sT, s0, s1, i64_w, i32_w]
    rfl }
    refine pure_ (i := 4) (N := some 49) (v := ?_) (a' := ?_) #[false, true, true, true, true, false, false, false, false, false, false] rfl rfl (any_of HT_.out (by kernel_rfl)) (fun _ _ _ h => h) (Or.inl ⟨by rfl, ?_⟩) ?_ ?_
    rotate_left
    {
    intro w'
    go_simp
    with_reducible rfl }
    rotate_left
    {
    simp only [Act.put, sT, s0, s1, i64_w, i32_w]
    rfl }
    refine pure_ (i := 6) (N := some 51) (v := ?_) (a' := ?_) #[false, true, true, true, true, false, true, false, false, false, false] rfl rfl (any_of HT_.out (by kernel_rfl)) (fun _ _ _ h => h) (Or.inl ⟨by rfl, ?_⟩) ?_ ?_
    rotate_left
    {
    intro w'
    go_simp
    with_reducible rfl }
    rotate_left
    {
    simp only [Act.put, sT, s0, s1, i64_w, i32_w]
    rfl }
    refine take_ (i := 0) (N := some 45) (v := ?_) (a' := ?_) #[true, true, true, true, true, false, true, false, false, false, false] rfl rfl (take_ofW HT_.out HW_.out (by kernel_rfl)) (fun _ _ _ h => h) (Or.inl ⟨by rfl, ?_⟩) hHeld ?_ ?_
    rotate_left
    {
    rintro w' ⟨s0, s1, s2, s3, s4, s5, s6, s7⟩
    go_simp
    with_reducible rfl }
    rotate_left
    {
    simp only [Act.put, sT, s0, s1, i64_w, i32_w]
    rfl }
    refine take_ (i := 5) (N := some 50) (v := ?_) (a' := ?_) #[true, true, true, true, true, true, true, false, false, false, false] rfl rfl (take_ofW HT_.out HW_.out (by kernel_rfl)) (fun _ _ _ h => h) (Or.inl ⟨by rfl, ?_⟩) hHeld ?_ ?_
    rotate_left
    {
    rintro w' ⟨s0, s1, s2, s3, s4, s5, s6, s7⟩
    go_simp
    with_reducible rfl }
    rotate_left
    {
    simp only [Act.put, sT, s0, s1, i64_w, i32_w]
    rfl }
    refine pure_ (i := 7) (N := some 52) (v := ?_) (a' := ?_) #[true, true, true, true, true, true, true, true, false, false, false] rfl rfl (any_of HT_.out (by kernel_rfl)) (fun _ _ _ h => h) (Or.inl ⟨by rfl, ?_⟩) ?_ ?_
    rotate_left
    {
    intro w'
    go_simp
    with_reducible rfl }
    rotate_left
    {
    simp only [Act.put, sT, s0, s1, i64_w, i32_w]
    rfl }
    refine take_ (i := 8) (N := some 53) (v := ?_) (a' := ?_) #[true, true, true, true, true, true, true, true, true, false, false] rfl rfl (take_ofW HT_.out HW_.out (by kernel_rfl)) (fun _ _ _ h => h) (Or.inl ⟨by rfl, ?_⟩) hHeld ?_ ?_
    rotate_left
    {
    rintro w' ⟨s0, s1, s2, s3, s4, s5, s6, s7⟩
    go_simp
    with_reducible rfl }
    rotate_left
    {
    simp only [Act.put, sT, s0, s1, i64_w, i32_w]
    rfl }
    refine one_ (i := 9) (N := some 54) #[true, true, true, true, true, true, true, true, true, true, false] rfl rfl (one_of HT_.out (by kernel_rfl)) (by decide) (fun K hK => ?_)
    refine goes_ Try.func49 (by kernel_rfl) rfl #[.agg #[.slice Ao27 x415000_3.length co27, .slice Ao28 x415001_3.length co28, .slice Ao29 x415002_3.length co29], .agg #[.int .i64 ((rd_T33 ((rd_T62 l0 x5_1).f1) x7_3).f0), .int .i64 ((rd_T33 ((rd_T62 l0 x5_1).f1) x7_3).f1)]] (by rfl) rfl rfl (by (try simp only [List.map_toArray, List.map_cons, List.map_nil]); first | done | rfl | (simp only [List.length_drop, List.length_take]; rfl)) ?_
    with_reducible refine (hallmootref13_puts.calls k3 (fun k_ => ((w.heap.size ≤ k_) ∧ k_ ≠ gb414)) _ _ x415000_3 (fun k_ => ((w.heap.size ≤ k_) ∧ k_ ≠ gb414)) _ _ x415001_3 (fun k_ => ((w.heap.size ≤ k_) ∧ k_ ≠ gb414)) _ _ x415002_3 ((rd_T33 ((rd_T62 l0 x5_1).f1) x7_3).f0) ((rd_T33 ((rd_T62 l0 x5_1).f1) x7_3).f1) t430 t433 t436 _ ?side1 ?side2 ?side3 A25.out).mono ?_
    (case side1 => exact HO_415000.out)
    (case side2 => exact HO_415001.out)
    (case side3 => exact HO_415002.out)
    rintro e w30 ⟨v431, v434, v437, rfl, ho0, ho1, ho2, hb⟩
    refine ⟨_, rfl, ?_⟩
    have n0_ := aS (Kd.V_elder' (vv HO_415000.out) (Kd.R_base ho1) hb)
    have n1_ := aS (Kd.V_elder' (vv HO_415001.out) (Kd.R_base ho1) hb)
    have n2_ := aS (Kd.V_elder' (vv HO_415002.out) (Kd.R_base ho1) hb)
    have n3_ := aS (Kd.V_lower (Kd.V_mono (ok' := fun k_ => (w.heap.size ≤ k_) ∧ some k_ ≠ (v434 : Value).ownBlock ∧ k_ ≠ gb414) ho0 (fun k_ hk_ => ⟨Or.elim hk_.1 (fun hs_ => Or.elim hs_ (fun hs_ => hs_.1) (fun hs_ => Or.elim hs_ (fun hs_ => hs_.1) (fun hs_ => hs_.1))) (fun hn_ => (Nat.le_trans bz hn_)), hk_.2, Or.elim hk_.1 (fun hs_ => Or.elim hs_ (fun hs_ => hs_.2) (fun hs_ => Or.elim hs_ (fun hs_ => hs_.2) (fun hs_ => hs_.2))) (fun hn_ => (Kd.freshB (g := gb414) (o := .cells #[.slice Ao27 x415000_3.length co27, .slice Ao28 x415001_3.length co28, .slice Ao29 x415002_3.length co29] 62 (0, 0)) (kk BK414.out) k_ hn_))⟩)) bz)
    have n4_ := aS (Kd.R_lower (Kd.R_newM (M := fun k_ => (w.heap.size ≤ k_)) (Kd.R_mono (ok' := fun k_ => True) ho1 (fun _ hk_ => trivial)) bz (fun k_ h_ => h_)) bz)
    have n5_ := aS (Kd.V_lower (Kd.V_mono (ok' := fun k_ => (w.heap.size ≤ k_) ∧ some k_ ≠ (v434 : Value).ownBlock ∧ k_ ≠ gb414) ho2 (fun k_ hk_ => ⟨Or.elim hk_.1 (fun hs_ => Or.elim hs_ (fun hs_ => hs_.1) (fun hs_ => Or.elim hs_ (fun hs_ => hs_.1) (fun hs_ => hs_.1))) (fun hn_ => (Nat.le_trans bz hn_)), hk_.2, Or.elim hk_.1 (fun hs_ => Or.elim hs_ (fun hs_ => hs_.2) (fun hs_ => Or.elim hs_ (fun hs_ => hs_.2) (fun hs_ => hs_.2))) (fun hn_ => (Kd.freshB (g := gb414) (o := .cells #[.slice Ao27 x415000_3.length co27, .slice Ao28 x415001_3.length co28, .slice Ao29 x415002_3.length co29] 62 (0, 0)) (kk BK414.out) k_ hn_))⟩)) bz)
    have n6_ := aS (blk_below (g := gb414) (o := .cells #[.slice Ao27 x415000_3.length co27, .slice Ao28 x415001_3.length co28, .slice Ao29 x415002_3.length co29] 62 (0, 0)) (kk BK414.out) hb)
    have n7_ := aS (below_step bb hb)
    clear HO_415000
    clear HO_415001
    clear HO_415002
    clear BK414
    clear HB
    have HO_415000 := n0_
    have HO_415001 := n1_
    have HO_415002 := n2_
    have HO432 := n3_
    have HO435 := n4_
    have HO438 := n5_
    have BK414 := n6_
    have HB := n7_
    clear n0_ n1_ n2_ n3_ n4_ n5_ n6_ n7_
    (try clear hb)
    (try clear hb2)
    (try clear hk)
    (try clear hi)
    (try clear ho0)
    (try clear ho1)
    (try clear ho2)
    obtain ⟨Ao31, co31, eo31⟩ := Kd.V_slice HO432.out
    (first | subst eo31 | (injection eo31 with f1_ f2_ f3_; have f4_ := f1_.symm; have f5_ := f3_.symm; clear f1_ f2_ f3_; subst f4_; subst f5_))
    obtain ⟨Ao33, co33, eo33⟩ := Kd.R_slice HO435.out
    (first | subst eo33 | (injection eo33 with f1_ f2_ f3_; have f4_ := f1_.symm; have f5_ := f3_.symm; clear f1_ f2_ f3_; subst f4_; subst f5_))
    obtain ⟨Ao35, co35, eo35⟩ := Kd.V_slice HO438.out
    (first | subst eo35 | (injection eo35 with f1_ f2_ f3_; have f4_ := f1_.symm; have f5_ := f3_.symm; clear f1_ f2_ f3_; subst f4_; subst f5_))
    refine hK.out _ _ ⟨(blk_cell BK414.out 0).trans rfl, (blk_cell BK414.out 1).trans rfl, (blk_cell BK414.out 2).trans rfl, (cc HB.out hw428_0), (cc HB.out hw428_1), (cc HB.out hw428_2), (cc HB.out hw429_0), (cc HB.out hw429_1)⟩ (fun hHeld => ?_)
    clear hK K
    refine norm_ (a' := ?_) ?_ ?_
    rotate_left
    {
    show Act.put _ (some 54) _ = _
    simp only [Act.put, sT, s0, s1, i64_w, i32_w]
    rfl }
    refine last_ (i := 10) (N := none) #[true, true, true, true, true, true, true, true, true, true, true] rfl rfl (one_of HT_.out (by kernel_rfl)) (by decide) (fun K hK => ?_)
    have hs32 : w30.cell? ⟨gb414, 0, none⟩ = some (.slice Ao27 x415000_3.length co27) := (blk_cell BK414.out 0).trans rfl
    have hfs32 := blk_frozen BK414.out 0
    have hs34 : w30.cell? ⟨gb414, 1, none⟩ = some (.slice Ao28 x415001_3.length co28) := (blk_cell BK414.out 1).trans rfl
    have hfs34 := blk_frozen BK414.out 1
    have hs36 : w30.cell? ⟨gb414, 2, none⟩ = some (.slice Ao29 x415002_3.length co29) := (blk_cell BK414.out 2).trans rfl
    have hfs36 := blk_frozen BK414.out 2
    refine skip_ (w1 := ?_) (by rfl) rfl ?_ ?_
    rotate_left
    {
    go_simp
    rfl }
    refine hK.out _ _ ?_
    clear hK K
    refine done_ (done_of HT_.out (by kernel_rfl)) ?_
    try go_wp2
    go_roundg k3
    case measure => have := HK1.out; have := HK2.out; have := HK3.out; omega
    case rel => exact ⟨(wrap64 (x7_3 + 1)), (t430), (t433), (t436), (.slice Ao31 t430.length co31), (.slice Ao33 t433.length co33), (.slice Ao35 t436.length co35), (by first | rfl | (simp; done) | (simp [*]; done)), H', ⟨by have := HK1.out; have := HK2.out; have := HK3.out; omega⟩, ⟨by (with_reducible repeat (first | apply Kd.V_alloc | apply Kd.V_drewN | apply Kd.V_drew)); exact Kd.V_mono (Kd.V_far (p := ⟨gb414, 2, none⟩) (Kd.V_far (p := ⟨gb414, 1, none⟩) (Kd.V_far (p := ⟨gb414, 0, none⟩) (Kd.V_mono HO432.out (fun k_ hk => (⟨hk, hk.2.2⟩ : _ ∧ k_ ≠ gb414))) (fun _ hk => hk.2) (.slice Ao31 t430.length co31)) (fun _ hk => hk.2) (.slice Ao33 t433.length co33)) (fun _ hk => hk.2) (.slice Ao35 t436.length co35)) (fun _ hk => ⟨hk.1.1, hk.1.2.2⟩)⟩, ⟨Kd.R_V (rr (Kd.R_mono (Kd.R_far (p := ⟨gb414, 2, none⟩) (Kd.R_far (p := ⟨gb414, 1, none⟩) (Kd.R_far (p := ⟨gb414, 0, none⟩) (Kd.R_types (Kd.R_types HO435.out BK414.out (by decide)) BK414.out (by decide)) (fun _ hk => hk.2) (.slice Ao31 t430.length co31)) (fun _ hk => hk.2) (.slice Ao33 t433.length co33)) (fun _ hk => hk.2) (.slice Ao35 t436.length co35)) (fun _ hk => ⟨hk.1.1.1, hk.1.2⟩)))⟩, ⟨by (with_reducible repeat (first | apply Kd.V_alloc | apply Kd.V_drewN | apply Kd.V_drew)); exact Kd.V_mono (Kd.V_far (p := ⟨gb414, 2, none⟩) (Kd.V_far (p := ⟨gb414, 1, none⟩) (Kd.V_far (p := ⟨gb414, 0, none⟩) (Kd.V_mono HO438.out (fun k_ hk => (⟨hk, hk.2.2⟩ : _ ∧ k_ ≠ gb414))) (fun _ hk => hk.2) (.slice Ao31 t430.length co31)) (fun _ hk => hk.2) (.slice Ao33 t433.length co33)) (fun _ hk => hk.2) (.slice Ao35 t436.length co35)) (fun _ hk => ⟨hk.1.1, hk.1.2.2⟩)⟩, ⟨by (with_reducible repeat (first | refine blk_drewN ?_ _ | refine blk_drew ?_ | refine blk_alloc ?_ _)); refine blk_put (cs := #[.slice Ao31 t430.length co31, .slice Ao33 t433.length co33, .slice Ao29 x415002_3.length co29]) ?_ 2 _ rfl; (with_reducible repeat (first | refine blk_drewN ?_ _ | refine blk_drew ?_ | refine blk_alloc ?_ _)); refine blk_put (cs := #[.slice Ao31 t430.length co31, .slice Ao28 x415001_3.length co28, .slice Ao29 x415002_3.length co29]) ?_ 1 _ rfl; (with_reducible repeat (first | refine blk_drewN ?_ _ | refine blk_drew ?_ | refine blk_alloc ?_ _)); refine blk_put (cs := #[.slice Ao27 x415000_3.length co27, .slice Ao28 x415001_3.length co28, .slice Ao29 x415002_3.length co29]) ?_ 0 _ rfl; (with_reducible repeat (first | refine blk_drewN ?_ _ | refine blk_drew ?_ | refine blk_alloc ?_ _)); exact BK414.out⟩, ⟨by repeat (first | (with_reducible first | exact HB.out | apply below_alloc | apply pw_below_drewN | apply below_drew1 | refine below_set ?_ GE414.out) | exact HB.out)⟩⟩ }
    {
    rw [if_neg c24] at H
    exact absurd H (by simp) } }
    {
    rw [if_neg c23] at H
    have c23b0 : decide (x7_3 < (((rd_T62 l0 x5_1).f1).length : Int)) = false := decide_eq_false c23
    clear c23
    have H' := aS H
    clear H
    have p427 : 0 ≤ (x5_1 : Int) := dd
    have q427 : x5_1 < (l0.length : Int) := dd
    obtain ⟨ad427, A427_0, c427_0, A427_1, c427_1, A427_2, c427_2, e427, hx427_0, hx427_1, hx427_2, hl427_0, hi427_0, hl427_1, hi427_1, hl427_2, hi427_2⟩ := at_T62 HR0.out x5_1 p427 q427
    obtain rfl : ad415 = ad427 := (by injection e427)
    replace hx427_0 := cc HB.out hx427_0
    replace hx427_1 := cc HB.out hx427_1
    replace hx427_2 := cc HB.out hx427_2
    have HR427_0 := aS hi427_0
    have HC427_0 := aS hl427_0
    clear hi427_0 hl427_0
    have HR427_1 := aS hi427_1
    have HC427_1 := aS hl427_1
    clear hi427_1 hl427_1
    have HR427_2 := aS hi427_2
    have HC427_2 := aS hl427_2
    clear hi427_2 hl427_2
    replace p427 := eq_true p427
    replace q427 := eq_true q427
    go_wp2
    go_roundg k3
    case measure => have := HK1.out; have := HK2.out; have := HK3.out; omega
    case rel => exact ⟨(wrap64 (x5_1 + 1)), (x415000_3), (x415001_3), (x415002_3), (u415000), (u415001), (u415002), (by first | rfl | (simp; done) | (simp [*]; done)), H', ⟨by have := HK1.out; have := HK2.out; have := HK3.out; omega⟩, ⟨by (with_reducible repeat (first | apply Kd.V_alloc | apply Kd.V_drewN | apply Kd.V_drew)); exact HO_415000.out⟩, ⟨by (with_reducible repeat (first | apply Kd.V_alloc | apply Kd.V_drewN | apply Kd.V_drew)); exact HO_415001.out⟩, ⟨by (with_reducible repeat (first | apply Kd.V_alloc | apply Kd.V_drewN | apply Kd.V_drew)); exact HO_415002.out⟩, ⟨by (with_reducible repeat (first | refine blk_drewN ?_ _ | refine blk_drew ?_ | refine blk_alloc ?_ _)); exact BK414.out⟩, ⟨by repeat (first | (with_reducible first | exact HB.out | apply below_alloc | apply pw_below_drewN | apply below_drew1 | refine below_set ?_ GE414.out) | exact HB.out)⟩⟩ } }
    {
    rw [if_neg c22] at H
    exact absurd H (by simp) } }
    {
    rw [if_neg c21] at H
    exact absurd H (by simp) } } } }
   {
   rw [if_neg c6] at H
   exact absurd H (by simp) } }
   {
   rw [if_neg c5] at H
   exact absurd H (by simp) } } }
  {
  rw [if_neg c4] at H
  have c4b0 : decide (x5_1 < (l0.length : Int)) = false := decide_eq_false c4
  clear c4
  simp only [Option.some.injEq, Prod.mk.injEq] at H
  obtain ⟨rfl, rfl⟩ := H
  try go_wp2
  have n0_ := aS (Kd.V_drew HO_415000.out)
  have n1_ := aS (Kd.V_drew HO_415001.out)
  have n2_ := aS (Kd.V_drew HO_415002.out)
  have n3_ := aS (blk_drew BK414.out)
  have n4_ := aS (below_drew1 HB.out)
  clear HO_415000
  clear HO_415001
  clear HO_415002
  clear BK414
  clear HB
  have HO_415000 := n0_
  have HO_415001 := n1_
  have HO_415002 := n2_
  have BK414 := n3_
  have HB := n4_
  clear n0_ n1_ n2_ n3_ n4_
  refine start_ (n := 6) (S := fun w' => w'.cell? ⟨gb414, 0, none⟩ = some (u415000) ∧ w'.cell? ⟨gb414, 1, none⟩ = some (u415001) ∧ w'.cell? ⟨gb414, 2, none⟩ = some (u415002)) (ds := []) #[false, false, false, false, false, false] (by kernel_rfl) rfl rfl ⟨(blk_cell BK414.out 0).trans rfl, (blk_cell BK414.out 1).trans rfl, (blk_cell BK414.out 2).trans rfl⟩ (fun hHeld => ?_)
  generalize wr.drew = w37 at HO_415000 HO_415001 HO_415002 BK414 HB hHeld ⊢
  refine pure_ (i := 0) (N := some 55) (v := ?_) (a' := ?_) #[true, false, false, false, false, false] rfl rfl (by kernel_rfl) (fun _ _ _ h => h) (Or.inl ⟨by rfl, ?_⟩) ?_ ?_
  rotate_left
  {
  intro w'
  go_simp
  with_reducible rfl }
  rotate_left
  {
  simp only [Act.put, sT, s0, s1, i64_w, i32_w]
  rfl }
  refine pure_ (i := 2) (N := some 57) (v := ?_) (a' := ?_) #[true, false, true, false, false, false] rfl rfl (by kernel_rfl) (fun _ _ _ h => h) (Or.inl ⟨by rfl, ?_⟩) ?_ ?_
  rotate_left
  {
  intro w'
  go_simp
  with_reducible rfl }
  rotate_left
  {
  simp only [Act.put, sT, s0, s1, i64_w, i32_w]
  rfl }
  refine take_ (i := 1) (N := some 56) (v := ?_) (a' := ?_) #[true, true, true, false, false, false] rfl rfl (by kernel_rfl) (fun _ _ _ h => h) (Or.inl ⟨by rfl, ?_⟩) hHeld ?_ ?_
  rotate_left
  {
  rintro w' ⟨s0, s1, s2⟩
  go_simp
  with_reducible rfl }
  rotate_left
  {
  simp only [Act.put, sT, s0, s1, i64_w, i32_w]
  rfl }
  refine pure_ (i := 4) (N := some 2) (v := ?_) (a' := ?_) #[true, true, true, false, true, false] rfl rfl (by kernel_rfl) (fun _ _ _ h => h) (Or.inl ⟨by rfl, ?_⟩) ?_ ?_
  rotate_left
  {
  intro w'
  go_simp
  with_reducible rfl }
  rotate_left
  {
  simp only [Act.put, sT, s0, s1, i64_w, i32_w]
  rfl }
  refine take_ (i := 3) (N := some 58) (v := ?_) (a' := ?_) #[true, true, true, true, true, false] rfl rfl (by kernel_rfl) (fun _ _ _ h => h) (Or.inl ⟨by rfl, ?_⟩) hHeld ?_ ?_
  rotate_left
  {
  rintro w' ⟨s0, s1, s2⟩
  go_simp
  with_reducible rfl }
  rotate_left
  {
  simp only [Act.put, sT, s0, s1, i64_w, i32_w]
  rfl }
  refine pure_ (i := 5) (N := some 3) (v := ?_) (a' := ?_) #[true, true, true, true, true, true] rfl rfl (by kernel_rfl) (fun _ _ _ h => h) (Or.inl ⟨by rfl, ?_⟩) ?_ ?_
  rotate_left
  {
  intro w'
  go_simp
  with_reducible rfl }
  rotate_left
  {
  simp only [Act.put, sT, s0, s1, i64_w, i32_w]
  rfl }
  refine done_ (by kernel_rfl) ?_
  try go_wp2
  go_ret2
  exact ⟨_, _, by first | rfl | (simp [errW_none, errW_some] <;> rfl) | (simp [*, errW_none, errW_some] <;> rfl), by (with_reducible repeat (first | apply Kd.V_alloc | apply Kd.V_drewN | apply Kd.V_drew)); exact Kd.V_mono HO_415000.out (fun _ hk => hk.1), by (with_reducible repeat (first | apply Kd.V_alloc | apply Kd.V_drewN | apply Kd.V_drew)); exact Kd.V_mono HO_415001.out (fun _ hk => hk.1), by repeat (first | (with_reducible first | exact HB.out | apply below_alloc | apply pw_below_drewN | apply below_drew1 | refine below_set ?_ GE414.out) | exact HB.out)⟩ } }

end Go.Proofs.Ytfojpobblebigaa.P
