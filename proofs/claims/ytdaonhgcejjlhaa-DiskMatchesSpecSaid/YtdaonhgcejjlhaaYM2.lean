/- Merged: Written by pp.py (this session's program over the kit's printer): functions, contracts. Not trusted: Lean checks it. | Written by pp.py (this session's program over the kit's printer): functions, contracts. Not trusted: Lean checks it. | Written by pp.py (this session's program over the kit's printer): functions, contracts. Not trusted: Lean checks it. | Plain loops of package disk's reference: Few, New, Right, Same, and the program's Same. | Written by pp.py (this session's program over the kit's printer): functions, contracts. Not trusted: Lean checks it. | Written by pp.py (this session's program over the kit's printer): functions, contracts. Not trusted: Lean checks it. | Written by pp.py (this session's program over the kit's printer): functions, contracts. Not trusted: Lean checks it. | The reference's Crash computes what the program's does. | The reference's Crash (22), walked by hand: it makes what the program's makes. -/
import Derived.Test.YtdaonhgcejjlhaaYM0
import Derived.Test.YtdaonhgcejjlhaaYM1
import Derived.RegionTactic
import Derived.BigRegion
namespace Go.Proofs.Ytdaonhgcejjlhaa.P
open Go.RowKit Go.Proofs.YtdaonhgcejjlhaaW.PrintWords Go.Proofs.YtdaonhgcejjlhaaW.PrintLast Go.Proofs.YtdaonhgcejjlhaaW.PrintMore
attribute [local go_sem] max2_int min2_int max_two min_two max_three min_three max_four min_four   -- for this text's walks alone
set_option linter.unusedVariables false
set_option linter.unusedSimpArgs false

attribute [local go_sem high] eqA46
/-! ### hallmootref22_Same: function 14 -/
mutual
def hallmootref22_Same.j0 : Nat → Bool → List ByteArray → List (S46) → List ByteArray → List (S46) → Option (Bool)
  | 0, _, _, _, _, _ => none
  | k + 1, x22, x235000, x235001, x236000, x236001 => if x22 = true then (some false) else (hallmootref22_Same.l0 k 0 x235000 x235001 x236000 x236001)
def hallmootref22_Same.l0 : Nat → Int → List ByteArray → List (S46) → List ByteArray → List (S46) → Option (Bool)
  | 0, _, _, _, _, _ => none
  | k + 1, x5, x235000, x235001, x236000, x236001 => if x5 < (x235000.length : Int) then (if 0 ≤ x5 then (if x5 < (x236000.length : Int) then (if (rdOf ByteArray.empty x235000 x5).toList = (rdOf ByteArray.empty x236000 x5).toList then (hallmootref22_Same.l0 k (wrap64 (x5 + 1)) x235000 x235001 x236000 x236001) else (some false)) else (none)) else (none)) else (hallmootref22_Same.l1 k 0 x235000 x235001 x236000 x236001)
def hallmootref22_Same.l1 : Nat → Int → List ByteArray → List (S46) → List ByteArray → List (S46) → Option (Bool)
  | 0, _, _, _, _, _ => none
  | k + 1, x6, x235000, x235001, x236000, x236001 => if x6 < (x235001.length : Int) then (if 0 ≤ x6 then (if x6 < (x236001.length : Int) then (if (!(((rd_T46 x235001 x6).f0) == ((rd_T46 x236001 x6).f0)) || (!((((rd_T46 x235001 x6).f1).toList) == (((rd_T46 x236001 x6).f1).toList)))) = true then (some false) else (hallmootref22_Same.l1 k (wrap64 (x6 + 1)) x235000 x235001 x236000 x236001)) else (none)) else (none)) else (some true)
end
def hallmootref22_Same.f (k : Nat) (l0_0 : List ByteArray) (l0_1 : List (S46)) (l1_0 : List ByteArray) (l1_1 : List (S46)) : Option (Bool) := if (l0_0.length : Int) = (l1_0.length : Int) then (hallmootref22_Same.j0 k ((l0_1.length : Int) != (l1_1.length : Int)) l0_0 l0_1 l1_0 l1_1) else (hallmootref22_Same.j0 k true l0_0 l0_1 l1_0 l1_1)
theorem hallmootref22_Same.mono_l : ∀ k, (∀ y0 y1 y2 y3 y4, LeO (hallmootref22_Same.j0 k y0 y1 y2 y3 y4) (hallmootref22_Same.j0 (k + 1) y0 y1 y2 y3 y4)) ∧ (∀ y0 y1 y2 y3 y4, LeO (hallmootref22_Same.l0 k y0 y1 y2 y3 y4) (hallmootref22_Same.l0 (k + 1) y0 y1 y2 y3 y4)) ∧ (∀ y0 y1 y2 y3 y4, LeO (hallmootref22_Same.l1 k y0 y1 y2 y3 y4) (hallmootref22_Same.l1 (k + 1) y0 y1 y2 y3 y4))
  | 0 => ⟨fun _ _ _ _ _ r h => by simp [hallmootref22_Same.j0] at h, fun _ _ _ _ _ r h => by simp [hallmootref22_Same.l0] at h, fun _ _ _ _ _ r h => by simp [hallmootref22_Same.l1] at h⟩
  | k + 1 => by
    obtain ⟨ih0, ih1, ih2⟩ := hallmootref22_Same.mono_l k
    refine ⟨?_, ?_, ?_⟩
    · intro y0 y1 y2 y3 y4
      unfold hallmootref22_Same.j0
      repeat' first
      | (with_reducible exact ih0 _ _ _ _ _)
      | (with_reducible exact ih1 _ _ _ _ _)
      | (with_reducible exact ih2 _ _ _ _ _)
      | (with_reducible exact LeO.refl _)
      | (with_reducible exact LeO.none _)
      | (with_reducible refine LeO.ite ?_ ?_)
      | (with_reducible refine LeO.bind ?_ (fun _ => ?_))
      | exact ih0 _ _ _ _ _
      | exact ih1 _ _ _ _ _
      | exact ih2 _ _ _ _ _
      | exact LeO.none _
      | refine LeO.ite ?_ ?_
      | refine LeO.bind ?_ (fun _ => ?_)
    · intro y0 y1 y2 y3 y4
      unfold hallmootref22_Same.l0
      repeat' first
      | (with_reducible exact ih0 _ _ _ _ _)
      | (with_reducible exact ih1 _ _ _ _ _)
      | (with_reducible exact ih2 _ _ _ _ _)
      | (with_reducible exact LeO.refl _)
      | (with_reducible exact LeO.none _)
      | (with_reducible refine LeO.ite ?_ ?_)
      | (with_reducible refine LeO.bind ?_ (fun _ => ?_))
      | exact ih0 _ _ _ _ _
      | exact ih1 _ _ _ _ _
      | exact ih2 _ _ _ _ _
      | exact LeO.none _
      | refine LeO.ite ?_ ?_
      | refine LeO.bind ?_ (fun _ => ?_)
    · intro y0 y1 y2 y3 y4
      unfold hallmootref22_Same.l1
      repeat' first
      | (with_reducible exact ih0 _ _ _ _ _)
      | (with_reducible exact ih1 _ _ _ _ _)
      | (with_reducible exact ih2 _ _ _ _ _)
      | (with_reducible exact LeO.refl _)
      | (with_reducible exact LeO.none _)
      | (with_reducible refine LeO.ite ?_ ?_)
      | (with_reducible refine LeO.bind ?_ (fun _ => ?_))
      | exact ih0 _ _ _ _ _
      | exact ih1 _ _ _ _ _
      | exact ih2 _ _ _ _ _
      | exact LeO.none _
      | refine LeO.ite ?_ ?_
      | refine LeO.bind ?_ (fun _ => ?_)
theorem hallmootref22_Same.mono : ∀ a0 a1 a2 a3 k, LeO (hallmootref22_Same.f k a0 a1 a2 a3) (hallmootref22_Same.f (k + 1) a0 a1 a2 a3) := by
 intro a0 a1 a2 a3 k
 obtain ⟨ih0, ih1, ih2⟩ := hallmootref22_Same.mono_l k
 unfold hallmootref22_Same.f
 repeat' first | (with_reducible exact ih0 _ _ _ _ _) | (with_reducible exact ih1 _ _ _ _ _) | (with_reducible exact ih2 _ _ _ _ _) | (with_reducible exact LeO.refl _) | (with_reducible exact LeO.none _) | (with_reducible refine LeO.ite ?_ ?_) | (with_reducible refine LeO.bind ?_ (fun _ => ?_)) | exact ih0 _ _ _ _ _ | exact ih1 _ _ _ _ _ | exact ih2 _ _ _ _ _ | exact LeO.none _ | refine LeO.ite ?_ ?_ | refine LeO.bind ?_ (fun _ => ?_)
set_option maxHeartbeats 8000000 in
set_option maxRecDepth 100000 in
theorem hallmootref22_Same.calls (k : Nat) (A0_0 : Option Addr) (c0_0 : Nat) (l0_0 : List ByteArray) (A0_1 : Option Addr) (c0_1 : Nat) (l0_1 : List (S46)) (A1_0 : Option Addr) (c1_0 : Nat) (l1_0 : List ByteArray) (A1_1 : Option Addr) (c1_1 : Nat) (l1_1 : List (S46)) (r : Bool) (w : World) (hr0_0 : Kd.C Kd.string w A0_0 l0_0.length l0_0) (hc0_0 : l0_0.length ≤ c0_0) (hr0_1 : Kd.C k46 w A0_1 l0_1.length l0_1) (hc0_1 : l0_1.length ≤ c0_1) (hr1_0 : Kd.C Kd.string w A1_0 l1_0.length l1_0) (hc1_0 : l1_0.length ≤ c1_0) (hr1_1 : Kd.C k46 w A1_1 l1_1.length l1_1) (hc1_1 : l1_1.length ≤ c1_1) (h : hallmootref22_Same.f k l0_0 l0_1 l1_0 l1_1 = some r) : Calls Try.prog 14 #[.agg #[.slice A0_0 l0_0.length c0_0, .slice A0_1 l0_1.length c0_1], .agg #[.slice A1_0 l1_0.length c1_0, .slice A1_1 l1_1.length c1_1]] w fun e w' => e = .returned (.bool r) ∧ Below w.heap.size w w' := by
 have hu25 := Try.underlying25
 have hu46 := Try.underlying46
 have HR0_0 := aS hr0_0
 have HC0_0 := aS hc0_0
 clear hr0_0 hc0_0
 have HR0_1 := aS hr0_1
 have HC0_1 := aS hc0_1
 clear hr0_1 hc0_1
 have HR1_0 := aS hr1_0
 have HC1_0 := aS hc1_0
 clear hr1_0 hc1_0
 have HR1_1 := aS hr1_1
 have HC1_1 := aS hc1_1
 clear hr1_1 hc1_1
 have HB := aS (Below.refl w.heap.size w)
 have H : (if (l0_0.length : Int) = (l1_0.length : Int) then (hallmootref22_Same.j0 k ((l0_1.length : Int) != (l1_1.length : Int)) l0_0 l0_1 l1_0 l1_1) else (hallmootref22_Same.j0 k true l0_0 l0_1 l1_0 l1_1)) = some r := h
 clear h
 have HC3 := aS H
 clear H
 go_enter Try.func14, Try.ntmps14
 go_upto_region 1 with (first | ((with_reducible refine gate_dst (N := 2) rfl ?_); (try (refine gate_guard (by rfl) ?_; dsimp only)); refine box_event ?hg (N := 2) ?hd (cs := #[.slice A0_0 l0_0.length c0_0, .slice A0_1 l0_1.length c0_1]) (t := 25) ?hr ?_; (case hd => rfl); (case hg => rfl); (case hr => first | (go_simp; done) | (go_simp; rfl)); intro gb234 hg w4 hbox hb; have n0_ := aS (below_step bb hb); have n1_ := aS (hbox); have n2_ := aS ((by rw [hg]; exact bz : w.heap.size ≤ gb234)); have n3_ := aS ((by rw [hg]; exact bz : w.heap.size ≤ gb234)); clear HB; have HB := n0_; have BK234 := n1_; have GW234 := n2_; have GE234 := n3_; clear n0_ n1_ n2_ n3_; clear hb hbox hg) | ((with_reducible refine gate_dst (N := 3) rfl ?_); (try (refine gate_guard (by rfl) ?_; dsimp only)); refine box_event ?hg (N := 3) ?hd (cs := #[.slice A1_0 l1_0.length c1_0, .slice A1_1 l1_1.length c1_1]) (t := 25) ?hr ?_; (case hd => rfl); (case hg => rfl); (case hr => first | (go_simp; done) | (go_simp; rfl)); intro gb235 hg w5 hbox hb; have n0_ := aS (kb BK234.out hb); have n1_ := aS (below_step bb hb); have n2_ := aS (hbox); have n3_ := aS ((by rw [hg]; exact bz : w.heap.size ≤ gb235)); have n4_ := aS ((by rw [hg]; exact bz : w.heap.size ≤ gb235)); have n5_ := aS ((by rw [hg]; exact Nat.ne_of_lt (blk_lt (g := gb234) (o := .cells #[.slice A0_0 l0_0.length c0_0, .slice A0_1 l0_1.length c0_1] 25 (0, 0)) (kk BK234.out)) : gb234 ≠ gb235)); have n6_ := aS ((by rw [hg]; exact Nat.ne_of_gt (blk_lt (g := gb234) (o := .cells #[.slice A0_0 l0_0.length c0_0, .slice A0_1 l0_1.length c0_1] 25 (0, 0)) (kk BK234.out)) : gb235 ≠ gb234)); clear BK234; clear HB; have BK234 := n0_; have HB := n1_; have BK235 := n2_; have GW235 := n3_; have GE235 := n4_; have NB234_235 := n5_; have NB235_234 := n6_; clear n0_ n1_ n2_ n3_ n4_ n5_ n6_; clear hb hbox hg))
 repeat (go_quiet (first | ((with_reducible refine gate_dst (N := 2) rfl ?_); (try (refine gate_guard (by rfl) ?_; dsimp only)); refine box_event ?hg (N := 2) ?hd (cs := #[.slice A0_0 l0_0.length c0_0, .slice A0_1 l0_1.length c0_1]) (t := 25) ?hr ?_; (case hd => rfl); (case hg => rfl); (case hr => first | (go_simp; done) | (go_simp; rfl)); intro gb234 hg w4 hbox hb; have n0_ := aS (below_step bb hb); have n1_ := aS (hbox); have n2_ := aS ((by rw [hg]; exact bz : w.heap.size ≤ gb234)); have n3_ := aS ((by rw [hg]; exact bz : w.heap.size ≤ gb234)); clear HB; have HB := n0_; have BK234 := n1_; have GW234 := n2_; have GE234 := n3_; clear n0_ n1_ n2_ n3_; clear hb hbox hg) | ((with_reducible refine gate_dst (N := 3) rfl ?_); (try (refine gate_guard (by rfl) ?_; dsimp only)); refine box_event ?hg (N := 3) ?hd (cs := #[.slice A1_0 l1_0.length c1_0, .slice A1_1 l1_1.length c1_1]) (t := 25) ?hr ?_; (case hd => rfl); (case hg => rfl); (case hr => first | (go_simp; done) | (go_simp; rfl)); intro gb235 hg w5 hbox hb; have n0_ := aS (kb BK234.out hb); have n1_ := aS (below_step bb hb); have n2_ := aS (hbox); have n3_ := aS ((by rw [hg]; exact bz : w.heap.size ≤ gb235)); have n4_ := aS ((by rw [hg]; exact bz : w.heap.size ≤ gb235)); have n5_ := aS ((by rw [hg]; exact Nat.ne_of_lt (blk_lt (g := gb234) (o := .cells #[.slice A0_0 l0_0.length c0_0, .slice A0_1 l0_1.length c0_1] 25 (0, 0)) (kk BK234.out)) : gb234 ≠ gb235)); have n6_ := aS ((by rw [hg]; exact Nat.ne_of_gt (blk_lt (g := gb234) (o := .cells #[.slice A0_0 l0_0.length c0_0, .slice A0_1 l0_1.length c0_1] 25 (0, 0)) (kk BK234.out)) : gb235 ≠ gb234)); clear BK234; clear HB; have BK234 := n0_; have HB := n1_; have BK235 := n2_; have GW235 := n3_; have GE235 := n4_; have NB234_235 := n5_; have NB235_234 := n6_; clear n0_ n1_ n2_ n3_ n4_ n5_ n6_; clear hb hbox hg)); go_upto_region 1 with (first | ((with_reducible refine gate_dst (N := 2) rfl ?_); (try (refine gate_guard (by rfl) ?_; dsimp only)); refine box_event ?hg (N := 2) ?hd (cs := #[.slice A0_0 l0_0.length c0_0, .slice A0_1 l0_1.length c0_1]) (t := 25) ?hr ?_; (case hd => rfl); (case hg => rfl); (case hr => first | (go_simp; done) | (go_simp; rfl)); intro gb234 hg w4 hbox hb; have n0_ := aS (below_step bb hb); have n1_ := aS (hbox); have n2_ := aS ((by rw [hg]; exact bz : w.heap.size ≤ gb234)); have n3_ := aS ((by rw [hg]; exact bz : w.heap.size ≤ gb234)); clear HB; have HB := n0_; have BK234 := n1_; have GW234 := n2_; have GE234 := n3_; clear n0_ n1_ n2_ n3_; clear hb hbox hg) | ((with_reducible refine gate_dst (N := 3) rfl ?_); (try (refine gate_guard (by rfl) ?_; dsimp only)); refine box_event ?hg (N := 3) ?hd (cs := #[.slice A1_0 l1_0.length c1_0, .slice A1_1 l1_1.length c1_1]) (t := 25) ?hr ?_; (case hd => rfl); (case hg => rfl); (case hr => first | (go_simp; done) | (go_simp; rfl)); intro gb235 hg w5 hbox hb; have n0_ := aS (kb BK234.out hb); have n1_ := aS (below_step bb hb); have n2_ := aS (hbox); have n3_ := aS ((by rw [hg]; exact bz : w.heap.size ≤ gb235)); have n4_ := aS ((by rw [hg]; exact bz : w.heap.size ≤ gb235)); have n5_ := aS ((by rw [hg]; exact Nat.ne_of_lt (blk_lt (g := gb234) (o := .cells #[.slice A0_0 l0_0.length c0_0, .slice A0_1 l0_1.length c0_1] 25 (0, 0)) (kk BK234.out)) : gb234 ≠ gb235)); have n6_ := aS ((by rw [hg]; exact Nat.ne_of_gt (blk_lt (g := gb234) (o := .cells #[.slice A0_0 l0_0.length c0_0, .slice A0_1 l0_1.length c0_1] 25 (0, 0)) (kk BK234.out)) : gb235 ≠ gb234)); clear BK234; clear HB; have BK234 := n0_; have HB := n1_; have BK235 := n2_; have GW235 := n3_; have GE235 := n4_; have NB234_235 := n5_; have NB235_234 := n6_; clear n0_ n1_ n2_ n3_ n4_ n5_ n6_; clear hb hbox hg)))
 (try simp only [Act.put, List.setIfInBounds_toArray, List.set_cons_zero, List.set_cons_succ])
 go_cut [22] (fun v22 wc => ∃ (kq : Nat) (x22_2 : Bool), v22 = .bool x22_2 ∧ Aside0 (hallmootref22_Same.j0 kq x22_2 l0_0 l0_1 l1_0 l1_1 = some r) ∧ Aside0 (kq ≤ k) ∧ Aside0 (wc.heap[gb234]? = some (.cells #[(.slice A0_0 l0_0.length c0_0), (.slice A0_1 l0_1.length c0_1)] 25 (0, 0))) ∧ Aside0 (wc.heap[gb235]? = some (.cells #[(.slice A1_0 l1_0.length c1_0), (.slice A1_1 l1_1.length c1_1)] 25 (0, 0))) ∧ Aside0 (Below w.heap.size w wc))
 case first =>
  have H := HC3.out
  clear HC3
  by_cases c6 : (l0_0.length : Int) = (l1_0.length : Int)
  {
  rw [if_pos c6] at H
  have c6b0 : ((l0_0.length : Int) == (l1_0.length : Int)) = true := beq_iff_eq.mpr c6
  have c6b1 : ((l0_0.length : Int) != (l1_0.length : Int)) = false := bne_eq_false_iff_eq.mpr c6
  have c6b2 : (l0_0.length == l1_0.length) = true := by first | simpa using c6 | (simp at c6 ⊢; omega)
  clear c6
  (first | rw [c6b0] | (simp only [i64_w, i32_w]; rw [c6b0]) | skip)
  have H' := aS H
  clear H
  have hnb7 := NB234_235.out
  have hnc7 := NB235_234.out
  have hcz8_0 : w5.cell? ⟨gb234, 0, none⟩ = some (.slice A0_0 l0_0.length c0_0) := (blk_cell BK234.out 0).trans rfl
  have hcz8_1 : w5.cell? ⟨gb234, 1, none⟩ = some (.slice A0_1 l0_1.length c0_1) := (blk_cell BK234.out 1).trans rfl
  have hfz8_0 := blk_frozen BK234.out 0
  have hfz8_1 := blk_frozen BK234.out 1
  have hcz9_0 : w5.cell? ⟨gb235, 0, none⟩ = some (.slice A1_0 l1_0.length c1_0) := (blk_cell BK235.out 0).trans rfl
  have hcz9_1 : w5.cell? ⟨gb235, 1, none⟩ = some (.slice A1_1 l1_1.length c1_1) := (blk_cell BK235.out 1).trans rfl
  have hfz9_0 := blk_frozen BK235.out 0
  have hfz9_1 := blk_frozen BK235.out 1
  go_wp2
  repeat (go_quiet (fail); try go_wp2)
  go_meet
  case rel => exact ⟨_, (((l0_1.length : Int) != (l1_1.length : Int))), (by first | rfl | (simp; done) | (simp [*]; done)), H', ⟨by first | omega | exact Nat.le_refl _⟩, ⟨kk BK234.out⟩, ⟨kk BK235.out⟩, ⟨by repeat (first | (with_reducible first | exact HB.out | apply below_alloc | apply pw_below_drewN | apply below_drew1 | refine below_set ?_ GE234.out | refine below_set ?_ GE235.out) | exact HB.out)⟩⟩ }
  {
  rw [if_neg c6] at H
  have c6b0 : ((l0_0.length : Int) == (l1_0.length : Int)) = false := beq_eq_false_iff_ne.mpr c6
  have c6b1 : ((l0_0.length : Int) != (l1_0.length : Int)) = true := bne_iff_ne.mpr c6
  have c6b2 : (l0_0.length == l1_0.length) = false := by first | simpa using c6 | (simp at c6 ⊢; omega)
  (first | rw [c6b0] | (simp only [i64_w, i32_w]; rw [c6b0]) | skip)
  have H' := aS H
  clear H
  have hnb10 := NB234_235.out
  have hnc10 := NB235_234.out
  have hcz11_0 : w5.cell? ⟨gb234, 0, none⟩ = some (.slice A0_0 l0_0.length c0_0) := (blk_cell BK234.out 0).trans rfl
  have hcz11_1 : w5.cell? ⟨gb234, 1, none⟩ = some (.slice A0_1 l0_1.length c0_1) := (blk_cell BK234.out 1).trans rfl
  have hfz11_0 := blk_frozen BK234.out 0
  have hfz11_1 := blk_frozen BK234.out 1
  have hcz12_0 : w5.cell? ⟨gb235, 0, none⟩ = some (.slice A1_0 l1_0.length c1_0) := (blk_cell BK235.out 0).trans rfl
  have hcz12_1 : w5.cell? ⟨gb235, 1, none⟩ = some (.slice A1_1 l1_1.length c1_1) := (blk_cell BK235.out 1).trans rfl
  have hfz12_0 := blk_frozen BK235.out 0
  have hfz12_1 := blk_frozen BK235.out 1
  go_wp2
  repeat (go_quiet (fail); try go_wp2)
  go_meet
  case rel => exact ⟨_, (true), (by first | rfl | (simp; done) | (simp [*]; done)), H', ⟨by first | omega | exact Nat.le_refl _⟩, ⟨kk BK234.out⟩, ⟨kk BK235.out⟩, ⟨by repeat (first | (with_reducible first | exact HB.out | apply below_alloc | apply pw_below_drewN | apply below_drew1 | refine below_set ?_ GE234.out | refine below_set ?_ GE235.out) | exact HB.out)⟩⟩ }
 case rest =>
  clear HC3
  try clear c1
  try clear p2
  try clear c6
  try clear c6b0
  try clear c6b1
  try clear c6b2
  try clear c7
  try clear c10
  try clear hcz11_0
  try clear hcz11_1
  try clear hcz12_0
  try clear hcz12_1
  try clear hcz8_0
  try clear hcz8_1
  try clear hcz9_0
  try clear hcz9_1
  try clear hfz11_0
  try clear hfz11_1
  try clear hfz12_0
  try clear hfz12_1
  try clear hfz8_0
  try clear hfz8_1
  try clear hfz9_0
  try clear hfz9_1
  obtain ⟨kq, x22_2, rfl, HA, HJ2, BK234, BK235, HB⟩ := hcut
  cases kq with
  | zero => exact absurd HA.out (by simp [hallmootref22_Same.j0])
  | succ kj2 => {
  have H := HA.out
  clear HA
  simp only [hallmootref22_Same.j0] at H
  by_cases c13 : x22_2 = true
  {
  subst c13
  have H1 : (some false) = some r := by rw [if_pos rfl] at H; exact H
  clear H
  have H := H1
  clear H1
  obtain rfl := Option.some.inj H
  go_wp2
  repeat (go_quiet (fail); try go_wp2)
  go_ret
  exact ⟨by first | rfl | (simp [errW_none, errW_some] <;> rfl) | (simp [*, errW_none, errW_some] <;> rfl), by repeat (first | (with_reducible first | exact HB.out | apply below_alloc | apply pw_below_drewN | apply below_drew1 | refine below_set ?_ GE234.out | refine below_set ?_ GE235.out) | exact HB.out)⟩ }
  {
  replace c13 := Bool.eq_false_iff.mpr c13
  subst c13
  have H1 : (hallmootref22_Same.l0 kj2 0 l0_0 l0_1 l1_0 l1_1) = some r := by rw [if_neg (show ¬ (false = true) by decide)] at H; exact H
  clear H
  have H := H1
  clear H1
  have H' := aS H
  clear H
  go_wp2
  repeat (go_quiet (fail); try go_wp2)
  go_loopg [5] kj2 (fun kq v5 w' => ∃ (x5_2 : Int), v5 = .int .i64 x5_2 ∧ Aside0 (hallmootref22_Same.l0 kq x5_2 l0_0 l0_1 l1_0 l1_1 = some r) ∧ Aside0 (kq ≤ kj2) ∧ Aside0 (w'.heap[gb234]? = some (.cells #[(.slice A0_0 l0_0.length c0_0), (.slice A0_1 l0_1.length c0_1)] 25 (0, 0))) ∧ Aside0 (w'.heap[gb235]? = some (.cells #[(.slice A1_0 l1_0.length c1_0), (.slice A1_1 l1_1.length c1_1)] 25 (0, 0))) ∧ Aside0 (Below w.heap.size w w'))
  case atStart => exact ⟨(0), (by first | rfl | (simp; done) | (simp [*]; done)), H', ⟨Nat.le_refl _⟩, ⟨kk BK234.out⟩, ⟨kk BK235.out⟩, ⟨by repeat (first | (with_reducible first | exact HB.out | apply below_alloc | apply pw_below_drewN | apply below_drew1 | refine below_set ?_ GE234.out | refine below_set ?_ GE235.out) | exact HB.out)⟩⟩
  case round =>
   clear H'
   try clear c1
   try clear p2
   try clear c6
   try clear c6b0
   try clear c6b1
   try clear c6b2
   try clear c7
   try clear c10
   try clear c13
   try clear hcz11_0
   try clear hcz11_1
   try clear hcz12_0
   try clear hcz12_1
   try clear hcz8_0
   try clear hcz8_1
   try clear hcz9_0
   try clear hcz9_1
   try clear hfz11_0
   try clear hfz11_1
   try clear hfz12_0
   try clear hfz12_1
   try clear hfz8_0
   try clear hfz8_1
   try clear hfz9_0
   try clear hfz9_1
   try clear p2
   obtain ⟨x5_2, rfl, HA, HK2, BK234, BK235, HB⟩ := hrel
   cases gk with
   | zero => exact absurd HA.out (by simp [hallmootref22_Same.l0])
   | succ k2 => {
   have H := HA.out
   clear HA
   simp only [hallmootref22_Same.l0] at H
   by_cases c14 : x5_2 < (l0_0.length : Int)
   {
   rw [if_pos c14] at H
   have c14b0 : decide (x5_2 < (l0_0.length : Int)) = true := decide_eq_true c14
   clear c14
   by_cases c15 : 0 ≤ x5_2
   {
   rw [if_pos c15] at H
   have c15b0 : decide (0 ≤ x5_2) = true := decide_eq_true c15
   clear c15
   by_cases c16 : x5_2 < (l1_0.length : Int)
   {
   rw [if_pos c16] at H
   have c16b0 : decide (x5_2 < (l1_0.length : Int)) = true := decide_eq_true c16
   clear c16
   by_cases c17 : (rdOf ByteArray.empty l0_0 x5_2).toList = (rdOf ByteArray.empty l1_0 x5_2).toList
   {
   rw [if_pos c17] at H
   have c17b0 : ((rdOf ByteArray.empty l0_0 x5_2).toList == (rdOf ByteArray.empty l1_0 x5_2).toList) = true := beq_iff_eq.mpr c17
   have c17b1 : ((rdOf ByteArray.empty l0_0 x5_2).toList != (rdOf ByteArray.empty l1_0 x5_2).toList) = false := bne_eq_false_iff_eq.mpr c17
   clear c17
   have H' := aS H
   clear H
   have hnb18 := NB234_235.out
   have hnc18 := NB235_234.out
   have hcz19_0 : wr.cell? ⟨gb234, 0, none⟩ = some (.slice A0_0 l0_0.length c0_0) := (blk_cell BK234.out 0).trans rfl
   have hcz19_1 : wr.cell? ⟨gb234, 1, none⟩ = some (.slice A0_1 l0_1.length c0_1) := (blk_cell BK234.out 1).trans rfl
   have hfz19_0 := blk_frozen BK234.out 0
   have hfz19_1 := blk_frozen BK234.out 1
   have p236 : 0 ≤ (x5_2 : Int) := dd
   have q236 : x5_2 < (l0_0.length : Int) := dd
   obtain ⟨ad236, e236, hx236_0⟩ := Kd.at_string HR0_0.out x5_2 p236 q236
   cases e236
   replace hx236_0 := cc HB.out hx236_0
   replace p236 := eq_true p236
   replace q236 := eq_true q236
   have hcz20_0 : wr.cell? ⟨gb235, 0, none⟩ = some (.slice A1_0 l1_0.length c1_0) := (blk_cell BK235.out 0).trans rfl
   have hcz20_1 : wr.cell? ⟨gb235, 1, none⟩ = some (.slice A1_1 l1_1.length c1_1) := (blk_cell BK235.out 1).trans rfl
   have hfz20_0 := blk_frozen BK235.out 0
   have hfz20_1 := blk_frozen BK235.out 1
   have p237 : 0 ≤ (x5_2 : Int) := dd
   have q237 : x5_2 < (l1_0.length : Int) := dd
   obtain ⟨ad237, e237, hx237_0⟩ := Kd.at_string HR1_0.out x5_2 p237 q237
   cases e237
   replace hx237_0 := cc HB.out hx237_0
   replace p237 := eq_true p237
   replace q237 := eq_true q237
   go_wp2
   repeat (go_quiet (fail); try go_wp2)
   go_roundg k2
   case measure => have := HJ2.out; have := HK2.out; omega
   case rel => exact ⟨(wrap64 (x5_2 + 1)), (by first | rfl | (simp; done) | (simp [*]; done)), H', ⟨by have := HJ2.out; have := HK2.out; omega⟩, ⟨kk BK234.out⟩, ⟨kk BK235.out⟩, ⟨by repeat (first | (with_reducible first | exact HB.out | apply below_alloc | apply pw_below_drewN | apply below_drew1 | refine below_set ?_ GE234.out | refine below_set ?_ GE235.out) | exact HB.out)⟩⟩ }
   {
   rw [if_neg c17] at H
   have c17b0 : ((rdOf ByteArray.empty l0_0 x5_2).toList == (rdOf ByteArray.empty l1_0 x5_2).toList) = false := beq_eq_false_iff_ne.mpr c17
   have c17b1 : ((rdOf ByteArray.empty l0_0 x5_2).toList != (rdOf ByteArray.empty l1_0 x5_2).toList) = true := bne_iff_ne.mpr c17
   obtain rfl := Option.some.inj H
   have hnb21 := NB234_235.out
   have hnc21 := NB235_234.out
   have hcz22_0 : wr.cell? ⟨gb234, 0, none⟩ = some (.slice A0_0 l0_0.length c0_0) := (blk_cell BK234.out 0).trans rfl
   have hcz22_1 : wr.cell? ⟨gb234, 1, none⟩ = some (.slice A0_1 l0_1.length c0_1) := (blk_cell BK234.out 1).trans rfl
   have hfz22_0 := blk_frozen BK234.out 0
   have hfz22_1 := blk_frozen BK234.out 1
   have p236 : 0 ≤ (x5_2 : Int) := dd
   have q236 : x5_2 < (l0_0.length : Int) := dd
   obtain ⟨ad236, e236, hx236_0⟩ := Kd.at_string HR0_0.out x5_2 p236 q236
   cases e236
   replace hx236_0 := cc HB.out hx236_0
   replace p236 := eq_true p236
   replace q236 := eq_true q236
   have hcz23_0 : wr.cell? ⟨gb235, 0, none⟩ = some (.slice A1_0 l1_0.length c1_0) := (blk_cell BK235.out 0).trans rfl
   have hcz23_1 : wr.cell? ⟨gb235, 1, none⟩ = some (.slice A1_1 l1_1.length c1_1) := (blk_cell BK235.out 1).trans rfl
   have hfz23_0 := blk_frozen BK235.out 0
   have hfz23_1 := blk_frozen BK235.out 1
   have p237 : 0 ≤ (x5_2 : Int) := dd
   have q237 : x5_2 < (l1_0.length : Int) := dd
   obtain ⟨ad237, e237, hx237_0⟩ := Kd.at_string HR1_0.out x5_2 p237 q237
   cases e237
   replace hx237_0 := cc HB.out hx237_0
   replace p237 := eq_true p237
   replace q237 := eq_true q237
   go_wp2
   repeat (go_quiet (fail); try go_wp2)
   go_ret
   exact ⟨by first | rfl | (simp [errW_none, errW_some] <;> rfl) | (simp [*, errW_none, errW_some] <;> rfl), by repeat (first | (with_reducible first | exact HB.out | apply below_alloc | apply pw_below_drewN | apply below_drew1 | refine below_set ?_ GE234.out | refine below_set ?_ GE235.out) | exact HB.out)⟩ } }
   {
   rw [if_neg c16] at H
   exact absurd H (by simp) } }
   {
   rw [if_neg c15] at H
   exact absurd H (by simp) } }
   {
   rw [if_neg c14] at H
   have c14b0 : decide (x5_2 < (l0_0.length : Int)) = false := decide_eq_false c14
   clear c14
   have H' := aS H
   clear H
   have hnb24 := NB234_235.out
   have hnc24 := NB235_234.out
   have hcz25_0 : wr.cell? ⟨gb234, 0, none⟩ = some (.slice A0_0 l0_0.length c0_0) := (blk_cell BK234.out 0).trans rfl
   have hcz25_1 : wr.cell? ⟨gb234, 1, none⟩ = some (.slice A0_1 l0_1.length c0_1) := (blk_cell BK234.out 1).trans rfl
   have hfz25_0 := blk_frozen BK234.out 0
   have hfz25_1 := blk_frozen BK234.out 1
   go_wp2
   repeat (go_quiet (fail); try go_wp2)
   go_loopg [6] k2 (fun kq v6 w' => ∃ (x6_3 : Int), v6 = .int .i64 x6_3 ∧ Aside0 (hallmootref22_Same.l1 kq x6_3 l0_0 l0_1 l1_0 l1_1 = some r) ∧ Aside0 (kq ≤ k2) ∧ Aside0 (w'.heap[gb234]? = some (.cells #[(.slice A0_0 l0_0.length c0_0), (.slice A0_1 l0_1.length c0_1)] 25 (0, 0))) ∧ Aside0 (w'.heap[gb235]? = some (.cells #[(.slice A1_0 l1_0.length c1_0), (.slice A1_1 l1_1.length c1_1)] 25 (0, 0))) ∧ Aside0 (Below w.heap.size w w'))
   case atStart => exact ⟨(0), (by first | rfl | (simp; done) | (simp [*]; done)), H', ⟨Nat.le_refl _⟩, ⟨kk BK234.out⟩, ⟨kk BK235.out⟩, ⟨by repeat (first | (with_reducible first | exact HB.out | apply below_alloc | apply pw_below_drewN | apply below_drew1 | refine below_set ?_ GE234.out | refine below_set ?_ GE235.out) | exact HB.out)⟩⟩
   case round =>
    clear H'
    try clear c1
    try clear c2
    try clear p2
    try clear q2
    try clear hx2
    try clear c6
    try clear c6b0
    try clear c6b1
    try clear c6b2
    try clear p6
    try clear c7
    try clear c10
    try clear c13
    try clear c14
    try clear c14b0
    try clear c15
    try clear c15b0
    try clear c16
    try clear c16b0
    try clear c17
    try clear c17b0
    try clear c17b1
    try clear c18
    try clear c21
    try clear p23
    try clear q23
    try clear hx23
    try clear c24
    try clear hcz11_0
    try clear hcz11_1
    try clear hcz12_0
    try clear hcz12_1
    try clear hcz19_0
    try clear hcz19_1
    try clear hcz20_0
    try clear hcz20_1
    try clear hcz22_0
    try clear hcz22_1
    try clear hcz23_0
    try clear hcz23_1
    try clear hcz25_0
    try clear hcz25_1
    try clear hcz8_0
    try clear hcz8_1
    try clear hcz9_0
    try clear hcz9_1
    try clear hfz11_0
    try clear hfz11_1
    try clear hfz12_0
    try clear hfz12_1
    try clear hfz19_0
    try clear hfz19_1
    try clear hfz20_0
    try clear hfz20_1
    try clear hfz22_0
    try clear hfz22_1
    try clear hfz23_0
    try clear hfz23_1
    try clear hfz25_0
    try clear hfz25_1
    try clear hfz8_0
    try clear hfz8_1
    try clear hfz9_0
    try clear hfz9_1
    try clear hx236_0
    try clear hx237_0
    try clear p2
    try clear p236
    try clear p237
    try clear q236
    try clear q237
    obtain ⟨x6_3, rfl, HA, HK3, BK234, BK235, HB⟩ := hrel
    cases gk with
    | zero => exact absurd HA.out (by simp [hallmootref22_Same.l1])
    | succ k3 => {
    have H := HA.out
    clear HA
    simp only [hallmootref22_Same.l1] at H
    by_cases c26 : x6_3 < (l0_1.length : Int)
    {
    rw [if_pos c26] at H
    have c26b0 : decide (x6_3 < (l0_1.length : Int)) = true := decide_eq_true c26
    clear c26
    by_cases c27 : 0 ≤ x6_3
    {
    rw [if_pos c27] at H
    have c27b0 : decide (0 ≤ x6_3) = true := decide_eq_true c27
    clear c27
    by_cases c28 : x6_3 < (l1_1.length : Int)
    {
    rw [if_pos c28] at H
    have c28b0 : decide (x6_3 < (l1_1.length : Int)) = true := decide_eq_true c28
    clear c28
    by_cases c29 : (!(((rd_T46 l0_1 x6_3).f0) == ((rd_T46 l1_1 x6_3).f0)) || (!((((rd_T46 l0_1 x6_3).f1).toList) == (((rd_T46 l1_1 x6_3).f1).toList)))) = true
    {
    rw [if_pos c29] at H
    have c29b0 : (!(((rd_T46 l0_1 x6_3).f0) == ((rd_T46 l1_1 x6_3).f0)) || (!((((rd_T46 l0_1 x6_3).f1).toList) == (((rd_T46 l1_1 x6_3).f1).toList)))) = true := c29
    clear c29
    obtain rfl := Option.some.inj H
    have hnb30 := NB234_235.out
    have hnc30 := NB235_234.out
    have hcz31_0 : wr.cell? ⟨gb234, 0, none⟩ = some (.slice A0_0 l0_0.length c0_0) := (blk_cell BK234.out 0).trans rfl
    have hcz31_1 : wr.cell? ⟨gb234, 1, none⟩ = some (.slice A0_1 l0_1.length c0_1) := (blk_cell BK234.out 1).trans rfl
    have hfz31_0 := blk_frozen BK234.out 0
    have hfz31_1 := blk_frozen BK234.out 1
    have p238 : 0 ≤ (x6_3 : Int) := dd
    have q238 : x6_3 < (l0_1.length : Int) := dd
    obtain ⟨ad238, e238, hx238_0, hx238_1⟩ := at_T46 HR0_1.out x6_3 p238 q238
    cases e238
    replace hx238_0 := cc HB.out hx238_0
    replace hx238_1 := cc HB.out hx238_1
    replace p238 := eq_true p238
    replace q238 := eq_true q238
    have hcz32_0 : wr.cell? ⟨gb235, 0, none⟩ = some (.slice A1_0 l1_0.length c1_0) := (blk_cell BK235.out 0).trans rfl
    have hcz32_1 : wr.cell? ⟨gb235, 1, none⟩ = some (.slice A1_1 l1_1.length c1_1) := (blk_cell BK235.out 1).trans rfl
    have hfz32_0 := blk_frozen BK235.out 0
    have hfz32_1 := blk_frozen BK235.out 1
    have p239 : 0 ≤ (x6_3 : Int) := dd
    have q239 : x6_3 < (l1_1.length : Int) := dd
    obtain ⟨ad239, e239, hx239_0, hx239_1⟩ := at_T46 HR1_1.out x6_3 p239 q239
    cases e239
    replace hx239_0 := cc HB.out hx239_0
    replace hx239_1 := cc HB.out hx239_1
    replace p239 := eq_true p239
    replace q239 := eq_true q239
    go_wp2
    repeat (go_quiet (fail); try go_wp2)
    go_ret
    exact ⟨by first | rfl | (simp [errW_none, errW_some] <;> rfl) | (simp [*, errW_none, errW_some] <;> rfl), by repeat (first | (with_reducible first | exact HB.out | apply below_alloc | apply pw_below_drewN | apply below_drew1 | refine below_set ?_ GE234.out | refine below_set ?_ GE235.out) | exact HB.out)⟩ }
    {
    rw [if_neg c29] at H
    have c29b0 : (!(((rd_T46 l0_1 x6_3).f0) == ((rd_T46 l1_1 x6_3).f0)) || (!((((rd_T46 l0_1 x6_3).f1).toList) == (((rd_T46 l1_1 x6_3).f1).toList)))) = false := by simpa using c29
    clear c29
    have H' := aS H
    clear H
    have hnb33 := NB234_235.out
    have hnc33 := NB235_234.out
    have hcz34_0 : wr.cell? ⟨gb234, 0, none⟩ = some (.slice A0_0 l0_0.length c0_0) := (blk_cell BK234.out 0).trans rfl
    have hcz34_1 : wr.cell? ⟨gb234, 1, none⟩ = some (.slice A0_1 l0_1.length c0_1) := (blk_cell BK234.out 1).trans rfl
    have hfz34_0 := blk_frozen BK234.out 0
    have hfz34_1 := blk_frozen BK234.out 1
    have p238 : 0 ≤ (x6_3 : Int) := dd
    have q238 : x6_3 < (l0_1.length : Int) := dd
    obtain ⟨ad238, e238, hx238_0, hx238_1⟩ := at_T46 HR0_1.out x6_3 p238 q238
    cases e238
    replace hx238_0 := cc HB.out hx238_0
    replace hx238_1 := cc HB.out hx238_1
    replace p238 := eq_true p238
    replace q238 := eq_true q238
    have hcz35_0 : wr.cell? ⟨gb235, 0, none⟩ = some (.slice A1_0 l1_0.length c1_0) := (blk_cell BK235.out 0).trans rfl
    have hcz35_1 : wr.cell? ⟨gb235, 1, none⟩ = some (.slice A1_1 l1_1.length c1_1) := (blk_cell BK235.out 1).trans rfl
    have hfz35_0 := blk_frozen BK235.out 0
    have hfz35_1 := blk_frozen BK235.out 1
    have p239 : 0 ≤ (x6_3 : Int) := dd
    have q239 : x6_3 < (l1_1.length : Int) := dd
    obtain ⟨ad239, e239, hx239_0, hx239_1⟩ := at_T46 HR1_1.out x6_3 p239 q239
    cases e239
    replace hx239_0 := cc HB.out hx239_0
    replace hx239_1 := cc HB.out hx239_1
    replace p239 := eq_true p239
    replace q239 := eq_true q239
    go_wp2
    repeat (go_quiet (fail); try go_wp2)
    go_roundg k3
    case measure => have := HJ2.out; have := HK2.out; have := HK3.out; omega
    case rel => exact ⟨(wrap64 (x6_3 + 1)), (by first | rfl | (simp; done) | (simp [*]; done)), H', ⟨by have := HJ2.out; have := HK2.out; have := HK3.out; omega⟩, ⟨kk BK234.out⟩, ⟨kk BK235.out⟩, ⟨by repeat (first | (with_reducible first | exact HB.out | apply below_alloc | apply pw_below_drewN | apply below_drew1 | refine below_set ?_ GE234.out | refine below_set ?_ GE235.out) | exact HB.out)⟩⟩ } }
    {
    rw [if_neg c28] at H
    exact absurd H (by simp) } }
    {
    rw [if_neg c27] at H
    exact absurd H (by simp) } }
    {
    rw [if_neg c26] at H
    have c26b0 : decide (x6_3 < (l0_1.length : Int)) = false := decide_eq_false c26
    clear c26
    obtain rfl := Option.some.inj H
    have hnb36 := NB234_235.out
    have hnc36 := NB235_234.out
    have hcz37_0 : wr.cell? ⟨gb234, 0, none⟩ = some (.slice A0_0 l0_0.length c0_0) := (blk_cell BK234.out 0).trans rfl
    have hcz37_1 : wr.cell? ⟨gb234, 1, none⟩ = some (.slice A0_1 l0_1.length c0_1) := (blk_cell BK234.out 1).trans rfl
    have hfz37_0 := blk_frozen BK234.out 0
    have hfz37_1 := blk_frozen BK234.out 1
    go_wp2
    repeat (go_quiet (fail); try go_wp2)
    go_ret
    exact ⟨by first | rfl | (simp [errW_none, errW_some] <;> rfl) | (simp [*, errW_none, errW_some] <;> rfl), by repeat (first | (with_reducible first | exact HB.out | apply below_alloc | apply pw_below_drewN | apply below_drew1 | refine below_set ?_ GE234.out | refine below_set ?_ GE235.out) | exact HB.out)⟩ } } } } } }

end Go.Proofs.Ytdaonhgcejjlhaa.P
namespace Go.Proofs.Ytdaonhgcejjlhaa.P
open Go.RowKit Go.Proofs.YtdaonhgcejjlhaaW.PrintWords Go.Proofs.YtdaonhgcejjlhaaW.PrintLast Go.Proofs.YtdaonhgcejjlhaaW.PrintMore
attribute [local go_sem] max2_int min2_int max_two min_two max_three min_three max_four min_four   -- for this text's walks alone
set_option linter.unusedVariables false
set_option linter.unusedSimpArgs false

/-! ### hallmootref22_Read: function 16 -/
def hallmootref22_Read.f (l0_0 : List ByteArray) (l0_1 : List (S46)) (a1 : Int) : Option (ByteArray × Int) := if a1 < 0 then (some ((⟨#[]⟩ : ByteArray), 8)) else (if a1 ≥ (l0_0.length : Int) then (some ((⟨#[]⟩ : ByteArray), 8)) else (if 0 ≤ a1 then (if a1 < (l0_0.length : Int) then (some (rdOf ByteArray.empty l0_0 a1, 0)) else (none)) else (none)))
set_option maxHeartbeats 8000000 in
set_option maxRecDepth 100000 in
theorem hallmootref22_Read.calls (A0_0 : Option Addr) (c0_0 : Nat) (l0_0 : List ByteArray) (A0_1 : Option Addr) (c0_1 : Nat) (l0_1 : List (S46)) (a1 : Int) (r1 : ByteArray) (r2 : Int) (w : World) (hr0_0 : Kd.C Kd.string w A0_0 l0_0.length l0_0) (hc0_0 : l0_0.length ≤ c0_0) (hr0_1 : Kd.C k46 w A0_1 l0_1.length l0_1) (hc0_1 : l0_1.length ≤ c0_1) (h : hallmootref22_Read.f l0_0 l0_1 a1 = some (r1, r2)) : Calls Try.prog 16 #[.agg #[.slice A0_0 l0_0.length c0_0, .slice A0_1 l0_1.length c0_1], .int .i64 a1] w fun e w' => e = .returned (.tuple #[.string r1, .int .i64 r2]) ∧ Below w.heap.size w w' := by
 have hu25 := Try.underlying25
 have HR0_0 := aS hr0_0
 have HC0_0 := aS hc0_0
 clear hr0_0 hc0_0
 have HR0_1 := aS hr0_1
 have HC0_1 := aS hc0_1
 clear hr0_1 hc0_1
 have HB := aS (Below.refl w.heap.size w)
 have H : (if a1 < 0 then (some ((⟨#[]⟩ : ByteArray), 8)) else (if a1 ≥ (l0_0.length : Int) then (some ((⟨#[]⟩ : ByteArray), 8)) else (if 0 ≤ a1 then (if a1 < (l0_0.length : Int) then (some (rdOf ByteArray.empty l0_0 a1, 0)) else (none)) else (none)))) = some (r1, r2) := h
 clear h
 by_cases c3 : a1 < 0
 {
 rw [if_pos c3] at H
 have c3b0 : decide (a1 < 0) = true := decide_eq_true c3
 clear c3
 simp only [Option.some.injEq, Prod.mk.injEq] at H
 obtain ⟨rfl, rfl⟩ := H
 go_enter Try.func16, Try.ntmps16
 go_wp2_with (first | ((with_reducible refine gate_dst (N := 2) rfl ?_); (try (refine gate_guard (by rfl) ?_; dsimp only)); refine box_event ?hg (N := 2) ?hd (cs := #[.slice A0_0 l0_0.length c0_0, .slice A0_1 l0_1.length c0_1]) (t := 25) ?hr ?_; (case hd => rfl); (case hg => rfl); (case hr => first | (go_simp; done) | (go_simp; rfl)); intro gb240 hg w4 hbox hb; have n0_ := aS (below_step bb hb); have n1_ := aS (hbox); have n2_ := aS ((by rw [hg]; exact bz : w.heap.size ≤ gb240)); have n3_ := aS ((by rw [hg]; exact bz : w.heap.size ≤ gb240)); clear HB; have HB := n0_; have BK240 := n1_; have GW240 := n2_; have GE240 := n3_; clear n0_ n1_ n2_ n3_; clear hb hbox hg))
 go_ret2
 exact ⟨by first | rfl | (simp [errW_none, errW_some] <;> rfl) | (simp [*, errW_none, errW_some] <;> rfl), by repeat (first | (with_reducible first | exact HB.out | apply below_alloc | apply pw_below_drewN | apply below_drew1 | refine below_set ?_ GE240.out) | exact HB.out)⟩ }
 {
 rw [if_neg c3] at H
 have c3b0 : decide (a1 < 0) = false := decide_eq_false c3
 clear c3
 by_cases c5 : a1 ≥ (l0_0.length : Int)
 {
 rw [if_pos c5] at H
 have c5b0 : decide ((l0_0.length : Int) ≤ a1) = true := decide_eq_true c5
 clear c5
 simp only [Option.some.injEq, Prod.mk.injEq] at H
 obtain ⟨rfl, rfl⟩ := H
 go_enter Try.func16, Try.ntmps16
 go_wp2_with (first | ((with_reducible refine gate_dst (N := 2) rfl ?_); (try (refine gate_guard (by rfl) ?_; dsimp only)); refine box_event ?hg (N := 2) ?hd (cs := #[.slice A0_0 l0_0.length c0_0, .slice A0_1 l0_1.length c0_1]) (t := 25) ?hr ?_; (case hd => rfl); (case hg => rfl); (case hr => first | (go_simp; done) | (go_simp; rfl)); intro gb240 hg w6 hbox hb; have n0_ := aS (below_step bb hb); have n1_ := aS (hbox); have n2_ := aS ((by rw [hg]; exact bz : w.heap.size ≤ gb240)); have n3_ := aS ((by rw [hg]; exact bz : w.heap.size ≤ gb240)); clear HB; have HB := n0_; have BK240 := n1_; have GW240 := n2_; have GE240 := n3_; clear n0_ n1_ n2_ n3_; clear hb hbox hg; have hcz7_0 : w6.cell? ⟨gb240, 0, none⟩ = some (.slice A0_0 l0_0.length c0_0) := (blk_cell BK240.out 0).trans rfl; have hcz7_1 : w6.cell? ⟨gb240, 1, none⟩ = some (.slice A0_1 l0_1.length c0_1) := (blk_cell BK240.out 1).trans rfl; have hfz7_0 := blk_frozen BK240.out 0; have hfz7_1 := blk_frozen BK240.out 1))
 go_ret2
 exact ⟨by first | rfl | (simp [errW_none, errW_some] <;> rfl) | (simp [*, errW_none, errW_some] <;> rfl), by repeat (first | (with_reducible first | exact HB.out | apply below_alloc | apply pw_below_drewN | apply below_drew1 | refine below_set ?_ GE240.out) | exact HB.out)⟩ }
 {
 rw [if_neg c5] at H
 have c5b0 : decide ((l0_0.length : Int) ≤ a1) = false := decide_eq_false c5
 clear c5
 by_cases c8 : 0 ≤ a1
 {
 rw [if_pos c8] at H
 have c8b0 : decide (0 ≤ a1) = true := decide_eq_true c8
 clear c8
 by_cases c9 : a1 < (l0_0.length : Int)
 {
 rw [if_pos c9] at H
 have c9b0 : decide (a1 < (l0_0.length : Int)) = true := decide_eq_true c9
 clear c9
 simp only [Option.some.injEq, Prod.mk.injEq] at H
 obtain ⟨rfl, rfl⟩ := H
 go_enter Try.func16, Try.ntmps16
 go_wp2_with (first | ((with_reducible refine gate_dst (N := 2) rfl ?_); (try (refine gate_guard (by rfl) ?_; dsimp only)); refine box_event ?hg (N := 2) ?hd (cs := #[.slice A0_0 l0_0.length c0_0, .slice A0_1 l0_1.length c0_1]) (t := 25) ?hr ?_; (case hd => rfl); (case hg => rfl); (case hr => first | (go_simp; done) | (go_simp; rfl)); intro gb240 hg w10 hbox hb; have n0_ := aS (below_step bb hb); have n1_ := aS (hbox); have n2_ := aS ((by rw [hg]; exact bz : w.heap.size ≤ gb240)); have n3_ := aS ((by rw [hg]; exact bz : w.heap.size ≤ gb240)); clear HB; have HB := n0_; have BK240 := n1_; have GW240 := n2_; have GE240 := n3_; clear n0_ n1_ n2_ n3_; clear hb hbox hg; have hcz11_0 : w10.cell? ⟨gb240, 0, none⟩ = some (.slice A0_0 l0_0.length c0_0) := (blk_cell BK240.out 0).trans rfl; have hcz11_1 : w10.cell? ⟨gb240, 1, none⟩ = some (.slice A0_1 l0_1.length c0_1) := (blk_cell BK240.out 1).trans rfl; have hfz11_0 := blk_frozen BK240.out 0; have hfz11_1 := blk_frozen BK240.out 1; have p241 : 0 ≤ (a1 : Int) := dd; have q241 : a1 < (l0_0.length : Int) := dd; obtain ⟨ad241, e241, hx241_0⟩ := Kd.at_string HR0_0.out a1 p241 q241; cases e241; replace hx241_0 := cc HB.out hx241_0; replace p241 := eq_true p241; replace q241 := eq_true q241))
 go_ret2
 exact ⟨by first | rfl | (simp [errW_none, errW_some] <;> rfl) | (simp [*, errW_none, errW_some] <;> rfl), by repeat (first | (with_reducible first | exact HB.out | apply below_alloc | apply pw_below_drewN | apply below_drew1 | refine below_set ?_ GE240.out) | exact HB.out)⟩ }
 {
 rw [if_neg c9] at H
 exact absurd H (by simp) } }
 {
 rw [if_neg c8] at H
 exact absurd H (by simp) } } }

end Go.Proofs.Ytdaonhgcejjlhaa.P
namespace Go.Proofs.Ytdaonhgcejjlhaa.P
open Go.RowKit Go.Proofs.YtdaonhgcejjlhaaW.PrintWords Go.Proofs.YtdaonhgcejjlhaaW.PrintLast Go.Proofs.YtdaonhgcejjlhaaW.PrintMore
attribute [local go_sem] max2_int min2_int max_two min_two max_three min_three max_four min_four   -- for this text's walks alone
set_option linter.unusedVariables false
set_option linter.unusedSimpArgs false

/-! ### hallmootref22_Sync: function 20 -/
def hallmootref22_Sync.f (l0_0 : List ByteArray) (l0_1 : List (S46)) : Option (List ByteArray × (List (S46))) := (some (([] : List ByteArray) : List ByteArray)).bind fun y266 => (if y266.length + l0_0.length < 8796093022208 then (some ((y266 ++ l0_0), ([] : List (S46)))) else (none))
set_option maxHeartbeats 8000000 in
set_option maxRecDepth 100000 in
theorem hallmootref22_Sync.calls (A0_0 : Option Addr) (c0_0 : Nat) (l0_0 : List ByteArray) (A0_1 : Option Addr) (c0_1 : Nat) (l0_1 : List (S46)) (r1 : List ByteArray) (r2 : List (S46)) (w : World) (hr0_0 : Kd.C Kd.string w A0_0 l0_0.length l0_0) (hc0_0 : l0_0.length ≤ c0_0) (hr0_1 : Kd.C k46 w A0_1 l0_1.length l0_1) (hc0_1 : l0_1.length ≤ c0_1) (h : hallmootref22_Sync.f l0_0 l0_1 = some (r1, r2)) : Calls Try.prog 20 #[.agg #[.slice A0_0 l0_0.length c0_0, .slice A0_1 l0_1.length c0_1]] w fun e w' => ∃ v0_ v1_ : Value, e = .returned (.agg #[v0_, v1_]) ∧ Kd.R Kd.string 9 w' w.heap.size (fun _ => True) v0_ r1 ∧ Kd.R k46 46 w' w.heap.size (fun _ => True) v1_ r2 ∧ Below w.heap.size w w' := by
 have hu25 := Try.underlying25
 have HR0_0 := aS hr0_0
 have HC0_0 := aS hc0_0
 clear hr0_0 hc0_0
 have HR0_1 := aS hr0_1
 have HC0_1 := aS hc0_1
 clear hr0_1 hc0_1
 have HB := aS (Below.refl w.heap.size w)
 have H : ((some (([] : List ByteArray) : List ByteArray)).bind fun y266 => (if y266.length + l0_0.length < 8796093022208 then (some ((y266 ++ l0_0), ([] : List (S46)))) else (none))) = some (r1, r2) := h
 clear h
 obtain ⟨y266, hy266⟩ : ∃ y_ : List ByteArray, y_ = (([] : List ByteArray)) := ⟨_, rfl⟩
 replace H : (if y266.length + l0_0.length < 8796093022208 then (some ((y266 ++ l0_0), ([] : List (S46)))) else (none)) = some (r1, r2) := by first | (rw [hy266]; with_reducible exact H) | (have H2_ := (Option.bind_some _ _).symm.trans H; rw [hy266]; with_reducible exact H2_) | (have H2_ := (Option.bind_some _ _).symm.trans H; with_reducible exact H2_) | with_reducible exact H | (rw [hy266]; exact H) | exact H
 have Ny266 := aS hy266
 clear hy266
 by_cases c2 : y266.length + l0_0.length < 8796093022208
 {
 rw [if_pos c2] at H
 have LMc2 := aS c2
 clear c2
 obtain ⟨y269, hy269⟩ : ∃ y_ : List ByteArray, y_ = (y266 ++ l0_0) := ⟨_, rfl⟩
 replace H : (some (y269, ([] : List (S46)))) = some (r1, r2) := by first | (rw [hy269]; with_reducible exact H) | (have H2_ := (Option.bind_some _ _).symm.trans H; rw [hy269]; with_reducible exact H2_) | (have H2_ := (Option.bind_some _ _).symm.trans H; with_reducible exact H2_) | with_reducible exact H | (rw [hy269]; exact H) | exact H
 have Ny269 := aS hy269
 clear hy269
 simp only [Option.some.injEq, Prod.mk.injEq] at H
 obtain ⟨rfl, rfl⟩ := H
 go_enter Try.func20, Try.ntmps20
 go_wp2_with (first | ((with_reducible refine gate_dst (N := 1) rfl ?_); refine box_event ?hg (N := 1) ?hd (cs := #[.slice A0_0 l0_0.length c0_0, .slice A0_1 l0_1.length c0_1]) (t := 25) ?hr ?_; (case hd => rfl); (case hg => rfl); (case hr => first | (go_simp; done) | (go_simp; rfl)); intro gb264 hg w3 hbox hb; have n0_ := aS (below_step bb hb); have n1_ := aS (hbox); have n2_ := aS ((by rw [hg]; exact bz : w.heap.size ≤ gb264)); have n3_ := aS ((by rw [hg]; exact bz : w.heap.size ≤ gb264)); clear HB; have HB := n0_; have BK264 := n1_; have GW264 := n2_; have GE264 := n3_; clear n0_ n1_ n2_ n3_; clear hb hbox hg) | ((with_reducible refine gate_dst (N := 2) rfl ?_); refine box_event ?hg (N := 2) ?hd (cs := #[.slice none 0 0, .slice none 0 0]) (t := 25) ?hr ?_; (case hd => rfl); (case hg => rfl); (case hr => first | (go_simp; done) | (go_simp; rfl)); intro gb265 hg w4 hbox hb; have n0_ := aS (kb BK264.out hb); have n1_ := aS (below_step bb hb); have n2_ := aS (hbox); have n3_ := aS ((by rw [hg]; exact bz : w.heap.size ≤ gb265)); have n4_ := aS ((by rw [hg]; exact bz : w.heap.size ≤ gb265)); have n5_ := aS ((by rw [hg]; exact Nat.ne_of_lt (blk_lt (g := gb264) (o := .cells #[.slice A0_0 l0_0.length c0_0, .slice A0_1 l0_1.length c0_1] 25 (0, 0)) (kk BK264.out)) : gb264 ≠ gb265)); have n6_ := aS ((by rw [hg]; exact Nat.ne_of_gt (blk_lt (g := gb264) (o := .cells #[.slice A0_0 l0_0.length c0_0, .slice A0_1 l0_1.length c0_1] 25 (0, 0)) (kk BK264.out)) : gb265 ≠ gb264)); clear BK264; clear HB; have BK264 := n0_; have HB := n1_; have BK265 := n2_; have GW265 := n3_; have GE265 := n4_; have NB264_265 := n5_; have NB265_264 := n6_; clear n0_ n1_ n2_ n3_ n4_ n5_ n6_; clear hb hbox hg) | ((with_reducible refine gate_dst (N := 3) rfl ?_); refine Kd.R_lit Kd.string _ 9 ?hg (N := 3) ?hd (xs := ([] : List ByteArray)) (inner := []) (ok := fun _ => True) (okp := fun _ => True) ?hr ?hp (fun _ hk => hk) trivial (Below.refl _ _) (Nat.le_refl _) (by simp) ?_; (case hd => rfl); (case hg => rfl); (case hr => first | (go_simp; done) | (go_simp; rfl)); (case hp => exact (Reps.none _ _)); intro v267 w5 ho6 hb hg_ hnew_; clear hg_ hnew_; (first | rw [← Ny266.out] at ho6 | (simp only [Int.reduceToNat] at ho6; rw [← Ny266.out] at ho6)); have n0_ := aS (Kd.R_lower ho6 bz); have n1_ := aS (kb BK264.out hb); have n2_ := aS (kb BK265.out hb); have n3_ := aS (below_step bb hb); clear BK264; clear BK265; clear HB; have HO268 := n0_; have BK264 := n1_; have BK265 := n2_; have HB := n3_; clear n0_ n1_ n2_ n3_; clear hb ho6; have hnb7 := NB264_265.out; have hnc7 := NB265_264.out; have hcz8_0 : w5.cell? ⟨gb264, 0, none⟩ = some (.slice A0_0 l0_0.length c0_0) := (blk_cell BK264.out 0).trans rfl; have hcz8_1 : w5.cell? ⟨gb264, 1, none⟩ = some (.slice A0_1 l0_1.length c0_1) := (blk_cell BK264.out 1).trans rfl; have hfz8_0 := blk_frozen BK264.out 0; have hfz8_1 := blk_frozen BK264.out 1) | ((with_reducible refine gate_builtin (b := .append) (xs := #[.tmp 3, .tmp 5]) rfl ?_); at_builtin; refine Kd.R_append_rows Kd.string (w0 := w) w.heap.size rfl (.tmp 3) (.tmp 5) 22 9 (.string ⟨#[]⟩) 16 rfl Try.underlying22 info9 rfl (by decide) (by omega) v267 y266 l0_0 _ _ _ (fun _ => True) (fun _ => False) rfl rfl ?aO ?aR (fun _ _ h => h) (fun _ h => h.elim) ?aF ?aB ?aS ?aL ?_; (case aR => exact Kd.C_below HR0_0.out bb); (case aB => exact bb); (case aF => exact (fun _ _ => trivial)); (case aO => exact (rr HO268.out)); (case aS => exact bz); (case aL => have := LMc2.out; omega); intro v270 w9 ho hb hg hat; rw [← Ny269.out] at ho; have n0_ := aS (blk_grown (g := gb264) (o := .cells #[.slice A0_0 l0_0.length c0_0, .slice A0_1 l0_1.length c0_1] 25 (0, 0)) (kk BK264.out) hg (Kd.R_ne HO268.out BK264.out (by decide))); have n1_ := aS (blk_grown (g := gb265) (o := .cells #[.slice none 0 0, .slice none 0 0] 25 (0, 0)) (kk BK265.out) hg (Kd.R_ne HO268.out BK265.out (by decide))); have n2_ := aS (hb); have n3_ := aS (ho); clear BK264; clear BK265; clear HB; clear HO268; have BK264 := n0_; have BK265 := n1_; have HB := n2_; have HO271 := n3_; clear n0_ n1_ n2_ n3_; clear ho hb hg hat; obtain ⟨Ao10, co10, eo10⟩ := Kd.R_slice HO271.out; subst eo10; have hcz11_0 : w9.cell? ⟨gb265, 0, none⟩ = some (.slice none 0 0) := (blk_cell BK265.out 0).trans rfl; have hcz11_1 : w9.cell? ⟨gb265, 1, none⟩ = some (.slice none 0 0) := (blk_cell BK265.out 1).trans rfl; have hfz11_0 := blk_frozen BK265.out 0; have hfz11_1 := blk_frozen BK265.out 1))
 refine bodyPost_ret (results_cell_row rfl _ _ gb265 25 #[.slice Ao10 y269.length co10, .slice none 0 0] (0, 0) _ rfl (by (with_reducible repeat (first | refine blk_drewN ?_ _ | refine blk_drew ?_ | refine blk_alloc ?_ _)); refine blk_put (cs := #[.slice Ao10 y269.length co10, .slice none 0 0]) ?_ 1 _ rfl; (with_reducible repeat (first | refine blk_drewN ?_ _ | refine blk_drew ?_ | refine blk_alloc ?_ _)); refine blk_put (cs := #[.slice none 0 0, .slice none 0 0]) ?_ 0 _ rfl; (with_reducible repeat (first | refine blk_drewN ?_ _ | refine blk_drew ?_ | refine blk_alloc ?_ _)); exact BK265.out) Try.underlying25 rfl (by kernel_rfl)) rfl ?_
 exact ⟨_, _, by first | rfl | (simp [errW_none, errW_some] <;> rfl) | (simp [*, errW_none, errW_some] <;> rfl), by (with_reducible repeat (first | apply Kd.R_alloc | apply Kd.R_drewN | apply Kd.R_drew)); exact Kd.R_mono (Kd.R_far (p := ⟨gb265, 1, none⟩) (Kd.R_far (p := ⟨gb265, 0, none⟩) (Kd.R_types HO271.out BK265.out (by decide)) (fun _ hk => hk.2) (.slice Ao10 y269.length co10)) (fun _ hk => hk.2) (.slice none 0 0)) (fun _ hk => trivial), by first | exact Kd.R_nil _ _ _ _ _ | exact Kd.N_nil _ _ _ _ _ | exact Kd.V_nil _ _ _ _ _ | exact Kd.Q_nil _ _ _ _ _ | exact Kd.S_nil _ _ _ _ _, by repeat (first | (with_reducible first | exact HB.out | apply below_alloc | apply pw_below_drewN | apply below_drew1 | refine below_set ?_ GE264.out | refine below_set ?_ GE265.out) | exact HB.out)⟩ }
 {
 rw [if_neg c2] at H
 exact absurd H (by simp) }

end Go.Proofs.Ytdaonhgcejjlhaa.P
namespace Go.Proofs.Ytdaonhgcejjlhaa.Pure
open Go.RowKit Go.Proofs.Ytdaonhgcejjlhaa.P Go.Proofs.YtdaonhgcejjlhaaW.PrintWords Go.Proofs.YtdaonhgcejjlhaaW.PrintLast Go.Proofs.YtdaonhgcejjlhaaW.PrintMore
set_option linter.unusedVariables false

theorem wrapB {i n : Nat} (h : i < n) (hn : n ≤ 9223372036854775807) : wrap64 ((i : Int) + 1) = ((i + 1 : Nat) : Int) := by unfold wrap64; omega
theorem rdS {l : List ByteArray} {i : Nat} (h : i < l.length) : rdOf ByteArray.empty l (i : Int) = l[i] := by simp [rdOf, List.getD_eq_getElem?_getD, h]
theorem rdW {l : List S46} {i : Nat} (h : i < l.length) : rd_T46 l (i : Int) = l[i] := by simp [rd_T46, List.getD_eq_getElem?_getD, h]
def eqL {α : Type} (p : α → α → Bool) : List α → List α → Bool
  | [], [] => true
  | x :: a, y :: b => p x y && eqL p a b
  | _, _ => false
theorem eqL_refl {α : Type} {p : α → α → Bool} (hp : ∀ x, p x x = true) : ∀ a : List α, eqL p a a = true
  | [] => rfl
  | x :: a => by simp [eqL, hp, eqL_refl hp a]
theorem eqL_len {α : Type} {p : α → α → Bool} : ∀ {a b : List α}, eqL p a b = true → a.length = b.length
  | [], [], _ => rfl
  | x :: a, y :: b, h => by
    simp only [eqL, Bool.and_eq_true] at h
    simp [eqL_len h.2]
  | [], _ :: _, h => by simp [eqL] at h
  | _ :: _, [], h => by simp [eqL] at h
def pS (x y : ByteArray) : Bool := decide (x.toList = y.toList)
def pW (x y : S46) : Bool := (x.f0 == y.f0) && (x.f1.toList == y.f1.toList)
theorem eqL_cons {α : Type} {p : α → α → Bool} {a b : List α} {i : Nat} (h : i < a.length) (h2 : i < b.length) : eqL p (a.drop i) (b.drop i) = (p a[i] b[i] && eqL p (a.drop (i + 1)) (b.drop (i + 1))) := by
  rw [List.drop_eq_getElem_cons h, List.drop_eq_getElem_cons h2]; rfl
theorem eqL_end {α : Type} {p : α → α → Bool} {a b : List α} {i : Nat} (h : a.length ≤ i) (h2 : b.length ≤ i) : eqL p (a.drop i) (b.drop i) = true := by
  rw [List.drop_of_length_le h, List.drop_of_length_le h2]; rfl

/-! ### the program's Same -/
theorem eqS_loop (a b : List ByteArray) (hl : a.length = b.length) (hn : a.length ≤ 9223372036854775807) (d : Nat) : ∀ i : Nat, i + d = a.length → Ev (fun k => slices_Equal_string_string.l0 k a b (a.length : Int) (i : Int)) (eqL pS (a.drop i) (b.drop i)) := by
  induction d with
  | zero =>
    intro i hi
    rw [eqL_end (by omega) (by omega)]
    refine Ev.step (f := fun _ => some true) (fun k => ?_) (Ev.now _)
    rw [slices_Equal_string_string.l0, if_neg (by omega)]
  | succ d ih =>
    intro i hi
    have hlt : i < a.length := by omega
    rw [eqL_cons hlt (by omega)]
    by_cases e : a[i].toList = b[i].toList
    · rw [show pS a[i] b[i] = true from decide_eq_true e, Bool.true_and]
      refine Ev.step (fun k => ?_) (ih (i + 1) (by omega))
      rw [slices_Equal_string_string.l0, if_pos (by omega), if_pos (by omega), if_pos (by omega), if_pos (by omega), rdS hlt, rdS (by omega), if_pos e, wrapB hlt hn]
    · rw [show pS a[i] b[i] = false from decide_eq_false e, Bool.false_and]
      refine Ev.step (f := fun _ => some false) (fun k => ?_) (Ev.now _)
      rw [slices_Equal_string_string.l0, if_pos (by omega), if_pos (by omega), if_pos (by omega), if_pos (by omega), rdS hlt, rdS (by omega), if_neg e]
theorem eqL_ne {α : Type} {p : α → α → Bool} {a b : List α} (h : ¬ a.length = b.length) : eqL p a b = false := by
  cases hq : eqL p a b with
  | false => rfl
  | true => exact absurd (eqL_len hq) h
theorem eqS_ev (a b : List ByteArray) (hn : a.length ≤ 9223372036854775807) : Ev (fun k => slices_Equal_string_string.f k a b) (eqL pS a b) := by
  by_cases h : a.length = b.length
  · refine Ev.congr (fun k => ?_) (eqS_loop a b h hn a.length 0 (by omega))
    unfold slices_Equal_string_string.f
    rw [if_pos (by omega)]; rfl
  · rw [eqL_ne h]
    refine Ev.congr (f := fun _ => some false) (fun k => ?_) (Ev.now _)
    unfold slices_Equal_string_string.f
    rw [if_neg (by omega)]
theorem eqW_loop (a b : List S46) (hl : a.length = b.length) (hn : a.length ≤ 9223372036854775807) (d : Nat) : ∀ i : Nat, i + d = a.length → Ev (fun k => api_Was_32.l0 k a b (a.length : Int) (i : Int)) (eqL pW (a.drop i) (b.drop i)) := by
  induction d with
  | zero =>
    intro i hi
    rw [eqL_end (by omega) (by omega)]
    refine Ev.step (f := fun _ => some true) (fun k => ?_) (Ev.now _)
    rw [api_Was_32.l0, if_neg (by omega)]
  | succ d ih =>
    intro i hi
    have hlt : i < a.length := by omega
    rw [eqL_cons hlt (by omega)]
    have hw : (!(a[i].f0 == b[i].f0) || !(a[i].f1.toList == b[i].f1.toList)) = !(pW a[i] b[i]) := by unfold pW; rw [Bool.not_and]
    cases e : pW a[i] b[i] with
    | true =>
      rw [Bool.true_and]
      refine Ev.step (fun k => ?_) (ih (i + 1) (by omega))
      rw [api_Was_32.l0, if_pos (by omega), if_pos (by omega), if_pos (by omega), if_pos (by omega), rdW hlt, rdW (by omega), hw, e, if_neg (by simp), wrapB hlt hn]
    | false =>
      rw [Bool.false_and]
      refine Ev.step (f := fun _ => some false) (fun k => ?_) (Ev.now _)
      rw [api_Was_32.l0, if_pos (by omega), if_pos (by omega), if_pos (by omega), if_pos (by omega), rdW hlt, rdW (by omega), hw, e, if_pos (by simp)]
theorem eqW_ev (a b : List S46) (hn : a.length ≤ 9223372036854775807) : Ev (fun k => api_Was_32.f k a b) (eqL pW a b) := by
  by_cases h : a.length = b.length
  · refine Ev.congr (fun k => ?_) (eqW_loop a b h hn a.length 0 (by omega))
    unfold api_Was_32.f
    rw [if_pos (by omega)]; rfl
  · rw [eqL_ne h]
    refine Ev.congr (f := fun _ => some false) (fun k => ?_) (Ev.now _)
    unfold api_Was_32.f
    rw [if_neg (by omega)]
def eqD (a : List ByteArray) (w : List S46) (b : List ByteArray) (v : List S46) : Bool := eqL pS a b && eqL pW w v
theorem same_prog (a : List ByteArray) (w : List S46) (b : List ByteArray) (v : List S46) (ha : a.length ≤ 9223372036854775807) (hw : w.length ≤ 9223372036854775807) : Ev (fun k => disk_Same.f k a w b v) (eqD a w b v) := by
  unfold disk_Same.f eqD
  refine Ev.bind (eqS_ev a b ha) ?_
  cases eqL pS a b with
  | false => exact Ev.now _
  | true => exact Ev.bind (eqW_ev w v hw) (Ev.now _)

/-! ### the reference's Same -/
theorem refW_loop (a b : List ByteArray) (w v : List S46) (hl : w.length = v.length) (hn : w.length ≤ 9223372036854775807) (d : Nat) : ∀ i : Nat, i + d = w.length → Ev (fun k => hallmootref22_Same.l1 k (i : Int) a w b v) (eqL pW (w.drop i) (v.drop i)) := by
  induction d with
  | zero =>
    intro i hi
    rw [eqL_end (by omega) (by omega)]
    refine Ev.step (f := fun _ => some true) (fun k => ?_) (Ev.now _)
    rw [hallmootref22_Same.l1, if_neg (by omega)]
  | succ d ih =>
    intro i hi
    have hlt : i < w.length := by omega
    rw [eqL_cons hlt (by omega)]
    have hw : (!(w[i].f0 == v[i].f0) || !(w[i].f1.toList == v[i].f1.toList)) = !(pW w[i] v[i]) := by unfold pW; rw [Bool.not_and]
    cases e : pW w[i] v[i] with
    | true =>
      rw [Bool.true_and]
      refine Ev.step (fun k => ?_) (ih (i + 1) (by omega))
      rw [hallmootref22_Same.l1, if_pos (by omega), if_pos (by omega), if_pos (by omega), rdW hlt, rdW (by omega), hw, e, if_neg (by simp), wrapB hlt hn]
    | false =>
      rw [Bool.false_and]
      refine Ev.step (f := fun _ => some false) (fun k => ?_) (Ev.now _)
      rw [hallmootref22_Same.l1, if_pos (by omega), if_pos (by omega), if_pos (by omega), rdW hlt, rdW (by omega), hw, e, if_pos (by simp)]
theorem refS_loop (a b : List ByteArray) (w v : List S46) (hl : a.length = b.length) (hn : a.length ≤ 9223372036854775807) (hl2 : w.length = v.length) (hn2 : w.length ≤ 9223372036854775807) (d : Nat) : ∀ i : Nat, i + d = a.length → Ev (fun k => hallmootref22_Same.l0 k (i : Int) a w b v) (eqL pS (a.drop i) (b.drop i) && eqL pW w v) := by
  induction d with
  | zero =>
    intro i hi
    rw [eqL_end (by omega) (by omega), Bool.true_and]
    have h := refW_loop a b w v hl2 hn2 w.length 0 (by omega)
    rw [List.drop_zero, List.drop_zero] at h
    refine Ev.step (fun k => ?_) h
    rw [hallmootref22_Same.l0, if_neg (by omega)]
    rfl
  | succ d ih =>
    intro i hi
    have hlt : i < a.length := by omega
    rw [eqL_cons hlt (by omega)]
    by_cases e : a[i].toList = b[i].toList
    · rw [show pS a[i] b[i] = true from decide_eq_true e, Bool.true_and]
      refine Ev.step (fun k => ?_) (ih (i + 1) (by omega))
      rw [hallmootref22_Same.l0, if_pos (by omega), if_pos (by omega), if_pos (by omega), rdS hlt, rdS (by omega), if_pos e, wrapB hlt hn]
    · rw [show pS a[i] b[i] = false from decide_eq_false e, Bool.false_and, Bool.false_and]
      refine Ev.step (f := fun _ => some false) (fun k => ?_) (Ev.now _)
      rw [hallmootref22_Same.l0, if_pos (by omega), if_pos (by omega), if_pos (by omega), rdS hlt, rdS (by omega), if_neg e]
theorem same_ref (a : List ByteArray) (w : List S46) (b : List ByteArray) (v : List S46) (ha : a.length ≤ 9223372036854775807) (hw : w.length ≤ 9223372036854775807) : Ev (fun k => hallmootref22_Same.f k a w b v) (eqD a w b v) := by
  unfold eqD
  by_cases h : a.length = b.length
  · by_cases h2 : w.length = v.length
    · have hk := refS_loop a b w v h ha h2 hw a.length 0 (by omega)
      rw [List.drop_zero, List.drop_zero] at hk
      refine Ev.congr (f := fun k => hallmootref22_Same.j0 k false a w b v) (fun k => ?_) (Ev.step (fun k => ?_) hk)
      · unfold hallmootref22_Same.f
        rw [if_pos (by omega), show ((w.length : Int) != (v.length : Int)) = false by simp [h2]]
      · rw [hallmootref22_Same.j0, if_neg (by simp)]; rfl
    · rw [eqL_ne (p := pW) h2, Bool.and_false]
      refine Ev.congr (f := fun k => hallmootref22_Same.j0 k true a w b v) (fun k => ?_) (Ev.step (f := fun _ => some false) (fun k => ?_) (Ev.now _))
      · unfold hallmootref22_Same.f
        rw [if_pos (by omega), show ((w.length : Int) != (v.length : Int)) = true by simp; omega]
      · rw [hallmootref22_Same.j0, if_pos rfl]
  · rw [eqL_ne (p := pS) h, Bool.false_and]
    refine Ev.congr (f := fun k => hallmootref22_Same.j0 k true a w b v) (fun k => ?_) (Ev.step (f := fun _ => some false) (fun k => ?_) (Ev.now _))
    · unfold hallmootref22_Same.f
      rw [if_neg (by omega)]
    · rw [hallmootref22_Same.j0, if_pos rfl]
theorem eqD_refl (a : List ByteArray) (w : List S46) : eqD a w a w = true := by
  unfold eqD
  rw [eqL_refl (p := pS) (fun x => decide_eq_true rfl), eqL_refl (p := pW) (fun x => by simp [pW])]
  rfl
theorem same_self (a : List ByteArray) (w : List S46) (ha : a.length ≤ 9223372036854775807) (hw : w.length ≤ 9223372036854775807) : Ev (fun k => hallmootref22_Same.f k a w a w) true := by
  have := same_ref a w a w ha hw
  rwa [eqD_refl] at this

/-! ### Few, New, Right -/
theorem few1 (a : List ByteArray) (w : List S46) (hw : w.length ≤ 60) (d : Nat) : ∀ i : Nat, i + d = w.length → ∃ b, Ev (fun k => hallmootref22_Few.l1 k (i : Int) a w) b := by
  induction d with
  | zero =>
    intro i hi
    refine ⟨true, Ev.step (f := fun _ => some true) (fun k => ?_) (Ev.now _)⟩
    rw [hallmootref22_Few.l1, if_neg (by omega)]
  | succ d ih =>
    intro i hi
    have hlt : i < w.length := by omega
    by_cases e : (w[i].f1.size : Int) > 60
    · refine ⟨false, Ev.step (f := fun _ => some false) (fun k => ?_) (Ev.now _)⟩
      rw [hallmootref22_Few.l1, if_pos (by omega), if_pos (by omega), rdW hlt, if_pos e]
    · obtain ⟨b, hb⟩ := ih (i + 1) (by omega)
      refine ⟨b, Ev.step (fun k => ?_) hb⟩
      rw [hallmootref22_Few.l1, if_pos (by omega), if_pos (by omega), rdW hlt, if_neg e, wrapB hlt (by omega)]
theorem few0 (a : List ByteArray) (w : List S46) (ha : a.length ≤ 600) (hw : w.length ≤ 60) (d : Nat) : ∀ i : Nat, i + d = a.length → ∃ b, Ev (fun k => hallmootref22_Few.l0 k (i : Int) a w) b := by
  induction d with
  | zero =>
    intro i hi
    obtain ⟨b, hb⟩ := few1 a w hw w.length 0 (by omega)
    refine ⟨b, Ev.step (fun k => ?_) hb⟩
    rw [hallmootref22_Few.l0, if_neg (by omega)]
    rfl
  | succ d ih =>
    intro i hi
    have hlt : i < a.length := by omega
    by_cases e : (a[i].size : Int) > 60
    · refine ⟨false, Ev.step (f := fun _ => some false) (fun k => ?_) (Ev.now _)⟩
      rw [hallmootref22_Few.l0, if_pos (by omega), if_pos (by omega), rdS hlt, if_pos e]
    · obtain ⟨b, hb⟩ := ih (i + 1) (by omega)
      refine ⟨b, Ev.step (fun k => ?_) hb⟩
      rw [hallmootref22_Few.l0, if_pos (by omega), if_pos (by omega), rdS hlt, if_neg e, wrapB hlt (by omega)]
theorem few_ev (a : List ByteArray) (w : List S46) : ∃ b, Ev (fun k => hallmootref22_Few.f k a w) b ∧ (b = true → a.length ≤ 600 ∧ w.length ≤ 60) := by
  by_cases h : a.length ≤ 600 ∧ w.length ≤ 60
  · obtain ⟨b, hb⟩ := few0 a w h.1 h.2 a.length 0 (by omega)
    refine ⟨b, Ev.congr (f := fun k => hallmootref22_Few.j0 k false a w) (fun k => ?_) (Ev.step (fun k => ?_) hb), fun _ => h⟩
    · unfold hallmootref22_Few.f
      rw [if_neg (by omega), decide_eq_false (by omega)]
    · rw [hallmootref22_Few.j0, if_neg (by simp)]; rfl
  · refine ⟨false, Ev.congr (f := fun k => hallmootref22_Few.j0 k true a w) (fun k => ?_) (Ev.step (f := fun _ => some false) (fun k => ?_) (Ev.now _)), fun h => by cases h⟩
    · unfold hallmootref22_Few.f
      by_cases h1 : (a.length : Int) > 600
      · rw [if_pos h1]
      · rw [if_neg h1, decide_eq_true (by omega)]
    · rw [hallmootref22_Few.j0, if_pos rfl]
def zero32 : ByteArray := strOfNums (List.replicate 32 0)
theorem new_loop (n : Nat) (hn : n ≤ 512) (d : Nat) : ∀ i : Nat, i + d = n → Ev (fun k => hallmootref22_New.l0 k (n : Int) (i : Int) (List.replicate i zero32)) (List.replicate n zero32, ([] : List S46), (0 : Int)) := by
  induction d with
  | zero =>
    intro i hi
    obtain rfl : i = n := by omega
    refine Ev.step (f := fun _ => some (List.replicate i zero32, [], 0)) (fun k => ?_) (Ev.now _)
    rw [hallmootref22_New.l0, if_neg (by omega)]
  | succ d ih =>
    intro i hi
    refine Ev.step (fun k => ?_) (ih (i + 1) (by omega))
    rw [hallmootref22_New.l0, if_pos (by omega), show hallmootref22_noughts.f 32 = some zero32 from by unfold hallmootref22_noughts.f; rw [if_pos (by omega), if_pos (by decide)]; rfl, Option.bind_some, if_pos (by simp; omega), wrapB (n := n) (by omega) (by omega), List.replicate_succ']
theorem new_ev (x : Int) : ∃ r, disk_New.f x = some r ∧ Ev (fun k => hallmootref22_New.f k x) r ∧ r.1.length ≤ 512 ∧ r.2.1 = [] := by
  by_cases h : 0 ≤ x ∧ x ≤ 512
  · obtain ⟨n, rfl⟩ : ∃ n : Nat, x = n := ⟨x.toNat, by omega⟩
    refine ⟨(List.replicate n zero32, [], 0), ?_, Ev.congr (f := fun k => hallmootref22_New.j0 k (n : Int) false) (fun k => ?_) (Ev.step (fun k => ?_) (new_loop n (by omega) n 0 (by omega))), by simp; omega, rfl⟩
    · unfold disk_New.f
      rw [if_neg (by omega), if_neg (by omega), if_pos (by omega)]
      unfold repS.f
      rw [if_pos ⟨rfl, by omega, by omega⟩]
      rfl
    · unfold hallmootref22_New.f
      rw [if_neg (by omega), decide_eq_false (by omega)]
    · rw [hallmootref22_New.j0, if_neg (by simp)]; rfl
  · refine ⟨([], [], 1), ?_, Ev.congr (f := fun k => hallmootref22_New.j0 k x true) (fun k => ?_) (Ev.step (f := fun _ => some ([], [], 1)) (fun k => ?_) (Ev.now _)), Nat.zero_le _, rfl⟩
    · unfold disk_New.f
      by_cases h1 : x < 0
      · rw [if_pos h1]
      · rw [if_neg h1, if_pos (by omega)]
    · unfold hallmootref22_New.f
      by_cases h1 : x < 0
      · rw [if_pos h1]
      · rw [if_neg h1, decide_eq_true (by omega)]
    · rw [hallmootref22_New.j0, if_pos rfl]
theorem right1 (a : List ByteArray) (w : List S46) (hw : w.length ≤ 60) (d : Nat) : ∀ i : Nat, i + d = w.length → Ev (fun k => hallmootref22_Right.l1 k (i : Int) a w) (!(w.drop i).any (badW a.length)) := by
  induction d with
  | zero =>
    intro i hi
    rw [List.drop_of_length_le (by omega)]
    refine Ev.step (f := fun _ => some true) (fun k => ?_) (Ev.now _)
    rw [hallmootref22_Right.l1, if_neg (by omega)]
  | succ d ih =>
    intro i hi
    have hlt : i < w.length := by omega
    rw [List.drop_eq_getElem_cons hlt, List.any_cons]
    cases hq : badW a.length w[i] with
    | false =>
      rw [Bool.false_or]
      refine Ev.step (fun k => ?_) (ih (i + 1) (by omega))
      simp only [badW, Bool.or_eq_false_iff, decide_eq_false_iff_not, bne_eq_false_iff_eq] at hq
      rw [hallmootref22_Right.l1, if_pos (by omega), if_pos (by omega), rdW hlt, if_neg (by omega), if_neg (by omega), if_pos hq.2, wrapB hlt (by omega)]
    | true =>
      refine Ev.step (f := fun _ => some false) (fun k => ?_) (Ev.now _)
      rw [hallmootref22_Right.l1, if_pos (by omega), if_pos (by omega), rdW hlt]
      by_cases h1 : w[i].f0 < 0
      · rw [if_pos h1]
      · rw [if_neg h1]
        by_cases h2 : w[i].f0 ≥ (a.length : Int)
        · rw [if_pos h2]
        · rw [if_neg h2, if_neg (fun h3 => by simp [badW, h1, h2, h3] at hq)]
theorem right0 (a : List ByteArray) (w : List S46) (ha : a.length ≤ 512) (hw : w.length ≤ 60) (d : Nat) : ∀ i : Nat, i + d = a.length → Ev (fun k => hallmootref22_Right.l0 k (i : Int) a w) (if (a.drop i).any badS = true then false else !w.any (badW a.length)) := by
  induction d with
  | zero =>
    intro i hi
    rw [List.drop_of_length_le (by omega), if_neg (by simp)]
    have := right1 a w hw w.length 0 (by omega)
    rw [List.drop_zero] at this
    refine Ev.step (fun k => ?_) this
    rw [hallmootref22_Right.l0, if_neg (by omega)]
    rfl
  | succ d ih =>
    intro i hi
    have hlt : i < a.length := by omega
    rw [List.drop_eq_getElem_cons hlt, List.any_cons]
    by_cases e : (a[i].size : Int) = 32
    · rw [show badS a[i] = false by unfold badS; simp [e], Bool.false_or]
      refine Ev.step (fun k => ?_) (ih (i + 1) (by omega))
      rw [hallmootref22_Right.l0, if_pos (by omega), if_pos (by omega), rdS hlt, if_pos e, wrapB hlt (by omega)]
    · rw [show badS a[i] = true by unfold badS; simpa using e, Bool.true_or, if_pos rfl]
      refine Ev.step (f := fun _ => some false) (fun k => ?_) (Ev.now _)
      rw [hallmootref22_Right.l0, if_pos (by omega), if_pos (by omega), rdS hlt, if_neg e]
theorem right_ev (a : List ByteArray) (w : List S46) (hw : w.length ≤ 60) : ∃ b, dRight.f a w = some b ∧ Ev (fun k => hallmootref22_Right.f k a w) b ∧ (b = true → a.length ≤ 512 ∧ (∀ x ∈ a, x.size = 32) ∧ ∀ x ∈ w, 0 ≤ x.f0 ∧ x.f0 < (a.length : Int) ∧ x.f1.size = 32) := by
  refine ⟨_, rfl, ?_, fun hb => ?_⟩
  · by_cases h : (512 : Int) < (a.length : Int)
    · rw [if_pos h]
      refine Ev.congr (f := fun _ => some false) (fun k => ?_) (Ev.now _)
      unfold hallmootref22_Right.f
      rw [if_pos (by omega)]
    · rw [if_neg h]
      have := right0 a w (by omega) hw a.length 0 (by omega)
      rw [List.drop_zero] at this
      refine Ev.congr (fun k => ?_) this
      unfold hallmootref22_Right.f
      rw [if_neg (by omega)]
      rfl
  · by_cases h : (512 : Int) < (a.length : Int)
    · rw [if_pos h] at hb; cases hb
    · rw [if_neg h] at hb
      by_cases h2 : a.any badS = true
      · rw [if_pos h2] at hb; cases hb
      · rw [if_neg h2] at hb
        refine ⟨by omega, fun x hx => ?_, fun x hx => ?_⟩
        · have := fun q => h2 (List.any_eq_true.2 ⟨x, hx, q⟩)
          simp [badS] at this
          omega
        · have hq : ¬ (w.any (badW a.length) = true) := by simpa using hb
          have := fun q => hq (List.any_eq_true.2 ⟨x, hx, q⟩)
          simp [badW] at this
          omega
end Go.Proofs.Ytdaonhgcejjlhaa.Pure
namespace Go.Proofs.Ytdaonhgcejjlhaa.P
open Go.RowKit Go.Proofs.YtdaonhgcejjlhaaW.PrintWords Go.Proofs.YtdaonhgcejjlhaaW.PrintLast Go.Proofs.YtdaonhgcejjlhaaW.PrintMore
attribute [local go_sem] max2_int min2_int max_two min_two max_three min_three max_four min_four   -- for this text's walks alone
set_option linter.unusedVariables false
set_option linter.unusedSimpArgs false

/-! ### hallmootref22_synced: function 38 -/
def hallmootref22_synced.l0 : Nat → Int → Int → List ByteArray → List (S46) → Option (ByteArray)
  | 0, _, _, _, _ => none
  | k + 1, x1, x5, x273000, x273001 => if x5 < (x273001.length : Int) then (if 0 ≤ x5 then (if ((rd_T46 x273001 x5).f0) = x1 then (some ((rd_T46 x273001 x5).f1)) else (hallmootref22_synced.l0 k x1 (wrap64 (x5 + 1)) x273000 x273001)) else (none)) else (if 0 ≤ x1 then (if x1 < (x273000.length : Int) then (some (rdOf ByteArray.empty x273000 x1)) else (none)) else (none))
def hallmootref22_synced.f (k : Nat) (l0_0 : List ByteArray) (l0_1 : List (S46)) (a1 : Int) : Option (ByteArray) := hallmootref22_synced.l0 k a1 0 l0_0 l0_1
theorem hallmootref22_synced.mono_l : ∀ k, (∀ y0 y1 y2 y3, LeO (hallmootref22_synced.l0 k y0 y1 y2 y3) (hallmootref22_synced.l0 (k + 1) y0 y1 y2 y3))
  | 0 => fun _ _ _ _ r h => by simp [hallmootref22_synced.l0] at h
  | k + 1 => by
    have ih0 := hallmootref22_synced.mono_l k
    · intro y0 y1 y2 y3
      unfold hallmootref22_synced.l0
      repeat' first
      | (with_reducible exact ih0 _ _ _ _)
      | (with_reducible exact LeO.refl _)
      | (with_reducible exact LeO.none _)
      | (with_reducible refine LeO.ite ?_ ?_)
      | (with_reducible refine LeO.bind ?_ (fun _ => ?_))
      | exact ih0 _ _ _ _
      | exact LeO.none _
      | refine LeO.ite ?_ ?_
      | refine LeO.bind ?_ (fun _ => ?_)
theorem hallmootref22_synced.mono : ∀ a0 a1 a2 k, LeO (hallmootref22_synced.f k a0 a1 a2) (hallmootref22_synced.f (k + 1) a0 a1 a2) := by
 intro a0 a1 a2 k
 have ih0 := hallmootref22_synced.mono_l k
 unfold hallmootref22_synced.f
 repeat' first | (with_reducible exact ih0 _ _ _ _) | (with_reducible exact LeO.refl _) | (with_reducible exact LeO.none _) | (with_reducible refine LeO.ite ?_ ?_) | (with_reducible refine LeO.bind ?_ (fun _ => ?_)) | exact ih0 _ _ _ _ | exact LeO.none _ | refine LeO.ite ?_ ?_ | refine LeO.bind ?_ (fun _ => ?_)
set_option maxHeartbeats 8000000 in
set_option maxRecDepth 100000 in
theorem hallmootref22_synced.calls (k : Nat) (A0_0 : Option Addr) (c0_0 : Nat) (l0_0 : List ByteArray) (A0_1 : Option Addr) (c0_1 : Nat) (l0_1 : List (S46)) (a1 : Int) (r : ByteArray) (w : World) (hr0_0 : Kd.C Kd.string w A0_0 l0_0.length l0_0) (hc0_0 : l0_0.length ≤ c0_0) (hr0_1 : Kd.C k46 w A0_1 l0_1.length l0_1) (hc0_1 : l0_1.length ≤ c0_1) (h : hallmootref22_synced.f k l0_0 l0_1 a1 = some r) : Calls Try.prog 38 #[.agg #[.slice A0_0 l0_0.length c0_0, .slice A0_1 l0_1.length c0_1], .int .i64 a1] w fun e w' => e = .returned (.string r) ∧ Below w.heap.size w w' := by
 have hu25 := Try.underlying25
 have HR0_0 := aS hr0_0
 have HC0_0 := aS hc0_0
 clear hr0_0 hc0_0
 have HR0_1 := aS hr0_1
 have HC0_1 := aS hc0_1
 clear hr0_1 hc0_1
 have HB := aS (Below.refl w.heap.size w)
 have H : (hallmootref22_synced.l0 k a1 0 l0_0 l0_1) = some r := h
 clear h
 have H' := aS H
 clear H
 go_enter Try.func38, Try.ntmps38
 go_wp2_with (first | ((with_reducible refine gate_dst (N := 2) rfl ?_); refine box_event ?hg (N := 2) ?hd (cs := #[.slice A0_0 l0_0.length c0_0, .slice A0_1 l0_1.length c0_1]) (t := 25) ?hr ?_; (case hd => rfl); (case hg => rfl); (case hr => first | (go_simp; done) | (go_simp; rfl)); intro gb272 hg w3 hbox hb; have n0_ := aS (below_step bb hb); have n1_ := aS (hbox); have n2_ := aS ((by rw [hg]; exact bz : w.heap.size ≤ gb272)); have n3_ := aS ((by rw [hg]; exact bz : w.heap.size ≤ gb272)); clear HB; have HB := n0_; have BK272 := n1_; have GW272 := n2_; have GE272 := n3_; clear n0_ n1_ n2_ n3_; clear hb hbox hg))
 go_loopg [5] k (fun kq v5 w' => ∃ (x5_1 : Int), v5 = .int .i64 x5_1 ∧ Aside0 (hallmootref22_synced.l0 kq a1 x5_1 l0_0 l0_1 = some r) ∧ Aside0 (kq ≤ k) ∧ Aside0 (w'.heap[gb272]? = some (.cells #[(.slice A0_0 l0_0.length c0_0), (.slice A0_1 l0_1.length c0_1)] 25 (0, 0))) ∧ Aside0 (Below w.heap.size w w'))
 case atStart => exact ⟨(0), (by first | rfl | (simp; done) | (simp [*]; done)), H', ⟨Nat.le_refl _⟩, ⟨kk BK272.out⟩, ⟨by repeat (first | (with_reducible first | exact HB.out | apply below_alloc | apply pw_below_drewN | apply below_drew1 | refine below_set ?_ GE272.out) | exact HB.out)⟩⟩
 case round =>
  clear H'
  try clear p2
  try clear c3
  obtain ⟨x5_1, rfl, HA, HK1, BK272, HB⟩ := hrel
  cases gk with
  | zero => exact absurd HA.out (by simp [hallmootref22_synced.l0])
  | succ k1 => {
  have H := HA.out
  clear HA
  simp only [hallmootref22_synced.l0] at H
  by_cases c4 : x5_1 < (l0_1.length : Int)
  {
  rw [if_pos c4] at H
  have c4b0 : decide (x5_1 < (l0_1.length : Int)) = true := decide_eq_true c4
  clear c4
  by_cases c5 : 0 ≤ x5_1
  {
  rw [if_pos c5] at H
  have c5b0 : decide (0 ≤ x5_1) = true := decide_eq_true c5
  clear c5
  by_cases c6 : ((rd_T46 l0_1 x5_1).f0) = a1
  {
  rw [if_pos c6] at H
  have c6b0 : (((rd_T46 l0_1 x5_1).f0) == a1) = true := beq_iff_eq.mpr c6
  have c6b1 : (((rd_T46 l0_1 x5_1).f0) != a1) = false := bne_eq_false_iff_eq.mpr c6
  clear c6
  obtain rfl := Option.some.inj H
  have hcz7_0 : wr.cell? ⟨gb272, 0, none⟩ = some (.slice A0_0 l0_0.length c0_0) := (blk_cell BK272.out 0).trans rfl
  have hcz7_1 : wr.cell? ⟨gb272, 1, none⟩ = some (.slice A0_1 l0_1.length c0_1) := (blk_cell BK272.out 1).trans rfl
  have hfz7_0 := blk_frozen BK272.out 0
  have hfz7_1 := blk_frozen BK272.out 1
  have p273 : 0 ≤ (x5_1 : Int) := dd
  have q273 : x5_1 < (l0_1.length : Int) := dd
  obtain ⟨ad273, e273, hx273_0, hx273_1⟩ := at_T46 HR0_1.out x5_1 p273 q273
  cases e273
  replace hx273_0 := cc HB.out hx273_0
  replace hx273_1 := cc HB.out hx273_1
  replace p273 := eq_true p273
  replace q273 := eq_true q273
  have p274 : 0 ≤ (x5_1 : Int) := dd
  have q274 : x5_1 < (l0_1.length : Int) := dd
  obtain ⟨ad274, e274, hx274_0, hx274_1⟩ := at_T46 HR0_1.out x5_1 p274 q274
  obtain rfl : ad273 = ad274 := (by injection e274)
  replace hx274_0 := cc HB.out hx274_0
  replace hx274_1 := cc HB.out hx274_1
  replace p274 := eq_true p274
  replace q274 := eq_true q274
  go_wp2
  go_ret
  exact ⟨by first | rfl | (simp [errW_none, errW_some] <;> rfl) | (simp [*, errW_none, errW_some] <;> rfl), by repeat (first | (with_reducible first | exact HB.out | apply below_alloc | apply pw_below_drewN | apply below_drew1 | refine below_set ?_ GE272.out) | exact HB.out)⟩ }
  {
  rw [if_neg c6] at H
  have c6b0 : (((rd_T46 l0_1 x5_1).f0) == a1) = false := beq_eq_false_iff_ne.mpr c6
  have c6b1 : (((rd_T46 l0_1 x5_1).f0) != a1) = true := bne_iff_ne.mpr c6
  have H' := aS H
  clear H
  have hcz8_0 : wr.cell? ⟨gb272, 0, none⟩ = some (.slice A0_0 l0_0.length c0_0) := (blk_cell BK272.out 0).trans rfl
  have hcz8_1 : wr.cell? ⟨gb272, 1, none⟩ = some (.slice A0_1 l0_1.length c0_1) := (blk_cell BK272.out 1).trans rfl
  have hfz8_0 := blk_frozen BK272.out 0
  have hfz8_1 := blk_frozen BK272.out 1
  have p273 : 0 ≤ (x5_1 : Int) := dd
  have q273 : x5_1 < (l0_1.length : Int) := dd
  obtain ⟨ad273, e273, hx273_0, hx273_1⟩ := at_T46 HR0_1.out x5_1 p273 q273
  cases e273
  replace hx273_0 := cc HB.out hx273_0
  replace hx273_1 := cc HB.out hx273_1
  replace p273 := eq_true p273
  replace q273 := eq_true q273
  go_wp2
  go_roundg k1
  case measure => have := HK1.out; omega
  case rel => exact ⟨(wrap64 (x5_1 + 1)), (by first | rfl | (simp; done) | (simp [*]; done)), H', ⟨by have := HK1.out; omega⟩, ⟨kk BK272.out⟩, ⟨by repeat (first | (with_reducible first | exact HB.out | apply below_alloc | apply pw_below_drewN | apply below_drew1 | refine below_set ?_ GE272.out) | exact HB.out)⟩⟩ } }
  {
  rw [if_neg c5] at H
  exact absurd H (by simp) } }
  {
  rw [if_neg c4] at H
  have c4b0 : decide (x5_1 < (l0_1.length : Int)) = false := decide_eq_false c4
  clear c4
  by_cases c9 : 0 ≤ a1
  {
  rw [if_pos c9] at H
  have c9b0 : decide (0 ≤ a1) = true := decide_eq_true c9
  clear c9
  by_cases c10 : a1 < (l0_0.length : Int)
  {
  rw [if_pos c10] at H
  have c10b0 : decide (a1 < (l0_0.length : Int)) = true := decide_eq_true c10
  clear c10
  obtain rfl := Option.some.inj H
  have hcz11_0 : wr.cell? ⟨gb272, 0, none⟩ = some (.slice A0_0 l0_0.length c0_0) := (blk_cell BK272.out 0).trans rfl
  have hcz11_1 : wr.cell? ⟨gb272, 1, none⟩ = some (.slice A0_1 l0_1.length c0_1) := (blk_cell BK272.out 1).trans rfl
  have hfz11_0 := blk_frozen BK272.out 0
  have hfz11_1 := blk_frozen BK272.out 1
  have p275 : 0 ≤ (a1 : Int) := dd
  have q275 : a1 < (l0_0.length : Int) := dd
  obtain ⟨ad275, e275, hx275_0⟩ := Kd.at_string HR0_0.out a1 p275 q275
  cases e275
  replace hx275_0 := cc HB.out hx275_0
  replace p275 := eq_true p275
  replace q275 := eq_true q275
  go_wp2
  go_ret
  exact ⟨by first | rfl | (simp [errW_none, errW_some] <;> rfl) | (simp [*, errW_none, errW_some] <;> rfl), by repeat (first | (with_reducible first | exact HB.out | apply below_alloc | apply pw_below_drewN | apply below_drew1 | refine below_set ?_ GE272.out) | exact HB.out)⟩ }
  {
  rw [if_neg c10] at H
  exact absurd H (by simp) } }
  {
  rw [if_neg c9] at H
  exact absurd H (by simp) } } }

end Go.Proofs.Ytdaonhgcejjlhaa.P
namespace Go.Proofs.Ytdaonhgcejjlhaa.P
open Go.RowKit Go.Proofs.YtdaonhgcejjlhaaW.PrintWords Go.Proofs.YtdaonhgcejjlhaaW.PrintLast Go.Proofs.YtdaonhgcejjlhaaW.PrintMore
attribute [local go_sem] max2_int min2_int max_two min_two max_three min_three max_four min_four   -- for this text's walks alone
set_option linter.unusedVariables false
set_option linter.unusedSimpArgs false

/-! ### hallmootref22_put: function 40 -/
def hallmootref22_put.l0 : Nat → Int → Int → List ByteArray → List (S46) → Option (ByteArray)
  | 0, _, _, _, _ => none
  | k + 1, x1, x5, x278000, x278001 => if x5 < (x278001.length : Int) then (if 0 ≤ x5 then (if 0 ≤ x1 then (if x1 < (x278001.length : Int) then (if ((rd_T46 x278001 x5).f0) = ((rd_T46 x278001 x1).f0) then (some ((rd_T46 x278001 x5).f1)) else (hallmootref22_put.l0 k x1 (wrap64 (x5 + 1)) x278000 x278001)) else (none)) else (none)) else (none)) else (if 0 ≤ x1 then (if x1 < (x278001.length : Int) then (if 0 ≤ ((rd_T46 x278001 x1).f0) then (if ((rd_T46 x278001 x1).f0) < (x278000.length : Int) then (some (rdOf ByteArray.empty x278000 ((rd_T46 x278001 x1).f0))) else (none)) else (none)) else (none)) else (none))
def hallmootref22_put.f (k : Nat) (l0_0 : List ByteArray) (l0_1 : List (S46)) (a1 : Int) : Option (ByteArray) := hallmootref22_put.l0 k a1 (wrap64 (a1 + 1)) l0_0 l0_1
theorem hallmootref22_put.mono_l : ∀ k, (∀ y0 y1 y2 y3, LeO (hallmootref22_put.l0 k y0 y1 y2 y3) (hallmootref22_put.l0 (k + 1) y0 y1 y2 y3))
  | 0 => fun _ _ _ _ r h => by simp [hallmootref22_put.l0] at h
  | k + 1 => by
    have ih0 := hallmootref22_put.mono_l k
    · intro y0 y1 y2 y3
      unfold hallmootref22_put.l0
      repeat' first
      | (with_reducible exact ih0 _ _ _ _)
      | (with_reducible exact LeO.refl _)
      | (with_reducible exact LeO.none _)
      | (with_reducible refine LeO.ite ?_ ?_)
      | (with_reducible refine LeO.bind ?_ (fun _ => ?_))
      | exact ih0 _ _ _ _
      | exact LeO.none _
      | refine LeO.ite ?_ ?_
      | refine LeO.bind ?_ (fun _ => ?_)
theorem hallmootref22_put.mono : ∀ a0 a1 a2 k, LeO (hallmootref22_put.f k a0 a1 a2) (hallmootref22_put.f (k + 1) a0 a1 a2) := by
 intro a0 a1 a2 k
 have ih0 := hallmootref22_put.mono_l k
 unfold hallmootref22_put.f
 repeat' first | (with_reducible exact ih0 _ _ _ _) | (with_reducible exact LeO.refl _) | (with_reducible exact LeO.none _) | (with_reducible refine LeO.ite ?_ ?_) | (with_reducible refine LeO.bind ?_ (fun _ => ?_)) | exact ih0 _ _ _ _ | exact LeO.none _ | refine LeO.ite ?_ ?_ | refine LeO.bind ?_ (fun _ => ?_)
set_option maxHeartbeats 8000000 in
set_option maxRecDepth 100000 in
theorem hallmootref22_put.calls (k : Nat) (A0_0 : Option Addr) (c0_0 : Nat) (l0_0 : List ByteArray) (A0_1 : Option Addr) (c0_1 : Nat) (l0_1 : List (S46)) (a1 : Int) (r : ByteArray) (w : World) (hr0_0 : Kd.C Kd.string w A0_0 l0_0.length l0_0) (hc0_0 : l0_0.length ≤ c0_0) (hr0_1 : Kd.C k46 w A0_1 l0_1.length l0_1) (hc0_1 : l0_1.length ≤ c0_1) (h : hallmootref22_put.f k l0_0 l0_1 a1 = some r) : Calls Try.prog 40 #[.agg #[.slice A0_0 l0_0.length c0_0, .slice A0_1 l0_1.length c0_1], .int .i64 a1] w fun e w' => e = .returned (.string r) ∧ Below w.heap.size w w' := by
 have hu25 := Try.underlying25
 have HR0_0 := aS hr0_0
 have HC0_0 := aS hc0_0
 clear hr0_0 hc0_0
 have HR0_1 := aS hr0_1
 have HC0_1 := aS hc0_1
 clear hr0_1 hc0_1
 have HB := aS (Below.refl w.heap.size w)
 have H : (hallmootref22_put.l0 k a1 (wrap64 (a1 + 1)) l0_0 l0_1) = some r := h
 clear h
 have H' := aS H
 clear H
 go_enter Try.func40, Try.ntmps40
 go_wp2_with (first | ((with_reducible refine gate_dst (N := 2) rfl ?_); refine box_event ?hg (N := 2) ?hd (cs := #[.slice A0_0 l0_0.length c0_0, .slice A0_1 l0_1.length c0_1]) (t := 25) ?hr ?_; (case hd => rfl); (case hg => rfl); (case hr => first | (go_simp; done) | (go_simp; rfl)); intro gb277 hg w3 hbox hb; have n0_ := aS (below_step bb hb); have n1_ := aS (hbox); have n2_ := aS ((by rw [hg]; exact bz : w.heap.size ≤ gb277)); have n3_ := aS ((by rw [hg]; exact bz : w.heap.size ≤ gb277)); clear HB; have HB := n0_; have BK277 := n1_; have GW277 := n2_; have GE277 := n3_; clear n0_ n1_ n2_ n3_; clear hb hbox hg))
 repeat (go_quiet (first | ((with_reducible refine gate_dst (N := 2) rfl ?_); refine box_event ?hg (N := 2) ?hd (cs := #[.slice A0_0 l0_0.length c0_0, .slice A0_1 l0_1.length c0_1]) (t := 25) ?hr ?_; (case hd => rfl); (case hg => rfl); (case hr => first | (go_simp; done) | (go_simp; rfl)); intro gb277 hg w3 hbox hb; have n0_ := aS (below_step bb hb); have n1_ := aS (hbox); have n2_ := aS ((by rw [hg]; exact bz : w.heap.size ≤ gb277)); have n3_ := aS ((by rw [hg]; exact bz : w.heap.size ≤ gb277)); clear HB; have HB := n0_; have BK277 := n1_; have GW277 := n2_; have GE277 := n3_; clear n0_ n1_ n2_ n3_; clear hb hbox hg)); try go_wp2_with (first | ((with_reducible refine gate_dst (N := 2) rfl ?_); refine box_event ?hg (N := 2) ?hd (cs := #[.slice A0_0 l0_0.length c0_0, .slice A0_1 l0_1.length c0_1]) (t := 25) ?hr ?_; (case hd => rfl); (case hg => rfl); (case hr => first | (go_simp; done) | (go_simp; rfl)); intro gb277 hg w3 hbox hb; have n0_ := aS (below_step bb hb); have n1_ := aS (hbox); have n2_ := aS ((by rw [hg]; exact bz : w.heap.size ≤ gb277)); have n3_ := aS ((by rw [hg]; exact bz : w.heap.size ≤ gb277)); clear HB; have HB := n0_; have BK277 := n1_; have GW277 := n2_; have GE277 := n3_; clear n0_ n1_ n2_ n3_; clear hb hbox hg)))
 go_loopg [5] k (fun kq v5 w' => ∃ (x5_1 : Int), v5 = .int .i64 x5_1 ∧ Aside0 (hallmootref22_put.l0 kq a1 x5_1 l0_0 l0_1 = some r) ∧ Aside0 (kq ≤ k) ∧ Aside0 (w'.heap[gb277]? = some (.cells #[(.slice A0_0 l0_0.length c0_0), (.slice A0_1 l0_1.length c0_1)] 25 (0, 0))) ∧ Aside0 (Below w.heap.size w w'))
 case atStart => exact ⟨(wrap64 (a1 + 1)), (by first | rfl | (simp; done) | (simp [*]; done)), H', ⟨Nat.le_refl _⟩, ⟨kk BK277.out⟩, ⟨by repeat (first | (with_reducible first | exact HB.out | apply below_alloc | apply pw_below_drewN | apply below_drew1 | refine below_set ?_ GE277.out) | exact HB.out)⟩⟩
 case round =>
  clear H'
  try clear p2
  obtain ⟨x5_1, rfl, HA, HK1, BK277, HB⟩ := hrel
  cases gk with
  | zero => exact absurd HA.out (by simp [hallmootref22_put.l0])
  | succ k1 => {
  have H := HA.out
  clear HA
  simp only [hallmootref22_put.l0] at H
  by_cases c4 : x5_1 < (l0_1.length : Int)
  {
  rw [if_pos c4] at H
  have c4b0 : decide (x5_1 < (l0_1.length : Int)) = true := decide_eq_true c4
  clear c4
  by_cases c5 : 0 ≤ x5_1
  {
  rw [if_pos c5] at H
  have c5b0 : decide (0 ≤ x5_1) = true := decide_eq_true c5
  clear c5
  by_cases c6 : 0 ≤ a1
  {
  rw [if_pos c6] at H
  have c6b0 : decide (0 ≤ a1) = true := decide_eq_true c6
  clear c6
  by_cases c7 : a1 < (l0_1.length : Int)
  {
  rw [if_pos c7] at H
  have c7b0 : decide (a1 < (l0_1.length : Int)) = true := decide_eq_true c7
  clear c7
  by_cases c8 : ((rd_T46 l0_1 x5_1).f0) = ((rd_T46 l0_1 a1).f0)
  {
  rw [if_pos c8] at H
  have c8b0 : (((rd_T46 l0_1 x5_1).f0) == ((rd_T46 l0_1 a1).f0)) = true := beq_iff_eq.mpr c8
  have c8b1 : (((rd_T46 l0_1 x5_1).f0) != ((rd_T46 l0_1 a1).f0)) = false := bne_eq_false_iff_eq.mpr c8
  clear c8
  obtain rfl := Option.some.inj H
  have hcz9_0 : wr.cell? ⟨gb277, 0, none⟩ = some (.slice A0_0 l0_0.length c0_0) := (blk_cell BK277.out 0).trans rfl
  have hcz9_1 : wr.cell? ⟨gb277, 1, none⟩ = some (.slice A0_1 l0_1.length c0_1) := (blk_cell BK277.out 1).trans rfl
  have hfz9_0 := blk_frozen BK277.out 0
  have hfz9_1 := blk_frozen BK277.out 1
  have p278 : 0 ≤ (x5_1 : Int) := dd
  have q278 : x5_1 < (l0_1.length : Int) := dd
  obtain ⟨ad278, e278, hx278_0, hx278_1⟩ := at_T46 HR0_1.out x5_1 p278 q278
  cases e278
  replace hx278_0 := cc HB.out hx278_0
  replace hx278_1 := cc HB.out hx278_1
  replace p278 := eq_true p278
  replace q278 := eq_true q278
  have p279 : 0 ≤ (a1 : Int) := dd
  have q279 : a1 < (l0_1.length : Int) := dd
  obtain ⟨ad279, e279, hx279_0, hx279_1⟩ := at_T46 HR0_1.out a1 p279 q279
  obtain rfl : ad278 = ad279 := (by injection e279)
  replace hx279_0 := cc HB.out hx279_0
  replace hx279_1 := cc HB.out hx279_1
  replace p279 := eq_true p279
  replace q279 := eq_true q279
  have p280 : 0 ≤ (x5_1 : Int) := dd
  have q280 : x5_1 < (l0_1.length : Int) := dd
  obtain ⟨ad280, e280, hx280_0, hx280_1⟩ := at_T46 HR0_1.out x5_1 p280 q280
  obtain rfl : ad278 = ad280 := (by injection e280)
  replace hx280_0 := cc HB.out hx280_0
  replace hx280_1 := cc HB.out hx280_1
  replace p280 := eq_true p280
  replace q280 := eq_true q280
  go_wp2
  repeat (go_quiet (fail); try go_wp2)
  go_ret
  exact ⟨by first | rfl | (simp [errW_none, errW_some] <;> rfl) | (simp [*, errW_none, errW_some] <;> rfl), by repeat (first | (with_reducible first | exact HB.out | apply below_alloc | apply pw_below_drewN | apply below_drew1 | refine below_set ?_ GE277.out) | exact HB.out)⟩ }
  {
  rw [if_neg c8] at H
  have c8b0 : (((rd_T46 l0_1 x5_1).f0) == ((rd_T46 l0_1 a1).f0)) = false := beq_eq_false_iff_ne.mpr c8
  have c8b1 : (((rd_T46 l0_1 x5_1).f0) != ((rd_T46 l0_1 a1).f0)) = true := bne_iff_ne.mpr c8
  have H' := aS H
  clear H
  have hcz10_0 : wr.cell? ⟨gb277, 0, none⟩ = some (.slice A0_0 l0_0.length c0_0) := (blk_cell BK277.out 0).trans rfl
  have hcz10_1 : wr.cell? ⟨gb277, 1, none⟩ = some (.slice A0_1 l0_1.length c0_1) := (blk_cell BK277.out 1).trans rfl
  have hfz10_0 := blk_frozen BK277.out 0
  have hfz10_1 := blk_frozen BK277.out 1
  have p278 : 0 ≤ (x5_1 : Int) := dd
  have q278 : x5_1 < (l0_1.length : Int) := dd
  obtain ⟨ad278, e278, hx278_0, hx278_1⟩ := at_T46 HR0_1.out x5_1 p278 q278
  cases e278
  replace hx278_0 := cc HB.out hx278_0
  replace hx278_1 := cc HB.out hx278_1
  replace p278 := eq_true p278
  replace q278 := eq_true q278
  have p279 : 0 ≤ (a1 : Int) := dd
  have q279 : a1 < (l0_1.length : Int) := dd
  obtain ⟨ad279, e279, hx279_0, hx279_1⟩ := at_T46 HR0_1.out a1 p279 q279
  obtain rfl : ad278 = ad279 := (by injection e279)
  replace hx279_0 := cc HB.out hx279_0
  replace hx279_1 := cc HB.out hx279_1
  replace p279 := eq_true p279
  replace q279 := eq_true q279
  go_wp2
  repeat (go_quiet (fail); try go_wp2)
  go_roundg k1
  case measure => have := HK1.out; omega
  case rel => exact ⟨(wrap64 (x5_1 + 1)), (by first | rfl | (simp; done) | (simp [*]; done)), H', ⟨by have := HK1.out; omega⟩, ⟨kk BK277.out⟩, ⟨by repeat (first | (with_reducible first | exact HB.out | apply below_alloc | apply pw_below_drewN | apply below_drew1 | refine below_set ?_ GE277.out) | exact HB.out)⟩⟩ } }
  {
  rw [if_neg c7] at H
  exact absurd H (by simp) } }
  {
  rw [if_neg c6] at H
  exact absurd H (by simp) } }
  {
  rw [if_neg c5] at H
  exact absurd H (by simp) } }
  {
  rw [if_neg c4] at H
  have c4b0 : decide (x5_1 < (l0_1.length : Int)) = false := decide_eq_false c4
  clear c4
  by_cases c11 : 0 ≤ a1
  {
  rw [if_pos c11] at H
  have c11b0 : decide (0 ≤ a1) = true := decide_eq_true c11
  clear c11
  by_cases c12 : a1 < (l0_1.length : Int)
  {
  rw [if_pos c12] at H
  have c12b0 : decide (a1 < (l0_1.length : Int)) = true := decide_eq_true c12
  clear c12
  by_cases c13 : 0 ≤ ((rd_T46 l0_1 a1).f0)
  {
  rw [if_pos c13] at H
  have c13b0 : decide (0 ≤ ((rd_T46 l0_1 a1).f0)) = true := decide_eq_true c13
  clear c13
  by_cases c14 : ((rd_T46 l0_1 a1).f0) < (l0_0.length : Int)
  {
  rw [if_pos c14] at H
  have c14b0 : decide (((rd_T46 l0_1 a1).f0) < (l0_0.length : Int)) = true := decide_eq_true c14
  clear c14
  obtain rfl := Option.some.inj H
  have hcz15_0 : wr.cell? ⟨gb277, 0, none⟩ = some (.slice A0_0 l0_0.length c0_0) := (blk_cell BK277.out 0).trans rfl
  have hcz15_1 : wr.cell? ⟨gb277, 1, none⟩ = some (.slice A0_1 l0_1.length c0_1) := (blk_cell BK277.out 1).trans rfl
  have hfz15_0 := blk_frozen BK277.out 0
  have hfz15_1 := blk_frozen BK277.out 1
  have p281 : 0 ≤ (a1 : Int) := dd
  have q281 : a1 < (l0_1.length : Int) := dd
  obtain ⟨ad281, e281, hx281_0, hx281_1⟩ := at_T46 HR0_1.out a1 p281 q281
  cases e281
  replace hx281_0 := cc HB.out hx281_0
  replace hx281_1 := cc HB.out hx281_1
  replace p281 := eq_true p281
  replace q281 := eq_true q281
  have p282 : 0 ≤ (((rd_T46 l0_1 a1).f0) : Int) := dd
  have q282 : ((rd_T46 l0_1 a1).f0) < (l0_0.length : Int) := dd
  obtain ⟨ad282, e282, hx282_0⟩ := Kd.at_string HR0_0.out ((rd_T46 l0_1 a1).f0) p282 q282
  cases e282
  replace hx282_0 := cc HB.out hx282_0
  replace p282 := eq_true p282
  replace q282 := eq_true q282
  go_wp2
  repeat (go_quiet (fail); try go_wp2)
  go_ret
  exact ⟨by first | rfl | (simp [errW_none, errW_some] <;> rfl) | (simp [*, errW_none, errW_some] <;> rfl), by repeat (first | (with_reducible first | exact HB.out | apply below_alloc | apply pw_below_drewN | apply below_drew1 | refine below_set ?_ GE277.out) | exact HB.out)⟩ }
  {
  rw [if_neg c14] at H
  exact absurd H (by simp) } }
  {
  rw [if_neg c13] at H
  exact absurd H (by simp) } }
  {
  rw [if_neg c12] at H
  exact absurd H (by simp) } }
  {
  rw [if_neg c11] at H
  exact absurd H (by simp) } } }

end Go.Proofs.Ytdaonhgcejjlhaa.P
namespace Go.Proofs.Ytdaonhgcejjlhaa.P
open Go.RowKit Go.Proofs.YtdaonhgcejjlhaaW.PrintWords Go.Proofs.YtdaonhgcejjlhaaW.PrintLast Go.Proofs.YtdaonhgcejjlhaaW.PrintMore
attribute [local go_sem] max2_int min2_int max_two min_two max_three min_three max_four min_four   -- for this text's walks alone
set_option linter.unusedVariables false
set_option linter.unusedSimpArgs false

/-! ### hallmootref22_Cut: function 39 -/
def hallmootref22_Cut.f (l0 : List Int) (a1 : Int) : Option (Int) := if a1 ≥ (l0.length : Int) then (some 32) else (if 0 ≤ a1 then (if a1 < (l0.length : Int) then (if (Int.tmod (rd l0 a1) 33) < 0 then (some (wrap64 ((Int.tmod (rd l0 a1) 33) + 33))) else (some (Int.tmod (rd l0 a1) 33))) else (none)) else (none))
set_option maxHeartbeats 8000000 in
set_option maxRecDepth 100000 in
theorem hallmootref22_Cut.calls (A0 : Option Addr) (c0 : Nat) (l0 : List Int) (a1 : Int) (r : Int) (w : World) (hr0 : Kd.C (Kd.int .i64) w A0 l0.length l0) (hc0 : l0.length ≤ c0) (h : hallmootref22_Cut.f l0 a1 = some r) : Calls Try.prog 39 #[.slice A0 l0.length c0, .int .i64 a1] w fun e w' => e = .returned (.int .i64 r) ∧ Drawn0 w w' := by
 have HR0 := aS hr0
 have HC0 := aS hc0
 clear hr0 hc0
 have H : (if a1 ≥ (l0.length : Int) then (some 32) else (if 0 ≤ a1 then (if a1 < (l0.length : Int) then (if (Int.tmod (rd l0 a1) 33) < 0 then (some (wrap64 ((Int.tmod (rd l0 a1) 33) + 33))) else (some (Int.tmod (rd l0 a1) 33))) else (none)) else (none))) = some r := h
 clear h
 by_cases c3 : a1 ≥ (l0.length : Int)
 {
 rw [if_pos c3] at H
 have c3b0 : decide ((l0.length : Int) ≤ a1) = true := decide_eq_true c3
 clear c3
 obtain rfl := Option.some.inj H
 go_enter Try.func39, Try.ntmps39
 go_wp2
 go_ret
 exact ⟨by first | rfl | (simp; done) | (simp [*]; done), by repeat (first | exact Drawn0.refl _ | apply Drawn0.step)⟩ }
 {
 rw [if_neg c3] at H
 have c3b0 : decide ((l0.length : Int) ≤ a1) = false := decide_eq_false c3
 clear c3
 by_cases c4 : 0 ≤ a1
 {
 rw [if_pos c4] at H
 have c4b0 : decide (0 ≤ a1) = true := decide_eq_true c4
 clear c4
 by_cases c5 : a1 < (l0.length : Int)
 {
 rw [if_pos c5] at H
 have c5b0 : decide (a1 < (l0.length : Int)) = true := decide_eq_true c5
 clear c5
 by_cases c6 : (Int.tmod (rd l0 a1) 33) < 0
 {
 rw [if_pos c6] at H
 have c6b0 : decide ((Int.tmod (rd l0 a1) 33) < 0) = true := decide_eq_true c6
 clear c6
 obtain rfl := Option.some.inj H
 have p276 : 0 ≤ (a1 : Int) := dd
 have q276 : a1 < (l0.length : Int) := dd
 obtain ⟨ad276, e276, hx276_0⟩ := Kd.at_int HR0.out a1 p276 q276
 cases e276
 replace p276 := eq_true p276
 replace q276 := eq_true q276
 go_enter Try.func39, Try.ntmps39
 go_wp2
 go_ret
 exact ⟨by first | rfl | (simp; done) | (simp [*]; done), by repeat (first | exact Drawn0.refl _ | apply Drawn0.step)⟩ }
 {
 rw [if_neg c6] at H
 have c6b0 : decide ((Int.tmod (rd l0 a1) 33) < 0) = false := decide_eq_false c6
 clear c6
 obtain rfl := Option.some.inj H
 have p276 : 0 ≤ (a1 : Int) := dd
 have q276 : a1 < (l0.length : Int) := dd
 obtain ⟨ad276, e276, hx276_0⟩ := Kd.at_int HR0.out a1 p276 q276
 cases e276
 replace p276 := eq_true p276
 replace q276 := eq_true q276
 go_enter Try.func39, Try.ntmps39
 go_wp2
 go_ret
 exact ⟨by first | rfl | (simp; done) | (simp [*]; done), by repeat (first | exact Drawn0.refl _ | apply Drawn0.step)⟩ } }
 {
 rw [if_neg c5] at H
 exact absurd H (by simp) } }
 {
 rw [if_neg c4] at H
 exact absurd H (by simp) } }

end Go.Proofs.Ytdaonhgcejjlhaa.P
namespace Go.Proofs.Ytdaonhgcejjlhaa.Pure
open Go.RowKit Go.Proofs.Ytdaonhgcejjlhaa.P Go.Proofs.YtdaonhgcejjlhaaW.PrintWords Go.Proofs.YtdaonhgcejjlhaaW.PrintLast Go.Proofs.YtdaonhgcejjlhaaW.PrintMore
set_option linter.unusedVariables false

def synv (ws : List S46) (s0 : List ByteArray) (a : Nat) : ByteArray := match ws.find? (fun x => x.f0 == (a : Int)) with | some x => x.f1 | none => s0.getD a ByteArray.empty
theorem synv_nil (s0 : List ByteArray) (a : Nat) : synv [] s0 a = s0.getD a ByteArray.empty := rfl
theorem synv_cons (x : S46) (ws : List S46) (s0 : List ByteArray) (a : Nat) : synv (x :: ws) s0 a = if x.f0 = (a : Int) then x.f1 else synv ws s0 a := by
  unfold synv
  rw [List.find?_cons]
  by_cases h : x.f0 = (a : Int)
  · simp [h]
  · rw [if_neg h, show (x.f0 == (a : Int)) = false from by simpa using h]
def sAt (ws : List S46) (s0 : List ByteArray) (j : Nat) : List ByteArray := (List.range s0.length).map (synv (ws.drop j) s0)
def putv (ws : List S46) (s0 : List ByteArray) (i : Nat) : ByteArray := synv (ws.drop (i + 1)) s0 (ws.getD i z46).f0.toNat
theorem sAt_len (ws : List S46) (s0 : List ByteArray) (j : Nat) : (sAt ws s0 j).length = s0.length := by unfold sAt; simp
theorem sAt_get {ws : List S46} {s0 : List ByteArray} {j a : Nat} (h : a < s0.length) : (sAt ws s0 j).getD a ByteArray.empty = synv (ws.drop j) s0 a := by
  unfold sAt
  rw [List.getD_eq_getElem?_getD, List.getElem?_map, List.getElem?_range h]
  rfl
theorem getD_ext {a b : List ByteArray} (hl : a.length = b.length) (h : ∀ i, i < a.length → a.getD i ByteArray.empty = b.getD i ByteArray.empty) : a = b := by
  apply List.ext_getElem hl
  intro i h1 h2
  have := h i h1
  rw [List.getD_eq_getElem?_getD, List.getD_eq_getElem?_getD, List.getElem?_eq_getElem h1, List.getElem?_eq_getElem h2] at this
  exact this
theorem sAt_end (ws : List S46) (s0 : List ByteArray) : sAt ws s0 ws.length = s0 := by
  refine getD_ext (sAt_len _ _ _) (fun i hi => ?_)
  rw [sAt_len] at hi
  rw [sAt_get hi, List.drop_of_length_le (Nat.le_refl _)]
  rfl
theorem ws_at {ws : List S46} {i : Nat} (h : i < ws.length) : ws.getD i z46 = ws[i] := by rw [List.getD_eq_getElem?_getD, List.getElem?_eq_getElem h]; rfl
theorem sAt_step {ws : List S46} {s0 : List ByteArray} {i : Nat} (hi : i < ws.length) (h0 : 0 ≤ (ws.getD i z46).f0) : sAt ws s0 i = (sAt ws s0 (i + 1)).set (ws.getD i z46).f0.toNat (ws.getD i z46).f1 := by
  refine getD_ext (by rw [List.length_set, sAt_len, sAt_len]) (fun a ha => ?_)
  rw [sAt_len] at ha
  rw [sAt_get ha, List.drop_eq_getElem_cons hi, synv_cons, ← ws_at hi]
  generalize ws.getD i z46 = x at h0 ⊢
  rw [List.getD_eq_getElem?_getD, List.getElem?_set]
  by_cases e : x.f0 = (a : Int)
  · have e2 : x.f0.toNat = a := by omega
    rw [if_pos e, if_pos e2, if_pos (by rw [sAt_len]; omega)]
    rfl
  · have e2 : ¬ x.f0.toNat = a := by omega
    rw [if_neg e, if_neg e2, ← List.getD_eq_getElem?_getD, sAt_get ha]
theorem undo_eq (ws : List S46) (s0 : List ByteArray) (hw : ∀ i, i < ws.length → 0 ≤ (ws.getD i z46).f0 ∧ (ws.getD i z46).f0 < (s0.length : Int)) : ∀ (i : Nat) (p : List ByteArray), i ≤ ws.length → p.length = ws.length →
    (undoS ws i (sAt ws s0 i) p).1 = sAt ws s0 0 ∧ (∀ j, j < i → (undoS ws i (sAt ws s0 i) p).2.getD j ByteArray.empty = putv ws s0 j) ∧ ∀ j, i ≤ j → (undoS ws i (sAt ws s0 i) p).2.getD j ByteArray.empty = p.getD j ByteArray.empty
  | 0, p, _, _ => ⟨rfl, fun j hj => absurd hj (Nat.not_lt_zero _), fun j _ => rfl⟩
  | i + 1, p, hi, hp => by
    have hlt : i < ws.length := by omega
    obtain ⟨h0, h1⟩ := hw i hlt
    have hs := sAt_step (s0 := s0) hlt h0
    have hpv : rdOf ByteArray.empty (sAt ws s0 (i + 1)) (ws.getD i z46).f0 = putv ws s0 i := by
      unfold rdOf putv
      exact sAt_get (by omega)
    obtain ⟨g1, g2, g3⟩ := undo_eq ws s0 hw i (p.set i (putv ws s0 i)) (by omega) (by simpa using hp)
    unfold undoS
    rw [hpv, ← hs]
    refine ⟨g1, fun j hj => ?_, fun j hj => ?_⟩
    · by_cases e : j = i
      · subst e
        rw [g3 j (Nat.le_refl _), List.getD_eq_getElem?_getD, List.getElem?_set_self (by omega)]
        rfl
      · exact g2 j (by omega)
    · rw [g3 j (by omega), List.getD_eq_getElem?_getD, List.getElem?_set_ne (by omega), ← List.getD_eq_getElem?_getD]
theorem crS_congr (ws : List S46) (p q : List ByteArray) (cuts : List Int) (s : List ByteArray) : ∀ i, (∀ j, j < i → p.getD j ByteArray.empty = q.getD j ByteArray.empty) → crS ws p cuts i s = crS ws q cuts i s
  | 0, _ => rfl
  | i + 1, h => by
    have ih := crS_congr ws p q cuts s i (fun j hj => h j (by omega))
    unfold crS
    rw [ih, show rdOf ByteArray.empty p (i : Int) = rdOf ByteArray.empty q (i : Int) from by unfold rdOf; rw [Int.toNat_natCast]; exact h i (by omega)]

/-! ### the reference's loops -/
theorem syn_loop (ws : List S46) (s0 : List ByteArray) (a : Nat) (ha : a < s0.length) (hm : ws.length ≤ 1000) (d : Nat) : ∀ i : Nat, i + d = ws.length → Ev (fun k => hallmootref22_synced.l0 k (a : Int) (i : Int) s0 ws) (synv (ws.drop i) s0 a) := by
  induction d with
  | zero =>
    intro i hi
    rw [List.drop_of_length_le (by omega)]
    refine Ev.step (f := fun _ => some (synv [] s0 a)) (fun k => ?_) (Ev.now _)
    rw [hallmootref22_synced.l0, if_neg (by omega), if_pos (by omega), if_pos (by omega)]
    rfl
  | succ d ih =>
    intro i hi
    have hlt : i < ws.length := by omega
    rw [List.drop_eq_getElem_cons hlt, synv_cons]
    by_cases e : ws[i].f0 = (a : Int)
    · rw [if_pos e]
      refine Ev.step (f := fun _ => some ws[i].f1) (fun k => ?_) (Ev.now _)
      rw [hallmootref22_synced.l0, if_pos (by omega), if_pos (by omega), rdW hlt, if_pos e]
    · rw [if_neg e]
      refine Ev.step (fun k => ?_) (ih (i + 1) (by omega))
      rw [hallmootref22_synced.l0, if_pos (by omega), if_pos (by omega), rdW hlt, if_neg e, wrapB hlt (by omega)]
theorem syn_ev (ws : List S46) (s0 : List ByteArray) (a : Nat) (ha : a < s0.length) (hm : ws.length ≤ 1000) : Ev (fun k => hallmootref22_synced.f k s0 ws (a : Int)) (synv ws s0 a) := by
  have := syn_loop ws s0 a ha hm ws.length 0 (by omega)
  rw [List.drop_zero] at this
  exact this
theorem put_loop (ws : List S46) (s0 : List ByteArray) (i : Nat) (hi : i < ws.length) (h0 : 0 ≤ ws[i].f0) (h1 : ws[i].f0 < (s0.length : Int)) (hm : ws.length ≤ 1000) (d : Nat) : ∀ j : Nat, j + d = ws.length → Ev (fun k => hallmootref22_put.l0 k (i : Int) (j : Int) s0 ws) (synv (ws.drop j) s0 ws[i].f0.toNat) := by
  induction d with
  | zero =>
    intro j hj
    rw [List.drop_of_length_le (by omega)]
    refine Ev.step (f := fun _ => some (synv [] s0 ws[i].f0.toNat)) (fun k => ?_) (Ev.now _)
    rw [hallmootref22_put.l0, if_neg (by omega), if_pos (by omega), if_pos (by omega), rdW hi, if_pos h0, if_pos h1]
    rfl
  | succ d ih =>
    intro j hj
    have hlt : j < ws.length := by omega
    rw [List.drop_eq_getElem_cons hlt, synv_cons]
    by_cases e : ws[j].f0 = ws[i].f0
    · rw [if_pos (by omega)]
      refine Ev.step (f := fun _ => some ws[j].f1) (fun k => ?_) (Ev.now _)
      rw [hallmootref22_put.l0, if_pos (by omega), if_pos (by omega), if_pos (by omega), if_pos (by omega), rdW hlt, rdW hi, if_pos e]
    · rw [if_neg (by omega)]
      refine Ev.step (fun k => ?_) (ih (j + 1) (by omega))
      rw [hallmootref22_put.l0, if_pos (by omega), if_pos (by omega), if_pos (by omega), if_pos (by omega), rdW hlt, rdW hi, if_neg e, wrapB hlt (by omega)]
theorem put_ev (ws : List S46) (s0 : List ByteArray) (i : Nat) (hi : i < ws.length) (h0 : 0 ≤ ws[i].f0) (h1 : ws[i].f0 < (s0.length : Int)) (hm : ws.length ≤ 1000) : Ev (fun k => hallmootref22_put.f k s0 ws (i : Int)) (putv ws s0 i) := by
  have := put_loop ws s0 i hi h0 h1 hm (ws.length - (i + 1)) (i + 1) (by omega)
  unfold putv
  rw [ws_at hi]
  refine Ev.congr (fun k => ?_) this
  unfold hallmootref22_put.f
  rw [wrapB hi (by omega)]
theorem cut_eq (cuts : List Int) (i : Nat) : hallmootref22_Cut.f cuts (i : Int) = some (cutF cuts i : Int) := by
  unfold hallmootref22_Cut.f cutF
  by_cases h : cuts.length ≤ i
  · rw [if_pos (by omega), if_pos h]; rfl
  · rw [if_neg (by omega), if_neg h, if_pos (by omega), if_pos (by omega)]
    have hr : rd cuts (i : Int) = cuts.getD i 0 := rfl
    rw [hr]
    generalize cuts.getD i 0 = x
    have ht := tmod33 x
    generalize Int.tmod x 33 = y at ht
    have h0 : 0 ≤ y + 32 + 1 := by omega
    rw [Int.tmod_eq_emod_of_nonneg h0]
    by_cases hy : y < 0
    · rw [if_pos hy, show wrap64 (y + 33) = y + 33 by unfold wrap64; omega]
      congr 1
      omega
    · rw [if_neg hy]
      congr 1
      omega
/-- What the program's undoing gives, by the reference's words. -/
theorem crash_parts (s0 : List ByteArray) (ws : List S46) (hws : ∀ x ∈ ws, 0 ≤ x.f0 ∧ x.f0 < (s0.length : Int) ∧ x.f1.size = 32) (h32 : ∀ x ∈ s0, x.size = 32) :
    ∃ P, undoS ws ws.length s0 (List.replicate ws.length ByteArray.empty) = (sAt ws s0 0, P) ∧ (∀ j, j < ws.length → P.getD j ByteArray.empty = putv ws s0 j) ∧ (∀ j, j < ws.length → (P.getD j ByteArray.empty).size = 32) ∧ all32 (sAt ws s0 0) := by
  have hw : ∀ i, i < ws.length → 0 ≤ (ws.getD i z46).f0 ∧ (ws.getD i z46).f0 < (s0.length : Int) := fun i hi => by
    obtain ⟨a, b, _⟩ := ws_get hws hi
    exact ⟨a, by omega⟩
  have hpl : (List.replicate ws.length ByteArray.empty).length = ws.length := by simp
  obtain ⟨g1, g2, _⟩ := undo_eq ws s0 hw ws.length (List.replicate ws.length ByteArray.empty) (Nat.le_refl _) hpl
  obtain ⟨u1, u2⟩ := undoS_32 ws hws ws.length s0 (List.replicate ws.length ByteArray.empty) (Nat.le_refl _) rfl hpl h32 (fun j h1 h2 => by omega)
  rw [sAt_end] at g1 g2
  rw [g1] at u1
  refine ⟨_, ?_, g2, u2, u1⟩
  rw [← g1]
end Go.Proofs.Ytdaonhgcejjlhaa.Pure
namespace Go.Proofs.Ytdaonhgcejjlhaa.P
open Go.RowKit Go.Proofs.YtdaonhgcejjlhaaW.PrintWords Go.Proofs.YtdaonhgcejjlhaaW.PrintLast Go.Proofs.YtdaonhgcejjlhaaW.PrintMore
set_option linter.unusedVariables false
set_option linter.unusedSimpArgs false
open Go.Proofs.Ytdaonhgcejjlhaa.Pure (synv sAt putv crash_parts syn_ev put_ev cut_eq sAt_len sAt_get ws_at)

theorem fin_crash2 {w W3 wr : World} {B : Nat} {ok : Nat → Prop} {v : Value} {xs : List ByteArray} (hB3 : Below w.heap.size w W3) (hsz : W3.heap.size = B + 2) (hBw : B = w.heap.size) (h : Kd.R Kd.string 9 wr W3.heap.size ok v xs) (hb : Below W3.heap.size W3 wr) (u0 u1 : Value) :
    Kd.R Kd.string 9 ((wr.setCell ⟨B + 1, 0, none⟩ u0).setCell ⟨B + 1, 1, none⟩ u1) w.heap.size (fun _ => True) v xs ∧ Below w.heap.size w ((wr.setCell ⟨B + 1, 0, none⟩ u0).setCell ⟨B + 1, 1, none⟩ u1) := by
  have h1 := Kd.R_bound h
  have h2 := Kd.R_far (p := ⟨B + 1, 0, none⟩) h1 (fun k hk e => by have := hk.2.1; simp only at e; omega) u0
  have h3 := Kd.R_far (p := ⟨B + 1, 1, none⟩) h2 (fun k hk e => by have := hk.2.1; simp only at e; omega) u1
  have hq := hB3.trans (hb.mono hB3.size)
  exact ⟨Kd.R_mono (Kd.R_lower h3 hB3.size) (fun _ _ => trivial), (hq.setCell (by simp only; omega) _).setCell (by simp only; omega) _⟩

def rCrash.f := dCrash.f
set_option maxHeartbeats 8000000 in
set_option maxRecDepth 100000 in
theorem rCrash.calls (A0_0 : Option Addr) (c0_0 : Nat) (l0_0 : List ByteArray) (A0_1 : Option Addr) (c0_1 : Nat) (l0_1 : List (S46)) (A1 : Option Addr) (c1 : Nat) (l1 : List Int) (r1 : List ByteArray) (r2 : List (S46)) (w : World) (hr0_0 : Kd.C Kd.string w A0_0 l0_0.length l0_0) (hc0_0 : l0_0.length ≤ c0_0) (hr0_1 : Kd.C k46 w A0_1 l0_1.length l0_1) (hc0_1 : l0_1.length ≤ c0_1) (hr1 : Kd.C (Kd.int .i64) w A1 l1.length l1) (hc1 : l1.length ≤ c1) (h : rCrash.f l0_0 l0_1 l1 = some (r1, r2)) :
    Calls Try.prog 22 #[.agg #[.slice A0_0 l0_0.length c0_0, .slice A0_1 l0_1.length c0_1], .slice A1 l1.length c1] w fun e w' => ∃ v0_ v1_ : Value, e = .returned (.agg #[v0_, v1_]) ∧ Kd.R Kd.string 9 w' w.heap.size (fun _ => True) v0_ r1 ∧ Kd.R k46 46 w' w.heap.size (fun _ => True) v1_ r2 ∧ Below w.heap.size w w' := by
  unfold rCrash.f dCrash.f at h
  split at h
  case isFalse => cases h
  case isTrue hok =>
  simp only [Option.some.injEq, Prod.mk.injEq] at h
  obtain ⟨rfl, rfl⟩ := h
  obtain ⟨h1, h2, h3, h4⟩ := hok
  obtain ⟨P, hu, hP, hP32, h32⟩ := crash_parts l0_0 l0_1 h4 h3
  have hres : crashV l0_0 l0_1 l1 = crS l0_1 P l1 l0_1.length (sAt l0_1 l0_0 0) := by unfold crashV; rw [hu]
  rw [hres]
  clear hres hu
  have HR0 := Aside0.mk hr0_0
  have HC0 := Aside0.mk hc0_0
  have HR1 := Aside0.mk hr0_1
  have HC1 := Aside0.mk hc0_1
  have HR2 := Aside0.mk hr1
  have HC2 := Aside0.mk hc1
  have H4 := Aside0.mk h4
  have HP := Aside0.mk (And.intro hP (And.intro hP32 h32))
  have hl0 : l0_0.length ≤ 9223372036854775807 := by omega
  have hl1 : l0_1.length ≤ 9223372036854775807 := by omega
  have hu25 := Try.underlying25
  have hu46 := Try.underlying46
  clear hr0_0 hc0_0 hr0_1 hc0_1 hr1 hc1 h3 h4 hP hP32 h32
  obtain ⟨W3, hW3⟩ : ∃ W3, W3 = (w.alloc (Obj.cells #[.slice A0_0 l0_0.length c0_0, .slice A0_1 l0_1.length c0_1] 25)).alloc (Obj.cells #[.slice none 0 0, .slice none 0 0] 25) := ⟨_, rfl⟩
  have HB3 := Aside0.mk (show Below w.heap.size w W3 by rw [hW3]; exact below_alloc (below_alloc (Below.refl _ _) _) _)
  obtain ⟨B, hB⟩ : ∃ B, B = w.heap.size := ⟨_, rfl⟩
  have b0 : W3.heap[B]? = some (.cells #[.slice A0_0 l0_0.length c0_0, .slice A0_1 l0_1.length c0_1] 25 (0, 0)) := by rw [hW3, hB]; exact blk_alloc (heap_alloc_new _ _) _
  have b1 : W3.heap[B + 1]? = some (.cells #[.slice none 0 0, .slice none 0 0] 25 (0, 0)) := by rw [hW3, hB]; exact (congrArg (fun k => (World.heap _)[k]?) (by simp)).trans (heap_alloc_new (w.alloc _) _)
  have f7 : W3.heap.size = B + 2 := by rw [hW3, hB]; simp only [World.alloc, Array.size_push]
  have HF := Aside0.mk (And.intro b0 (And.intro b1 f7))
  have HWE := Aside0.mk hW3
  have HBE := Aside0.mk hB
  clear b0 b1 f7 hW3 hB
  go_enter Try.func22, Try.ntmps22
  go_wp2_with fail
  rw [← HWE.out, ← HBE.out]
  go_loopg [5, 6] l0_0.length (fun gg s5 s6 wr => ∃ (i : Nat) (A : Option Addr) (c : Nat), i ≤ l0_0.length ∧ l0_0.length - i ≤ gg ∧ s5 = .slice A i c ∧ s6 = .int .i64 i ∧ Aside0 (Kd.R Kd.string 9 wr W3.heap.size (fun _ => True) (.slice A i c) ((List.range i).map (synv l0_1 l0_0))) ∧ Aside0 (Below W3.heap.size W3 wr))
  case atStart => exact ⟨0, none, 0, Nat.zero_le _, by omega, rfl, rfl, ⟨Kd.R_nil _ _ _ _ _⟩, ⟨Below.refl _ _⟩⟩
  case round =>
    obtain ⟨i, A5, c5, hi1, hi2, rfl, rfl, HRs, HB⟩ := hrel
    have k0 : wr.cell? ⟨B, 0, none⟩ = some (.slice A0_0 l0_0.length c0_0) := (blk_cell (blk_below HF.out.1 HB.out) 0).trans rfl
    have k1 : wr.cell? ⟨B, 1, none⟩ = some (.slice A0_1 l0_1.length c0_1) := (blk_cell (blk_below HF.out.1 HB.out) 1).trans rfl
    have HW := Aside0.mk (HB3.out.trans (HB.out.mono HB3.out.size))
    by_cases hlt : i < l0_0.length
    · have hlt' : (i : Int) < (l0_0.length : Int) := by omega
      obtain ⟨ff, hff⟩ := (syn_ev l0_1 l0_0 i hlt h2).rounds
      have HC := Aside0.mk (hallmootref22_synced.calls ff A0_0 c0_0 l0_0 A0_1 c0_1 l0_1 (i : Int) _ wr (Kd.C_below HR0.out HW.out) HC0.out (Kd.C_below HR1.out HW.out) HC1.out hff)
      have hby : (((List.range i).map (synv l0_1 l0_0)).length + 1) * 16 ≤ 140737488355328 := by simp; omega
      have HBY := Aside0.mk hby
      have hre : (List.range (i + 1)).map (synv l0_1 l0_0) = (List.range i).map (synv l0_1 l0_0) ++ [synv l0_1 l0_0 i] := by rw [List.range_succ, List.map_append]; rfl
      have HRE := Aside0.mk hre
      clear hff hby hre
      generalize synv l0_1 l0_0 i = y at HC HRE
      go_wp2_with fail
      refine HC.out.mono ?_
      rintro e w4 ⟨rfl, hb4⟩
      have HRs4 := Aside0.mk (Kd.R_below HRs.out hb4)
      have HB4 := Aside0.mk (HB.out.trans (hb4.mono HB.out.size))
      clear hb4 k0 k1
      go_wp2_with ((with_reducible refine gate_builtin (b := .append) (xs := #[.tmp 18, .tmp 22]) rfl ?_); at_builtin; refine Kd.R_append Kd.string (w0 := W3) W3.heap.size rfl (.tmp 18) (.tmp 22) 22 9 (.string ⟨#[]⟩) 16 rfl Try.underlying22 info9 rfl (by decide) (by decide) (.slice A5 i c5) ((List.range i).map (synv l0_1 l0_0)) y [.string y] (fun _ => True) (fun _ => False) rfl rfl rfl (fun _ hk => hk.elim) (fun _ _ => trivial) HRs4.out HB4.out HB4.out.size HBY.out ?_; intro v1 w5 hN1 hB1 hG1 hat; have H1 := Aside0.mk hN1; have H2 := Aside0.mk hB1; clear hN1 hB1 hG1 hat)
      obtain ⟨A6, c6, e6⟩ := Kd.R_slice H1.out
      rw [show ((List.range i).map (synv l0_1 l0_0) ++ [y]).length = i + 1 by simp] at e6
      subst e6
      go_roundg (l0_0.length - (i + 1))
      case measure => omega
      case rel => exact ⟨i + 1, A6, c6, by omega, by omega, rfl, by go_num, ⟨by rw [HRE.out]; exact H1.out⟩, H2⟩
    · have hi4 : i = l0_0.length := by omega
      subst hi4
      have hlt' : ¬ (l0_0.length : Int) < (l0_0.length : Int) := by omega
      have hs0 : (List.range l0_0.length).map (synv l0_1 l0_0) = sAt l0_1 l0_0 0 := by unfold sAt; rw [List.drop_zero]
      rw [hs0] at HRs
      clear hs0 HW
      go_wp2_with fail
      clear k0 k1
      by_cases hn : l0_1.length = 0
      · have hn' : l0_1 = [] := List.eq_nil_of_length_eq_zero hn
        subst hn'
        go_loopg [7] 1 (fun gg s7 wr2 => s7 = .int .i64 0 ∧ wr2 = wr)
        case atStart => exact ⟨rfl, rfl⟩
        case round =>
          obtain ⟨rfl, rfl⟩ := hrel
          have k1 : wr.cell? ⟨B, 1, none⟩ = some (.slice A0_1 0 c0_1) := (blk_cell (blk_below HF.out.1 HB.out) 1).trans rfl
          have k3 : wr.cell? ⟨B + 1, 0, none⟩ = some (.slice none 0 0) := (blk_cell (blk_below HF.out.2.1 HB.out) 0).trans rfl
          have k4 : wr.cell? ⟨B + 1, 1, none⟩ = some (.slice none 0 0) := (blk_cell (blk_below HF.out.2.1 HB.out) 1).trans rfl
          have k5 : wr.frozen? ⟨B + 1, 0, none⟩ = false := blk_frozen (blk_below HF.out.2.1 HB.out) 0
          have k6 : wr.frozen? ⟨B + 1, 1, none⟩ = false := blk_frozen (blk_below HF.out.2.1 HB.out) 1
          go_wp2
          refine bodyPost_ret (v := .agg #[.slice A5 l0_0.length c5, .slice none 0 0]) (by simp [results, Try.results22, go_sem, k3, k4]) rfl ⟨_, _, rfl, ?_, Kd.R_nil _ _ _ _ _, ?_⟩
          · exact (fin_crash2 HB3.out HF.out.2.2 HBE.out HRs.out HB.out _ _).1
          · exact (fin_crash2 HB3.out HF.out.2.2 HBE.out HRs.out HB.out _ _).2
      · have hn0 : 0 < l0_1.length := by omega
        have hl0p : 0 < l0_0.length := by obtain ⟨qa, qb, _⟩ := ws_get H4.out hn0; omega
        obtain ⟨g0, cc0, ef, hg0, hg0'⟩ := R_form HRs.out (sAt_len _ _ _) hl0p
        injection ef with ef1 ef2 ef3
        subst ef1
        subst ef3
        have HQ := Aside0.mk (And.intro hg0 hg0')
        clear hg0 hg0' ef2
        go_loopg [7] l0_1.length (fun gg s7 wr => ∃ i : Nat, i ≤ l0_1.length ∧ l0_1.length - i ≤ gg ∧ s7 = .int .i64 i ∧ Aside0 (Kd.R Kd.string 9 wr W3.heap.size (fun _ => True) (.slice (some ⟨g0, 0, none⟩) l0_0.length c5) (crS l0_1 P l1 i (sAt l0_1 l0_0 0))) ∧ Aside0 (Below W3.heap.size W3 wr))
        case atStart => exact ⟨0, Nat.zero_le _, by omega, rfl, HRs, HB⟩
        case round =>
          clear HRs HB
          obtain ⟨i, hi1, hi2, rfl, HRs, HB⟩ := hrel
          have k0 : wr.cell? ⟨B, 0, none⟩ = some (.slice A0_0 l0_0.length c0_0) := (blk_cell (blk_below HF.out.1 HB.out) 0).trans rfl
          have k1 : wr.cell? ⟨B, 1, none⟩ = some (.slice A0_1 l0_1.length c0_1) := (blk_cell (blk_below HF.out.1 HB.out) 1).trans rfl
          by_cases hlt : i < l0_1.length
          · have hlt' : (i : Int) < (l0_1.length : Int) := by omega
            have hi0 : (0 : Int) ≤ (i : Int) := by omega
            have HW := Aside0.mk (HB3.out.trans (HB.out.mono HB3.out.size))
            have HC := Aside0.mk (hallmootref22_Cut.calls A1 c1 l1 (i : Int) _ wr (Kd.C_below HR2.out HW.out) HC2.out (cut_eq l1 i))
            have hwi := ws_get H4.out hlt
            rw [ws_at hlt] at hwi
            obtain ⟨g4, g5, g6⟩ := hwi
            obtain ⟨ff, hff⟩ := (put_ev l0_1 l0_0 i hlt g4 (by omega) h2).rounds
            have HPU := Aside0.mk (fun W (hb : Below wr.heap.size wr W) => hallmootref22_put.calls ff A0_0 c0_0 l0_0 A0_1 c0_1 l0_1 (i : Int) _ W (Kd.C_below (Kd.C_below HR0.out HW.out) hb) HC0.out (Kd.C_below (Kd.C_below HR1.out HW.out) hb) HC1.out hff)
            have hps : (putv l0_1 l0_0 i).size = 32 := by rw [← HP.out.1 i hlt]; exact HP.out.2.1 i hlt
            have hx32 := crS_32 l0_1 H4.out P HP.out.2.1 l1 (sAt l0_1 l0_0 0) (sAt_len _ _ _) HP.out.2.2 i (by omega)
            have hxl : (crS l0_1 P l1 i (sAt l0_1 l0_0 0)).length = l0_0.length := by rw [crS_len, sAt_len]
            have hzs : (rdOf ByteArray.empty (crS l0_1 P l1 i (sAt l0_1 l0_0 0)) l0_1[i].f0).size = 32 := all32_get hx32 (by omega)
            have HN32 := Aside0.mk (cutF_le l1 i)
            have HCS := Aside0.mk (show crS l0_1 P l1 (i + 1) (sAt l0_1 l0_0 0) = (crS l0_1 P l1 i (sAt l0_1 l0_0 0)).set l0_1[i].f0.toNat ((putv l0_1 l0_0 i).extract 0 (cutF l1 i) ++ (rdOf ByteArray.empty (crS l0_1 P l1 i (sAt l0_1 l0_0 0)) l0_1[i].f0).extract (cutF l1 i) 32) from by
              conv => lhs; unfold crS
              rw [ws_at hlt, show rdOf ByteArray.empty P (i : Int) = putv l0_1 l0_0 i from by unfold rdOf; rw [Int.toNat_natCast]; exact HP.out.1 i hlt]
              unfold glue
              rw [hzs])
            clear hff hx32
            have hat := at_T46 (Kd.C_below HR1.out HW.out) (i : Int) (by omega) hlt'
            obtain ⟨ad, hA1, hc0, hc1'⟩ := hat
            rw [show rd_T46 l0_1 (i : Int) = l0_1[i] from by simp [rd_T46, List.getD_eq_getElem?_getD, hlt], Int.toNat_natCast] at hc0
            subst hA1
            generalize l0_1[i].f0 = f0 at *
            generalize putv l0_1 l0_0 i = y at *
            generalize cutF l1 i = n at *
            clear hc1' g6
            go_wp2_with fail
            refine HC.out.mono ?_
            rintro e w4 ⟨rfl, hd4⟩
            have hb4 := hd4.below
            have q0 := (hb4.cell (p := ⟨B, 0, none⟩) (World.block_lt_of_cell? wr _ k0)).trans k0
            have q1 := (hb4.cell (p := ⟨B, 1, none⟩) (World.block_lt_of_cell? wr _ k1)).trans k1
            have HB4 := Aside0.mk hb4
            clear k0 k1 hd4 hb4
            go_wp2_with fail
            refine (HPU.out w4 HB4.out).mono ?_
            rintro e w5 ⟨rfl, hb5⟩
            have q1' := (hb5.cell (p := ⟨B, 1, none⟩) (World.block_lt_of_cell? w4 _ q1)).trans q1
            have hb6 : Below wr.heap.size wr w5 := HB4.out.trans (hb5.mono HB4.out.size)
            have hcf := (hb6.cell (World.block_lt_of_cell? wr _ hc0)).trans hc0
            have HRs5 := Kd.R_below HRs.out hb6
            obtain ⟨e3, e5⟩ := Kd.R_celln (enc := Value.string) ByteArray.empty HRs5 f0 g4 (by omega)
            have HR5 := Aside0.mk HRs5
            have HB5 := Aside0.mk (HB.out.trans (hb6.mono HB.out.size))
            generalize hz : rdOf ByteArray.empty (crS l0_1 P l1 i (sAt l0_1 l0_0 0)) f0 = z at e3 hzs HCS
            have HZ := Aside0.mk hz
            have hf4 : f0 < (l0_0.length : Int) := by omega
            have hn32 := HN32.out
            have hn1 : (0 : Int) ≤ (n : Int) := by omega
            have hn2 : (n : Int) ≤ 32 := by omega
            clear q0 q1 hc0 hz HRs5 hb5 hb6
            go_wp2_with fail
            go_region
            go_wp2
            go_roundg (l0_1.length - (i + 1))
            case measure => omega
            case rel =>
              refine ⟨i + 1, by omega, by omega, by go_num, ⟨?_⟩, ⟨below_drew (HB5.out.setCell HQ.out.1 _)⟩⟩
              rw [HCS.out]
              exact Kd.R_drew (Kd.R_putn (enc := Value.string) HR5.out f0 _)
          · have hi4 : i = l0_1.length := by omega
            subst hi4
            have hlt' : ¬ (l0_1.length : Int) < (l0_1.length : Int) := by omega
            have k3 : wr.cell? ⟨B + 1, 0, none⟩ = some (.slice none 0 0) := (blk_cell (blk_below HF.out.2.1 HB.out) 0).trans rfl
            have k4 : wr.cell? ⟨B + 1, 1, none⟩ = some (.slice none 0 0) := (blk_cell (blk_below HF.out.2.1 HB.out) 1).trans rfl
            have k5 : wr.frozen? ⟨B + 1, 0, none⟩ = false := blk_frozen (blk_below HF.out.2.1 HB.out) 0
            have k6 : wr.frozen? ⟨B + 1, 1, none⟩ = false := blk_frozen (blk_below HF.out.2.1 HB.out) 1
            go_wp2
            refine bodyPost_ret (v := .agg #[.slice (some ⟨g0, 0, none⟩) l0_0.length c5, .slice none 0 0]) (by simp [results, Try.results22, go_sem, k3, k4]) rfl ⟨_, _, rfl, ?_, Kd.R_nil _ _ _ _ _, ?_⟩
            · exact (fin_crash2 HB3.out HF.out.2.2 HBE.out HRs.out HB.out _ _).1
            · exact (fin_crash2 HB3.out HF.out.2.2 HBE.out HRs.out HB.out _ _).2
end Go.Proofs.Ytdaonhgcejjlhaa.P
