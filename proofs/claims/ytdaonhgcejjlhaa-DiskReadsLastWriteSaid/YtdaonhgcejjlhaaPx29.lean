-- Written by pp.py (this session's program over the kit's printer): functions, contracts. Not trusted: Lean checks it.
import Derived.Test.YtdaonhgcejjlhaaPx0
import Derived.Test.YtdaonhgcejjlhaaPx10
import Derived.Test.YtdaonhgcejjlhaaPx13
import Derived.Test.YtdaonhgcejjlhaaPx14
import Derived.Test.YtdaonhgcejjlhaaPx28
import Derived.Test.YtdaonhgcejjlhaaHc
namespace Go.Proofs.Ytdaonhgcejjlhaa.P
open Go.RowKit Go.Proofs.YtdaonhgcejjlhaaW.PrintWords Go.Proofs.YtdaonhgcejjlhaaW.PrintLast Go.Proofs.YtdaonhgcejjlhaaW.PrintMore
attribute [local go_sem] max2_int min2_int max_two min_two max_three min_three max_four min_four   -- for this text's walks alone
set_option linter.unusedVariables false
set_option linter.unusedSimpArgs false

/-! ### hallmootlaw22_DiskReadsLastWrite: function 4 -/
mutual
def hallmootlaw22_DiskReadsLastWrite.l0 : Nat → Bool → Int → List (S46) → Bool → Int → List ByteArray → List (S46) → Option (Bool)
  | 0, _, _, _, _, _, _, _ => none
  | k + 1, x5, x6, x8, x9, x10, x413000, x413001 => if x10 < x6 then (hallmootlaw22_DiskReadsLastWrite.j1 k x5 x6 x8 x9 x10 x9 x413000 x413001) else (hallmootlaw22_DiskReadsLastWrite.j1 k x5 x6 x8 x9 x10 false x413000 x413001)
def hallmootlaw22_DiskReadsLastWrite.j1 : Nat → Bool → Int → List (S46) → Bool → Int → Bool → List ByteArray → List (S46) → Option (Bool)
  | 0, _, _, _, _, _, _, _, _ => none
  | k + 1, x5, x6, x8, x9, x10, x36, x413000, x413001 => if x36 = true then ((hallmootlaw22_full.f k 0).bind fun t414 => (hallmootlaw22_DiskReadsLastWrite.l1 k x5 x6 x8 x9 x10 t414 0 x413000 x413001)) else (if x5 = true then (if x9 = true then ((dRight.f x413000 x413001).bind fun t413 => (some t413)) else (none)) else (none))
def hallmootlaw22_DiskReadsLastWrite.l1 : Nat → Bool → Int → List (S46) → Bool → Int → ByteArray → Int → List ByteArray → List (S46) → Option (Bool)
  | 0, _, _, _, _, _, _, _, _, _ => none
  | k + 1, x5, x6, x8, x9, x10, x11, x12, x413000, x413001 => if x12 < (x8.length : Int) then (if 0 ≤ x12 then (if ((rd_T46 x8 x12).f0) = x10 then (hallmootlaw22_DiskReadsLastWrite.l1 k x5 x6 x8 x9 x10 ((rd_T46 x8 x12).f1) (wrap64 (x12 + 1)) x413000 x413001) else (hallmootlaw22_DiskReadsLastWrite.l1 k x5 x6 x8 x9 x10 x11 (wrap64 (x12 + 1)) x413000 x413001)) else (none)) else ((disk_Read.f x413000 x413001 x10).bind fun bt417 => (if bt417.1.toList = x11.toList then (if bt417.2 = 0 then (hallmootlaw22_DiskReadsLastWrite.l0 k x5 x6 x8 x9 (wrap64 (x10 + 1)) x413000 x413001) else (none)) else (none)))
end
def hallmootlaw22_DiskReadsLastWrite.f (k : Nat) (a0 : Int) (l1 : List Int) : Option (Bool) := (hallmootlaw22_sanity.f k).bind fun t401 => (if (l1.length : Int) > 40 then (some t401) else ((hallmootlaw22_written.f k (wrap64 (1 + (Int.tmod (wrap64 (a0)) 6))) l1).bind fun bt402 => (hallmootlaw22_DiskReadsLastWrite.l0 k t401 (wrap64 (1 + (Int.tmod (wrap64 (a0)) 6))) bt402.2.2.1 bt402.2.2.2 0 bt402.1 bt402.2.1)))
theorem hallmootlaw22_DiskReadsLastWrite.mono_l : ∀ k, (∀ y0 y1 y2 y3 y4 y5 y6, LeO (hallmootlaw22_DiskReadsLastWrite.l0 k y0 y1 y2 y3 y4 y5 y6) (hallmootlaw22_DiskReadsLastWrite.l0 (k + 1) y0 y1 y2 y3 y4 y5 y6)) ∧ (∀ y0 y1 y2 y3 y4 y5 y6 y7, LeO (hallmootlaw22_DiskReadsLastWrite.j1 k y0 y1 y2 y3 y4 y5 y6 y7) (hallmootlaw22_DiskReadsLastWrite.j1 (k + 1) y0 y1 y2 y3 y4 y5 y6 y7)) ∧ (∀ y0 y1 y2 y3 y4 y5 y6 y7 y8, LeO (hallmootlaw22_DiskReadsLastWrite.l1 k y0 y1 y2 y3 y4 y5 y6 y7 y8) (hallmootlaw22_DiskReadsLastWrite.l1 (k + 1) y0 y1 y2 y3 y4 y5 y6 y7 y8))
  | 0 => ⟨fun _ _ _ _ _ _ _ r h => by simp [hallmootlaw22_DiskReadsLastWrite.l0] at h, fun _ _ _ _ _ _ _ _ r h => by simp [hallmootlaw22_DiskReadsLastWrite.j1] at h, fun _ _ _ _ _ _ _ _ _ r h => by simp [hallmootlaw22_DiskReadsLastWrite.l1] at h⟩
  | k + 1 => by
    obtain ⟨ih0, ih1, ih2⟩ := hallmootlaw22_DiskReadsLastWrite.mono_l k
    refine ⟨?_, ?_, ?_⟩
    · intro y0 y1 y2 y3 y4 y5 y6
      unfold hallmootlaw22_DiskReadsLastWrite.l0
      repeat' first
      | (with_reducible exact ih0 _ _ _ _ _ _ _)
      | (with_reducible exact ih1 _ _ _ _ _ _ _ _)
      | (with_reducible exact ih2 _ _ _ _ _ _ _ _ _)
      | (with_reducible exact hallmootlaw22_full.mono _ _)
      | (with_reducible exact hallmootlaw22_sanity.mono _)
      | (with_reducible exact hallmootlaw22_written.mono _ _ _)
      | (with_reducible exact LeO.refl _)
      | (with_reducible exact LeO.none _)
      | (with_reducible refine LeO.ite ?_ ?_)
      | (with_reducible refine LeO.bind ?_ (fun _ => ?_))
      | exact ih0 _ _ _ _ _ _ _
      | exact ih1 _ _ _ _ _ _ _ _
      | exact ih2 _ _ _ _ _ _ _ _ _
      | exact hallmootlaw22_full.mono _ _
      | exact hallmootlaw22_sanity.mono _
      | exact hallmootlaw22_written.mono _ _ _
      | exact LeO.none _
      | refine LeO.ite ?_ ?_
      | refine LeO.bind ?_ (fun _ => ?_)
    · intro y0 y1 y2 y3 y4 y5 y6 y7
      unfold hallmootlaw22_DiskReadsLastWrite.j1
      repeat' first
      | (with_reducible exact ih0 _ _ _ _ _ _ _)
      | (with_reducible exact ih1 _ _ _ _ _ _ _ _)
      | (with_reducible exact ih2 _ _ _ _ _ _ _ _ _)
      | (with_reducible exact hallmootlaw22_full.mono _ _)
      | (with_reducible exact hallmootlaw22_sanity.mono _)
      | (with_reducible exact hallmootlaw22_written.mono _ _ _)
      | (with_reducible exact LeO.refl _)
      | (with_reducible exact LeO.none _)
      | (with_reducible refine LeO.ite ?_ ?_)
      | (with_reducible refine LeO.bind ?_ (fun _ => ?_))
      | exact ih0 _ _ _ _ _ _ _
      | exact ih1 _ _ _ _ _ _ _ _
      | exact ih2 _ _ _ _ _ _ _ _ _
      | exact hallmootlaw22_full.mono _ _
      | exact hallmootlaw22_sanity.mono _
      | exact hallmootlaw22_written.mono _ _ _
      | exact LeO.none _
      | refine LeO.ite ?_ ?_
      | refine LeO.bind ?_ (fun _ => ?_)
    · intro y0 y1 y2 y3 y4 y5 y6 y7 y8
      unfold hallmootlaw22_DiskReadsLastWrite.l1
      repeat' first
      | (with_reducible exact ih0 _ _ _ _ _ _ _)
      | (with_reducible exact ih1 _ _ _ _ _ _ _ _)
      | (with_reducible exact ih2 _ _ _ _ _ _ _ _ _)
      | (with_reducible exact hallmootlaw22_full.mono _ _)
      | (with_reducible exact hallmootlaw22_sanity.mono _)
      | (with_reducible exact hallmootlaw22_written.mono _ _ _)
      | (with_reducible exact LeO.refl _)
      | (with_reducible exact LeO.none _)
      | (with_reducible refine LeO.ite ?_ ?_)
      | (with_reducible refine LeO.bind ?_ (fun _ => ?_))
      | exact ih0 _ _ _ _ _ _ _
      | exact ih1 _ _ _ _ _ _ _ _
      | exact ih2 _ _ _ _ _ _ _ _ _
      | exact hallmootlaw22_full.mono _ _
      | exact hallmootlaw22_sanity.mono _
      | exact hallmootlaw22_written.mono _ _ _
      | exact LeO.none _
      | refine LeO.ite ?_ ?_
      | refine LeO.bind ?_ (fun _ => ?_)
theorem hallmootlaw22_DiskReadsLastWrite.mono : ∀ a0 a1 k, LeO (hallmootlaw22_DiskReadsLastWrite.f k a0 a1) (hallmootlaw22_DiskReadsLastWrite.f (k + 1) a0 a1) := by
 intro a0 a1 k
 obtain ⟨ih0, ih1, ih2⟩ := hallmootlaw22_DiskReadsLastWrite.mono_l k
 unfold hallmootlaw22_DiskReadsLastWrite.f
 repeat' first | (with_reducible exact ih0 _ _ _ _ _ _ _) | (with_reducible exact ih1 _ _ _ _ _ _ _ _) | (with_reducible exact ih2 _ _ _ _ _ _ _ _ _) | (with_reducible exact hallmootlaw22_full.mono _ _) | (with_reducible exact hallmootlaw22_sanity.mono _) | (with_reducible exact hallmootlaw22_written.mono _ _ _) | (with_reducible exact LeO.refl _) | (with_reducible exact LeO.none _) | (with_reducible refine LeO.ite ?_ ?_) | (with_reducible refine LeO.bind ?_ (fun _ => ?_)) | exact ih0 _ _ _ _ _ _ _ | exact ih1 _ _ _ _ _ _ _ _ | exact ih2 _ _ _ _ _ _ _ _ _ | exact hallmootlaw22_full.mono _ _ | exact hallmootlaw22_sanity.mono _ | exact hallmootlaw22_written.mono _ _ _ | exact LeO.none _ | refine LeO.ite ?_ ?_ | refine LeO.bind ?_ (fun _ => ?_)
set_option maxHeartbeats 8000000 in
set_option maxRecDepth 100000 in
theorem hallmootlaw22_DiskReadsLastWrite.calls (k : Nat) (a0 : Int) (A1 : Option Addr) (c1 : Nat) (l1 : List Int) (r : Bool) (w : World) (hr1 : Kd.C (Kd.int .u8) w A1 l1.length l1) (hc1 : l1.length ≤ c1) (h : hallmootlaw22_DiskReadsLastWrite.f k a0 l1 = some r) : Calls Try.prog 4 #[.int .u8 a0, .slice A1 l1.length c1] w fun e w' => e = .returned (.bool r) ∧ Below w.heap.size w w' := by
 have hu25 := Try.underlying25
 have HR1 := Aside0.mk hr1
 have HC1 := Aside0.mk hc1
 clear hr1 hc1
 have HB := Aside0.mk (Below.refl w.heap.size w)
 have H : ((hallmootlaw22_sanity.f k).bind fun t401 => (if (l1.length : Int) > 40 then (some t401) else ((hallmootlaw22_written.f k (wrap64 (1 + (Int.tmod (wrap64 (a0)) 6))) l1).bind fun bt402 => (hallmootlaw22_DiskReadsLastWrite.l0 k t401 (wrap64 (1 + (Int.tmod (wrap64 (a0)) 6))) bt402.2.2.1 bt402.2.2.2 0 bt402.1 bt402.2.1)))) = some r := h
 clear h
 replace H := Option.bind_eq_some_iff.mp H
 obtain ⟨t401, A30, H⟩ := H
 replace H : (if (l1.length : Int) > 40 then (some t401) else ((hallmootlaw22_written.f k (wrap64 (1 + (Int.tmod (wrap64 (a0)) 6))) l1).bind fun bt402 => (hallmootlaw22_DiskReadsLastWrite.l0 k t401 (wrap64 (1 + (Int.tmod (wrap64 (a0)) 6))) bt402.2.2.1 bt402.2.2.2 0 bt402.1 bt402.2.1))) = some r := H
 have A3 := Aside0.mk A30
 clear A30
 by_cases c4 : (l1.length : Int) > 40
 {
 rw [if_pos c4] at H
 have c4b0 : decide (40 < (l1.length : Int)) = true := decide_eq_true c4
 have c4b1 : decide (40 < l1.length) = true := decide_eq_true (by omega)
 clear c4
 obtain rfl := Option.some.inj H
 go_enter Try.func4, Try.ntmps4
 go_wp2_with (first | ((with_reducible refine gate_callee (f := 7) rfl ?_); refine goesL_ (some 15) rfl rfl Try.func7 (by kernel_rfl) rfl #[] rfl (by (try simp only [List.map_toArray, List.map_cons, List.map_nil]); first | done | rfl | (simp only [List.length_drop, List.length_take]; rfl)) ?_; (with_reducible refine (hallmootlaw22_sanity.calls k  t401 _ A3.out).mono ?_); rintro e w5 ⟨rfl, hb⟩; refine ⟨_, rfl, ?_⟩; have n0_ := Aside0.mk (below_step (by repeat (first | (with_reducible first | exact HB.out | apply below_alloc | apply pw_below_drewN | apply below_drew1) | exact HB.out)) hb); clear HB; have HB := n0_; clear n0_; (try clear hb); (try clear hb2); (try clear hk); (try clear hi)))
 go_ret
 exact ⟨by first | rfl | (simp [errW_none, errW_some] <;> rfl) | (simp [*, errW_none, errW_some] <;> rfl), by repeat (first | (with_reducible first | exact HB.out | apply below_alloc | apply pw_below_drewN | apply below_drew1) | exact HB.out)⟩ }
 {
 rw [if_neg c4] at H
 have c4b0 : decide (40 < (l1.length : Int)) = false := decide_eq_false c4
 have c4b1 : decide (40 < l1.length) = false := decide_eq_false (by omega)
 clear c4
 replace H := Option.bind_eq_some_iff.mp H
 obtain ⟨⟨t402, t405, t408, t411⟩, A60, H⟩ := H
 replace H : (hallmootlaw22_DiskReadsLastWrite.l0 k t401 (wrap64 (1 + (Int.tmod (wrap64 (a0)) 6))) t408 t411 0 t402 t405) = some r := H
 have A6 := Aside0.mk A60
 clear A60
 have H' := Aside0.mk H
 clear H
 go_enter Try.func4, Try.ntmps4
 go_wp2_with (first | ((with_reducible refine gate_callee (f := 7) rfl ?_); refine goesL_ (some 15) rfl rfl Try.func7 (by kernel_rfl) rfl #[] rfl (by (try simp only [List.map_toArray, List.map_cons, List.map_nil]); first | done | rfl | (simp only [List.length_drop, List.length_take]; rfl)) ?_; (with_reducible refine (hallmootlaw22_sanity.calls k  t401 _ A3.out).mono ?_); rintro e w7 ⟨rfl, hb⟩; refine ⟨_, rfl, ?_⟩; have n0_ := Aside0.mk (below_step (by repeat (first | (with_reducible first | exact HB.out | apply below_alloc | apply pw_below_drewN | apply below_drew1) | exact HB.out)) hb); clear HB; have HB := n0_; clear n0_; (try clear hb); (try clear hb2); (try clear hk); (try clear hi)) | ((with_reducible refine gate_callee (f := 23) rfl ?_); refine goesL_ (some 27) rfl rfl Try.func23 (by kernel_rfl) rfl #[.int .i64 (wrap64 (1 + (Int.tmod (wrap64 (a0)) 6))), .slice A1 l1.length c1] rfl (by (try simp only [List.map_toArray, List.map_cons, List.map_nil]); first | done | rfl | (simp only [List.length_drop, List.length_take]; rfl)) ?_; (with_reducible refine (hallmootlaw22_written.calls k (wrap64 (1 + (Int.tmod (wrap64 (a0)) 6))) _ _ l1 t402 t405 t408 t411 _ ?side1 ?side2 A6.out).mono ?_); (case side1 => repeat (first | exact (Kd.C_below HR1.out HB.out) | (with_reducible refine Kd.C_alloc ?_ _) | (with_reducible refine Kd.C_drewN ?_ _) | (with_reducible refine Kd.C_drew ?_))); (case side2 => exact HC1.out); rintro e w8 ⟨v403, v406, v409, rfl, ho0, ho1, ho2, hb⟩; refine ⟨_, rfl, ?_⟩; have n0_ := Aside0.mk (Kd.V_lower (Kd.V_mono (ok' := fun k_ => some k_ ≠ (v409 : Value).ownBlock) ho0 (fun k_ hk_ => hk_.2)) (below_size (by repeat (first | (with_reducible first | exact HB.out | apply below_alloc | apply pw_below_drewN | apply below_drew1) | exact HB.out)))); have n1_ := Aside0.mk (Kd.V_lower (Kd.V_mono (ok' := fun k_ => some k_ ≠ (v409 : Value).ownBlock) ho1 (fun k_ hk_ => hk_.2)) (below_size (by repeat (first | (with_reducible first | exact HB.out | apply below_alloc | apply pw_below_drewN | apply below_drew1) | exact HB.out)))); have n2_ := Aside0.mk (Kd.R_lower (Kd.R_mono (ok' := fun k_ => True) ho2 (fun _ hk_ => trivial)) (below_size (by repeat (first | (with_reducible first | exact HB.out | apply below_alloc | apply pw_below_drewN | apply below_drew1) | exact HB.out)))); have n3_ := Aside0.mk (below_step (by repeat (first | (with_reducible first | exact HB.out | apply below_alloc | apply pw_below_drewN | apply below_drew1) | exact HB.out)) hb); clear HB; have HO404 := n0_; have HO407 := n1_; have HO410 := n2_; have HB := n3_; clear n0_ n1_ n2_ n3_; (try clear hb); (try clear hb2); (try clear hk); (try clear hi); (try clear ho0); (try clear ho1); (try clear ho2)) | ((with_reducible refine gate_dst (N := 7) rfl ?_); refine box_event ?hg (N := 7) ?hd (cs := #[.slice none 0 0, .slice none 0 0]) (t := 25) ?hr ?_; (case hd => rfl); (case hg => rfl); (case hr => first | (go_simp; done) | (go_simp; rfl)); intro gb412 hg w9 hbox hb; have n0_ := Aside0.mk (Kd.V_below (Kd.V_elderB (by (with_reducible repeat (first | apply Kd.V_alloc | apply Kd.V_drewN | apply Kd.V_drew)); exact HO404.out) gb412 (Nat.le_of_eq hg.symm)) hb); have n1_ := Aside0.mk (Kd.V_below (Kd.V_elderB (by (with_reducible repeat (first | apply Kd.V_alloc | apply Kd.V_drewN | apply Kd.V_drew)); exact HO407.out) gb412 (Nat.le_of_eq hg.symm)) hb); have n2_ := Aside0.mk (Kd.R_below (by (with_reducible repeat (first | apply Kd.R_alloc | apply Kd.R_drewN | apply Kd.R_drew)); exact HO410.out) hb); have n3_ := Aside0.mk (below_step (by repeat (first | (with_reducible first | exact HB.out | apply below_alloc | apply pw_below_drewN | apply below_drew1) | exact HB.out)) hb); have n4_ := Aside0.mk (hbox); have n5_ := Aside0.mk ((by rw [hg]; exact (below_size (by repeat (first | (with_reducible first | exact HB.out | apply below_alloc | apply pw_below_drewN | apply below_drew1) | exact HB.out))) : w.heap.size ≤ gb412)); have n6_ := Aside0.mk ((by rw [hg]; exact (below_size (by repeat (first | (with_reducible first | exact HB.out | apply below_alloc | apply pw_below_drewN | apply below_drew1) | exact HB.out))) : w.heap.size ≤ gb412)); clear HO404; clear HO407; clear HO410; clear HB; have HO404 := n0_; have HO407 := n1_; have HO410 := n2_; have HB := n3_; have BK412 := n4_; have GW412 := n5_; have GE412 := n6_; clear n0_ n1_ n2_ n3_ n4_ n5_ n6_; clear hb hbox hg; obtain ⟨Ao10, co10, eo10⟩ := Kd.V_slice HO404.out; subst eo10; have hcz11_0 : w9.cell? ⟨gb412, 0, none⟩ = some (.slice none 0 0) := (blk_cell BK412.out 0).trans rfl; have hcz11_1 : w9.cell? ⟨gb412, 1, none⟩ = some (.slice none 0 0) := (blk_cell BK412.out 1).trans rfl; have hfz11_0 := blk_frozen BK412.out 0; have hfz11_1 := blk_frozen BK412.out 1; obtain ⟨Ao12, co12, eo12⟩ := Kd.V_slice HO407.out; subst eo12))
 go_loopg [10] k (fun kq v10 w' => ∃ (x10_1 : Int), v10 = .int .i64 x10_1 ∧ Aside0 (hallmootlaw22_DiskReadsLastWrite.l0 kq t401 (wrap64 (1 + (Int.tmod (wrap64 (a0)) 6))) t408 t411 x10_1 t402 t405 = some r) ∧ Aside0 (kq ≤ k) ∧ Aside0 (Kd.R k46 46 w' w.heap.size (fun _ => True) v409 t408) ∧ Aside0 (Kd.V Kd.string 9 w' w.heap.size (fun k_ => some k_ ≠ (v409 : Value).ownBlock ∧ k_ ≠ gb412) (.slice Ao10 t402.length co10) t402) ∧ Aside0 (Kd.V k46 46 w' w.heap.size (fun k_ => some k_ ≠ (v409 : Value).ownBlock ∧ k_ ≠ gb412) (.slice Ao12 t405.length co12) t405) ∧ Aside0 (w'.heap[gb412]? = some (.cells #[(.slice Ao10 t402.length co10), (.slice Ao12 t405.length co12)] 25 (0, 0))) ∧ Aside0 (Below w.heap.size w w'))
 case atStart => exact ⟨(0), (by first | rfl | (simp; done) | (simp [*]; done)), H', ⟨Nat.le_refl _⟩, ⟨by (with_reducible repeat (first | apply Kd.R_alloc | apply Kd.R_drewN | apply Kd.R_drew)); exact Kd.R_mono (Kd.R_far (p := ⟨gb412, 1, none⟩) (Kd.R_far (p := ⟨gb412, 0, none⟩) (Kd.R_types HO410.out BK412.out (by decide)) (fun _ hk => hk.2) (.slice Ao10 t402.length co10)) (fun _ hk => hk.2) (.slice Ao12 t405.length co12)) (fun _ hk => trivial)⟩, ⟨by (with_reducible repeat (first | apply Kd.V_alloc | apply Kd.V_drewN | apply Kd.V_drew)); exact Kd.V_mono (Kd.V_far (p := ⟨gb412, 1, none⟩) (Kd.V_far (p := ⟨gb412, 0, none⟩) (Kd.V_mono HO404.out (fun k_ hk => (⟨hk, hk.2⟩ : _ ∧ k_ ≠ gb412))) (fun _ hk => hk.2) (.slice Ao10 t402.length co10)) (fun _ hk => hk.2) (.slice Ao12 t405.length co12)) (fun _ hk => ⟨hk.1.1, hk.1.2⟩)⟩, ⟨by (with_reducible repeat (first | apply Kd.V_alloc | apply Kd.V_drewN | apply Kd.V_drew)); exact Kd.V_mono (Kd.V_far (p := ⟨gb412, 1, none⟩) (Kd.V_far (p := ⟨gb412, 0, none⟩) (Kd.V_mono HO407.out (fun k_ hk => (⟨hk, hk.2⟩ : _ ∧ k_ ≠ gb412))) (fun _ hk => hk.2) (.slice Ao10 t402.length co10)) (fun _ hk => hk.2) (.slice Ao12 t405.length co12)) (fun _ hk => ⟨hk.1.1, hk.1.2⟩)⟩, ⟨by (with_reducible repeat (first | refine blk_drewN ?_ _ | refine blk_drew ?_ | refine blk_alloc ?_ _)); refine blk_put (cs := #[.slice Ao10 t402.length co10, .slice none 0 0]) ?_ 1 _ rfl; (with_reducible repeat (first | refine blk_drewN ?_ _ | refine blk_drew ?_ | refine blk_alloc ?_ _)); refine blk_put (cs := #[.slice none 0 0, .slice none 0 0]) ?_ 0 _ rfl; (with_reducible repeat (first | refine blk_drewN ?_ _ | refine blk_drew ?_ | refine blk_alloc ?_ _)); exact BK412.out⟩, ⟨by repeat (first | (with_reducible first | exact HB.out | apply below_alloc | apply pw_below_drewN | apply below_drew1 | refine below_set ?_ GE412.out) | exact HB.out)⟩⟩
 case round =>
  clear H'
  try clear c1
  try clear c2
  try clear p2
  try clear c4
  try clear c4b0
  try clear c4b1
  try clear p6
  try clear c7
  try clear hcz11_0
  try clear hcz11_1
  try clear hfz11_0
  try clear hfz11_1
  obtain ⟨x10_1, rfl, HA, HK1, HO_8, HO_413000, HO_413001, BK412, HB⟩ := hrel
  cases gk with
  | zero => exact absurd HA.out (by simp [hallmootlaw22_DiskReadsLastWrite.l0])
  | succ k1 => {
  have H := HA.out
  clear HA
  simp only [hallmootlaw22_DiskReadsLastWrite.l0] at H
  have HC13 := Aside0.mk H
  clear H
  go_upto_region 7 with (fail)
  go_cut [36] (fun v36 wc => ∃ (kq : Nat) (x36_12 : Bool), v36 = .bool x36_12 ∧ Aside0 (hallmootlaw22_DiskReadsLastWrite.j1 kq t401 (wrap64 (1 + (Int.tmod (wrap64 (a0)) 6))) t408 t411 x10_1 x36_12 t402 t405 = some r) ∧ Aside0 (kq ≤ k1) ∧ Aside0 (Kd.R k46 46 wc w.heap.size (fun _ => True) v409 t408) ∧ Aside0 (Kd.V Kd.string 9 wc w.heap.size (fun k_ => some k_ ≠ (v409 : Value).ownBlock ∧ k_ ≠ gb412) (.slice Ao10 t402.length co10) t402) ∧ Aside0 (Kd.V k46 46 wc w.heap.size (fun k_ => some k_ ≠ (v409 : Value).ownBlock ∧ k_ ≠ gb412) (.slice Ao12 t405.length co12) t405) ∧ Aside0 (wc.heap[gb412]? = some (.cells #[(.slice Ao10 t402.length co10), (.slice Ao12 t405.length co12)] 25 (0, 0))) ∧ Aside0 (Below w.heap.size w wc))
  case first =>
   have H := HC13.out
   clear HC13
   by_cases c14 : x10_1 < (wrap64 (1 + (Int.tmod (wrap64 (a0)) 6)))
   {
   rw [if_pos c14] at H
   have c14b0 : decide (x10_1 < (wrap64 (1 + (Int.tmod (wrap64 (a0)) 6)))) = true := decide_eq_true c14
   clear c14
   (first | rw [c14b0] | (simp only [i64_w, i32_w]; rw [c14b0]) | skip)
   have H' := Aside0.mk H
   clear H
   go_wp2
   go_meet
   case rel => exact ⟨_, (t411), (by first | rfl | (simp; done) | (simp [*]; done)), H', ⟨by have := HK1.out; first | omega | exact Nat.le_refl _⟩, ⟨by (with_reducible repeat (first | apply Kd.R_alloc | apply Kd.R_drewN | apply Kd.R_drew)); exact HO_8.out⟩, ⟨by (with_reducible repeat (first | apply Kd.V_alloc | apply Kd.V_drewN | apply Kd.V_drew)); exact HO_413000.out⟩, ⟨by (with_reducible repeat (first | apply Kd.V_alloc | apply Kd.V_drewN | apply Kd.V_drew)); exact HO_413001.out⟩, ⟨by (with_reducible repeat (first | refine blk_drewN ?_ _ | refine blk_drew ?_ | refine blk_alloc ?_ _)); exact BK412.out⟩, ⟨by repeat (first | (with_reducible first | exact HB.out | apply below_alloc | apply pw_below_drewN | apply below_drew1 | refine below_set ?_ GE412.out) | exact HB.out)⟩⟩ }
   {
   rw [if_neg c14] at H
   have c14b0 : decide (x10_1 < (wrap64 (1 + (Int.tmod (wrap64 (a0)) 6)))) = false := decide_eq_false c14
   clear c14
   (first | rw [c14b0] | (simp only [i64_w, i32_w]; rw [c14b0]) | skip)
   have H' := Aside0.mk H
   clear H
   go_wp2
   go_meet
   case rel => exact ⟨_, (false), (by first | rfl | (simp; done) | (simp [*]; done)), H', ⟨by have := HK1.out; first | omega | exact Nat.le_refl _⟩, ⟨by (with_reducible repeat (first | apply Kd.R_alloc | apply Kd.R_drewN | apply Kd.R_drew)); exact HO_8.out⟩, ⟨by (with_reducible repeat (first | apply Kd.V_alloc | apply Kd.V_drewN | apply Kd.V_drew)); exact HO_413000.out⟩, ⟨by (with_reducible repeat (first | apply Kd.V_alloc | apply Kd.V_drewN | apply Kd.V_drew)); exact HO_413001.out⟩, ⟨by (with_reducible repeat (first | refine blk_drewN ?_ _ | refine blk_drew ?_ | refine blk_alloc ?_ _)); exact BK412.out⟩, ⟨by repeat (first | (with_reducible first | exact HB.out | apply below_alloc | apply pw_below_drewN | apply below_drew1 | refine below_set ?_ GE412.out) | exact HB.out)⟩⟩ }
  case rest =>
   clear HC13
   try clear c1
   try clear c2
   try clear p2
   try clear c4
   try clear c4b0
   try clear c4b1
   try clear p6
   try clear c7
   try clear c14
   try clear c14b0
   try clear hcz11_0
   try clear hcz11_1
   try clear hfz11_0
   try clear hfz11_1
   try clear p2
   try clear p6
   obtain ⟨kq, x36_12, rfl, HA, HJ12, HO_8, HO_413000, HO_413001, BK412, HB⟩ := hcut
   cases kq with
   | zero => exact absurd HA.out (by simp [hallmootlaw22_DiskReadsLastWrite.j1])
   | succ kj12 => {
   have H := HA.out
   clear HA
   simp only [hallmootlaw22_DiskReadsLastWrite.j1] at H
   by_cases c15 : x36_12 = true
   {
   subst c15
   have H1 : ((hallmootlaw22_full.f kj12 0).bind fun t414 => (hallmootlaw22_DiskReadsLastWrite.l1 kj12 t401 (wrap64 (1 + (Int.tmod (wrap64 (a0)) 6))) t408 t411 x10_1 t414 0 t402 t405)) = some r := by rw [if_pos rfl] at H; exact H
   clear H
   have H := H1
   clear H1
   replace H := Option.bind_eq_some_iff.mp H
   obtain ⟨t414, A160, H⟩ := H
   replace H : (hallmootlaw22_DiskReadsLastWrite.l1 kj12 t401 (wrap64 (1 + (Int.tmod (wrap64 (a0)) 6))) t408 t411 x10_1 t414 0 t402 t405) = some r := H
   have A16 := Aside0.mk A160
   clear A160
   have H' := Aside0.mk H
   clear H
   go_wp2_with (first | ((with_reducible refine gate_callee (f := 24) rfl ?_); refine goesL_ (some 39) rfl rfl Try.func24 (by kernel_rfl) rfl #[.int .u8 0] rfl (by (try simp only [List.map_toArray, List.map_cons, List.map_nil]); first | done | rfl | (simp only [List.length_drop, List.length_take]; rfl)) ?_; (with_reducible refine (hallmootlaw22_full.calls kj12 0 t414 _ A16.out).mono ?_); rintro e w17 ⟨rfl, hb⟩; refine ⟨_, rfl, ?_⟩; have n0_ := Aside0.mk (Kd.R_below (by (with_reducible repeat (first | apply Kd.R_alloc | apply Kd.R_drewN | apply Kd.R_drew)); exact HO_8.out) hb); have n1_ := Aside0.mk (Kd.V_below (by (with_reducible repeat (first | apply Kd.V_alloc | apply Kd.V_drewN | apply Kd.V_drew)); exact HO_413000.out) hb); have n2_ := Aside0.mk (Kd.V_below (by (with_reducible repeat (first | apply Kd.V_alloc | apply Kd.V_drewN | apply Kd.V_drew)); exact HO_413001.out) hb); have n3_ := Aside0.mk (blk_below (g := gb412) (o := .cells #[.slice Ao10 t402.length co10, .slice Ao12 t405.length co12] 25 (0, 0)) (by (with_reducible repeat (first | refine blk_drewN ?_ _ | refine blk_drew ?_ | refine blk_alloc ?_ _)); exact BK412.out) hb); have n4_ := Aside0.mk (below_step (by repeat (first | (with_reducible first | exact HB.out | apply below_alloc | apply pw_below_drewN | apply below_drew1 | refine below_set ?_ GE412.out) | exact HB.out)) hb); clear HO_8; clear HO_413000; clear HO_413001; clear BK412; clear HB; have HO_8 := n0_; have HO_413000 := n1_; have HO_413001 := n2_; have BK412 := n3_; have HB := n4_; clear n0_ n1_ n2_ n3_ n4_; (try clear hb); (try clear hb2); (try clear hk); (try clear hi)))
   go_loopg [11, 12] kj12 (fun kq v11 v12 w' => ∃ (x11_3 : ByteArray) (x12_3 : Int), v11 = .string x11_3 ∧ v12 = .int .i64 x12_3 ∧ Aside0 (hallmootlaw22_DiskReadsLastWrite.l1 kq t401 (wrap64 (1 + (Int.tmod (wrap64 (a0)) 6))) t408 t411 x10_1 x11_3 x12_3 t402 t405 = some r) ∧ Aside0 (kq ≤ kj12) ∧ Aside0 (Kd.R k46 46 w' w.heap.size (fun _ => True) v409 t408) ∧ Aside0 (Kd.V Kd.string 9 w' w.heap.size (fun k_ => some k_ ≠ (v409 : Value).ownBlock ∧ k_ ≠ gb412) (.slice Ao10 t402.length co10) t402) ∧ Aside0 (Kd.V k46 46 w' w.heap.size (fun k_ => some k_ ≠ (v409 : Value).ownBlock ∧ k_ ≠ gb412) (.slice Ao12 t405.length co12) t405) ∧ Aside0 (w'.heap[gb412]? = some (.cells #[(.slice Ao10 t402.length co10), (.slice Ao12 t405.length co12)] 25 (0, 0))) ∧ Aside0 (Below w.heap.size w w'))
   case atStart => exact ⟨(t414), (0), (by first | rfl | (simp; done) | (simp [*]; done)), (by first | rfl | (simp; done) | (simp [*]; done)), H', ⟨Nat.le_refl _⟩, ⟨by (with_reducible repeat (first | apply Kd.R_alloc | apply Kd.R_drewN | apply Kd.R_drew)); exact HO_8.out⟩, ⟨by (with_reducible repeat (first | apply Kd.V_alloc | apply Kd.V_drewN | apply Kd.V_drew)); exact HO_413000.out⟩, ⟨by (with_reducible repeat (first | apply Kd.V_alloc | apply Kd.V_drewN | apply Kd.V_drew)); exact HO_413001.out⟩, ⟨by (with_reducible repeat (first | refine blk_drewN ?_ _ | refine blk_drew ?_ | refine blk_alloc ?_ _)); exact BK412.out⟩, ⟨by repeat (first | (with_reducible first | exact HB.out | apply below_alloc | apply pw_below_drewN | apply below_drew1 | refine below_set ?_ GE412.out) | exact HB.out)⟩⟩
   case round =>
    clear H'
    try clear c1
    try clear c2
    try clear p2
    try clear c4
    try clear c4b0
    try clear c4b1
    try clear p6
    try clear c7
    try clear c14
    try clear c14b0
    try clear c15
    try clear hcz11_0
    try clear hcz11_1
    try clear hfz11_0
    try clear hfz11_1
    try clear p2
    try clear p6
    obtain ⟨x11_3, x12_3, rfl, rfl, HA, HK3, HO_8, HO_413000, HO_413001, BK412, HB⟩ := hrel
    cases gk with
    | zero => exact absurd HA.out (by simp [hallmootlaw22_DiskReadsLastWrite.l1])
    | succ k3 => {
    have H := HA.out
    clear HA
    simp only [hallmootlaw22_DiskReadsLastWrite.l1] at H
    by_cases c18 : x12_3 < (t408.length : Int)
    {
    rw [if_pos c18] at H
    have c18b0 : decide (x12_3 < (t408.length : Int)) = true := decide_eq_true c18
    clear c18
    by_cases c19 : 0 ≤ x12_3
    {
    rw [if_pos c19] at H
    have c19b0 : decide (0 ≤ x12_3) = true := decide_eq_true c19
    clear c19
    by_cases c20 : ((rd_T46 t408 x12_3).f0) = x10_1
    {
    rw [if_pos c20] at H
    have c20b0 : (((rd_T46 t408 x12_3).f0) == x10_1) = true := beq_iff_eq.mpr c20
    have c20b1 : (((rd_T46 t408 x12_3).f0) != x10_1) = false := bne_eq_false_iff_eq.mpr c20
    clear c20
    have H' := Aside0.mk H
    clear H
    obtain ⟨Ao21, co21, eo21⟩ := Kd.R_slice HO_8.out
    subst eo21
    have p415 : 0 ≤ (x12_3 : Int) := of_decide_eq_true (by first | (with_reducible assumption) | assumption)
    have q415 : x12_3 < (t408.length : Int) := of_decide_eq_true (by first | (with_reducible assumption) | assumption)
    obtain ⟨ad415, e415, hx415_0, hx415_1⟩ := at_T46 (Kd.R_reads' HO_8.out).2.2 x12_3 p415 q415
    cases e415
    replace p415 := eq_true p415
    replace q415 := eq_true q415
    have p416 : 0 ≤ (x12_3 : Int) := of_decide_eq_true (by first | (with_reducible assumption) | assumption)
    have q416 : x12_3 < (t408.length : Int) := of_decide_eq_true (by first | (with_reducible assumption) | assumption)
    obtain ⟨ad416, e416, hx416_0, hx416_1⟩ := at_T46 (Kd.R_reads' HO_8.out).2.2 x12_3 p416 q416
    obtain rfl : ad415 = ad416 := (by injection e416)
    replace p416 := eq_true p416
    replace q416 := eq_true q416
    go_wp2
    go_roundg k3
    case measure => have := HK1.out; have := HJ12.out; have := HK3.out; omega
    case rel => exact ⟨((rd_T46 t408 x12_3).f1), (wrap64 (x12_3 + 1)), (by first | rfl | (simp; done) | (simp [*]; done)), (by first | rfl | (simp; done) | (simp [*]; done)), H', ⟨by have := HK1.out; have := HJ12.out; have := HK3.out; omega⟩, ⟨by (with_reducible repeat (first | apply Kd.R_alloc | apply Kd.R_drewN | apply Kd.R_drew)); exact HO_8.out⟩, ⟨by (with_reducible repeat (first | apply Kd.V_alloc | apply Kd.V_drewN | apply Kd.V_drew)); exact HO_413000.out⟩, ⟨by (with_reducible repeat (first | apply Kd.V_alloc | apply Kd.V_drewN | apply Kd.V_drew)); exact HO_413001.out⟩, ⟨by (with_reducible repeat (first | refine blk_drewN ?_ _ | refine blk_drew ?_ | refine blk_alloc ?_ _)); exact BK412.out⟩, ⟨by repeat (first | (with_reducible first | exact HB.out | apply below_alloc | apply pw_below_drewN | apply below_drew1 | refine below_set ?_ GE412.out) | exact HB.out)⟩⟩ }
    {
    rw [if_neg c20] at H
    have c20b0 : (((rd_T46 t408 x12_3).f0) == x10_1) = false := beq_eq_false_iff_ne.mpr c20
    have c20b1 : (((rd_T46 t408 x12_3).f0) != x10_1) = true := bne_iff_ne.mpr c20
    have H' := Aside0.mk H
    clear H
    obtain ⟨Ao22, co22, eo22⟩ := Kd.R_slice HO_8.out
    subst eo22
    have p415 : 0 ≤ (x12_3 : Int) := of_decide_eq_true (by first | (with_reducible assumption) | assumption)
    have q415 : x12_3 < (t408.length : Int) := of_decide_eq_true (by first | (with_reducible assumption) | assumption)
    obtain ⟨ad415, e415, hx415_0, hx415_1⟩ := at_T46 (Kd.R_reads' HO_8.out).2.2 x12_3 p415 q415
    cases e415
    replace p415 := eq_true p415
    replace q415 := eq_true q415
    go_wp2
    go_roundg k3
    case measure => have := HK1.out; have := HJ12.out; have := HK3.out; omega
    case rel => exact ⟨(x11_3), (wrap64 (x12_3 + 1)), (by first | rfl | (simp; done) | (simp [*]; done)), (by first | rfl | (simp; done) | (simp [*]; done)), H', ⟨by have := HK1.out; have := HJ12.out; have := HK3.out; omega⟩, ⟨by (with_reducible repeat (first | apply Kd.R_alloc | apply Kd.R_drewN | apply Kd.R_drew)); exact HO_8.out⟩, ⟨by (with_reducible repeat (first | apply Kd.V_alloc | apply Kd.V_drewN | apply Kd.V_drew)); exact HO_413000.out⟩, ⟨by (with_reducible repeat (first | apply Kd.V_alloc | apply Kd.V_drewN | apply Kd.V_drew)); exact HO_413001.out⟩, ⟨by (with_reducible repeat (first | refine blk_drewN ?_ _ | refine blk_drew ?_ | refine blk_alloc ?_ _)); exact BK412.out⟩, ⟨by repeat (first | (with_reducible first | exact HB.out | apply below_alloc | apply pw_below_drewN | apply below_drew1 | refine below_set ?_ GE412.out) | exact HB.out)⟩⟩ } }
    {
    rw [if_neg c19] at H
    exact absurd H (by simp) } }
    {
    rw [if_neg c18] at H
    have c18b0 : decide (x12_3 < (t408.length : Int)) = false := decide_eq_false c18
    clear c18
    replace H := Option.bind_eq_some_iff.mp H
    obtain ⟨⟨t417, t418⟩, A230, H⟩ := H
    replace H : (if t417.toList = x11_3.toList then (if t418 = 0 then (hallmootlaw22_DiskReadsLastWrite.l0 k3 t401 (wrap64 (1 + (Int.tmod (wrap64 (a0)) 6))) t408 t411 (wrap64 (x10_1 + 1)) t402 t405) else (none)) else (none)) = some r := H
    have A23 := Aside0.mk A230
    clear A230
    by_cases c24 : t417.toList = x11_3.toList
    {
    rw [if_pos c24] at H
    have c24b0 : (t417.toList == x11_3.toList) = true := beq_iff_eq.mpr c24
    have c24b1 : (t417.toList != x11_3.toList) = false := bne_eq_false_iff_eq.mpr c24
    clear c24
    by_cases c25 : t418 = 0
    {
    rw [if_pos c25] at H
    have c25b0 : (t418 == 0) = true := beq_iff_eq.mpr c25
    have c25b1 : (t418 != 0) = false := bne_eq_false_iff_eq.mpr c25
    clear c25
    have H' := Aside0.mk H
    clear H
    obtain ⟨Ao26, co26, eo26⟩ := Kd.R_slice HO_8.out
    subst eo26
    have hcz27_0 : wr.cell? ⟨gb412, 0, none⟩ = some (.slice Ao10 t402.length co10) := (blk_cell BK412.out 0).trans rfl
    have hcz27_1 : wr.cell? ⟨gb412, 1, none⟩ = some (.slice Ao12 t405.length co12) := (blk_cell BK412.out 1).trans rfl
    have hfz27_0 := blk_frozen BK412.out 0
    have hfz27_1 := blk_frozen BK412.out 1
    go_wp2_with (first | ((with_reducible refine gate_callee (f := 15) rfl ?_); refine goesL_ (some 61) rfl rfl Try.func15 (by kernel_rfl) rfl #[.agg #[.slice Ao10 t402.length co10, .slice Ao12 t405.length co12], .int .i64 x10_1] rfl (by (try simp only [List.map_toArray, List.map_cons, List.map_nil]); first | done | rfl | (simp only [List.length_drop, List.length_take]; rfl)) ?_; (with_reducible refine (disk_Read.calls _ _ t402 _ _ t405 x10_1 t417 t418 _ ?side1 ?side2 ?side3 ?side4 A23.out).mono ?_); (case side1 => repeat (first | exact (Kd.V_reads' HO_413000.out).2.2 | (with_reducible refine Kd.C_alloc ?_ _) | (with_reducible refine Kd.C_drewN ?_ _) | (with_reducible refine Kd.C_drew ?_))); (case side2 => exact (Kd.V_reads' HO_413000.out).2.1); (case side3 => repeat (first | exact (Kd.V_reads' HO_413001.out).2.2 | (with_reducible refine Kd.C_alloc ?_ _) | (with_reducible refine Kd.C_drewN ?_ _) | (with_reducible refine Kd.C_drew ?_))); (case side4 => exact (Kd.V_reads' HO_413001.out).2.1); rintro e w28 ⟨rfl, hb⟩; refine ⟨_, rfl, ?_⟩; have n0_ := Aside0.mk (Kd.R_below (by (with_reducible repeat (first | apply Kd.R_alloc | apply Kd.R_drewN | apply Kd.R_drew)); exact HO_8.out) hb); have n1_ := Aside0.mk (Kd.V_below (by (with_reducible repeat (first | apply Kd.V_alloc | apply Kd.V_drewN | apply Kd.V_drew)); exact HO_413000.out) hb); have n2_ := Aside0.mk (Kd.V_below (by (with_reducible repeat (first | apply Kd.V_alloc | apply Kd.V_drewN | apply Kd.V_drew)); exact HO_413001.out) hb); have n3_ := Aside0.mk (blk_below (g := gb412) (o := .cells #[.slice Ao10 t402.length co10, .slice Ao12 t405.length co12] 25 (0, 0)) (by (with_reducible repeat (first | refine blk_drewN ?_ _ | refine blk_drew ?_ | refine blk_alloc ?_ _)); exact BK412.out) hb); have n4_ := Aside0.mk (below_step (by repeat (first | (with_reducible first | exact HB.out | apply below_alloc | apply pw_below_drewN | apply below_drew1 | refine below_set ?_ GE412.out) | exact HB.out)) hb); clear HO_8; clear HO_413000; clear HO_413001; clear BK412; clear HB; have HO_8 := n0_; have HO_413000 := n1_; have HO_413001 := n2_; have BK412 := n3_; have HB := n4_; clear n0_ n1_ n2_ n3_ n4_; (try clear hb); (try clear hb2); (try clear hk); (try clear hi)))
    go_roundg k3
    case measure => have := HK1.out; have := HJ12.out; have := HK3.out; omega
    case rel => exact ⟨(wrap64 (x10_1 + 1)), (by first | rfl | (simp; done) | (simp [*]; done)), H', ⟨by have := HK1.out; have := HJ12.out; have := HK3.out; omega⟩, ⟨by (with_reducible repeat (first | apply Kd.R_alloc | apply Kd.R_drewN | apply Kd.R_drew)); exact HO_8.out⟩, ⟨by (with_reducible repeat (first | apply Kd.V_alloc | apply Kd.V_drewN | apply Kd.V_drew)); exact HO_413000.out⟩, ⟨by (with_reducible repeat (first | apply Kd.V_alloc | apply Kd.V_drewN | apply Kd.V_drew)); exact HO_413001.out⟩, ⟨by (with_reducible repeat (first | refine blk_drewN ?_ _ | refine blk_drew ?_ | refine blk_alloc ?_ _)); exact BK412.out⟩, ⟨by repeat (first | (with_reducible first | exact HB.out | apply below_alloc | apply pw_below_drewN | apply below_drew1 | refine below_set ?_ GE412.out) | exact HB.out)⟩⟩ }
    {
    rw [if_neg c25] at H
    exact absurd H (by simp) } }
    {
    rw [if_neg c24] at H
    exact absurd H (by simp) } } } }
   {
   replace c15 := Bool.eq_false_iff.mpr c15
   subst c15
   have H1 : (if t401 = true then (if t411 = true then ((dRight.f t402 t405).bind fun t413 => (some t413)) else (none)) else (none)) = some r := by rw [if_neg (show ¬ (false = true) by decide)] at H; exact H
   clear H
   have H := H1
   clear H1
   by_cases c29 : t401 = true
   {
   subst c29
   have H1 : (if t411 = true then ((dRight.f t402 t405).bind fun t413 => (some t413)) else (none)) = some r := by rw [if_pos rfl] at H; exact H
   clear H
   have H := H1
   clear H1
   by_cases c30 : t411 = true
   {
   subst c30
   have H1 : ((dRight.f t402 t405).bind fun t413 => (some t413)) = some r := by rw [if_pos rfl] at H; exact H
   clear H
   have H := H1
   clear H1
   replace H := Option.bind_eq_some_iff.mp H
   obtain ⟨t413, A310, H⟩ := H
   replace H : (some t413) = some r := H
   have A31 := Aside0.mk A310
   clear A310
   obtain rfl := Option.some.inj H
   have hcz32_0 : wc.cell? ⟨gb412, 0, none⟩ = some (.slice Ao10 t402.length co10) := (blk_cell BK412.out 0).trans rfl
   have hcz32_1 : wc.cell? ⟨gb412, 1, none⟩ = some (.slice Ao12 t405.length co12) := (blk_cell BK412.out 1).trans rfl
   have hfz32_0 := blk_frozen BK412.out 0
   have hfz32_1 := blk_frozen BK412.out 1
   go_wp2_with (first | (go_at_call 12; (with_reducible refine (dRight.calls _ _ t402 _ _ t405 t413 _ ?side1 ?side2 ?side3 ?side4 A31.out).mono ?_); (case side1 => repeat (first | exact (Kd.V_reads' HO_413000.out).2.2 | (with_reducible refine Kd.C_alloc ?_ _) | (with_reducible refine Kd.C_drewN ?_ _) | (with_reducible refine Kd.C_drew ?_))); (case side2 => exact (Kd.V_reads' HO_413000.out).2.1); (case side3 => repeat (first | exact (Kd.V_reads' HO_413001.out).2.2 | (with_reducible refine Kd.C_alloc ?_ _) | (with_reducible refine Kd.C_drewN ?_ _) | (with_reducible refine Kd.C_drew ?_))); (case side4 => exact (Kd.V_reads' HO_413001.out).2.1); rintro e w33 ⟨rfl, hb⟩; have n0_ := Aside0.mk (Kd.R_below (by (with_reducible repeat (first | apply Kd.R_alloc | apply Kd.R_drewN | apply Kd.R_drew)); exact HO_8.out) hb); have n1_ := Aside0.mk (Kd.V_below (by (with_reducible repeat (first | apply Kd.V_alloc | apply Kd.V_drewN | apply Kd.V_drew)); exact HO_413000.out) hb); have n2_ := Aside0.mk (Kd.V_below (by (with_reducible repeat (first | apply Kd.V_alloc | apply Kd.V_drewN | apply Kd.V_drew)); exact HO_413001.out) hb); have n3_ := Aside0.mk (blk_below (g := gb412) (o := .cells #[.slice Ao10 t402.length co10, .slice Ao12 t405.length co12] 25 (0, 0)) (by (with_reducible repeat (first | refine blk_drewN ?_ _ | refine blk_drew ?_ | refine blk_alloc ?_ _)); exact BK412.out) hb); have n4_ := Aside0.mk (below_step (by repeat (first | (with_reducible first | exact HB.out | apply below_alloc | apply pw_below_drewN | apply below_drew1 | refine below_set ?_ GE412.out) | exact HB.out)) hb); clear HO_8; clear HO_413000; clear HO_413001; clear BK412; clear HB; have HO_8 := n0_; have HO_413000 := n1_; have HO_413001 := n2_; have BK412 := n3_; have HB := n4_; clear n0_ n1_ n2_ n3_ n4_; (try clear hb); (try clear hb2); (try clear hk); (try clear hi)))
   go_ret
   exact ⟨by first | rfl | (simp [errW_none, errW_some] <;> rfl) | (simp [*, errW_none, errW_some] <;> rfl), by repeat (first | (with_reducible first | exact HB.out | apply below_alloc | apply pw_below_drewN | apply below_drew1 | refine below_set ?_ GE412.out) | exact HB.out)⟩ }
   {
   replace c30 := Bool.eq_false_iff.mpr c30
   subst c30
   have H1 : (none) = some r := by rw [if_neg (show ¬ (false = true) by decide)] at H; exact H
   clear H
   have H := H1
   clear H1
   exact absurd H (by simp) } }
   {
   replace c29 := Bool.eq_false_iff.mpr c29
   subst c29
   have H1 : (none) = some r := by rw [if_neg (show ¬ (false = true) by decide)] at H; exact H
   clear H
   have H := H1
   clear H1
   exact absurd H (by simp) } } } } }

/-- THE ONE PURE STATEMENT of hallmootlaw22_DiskReadsLastWrite: yours. -/
def hallmootlaw22_DiskReadsLastWrite.Pure : Prop := ∀ (a0 : Int) (l1 : List Int), (Lit.int .u8 a0).wf = true → l1.length ≤ maxLen → l1.length * 1 ≤ 140737488351232 → (∀ x ∈ l1, (Lit.int .u8 x).wf = true) → ∃ k, hallmootlaw22_DiskReadsLastWrite.f k a0 l1 = some true
theorem hallmootlaw22_DiskReadsLastWrite.walk (P : hallmootlaw22_DiskReadsLastWrite.Pure) (a0 : Int) (a1 : Option Addr) (len1 cap1 : Nat) (z1 : List Int) (w : World) (w0 : (Lit.int .u8 a0).wf = true) (w1 : (a1 = none ∧ len1 = 0 ∧ cap1 = 0 ∧ z1 = []) ∨ ∃ x, a1 = some x ∧ len1 ≤ cap1 ∧ cap1 ≤ maxLen ∧ z1.length = cap1 ∧ (∀ i, i < z1.length → w.cell? (x.add i) = some (.int .u8 (z1.getD i 0))) ∧ ∀ n ∈ z1, (Lit.int .u8 n).wf = true) (y1 : len1 * 1 ≤ 140737488351232) : Calls Try.prog 4 #[.int .u8 a0, .slice a1 len1 cap1] w fun e w' => e = .returned (.bool true) ∧ Below w.heap.size w w' := by
 obtain ⟨l1, rfl, hr1, hm1, hw1, hc1⟩ := ReadsInt.ofRowC w1
 obtain ⟨k, h⟩ := P a0 l1 w0 hm1 y1 hw1
 refine (hallmootlaw22_DiskReadsLastWrite.calls k a0 _ _ l1 true w (Kd.C_of_reads (d := (0 : Int)) (h1 := fun _ => rfl) hr1) hc1 h).mono ?_
 rintro e w' ⟨rfl, hd⟩
 exact ⟨rfl, hd⟩

end Go.Proofs.Ytdaonhgcejjlhaa.P
