-- Written by pp.py (this session's program over the kit's printer): functions, contracts. Not trusted: Lean checks it.
import Derived.Test.YtfojpobblebigaaPx0
import Derived.Test.YtfojpobblebigaaPx10
import Derived.Test.YtfojpobblebigaaPx3
import Derived.Test.YtfojpobblebigaaHh
import Derived.Test.YtfojpobblebigaaHi
import Derived.Test.YtfojpobblebigaaHk
import Derived.Test.YtfojpobblebigaaHn
import Derived.Test.YtfojpobblebigaaHp
namespace Go.Proofs.Ytfojpobblebigaa.P
open Go.RowKit Go.Proofs.YtfojpobblebigaaW.PrintWords Go.Proofs.YtfojpobblebigaaW.PrintLast Go.Proofs.YtfojpobblebigaaW.PrintMore
attribute [local go_sem] max2_int min2_int max_two min_two max_three min_three max_four min_four   -- for this text's walks alone
set_option linter.unusedVariables false
set_option linter.unusedSimpArgs false

/-! ### hallmootlaw13_NestUndo: function 6 -/
mutual
def hallmootlaw13_NestUndo.l0 : Nat → List Int → Bool → List (S62) → List Int → Int → Option (Bool)
  | 0, _, _, _, _, _ => none
  | k + 1, x0, x3, x4, x5, x6 => if x6 < (x0.length : Int) then (if 0 ≤ x6 then (if (Int.tmod (rd x0 x6) 3) = 0 then ((nKeep.f x4 0 0 0 ([] : List (S48)) (wrap64 (x6 + 1))).bind fun t344 => (if x5.length < 17592186044416 then (hallmootlaw13_NestUndo.l0 k x0 x3 t344 (x5 ++ [wrap64 (x6 + 1)]) (wrap64 (x6 + 1))) else (none))) else (if (Int.tmod (rd x0 x6) 3) = 1 then ((nBegin.f x4).bind fun t350 => ((nKeep.f t350 0 0 0 ([] : List (S48)) (wrap64 (x6 + 1))).bind fun t353 => ((nEnd.f t353).bind fun t356 => (if x5.length < 17592186044416 then (hallmootlaw13_NestUndo.l0 k x0 x3 t356 (x5 ++ [wrap64 (x6 + 1)]) (wrap64 (x6 + 1))) else (none))))) else (if (Int.tmod (rd x0 x6) 3) = 2 then ((nBegin.f x4).bind fun t362 => ((nKeep.f t362 0 0 0 ([] : List (S48)) (wrap64 (x6 + 1))).bind fun t365 => ((nDrop.f t365).bind fun bt368 => ((hallmootref13_Undos.f k bt368.2 (([(⟨(⟨0, 0, 0, ([] : List (S48))⟩ : S48), wrap64 (x6 + 1)⟩ : S50)] : List (S50)))).bind fun t377 => (if t377 = true then (hallmootlaw13_NestUndo.l0 k x0 x3 bt368.1 x5 (wrap64 (x6 + 1))) else (none)))))) else (hallmootlaw13_NestUndo.l0 k x0 x3 x4 x5 (wrap64 (x6 + 1)))))) else (none)) else ((nDrop.f x4).bind fun bt378 => (if (bt378.2.length : Int) = (x5.length : Int) then (hallmootlaw13_NestUndo.l1 k x3 x5 bt378.2 0) else (none)))
def hallmootlaw13_NestUndo.l1 : Nat → Bool → List Int → List (S50) → Int → Option (Bool)
  | 0, _, _, _, _ => none
  | k + 1, x3, x5, x11, x12 => if x12 < (x11.length : Int) then (if 0 ≤ x12 then (if 0 ≤ (wrap64 ((wrap64 ((x5.length : Int) - 1)) - x12)) then (if (wrap64 ((wrap64 ((x5.length : Int) - 1)) - x12)) < (x5.length : Int) then (if ((rd_T50 x11 x12).f1) = (rd x5 (wrap64 ((wrap64 ((x5.length : Int) - 1)) - x12))) then (hallmootlaw13_NestUndo.l1 k x3 x5 x11 (wrap64 (x12 + 1))) else (none)) else (none)) else (none)) else (none)) else (some x3)
end
def hallmootlaw13_NestUndo.f (k : Nat) (l0 : List Int) : Option (Bool) := (hallmootlaw13_sanity.f).bind fun t338 => (if (l0.length : Int) > 12 then (some t338) else ((nBegin.f ([] : List (S62))).bind fun t339 => (hallmootlaw13_NestUndo.l0 k l0 t338 t339 ([] : List Int) 0)))
theorem hallmootlaw13_NestUndo.mono_l : ∀ k, (∀ y0 y1 y2 y3 y4, LeO (hallmootlaw13_NestUndo.l0 k y0 y1 y2 y3 y4) (hallmootlaw13_NestUndo.l0 (k + 1) y0 y1 y2 y3 y4)) ∧ (∀ y0 y1 y2 y3, LeO (hallmootlaw13_NestUndo.l1 k y0 y1 y2 y3) (hallmootlaw13_NestUndo.l1 (k + 1) y0 y1 y2 y3))
  | 0 => ⟨fun _ _ _ _ _ r h => by simp [hallmootlaw13_NestUndo.l0] at h, fun _ _ _ _ r h => by simp [hallmootlaw13_NestUndo.l1] at h⟩
  | k + 1 => by
    obtain ⟨ih0, ih1⟩ := hallmootlaw13_NestUndo.mono_l k
    refine ⟨?_, ?_⟩
    · intro y0 y1 y2 y3 y4
      unfold hallmootlaw13_NestUndo.l0
      repeat' first
      | (with_reducible exact ih0 _ _ _ _ _)
      | (with_reducible exact ih1 _ _ _ _)
      | (with_reducible exact hallmootref13_Undos.mono _ _ _)
      | (with_reducible exact LeO.refl _)
      | (with_reducible exact LeO.none _)
      | (with_reducible refine LeO.ite ?_ ?_)
      | (with_reducible refine LeO.bind ?_ (fun _ => ?_))
      | exact ih0 _ _ _ _ _
      | exact ih1 _ _ _ _
      | exact hallmootref13_Undos.mono _ _ _
      | exact LeO.none _
      | refine LeO.ite ?_ ?_
      | refine LeO.bind ?_ (fun _ => ?_)
    · intro y0 y1 y2 y3
      unfold hallmootlaw13_NestUndo.l1
      repeat' first
      | (with_reducible exact ih0 _ _ _ _ _)
      | (with_reducible exact ih1 _ _ _ _)
      | (with_reducible exact hallmootref13_Undos.mono _ _ _)
      | (with_reducible exact LeO.refl _)
      | (with_reducible exact LeO.none _)
      | (with_reducible refine LeO.ite ?_ ?_)
      | (with_reducible refine LeO.bind ?_ (fun _ => ?_))
      | exact ih0 _ _ _ _ _
      | exact ih1 _ _ _ _
      | exact hallmootref13_Undos.mono _ _ _
      | exact LeO.none _
      | refine LeO.ite ?_ ?_
      | refine LeO.bind ?_ (fun _ => ?_)
theorem hallmootlaw13_NestUndo.mono : ∀ a0 k, LeO (hallmootlaw13_NestUndo.f k a0) (hallmootlaw13_NestUndo.f (k + 1) a0) := by
 intro a0 k
 obtain ⟨ih0, ih1⟩ := hallmootlaw13_NestUndo.mono_l k
 unfold hallmootlaw13_NestUndo.f
 repeat' first | (with_reducible exact ih0 _ _ _ _ _) | (with_reducible exact ih1 _ _ _ _) | (with_reducible exact hallmootref13_Undos.mono _ _ _) | (with_reducible exact LeO.refl _) | (with_reducible exact LeO.none _) | (with_reducible refine LeO.ite ?_ ?_) | (with_reducible refine LeO.bind ?_ (fun _ => ?_)) | exact ih0 _ _ _ _ _ | exact ih1 _ _ _ _ | exact hallmootref13_Undos.mono _ _ _ | exact LeO.none _ | refine LeO.ite ?_ ?_ | refine LeO.bind ?_ (fun _ => ?_)
def hallmootlaw13_NestUndo.T18 : Bool × List (List Nat × List Nat) := (true, [([], []), ([0], [0]), ([], []), ([1, 2, 1], [1, 2]), ([3, 3], [3]), ([4], [4]), ([5], [5]), ([5], [5]), ([6, 4, 0, 1, 2, 3, 4, 5, 6], [6]), ([7, 8, 0, 1, 2, 3, 4, 5, 6, 7, 8], [7])])
def hallmootlaw13_NestUndo.B18 : List Nat := [0, 1, 0, 7, 15, 31, 63, 63, 127, 511]
theorem hallmootlaw13_NestUndo.tab18 : rtab .any (opsOf Try.f6 18) = hallmootlaw13_NestUndo.T18 := by kernel_rfl
theorem hallmootlaw13_NestUndo.bits18 : waitsOk hallmootlaw13_NestUndo.T18.2 hallmootlaw13_NestUndo.B18 = true := by kernel_rfl
def hallmootlaw13_NestUndo.T28 : Bool × List (List Nat × List Nat) := (true, [([], []), ([], []), ([0, 1], [0, 1]), ([2], [2]), ([3], [3]), ([], []), ([], []), ([6], [6]), ([7], [7]), ([], []), ([8, 9], [8, 9]), ([5, 10], [5, 10]), ([11], [11]), ([4, 12], [4, 12])])
def hallmootlaw13_NestUndo.B28 : List Nat := [0, 0, 3, 7, 15, 0, 0, 64, 192, 0, 960, 2016, 4064, 8191]
theorem hallmootlaw13_NestUndo.tab28 : rtab .any (opsOf Try.f6 28) = hallmootlaw13_NestUndo.T28 := by kernel_rfl
theorem hallmootlaw13_NestUndo.bits28 : waitsOk hallmootlaw13_NestUndo.T28.2 hallmootlaw13_NestUndo.B28 = true := by kernel_rfl
set_option maxHeartbeats 8000000 in
set_option maxRecDepth 100000 in
theorem hallmootlaw13_NestUndo.calls (k : Nat) (A0 : Option Addr) (c0 : Nat) (l0 : List Int) (r : Bool) (w : World) (hr0 : Kd.C (Kd.int .u8) w A0 l0.length l0) (hc0 : l0.length ≤ c0) (h : hallmootlaw13_NestUndo.f k l0 = some r) : Calls Try.prog 6 #[.slice A0 l0.length c0] w fun e w' => e = .returned (.bool r) ∧ Below w.heap.size w w' := by
 have hu50 := Try.underlying50
 have HR0 := Aside0.mk hr0
 have HC0 := Aside0.mk hc0
 clear hr0 hc0
 have HB := Aside0.mk (Below.refl w.heap.size w)
 have H : ((hallmootlaw13_sanity.f).bind fun t338 => (if (l0.length : Int) > 12 then (some t338) else ((nBegin.f ([] : List (S62))).bind fun t339 => (hallmootlaw13_NestUndo.l0 k l0 t338 t339 ([] : List Int) 0)))) = some r := h
 clear h
 replace H := Option.bind_eq_some_iff.mp H
 obtain ⟨t338, A20, H⟩ := H
 replace H : (if (l0.length : Int) > 12 then (some t338) else ((nBegin.f ([] : List (S62))).bind fun t339 => (hallmootlaw13_NestUndo.l0 k l0 t338 t339 ([] : List Int) 0))) = some r := H
 have A2 := Aside0.mk A20
 clear A20
 by_cases c3 : (l0.length : Int) > 12
 {
 rw [if_pos c3] at H
 have c3b0 : decide (12 < (l0.length : Int)) = true := decide_eq_true c3
 have c3b1 : decide (12 < l0.length) = true := decide_eq_true (by omega)
 clear c3
 obtain rfl := Option.some.inj H
 go_enter Try.func6, Try.ntmps6
 go_wp2_with (first | ((with_reducible refine gate_callee (f := 10) rfl ?_); refine goesL_ (some 13) rfl rfl Try.func10 (by kernel_rfl) rfl #[] rfl (by (try simp only [List.map_toArray, List.map_cons, List.map_nil]); first | done | rfl | (simp only [List.length_drop, List.length_take]; rfl)) ?_; (with_reducible refine (hallmootlaw13_sanity.calls  t338 _ A2.out).mono ?_); rintro e w4 ⟨rfl, hb⟩; refine ⟨_, rfl, ?_⟩; have n0_ := Aside0.mk (below_step (by repeat (first | (with_reducible first | exact HB.out | apply below_alloc | apply pw_below_drewN | apply below_drew1) | exact HB.out)) hb); clear HB; have HB := n0_; clear n0_; (try clear hb); (try clear hb2); (try clear hk); (try clear hi)))
 go_ret
 exact ⟨by first | rfl | (simp [errW_none, errW_some] <;> rfl) | (simp [*, errW_none, errW_some] <;> rfl), by repeat (first | (with_reducible first | exact HB.out | apply below_alloc | apply pw_below_drewN | apply below_drew1) | exact HB.out)⟩ }
 {
 rw [if_neg c3] at H
 have c3b0 : decide (12 < (l0.length : Int)) = false := decide_eq_false c3
 have c3b1 : decide (12 < l0.length) = false := decide_eq_false (by omega)
 clear c3
 replace H := Option.bind_eq_some_iff.mp H
 obtain ⟨t339, A50, H⟩ := H
 replace H : (hallmootlaw13_NestUndo.l0 k l0 t338 t339 ([] : List Int) 0) = some r := H
 have A5 := Aside0.mk A50
 clear A50
 have H' := Aside0.mk H
 clear H
 go_enter Try.func6, Try.ntmps6
 go_wp2_with (first | ((with_reducible refine gate_callee (f := 10) rfl ?_); refine goesL_ (some 13) rfl rfl Try.func10 (by kernel_rfl) rfl #[] rfl (by (try simp only [List.map_toArray, List.map_cons, List.map_nil]); first | done | rfl | (simp only [List.length_drop, List.length_take]; rfl)) ?_; (with_reducible refine (hallmootlaw13_sanity.calls  t338 _ A2.out).mono ?_); rintro e w6 ⟨rfl, hb⟩; refine ⟨_, rfl, ?_⟩; have n0_ := Aside0.mk (below_step (by repeat (first | (with_reducible first | exact HB.out | apply below_alloc | apply pw_below_drewN | apply below_drew1) | exact HB.out)) hb); clear HB; have HB := n0_; clear n0_; (try clear hb); (try clear hb2); (try clear hk); (try clear hi)) | ((with_reducible refine gate_callee (f := 12) rfl ?_); refine goesL_ (some 18) rfl rfl Try.func12 (by kernel_rfl) rfl #[.slice none 0 0] rfl (by (try simp only [List.map_toArray, List.map_cons, List.map_nil]); first | done | rfl | (simp only [List.length_drop, List.length_take]; rfl)) ?_; (refine (nBegin.calls (fun k_ => False) _ _ ([] : List (S62)) t339 _ ?side1 A5.out).mono ?_); (case side1 => exact Kd.V_nil _ _ _ _ _); rintro e w7 ⟨v340, rfl, ho0, hb⟩; refine ⟨_, rfl, ?_⟩; have n0_ := Aside0.mk (Kd.V_lower (Kd.V_mono (ok' := fun k_ => True) ho0 (fun k_ hk_ => trivial)) (below_size (by repeat (first | (with_reducible first | exact HB.out | apply below_alloc | apply pw_below_drewN | apply below_drew1) | exact HB.out)))); have n1_ := Aside0.mk (below_step (by repeat (first | (with_reducible first | exact HB.out | apply below_alloc | apply pw_below_drewN | apply below_drew1) | exact HB.out)) hb); clear HB; have HO341 := n0_; have HB := n1_; clear n0_ n1_; (try clear hb); (try clear hb2); (try clear hk); (try clear hi); (try clear ho0)))
 go_loopg [4, 5, 6] k (fun kq v4 v5 v6 w' => ∃ (x4_1 : List (S62)) (x5_1 : List Int) (x6_1 : Int), v6 = .int .i64 x6_1 ∧ Aside0 (hallmootlaw13_NestUndo.l0 kq l0 t338 x4_1 x5_1 x6_1 = some r) ∧ Aside0 (kq ≤ k) ∧ Aside0 (Kd.V k62 62 w' w.heap.size (fun k_ => some k_ ≠ (v5 : Value).ownBlock) v4 x4_1) ∧ Aside0 (Kd.R (Kd.int .i64) 3 w' w.heap.size (fun _ => True) v5 x5_1) ∧ Aside0 (Below w.heap.size w w'))
 case atStart => exact ⟨(t339), (([] : List Int)), (0), (by first | rfl | (simp; done) | (simp [*]; done)), H', ⟨Nat.le_refl _⟩, ⟨by (with_reducible repeat (first | apply Kd.V_alloc | apply Kd.V_drewN | apply Kd.V_drew)); exact Kd.V_mono HO341.out (fun _ hk => (by simp [Value.ownBlock]))⟩, ⟨by first | exact Kd.R_nil _ _ _ _ _ | exact Kd.N_nil _ _ _ _ _ | exact Kd.V_nil _ _ _ _ _ | exact Kd.Q_nil _ _ _ _ _ | exact Kd.S_nil _ _ _ _ _⟩, ⟨by repeat (first | (with_reducible first | exact HB.out | apply below_alloc | apply pw_below_drewN | apply below_drew1) | exact HB.out)⟩⟩
 case round =>
  clear H'
  try clear c1
  try clear p2
  try clear c3
  try clear c3b0
  try clear c3b1
  try clear c6
  obtain ⟨x4_1, x5_1, x6_1, rfl, HA, HK1, HO_4, HO_5, HB⟩ := hrel
  cases gk with
  | zero => exact absurd HA.out (by simp [hallmootlaw13_NestUndo.l0])
  | succ k1 => {
  have H := HA.out
  clear HA
  simp only [hallmootlaw13_NestUndo.l0] at H
  by_cases c8 : x6_1 < (l0.length : Int)
  {
  rw [if_pos c8] at H
  have c8b0 : decide (x6_1 < (l0.length : Int)) = true := decide_eq_true c8
  clear c8
  by_cases c9 : 0 ≤ x6_1
  {
  rw [if_pos c9] at H
  have c9b0 : decide (0 ≤ x6_1) = true := decide_eq_true c9
  clear c9
  by_cases c10 : (Int.tmod (rd l0 x6_1) 3) = 0
  {
  rw [if_pos c10] at H
  have c10b0 : ((Int.tmod (rd l0 x6_1) 3) == 0) = true := beq_iff_eq.mpr c10
  have c10b1 : ((Int.tmod (rd l0 x6_1) 3) != 0) = false := bne_eq_false_iff_eq.mpr c10
  clear c10
  replace H := Option.bind_eq_some_iff.mp H
  obtain ⟨t344, A110, H⟩ := H
  replace H : (if x5_1.length < 17592186044416 then (hallmootlaw13_NestUndo.l0 k1 l0 t338 t344 (x5_1 ++ [wrap64 (x6_1 + 1)]) (wrap64 (x6_1 + 1))) else (none)) = some r := H
  have A11 := Aside0.mk A110
  clear A110
  by_cases c12 : x5_1.length < 17592186044416
  {
  rw [if_pos c12] at H
  have LMc12 := Aside0.mk c12
  clear c12
  obtain ⟨y347, hy347⟩ : ∃ y_ : List Int, y_ = (x5_1 ++ [wrap64 (x6_1 + 1)]) := ⟨_, rfl⟩
  replace H : (hallmootlaw13_NestUndo.l0 k1 l0 t338 t344 y347 (wrap64 (x6_1 + 1))) = some r := by first | (rw [hy347]; with_reducible exact H) | (have H2_ := (Option.bind_some _ _).symm.trans H; rw [hy347]; with_reducible exact H2_) | (have H2_ := (Option.bind_some _ _).symm.trans H; with_reducible exact H2_) | with_reducible exact H | (rw [hy347]; exact H) | exact H
  have Ny347 := Aside0.mk hy347
  clear hy347
  have H' := Aside0.mk H
  clear H
  go_wp2_with (first | ((with_reducible refine gate_dst (N := 7) rfl ?_); refine box_event ?hg (N := 7) ?hd (cs := #[.int .i64 0, .int .i64 0, .int .i64 0, .slice none 0 0, .int .i64 0]) (t := 50) ?hr ?_; (case hd => rfl); (case hg => rfl); (case hr => first | (go_simp; done) | (go_simp; rfl)); intro gb342 hg w13 hbox hb; have n0_ := Aside0.mk (Kd.V_below (Kd.V_elderB (by (with_reducible repeat (first | apply Kd.V_alloc | apply Kd.V_drewN | apply Kd.V_drew)); exact HO_4.out) gb342 (Nat.le_of_eq hg.symm)) hb); have n1_ := Aside0.mk (Kd.R_below (by (with_reducible repeat (first | apply Kd.R_alloc | apply Kd.R_drewN | apply Kd.R_drew)); exact HO_5.out) hb); have n2_ := Aside0.mk (below_step (by repeat (first | (with_reducible first | exact HB.out | apply below_alloc | apply pw_below_drewN | apply below_drew1) | exact HB.out)) hb); have n3_ := Aside0.mk (hbox); have n4_ := Aside0.mk ((by rw [hg]; exact (below_size (by repeat (first | (with_reducible first | exact HB.out | apply below_alloc | apply pw_below_drewN | apply below_drew1) | exact HB.out))) : w.heap.size ≤ gb342)); have n5_ := Aside0.mk ((by rw [hg]; exact (below_size (by repeat (first | (with_reducible first | exact HB.out | apply below_alloc | apply pw_below_drewN | apply below_drew1) | exact HB.out))) : w.heap.size ≤ gb342)); clear HO_4; clear HO_5; clear HB; have HO_4 := n0_; have HO_5 := n1_; have HB := n2_; have BK342 := n3_; have GW342 := n4_; have GE342 := n5_; clear n0_ n1_ n2_ n3_ n4_ n5_; clear hb hbox hg; have hcz14_0 : w13.cell? ⟨gb342, 0, none⟩ = some (.int .i64 0) := (blk_cell BK342.out 0).trans rfl; have hcz14_1 : w13.cell? ⟨gb342, 1, none⟩ = some (.int .i64 0) := (blk_cell BK342.out 1).trans rfl; have hcz14_2 : w13.cell? ⟨gb342, 2, none⟩ = some (.int .i64 0) := (blk_cell BK342.out 2).trans rfl; have hcz14_3 : w13.cell? ⟨gb342, 3, none⟩ = some (.slice none 0 0) := (blk_cell BK342.out 3).trans rfl; have hcz14_4 : w13.cell? ⟨gb342, 4, none⟩ = some (.int .i64 0) := (blk_cell BK342.out 4).trans rfl; have hfz14_0 := blk_frozen BK342.out 0; have hfz14_1 := blk_frozen BK342.out 1; have hfz14_2 := blk_frozen BK342.out 2; have hfz14_3 := blk_frozen BK342.out 3; have hfz14_4 := blk_frozen BK342.out 4) | ((with_reducible refine gate_store (t := 50) (p := 7) rfl ?_); refine store_event (t := 50) (p := 7) (v := ?vo_w15) (w1 := (((((w13.setCell ⟨gb342, 0, none⟩ (.int .i64 0)).setCell ⟨gb342, 1, none⟩ (.int .i64 0)).setCell ⟨gb342, 2, none⟩ (.int .i64 0)).setCell ⟨gb342, 3, none⟩ (.slice none 0 0)).setCell ⟨gb342, 4, none⟩ (.int .i64 (wrap64 (x6_1 + 1))))) ?hg ?ho ?hn ?hr ?_; (case ho => rfl); (case hg => rfl); (case hn => rfl); (case hr => first | (go_simp; done) | (go_simp; rfl)); intro w15 hw; have n0_ : Aside0 (Kd.V k62 62 w15 w.heap.size (fun k_ => some k_ ≠ (u5 : Value).ownBlock ∧ k_ ≠ gb342) u4 x4_1) := ⟨(by rw [hw]; exact (by (with_reducible repeat (first | apply Kd.V_alloc | apply Kd.V_drewN | apply Kd.V_drew)); exact Kd.V_mono (Kd.V_far (p := ⟨gb342, 4, none⟩) (Kd.V_far (p := ⟨gb342, 3, none⟩) (Kd.V_far (p := ⟨gb342, 2, none⟩) (Kd.V_far (p := ⟨gb342, 1, none⟩) (Kd.V_far (p := ⟨gb342, 0, none⟩) (Kd.V_mono HO_4.out (fun k_ hk => (⟨hk, hk.2⟩ : _ ∧ k_ ≠ gb342))) (fun _ hk => hk.2) (.int .i64 0)) (fun _ hk => hk.2) (.int .i64 0)) (fun _ hk => hk.2) (.int .i64 0)) (fun _ hk => hk.2) (.slice none 0 0)) (fun _ hk => hk.2) (.int .i64 (wrap64 (x6_1 + 1)))) (fun _ hk => ⟨hk.1.1, hk.1.2⟩)))⟩; have n1_ : Aside0 (Kd.R (Kd.int .i64) 3 w15 w.heap.size (fun _ => True) u5 x5_1) := ⟨(by rw [hw]; exact (by (with_reducible repeat (first | apply Kd.R_alloc | apply Kd.R_drewN | apply Kd.R_drew)); exact Kd.R_mono (Kd.R_far (p := ⟨gb342, 4, none⟩) (Kd.R_far (p := ⟨gb342, 3, none⟩) (Kd.R_far (p := ⟨gb342, 2, none⟩) (Kd.R_far (p := ⟨gb342, 1, none⟩) (Kd.R_far (p := ⟨gb342, 0, none⟩) (Kd.R_types HO_5.out BK342.out (by decide)) (fun _ hk => hk.2) (.int .i64 0)) (fun _ hk => hk.2) (.int .i64 0)) (fun _ hk => hk.2) (.int .i64 0)) (fun _ hk => hk.2) (.slice none 0 0)) (fun _ hk => hk.2) (.int .i64 (wrap64 (x6_1 + 1)))) (fun _ hk => trivial)))⟩; have n2_ : Aside0 (w15.heap[gb342]? = some (.cells #[.int .i64 0, .int .i64 0, .int .i64 0, .slice none 0 0, .int .i64 (wrap64 (x6_1 + 1))] 50 (0, 0))) := ⟨(by rw [hw]; exact (by (with_reducible repeat (first | refine blk_drewN ?_ _ | refine blk_drew ?_ | refine blk_alloc ?_ _)); refine blk_put (cs := #[.int .i64 0, .int .i64 0, .int .i64 0, .slice none 0 0, .int .i64 0]) ?_ 4 _ rfl; (with_reducible repeat (first | refine blk_drewN ?_ _ | refine blk_drew ?_ | refine blk_alloc ?_ _)); refine blk_put (cs := #[.int .i64 0, .int .i64 0, .int .i64 0, .slice none 0 0, .int .i64 0]) ?_ 3 _ rfl; (with_reducible repeat (first | refine blk_drewN ?_ _ | refine blk_drew ?_ | refine blk_alloc ?_ _)); refine blk_put (cs := #[.int .i64 0, .int .i64 0, .int .i64 0, .slice none 0 0, .int .i64 0]) ?_ 2 _ rfl; (with_reducible repeat (first | refine blk_drewN ?_ _ | refine blk_drew ?_ | refine blk_alloc ?_ _)); refine blk_put (cs := #[.int .i64 0, .int .i64 0, .int .i64 0, .slice none 0 0, .int .i64 0]) ?_ 1 _ rfl; (with_reducible repeat (first | refine blk_drewN ?_ _ | refine blk_drew ?_ | refine blk_alloc ?_ _)); refine blk_put (cs := #[.int .i64 0, .int .i64 0, .int .i64 0, .slice none 0 0, .int .i64 0]) ?_ 0 _ rfl; (with_reducible repeat (first | refine blk_drewN ?_ _ | refine blk_drew ?_ | refine blk_alloc ?_ _)); exact BK342.out))⟩; have n3_ : Aside0 (Below w.heap.size w w15) := ⟨(by rw [hw]; exact (by repeat (first | (with_reducible first | exact HB.out | apply below_alloc | apply pw_below_drewN | apply below_drew1 | refine below_set ?_ GE342.out) | exact HB.out)))⟩; clear hw; clear HO_4; clear HO_5; clear BK342; clear HB; have HO_4 := n0_; have HO_5 := n1_; have BK342 := n2_; have HB := n3_; clear n0_ n1_ n2_ n3_; have p343 : 0 ≤ (x6_1 : Int) := of_decide_eq_true (by first | (with_reducible assumption) | assumption); have q343 : x6_1 < (l0.length : Int) := of_decide_eq_true (by first | (with_reducible assumption) | assumption); obtain ⟨ad343, e343, hx343_0⟩ := Kd.at_int HR0.out x6_1 p343 q343; cases e343; replace hx343_0 := (HB.out.cell (World.block_lt_of_cell? w _ hx343_0)).trans hx343_0; replace p343 := eq_true p343; replace q343 := eq_true q343; have hcz16_0 : w15.cell? ⟨gb342, 0, none⟩ = some (.int .i64 0) := (blk_cell BK342.out 0).trans rfl; have hcz16_1 : w15.cell? ⟨gb342, 1, none⟩ = some (.int .i64 0) := (blk_cell BK342.out 1).trans rfl; have hcz16_2 : w15.cell? ⟨gb342, 2, none⟩ = some (.int .i64 0) := (blk_cell BK342.out 2).trans rfl; have hcz16_3 : w15.cell? ⟨gb342, 3, none⟩ = some (.slice none 0 0) := (blk_cell BK342.out 3).trans rfl; have hcz16_4 : w15.cell? ⟨gb342, 4, none⟩ = some (.int .i64 (wrap64 (x6_1 + 1))) := (blk_cell BK342.out 4).trans rfl; have hfz16_0 := blk_frozen BK342.out 0; have hfz16_1 := blk_frozen BK342.out 1; have hfz16_2 := blk_frozen BK342.out 2; have hfz16_3 := blk_frozen BK342.out 3; have hfz16_4 := blk_frozen BK342.out 4; obtain ⟨Ao17, co17, eo17⟩ := Kd.V_slice HO_4.out; subst eo17) | ((with_reducible refine gate_callee (f := 23) rfl ?_); refine goesL_ (some 37) rfl rfl Try.func23 (by kernel_rfl) rfl #[.slice Ao17 x4_1.length co17, .agg #[.int .i64 0, .int .i64 0, .int .i64 0, .slice none 0 0, .int .i64 (wrap64 (x6_1 + 1))]] rfl (by (try simp only [List.map_toArray, List.map_cons, List.map_nil]); first | done | rfl | (simp only [List.length_drop, List.length_take]; rfl)) ?_; (refine (nKeep.calls (fun k_ => (some k_ ≠ (u5 : Value).ownBlock ∧ k_ ≠ gb342)) _ _ x4_1 0 0 0 (fun k_ => False) _ _ ([] : List (S48)) (wrap64 (x6_1 + 1)) t344 _ ?side1 ?side2 A11.out).mono ?_); (case side1 => exact HO_4.out); (case side2 => exact Kd.V_nil _ _ _ _ _); rintro e w18 ⟨v345, rfl, ho0, hb⟩; refine ⟨_, rfl, ?_⟩; have n0_ := Aside0.mk (Kd.V_below (by (with_reducible repeat (first | apply Kd.V_alloc | apply Kd.V_drewN | apply Kd.V_drew)); exact HO_4.out) hb); have n1_ := Aside0.mk (Kd.R_below (by (with_reducible repeat (first | apply Kd.R_alloc | apply Kd.R_drewN | apply Kd.R_drew)); exact HO_5.out) hb); have n2_ := Aside0.mk (Kd.V_lower (Kd.V_mono (ok' := fun k_ => some k_ ≠ (u5 : Value).ownBlock ∧ k_ ≠ gb342) ho0 (fun k_ hk_ => ⟨Or.elim hk_ (fun hs_ => Or.elim hs_ (fun hs_ => hs_.1) (fun hs_ => (hs_).elim)) (fun hn_ => (Kd.fresh' (Kd.R_lt (by (with_reducible repeat (first | apply Kd.R_alloc | apply Kd.R_drewN | apply Kd.R_drew)); exact HO_5.out)) k_ hn_)), Or.elim hk_ (fun hs_ => Or.elim hs_ (fun hs_ => hs_.2) (fun hs_ => (hs_).elim)) (fun hn_ => (Kd.freshB (g := gb342) (o := .cells #[.int .i64 0, .int .i64 0, .int .i64 0, .slice none 0 0, .int .i64 (wrap64 (x6_1 + 1))] 50 (0, 0)) (by (with_reducible repeat (first | refine blk_drewN ?_ _ | refine blk_drew ?_ | refine blk_alloc ?_ _)); exact BK342.out) k_ hn_))⟩)) (below_size (by repeat (first | (with_reducible first | exact HB.out | apply below_alloc | apply pw_below_drewN | apply below_drew1 | refine below_set ?_ GE342.out) | exact HB.out)))); have n3_ := Aside0.mk (blk_below (g := gb342) (o := .cells #[.int .i64 0, .int .i64 0, .int .i64 0, .slice none 0 0, .int .i64 (wrap64 (x6_1 + 1))] 50 (0, 0)) (by (with_reducible repeat (first | refine blk_drewN ?_ _ | refine blk_drew ?_ | refine blk_alloc ?_ _)); exact BK342.out) hb); have n4_ := Aside0.mk (below_step (by repeat (first | (with_reducible first | exact HB.out | apply below_alloc | apply pw_below_drewN | apply below_drew1 | refine below_set ?_ GE342.out) | exact HB.out)) hb); clear HO_4; clear HO_5; clear BK342; clear HB; have HO_4 := n0_; have HO_5 := n1_; have HO346 := n2_; have BK342 := n3_; have HB := n4_; clear n0_ n1_ n2_ n3_ n4_; (try clear hb); (try clear hb2); (try clear hk); (try clear hi); (try clear ho0)) | ((with_reducible refine gate_builtin (b := .append) (xs := #[.tmp 38, .tmp 41]) rfl ?_); at_builtin; refine Kd.R_append (Kd.int .i64) (w0 := w) w.heap.size rfl (.tmp 38) (.tmp 41) 54 3 (.int .i64 0) 8 rfl Try.underlying54 info3 rfl (by decide) (by omega) u5 x5_1 (wrap64 (x6_1 + 1)) [.int .i64 (wrap64 (x6_1 + 1))] (fun _ => True) (fun _ => False) rfl rfl ?aP (fun _ hk => hk.elim) ?aF ?aO ?aB ?aS ?aL ?_; (case aP => exact rfl); (case aB => exact (by repeat (first | (with_reducible first | exact HB.out | apply below_alloc | apply pw_below_drewN | apply below_drew1 | refine below_set ?_ GE342.out) | exact HB.out))); (case aF => exact (fun _ _ => trivial)); (case aO => exact (by (with_reducible repeat (first | apply Kd.R_alloc | apply Kd.R_drewN | apply Kd.R_drew)); exact HO_5.out)); (case aS => exact (below_size (by repeat (first | (with_reducible first | exact HB.out | apply below_alloc | apply pw_below_drewN | apply below_drew1 | refine below_set ?_ GE342.out) | exact HB.out)))); (case aL => have := LMc12.out; omega); intro v348 w19 ho hb hg hat; rw [← Ny347.out] at ho; have n0_ := Aside0.mk (Kd.V_afterv (ok := (fun k_ => k_ ≠ gb342)) (by (with_reducible repeat (first | apply Kd.V_alloc | apply Kd.V_drewN | apply Kd.V_drew)); exact Kd.V_mono HO_4.out (fun _ hk => ⟨hk.2, hk.1⟩)) hg hat); have n1_ := Aside0.mk (blk_grown (g := gb342) (o := .cells #[.int .i64 0, .int .i64 0, .int .i64 0, .slice none 0 0, .int .i64 (wrap64 (x6_1 + 1))] 50 (0, 0)) (by (with_reducible repeat (first | refine blk_drewN ?_ _ | refine blk_drew ?_ | refine blk_alloc ?_ _)); exact BK342.out) hg (Kd.R_ne HO_5.out BK342.out (by decide))); have n2_ := Aside0.mk (Kd.V_afterv (ok := (fun k_ => k_ ≠ gb342)) (by (with_reducible repeat (first | apply Kd.V_alloc | apply Kd.V_drewN | apply Kd.V_drew)); exact Kd.V_mono HO346.out (fun _ hk => ⟨hk.2, hk.1⟩)) hg hat); have n3_ := Aside0.mk (hb); have n4_ := Aside0.mk (ho); clear HO_4; clear BK342; clear HO346; clear HB; clear HO_5; have HO_4 := n0_; have BK342 := n1_; have HO346 := n2_; have HB := n3_; have HO349 := n4_; clear n0_ n1_ n2_ n3_ n4_; clear ho hb hg hat))
  go_roundg k1
  case measure => have := HK1.out; omega
  case rel => exact ⟨(t344), (y347), (wrap64 (x6_1 + 1)), (by first | rfl | (simp; done) | (simp [*]; done)), H', ⟨by have := HK1.out; omega⟩, ⟨by (with_reducible repeat (first | apply Kd.V_alloc | apply Kd.V_drewN | apply Kd.V_drew)); exact Kd.V_mono HO346.out (fun _ hk => hk.2)⟩, ⟨by (with_reducible repeat (first | apply Kd.R_alloc | apply Kd.R_drewN | apply Kd.R_drew)); exact HO349.out⟩, ⟨by repeat (first | (with_reducible first | exact HB.out | apply below_alloc | apply pw_below_drewN | apply below_drew1 | refine below_set ?_ GE342.out) | exact HB.out)⟩⟩ }
  {
  rw [if_neg c12] at H
  exact absurd H (by simp) } }
  {
  rw [if_neg c10] at H
  have c10b0 : ((Int.tmod (rd l0 x6_1) 3) == 0) = false := beq_eq_false_iff_ne.mpr c10
  have c10b1 : ((Int.tmod (rd l0 x6_1) 3) != 0) = true := bne_iff_ne.mpr c10
  by_cases c20 : (Int.tmod (rd l0 x6_1) 3) = 1
  {
  rw [if_pos c20] at H
  have c20b0 : ((Int.tmod (rd l0 x6_1) 3) == 1) = true := beq_iff_eq.mpr c20
  have c20b1 : ((Int.tmod (rd l0 x6_1) 3) != 1) = false := bne_eq_false_iff_eq.mpr c20
  clear c20
  replace H := Option.bind_eq_some_iff.mp H
  obtain ⟨t350, A210, H⟩ := H
  replace H : ((nKeep.f t350 0 0 0 ([] : List (S48)) (wrap64 (x6_1 + 1))).bind fun t353 => ((nEnd.f t353).bind fun t356 => (if x5_1.length < 17592186044416 then (hallmootlaw13_NestUndo.l0 k1 l0 t338 t356 (x5_1 ++ [wrap64 (x6_1 + 1)]) (wrap64 (x6_1 + 1))) else (none)))) = some r := H
  have A21 := Aside0.mk A210
  clear A210
  replace H := Option.bind_eq_some_iff.mp H
  obtain ⟨t353, A220, H⟩ := H
  replace H : ((nEnd.f t353).bind fun t356 => (if x5_1.length < 17592186044416 then (hallmootlaw13_NestUndo.l0 k1 l0 t338 t356 (x5_1 ++ [wrap64 (x6_1 + 1)]) (wrap64 (x6_1 + 1))) else (none))) = some r := H
  have A22 := Aside0.mk A220
  clear A220
  replace H := Option.bind_eq_some_iff.mp H
  obtain ⟨t356, A230, H⟩ := H
  replace H : (if x5_1.length < 17592186044416 then (hallmootlaw13_NestUndo.l0 k1 l0 t338 t356 (x5_1 ++ [wrap64 (x6_1 + 1)]) (wrap64 (x6_1 + 1))) else (none)) = some r := H
  have A23 := Aside0.mk A230
  clear A230
  by_cases c24 : x5_1.length < 17592186044416
  {
  rw [if_pos c24] at H
  have LMc24 := Aside0.mk c24
  clear c24
  obtain ⟨y359, hy359⟩ : ∃ y_ : List Int, y_ = (x5_1 ++ [wrap64 (x6_1 + 1)]) := ⟨_, rfl⟩
  replace H : (hallmootlaw13_NestUndo.l0 k1 l0 t338 t356 y359 (wrap64 (x6_1 + 1))) = some r := by first | (rw [hy359]; with_reducible exact H) | (have H2_ := (Option.bind_some _ _).symm.trans H; rw [hy359]; with_reducible exact H2_) | (have H2_ := (Option.bind_some _ _).symm.trans H; with_reducible exact H2_) | with_reducible exact H | (rw [hy359]; exact H) | exact H
  have Ny359 := Aside0.mk hy359
  clear hy359
  have H' := Aside0.mk H
  clear H
  try go_wp2_with (first | ((with_reducible refine gate_dst (N := 7) rfl ?_); refine box_event ?hg (N := 7) ?hd (cs := #[.int .i64 0, .int .i64 0, .int .i64 0, .slice none 0 0, .int .i64 0]) (t := 50) ?hr ?_; (case hd => rfl); (case hg => rfl); (case hr => first | (go_simp; done) | (go_simp; rfl)); intro gb342 hg w25 hbox hb; have n0_ := Aside0.mk (Kd.V_below (Kd.V_elderB (by (with_reducible repeat (first | apply Kd.V_alloc | apply Kd.V_drewN | apply Kd.V_drew)); exact HO_4.out) gb342 (Nat.le_of_eq hg.symm)) hb); have n1_ := Aside0.mk (Kd.R_below (by (with_reducible repeat (first | apply Kd.R_alloc | apply Kd.R_drewN | apply Kd.R_drew)); exact HO_5.out) hb); have n2_ := Aside0.mk (below_step (by repeat (first | (with_reducible first | exact HB.out | apply below_alloc | apply pw_below_drewN | apply below_drew1) | exact HB.out)) hb); have n3_ := Aside0.mk (hbox); have n4_ := Aside0.mk ((by rw [hg]; exact (below_size (by repeat (first | (with_reducible first | exact HB.out | apply below_alloc | apply pw_below_drewN | apply below_drew1) | exact HB.out))) : w.heap.size ≤ gb342)); have n5_ := Aside0.mk ((by rw [hg]; exact (below_size (by repeat (first | (with_reducible first | exact HB.out | apply below_alloc | apply pw_below_drewN | apply below_drew1) | exact HB.out))) : w.heap.size ≤ gb342)); clear HO_4; clear HO_5; clear HB; have HO_4 := n0_; have HO_5 := n1_; have HB := n2_; have BK342 := n3_; have GW342 := n4_; have GE342 := n5_; clear n0_ n1_ n2_ n3_ n4_ n5_; clear hb hbox hg; have hcz26_0 : w25.cell? ⟨gb342, 0, none⟩ = some (.int .i64 0) := (blk_cell BK342.out 0).trans rfl; have hcz26_1 : w25.cell? ⟨gb342, 1, none⟩ = some (.int .i64 0) := (blk_cell BK342.out 1).trans rfl; have hcz26_2 : w25.cell? ⟨gb342, 2, none⟩ = some (.int .i64 0) := (blk_cell BK342.out 2).trans rfl; have hcz26_3 : w25.cell? ⟨gb342, 3, none⟩ = some (.slice none 0 0) := (blk_cell BK342.out 3).trans rfl; have hcz26_4 : w25.cell? ⟨gb342, 4, none⟩ = some (.int .i64 0) := (blk_cell BK342.out 4).trans rfl; have hfz26_0 := blk_frozen BK342.out 0; have hfz26_1 := blk_frozen BK342.out 1; have hfz26_2 := blk_frozen BK342.out 2; have hfz26_3 := blk_frozen BK342.out 3; have hfz26_4 := blk_frozen BK342.out 4; have p343 : 0 ≤ (x6_1 : Int) := of_decide_eq_true (by first | (with_reducible assumption) | assumption); have q343 : x6_1 < (l0.length : Int) := of_decide_eq_true (by first | (with_reducible assumption) | assumption); obtain ⟨ad343, e343, hx343_0⟩ := Kd.at_int HR0.out x6_1 p343 q343; cases e343; have hn343_0 : ad343.block ≠ gb342 := Nat.ne_of_lt (Nat.lt_of_lt_of_le (by have := World.block_lt_of_cell? _ _ hx343_0; first | rwa [add_block] at this | exact this) GW342.out); have hn343_1 : ad343.block ≠ gb342 := Nat.ne_of_lt (Nat.lt_of_lt_of_le (by have := World.block_lt_of_cell? _ _ hx343_0; first | rwa [add_block] at this | exact this) GW342.out); have hn343_2 : ad343.block ≠ gb342 := Nat.ne_of_lt (Nat.lt_of_lt_of_le (by have := World.block_lt_of_cell? _ _ hx343_0; first | rwa [add_block] at this | exact this) GW342.out); have hn343_3 : ad343.block ≠ gb342 := Nat.ne_of_lt (Nat.lt_of_lt_of_le (by have := World.block_lt_of_cell? _ _ hx343_0; first | rwa [add_block] at this | exact this) GW342.out); have hn343_4 : ad343.block ≠ gb342 := Nat.ne_of_lt (Nat.lt_of_lt_of_le (by have := World.block_lt_of_cell? _ _ hx343_0; first | rwa [add_block] at this | exact this) GW342.out); replace hx343_0 := (HB.out.cell (World.block_lt_of_cell? w _ hx343_0)).trans hx343_0; replace hx343_0 := (cell_far (p := ⟨gb342, 0, none⟩) (by first | (rw [add_block]; exact hn343_0) | (show (Addr.add _ _).block ≠ _; rw [add_block]; exact hn343_0) | exact hn343_0) (.int .i64 0)).trans hx343_0; replace hx343_0 := (cell_far (p := ⟨gb342, 1, none⟩) (by first | (rw [add_block]; exact hn343_1) | (show (Addr.add _ _).block ≠ _; rw [add_block]; exact hn343_1) | exact hn343_1) (.int .i64 0)).trans hx343_0; replace hx343_0 := (cell_far (p := ⟨gb342, 2, none⟩) (by first | (rw [add_block]; exact hn343_2) | (show (Addr.add _ _).block ≠ _; rw [add_block]; exact hn343_2) | exact hn343_2) (.int .i64 0)).trans hx343_0; replace hx343_0 := (cell_far (p := ⟨gb342, 3, none⟩) (by first | (rw [add_block]; exact hn343_3) | (show (Addr.add _ _).block ≠ _; rw [add_block]; exact hn343_3) | exact hn343_3) (.slice none 0 0)).trans hx343_0; replace hx343_0 := (cell_far (p := ⟨gb342, 4, none⟩) (by first | (rw [add_block]; exact hn343_4) | (show (Addr.add _ _).block ≠ _; rw [add_block]; exact hn343_4) | exact hn343_4) (.int .i64 (wrap64 (x6_1 + 1)))).trans hx343_0; clear hn343_0; clear hn343_1; clear hn343_2; clear hn343_3; clear hn343_4; replace p343 := eq_true p343; replace q343 := eq_true q343))
  have n0_ : Aside0 (Kd.V k62 62 (((((w25.setCell ⟨gb342, 0, none⟩ (.int .i64 0)).setCell ⟨gb342, 1, none⟩ (.int .i64 0)).setCell ⟨gb342, 2, none⟩ (.int .i64 0)).setCell ⟨gb342, 3, none⟩ (.slice none 0 0)).setCell ⟨gb342, 4, none⟩ (.int .i64 (wrap64 (x6_1 + 1)))) w.heap.size (fun k_ => some k_ ≠ (u5 : Value).ownBlock ∧ k_ ≠ gb342) u4 x4_1) := ⟨by (with_reducible repeat (first | apply Kd.V_alloc | apply Kd.V_drewN | apply Kd.V_drew)); exact Kd.V_mono (Kd.V_far (p := ⟨gb342, 4, none⟩) (Kd.V_far (p := ⟨gb342, 3, none⟩) (Kd.V_far (p := ⟨gb342, 2, none⟩) (Kd.V_far (p := ⟨gb342, 1, none⟩) (Kd.V_far (p := ⟨gb342, 0, none⟩) (Kd.V_mono HO_4.out (fun k_ hk => (⟨hk, hk.2⟩ : _ ∧ k_ ≠ gb342))) (fun _ hk => hk.2) (.int .i64 0)) (fun _ hk => hk.2) (.int .i64 0)) (fun _ hk => hk.2) (.int .i64 0)) (fun _ hk => hk.2) (.slice none 0 0)) (fun _ hk => hk.2) (.int .i64 (wrap64 (x6_1 + 1)))) (fun _ hk => ⟨hk.1.1, hk.1.2⟩)⟩
  have n1_ : Aside0 (Kd.R (Kd.int .i64) 3 (((((w25.setCell ⟨gb342, 0, none⟩ (.int .i64 0)).setCell ⟨gb342, 1, none⟩ (.int .i64 0)).setCell ⟨gb342, 2, none⟩ (.int .i64 0)).setCell ⟨gb342, 3, none⟩ (.slice none 0 0)).setCell ⟨gb342, 4, none⟩ (.int .i64 (wrap64 (x6_1 + 1)))) w.heap.size (fun _ => True) u5 x5_1) := ⟨by (with_reducible repeat (first | apply Kd.R_alloc | apply Kd.R_drewN | apply Kd.R_drew)); exact Kd.R_mono (Kd.R_far (p := ⟨gb342, 4, none⟩) (Kd.R_far (p := ⟨gb342, 3, none⟩) (Kd.R_far (p := ⟨gb342, 2, none⟩) (Kd.R_far (p := ⟨gb342, 1, none⟩) (Kd.R_far (p := ⟨gb342, 0, none⟩) (Kd.R_types HO_5.out BK342.out (by decide)) (fun _ hk => hk.2) (.int .i64 0)) (fun _ hk => hk.2) (.int .i64 0)) (fun _ hk => hk.2) (.int .i64 0)) (fun _ hk => hk.2) (.slice none 0 0)) (fun _ hk => hk.2) (.int .i64 (wrap64 (x6_1 + 1)))) (fun _ hk => trivial)⟩
  have n2_ : Aside0 ((((((w25.setCell ⟨gb342, 0, none⟩ (.int .i64 0)).setCell ⟨gb342, 1, none⟩ (.int .i64 0)).setCell ⟨gb342, 2, none⟩ (.int .i64 0)).setCell ⟨gb342, 3, none⟩ (.slice none 0 0)).setCell ⟨gb342, 4, none⟩ (.int .i64 (wrap64 (x6_1 + 1)))).heap[gb342]? = some (.cells #[.int .i64 0, .int .i64 0, .int .i64 0, .slice none 0 0, .int .i64 (wrap64 (x6_1 + 1))] 50 (0, 0))) := ⟨by (with_reducible repeat (first | refine blk_drewN ?_ _ | refine blk_drew ?_ | refine blk_alloc ?_ _)); refine blk_put (cs := #[.int .i64 0, .int .i64 0, .int .i64 0, .slice none 0 0, .int .i64 0]) ?_ 4 _ rfl; (with_reducible repeat (first | refine blk_drewN ?_ _ | refine blk_drew ?_ | refine blk_alloc ?_ _)); refine blk_put (cs := #[.int .i64 0, .int .i64 0, .int .i64 0, .slice none 0 0, .int .i64 0]) ?_ 3 _ rfl; (with_reducible repeat (first | refine blk_drewN ?_ _ | refine blk_drew ?_ | refine blk_alloc ?_ _)); refine blk_put (cs := #[.int .i64 0, .int .i64 0, .int .i64 0, .slice none 0 0, .int .i64 0]) ?_ 2 _ rfl; (with_reducible repeat (first | refine blk_drewN ?_ _ | refine blk_drew ?_ | refine blk_alloc ?_ _)); refine blk_put (cs := #[.int .i64 0, .int .i64 0, .int .i64 0, .slice none 0 0, .int .i64 0]) ?_ 1 _ rfl; (with_reducible repeat (first | refine blk_drewN ?_ _ | refine blk_drew ?_ | refine blk_alloc ?_ _)); refine blk_put (cs := #[.int .i64 0, .int .i64 0, .int .i64 0, .slice none 0 0, .int .i64 0]) ?_ 0 _ rfl; (with_reducible repeat (first | refine blk_drewN ?_ _ | refine blk_drew ?_ | refine blk_alloc ?_ _)); exact BK342.out⟩
  have n3_ : Aside0 (Below w.heap.size w (((((w25.setCell ⟨gb342, 0, none⟩ (.int .i64 0)).setCell ⟨gb342, 1, none⟩ (.int .i64 0)).setCell ⟨gb342, 2, none⟩ (.int .i64 0)).setCell ⟨gb342, 3, none⟩ (.slice none 0 0)).setCell ⟨gb342, 4, none⟩ (.int .i64 (wrap64 (x6_1 + 1))))) := ⟨by repeat (first | (with_reducible first | exact HB.out | apply below_alloc | apply pw_below_drewN | apply below_drew1 | refine below_set ?_ GE342.out) | exact HB.out)⟩
  (try clear HO_4)
  (try clear HO_5)
  (try clear BK342)
  (try clear HB)
  generalize (((((w25.setCell ⟨gb342, 0, none⟩ (.int .i64 0)).setCell ⟨gb342, 1, none⟩ (.int .i64 0)).setCell ⟨gb342, 2, none⟩ (.int .i64 0)).setCell ⟨gb342, 3, none⟩ (.slice none 0 0)).setCell ⟨gb342, 4, none⟩ (.int .i64 (wrap64 (x6_1 + 1)))) = w27 at n0_ n1_ n2_ n3_ ⊢
  have HO_4 := n0_
  have HO_5 := n1_
  have BK342 := n2_
  have HB := n3_
  clear n0_ n1_ n2_ n3_
  have n0_ := Aside0.mk (Kd.V_drew HO_4.out)
  have n1_ := Aside0.mk (Kd.R_drew HO_5.out)
  have n2_ := Aside0.mk (blk_drew BK342.out)
  have n3_ := Aside0.mk (below_drew1 HB.out)
  clear HO_4
  clear HO_5
  clear BK342
  clear HB
  have HO_4 := n0_
  have HO_5 := n1_
  have BK342 := n2_
  have HB := n3_
  clear n0_ n1_ n2_ n3_
  obtain ⟨Ao29, co29, eo29⟩ := Kd.V_slice HO_4.out
  (first | subst eo29 | (injection eo29 with f1_ f2_ f3_; have f4_ := f1_.symm; have f5_ := f3_.symm; clear f1_ f2_ f3_; subst f4_; subst f5_))
  refine start_ (n := 6) (S := fun w' => w'.cell? ⟨gb342, 0, none⟩ = some (.int .i64 0) ∧ w'.cell? ⟨gb342, 1, none⟩ = some (.int .i64 0) ∧ w'.cell? ⟨gb342, 2, none⟩ = some (.int .i64 0) ∧ w'.cell? ⟨gb342, 3, none⟩ = some (.slice none 0 0) ∧ w'.cell? ⟨gb342, 4, none⟩ = some (.int .i64 (wrap64 (x6_1 + 1)))) (ds := []) #[false, false, false, false, false, false] (by kernel_rfl) rfl rfl ⟨(blk_cell BK342.out 0).trans rfl, (blk_cell BK342.out 1).trans rfl, (blk_cell BK342.out 2).trans rfl, (blk_cell BK342.out 3).trans rfl, (blk_cell BK342.out 4).trans rfl⟩ (fun hHeld => ?_)
  generalize w27.drew = w28 at HO_4 HO_5 BK342 HB hHeld ⊢
  refine pure_ (i := 0) (N := some 45) (v := ?_) (a' := ?_) #[true, false, false, false, false, false] rfl rfl (by kernel_rfl) (fun _ _ _ h => h) (Or.inl ⟨by rfl, ?_⟩) ?_ ?_
  rotate_left
  {
  intro w'
  go_simp
  with_reducible rfl }
  rotate_left
  {
  simp only [Act.put, List.setIfInBounds_toArray, List.set_cons_zero, List.set_cons_succ, i64_w, i32_w]
  rfl }
  refine take_ (i := 2) (N := some 47) (v := ?_) (a' := ?_) #[true, false, true, false, false, false] rfl rfl (by kernel_rfl) (fun _ _ _ h => h) (Or.inl ⟨by rfl, ?_⟩) hHeld ?_ ?_
  rotate_left
  {
  rintro w' ⟨s0, s1, s2, s3, s4⟩
  go_simp
  with_reducible rfl }
  rotate_left
  {
  simp only [Act.put, List.setIfInBounds_toArray, List.set_cons_zero, List.set_cons_succ, i64_w, i32_w]
  rfl }
  refine one_ (i := 1) (N := some 46) #[true, true, true, false, false, false] rfl rfl (by kernel_rfl) (by decide) (fun K hK => ?_)
  refine goes_ Try.func12 (by kernel_rfl) rfl #[.slice Ao29 x4_1.length co29] (by rfl) rfl rfl (by (try simp only [List.map_toArray, List.map_cons, List.map_nil]); first | done | rfl | (simp only [List.length_drop, List.length_take]; rfl)) ?_
  with_reducible refine (nBegin.calls (fun k_ => (some k_ ≠ (u5 : Value).ownBlock ∧ k_ ≠ gb342)) _ _ x4_1 t350 _ ?side1 A21.out).mono ?_
  (case side1 => exact HO_4.out)
  rintro e w30 ⟨v351, rfl, ho0, hb⟩
  refine ⟨_, rfl, ?_⟩
  have n0_ := Aside0.mk (Kd.V_below (by (with_reducible repeat (first | apply Kd.V_alloc | apply Kd.V_drewN | apply Kd.V_drew)); exact HO_4.out) hb)
  have n1_ := Aside0.mk (Kd.R_below (by (with_reducible repeat (first | apply Kd.R_alloc | apply Kd.R_drewN | apply Kd.R_drew)); exact HO_5.out) hb)
  have n2_ := Aside0.mk (Kd.V_lower (Kd.V_mono (ok' := fun k_ => some k_ ≠ (u5 : Value).ownBlock ∧ k_ ≠ gb342) ho0 (fun k_ hk_ => ⟨Or.elim hk_ (fun hs_ => hs_.1) (fun hn_ => (Kd.fresh' (Kd.R_lt (by (with_reducible repeat (first | apply Kd.R_alloc | apply Kd.R_drewN | apply Kd.R_drew)); exact HO_5.out)) k_ hn_)), Or.elim hk_ (fun hs_ => hs_.2) (fun hn_ => (Kd.freshB (g := gb342) (o := .cells #[.int .i64 0, .int .i64 0, .int .i64 0, .slice none 0 0, .int .i64 (wrap64 (x6_1 + 1))] 50 (0, 0)) (by (with_reducible repeat (first | refine blk_drewN ?_ _ | refine blk_drew ?_ | refine blk_alloc ?_ _)); exact BK342.out) k_ hn_))⟩)) (below_size (by repeat (first | (with_reducible first | exact HB.out | apply below_alloc | apply pw_below_drewN | apply below_drew1 | refine below_set ?_ GE342.out) | exact HB.out))))
  have n3_ := Aside0.mk (blk_below (g := gb342) (o := .cells #[.int .i64 0, .int .i64 0, .int .i64 0, .slice none 0 0, .int .i64 (wrap64 (x6_1 + 1))] 50 (0, 0)) (by (with_reducible repeat (first | refine blk_drewN ?_ _ | refine blk_drew ?_ | refine blk_alloc ?_ _)); exact BK342.out) hb)
  have n4_ := Aside0.mk (below_step (by repeat (first | (with_reducible first | exact HB.out | apply below_alloc | apply pw_below_drewN | apply below_drew1 | refine below_set ?_ GE342.out) | exact HB.out)) hb)
  clear HO_4
  clear HO_5
  clear BK342
  clear HB
  have HO_4 := n0_
  have HO_5 := n1_
  have HO352 := n2_
  have BK342 := n3_
  have HB := n4_
  clear n0_ n1_ n2_ n3_ n4_
  (try clear hb)
  (try clear hb2)
  (try clear hk)
  (try clear hi)
  (try clear ho0)
  obtain ⟨Ao31, co31, eo31⟩ := Kd.V_slice HO352.out
  (first | subst eo31 | (injection eo31 with f1_ f2_ f3_; have f4_ := f1_.symm; have f5_ := f3_.symm; clear f1_ f2_ f3_; subst f4_; subst f5_))
  refine hK.out _ _ ⟨(blk_cell BK342.out 0).trans rfl, (blk_cell BK342.out 1).trans rfl, (blk_cell BK342.out 2).trans rfl, (blk_cell BK342.out 3).trans rfl, (blk_cell BK342.out 4).trans rfl⟩ (fun hHeld => ?_)
  clear hK K
  refine norm_ (a' := ?_) ?_ ?_
  rotate_left
  {
  show Act.put _ (some 46) _ = _
  simp only [Act.put, List.setIfInBounds_toArray, List.set_cons_zero, List.set_cons_succ, i64_w, i32_w]
  rfl }
  refine one_ (i := 3) (N := some 48) #[true, true, true, true, false, false] rfl rfl (by kernel_rfl) (by decide) (fun K hK => ?_)
  refine goes_ Try.func23 (by kernel_rfl) rfl #[.slice Ao31 t350.length co31, .agg #[.int .i64 0, .int .i64 0, .int .i64 0, .slice none 0 0, .int .i64 (wrap64 (x6_1 + 1))]] (by rfl) rfl rfl (by (try simp only [List.map_toArray, List.map_cons, List.map_nil]); first | done | rfl | (simp only [List.length_drop, List.length_take]; rfl)) ?_
  refine (nKeep.calls (fun k_ => (some k_ ≠ (u5 : Value).ownBlock ∧ k_ ≠ gb342)) _ _ t350 0 0 0 (fun k_ => False) _ _ ([] : List (S48)) (wrap64 (x6_1 + 1)) t353 _ ?side1 ?side2 A22.out).mono ?_
  (case side1 => exact HO352.out)
  (case side2 => exact Kd.V_nil _ _ _ _ _)
  rintro e w32 ⟨v354, rfl, ho0, hb⟩
  refine ⟨_, rfl, ?_⟩
  have n0_ := Aside0.mk (Kd.V_below (by (with_reducible repeat (first | apply Kd.V_alloc | apply Kd.V_drewN | apply Kd.V_drew)); exact HO_4.out) hb)
  have n1_ := Aside0.mk (Kd.R_below (by (with_reducible repeat (first | apply Kd.R_alloc | apply Kd.R_drewN | apply Kd.R_drew)); exact HO_5.out) hb)
  have n2_ := Aside0.mk (Kd.V_below (by (with_reducible repeat (first | apply Kd.V_alloc | apply Kd.V_drewN | apply Kd.V_drew)); exact HO352.out) hb)
  have n3_ := Aside0.mk (Kd.V_lower (Kd.V_mono (ok' := fun k_ => some k_ ≠ (u5 : Value).ownBlock ∧ k_ ≠ gb342) ho0 (fun k_ hk_ => ⟨Or.elim hk_ (fun hs_ => Or.elim hs_ (fun hs_ => hs_.1) (fun hs_ => (hs_).elim)) (fun hn_ => (Kd.fresh' (Kd.R_lt (by (with_reducible repeat (first | apply Kd.R_alloc | apply Kd.R_drewN | apply Kd.R_drew)); exact HO_5.out)) k_ hn_)), Or.elim hk_ (fun hs_ => Or.elim hs_ (fun hs_ => hs_.2) (fun hs_ => (hs_).elim)) (fun hn_ => (Kd.freshB (g := gb342) (o := .cells #[.int .i64 0, .int .i64 0, .int .i64 0, .slice none 0 0, .int .i64 (wrap64 (x6_1 + 1))] 50 (0, 0)) (by (with_reducible repeat (first | refine blk_drewN ?_ _ | refine blk_drew ?_ | refine blk_alloc ?_ _)); exact BK342.out) k_ hn_))⟩)) (below_size (by repeat (first | (with_reducible first | exact HB.out | apply below_alloc | apply pw_below_drewN | apply below_drew1 | refine below_set ?_ GE342.out) | exact HB.out))))
  have n4_ := Aside0.mk (blk_below (g := gb342) (o := .cells #[.int .i64 0, .int .i64 0, .int .i64 0, .slice none 0 0, .int .i64 (wrap64 (x6_1 + 1))] 50 (0, 0)) (by (with_reducible repeat (first | refine blk_drewN ?_ _ | refine blk_drew ?_ | refine blk_alloc ?_ _)); exact BK342.out) hb)
  have n5_ := Aside0.mk (below_step (by repeat (first | (with_reducible first | exact HB.out | apply below_alloc | apply pw_below_drewN | apply below_drew1 | refine below_set ?_ GE342.out) | exact HB.out)) hb)
  clear HO_4
  clear HO_5
  clear HO352
  clear BK342
  clear HB
  have HO_4 := n0_
  have HO_5 := n1_
  have HO352 := n2_
  have HO355 := n3_
  have BK342 := n4_
  have HB := n5_
  clear n0_ n1_ n2_ n3_ n4_ n5_
  (try clear hb)
  (try clear hb2)
  (try clear hk)
  (try clear hi)
  (try clear ho0)
  obtain ⟨Ao33, co33, eo33⟩ := Kd.V_slice HO355.out
  (first | subst eo33 | (injection eo33 with f1_ f2_ f3_; have f4_ := f1_.symm; have f5_ := f3_.symm; clear f1_ f2_ f3_; subst f4_; subst f5_))
  refine hK.out _ _ ⟨(blk_cell BK342.out 0).trans rfl, (blk_cell BK342.out 1).trans rfl, (blk_cell BK342.out 2).trans rfl, (blk_cell BK342.out 3).trans rfl, (blk_cell BK342.out 4).trans rfl⟩ (fun hHeld => ?_)
  clear hK K
  refine norm_ (a' := ?_) ?_ ?_
  rotate_left
  {
  show Act.put _ (some 48) _ = _
  simp only [Act.put, List.setIfInBounds_toArray, List.set_cons_zero, List.set_cons_succ, i64_w, i32_w]
  rfl }
  refine one_ (i := 4) (N := some 49) #[true, true, true, true, true, false] rfl rfl (by kernel_rfl) (by decide) (fun K hK => ?_)
  refine goes_ Try.func15 (by kernel_rfl) rfl #[.slice Ao33 t353.length co33] (by rfl) rfl rfl (by (try simp only [List.map_toArray, List.map_cons, List.map_nil]); first | done | rfl | (simp only [List.length_drop, List.length_take]; rfl)) ?_
  with_reducible refine (nEnd.calls (fun k_ => (some k_ ≠ (u5 : Value).ownBlock ∧ k_ ≠ gb342)) _ _ t353 t356 _ ?side1 A23.out).mono ?_
  (case side1 => exact HO355.out)
  rintro e w34 ⟨v357, rfl, ho0, hb⟩
  refine ⟨_, rfl, ?_⟩
  have n0_ := Aside0.mk (Kd.V_below (by (with_reducible repeat (first | apply Kd.V_alloc | apply Kd.V_drewN | apply Kd.V_drew)); exact HO_4.out) hb)
  have n1_ := Aside0.mk (Kd.R_below (by (with_reducible repeat (first | apply Kd.R_alloc | apply Kd.R_drewN | apply Kd.R_drew)); exact HO_5.out) hb)
  have n2_ := Aside0.mk (Kd.V_below (by (with_reducible repeat (first | apply Kd.V_alloc | apply Kd.V_drewN | apply Kd.V_drew)); exact HO352.out) hb)
  have n3_ := Aside0.mk (Kd.V_below (by (with_reducible repeat (first | apply Kd.V_alloc | apply Kd.V_drewN | apply Kd.V_drew)); exact HO355.out) hb)
  have n4_ := Aside0.mk (Kd.V_lower (Kd.V_mono (ok' := fun k_ => some k_ ≠ (u5 : Value).ownBlock ∧ k_ ≠ gb342) ho0 (fun k_ hk_ => ⟨Or.elim hk_ (fun hs_ => hs_.1) (fun hn_ => (Kd.fresh' (Kd.R_lt (by (with_reducible repeat (first | apply Kd.R_alloc | apply Kd.R_drewN | apply Kd.R_drew)); exact HO_5.out)) k_ hn_)), Or.elim hk_ (fun hs_ => hs_.2) (fun hn_ => (Kd.freshB (g := gb342) (o := .cells #[.int .i64 0, .int .i64 0, .int .i64 0, .slice none 0 0, .int .i64 (wrap64 (x6_1 + 1))] 50 (0, 0)) (by (with_reducible repeat (first | refine blk_drewN ?_ _ | refine blk_drew ?_ | refine blk_alloc ?_ _)); exact BK342.out) k_ hn_))⟩)) (below_size (by repeat (first | (with_reducible first | exact HB.out | apply below_alloc | apply pw_below_drewN | apply below_drew1 | refine below_set ?_ GE342.out) | exact HB.out))))
  have n5_ := Aside0.mk (blk_below (g := gb342) (o := .cells #[.int .i64 0, .int .i64 0, .int .i64 0, .slice none 0 0, .int .i64 (wrap64 (x6_1 + 1))] 50 (0, 0)) (by (with_reducible repeat (first | refine blk_drewN ?_ _ | refine blk_drew ?_ | refine blk_alloc ?_ _)); exact BK342.out) hb)
  have n6_ := Aside0.mk (below_step (by repeat (first | (with_reducible first | exact HB.out | apply below_alloc | apply pw_below_drewN | apply below_drew1 | refine below_set ?_ GE342.out) | exact HB.out)) hb)
  clear HO_4
  clear HO_5
  clear HO352
  clear HO355
  clear BK342
  clear HB
  have HO_4 := n0_
  have HO_5 := n1_
  have HO352 := n2_
  have HO355 := n3_
  have HO358 := n4_
  have BK342 := n5_
  have HB := n6_
  clear n0_ n1_ n2_ n3_ n4_ n5_ n6_
  (try clear hb)
  (try clear hb2)
  (try clear hk)
  (try clear hi)
  (try clear ho0)
  refine hK.out _ _ ⟨(blk_cell BK342.out 0).trans rfl, (blk_cell BK342.out 1).trans rfl, (blk_cell BK342.out 2).trans rfl, (blk_cell BK342.out 3).trans rfl, (blk_cell BK342.out 4).trans rfl⟩ (fun hHeld => ?_)
  clear hK K
  refine norm_ (a' := ?_) ?_ ?_
  rotate_left
  {
  show Act.put _ (some 49) _ = _
  simp only [Act.put, List.setIfInBounds_toArray, List.set_cons_zero, List.set_cons_succ, i64_w, i32_w]
  rfl }
  refine pure_ (i := 5) (N := some 4) (v := ?_) (a' := ?_) #[true, true, true, true, true, true] rfl rfl (by kernel_rfl) (fun _ _ _ h => h) (Or.inl ⟨by rfl, ?_⟩) ?_ ?_
  rotate_left
  {
  intro w'
  go_simp
  with_reducible rfl }
  rotate_left
  {
  simp only [Act.put, List.setIfInBounds_toArray, List.set_cons_zero, List.set_cons_succ, i64_w, i32_w]
  rfl }
  refine done_ (by kernel_rfl) ?_
  try go_wp2_with (first | ((with_reducible refine gate_builtin (b := .append) (xs := #[.tmp 50, .tmp 53]) rfl ?_); at_builtin; refine Kd.R_append (Kd.int .i64) (w0 := w) w.heap.size rfl (.tmp 50) (.tmp 53) 54 3 (.int .i64 0) 8 rfl Try.underlying54 info3 rfl (by decide) (by omega) u5 x5_1 (wrap64 (x6_1 + 1)) [.int .i64 (wrap64 (x6_1 + 1))] (fun _ => True) (fun _ => False) rfl rfl ?aP (fun _ hk => hk.elim) ?aF ?aO ?aB ?aS ?aL ?_; (case aP => exact rfl); (case aB => exact (by repeat (first | (with_reducible first | exact HB.out | apply below_alloc | apply pw_below_drewN | apply below_drew1 | refine below_set ?_ GE342.out) | exact HB.out))); (case aF => exact (fun _ _ => trivial)); (case aO => exact (by (with_reducible repeat (first | apply Kd.R_alloc | apply Kd.R_drewN | apply Kd.R_drew)); exact HO_5.out)); (case aS => exact (below_size (by repeat (first | (with_reducible first | exact HB.out | apply below_alloc | apply pw_below_drewN | apply below_drew1 | refine below_set ?_ GE342.out) | exact HB.out)))); (case aL => have := LMc24.out; omega); intro v360 w35 ho hb hg hat; rw [← Ny359.out] at ho; have n0_ := Aside0.mk (Kd.V_afterv (ok := (fun k_ => k_ ≠ gb342)) (by (with_reducible repeat (first | apply Kd.V_alloc | apply Kd.V_drewN | apply Kd.V_drew)); exact Kd.V_mono HO_4.out (fun _ hk => ⟨hk.2, hk.1⟩)) hg hat); have n1_ := Aside0.mk (blk_grown (g := gb342) (o := .cells #[.int .i64 0, .int .i64 0, .int .i64 0, .slice none 0 0, .int .i64 (wrap64 (x6_1 + 1))] 50 (0, 0)) (by (with_reducible repeat (first | refine blk_drewN ?_ _ | refine blk_drew ?_ | refine blk_alloc ?_ _)); exact BK342.out) hg (Kd.R_ne HO_5.out BK342.out (by decide))); have n2_ := Aside0.mk (Kd.V_afterv (ok := (fun k_ => k_ ≠ gb342)) (by (with_reducible repeat (first | apply Kd.V_alloc | apply Kd.V_drewN | apply Kd.V_drew)); exact Kd.V_mono HO352.out (fun _ hk => ⟨hk.2, hk.1⟩)) hg hat); have n3_ := Aside0.mk (Kd.V_afterv (ok := (fun k_ => k_ ≠ gb342)) (by (with_reducible repeat (first | apply Kd.V_alloc | apply Kd.V_drewN | apply Kd.V_drew)); exact Kd.V_mono HO355.out (fun _ hk => ⟨hk.2, hk.1⟩)) hg hat); have n4_ := Aside0.mk (Kd.V_afterv (ok := (fun k_ => k_ ≠ gb342)) (by (with_reducible repeat (first | apply Kd.V_alloc | apply Kd.V_drewN | apply Kd.V_drew)); exact Kd.V_mono HO358.out (fun _ hk => ⟨hk.2, hk.1⟩)) hg hat); have n5_ := Aside0.mk (hb); have n6_ := Aside0.mk (ho); clear HO_4; clear BK342; clear HO352; clear HO355; clear HO358; clear HB; clear HO_5; have HO_4 := n0_; have BK342 := n1_; have HO352 := n2_; have HO355 := n3_; have HO358 := n4_; have HB := n5_; have HO361 := n6_; clear n0_ n1_ n2_ n3_ n4_ n5_ n6_; clear ho hb hg hat))
  go_roundg k1
  case measure => have := HK1.out; omega
  case rel => exact ⟨(t356), (y359), (wrap64 (x6_1 + 1)), (by first | rfl | (simp; done) | (simp [*]; done)), H', ⟨by have := HK1.out; omega⟩, ⟨by (with_reducible repeat (first | apply Kd.V_alloc | apply Kd.V_drewN | apply Kd.V_drew)); exact Kd.V_mono HO358.out (fun _ hk => hk.2)⟩, ⟨by (with_reducible repeat (first | apply Kd.R_alloc | apply Kd.R_drewN | apply Kd.R_drew)); exact HO361.out⟩, ⟨by repeat (first | (with_reducible first | exact HB.out | apply below_alloc | apply pw_below_drewN | apply below_drew1 | refine below_set ?_ GE342.out) | exact HB.out)⟩⟩ }
  {
  rw [if_neg c24] at H
  exact absurd H (by simp) } }
  {
  rw [if_neg c20] at H
  have c20b0 : ((Int.tmod (rd l0 x6_1) 3) == 1) = false := beq_eq_false_iff_ne.mpr c20
  have c20b1 : ((Int.tmod (rd l0 x6_1) 3) != 1) = true := bne_iff_ne.mpr c20
  by_cases c36 : (Int.tmod (rd l0 x6_1) 3) = 2
  {
  rw [if_pos c36] at H
  have c36b0 : ((Int.tmod (rd l0 x6_1) 3) == 2) = true := beq_iff_eq.mpr c36
  have c36b1 : ((Int.tmod (rd l0 x6_1) 3) != 2) = false := bne_eq_false_iff_eq.mpr c36
  clear c36
  replace H := Option.bind_eq_some_iff.mp H
  obtain ⟨t362, A370, H⟩ := H
  replace H : ((nKeep.f t362 0 0 0 ([] : List (S48)) (wrap64 (x6_1 + 1))).bind fun t365 => ((nDrop.f t365).bind fun bt368 => ((hallmootref13_Undos.f k1 bt368.2 (([(⟨(⟨0, 0, 0, ([] : List (S48))⟩ : S48), wrap64 (x6_1 + 1)⟩ : S50)] : List (S50)))).bind fun t377 => (if t377 = true then (hallmootlaw13_NestUndo.l0 k1 l0 t338 bt368.1 x5_1 (wrap64 (x6_1 + 1))) else (none))))) = some r := H
  have A37 := Aside0.mk A370
  clear A370
  replace H := Option.bind_eq_some_iff.mp H
  obtain ⟨t365, A380, H⟩ := H
  replace H : ((nDrop.f t365).bind fun bt368 => ((hallmootref13_Undos.f k1 bt368.2 (([(⟨(⟨0, 0, 0, ([] : List (S48))⟩ : S48), wrap64 (x6_1 + 1)⟩ : S50)] : List (S50)))).bind fun t377 => (if t377 = true then (hallmootlaw13_NestUndo.l0 k1 l0 t338 bt368.1 x5_1 (wrap64 (x6_1 + 1))) else (none)))) = some r := H
  have A38 := Aside0.mk A380
  clear A380
  replace H := Option.bind_eq_some_iff.mp H
  obtain ⟨⟨t368, t371⟩, A390, H⟩ := H
  replace H : ((hallmootref13_Undos.f k1 t371 (([(⟨(⟨0, 0, 0, ([] : List (S48))⟩ : S48), wrap64 (x6_1 + 1)⟩ : S50)] : List (S50)))).bind fun t377 => (if t377 = true then (hallmootlaw13_NestUndo.l0 k1 l0 t338 t368 x5_1 (wrap64 (x6_1 + 1))) else (none))) = some r := H
  have A39 := Aside0.mk A390
  clear A390
  obtain ⟨y374, hy374⟩ : ∃ y_ : List (S50), y_ = (([(⟨(⟨0, 0, 0, ([] : List (S48))⟩ : S48), wrap64 (x6_1 + 1)⟩ : S50)] : List (S50))) := ⟨_, rfl⟩
  replace H : ((hallmootref13_Undos.f k1 t371 y374).bind fun t377 => (if t377 = true then (hallmootlaw13_NestUndo.l0 k1 l0 t338 t368 x5_1 (wrap64 (x6_1 + 1))) else (none))) = some r := by first | (rw [hy374]; with_reducible exact H) | (have H2_ := (Option.bind_some _ _).symm.trans H; rw [hy374]; with_reducible exact H2_) | (have H2_ := (Option.bind_some _ _).symm.trans H; with_reducible exact H2_) | with_reducible exact H | (rw [hy374]; exact H) | exact H
  have Ny374 := Aside0.mk hy374
  clear hy374
  replace H := Option.bind_eq_some_iff.mp H
  obtain ⟨t377, A400, H⟩ := H
  replace H : (if t377 = true then (hallmootlaw13_NestUndo.l0 k1 l0 t338 t368 x5_1 (wrap64 (x6_1 + 1))) else (none)) = some r := H
  have A40 := Aside0.mk A400
  clear A400
  by_cases c41 : t377 = true
  {
  subst c41
  have H1 : (hallmootlaw13_NestUndo.l0 k1 l0 t338 t368 x5_1 (wrap64 (x6_1 + 1))) = some r := by rw [if_pos rfl] at H; exact H
  clear H
  have H := H1
  clear H1
  have H' := Aside0.mk H
  clear H
  try go_wp2_with (first | ((with_reducible refine gate_dst (N := 7) rfl ?_); refine box_event ?hg (N := 7) ?hd (cs := #[.int .i64 0, .int .i64 0, .int .i64 0, .slice none 0 0, .int .i64 0]) (t := 50) ?hr ?_; (case hd => rfl); (case hg => rfl); (case hr => first | (go_simp; done) | (go_simp; rfl)); intro gb342 hg w42 hbox hb; have n0_ := Aside0.mk (Kd.V_below (Kd.V_elderB (by (with_reducible repeat (first | apply Kd.V_alloc | apply Kd.V_drewN | apply Kd.V_drew)); exact HO_4.out) gb342 (Nat.le_of_eq hg.symm)) hb); have n1_ := Aside0.mk (Kd.R_below (by (with_reducible repeat (first | apply Kd.R_alloc | apply Kd.R_drewN | apply Kd.R_drew)); exact HO_5.out) hb); have n2_ := Aside0.mk (below_step (by repeat (first | (with_reducible first | exact HB.out | apply below_alloc | apply pw_below_drewN | apply below_drew1) | exact HB.out)) hb); have n3_ := Aside0.mk (hbox); have n4_ := Aside0.mk ((by rw [hg]; exact (below_size (by repeat (first | (with_reducible first | exact HB.out | apply below_alloc | apply pw_below_drewN | apply below_drew1) | exact HB.out))) : w.heap.size ≤ gb342)); have n5_ := Aside0.mk ((by rw [hg]; exact (below_size (by repeat (first | (with_reducible first | exact HB.out | apply below_alloc | apply pw_below_drewN | apply below_drew1) | exact HB.out))) : w.heap.size ≤ gb342)); clear HO_4; clear HO_5; clear HB; have HO_4 := n0_; have HO_5 := n1_; have HB := n2_; have BK342 := n3_; have GW342 := n4_; have GE342 := n5_; clear n0_ n1_ n2_ n3_ n4_ n5_; clear hb hbox hg; have hcz43_0 : w42.cell? ⟨gb342, 0, none⟩ = some (.int .i64 0) := (blk_cell BK342.out 0).trans rfl; have hcz43_1 : w42.cell? ⟨gb342, 1, none⟩ = some (.int .i64 0) := (blk_cell BK342.out 1).trans rfl; have hcz43_2 : w42.cell? ⟨gb342, 2, none⟩ = some (.int .i64 0) := (blk_cell BK342.out 2).trans rfl; have hcz43_3 : w42.cell? ⟨gb342, 3, none⟩ = some (.slice none 0 0) := (blk_cell BK342.out 3).trans rfl; have hcz43_4 : w42.cell? ⟨gb342, 4, none⟩ = some (.int .i64 0) := (blk_cell BK342.out 4).trans rfl; have hfz43_0 := blk_frozen BK342.out 0; have hfz43_1 := blk_frozen BK342.out 1; have hfz43_2 := blk_frozen BK342.out 2; have hfz43_3 := blk_frozen BK342.out 3; have hfz43_4 := blk_frozen BK342.out 4; have p343 : 0 ≤ (x6_1 : Int) := of_decide_eq_true (by first | (with_reducible assumption) | assumption); have q343 : x6_1 < (l0.length : Int) := of_decide_eq_true (by first | (with_reducible assumption) | assumption); obtain ⟨ad343, e343, hx343_0⟩ := Kd.at_int HR0.out x6_1 p343 q343; cases e343; have hn343_0 : ad343.block ≠ gb342 := Nat.ne_of_lt (Nat.lt_of_lt_of_le (by have := World.block_lt_of_cell? _ _ hx343_0; first | rwa [add_block] at this | exact this) GW342.out); have hn343_1 : ad343.block ≠ gb342 := Nat.ne_of_lt (Nat.lt_of_lt_of_le (by have := World.block_lt_of_cell? _ _ hx343_0; first | rwa [add_block] at this | exact this) GW342.out); have hn343_2 : ad343.block ≠ gb342 := Nat.ne_of_lt (Nat.lt_of_lt_of_le (by have := World.block_lt_of_cell? _ _ hx343_0; first | rwa [add_block] at this | exact this) GW342.out); have hn343_3 : ad343.block ≠ gb342 := Nat.ne_of_lt (Nat.lt_of_lt_of_le (by have := World.block_lt_of_cell? _ _ hx343_0; first | rwa [add_block] at this | exact this) GW342.out); have hn343_4 : ad343.block ≠ gb342 := Nat.ne_of_lt (Nat.lt_of_lt_of_le (by have := World.block_lt_of_cell? _ _ hx343_0; first | rwa [add_block] at this | exact this) GW342.out); replace hx343_0 := (HB.out.cell (World.block_lt_of_cell? w _ hx343_0)).trans hx343_0; replace hx343_0 := (cell_far (p := ⟨gb342, 0, none⟩) (by first | (rw [add_block]; exact hn343_0) | (show (Addr.add _ _).block ≠ _; rw [add_block]; exact hn343_0) | exact hn343_0) (.int .i64 0)).trans hx343_0; replace hx343_0 := (cell_far (p := ⟨gb342, 1, none⟩) (by first | (rw [add_block]; exact hn343_1) | (show (Addr.add _ _).block ≠ _; rw [add_block]; exact hn343_1) | exact hn343_1) (.int .i64 0)).trans hx343_0; replace hx343_0 := (cell_far (p := ⟨gb342, 2, none⟩) (by first | (rw [add_block]; exact hn343_2) | (show (Addr.add _ _).block ≠ _; rw [add_block]; exact hn343_2) | exact hn343_2) (.int .i64 0)).trans hx343_0; replace hx343_0 := (cell_far (p := ⟨gb342, 3, none⟩) (by first | (rw [add_block]; exact hn343_3) | (show (Addr.add _ _).block ≠ _; rw [add_block]; exact hn343_3) | exact hn343_3) (.slice none 0 0)).trans hx343_0; replace hx343_0 := (cell_far (p := ⟨gb342, 4, none⟩) (by first | (rw [add_block]; exact hn343_4) | (show (Addr.add _ _).block ≠ _; rw [add_block]; exact hn343_4) | exact hn343_4) (.int .i64 (wrap64 (x6_1 + 1)))).trans hx343_0; clear hn343_0; clear hn343_1; clear hn343_2; clear hn343_3; clear hn343_4; replace p343 := eq_true p343; replace q343 := eq_true q343))
  have n0_ : Aside0 (Kd.V k62 62 (((((w42.setCell ⟨gb342, 0, none⟩ (.int .i64 0)).setCell ⟨gb342, 1, none⟩ (.int .i64 0)).setCell ⟨gb342, 2, none⟩ (.int .i64 0)).setCell ⟨gb342, 3, none⟩ (.slice none 0 0)).setCell ⟨gb342, 4, none⟩ (.int .i64 (wrap64 (x6_1 + 1)))) w.heap.size (fun k_ => some k_ ≠ (u5 : Value).ownBlock ∧ k_ ≠ gb342) u4 x4_1) := ⟨by (with_reducible repeat (first | apply Kd.V_alloc | apply Kd.V_drewN | apply Kd.V_drew)); exact Kd.V_mono (Kd.V_far (p := ⟨gb342, 4, none⟩) (Kd.V_far (p := ⟨gb342, 3, none⟩) (Kd.V_far (p := ⟨gb342, 2, none⟩) (Kd.V_far (p := ⟨gb342, 1, none⟩) (Kd.V_far (p := ⟨gb342, 0, none⟩) (Kd.V_mono HO_4.out (fun k_ hk => (⟨hk, hk.2⟩ : _ ∧ k_ ≠ gb342))) (fun _ hk => hk.2) (.int .i64 0)) (fun _ hk => hk.2) (.int .i64 0)) (fun _ hk => hk.2) (.int .i64 0)) (fun _ hk => hk.2) (.slice none 0 0)) (fun _ hk => hk.2) (.int .i64 (wrap64 (x6_1 + 1)))) (fun _ hk => ⟨hk.1.1, hk.1.2⟩)⟩
  have n1_ : Aside0 (Kd.R (Kd.int .i64) 3 (((((w42.setCell ⟨gb342, 0, none⟩ (.int .i64 0)).setCell ⟨gb342, 1, none⟩ (.int .i64 0)).setCell ⟨gb342, 2, none⟩ (.int .i64 0)).setCell ⟨gb342, 3, none⟩ (.slice none 0 0)).setCell ⟨gb342, 4, none⟩ (.int .i64 (wrap64 (x6_1 + 1)))) w.heap.size (fun _ => True) u5 x5_1) := ⟨by (with_reducible repeat (first | apply Kd.R_alloc | apply Kd.R_drewN | apply Kd.R_drew)); exact Kd.R_mono (Kd.R_far (p := ⟨gb342, 4, none⟩) (Kd.R_far (p := ⟨gb342, 3, none⟩) (Kd.R_far (p := ⟨gb342, 2, none⟩) (Kd.R_far (p := ⟨gb342, 1, none⟩) (Kd.R_far (p := ⟨gb342, 0, none⟩) (Kd.R_types HO_5.out BK342.out (by decide)) (fun _ hk => hk.2) (.int .i64 0)) (fun _ hk => hk.2) (.int .i64 0)) (fun _ hk => hk.2) (.int .i64 0)) (fun _ hk => hk.2) (.slice none 0 0)) (fun _ hk => hk.2) (.int .i64 (wrap64 (x6_1 + 1)))) (fun _ hk => trivial)⟩
  have n2_ : Aside0 ((((((w42.setCell ⟨gb342, 0, none⟩ (.int .i64 0)).setCell ⟨gb342, 1, none⟩ (.int .i64 0)).setCell ⟨gb342, 2, none⟩ (.int .i64 0)).setCell ⟨gb342, 3, none⟩ (.slice none 0 0)).setCell ⟨gb342, 4, none⟩ (.int .i64 (wrap64 (x6_1 + 1)))).heap[gb342]? = some (.cells #[.int .i64 0, .int .i64 0, .int .i64 0, .slice none 0 0, .int .i64 (wrap64 (x6_1 + 1))] 50 (0, 0))) := ⟨by (with_reducible repeat (first | refine blk_drewN ?_ _ | refine blk_drew ?_ | refine blk_alloc ?_ _)); refine blk_put (cs := #[.int .i64 0, .int .i64 0, .int .i64 0, .slice none 0 0, .int .i64 0]) ?_ 4 _ rfl; (with_reducible repeat (first | refine blk_drewN ?_ _ | refine blk_drew ?_ | refine blk_alloc ?_ _)); refine blk_put (cs := #[.int .i64 0, .int .i64 0, .int .i64 0, .slice none 0 0, .int .i64 0]) ?_ 3 _ rfl; (with_reducible repeat (first | refine blk_drewN ?_ _ | refine blk_drew ?_ | refine blk_alloc ?_ _)); refine blk_put (cs := #[.int .i64 0, .int .i64 0, .int .i64 0, .slice none 0 0, .int .i64 0]) ?_ 2 _ rfl; (with_reducible repeat (first | refine blk_drewN ?_ _ | refine blk_drew ?_ | refine blk_alloc ?_ _)); refine blk_put (cs := #[.int .i64 0, .int .i64 0, .int .i64 0, .slice none 0 0, .int .i64 0]) ?_ 1 _ rfl; (with_reducible repeat (first | refine blk_drewN ?_ _ | refine blk_drew ?_ | refine blk_alloc ?_ _)); refine blk_put (cs := #[.int .i64 0, .int .i64 0, .int .i64 0, .slice none 0 0, .int .i64 0]) ?_ 0 _ rfl; (with_reducible repeat (first | refine blk_drewN ?_ _ | refine blk_drew ?_ | refine blk_alloc ?_ _)); exact BK342.out⟩
  have n3_ : Aside0 (Below w.heap.size w (((((w42.setCell ⟨gb342, 0, none⟩ (.int .i64 0)).setCell ⟨gb342, 1, none⟩ (.int .i64 0)).setCell ⟨gb342, 2, none⟩ (.int .i64 0)).setCell ⟨gb342, 3, none⟩ (.slice none 0 0)).setCell ⟨gb342, 4, none⟩ (.int .i64 (wrap64 (x6_1 + 1))))) := ⟨by repeat (first | (with_reducible first | exact HB.out | apply below_alloc | apply pw_below_drewN | apply below_drew1 | refine below_set ?_ GE342.out) | exact HB.out)⟩
  (try clear HO_4)
  (try clear HO_5)
  (try clear BK342)
  (try clear HB)
  generalize (((((w42.setCell ⟨gb342, 0, none⟩ (.int .i64 0)).setCell ⟨gb342, 1, none⟩ (.int .i64 0)).setCell ⟨gb342, 2, none⟩ (.int .i64 0)).setCell ⟨gb342, 3, none⟩ (.slice none 0 0)).setCell ⟨gb342, 4, none⟩ (.int .i64 (wrap64 (x6_1 + 1)))) = w44 at n0_ n1_ n2_ n3_ ⊢
  have HO_4 := n0_
  have HO_5 := n1_
  have BK342 := n2_
  have HB := n3_
  clear n0_ n1_ n2_ n3_
  have n0_ := Aside0.mk (Kd.V_drew HO_4.out)
  have n1_ := Aside0.mk (Kd.R_drew HO_5.out)
  have n2_ := Aside0.mk (blk_drew BK342.out)
  have n3_ := Aside0.mk (below_drew1 HB.out)
  clear HO_4
  clear HO_5
  clear BK342
  clear HB
  have HO_4 := n0_
  have HO_5 := n1_
  have BK342 := n2_
  have HB := n3_
  clear n0_ n1_ n2_ n3_
  obtain ⟨Ao46, co46, eo46⟩ := Kd.V_slice HO_4.out
  (first | subst eo46 | (injection eo46 with f1_ f2_ f3_; have f4_ := f1_.symm; have f5_ := f3_.symm; clear f1_ f2_ f3_; subst f4_; subst f5_))
  refine start_ (n := 10) (S := fun w' => w'.cell? ⟨gb342, 0, none⟩ = some (.int .i64 0) ∧ w'.cell? ⟨gb342, 1, none⟩ = some (.int .i64 0) ∧ w'.cell? ⟨gb342, 2, none⟩ = some (.int .i64 0) ∧ w'.cell? ⟨gb342, 3, none⟩ = some (.slice none 0 0) ∧ w'.cell? ⟨gb342, 4, none⟩ = some (.int .i64 (wrap64 (x6_1 + 1)))) (ds := []) #[false, false, false, false, false, false, false, false, false, false] (by kernel_rfl) rfl rfl ⟨(blk_cell BK342.out 0).trans rfl, (blk_cell BK342.out 1).trans rfl, (blk_cell BK342.out 2).trans rfl, (blk_cell BK342.out 3).trans rfl, (blk_cell BK342.out 4).trans rfl⟩ (fun hHeld => ?_); refine with_tabW hallmootlaw13_NestUndo.tab18 hallmootlaw13_NestUndo.bits18 (fun HT_ HW_ => ?_)
  generalize w44.drew = w45 at HO_4 HO_5 BK342 HB hHeld ⊢
  refine pure_ (i := 0) (N := some 58) (v := ?_) (a' := ?_) #[true, false, false, false, false, false, false, false, false, false] rfl rfl (any_of HT_.out (by kernel_rfl)) (fun _ _ _ h => h) (Or.inl ⟨by rfl, ?_⟩) ?_ ?_
  rotate_left
  {
  intro w'
  go_simp
  with_reducible rfl }
  rotate_left
  {
  simp only [Act.put, List.setIfInBounds_toArray, List.set_cons_zero, List.set_cons_succ, i64_w, i32_w]
  rfl }
  refine take_ (i := 2) (N := some 60) (v := ?_) (a' := ?_) #[true, false, true, false, false, false, false, false, false, false] rfl rfl (take_ofW HT_.out HW_.out (by kernel_rfl)) (fun _ _ _ h => h) (Or.inl ⟨by rfl, ?_⟩) hHeld ?_ ?_
  rotate_left
  {
  rintro w' ⟨s0, s1, s2, s3, s4⟩
  go_simp
  with_reducible rfl }
  rotate_left
  {
  simp only [Act.put, List.setIfInBounds_toArray, List.set_cons_zero, List.set_cons_succ, i64_w, i32_w]
  rfl }
  refine one_ (i := 1) (N := some 59) #[true, true, true, false, false, false, false, false, false, false] rfl rfl (one_of HT_.out (by kernel_rfl)) (by decide) (fun K hK => ?_)
  refine goes_ Try.func12 (by kernel_rfl) rfl #[.slice Ao46 x4_1.length co46] (by rfl) rfl rfl (by (try simp only [List.map_toArray, List.map_cons, List.map_nil]); first | done | rfl | (simp only [List.length_drop, List.length_take]; rfl)) ?_
  with_reducible refine (nBegin.calls (fun k_ => (some k_ ≠ (u5 : Value).ownBlock ∧ k_ ≠ gb342)) _ _ x4_1 t362 _ ?side1 A37.out).mono ?_
  (case side1 => exact HO_4.out)
  rintro e w47 ⟨v363, rfl, ho0, hb⟩
  refine ⟨_, rfl, ?_⟩
  have n0_ := Aside0.mk (Kd.V_below (by (with_reducible repeat (first | apply Kd.V_alloc | apply Kd.V_drewN | apply Kd.V_drew)); exact HO_4.out) hb)
  have n1_ := Aside0.mk (Kd.R_below (by (with_reducible repeat (first | apply Kd.R_alloc | apply Kd.R_drewN | apply Kd.R_drew)); exact HO_5.out) hb)
  have n2_ := Aside0.mk (Kd.V_lower (Kd.V_mono (ok' := fun k_ => some k_ ≠ (u5 : Value).ownBlock ∧ k_ ≠ gb342) ho0 (fun k_ hk_ => ⟨Or.elim hk_ (fun hs_ => hs_.1) (fun hn_ => (Kd.fresh' (Kd.R_lt (by (with_reducible repeat (first | apply Kd.R_alloc | apply Kd.R_drewN | apply Kd.R_drew)); exact HO_5.out)) k_ hn_)), Or.elim hk_ (fun hs_ => hs_.2) (fun hn_ => (Kd.freshB (g := gb342) (o := .cells #[.int .i64 0, .int .i64 0, .int .i64 0, .slice none 0 0, .int .i64 (wrap64 (x6_1 + 1))] 50 (0, 0)) (by (with_reducible repeat (first | refine blk_drewN ?_ _ | refine blk_drew ?_ | refine blk_alloc ?_ _)); exact BK342.out) k_ hn_))⟩)) (below_size (by repeat (first | (with_reducible first | exact HB.out | apply below_alloc | apply pw_below_drewN | apply below_drew1 | refine below_set ?_ GE342.out) | exact HB.out))))
  have n3_ := Aside0.mk (blk_below (g := gb342) (o := .cells #[.int .i64 0, .int .i64 0, .int .i64 0, .slice none 0 0, .int .i64 (wrap64 (x6_1 + 1))] 50 (0, 0)) (by (with_reducible repeat (first | refine blk_drewN ?_ _ | refine blk_drew ?_ | refine blk_alloc ?_ _)); exact BK342.out) hb)
  have n4_ := Aside0.mk (below_step (by repeat (first | (with_reducible first | exact HB.out | apply below_alloc | apply pw_below_drewN | apply below_drew1 | refine below_set ?_ GE342.out) | exact HB.out)) hb)
  clear HO_4
  clear HO_5
  clear BK342
  clear HB
  have HO_4 := n0_
  have HO_5 := n1_
  have HO364 := n2_
  have BK342 := n3_
  have HB := n4_
  clear n0_ n1_ n2_ n3_ n4_
  (try clear hb)
  (try clear hb2)
  (try clear hk)
  (try clear hi)
  (try clear ho0)
  obtain ⟨Ao48, co48, eo48⟩ := Kd.V_slice HO364.out
  (first | subst eo48 | (injection eo48 with f1_ f2_ f3_; have f4_ := f1_.symm; have f5_ := f3_.symm; clear f1_ f2_ f3_; subst f4_; subst f5_))
  refine hK.out _ _ ⟨(blk_cell BK342.out 0).trans rfl, (blk_cell BK342.out 1).trans rfl, (blk_cell BK342.out 2).trans rfl, (blk_cell BK342.out 3).trans rfl, (blk_cell BK342.out 4).trans rfl⟩ (fun hHeld => ?_)
  clear hK K
  refine norm_ (a' := ?_) ?_ ?_
  rotate_left
  {
  show Act.put _ (some 59) _ = _
  simp only [Act.put, List.setIfInBounds_toArray, List.set_cons_zero, List.set_cons_succ, i64_w, i32_w]
  rfl }
  refine one_ (i := 3) (N := some 61) #[true, true, true, true, false, false, false, false, false, false] rfl rfl (one_of HT_.out (by kernel_rfl)) (by decide) (fun K hK => ?_)
  refine goes_ Try.func23 (by kernel_rfl) rfl #[.slice Ao48 t362.length co48, .agg #[.int .i64 0, .int .i64 0, .int .i64 0, .slice none 0 0, .int .i64 (wrap64 (x6_1 + 1))]] (by rfl) rfl rfl (by (try simp only [List.map_toArray, List.map_cons, List.map_nil]); first | done | rfl | (simp only [List.length_drop, List.length_take]; rfl)) ?_
  refine (nKeep.calls (fun k_ => (some k_ ≠ (u5 : Value).ownBlock ∧ k_ ≠ gb342)) _ _ t362 0 0 0 (fun k_ => False) _ _ ([] : List (S48)) (wrap64 (x6_1 + 1)) t365 _ ?side1 ?side2 A38.out).mono ?_
  (case side1 => exact HO364.out)
  (case side2 => exact Kd.V_nil _ _ _ _ _)
  rintro e w49 ⟨v366, rfl, ho0, hb⟩
  refine ⟨_, rfl, ?_⟩
  have n0_ := Aside0.mk (Kd.V_below (by (with_reducible repeat (first | apply Kd.V_alloc | apply Kd.V_drewN | apply Kd.V_drew)); exact HO_4.out) hb)
  have n1_ := Aside0.mk (Kd.R_below (by (with_reducible repeat (first | apply Kd.R_alloc | apply Kd.R_drewN | apply Kd.R_drew)); exact HO_5.out) hb)
  have n2_ := Aside0.mk (Kd.V_below (by (with_reducible repeat (first | apply Kd.V_alloc | apply Kd.V_drewN | apply Kd.V_drew)); exact HO364.out) hb)
  have n3_ := Aside0.mk (Kd.V_lower (Kd.V_mono (ok' := fun k_ => some k_ ≠ (u5 : Value).ownBlock ∧ k_ ≠ gb342) ho0 (fun k_ hk_ => ⟨Or.elim hk_ (fun hs_ => Or.elim hs_ (fun hs_ => hs_.1) (fun hs_ => (hs_).elim)) (fun hn_ => (Kd.fresh' (Kd.R_lt (by (with_reducible repeat (first | apply Kd.R_alloc | apply Kd.R_drewN | apply Kd.R_drew)); exact HO_5.out)) k_ hn_)), Or.elim hk_ (fun hs_ => Or.elim hs_ (fun hs_ => hs_.2) (fun hs_ => (hs_).elim)) (fun hn_ => (Kd.freshB (g := gb342) (o := .cells #[.int .i64 0, .int .i64 0, .int .i64 0, .slice none 0 0, .int .i64 (wrap64 (x6_1 + 1))] 50 (0, 0)) (by (with_reducible repeat (first | refine blk_drewN ?_ _ | refine blk_drew ?_ | refine blk_alloc ?_ _)); exact BK342.out) k_ hn_))⟩)) (below_size (by repeat (first | (with_reducible first | exact HB.out | apply below_alloc | apply pw_below_drewN | apply below_drew1 | refine below_set ?_ GE342.out) | exact HB.out))))
  have n4_ := Aside0.mk (blk_below (g := gb342) (o := .cells #[.int .i64 0, .int .i64 0, .int .i64 0, .slice none 0 0, .int .i64 (wrap64 (x6_1 + 1))] 50 (0, 0)) (by (with_reducible repeat (first | refine blk_drewN ?_ _ | refine blk_drew ?_ | refine blk_alloc ?_ _)); exact BK342.out) hb)
  have n5_ := Aside0.mk (below_step (by repeat (first | (with_reducible first | exact HB.out | apply below_alloc | apply pw_below_drewN | apply below_drew1 | refine below_set ?_ GE342.out) | exact HB.out)) hb)
  clear HO_4
  clear HO_5
  clear HO364
  clear BK342
  clear HB
  have HO_4 := n0_
  have HO_5 := n1_
  have HO364 := n2_
  have HO367 := n3_
  have BK342 := n4_
  have HB := n5_
  clear n0_ n1_ n2_ n3_ n4_ n5_
  (try clear hb)
  (try clear hb2)
  (try clear hk)
  (try clear hi)
  (try clear ho0)
  obtain ⟨Ao50, co50, eo50⟩ := Kd.V_slice HO367.out
  (first | subst eo50 | (injection eo50 with f1_ f2_ f3_; have f4_ := f1_.symm; have f5_ := f3_.symm; clear f1_ f2_ f3_; subst f4_; subst f5_))
  refine hK.out _ _ ⟨(blk_cell BK342.out 0).trans rfl, (blk_cell BK342.out 1).trans rfl, (blk_cell BK342.out 2).trans rfl, (blk_cell BK342.out 3).trans rfl, (blk_cell BK342.out 4).trans rfl⟩ (fun hHeld => ?_)
  clear hK K
  refine norm_ (a' := ?_) ?_ ?_
  rotate_left
  {
  show Act.put _ (some 61) _ = _
  simp only [Act.put, List.setIfInBounds_toArray, List.set_cons_zero, List.set_cons_succ, i64_w, i32_w]
  rfl }
  refine one_ (i := 4) (N := some 62) #[true, true, true, true, true, false, false, false, false, false] rfl rfl (one_of HT_.out (by kernel_rfl)) (by decide) (fun K hK => ?_)
  refine goes_ Try.func16 (by kernel_rfl) rfl #[.slice Ao50 t365.length co50] (by rfl) rfl rfl (by (try simp only [List.map_toArray, List.map_cons, List.map_nil]); first | done | rfl | (simp only [List.length_drop, List.length_take]; rfl)) ?_
  with_reducible refine (nDrop.calls (fun k_ => (some k_ ≠ (u5 : Value).ownBlock ∧ k_ ≠ gb342)) _ _ t365 t368 t371 _ ?side1 A39.out).mono ?_
  (case side1 => exact HO367.out)
  rintro e w51 ⟨v369, v372, rfl, ho0, ho1, hb⟩
  refine ⟨_, rfl, ?_⟩
  have n0_ := Aside0.mk (Kd.V_below (by (with_reducible repeat (first | apply Kd.V_alloc | apply Kd.V_drewN | apply Kd.V_drew)); exact HO_4.out) hb)
  have n1_ := Aside0.mk (Kd.R_below (by (with_reducible repeat (first | apply Kd.R_alloc | apply Kd.R_drewN | apply Kd.R_drew)); exact HO_5.out) hb)
  have n2_ := Aside0.mk (Kd.V_below (by (with_reducible repeat (first | apply Kd.V_alloc | apply Kd.V_drewN | apply Kd.V_drew)); exact HO364.out) hb)
  have n3_ := Aside0.mk (Kd.V_below (by (with_reducible repeat (first | apply Kd.V_alloc | apply Kd.V_drewN | apply Kd.V_drew)); exact HO367.out) hb)
  have n4_ := Aside0.mk (Kd.V_lower (Kd.V_mono (ok' := fun k_ => some k_ ≠ (u5 : Value).ownBlock ∧ k_ ≠ gb342) ho0 (fun k_ hk_ => ⟨Or.elim hk_ (fun hs_ => hs_.1) (fun hn_ => (Kd.fresh' (Kd.R_lt (by (with_reducible repeat (first | apply Kd.R_alloc | apply Kd.R_drewN | apply Kd.R_drew)); exact HO_5.out)) k_ hn_)), Or.elim hk_ (fun hs_ => hs_.2) (fun hn_ => (Kd.freshB (g := gb342) (o := .cells #[.int .i64 0, .int .i64 0, .int .i64 0, .slice none 0 0, .int .i64 (wrap64 (x6_1 + 1))] 50 (0, 0)) (by (with_reducible repeat (first | refine blk_drewN ?_ _ | refine blk_drew ?_ | refine blk_alloc ?_ _)); exact BK342.out) k_ hn_))⟩)) (below_size (by repeat (first | (with_reducible first | exact HB.out | apply below_alloc | apply pw_below_drewN | apply below_drew1 | refine below_set ?_ GE342.out) | exact HB.out))))
  have n5_ := Aside0.mk (Kd.V_lower (Kd.V_mono (ok' := fun k_ => some k_ ≠ (u5 : Value).ownBlock ∧ k_ ≠ gb342) ho1 (fun k_ hk_ => ⟨Or.elim hk_ (fun hs_ => hs_.1) (fun hn_ => (Kd.fresh' (Kd.R_lt (by (with_reducible repeat (first | apply Kd.R_alloc | apply Kd.R_drewN | apply Kd.R_drew)); exact HO_5.out)) k_ hn_)), Or.elim hk_ (fun hs_ => hs_.2) (fun hn_ => (Kd.freshB (g := gb342) (o := .cells #[.int .i64 0, .int .i64 0, .int .i64 0, .slice none 0 0, .int .i64 (wrap64 (x6_1 + 1))] 50 (0, 0)) (by (with_reducible repeat (first | refine blk_drewN ?_ _ | refine blk_drew ?_ | refine blk_alloc ?_ _)); exact BK342.out) k_ hn_))⟩)) (below_size (by repeat (first | (with_reducible first | exact HB.out | apply below_alloc | apply pw_below_drewN | apply below_drew1 | refine below_set ?_ GE342.out) | exact HB.out))))
  have n6_ := Aside0.mk (blk_below (g := gb342) (o := .cells #[.int .i64 0, .int .i64 0, .int .i64 0, .slice none 0 0, .int .i64 (wrap64 (x6_1 + 1))] 50 (0, 0)) (by (with_reducible repeat (first | refine blk_drewN ?_ _ | refine blk_drew ?_ | refine blk_alloc ?_ _)); exact BK342.out) hb)
  have n7_ := Aside0.mk (below_step (by repeat (first | (with_reducible first | exact HB.out | apply below_alloc | apply pw_below_drewN | apply below_drew1 | refine below_set ?_ GE342.out) | exact HB.out)) hb)
  clear HO_4
  clear HO_5
  clear HO364
  clear HO367
  clear BK342
  clear HB
  have HO_4 := n0_
  have HO_5 := n1_
  have HO364 := n2_
  have HO367 := n3_
  have HO370 := n4_
  have HO373 := n5_
  have BK342 := n6_
  have HB := n7_
  clear n0_ n1_ n2_ n3_ n4_ n5_ n6_ n7_
  (try clear hb)
  (try clear hb2)
  (try clear hk)
  (try clear hi)
  (try clear ho0)
  (try clear ho1)
  refine hK.out _ _ ⟨(blk_cell BK342.out 0).trans rfl, (blk_cell BK342.out 1).trans rfl, (blk_cell BK342.out 2).trans rfl, (blk_cell BK342.out 3).trans rfl, (blk_cell BK342.out 4).trans rfl⟩ (fun hHeld => ?_)
  clear hK K
  refine norm_ (a' := ?_) ?_ ?_
  rotate_left
  {
  show Act.put _ (some 62) _ = _
  simp only [Act.put, List.setIfInBounds_toArray, List.set_cons_zero, List.set_cons_succ, i64_w, i32_w]
  rfl }
  refine pure_ (i := 5) (N := some 57) (v := ?_) (a' := ?_) #[true, true, true, true, true, true, false, false, false, false] rfl rfl (any_of HT_.out (by kernel_rfl)) (fun _ _ _ h => h) (Or.inl ⟨by rfl, ?_⟩) ?_ ?_
  rotate_left
  {
  intro w'
  go_simp
  with_reducible rfl }
  rotate_left
  {
  simp only [Act.put, List.setIfInBounds_toArray, List.set_cons_zero, List.set_cons_succ, i64_w, i32_w]
  rfl }
  refine pure_ (i := 6) (N := some 63) (v := ?_) (a' := ?_) #[true, true, true, true, true, true, true, false, false, false] rfl rfl (any_of HT_.out (by kernel_rfl)) (fun _ _ _ h => h) (Or.inl ⟨by rfl, ?_⟩) ?_ ?_
  rotate_left
  {
  intro w'
  go_simp
  with_reducible rfl }
  rotate_left
  {
  simp only [Act.put, List.setIfInBounds_toArray, List.set_cons_zero, List.set_cons_succ, i64_w, i32_w]
  rfl }
  refine pure_ (i := 7) (N := some 64) (v := ?_) (a' := ?_) #[true, true, true, true, true, true, true, true, false, false] rfl rfl (any_of HT_.out (by kernel_rfl)) (fun _ _ _ h => h) (Or.inl ⟨by rfl, ?_⟩) ?_ ?_
  rotate_left
  {
  intro w'
  go_simp
  with_reducible rfl }
  rotate_left
  {
  simp only [Act.put, List.setIfInBounds_toArray, List.set_cons_zero, List.set_cons_succ, i64_w, i32_w]
  rfl }
  refine pure_ (i := 8) (N := some 8) (v := ?_) (a' := ?_) #[true, true, true, true, true, true, true, true, true, false] rfl rfl (any_of HT_.out (by kernel_rfl)) (fun _ _ _ h => h) (Or.inl ⟨by rfl, ?_⟩) ?_ ?_
  rotate_left
  {
  intro w'
  go_simp
  with_reducible rfl }
  rotate_left
  {
  simp only [Act.put, List.setIfInBounds_toArray, List.set_cons_zero, List.set_cons_succ, i64_w, i32_w]
  rfl }
  refine pure_ (i := 9) (N := some 9) (v := ?_) (a' := ?_) #[true, true, true, true, true, true, true, true, true, true] rfl rfl (any_of HT_.out (by kernel_rfl)) (fun _ _ _ h => h) (Or.inl ⟨by rfl, ?_⟩) ?_ ?_
  rotate_left
  {
  intro w'
  go_simp
  with_reducible rfl }
  rotate_left
  {
  simp only [Act.put, List.setIfInBounds_toArray, List.set_cons_zero, List.set_cons_succ, i64_w, i32_w]
  rfl }
  refine done_ (done_of HT_.out (by kernel_rfl)) ?_
  have hcz52_0 : w51.cell? ⟨gb342, 0, none⟩ = some (.int .i64 0) := (blk_cell BK342.out 0).trans rfl
  have hcz52_1 : w51.cell? ⟨gb342, 1, none⟩ = some (.int .i64 0) := (blk_cell BK342.out 1).trans rfl
  have hcz52_2 : w51.cell? ⟨gb342, 2, none⟩ = some (.int .i64 0) := (blk_cell BK342.out 2).trans rfl
  have hcz52_3 : w51.cell? ⟨gb342, 3, none⟩ = some (.slice none 0 0) := (blk_cell BK342.out 3).trans rfl
  have hcz52_4 : w51.cell? ⟨gb342, 4, none⟩ = some (.int .i64 (wrap64 (x6_1 + 1))) := (blk_cell BK342.out 4).trans rfl
  have hfz52_0 := blk_frozen BK342.out 0
  have hfz52_1 := blk_frozen BK342.out 1
  have hfz52_2 := blk_frozen BK342.out 2
  have hfz52_3 := blk_frozen BK342.out 3
  have hfz52_4 := blk_frozen BK342.out 4
  try go_wp2_with (first | ((with_reducible refine gate_dst (N := 67) rfl ?_); refine Kd.R_lit k50 _ 50 ?hg (N := 67) ?hd (xs := ([(⟨(⟨0, 0, 0, ([] : List (S48))⟩ : S48), wrap64 (x6_1 + 1)⟩ : S50)] : List (S50))) (inner := [.int .i64 0, .int .i64 0, .int .i64 0, .slice none 0 0, .int .i64 (wrap64 (x6_1 + 1))]) (ok := fun _ => True) (okp := fun _ => True) ?hr ?hp (fun _ hk => hk) trivial (Below.refl _ _) (Nat.le_refl _) (by simp) ?_; (case hd => rfl); (case hg => rfl); (case hr => first | (go_simp; done) | (go_simp; rfl)); (case hp => exact (Reps.c5 (show Kd.M k50 _ _ _ (⟨(⟨0, 0, 0, ([] : List (S48))⟩ : S48), wrap64 (x6_1 + 1)⟩ : S50) [.int .i64 0, .int .i64 0, .int .i64 0, .slice none 0 0, .int .i64 (wrap64 (x6_1 + 1))] from (k50_mkM _ _ _ (⟨(⟨0, 0, 0, ([] : List (S48))⟩ : S48), wrap64 (x6_1 + 1)⟩ : S50) (Kd.R_nil _ _ _ _ _))) (Reps.none _ _))); intro v375 w53 ho54 hb hg_ hnew_; clear hg_ hnew_; (first | rw [← Ny374.out] at ho54 | (simp only [Int.reduceToNat] at ho54; rw [← Ny374.out] at ho54)); have n0_ := Aside0.mk (Kd.V_elder' (by (with_reducible repeat (first | apply Kd.V_alloc | apply Kd.V_drewN | apply Kd.V_drew)); exact HO_4.out) (Kd.R_base ho54) hb); have n1_ := Aside0.mk (Kd.R_below (by (with_reducible repeat (first | apply Kd.R_alloc | apply Kd.R_drewN | apply Kd.R_drew)); exact HO_5.out) hb); have n2_ := Aside0.mk (Kd.V_elder' (by (with_reducible repeat (first | apply Kd.V_alloc | apply Kd.V_drewN | apply Kd.V_drew)); exact HO364.out) (Kd.R_base ho54) hb); have n3_ := Aside0.mk (Kd.V_elder' (by (with_reducible repeat (first | apply Kd.V_alloc | apply Kd.V_drewN | apply Kd.V_drew)); exact HO367.out) (Kd.R_base ho54) hb); have n4_ := Aside0.mk (Kd.V_elder' (by (with_reducible repeat (first | apply Kd.V_alloc | apply Kd.V_drewN | apply Kd.V_drew)); exact HO370.out) (Kd.R_base ho54) hb); have n5_ := Aside0.mk (Kd.V_elder' (by (with_reducible repeat (first | apply Kd.V_alloc | apply Kd.V_drewN | apply Kd.V_drew)); exact HO373.out) (Kd.R_base ho54) hb); have n6_ := Aside0.mk (Kd.R_lower (Kd.R_newB ho54 (g := gb342) (o := .cells #[.int .i64 0, .int .i64 0, .int .i64 0, .slice none 0 0, .int .i64 (wrap64 (x6_1 + 1))] 50 (0, 0)) (by (with_reducible repeat (first | refine blk_drewN ?_ _ | refine blk_drew ?_ | refine blk_alloc ?_ _)); exact BK342.out)) (below_size (by repeat (first | (with_reducible first | exact HB.out | apply below_alloc | apply pw_below_drewN | apply below_drew1 | refine below_set ?_ GE342.out) | exact HB.out)))); have n7_ := Aside0.mk (blk_below (g := gb342) (o := .cells #[.int .i64 0, .int .i64 0, .int .i64 0, .slice none 0 0, .int .i64 (wrap64 (x6_1 + 1))] 50 (0, 0)) (by (with_reducible repeat (first | refine blk_drewN ?_ _ | refine blk_drew ?_ | refine blk_alloc ?_ _)); exact BK342.out) hb); have n8_ := Aside0.mk (below_step (by repeat (first | (with_reducible first | exact HB.out | apply below_alloc | apply pw_below_drewN | apply below_drew1 | refine below_set ?_ GE342.out) | exact HB.out)) hb); clear HO_4; clear HO_5; clear HO364; clear HO367; clear HO370; clear HO373; clear BK342; clear HB; have HO_4 := n0_; have HO_5 := n1_; have HO364 := n2_; have HO367 := n3_; have HO370 := n4_; have HO373 := n5_; have HO376 := n6_; have BK342 := n7_; have HB := n8_; clear n0_ n1_ n2_ n3_ n4_ n5_ n6_ n7_ n8_; clear hb ho54; obtain ⟨Ao55, co55, eo55⟩ := Kd.V_slice HO373.out; subst eo55; obtain ⟨Ao56, co56, eo56⟩ := Kd.R_slice HO376.out; subst eo56) | ((with_reducible refine gate_callee (f := 25) rfl ?_); refine goesL_ (some 68) rfl rfl Try.func25 (by kernel_rfl) rfl #[.slice Ao55 t371.length co55, .slice Ao56 y374.length co56] rfl (by (try simp only [List.map_toArray, List.map_cons, List.map_nil]); first | done | rfl | (simp only [List.length_drop, List.length_take]; rfl)) ?_; (with_reducible refine (hallmootref13_Undos.calls k1 _ _ t371 _ _ y374 true _ ?side1 ?side2 ?side3 ?side4 A40.out).mono ?_); (case side1 => repeat (first | exact (Kd.V_reads' HO373.out).2.2 | (with_reducible refine Kd.C_alloc ?_ _) | (with_reducible refine Kd.C_drewN ?_ _) | (with_reducible refine Kd.C_drew ?_))); (case side2 => exact (Kd.V_reads' HO373.out).2.1); (case side3 => repeat (first | exact (Kd.R_reads' HO376.out).2.2 | (with_reducible refine Kd.C_alloc ?_ _) | (with_reducible refine Kd.C_drewN ?_ _) | (with_reducible refine Kd.C_drew ?_))); (case side4 => exact (Kd.R_reads' HO376.out).2.1); rintro e w57 ⟨rfl, hb⟩; refine ⟨_, rfl, ?_⟩; have n0_ := Aside0.mk (Kd.V_below (by (with_reducible repeat (first | apply Kd.V_alloc | apply Kd.V_drewN | apply Kd.V_drew)); exact HO_4.out) hb); have n1_ := Aside0.mk (Kd.R_below (by (with_reducible repeat (first | apply Kd.R_alloc | apply Kd.R_drewN | apply Kd.R_drew)); exact HO_5.out) hb); have n2_ := Aside0.mk (Kd.V_below (by (with_reducible repeat (first | apply Kd.V_alloc | apply Kd.V_drewN | apply Kd.V_drew)); exact HO364.out) hb); have n3_ := Aside0.mk (Kd.V_below (by (with_reducible repeat (first | apply Kd.V_alloc | apply Kd.V_drewN | apply Kd.V_drew)); exact HO367.out) hb); have n4_ := Aside0.mk (Kd.V_below (by (with_reducible repeat (first | apply Kd.V_alloc | apply Kd.V_drewN | apply Kd.V_drew)); exact HO370.out) hb); have n5_ := Aside0.mk (Kd.V_below (by (with_reducible repeat (first | apply Kd.V_alloc | apply Kd.V_drewN | apply Kd.V_drew)); exact HO373.out) hb); have n6_ := Aside0.mk (Kd.R_below (by (with_reducible repeat (first | apply Kd.R_alloc | apply Kd.R_drewN | apply Kd.R_drew)); exact HO376.out) hb); have n7_ := Aside0.mk (blk_below (g := gb342) (o := .cells #[.int .i64 0, .int .i64 0, .int .i64 0, .slice none 0 0, .int .i64 (wrap64 (x6_1 + 1))] 50 (0, 0)) (by (with_reducible repeat (first | refine blk_drewN ?_ _ | refine blk_drew ?_ | refine blk_alloc ?_ _)); exact BK342.out) hb); have n8_ := Aside0.mk (below_step (by repeat (first | (with_reducible first | exact HB.out | apply below_alloc | apply pw_below_drewN | apply below_drew1 | refine below_set ?_ GE342.out) | exact HB.out)) hb); clear HO_4; clear HO_5; clear HO364; clear HO367; clear HO370; clear HO373; clear HO376; clear BK342; clear HB; have HO_4 := n0_; have HO_5 := n1_; have HO364 := n2_; have HO367 := n3_; have HO370 := n4_; have HO373 := n5_; have HO376 := n6_; have BK342 := n7_; have HB := n8_; clear n0_ n1_ n2_ n3_ n4_ n5_ n6_ n7_ n8_; (try clear hb); (try clear hb2); (try clear hk); (try clear hi)))
  go_roundg k1
  case measure => have := HK1.out; omega
  case rel => exact ⟨(t368), (x5_1), (wrap64 (x6_1 + 1)), (by first | rfl | (simp; done) | (simp [*]; done)), H', ⟨by have := HK1.out; omega⟩, ⟨by (with_reducible repeat (first | apply Kd.V_alloc | apply Kd.V_drewN | apply Kd.V_drew)); exact Kd.V_mono HO370.out (fun _ hk => hk.1.1)⟩, ⟨by (with_reducible repeat (first | apply Kd.R_alloc | apply Kd.R_drewN | apply Kd.R_drew)); exact HO_5.out⟩, ⟨by repeat (first | (with_reducible first | exact HB.out | apply below_alloc | apply pw_below_drewN | apply below_drew1 | refine below_set ?_ GE342.out) | exact HB.out)⟩⟩ }
  {
  replace c41 := Bool.eq_false_iff.mpr c41
  subst c41
  have H1 : (none) = some r := by rw [if_neg (show ¬ (false = true) by decide)] at H; exact H
  clear H
  have H := H1
  clear H1
  exact absurd H (by simp) } }
  {
  rw [if_neg c36] at H
  have c36b0 : ((Int.tmod (rd l0 x6_1) 3) == 2) = false := beq_eq_false_iff_ne.mpr c36
  have c36b1 : ((Int.tmod (rd l0 x6_1) 3) != 2) = true := bne_iff_ne.mpr c36
  have H' := Aside0.mk H
  clear H
  go_wp2_with (first | ((with_reducible refine gate_dst (N := 7) rfl ?_); refine box_event ?hg (N := 7) ?hd (cs := #[.int .i64 0, .int .i64 0, .int .i64 0, .slice none 0 0, .int .i64 0]) (t := 50) ?hr ?_; (case hd => rfl); (case hg => rfl); (case hr => first | (go_simp; done) | (go_simp; rfl)); intro gb342 hg w58 hbox hb; have n0_ := Aside0.mk (Kd.V_below (Kd.V_elderB (by (with_reducible repeat (first | apply Kd.V_alloc | apply Kd.V_drewN | apply Kd.V_drew)); exact HO_4.out) gb342 (Nat.le_of_eq hg.symm)) hb); have n1_ := Aside0.mk (Kd.R_below (by (with_reducible repeat (first | apply Kd.R_alloc | apply Kd.R_drewN | apply Kd.R_drew)); exact HO_5.out) hb); have n2_ := Aside0.mk (below_step (by repeat (first | (with_reducible first | exact HB.out | apply below_alloc | apply pw_below_drewN | apply below_drew1) | exact HB.out)) hb); have n3_ := Aside0.mk (hbox); have n4_ := Aside0.mk ((by rw [hg]; exact (below_size (by repeat (first | (with_reducible first | exact HB.out | apply below_alloc | apply pw_below_drewN | apply below_drew1) | exact HB.out))) : w.heap.size ≤ gb342)); have n5_ := Aside0.mk ((by rw [hg]; exact (below_size (by repeat (first | (with_reducible first | exact HB.out | apply below_alloc | apply pw_below_drewN | apply below_drew1) | exact HB.out))) : w.heap.size ≤ gb342)); clear HO_4; clear HO_5; clear HB; have HO_4 := n0_; have HO_5 := n1_; have HB := n2_; have BK342 := n3_; have GW342 := n4_; have GE342 := n5_; clear n0_ n1_ n2_ n3_ n4_ n5_; clear hb hbox hg; have hcz59_0 : w58.cell? ⟨gb342, 0, none⟩ = some (.int .i64 0) := (blk_cell BK342.out 0).trans rfl; have hcz59_1 : w58.cell? ⟨gb342, 1, none⟩ = some (.int .i64 0) := (blk_cell BK342.out 1).trans rfl; have hcz59_2 : w58.cell? ⟨gb342, 2, none⟩ = some (.int .i64 0) := (blk_cell BK342.out 2).trans rfl; have hcz59_3 : w58.cell? ⟨gb342, 3, none⟩ = some (.slice none 0 0) := (blk_cell BK342.out 3).trans rfl; have hcz59_4 : w58.cell? ⟨gb342, 4, none⟩ = some (.int .i64 0) := (blk_cell BK342.out 4).trans rfl; have hfz59_0 := blk_frozen BK342.out 0; have hfz59_1 := blk_frozen BK342.out 1; have hfz59_2 := blk_frozen BK342.out 2; have hfz59_3 := blk_frozen BK342.out 3; have hfz59_4 := blk_frozen BK342.out 4; have p343 : 0 ≤ (x6_1 : Int) := of_decide_eq_true (by first | (with_reducible assumption) | assumption); have q343 : x6_1 < (l0.length : Int) := of_decide_eq_true (by first | (with_reducible assumption) | assumption); obtain ⟨ad343, e343, hx343_0⟩ := Kd.at_int HR0.out x6_1 p343 q343; cases e343; have hn343_0 : ad343.block ≠ gb342 := Nat.ne_of_lt (Nat.lt_of_lt_of_le (by have := World.block_lt_of_cell? _ _ hx343_0; first | rwa [add_block] at this | exact this) GW342.out); have hn343_1 : ad343.block ≠ gb342 := Nat.ne_of_lt (Nat.lt_of_lt_of_le (by have := World.block_lt_of_cell? _ _ hx343_0; first | rwa [add_block] at this | exact this) GW342.out); have hn343_2 : ad343.block ≠ gb342 := Nat.ne_of_lt (Nat.lt_of_lt_of_le (by have := World.block_lt_of_cell? _ _ hx343_0; first | rwa [add_block] at this | exact this) GW342.out); have hn343_3 : ad343.block ≠ gb342 := Nat.ne_of_lt (Nat.lt_of_lt_of_le (by have := World.block_lt_of_cell? _ _ hx343_0; first | rwa [add_block] at this | exact this) GW342.out); have hn343_4 : ad343.block ≠ gb342 := Nat.ne_of_lt (Nat.lt_of_lt_of_le (by have := World.block_lt_of_cell? _ _ hx343_0; first | rwa [add_block] at this | exact this) GW342.out); replace hx343_0 := (HB.out.cell (World.block_lt_of_cell? w _ hx343_0)).trans hx343_0; replace hx343_0 := (cell_far (p := ⟨gb342, 0, none⟩) (by first | (rw [add_block]; exact hn343_0) | (show (Addr.add _ _).block ≠ _; rw [add_block]; exact hn343_0) | exact hn343_0) (.int .i64 0)).trans hx343_0; replace hx343_0 := (cell_far (p := ⟨gb342, 1, none⟩) (by first | (rw [add_block]; exact hn343_1) | (show (Addr.add _ _).block ≠ _; rw [add_block]; exact hn343_1) | exact hn343_1) (.int .i64 0)).trans hx343_0; replace hx343_0 := (cell_far (p := ⟨gb342, 2, none⟩) (by first | (rw [add_block]; exact hn343_2) | (show (Addr.add _ _).block ≠ _; rw [add_block]; exact hn343_2) | exact hn343_2) (.int .i64 0)).trans hx343_0; replace hx343_0 := (cell_far (p := ⟨gb342, 3, none⟩) (by first | (rw [add_block]; exact hn343_3) | (show (Addr.add _ _).block ≠ _; rw [add_block]; exact hn343_3) | exact hn343_3) (.slice none 0 0)).trans hx343_0; replace hx343_0 := (cell_far (p := ⟨gb342, 4, none⟩) (by first | (rw [add_block]; exact hn343_4) | (show (Addr.add _ _).block ≠ _; rw [add_block]; exact hn343_4) | exact hn343_4) (.int .i64 (wrap64 (x6_1 + 1)))).trans hx343_0; clear hn343_0; clear hn343_1; clear hn343_2; clear hn343_3; clear hn343_4; replace p343 := eq_true p343; replace q343 := eq_true q343))
  go_roundg k1
  case measure => have := HK1.out; omega
  case rel => exact ⟨(x4_1), (x5_1), (wrap64 (x6_1 + 1)), (by first | rfl | (simp; done) | (simp [*]; done)), H', ⟨by have := HK1.out; omega⟩, ⟨by (with_reducible repeat (first | apply Kd.V_alloc | apply Kd.V_drewN | apply Kd.V_drew)); exact Kd.V_mono (Kd.V_far (p := ⟨gb342, 4, none⟩) (Kd.V_far (p := ⟨gb342, 3, none⟩) (Kd.V_far (p := ⟨gb342, 2, none⟩) (Kd.V_far (p := ⟨gb342, 1, none⟩) (Kd.V_far (p := ⟨gb342, 0, none⟩) (Kd.V_mono HO_4.out (fun k_ hk => (⟨hk, hk.2⟩ : _ ∧ k_ ≠ gb342))) (fun _ hk => hk.2) (.int .i64 0)) (fun _ hk => hk.2) (.int .i64 0)) (fun _ hk => hk.2) (.int .i64 0)) (fun _ hk => hk.2) (.slice none 0 0)) (fun _ hk => hk.2) (.int .i64 (wrap64 (x6_1 + 1)))) (fun _ hk => hk.1.1)⟩, ⟨by (with_reducible repeat (first | apply Kd.R_alloc | apply Kd.R_drewN | apply Kd.R_drew)); exact Kd.R_mono (Kd.R_far (p := ⟨gb342, 4, none⟩) (Kd.R_far (p := ⟨gb342, 3, none⟩) (Kd.R_far (p := ⟨gb342, 2, none⟩) (Kd.R_far (p := ⟨gb342, 1, none⟩) (Kd.R_far (p := ⟨gb342, 0, none⟩) (Kd.R_types HO_5.out BK342.out (by decide)) (fun _ hk => hk.2) (.int .i64 0)) (fun _ hk => hk.2) (.int .i64 0)) (fun _ hk => hk.2) (.int .i64 0)) (fun _ hk => hk.2) (.slice none 0 0)) (fun _ hk => hk.2) (.int .i64 (wrap64 (x6_1 + 1)))) (fun _ hk => trivial)⟩, ⟨by repeat (first | (with_reducible first | exact HB.out | apply below_alloc | apply pw_below_drewN | apply below_drew1 | refine below_set ?_ GE342.out) | exact HB.out)⟩⟩ } } } }
  {
  rw [if_neg c9] at H
  exact absurd H (by simp) } }
  {
  rw [if_neg c8] at H
  have c8b0 : decide (x6_1 < (l0.length : Int)) = false := decide_eq_false c8
  clear c8
  replace H := Option.bind_eq_some_iff.mp H
  obtain ⟨⟨t378, t381⟩, A600, H⟩ := H
  replace H : (if (t381.length : Int) = (x5_1.length : Int) then (hallmootlaw13_NestUndo.l1 k1 t338 x5_1 t381 0) else (none)) = some r := H
  have A60 := Aside0.mk A600
  clear A600
  by_cases c61 : (t381.length : Int) = (x5_1.length : Int)
  {
  rw [if_pos c61] at H
  have c61b0 : ((t381.length : Int) == (x5_1.length : Int)) = true := beq_iff_eq.mpr c61
  have c61b1 : ((t381.length : Int) != (x5_1.length : Int)) = false := bne_eq_false_iff_eq.mpr c61
  have c61b2 : (t381.length == x5_1.length) = true := by first | simpa using c61 | (simp at c61 ⊢; omega)
  clear c61
  have H' := Aside0.mk H
  clear H
  obtain ⟨Ao62, co62, eo62⟩ := Kd.V_slice HO_4.out
  subst eo62
  go_wp2_with (first | ((with_reducible refine gate_callee (f := 16) rfl ?_); refine goesL_ (some 73) rfl rfl Try.func16 (by kernel_rfl) rfl #[.slice Ao62 x4_1.length co62] rfl (by (try simp only [List.map_toArray, List.map_cons, List.map_nil]); first | done | rfl | (simp only [List.length_drop, List.length_take]; rfl)) ?_; (with_reducible refine (nDrop.calls (fun k_ => some k_ ≠ (u5 : Value).ownBlock) _ _ x4_1 t378 t381 _ ?side1 A60.out).mono ?_); (case side1 => exact HO_4.out); rintro e w63 ⟨v379, v382, rfl, ho0, ho1, hb⟩; refine ⟨_, rfl, ?_⟩; have n0_ := Aside0.mk (Kd.V_below (by (with_reducible repeat (first | apply Kd.V_alloc | apply Kd.V_drewN | apply Kd.V_drew)); exact HO_4.out) hb); have n1_ := Aside0.mk (Kd.R_below (by (with_reducible repeat (first | apply Kd.R_alloc | apply Kd.R_drewN | apply Kd.R_drew)); exact HO_5.out) hb); have n2_ := Aside0.mk (Kd.V_lower (Kd.V_mono (ok' := fun k_ => some k_ ≠ (u5 : Value).ownBlock) ho0 (fun k_ hk_ => Or.elim hk_ (fun hs_ => hs_) (fun hn_ => (Kd.fresh' (Kd.R_lt (by (with_reducible repeat (first | apply Kd.R_alloc | apply Kd.R_drewN | apply Kd.R_drew)); exact HO_5.out)) k_ hn_)))) (below_size (by repeat (first | (with_reducible first | exact HB.out | apply below_alloc | apply pw_below_drewN | apply below_drew1) | exact HB.out)))); have n3_ := Aside0.mk (Kd.V_lower (Kd.V_mono (ok' := fun k_ => some k_ ≠ (u5 : Value).ownBlock) ho1 (fun k_ hk_ => Or.elim hk_ (fun hs_ => hs_) (fun hn_ => (Kd.fresh' (Kd.R_lt (by (with_reducible repeat (first | apply Kd.R_alloc | apply Kd.R_drewN | apply Kd.R_drew)); exact HO_5.out)) k_ hn_)))) (below_size (by repeat (first | (with_reducible first | exact HB.out | apply below_alloc | apply pw_below_drewN | apply below_drew1) | exact HB.out)))); have n4_ := Aside0.mk (below_step (by repeat (first | (with_reducible first | exact HB.out | apply below_alloc | apply pw_below_drewN | apply below_drew1) | exact HB.out)) hb); clear HO_4; clear HO_5; clear HB; have HO_4 := n0_; have HO_5 := n1_; have HO380 := n2_; have HO383 := n3_; have HB := n4_; clear n0_ n1_ n2_ n3_ n4_; (try clear hb); (try clear hb2); (try clear hk); (try clear hi); (try clear ho0); (try clear ho1); obtain ⟨Ao64, co64, eo64⟩ := Kd.V_slice HO383.out; subst eo64; obtain ⟨Ao65, co65, eo65⟩ := Kd.R_slice HO_5.out; subst eo65))
  go_loopg [12] k1 (fun kq v12 w' => ∃ (x12_2 : Int), v12 = .int .i64 x12_2 ∧ Aside0 (hallmootlaw13_NestUndo.l1 kq t338 x5_1 t381 x12_2 = some r) ∧ Aside0 (kq ≤ k1) ∧ Aside0 (Kd.R (Kd.int .i64) 3 w' w.heap.size (fun _ => True) (.slice Ao65 x5_1.length co65) x5_1) ∧ Aside0 (Kd.V k50 50 w' w.heap.size (fun k_ => some k_ ≠ ((.slice Ao65 x5_1.length co65) : Value).ownBlock) (.slice Ao64 t381.length co64) t381) ∧ Aside0 (Below w.heap.size w w'))
  case atStart => exact ⟨(0), (by first | rfl | (simp; done) | (simp [*]; done)), H', ⟨Nat.le_refl _⟩, ⟨by (with_reducible repeat (first | apply Kd.R_alloc | apply Kd.R_drewN | apply Kd.R_drew)); exact HO_5.out⟩, ⟨by (with_reducible repeat (first | apply Kd.V_alloc | apply Kd.V_drewN | apply Kd.V_drew)); exact HO383.out⟩, ⟨by repeat (first | (with_reducible first | exact HB.out | apply below_alloc | apply pw_below_drewN | apply below_drew1) | exact HB.out)⟩⟩
  case round =>
   clear H'
   try clear c1
   try clear c2
   try clear p2
   try clear c3
   try clear c3b0
   try clear c3b1
   try clear p3
   try clear q3
   try clear hx3
   try clear c4
   try clear c5
   try clear c6
   try clear p6
   try clear c8
   try clear c8b0
   try clear c9
   try clear c9b0
   try clear c10
   try clear c10b0
   try clear c10b1
   try clear c12
   try clear c15
   try clear c16
   try clear c20
   try clear c20b0
   try clear c20b1
   try clear c23
   try clear c24
   try clear c25
   try clear p34
   try clear q34
   try clear hx34
   try clear c36
   try clear c36b0
   try clear c36b1
   try clear c41
   try clear c61
   try clear c61b0
   try clear c61b1
   try clear c61b2
   try clear p64
   try clear hcz14_0
   try clear hcz14_1
   try clear hcz14_2
   try clear hcz14_3
   try clear hcz14_4
   try clear hcz16_0
   try clear hcz16_1
   try clear hcz16_2
   try clear hcz16_3
   try clear hcz16_4
   try clear hcz26_0
   try clear hcz26_1
   try clear hcz26_2
   try clear hcz26_3
   try clear hcz26_4
   try clear hcz43_0
   try clear hcz43_1
   try clear hcz43_2
   try clear hcz43_3
   try clear hcz43_4
   try clear hcz52_0
   try clear hcz52_1
   try clear hcz52_2
   try clear hcz52_3
   try clear hcz52_4
   try clear hcz59_0
   try clear hcz59_1
   try clear hcz59_2
   try clear hcz59_3
   try clear hcz59_4
   try clear hfz14_0
   try clear hfz14_1
   try clear hfz14_2
   try clear hfz14_3
   try clear hfz14_4
   try clear hfz16_0
   try clear hfz16_1
   try clear hfz16_2
   try clear hfz16_3
   try clear hfz16_4
   try clear hfz26_0
   try clear hfz26_1
   try clear hfz26_2
   try clear hfz26_3
   try clear hfz26_4
   try clear hfz43_0
   try clear hfz43_1
   try clear hfz43_2
   try clear hfz43_3
   try clear hfz43_4
   try clear hfz52_0
   try clear hfz52_1
   try clear hfz52_2
   try clear hfz52_3
   try clear hfz52_4
   try clear hfz59_0
   try clear hfz59_1
   try clear hfz59_2
   try clear hfz59_3
   try clear hfz59_4
   try clear hx343_0
   try clear p2
   try clear p343
   try clear q343
   obtain ⟨x12_2, rfl, HA, HK2, HO_5, HO_11, HB⟩ := hrel
   cases gk with
   | zero => exact absurd HA.out (by simp [hallmootlaw13_NestUndo.l1])
   | succ k2 => {
   have H := HA.out
   clear HA
   simp only [hallmootlaw13_NestUndo.l1] at H
   by_cases c66 : x12_2 < (t381.length : Int)
   {
   rw [if_pos c66] at H
   have c66b0 : decide (x12_2 < (t381.length : Int)) = true := decide_eq_true c66
   clear c66
   by_cases c67 : 0 ≤ x12_2
   {
   rw [if_pos c67] at H
   have c67b0 : decide (0 ≤ x12_2) = true := decide_eq_true c67
   clear c67
   obtain ⟨ji68, hji68⟩ : ∃ j_ : Int, (wrap64 ((wrap64 ((x5_1.length : Int) - 1)) - x12_2)) = j_ := ⟨_, rfl⟩
   replace H : (if 0 ≤ (ji68) then (if (ji68) < (x5_1.length : Int) then (if ((rd_T50 t381 x12_2).f1) = (rd x5_1 (ji68)) then (hallmootlaw13_NestUndo.l1 k2 t338 x5_1 t381 (wrap64 (x12_2 + 1))) else (none)) else (none)) else (none)) = some r := by first | (rw [hji68] at H; exact H) | (simp only [hji68] at H ⊢; exact H)
   have hji68w : (IntKind.i64.wrap ((wrap64 ((x5_1.length : Int) - 1)) - x12_2)) = ji68 := (i64_w _).trans hji68
   by_cases c69 : 0 ≤ (ji68)
   {
   rw [if_pos c69] at H
   have c69b0 : decide (0 ≤ (ji68)) = true := decide_eq_true c69
   clear c69
   by_cases c70 : (ji68) < (x5_1.length : Int)
   {
   rw [if_pos c70] at H
   have c70b0 : decide ((ji68) < (x5_1.length : Int)) = true := decide_eq_true c70
   clear c70
   by_cases c71 : ((rd_T50 t381 x12_2).f1) = (rd x5_1 (ji68))
   {
   rw [if_pos c71] at H
   have c71b0 : (((rd_T50 t381 x12_2).f1) == (rd x5_1 (ji68))) = true := beq_iff_eq.mpr c71
   have c71b1 : (((rd_T50 t381 x12_2).f1) != (rd x5_1 (ji68))) = false := bne_eq_false_iff_eq.mpr c71
   clear c71
   have H' := Aside0.mk H
   clear H
   try go_wp2
   have n0_ := Aside0.mk (Kd.R_drew HO_5.out)
   have n1_ := Aside0.mk (Kd.V_drew HO_11.out)
   have n2_ := Aside0.mk (below_drew1 HB.out)
   clear HO_5
   clear HO_11
   clear HB
   have HO_5 := n0_
   have HO_11 := n1_
   have HB := n2_
   clear n0_ n1_ n2_
   have p384 : 0 ≤ (x12_2 : Int) := of_decide_eq_true (by first | (with_reducible assumption) | assumption)
   have q384 : x12_2 < (t381.length : Int) := of_decide_eq_true (by first | (with_reducible assumption) | assumption)
   obtain ⟨ad384, A384_3, c384_3, e384, hx384_0, hx384_1, hx384_2, hx384_3, hx384_4, hl384_3, hi384_3⟩ := at_T50 (Kd.V_reads' HO_11.out).2.2 x12_2 p384 q384
   cases e384
   obtain ⟨ce384, hce384, hMe384, hcc384⟩ := Kd.V_get HO_11.out z50 x12_2 p384 (by first | exact q384 | exact of_decide_eq_true (by first | (with_reducible assumption) | assumption) | (have e_ := (Kd.V_reads' HO_11.out).1; omega))
   obtain ⟨ua384_3, uc384_3, rfl, ul384_3, ge384_3⟩ := k50_openF hMe384
   have hv384_3 := hcc384 3 _ rfl
   rw [add_field _ _ 3 (by omega)] at hv384_3
   replace hv384_3 := Option.some.inj (hv384_3.symm.trans hx384_3)
   injection hv384_3 with hva_ hvn_ hvc_
   rw [hva_] at ge384_3
   rw [hvc_] at ul384_3
   have HL384_3 := Aside0.mk (show Kd.V k48 48 _ w.heap.size _ _ ((rd_T50 t381 x12_2).f0.f3) from Kd.V_mk ul384_3 ge384_3)
   clear hva_ hvn_ hvc_ ge384_3 ul384_3
   clear hcc384 hce384
   have HR384_3 := Aside0.mk hi384_3
   have HC384_3 := Aside0.mk hl384_3
   clear hi384_3 hl384_3
   replace p384 := eq_true p384
   replace q384 := eq_true q384
   have p385 : 0 ≤ ((ji68) : Int) := of_decide_eq_true (by first | (with_reducible assumption) | assumption)
   have q385 : (ji68) < (x5_1.length : Int) := of_decide_eq_true (by first | (with_reducible assumption) | assumption)
   obtain ⟨ad385, e385, hx385_0⟩ := Kd.at_int (Kd.R_reads' HO_5.out).2.2 (ji68) p385 q385
   cases e385
   replace p385 := eq_true p385
   replace q385 := eq_true q385
   refine start_ (n := 14) (S := fun w' => w'.cell? (ad384.add ((x12_2).toNat * 5)) = some (.int .i64 ((rd_T50 t381 x12_2).f0.f0)) ∧ w'.cell? ⟨(ad384.add ((x12_2).toNat * 5)).block, (ad384.add ((x12_2).toNat * 5)).off + 1, none⟩ = some (.int .i64 ((rd_T50 t381 x12_2).f0.f1)) ∧ w'.cell? ⟨(ad384.add ((x12_2).toNat * 5)).block, (ad384.add ((x12_2).toNat * 5)).off + 2, none⟩ = some (.int .i64 ((rd_T50 t381 x12_2).f0.f2)) ∧ w'.cell? ⟨(ad384.add ((x12_2).toNat * 5)).block, (ad384.add ((x12_2).toNat * 5)).off + 3, none⟩ = some (.slice A384_3 ((rd_T50 t381 x12_2).f0.f3).length c384_3) ∧ w'.cell? ⟨(ad384.add ((x12_2).toNat * 5)).block, (ad384.add ((x12_2).toNat * 5)).off + 4, none⟩ = some (.int .i64 ((rd_T50 t381 x12_2).f1)) ∧ w'.cell? (ad385.add ((ji68)).toNat) = some (.int .i64 (rd x5_1 (ji68)))) (ds := []) #[false, false, false, false, false, false, false, false, false, false, false, false, false, false] (by kernel_rfl) rfl rfl ⟨hx384_0, hx384_1, hx384_2, hx384_3, hx384_4, hx385_0⟩ (fun hHeld => ?_); refine with_tabW hallmootlaw13_NestUndo.tab28 hallmootlaw13_NestUndo.bits28 (fun HT_ HW_ => ?_)
   generalize wr.drew = w72 at HO_5 HO_11 HB HL384_3 HR384_3 hx384_0 hx384_1 hx384_2 hx384_3 hx384_4 hx385_0 hHeld ⊢
   refine pure_ (i := 0) (N := some 87) (v := ?_) (a' := ?_) #[true, false, false, false, false, false, false, false, false, false, false, false, false, false] rfl rfl (any_of HT_.out (by kernel_rfl)) (fun _ _ _ h => h) (Or.inl ⟨by rfl, ?_⟩) ?_ ?_
   rotate_left
   {
   intro w'
   go_simp
   with_reducible rfl }
   rotate_left
   {
   simp only [Act.put, List.setIfInBounds_toArray, List.set_cons_zero, List.set_cons_succ, i64_w, i32_w]
   rfl }
   refine pure_ (i := 1) (N := some 88) (v := ?_) (a' := ?_) #[true, true, false, false, false, false, false, false, false, false, false, false, false, false] rfl rfl (any_of HT_.out (by kernel_rfl)) (fun _ _ _ h => h) (Or.inl ⟨by rfl, ?_⟩) ?_ ?_
   rotate_left
   {
   intro w'
   go_simp
   with_reducible rfl }
   rotate_left
   {
   simp only [Act.put, List.setIfInBounds_toArray, List.set_cons_zero, List.set_cons_succ, i64_w, i32_w]
   rfl }
   refine pure_ (i := 2) (N := some 89) (v := ?_) (a' := ?_) #[true, true, true, false, false, false, false, false, false, false, false, false, false, false] rfl rfl (any_of HT_.out (by kernel_rfl)) (fun _ _ _ h => h) (Or.inl ⟨by rfl, ?_⟩) ?_ ?_
   rotate_left
   {
   intro w'
   go_simp
   with_reducible rfl }
   rotate_left
   {
   simp only [Act.put, List.setIfInBounds_toArray, List.set_cons_zero, List.set_cons_succ, i64_w, i32_w]
   rfl }
   refine pure_ (i := 3) (N := some 90) (v := ?_) (a' := ?_) #[true, true, true, true, false, false, false, false, false, false, false, false, false, false] rfl rfl (any_of HT_.out (by kernel_rfl)) (fun _ _ _ h => h) (Or.inl ⟨by rfl, ?_⟩) ?_ ?_
   rotate_left
   {
   intro w'
   go_simp
   with_reducible rfl }
   rotate_left
   {
   simp only [Act.put, List.setIfInBounds_toArray, List.set_cons_zero, List.set_cons_succ, i64_w, i32_w]
   rfl }
   refine pure_ (i := 5) (N := some 92) (v := ?_) (a' := ?_) #[true, true, true, true, false, true, false, false, false, false, false, false, false, false] rfl rfl (any_of HT_.out (by kernel_rfl)) (fun _ _ _ h => h) (Or.inl ⟨by rfl, ?_⟩) ?_ ?_
   rotate_left
   {
   intro w'
   go_simp
   with_reducible rfl }
   rotate_left
   {
   simp only [Act.put, List.setIfInBounds_toArray, List.set_cons_zero, List.set_cons_succ, i64_w, i32_w]
   rfl }
   refine pure_ (i := 6) (N := some 93) (v := ?_) (a' := ?_) #[true, true, true, true, false, true, true, false, false, false, false, false, false, false] rfl rfl (any_of HT_.out (by kernel_rfl)) (fun _ _ _ h => h) (Or.inl ⟨by rfl, ?_⟩) ?_ ?_
   rotate_left
   {
   intro w'
   go_simp
   with_reducible rfl }
   rotate_left
   {
   simp only [Act.put, List.setIfInBounds_toArray, List.set_cons_zero, List.set_cons_succ, i64_w, i32_w]
   rfl }
   refine pure_ (i := 7) (N := some 94) (v := ?_) (a' := ?_) #[true, true, true, true, false, true, true, true, false, false, false, false, false, false] rfl rfl (any_of HT_.out (by kernel_rfl)) (fun _ _ _ h => h) (Or.inl ⟨by rfl, ?_⟩) ?_ ?_
   rotate_left
   {
   intro w'
   go_simp
   with_reducible rfl }
   rotate_left
   {
   simp only [Act.put, List.setIfInBounds_toArray, List.set_cons_zero, List.set_cons_succ, i64_w, i32_w]
   rfl }
   refine pure_ (i := 8) (N := some 95) (v := ?_) (a' := ?_) #[true, true, true, true, false, true, true, true, true, false, false, false, false, false] rfl rfl (any_of HT_.out (by kernel_rfl)) (fun _ _ _ h => h) (Or.inl ⟨by rfl, ?_⟩) ?_ ?_
   rotate_left
   {
   intro w'
   go_simp
   with_reducible rfl }
   rotate_left
   {
   simp only [Act.put, List.setIfInBounds_toArray, List.set_cons_zero, List.set_cons_succ, i64_w, i32_w]
   rfl }
   refine pure_ (i := 9) (N := some 96) (v := ?_) (a' := ?_) #[true, true, true, true, false, true, true, true, true, true, false, false, false, false] rfl rfl (any_of HT_.out (by kernel_rfl)) (fun _ _ _ h => h) (Or.inl ⟨by rfl, ?_⟩) ?_ ?_
   rotate_left
   {
   intro w'
   go_simp
   with_reducible rfl }
   rotate_left
   {
   simp only [Act.put, List.setIfInBounds_toArray, List.set_cons_zero, List.set_cons_succ, i64_w, i32_w]
   rfl }
   refine pure_ (i := 10) (N := some 97) (v := ?_) (a' := ?_) #[true, true, true, true, false, true, true, true, true, true, true, false, false, false] rfl rfl (any_of HT_.out (by kernel_rfl)) (fun _ _ _ h => h) (Or.inl ⟨by rfl, ?_⟩) ?_ ?_
   rotate_left
   {
   intro w'
   go_simp
   with_reducible rfl }
   rotate_left
   {
   simp only [Act.put, List.setIfInBounds_toArray, List.set_cons_zero, List.set_cons_succ, i64_w, i32_w]
   rfl }
   refine pure_ (i := 11) (N := some 98) (v := ?_) (a' := ?_) #[true, true, true, true, false, true, true, true, true, true, true, true, false, false] rfl rfl (any_of HT_.out (by kernel_rfl)) (fun _ _ _ h => h) (Or.inl ⟨by rfl, ?_⟩) ?_ ?_
   rotate_left
   {
   intro w'
   go_simp
   with_reducible rfl }
   rotate_left
   {
   simp only [Act.put, List.setIfInBounds_toArray, List.set_cons_zero, List.set_cons_succ, i64_w, i32_w]
   rfl }
   refine take_ (i := 4) (N := some 91) (v := ?_) (a' := ?_) #[true, true, true, true, true, true, true, true, true, true, true, true, false, false] rfl rfl (take_ofW HT_.out HW_.out (by kernel_rfl)) (fun _ _ _ h => h) (Or.inl ⟨by rfl, ?_⟩) hHeld ?_ ?_
   rotate_left
   {
   rintro w' ⟨s0, s1, s2, s3, s4, s5⟩
   go_simp
   with_reducible rfl }
   rotate_left
   {
   simp only [Act.put, List.setIfInBounds_toArray, List.set_cons_zero, List.set_cons_succ, i64_w, i32_w]
   rfl }
   refine take_ (i := 12) (N := some 99) (v := ?_) (a' := ?_) #[true, true, true, true, true, true, true, true, true, true, true, true, true, false] rfl rfl (take_ofW HT_.out HW_.out (by kernel_rfl)) (fun _ _ _ h => h) (Or.inl ⟨by rfl, ?_⟩) hHeld ?_ ?_
   rotate_left
   {
   rintro w' ⟨s0, s1, s2, s3, s4, s5⟩
   go_simp
   with_reducible rfl }
   rotate_left
   {
   simp only [Act.put, List.setIfInBounds_toArray, List.set_cons_zero, List.set_cons_succ, i64_w, i32_w]
   rfl }
   refine pure_ (i := 13) (N := some 100) (v := ?_) (a' := ?_) #[true, true, true, true, true, true, true, true, true, true, true, true, true, true] rfl rfl (any_of HT_.out (by kernel_rfl)) (fun _ _ _ h => h) (Or.inl ⟨by rfl, ?_⟩) ?_ ?_
   rotate_left
   {
   intro w'
   go_simp
   with_reducible rfl }
   rotate_left
   {
   simp only [Act.put, List.setIfInBounds_toArray, List.set_cons_zero, List.set_cons_succ, i64_w, i32_w]
   rfl }
   refine done_ (done_of HT_.out (by kernel_rfl)) ?_
   try go_wp2
   go_roundg k2
   case measure => have := HK1.out; have := HK2.out; omega
   case rel => exact ⟨(wrap64 (x12_2 + 1)), (by first | rfl | (simp; done) | (simp [*]; done)), H', ⟨by have := HK1.out; have := HK2.out; omega⟩, ⟨by (with_reducible repeat (first | apply Kd.R_alloc | apply Kd.R_drewN | apply Kd.R_drew)); exact HO_5.out⟩, ⟨by (with_reducible repeat (first | apply Kd.V_alloc | apply Kd.V_drewN | apply Kd.V_drew)); exact HO_11.out⟩, ⟨by repeat (first | (with_reducible first | exact HB.out | apply below_alloc | apply pw_below_drewN | apply below_drew1) | exact HB.out)⟩⟩ }
   {
   rw [if_neg c71] at H
   exact absurd H (by simp) } }
   {
   rw [if_neg c70] at H
   exact absurd H (by simp) } }
   {
   rw [if_neg c69] at H
   exact absurd H (by simp) } }
   {
   rw [if_neg c67] at H
   exact absurd H (by simp) } }
   {
   rw [if_neg c66] at H
   have c66b0 : decide (x12_2 < (t381.length : Int)) = false := decide_eq_false c66
   clear c66
   obtain rfl := Option.some.inj H
   go_wp2
   go_ret
   exact ⟨by first | rfl | (simp [errW_none, errW_some] <;> rfl) | (simp [*, errW_none, errW_some] <;> rfl), by repeat (first | (with_reducible first | exact HB.out | apply below_alloc | apply pw_below_drewN | apply below_drew1) | exact HB.out)⟩ } } }
  {
  rw [if_neg c61] at H
  exact absurd H (by simp) } } } }

/-- THE ONE PURE STATEMENT of hallmootlaw13_NestUndo: yours. -/
def hallmootlaw13_NestUndo.Pure : Prop := ∀ (l0 : List Int), l0.length ≤ maxLen → l0.length * 1 ≤ 140737488351232 → (∀ x ∈ l0, (Lit.int .u8 x).wf = true) → ∃ k, hallmootlaw13_NestUndo.f k l0 = some true
theorem hallmootlaw13_NestUndo.walk (P : hallmootlaw13_NestUndo.Pure) (a0 : Option Addr) (len0 cap0 : Nat) (z0 : List Int) (w : World) (w0 : (a0 = none ∧ len0 = 0 ∧ cap0 = 0 ∧ z0 = []) ∨ ∃ x, a0 = some x ∧ len0 ≤ cap0 ∧ cap0 ≤ maxLen ∧ z0.length = cap0 ∧ (∀ i, i < z0.length → w.cell? (x.add i) = some (.int .u8 (z0.getD i 0))) ∧ ∀ n ∈ z0, (Lit.int .u8 n).wf = true) (y0 : len0 * 1 ≤ 140737488351232) : Calls Try.prog 6 #[.slice a0 len0 cap0] w fun e w' => e = .returned (.bool true) ∧ Below w.heap.size w w' := by
 obtain ⟨l0, rfl, hr0, hm0, hw0, hc0⟩ := ReadsInt.ofRowC w0
 obtain ⟨k, h⟩ := P l0 hm0 y0 hw0
 refine (hallmootlaw13_NestUndo.calls k _ _ l0 true w (Kd.C_of_reads (d := (0 : Int)) (h1 := fun _ => rfl) hr0) hc0 h).mono ?_
 rintro e w' ⟨rfl, hd⟩
 exact ⟨rfl, hd⟩

end Go.Proofs.Ytfojpobblebigaa.P
