-- Written by pp.py (this session's program over the kit's printer): functions, contracts. Not trusted: Lean checks it.
import Derived.Test.YtcnclgneldonfaaDoorPx0
import Derived.Test.YtcnclgneldonfaaDoorYZ
import Derived.Test.YtcnclgneldonfaaDoorPx2
import Derived.Test.YtcnclgneldonfaaDoorHc
import Derived.Test.YtcnclgneldonfaaDoorHd
namespace Go.Proofs.YtcnclgneldonfaaDoor.P
open Go.RowKit Go.Proofs.YtcnclgneldonfaaDoorW.PrintWords Go.Proofs.YtcnclgneldonfaaDoorW.PrintLast Go.Proofs.YtcnclgneldonfaaDoorW.PrintMore
attribute [local go_sem] max2_int min2_int max_two min_two max_three min_three max_four min_four   -- for this text's walks alone
set_option linter.unusedVariables false
set_option linter.unusedSimpArgs false

/-! ### script_word_crash: function 29 -/
mutual
def script_word_crash.j0 : Nat → ByteArray → Bool → Int → Int → Int → Option (Int × Int × Int × List Int × Int)
  | 0, _, _, _, _, _ => none
  | k + 1, x6, x22, x366000, x366001, x366002 => if x22 = true then (some (x366000, x366001, x366002, ([] : List Int), 0)) else (if x6.toList = ([] : List UInt8) then (some (x366000, x366001, x366002, ([] : List Int), 1)) else ((sSplit.f x6 (⟨#[44]⟩ : ByteArray)).bind fun t369 => (script_word_crash.l0 k t369 (t369.length : Int) 0 x366000 x366001 x366002 ([] : List Int))))
def script_word_crash.l0 : Nat → List ByteArray → Int → Int → Int → Int → Int → List Int → Option (Int × Int × Int × List Int × Int)
  | 0, _, _, _, _, _, _, _ => none
  | k + 1, x28, x29, x30, x366000, x366001, x366002, x366003 => if x30 < x29 then (if 0 ≤ x30 then (if x30 < (x28.length : Int) then ((sNum.f (rdOf ByteArray.empty x28 x30) 32).bind fun t373 => (if x366003.length < 17592186044416 then (script_word_crash.l0 k x28 x29 (wrap64 (x30 + 1)) x366000 x366001 x366002 (x366003 ++ [t373])) else (none))) else (none)) else (none)) else ((script_Right.f k 1 x366000 x366001 x366002 x366003).bind fun t377 => (if t377 = true then (some (x366000, x366001, x366002, x366003, 1)) else (some (x366000, x366001, x366002, x366003, 0))))
end
def script_word_crash.f (k : Nat) (a0 : ByteArray) : Option (Int × Int × Int × List Int × Int) := (sCut.f a0 (⟨#[33]⟩ : ByteArray)).bind fun bt366 => (if bt366.2.2 = true then (script_word_crash.j0 k bt366.2.1 (bt366.1.toList != ([] : List UInt8)) 3 0 0) else (script_word_crash.j0 k bt366.2.1 true 3 0 0))
theorem script_word_crash.mono_l : ∀ k, (∀ y0 y1 y2 y3 y4, LeO (script_word_crash.j0 k y0 y1 y2 y3 y4) (script_word_crash.j0 (k + 1) y0 y1 y2 y3 y4)) ∧ (∀ y0 y1 y2 y3 y4 y5 y6, LeO (script_word_crash.l0 k y0 y1 y2 y3 y4 y5 y6) (script_word_crash.l0 (k + 1) y0 y1 y2 y3 y4 y5 y6))
  | 0 => ⟨fun _ _ _ _ _ r h => by simp [script_word_crash.j0] at h, fun _ _ _ _ _ _ _ r h => by simp [script_word_crash.l0] at h⟩
  | k + 1 => by
    obtain ⟨ih0, ih1⟩ := script_word_crash.mono_l k
    refine ⟨?_, ?_⟩
    · intro y0 y1 y2 y3 y4
      unfold script_word_crash.j0
      repeat' first
      | (with_reducible exact ih0 _ _ _ _ _)
      | (with_reducible exact ih1 _ _ _ _ _ _ _)
      | (with_reducible exact script_Right.mono _ _ _ _ _ _)
      | (with_reducible exact LeO.refl _)
      | (with_reducible exact LeO.none _)
      | (with_reducible refine LeO.ite ?_ ?_)
      | (with_reducible refine LeO.bind ?_ (fun _ => ?_))
      | exact ih0 _ _ _ _ _
      | exact ih1 _ _ _ _ _ _ _
      | exact script_Right.mono _ _ _ _ _ _
      | exact LeO.none _
      | refine LeO.ite ?_ ?_
      | refine LeO.bind ?_ (fun _ => ?_)
    · intro y0 y1 y2 y3 y4 y5 y6
      unfold script_word_crash.l0
      repeat' first
      | (with_reducible exact ih0 _ _ _ _ _)
      | (with_reducible exact ih1 _ _ _ _ _ _ _)
      | (with_reducible exact script_Right.mono _ _ _ _ _ _)
      | (with_reducible exact LeO.refl _)
      | (with_reducible exact LeO.none _)
      | (with_reducible refine LeO.ite ?_ ?_)
      | (with_reducible refine LeO.bind ?_ (fun _ => ?_))
      | exact ih0 _ _ _ _ _
      | exact ih1 _ _ _ _ _ _ _
      | exact script_Right.mono _ _ _ _ _ _
      | exact LeO.none _
      | refine LeO.ite ?_ ?_
      | refine LeO.bind ?_ (fun _ => ?_)
theorem script_word_crash.mono : ∀ a0 k, LeO (script_word_crash.f k a0) (script_word_crash.f (k + 1) a0) := by
 intro a0 k
 obtain ⟨ih0, ih1⟩ := script_word_crash.mono_l k
 unfold script_word_crash.f
 repeat' first | (with_reducible exact ih0 _ _ _ _ _) | (with_reducible exact ih1 _ _ _ _ _ _ _) | (with_reducible exact script_Right.mono _ _ _ _ _ _) | (with_reducible exact LeO.refl _) | (with_reducible exact LeO.none _) | (with_reducible refine LeO.ite ?_ ?_) | (with_reducible refine LeO.bind ?_ (fun _ => ?_)) | exact ih0 _ _ _ _ _ | exact ih1 _ _ _ _ _ _ _ | exact script_Right.mono _ _ _ _ _ _ | exact LeO.none _ | refine LeO.ite ?_ ?_ | refine LeO.bind ?_ (fun _ => ?_)
def script_word_crash.T10 : Bool × List (List Nat × List Nat) := (true, [([], []), ([0], [0]), ([], []), ([2], [2]), ([3], [3]), ([1, 4, 3], [1, 4]), ([0, 1, 2, 3, 4, 5], []), ([6, 5, 5, 0, 1, 2, 3, 4, 5], [5, 6])])
def script_word_crash.B10 : List Nat := [0, 1, 0, 4, 12, 31, 63, 127]
theorem script_word_crash.tab10 : rtab .any (opsOf Tryd.f29 10) = script_word_crash.T10 := by kernel_rfl
theorem script_word_crash.bits10 : waitsOk script_word_crash.T10.2 script_word_crash.B10 = true := by kernel_rfl
set_option maxHeartbeats 8000000 in
set_option maxRecDepth 100000 in
theorem script_word_crash.calls (k : Nat) (a0 : ByteArray) (r1 : Int) (r2 : Int) (r3 : Int) (r4 : List Int) (r5 : Int) (w : World) (h : script_word_crash.f k a0 = some (r1, r2, r3, r4, r5)) (hL : Laid w) : Calls Tryd.prog 29 #[.string a0] w fun e w' => ∃ v3_ : Value, e = .returned (.tuple #[.agg #[.int .i64 r1, .int .i64 r2, .int .i64 r3, v3_], .int .i64 r5]) ∧ Kd.R (Kd.int .i64) 3 w' w.heap.size (fun _ => True) v3_ r4 ∧ Below w.heap.size w w' := by
 have hu26 := Tryd.underlying26
 have HB := aS (Below.refl w.heap.size w)
 have H : ((sCut.f a0 (⟨#[33]⟩ : ByteArray)).bind fun bt366 => (if bt366.2.2 = true then (script_word_crash.j0 k bt366.2.1 (bt366.1.toList != ([] : List UInt8)) 3 0 0) else (script_word_crash.j0 k bt366.2.1 true 3 0 0))) = some (r1, r2, r3, r4, r5) := h
 clear h
 replace H := Option.bind_eq_some_iff.mp H
 obtain ⟨⟨t366, t367, t368⟩, A20, H⟩ := H
 replace H : (if t368 = true then (script_word_crash.j0 k t367 (t366.toList != ([] : List UInt8)) 3 0 0) else (script_word_crash.j0 k t367 true 3 0 0)) = some (r1, r2, r3, r4, r5) := H
 have A2 := aS A20
 clear A20
 have HC3 := aS H
 clear H
 go_enter Tryd.func29, Tryd.ntmps29
 go_upto_region 3 with (first | ((with_reducible refine gate_dst (N := 2) rfl ?_); refine box_event ?hg (N := 2) ?hd (cs := #[.int .i64 0, .int .i64 0, .int .i64 0, .slice none 0 0]) (t := 26) ?hr ?_; (case hd => rfl); (case hg => rfl); (case hr => first | (go_simp; done) | (go_simp; rfl)); intro gb364 hg w4 hbox hb; have n0_ := aS (below_step bb hb); have n1_ := aS (hbox); have n2_ := aS ((by rw [hg]; exact bz : w.heap.size ≤ gb364)); have n3_ := aS ((by rw [hg]; exact bz : w.heap.size ≤ gb364)); clear HB; have HB := n0_; have BK364 := n1_; have GW364 := n2_; have GE364 := n3_; clear n0_ n1_ n2_ n3_; clear hb hbox hg) | ((with_reducible refine gate_dst (N := 4) rfl ?_); refine box_event ?hg (N := 4) ?hd (cs := #[.int .i64 0, .int .i64 0, .int .i64 0, .slice none 0 0]) (t := 26) ?hr ?_; (case hd => rfl); (case hg => rfl); (case hr => first | (go_simp; done) | (go_simp; rfl)); intro gb365 hg w5 hbox hb; have n0_ := aS (kb BK364.out hb); have n1_ := aS (below_step bb hb); have n2_ := aS (hbox); have n3_ := aS ((by rw [hg]; exact bz : w.heap.size ≤ gb365)); have n4_ := aS ((by rw [hg]; exact bz : w.heap.size ≤ gb365)); have n5_ := aS ((by rw [hg]; exact Nat.ne_of_lt (blk_lt (g := gb364) (o := .cells #[.int .i64 0, .int .i64 0, .int .i64 0, .slice none 0 0] 26 (0, 0)) (kk BK364.out)) : gb364 ≠ gb365)); have n6_ := aS ((by rw [hg]; exact Nat.ne_of_gt (blk_lt (g := gb364) (o := .cells #[.int .i64 0, .int .i64 0, .int .i64 0, .slice none 0 0] 26 (0, 0)) (kk BK364.out)) : gb365 ≠ gb364)); clear BK364; clear HB; have BK364 := n0_; have HB := n1_; have BK365 := n2_; have GW365 := n3_; have GE365 := n4_; have NB364_365 := n5_; have NB365_364 := n6_; clear n0_ n1_ n2_ n3_ n4_ n5_ n6_; clear hb hbox hg; have hnb6 := NB365_364.out; have hnc6 := NB364_365.out; have hcz7_0 : w5.cell? ⟨gb365, 0, none⟩ = some (.int .i64 0) := (blk_cell BK365.out 0).trans rfl; have hcz7_1 : w5.cell? ⟨gb365, 1, none⟩ = some (.int .i64 0) := (blk_cell BK365.out 1).trans rfl; have hcz7_2 : w5.cell? ⟨gb365, 2, none⟩ = some (.int .i64 0) := (blk_cell BK365.out 2).trans rfl; have hcz7_3 : w5.cell? ⟨gb365, 3, none⟩ = some (.slice none 0 0) := (blk_cell BK365.out 3).trans rfl; have hfz7_0 := blk_frozen BK365.out 0; have hfz7_1 := blk_frozen BK365.out 1; have hfz7_2 := blk_frozen BK365.out 2; have hfz7_3 := blk_frozen BK365.out 3) | ((with_reducible refine gate_callee (f := 36) rfl ?_); refine goesL_ (some 13) rfl rfl Tryd.func36 (by kernel_rfl) rfl #[.string a0, .string (⟨#[33]⟩ : ByteArray)] rfl (by (try simp only [List.map_toArray, List.map_cons, List.map_nil]); first | done | rfl | (simp only [List.length_drop, List.length_take]; rfl)) ?_; (with_reducible refine (sCut.calls a0 (⟨#[33]⟩ : ByteArray) t366 t367 t368 _ A2.out (hL.below bb)).mono ?_); rintro e w8 ⟨rfl, hb⟩; refine ⟨_, rfl, ?_⟩; have n0_ := aS (blk_below (g := gb364) (o := .cells #[.int .i64 0, .int .i64 0, .int .i64 0, .slice none 0 0] 26 (0, 0)) (by (with_reducible repeat (first | refine blk_drewN ?_ _ | refine blk_drew ?_ | refine blk_alloc ?_ _)); refine blk_far ?_ NB364_365.out _; (with_reducible repeat (first | refine blk_drewN ?_ _ | refine blk_drew ?_ | refine blk_alloc ?_ _)); refine blk_far ?_ NB364_365.out _; (with_reducible repeat (first | refine blk_drewN ?_ _ | refine blk_drew ?_ | refine blk_alloc ?_ _)); refine blk_far ?_ NB364_365.out _; (with_reducible repeat (first | refine blk_drewN ?_ _ | refine blk_drew ?_ | refine blk_alloc ?_ _)); refine blk_far ?_ NB364_365.out _; (with_reducible repeat (first | refine blk_drewN ?_ _ | refine blk_drew ?_ | refine blk_alloc ?_ _)); exact BK364.out) hb); have n1_ := aS (blk_below (g := gb365) (o := .cells #[.int .i64 3, .int .i64 0, .int .i64 0, .slice none 0 0] 26 (0, 0)) (by (with_reducible repeat (first | refine blk_drewN ?_ _ | refine blk_drew ?_ | refine blk_alloc ?_ _)); refine blk_put (cs := #[.int .i64 3, .int .i64 0, .int .i64 0, .slice none 0 0]) ?_ 3 _ rfl; (with_reducible repeat (first | refine blk_drewN ?_ _ | refine blk_drew ?_ | refine blk_alloc ?_ _)); refine blk_put (cs := #[.int .i64 3, .int .i64 0, .int .i64 0, .slice none 0 0]) ?_ 2 _ rfl; (with_reducible repeat (first | refine blk_drewN ?_ _ | refine blk_drew ?_ | refine blk_alloc ?_ _)); refine blk_put (cs := #[.int .i64 3, .int .i64 0, .int .i64 0, .slice none 0 0]) ?_ 1 _ rfl; (with_reducible repeat (first | refine blk_drewN ?_ _ | refine blk_drew ?_ | refine blk_alloc ?_ _)); refine blk_put (cs := #[.int .i64 0, .int .i64 0, .int .i64 0, .slice none 0 0]) ?_ 0 _ rfl; (with_reducible repeat (first | refine blk_drewN ?_ _ | refine blk_drew ?_ | refine blk_alloc ?_ _)); exact BK365.out) hb); have n2_ := aS (below_step bb hb); clear BK364; clear BK365; clear HB; have BK364 := n0_; have BK365 := n1_; have HB := n2_; clear n0_ n1_ n2_; (try clear hb); (try clear hb2); (try clear hk); (try clear hi)))
 (try simp only [Act.put, List.setIfInBounds_toArray, List.set_cons_zero, List.set_cons_succ])
 go_cut [22] (fun v22 wc => ∃ (kq : Nat) (x22_2 : Bool), v22 = .bool x22_2 ∧ Aside0 (script_word_crash.j0 kq t367 x22_2 3 0 0 = some (r1, r2, r3, r4, r5)) ∧ Aside0 (kq ≤ k) ∧ Aside0 (wc.heap[gb364]? = some (.cells #[.int .i64 0, .int .i64 0, .int .i64 0, (.slice none 0 0)] 26 (0, 0))) ∧ Aside0 (wc.heap[gb365]? = some (.cells #[.int .i64 3, .int .i64 0, .int .i64 0, (.slice none 0 0)] 26 (0, 0))) ∧ Aside0 (Below w.heap.size w wc))
 case first =>
  have H := HC3.out
  clear HC3
  by_cases c9 : t368 = true
  {
  subst c9
  have H1 : (script_word_crash.j0 k t367 (t366.toList != ([] : List UInt8)) 3 0 0) = some (r1, r2, r3, r4, r5) := by rw [if_pos rfl] at H; exact H
  clear H
  have H := H1
  clear H1
  have H' := aS H
  clear H
  go_wp2
  go_meet
  case rel => exact ⟨_, ((t366.toList != ([] : List UInt8))), (by first | rfl | (simp; done) | (simp [*]; done) | (generalize ByteArray.toList _ = q_; cases q_ <;> rfl)), H', ⟨by first | omega | exact Nat.le_refl _⟩, ⟨kk BK364.out⟩, ⟨kk BK365.out⟩, ⟨by repeat (first | (with_reducible first | exact HB.out | apply below_alloc | apply pw_below_drewN | apply below_drew1 | refine below_set ?_ GE364.out | refine below_set ?_ GE365.out) | exact HB.out)⟩⟩ }
  {
  replace c9 := Bool.eq_false_iff.mpr c9
  subst c9
  have H1 : (script_word_crash.j0 k t367 true 3 0 0) = some (r1, r2, r3, r4, r5) := by rw [if_neg (show ¬ (false = true) by decide)] at H; exact H
  clear H
  have H := H1
  clear H1
  have H' := aS H
  clear H
  go_wp2
  go_meet
  case rel => exact ⟨_, (true), (by first | rfl | (simp; done) | (simp [*]; done) | (generalize ByteArray.toList _ = q_; cases q_ <;> rfl)), H', ⟨by first | omega | exact Nat.le_refl _⟩, ⟨kk BK364.out⟩, ⟨kk BK365.out⟩, ⟨by repeat (first | (with_reducible first | exact HB.out | apply below_alloc | apply pw_below_drewN | apply below_drew1 | refine below_set ?_ GE364.out | refine below_set ?_ GE365.out) | exact HB.out)⟩⟩ }
 case rest =>
  clear HC3
  try clear c2
  try clear p2
  try clear c3
  try clear c6
  try clear c9
  try clear hcz7_0
  try clear hcz7_1
  try clear hcz7_2
  try clear hcz7_3
  try clear hfz7_0
  try clear hfz7_1
  try clear hfz7_2
  try clear hfz7_3
  obtain ⟨kq, x22_2, rfl, HA, HJ2, BK364, BK365, HB⟩ := hcut
  cases kq with
  | zero => exact absurd HA.out (by simp [script_word_crash.j0])
  | succ kj2 => {
  have H := HA.out
  clear HA
  simp only [script_word_crash.j0] at H
  by_cases c10 : x22_2 = true
  {
  subst c10
  have H1 : (some (3, 0, 0, ([] : List Int), 0)) = some (r1, r2, r3, r4, r5) := by rw [if_pos rfl] at H; exact H
  clear H
  have H := H1
  clear H1
  simp only [Option.some.injEq, Prod.mk.injEq] at H
  obtain ⟨rfl, rfl, rfl, rfl, rfl⟩ := H
  have hnb11 := NB365_364.out
  have hnc11 := NB364_365.out
  have hcz12_0 : wc.cell? ⟨gb365, 0, none⟩ = some (.int .i64 3) := (blk_cell BK365.out 0).trans rfl
  have hcz12_1 : wc.cell? ⟨gb365, 1, none⟩ = some (.int .i64 0) := (blk_cell BK365.out 1).trans rfl
  have hcz12_2 : wc.cell? ⟨gb365, 2, none⟩ = some (.int .i64 0) := (blk_cell BK365.out 2).trans rfl
  have hcz12_3 : wc.cell? ⟨gb365, 3, none⟩ = some (.slice none 0 0) := (blk_cell BK365.out 3).trans rfl
  have hfz12_0 := blk_frozen BK365.out 0
  have hfz12_1 := blk_frozen BK365.out 1
  have hfz12_2 := blk_frozen BK365.out 2
  have hfz12_3 := blk_frozen BK365.out 3
  have hcz13_0 : wc.cell? ⟨gb364, 0, none⟩ = some (.int .i64 0) := (blk_cell BK364.out 0).trans rfl
  have hcz13_1 : wc.cell? ⟨gb364, 1, none⟩ = some (.int .i64 0) := (blk_cell BK364.out 1).trans rfl
  have hcz13_2 : wc.cell? ⟨gb364, 2, none⟩ = some (.int .i64 0) := (blk_cell BK364.out 2).trans rfl
  have hcz13_3 : wc.cell? ⟨gb364, 3, none⟩ = some (.slice none 0 0) := (blk_cell BK364.out 3).trans rfl
  have hfz13_0 := blk_frozen BK364.out 0
  have hfz13_1 := blk_frozen BK364.out 1
  have hfz13_2 := blk_frozen BK364.out 2
  have hfz13_3 := blk_frozen BK364.out 3
  go_wp2
  refine bodyPost_ret (results_ct rfl _ _ gb364 26 #[.int .i64 3, .int .i64 0, .int .i64 0, .slice none 0 0] (0, 0) _ rfl (by (with_reducible repeat (first | refine blk_drewN ?_ _ | refine blk_drew ?_ | refine blk_alloc ?_ _)); refine blk_put (cs := #[.int .i64 3, .int .i64 0, .int .i64 0, .slice none 0 0]) ?_ 3 _ rfl; (with_reducible repeat (first | refine blk_drewN ?_ _ | refine blk_drew ?_ | refine blk_alloc ?_ _)); refine blk_put (cs := #[.int .i64 3, .int .i64 0, .int .i64 0, .slice none 0 0]) ?_ 2 _ rfl; (with_reducible repeat (first | refine blk_drewN ?_ _ | refine blk_drew ?_ | refine blk_alloc ?_ _)); refine blk_put (cs := #[.int .i64 3, .int .i64 0, .int .i64 0, .slice none 0 0]) ?_ 1 _ rfl; (with_reducible repeat (first | refine blk_drewN ?_ _ | refine blk_drew ?_ | refine blk_alloc ?_ _)); refine blk_put (cs := #[.int .i64 0, .int .i64 0, .int .i64 0, .slice none 0 0]) ?_ 0 _ rfl; (with_reducible repeat (first | refine blk_drewN ?_ _ | refine blk_drew ?_ | refine blk_alloc ?_ _)); exact BK364.out) Tryd.underlying26 rfl (by kernel_rfl)) rfl ?_
  exact ⟨_, by first | rfl | (simp [errW_none, errW_some] <;> rfl) | (simp [*, errW_none, errW_some] <;> rfl), by first | exact Kd.R_nil _ _ _ _ _ | exact Kd.N_nil _ _ _ _ _ | exact Kd.V_nil _ _ _ _ _ | exact Kd.Q_nil _ _ _ _ _ | exact Kd.S_nil _ _ _ _ _, by repeat (first | (with_reducible first | exact HB.out | apply below_alloc | apply pw_below_drewN | apply below_drew1 | refine below_set ?_ GE364.out | refine below_set ?_ GE365.out) | exact HB.out)⟩ }
  {
  replace c10 := Bool.eq_false_iff.mpr c10
  subst c10
  have H1 : (if t367.toList = ([] : List UInt8) then (some (3, 0, 0, ([] : List Int), 1)) else ((sSplit.f t367 (⟨#[44]⟩ : ByteArray)).bind fun t369 => (script_word_crash.l0 kj2 t369 (t369.length : Int) 0 3 0 0 ([] : List Int)))) = some (r1, r2, r3, r4, r5) := by rw [if_neg (show ¬ (false = true) by decide)] at H; exact H
  clear H
  have H := H1
  clear H1
  by_cases c14 : t367.toList = ([] : List UInt8)
  {
  rw [if_pos c14] at H
  have c14b0 : (t367.toList == ([] : List UInt8)) = true := beq_iff_eq.mpr c14
  have c14b1 : (t367.toList != ([] : List UInt8)) = false := bne_eq_false_iff_eq.mpr c14
  clear c14
  simp only [Option.some.injEq, Prod.mk.injEq] at H
  obtain ⟨rfl, rfl, rfl, rfl, rfl⟩ := H
  have hnb15 := NB365_364.out
  have hnc15 := NB364_365.out
  have hcz16_0 : wc.cell? ⟨gb365, 0, none⟩ = some (.int .i64 3) := (blk_cell BK365.out 0).trans rfl
  have hcz16_1 : wc.cell? ⟨gb365, 1, none⟩ = some (.int .i64 0) := (blk_cell BK365.out 1).trans rfl
  have hcz16_2 : wc.cell? ⟨gb365, 2, none⟩ = some (.int .i64 0) := (blk_cell BK365.out 2).trans rfl
  have hcz16_3 : wc.cell? ⟨gb365, 3, none⟩ = some (.slice none 0 0) := (blk_cell BK365.out 3).trans rfl
  have hfz16_0 := blk_frozen BK365.out 0
  have hfz16_1 := blk_frozen BK365.out 1
  have hfz16_2 := blk_frozen BK365.out 2
  have hfz16_3 := blk_frozen BK365.out 3
  have hcz17_0 : wc.cell? ⟨gb364, 0, none⟩ = some (.int .i64 0) := (blk_cell BK364.out 0).trans rfl
  have hcz17_1 : wc.cell? ⟨gb364, 1, none⟩ = some (.int .i64 0) := (blk_cell BK364.out 1).trans rfl
  have hcz17_2 : wc.cell? ⟨gb364, 2, none⟩ = some (.int .i64 0) := (blk_cell BK364.out 2).trans rfl
  have hcz17_3 : wc.cell? ⟨gb364, 3, none⟩ = some (.slice none 0 0) := (blk_cell BK364.out 3).trans rfl
  have hfz17_0 := blk_frozen BK364.out 0
  have hfz17_1 := blk_frozen BK364.out 1
  have hfz17_2 := blk_frozen BK364.out 2
  have hfz17_3 := blk_frozen BK364.out 3
  go_wp2
  refine bodyPost_ret (results_ct rfl _ _ gb364 26 #[.int .i64 3, .int .i64 0, .int .i64 0, .slice none 0 0] (0, 0) _ rfl (by (with_reducible repeat (first | refine blk_drewN ?_ _ | refine blk_drew ?_ | refine blk_alloc ?_ _)); refine blk_put (cs := #[.int .i64 3, .int .i64 0, .int .i64 0, .slice none 0 0]) ?_ 3 _ rfl; (with_reducible repeat (first | refine blk_drewN ?_ _ | refine blk_drew ?_ | refine blk_alloc ?_ _)); refine blk_put (cs := #[.int .i64 3, .int .i64 0, .int .i64 0, .slice none 0 0]) ?_ 2 _ rfl; (with_reducible repeat (first | refine blk_drewN ?_ _ | refine blk_drew ?_ | refine blk_alloc ?_ _)); refine blk_put (cs := #[.int .i64 3, .int .i64 0, .int .i64 0, .slice none 0 0]) ?_ 1 _ rfl; (with_reducible repeat (first | refine blk_drewN ?_ _ | refine blk_drew ?_ | refine blk_alloc ?_ _)); refine blk_put (cs := #[.int .i64 0, .int .i64 0, .int .i64 0, .slice none 0 0]) ?_ 0 _ rfl; (with_reducible repeat (first | refine blk_drewN ?_ _ | refine blk_drew ?_ | refine blk_alloc ?_ _)); exact BK364.out) Tryd.underlying26 rfl (by kernel_rfl)) rfl ?_
  exact ⟨_, by first | rfl | (simp [errW_none, errW_some] <;> rfl) | (simp [*, errW_none, errW_some] <;> rfl), by first | exact Kd.R_nil _ _ _ _ _ | exact Kd.N_nil _ _ _ _ _ | exact Kd.V_nil _ _ _ _ _ | exact Kd.Q_nil _ _ _ _ _ | exact Kd.S_nil _ _ _ _ _, by repeat (first | (with_reducible first | exact HB.out | apply below_alloc | apply pw_below_drewN | apply below_drew1 | refine below_set ?_ GE364.out | refine below_set ?_ GE365.out) | exact HB.out)⟩ }
  {
  rw [if_neg c14] at H
  have c14b0 : (t367.toList == ([] : List UInt8)) = false := beq_eq_false_iff_ne.mpr c14
  have c14b1 : (t367.toList != ([] : List UInt8)) = true := bne_iff_ne.mpr c14
  replace H := Option.bind_eq_some_iff.mp H
  obtain ⟨t369, A180, H⟩ := H
  replace H : (script_word_crash.l0 kj2 t369 (t369.length : Int) 0 3 0 0 ([] : List Int)) = some (r1, r2, r3, r4, r5) := H
  have A18 := aS A180
  clear A180
  have H' := aS H
  clear H
  go_wp2_with (first | ((with_reducible refine gate_callee (f := 38) rfl ?_); refine goesL_ (some 28) rfl rfl Tryd.func38 (by kernel_rfl) rfl #[.string t367, .string (⟨#[44]⟩ : ByteArray)] rfl (by (try simp only [List.map_toArray, List.map_cons, List.map_nil]); first | done | rfl | (simp only [List.length_drop, List.length_take]; rfl)) ?_; (with_reducible refine (sSplit.calls t367 (⟨#[44]⟩ : ByteArray) t369 _ A18.out (hL.below bb)).mono ?_); rintro e w19 ⟨v370, rfl, ho0, hb⟩; refine ⟨_, rfl, ?_⟩; have n0_ := aS (Kd.R_lower ho0 bz); have n1_ := aS (kb BK364.out hb); have n2_ := aS (kb BK365.out hb); have n3_ := aS (below_step bb hb); clear BK364; clear BK365; clear HB; have HO371 := n0_; have BK364 := n1_; have BK365 := n2_; have HB := n3_; clear n0_ n1_ n2_ n3_; (try clear hb); (try clear hb2); (try clear hk); (try clear hi); (try clear ho0); obtain ⟨Ao20, co20, eo20⟩ := Kd.R_slice HO371.out; subst eo20))
  go_loopg [30] kj2 (fun kq v30 w' => ∃ (x30_2 : Int) (x366003_2 : List Int) (u366003 : Value), v30 = .int .i64 x30_2 ∧ Aside0 (script_word_crash.l0 kq t369 (t369.length : Int) x30_2 3 0 0 x366003_2 = some (r1, r2, r3, r4, r5)) ∧ Aside0 (kq ≤ kj2) ∧ Aside0 (Kd.R Kd.string 9 w' w.heap.size (fun _ => True) (.slice Ao20 t369.length co20) t369) ∧ Aside0 (Kd.R (Kd.int .i64) 3 w' w.heap.size (fun _ => True) u366003 x366003_2) ∧ Aside0 (w'.heap[gb364]? = some (.cells #[.int .i64 0, .int .i64 0, .int .i64 0, (.slice none 0 0)] 26 (0, 0))) ∧ Aside0 (w'.heap[gb365]? = some (.cells #[.int .i64 3, .int .i64 0, .int .i64 0, u366003] 26 (0, 0))) ∧ Aside0 (Below w.heap.size w w'))
  case atStart => exact ⟨(0), (([] : List Int)), (.slice none 0 0), (by first | rfl | (simp; done) | (simp [*]; done) | (generalize ByteArray.toList _ = q_; cases q_ <;> rfl)), H', ⟨Nat.le_refl _⟩, ⟨by (with_reducible repeat (first | apply Kd.R_alloc | apply Kd.R_drewN | apply Kd.R_drew)); exact HO371.out⟩, ⟨by first | exact Kd.R_nil _ _ _ _ _ | exact Kd.N_nil _ _ _ _ _ | exact Kd.V_nil _ _ _ _ _ | exact Kd.Q_nil _ _ _ _ _ | exact Kd.S_nil _ _ _ _ _⟩, ⟨kk BK364.out⟩, ⟨kk BK365.out⟩, ⟨by repeat (first | (with_reducible first | exact HB.out | apply below_alloc | apply pw_below_drewN | apply below_drew1 | refine below_set ?_ GE364.out | refine below_set ?_ GE365.out) | exact HB.out)⟩⟩
  case round =>
   clear H'
   try clear c1
   try clear c2
   try clear p2
   try clear c3
   try clear c6
   try clear c9
   try clear c10
   try clear c11
   try clear c14
   try clear c14b0
   try clear c14b1
   try clear c15
   try clear hcz12_0
   try clear hcz12_1
   try clear hcz12_2
   try clear hcz12_3
   try clear hcz13_0
   try clear hcz13_1
   try clear hcz13_2
   try clear hcz13_3
   try clear hcz16_0
   try clear hcz16_1
   try clear hcz16_2
   try clear hcz16_3
   try clear hcz17_0
   try clear hcz17_1
   try clear hcz17_2
   try clear hcz17_3
   try clear hcz7_0
   try clear hcz7_1
   try clear hcz7_2
   try clear hcz7_3
   try clear hfz12_0
   try clear hfz12_1
   try clear hfz12_2
   try clear hfz12_3
   try clear hfz13_0
   try clear hfz13_1
   try clear hfz13_2
   try clear hfz13_3
   try clear hfz16_0
   try clear hfz16_1
   try clear hfz16_2
   try clear hfz16_3
   try clear hfz17_0
   try clear hfz17_1
   try clear hfz17_2
   try clear hfz17_3
   try clear hfz7_0
   try clear hfz7_1
   try clear hfz7_2
   try clear hfz7_3
   try clear p2
   obtain ⟨x30_2, x366003_2, u366003, rfl, HA, HK2, HO_28, HO_366003, BK364, BK365, HB⟩ := hrel
   cases gk with
   | zero => exact absurd HA.out (by simp [script_word_crash.l0])
   | succ k2 => {
   have H := HA.out
   clear HA
   simp only [script_word_crash.l0] at H
   by_cases c21 : x30_2 < (t369.length : Int)
   {
   rw [if_pos c21] at H
   have c21b0 : decide (x30_2 < (t369.length : Int)) = true := decide_eq_true c21
   clear c21
   by_cases c22 : 0 ≤ x30_2
   {
   rw [if_pos c22] at H
   have c22b0 : decide (0 ≤ x30_2) = true := decide_eq_true c22
   clear c22
   by_cases c23 : x30_2 < (t369.length : Int)
   {
   rw [if_pos c23] at H
   have c23b0 : decide (x30_2 < (t369.length : Int)) = true := decide_eq_true c23
   clear c23
   replace H := Option.bind_eq_some_iff.mp H
   obtain ⟨t373, A240, H⟩ := H
   replace H : (if x366003_2.length < 17592186044416 then (script_word_crash.l0 k2 t369 (t369.length : Int) (wrap64 (x30_2 + 1)) 3 0 0 (x366003_2 ++ [t373])) else (none)) = some (r1, r2, r3, r4, r5) := H
   have A24 := aS A240
   clear A240
   by_cases c25 : x366003_2.length < 17592186044416
   {
   rw [if_pos c25] at H
   have LMc25 := aS c25
   clear c25
   obtain ⟨y374, hy374⟩ : ∃ y_ : List Int, y_ = (x366003_2 ++ [t373]) := ⟨_, rfl⟩
   replace H : (script_word_crash.l0 k2 t369 (t369.length : Int) (wrap64 (x30_2 + 1)) 3 0 0 y374) = some (r1, r2, r3, r4, r5) := by first | (rw [hy374]; with_reducible exact H) | (have H2_ := (Option.bind_some _ _).symm.trans H; rw [hy374]; with_reducible exact H2_) | (have H2_ := (Option.bind_some _ _).symm.trans H; with_reducible exact H2_) | with_reducible exact H | (rw [hy374]; exact H) | exact H
   have Ny374 := aS hy374
   clear hy374
   have H' := aS H
   clear H
   have p372 : 0 ≤ (x30_2 : Int) := dd
   have q372 : x30_2 < (t369.length : Int) := dd
   obtain ⟨ad372, e372, hx372_0⟩ := Kd.at_string (Kd.R_reads' HO_28.out).2.2 x30_2 p372 q372
   cases e372
   replace p372 := eq_true p372
   replace q372 := eq_true q372
   try go_wp2
   have n0_ := aS (Kd.R_drew HO_28.out)
   have n1_ := aS (Kd.R_drew HO_366003.out)
   have n2_ := aS (blk_drew BK364.out)
   have n3_ := aS (blk_drew BK365.out)
   have n4_ := aS (below_drew1 HB.out)
   clear HO_28
   clear HO_366003
   clear BK364
   clear BK365
   clear HB
   have HO_28 := n0_
   have HO_366003 := n1_
   have BK364 := n2_
   have BK365 := n3_
   have HB := n4_
   clear n0_ n1_ n2_ n3_ n4_
   refine start_ (n := 8) (S := fun w' => w'.cell? ⟨gb365, 0, none⟩ = some (.int .i64 3) ∧ w'.cell? ⟨gb365, 1, none⟩ = some (.int .i64 0) ∧ w'.cell? ⟨gb365, 2, none⟩ = some (.int .i64 0) ∧ w'.cell? ⟨gb365, 3, none⟩ = some (u366003)) (ds := [7]) #[false, false, false, false, false, false, false, false] (by kernel_rfl) rfl rfl ⟨(blk_cell BK365.out 0).trans rfl, (blk_cell BK365.out 1).trans rfl, (blk_cell BK365.out 2).trans rfl, (blk_cell BK365.out 3).trans rfl⟩ (fun hHeld => ?_); refine with_tabW script_word_crash.tab10 script_word_crash.bits10 (fun HT_ HW_ => ?_)
   generalize wr.drew = w26 at HO_28 HO_366003 BK364 BK365 HB hHeld ⊢
   refine pure_ (i := 0) (N := some 34) (v := ?_) (a' := ?_) #[true, false, false, false, false, false, false, false] rfl rfl (any_of HT_.out (by kernel_rfl)) (fun _ _ _ h => h) (Or.inl ⟨by rfl, ?_⟩) ?_ ?_
   rotate_left
   {
   intro w'
   go_simp
   with_reducible rfl }
   rotate_left
   {
   simp only [Act.put, sT, s0, s1, i64_w, i32_w]
   rfl }
   refine pure_ (i := 2) (N := some 36) (v := ?_) (a' := ?_) #[true, false, true, false, false, false, false, false] rfl rfl (any_of HT_.out (by kernel_rfl)) (fun _ _ _ h => h) (Or.inl ⟨by rfl, ?_⟩) ?_ ?_
   rotate_left
   {
   intro w'
   go_simp
   with_reducible rfl }
   rotate_left
   {
   simp only [Act.put, sT, s0, s1, i64_w, i32_w]
   rfl }
   refine take_ (i := 1) (N := some 35) (v := ?_) (a' := ?_) #[true, true, true, false, false, false, false, false] rfl rfl (take_ofW HT_.out HW_.out (by kernel_rfl)) (fun _ _ _ h => h) (Or.inl ⟨by rfl, ?_⟩) hHeld ?_ ?_
   rotate_left
   {
   rintro w' ⟨s0, s1, s2, s3⟩
   go_simp
   with_reducible rfl }
   rotate_left
   {
   simp only [Act.put, sT, s0, s1, i64_w, i32_w]
   rfl }
   refine one_ (i := 3) (N := some 37) #[true, true, true, true, false, false, false, false] rfl rfl (one_of HT_.out (by kernel_rfl)) (by decide) (fun K hK => ?_)
   refine goes_ Tryd.func37 (by kernel_rfl) rfl #[.string (rdOf ByteArray.empty t369 x30_2), .int .i64 32] (by rfl) rfl rfl (by (try simp only [List.map_toArray, List.map_cons, List.map_nil]); first | done | rfl | (simp only [List.length_drop, List.length_take]; rfl)) ?_
   with_reducible refine (sNum.calls (rdOf ByteArray.empty t369 x30_2) 32 t373 _ A24.out (hL.below bb)).mono ?_
   rintro e w27 ⟨rfl, hb⟩
   refine ⟨_, rfl, ?_⟩
   have n0_ := aS (Kd.R_below (rr HO_28.out) hb)
   have n1_ := aS (Kd.R_below (rr HO_366003.out) hb)
   have n2_ := aS (kb BK364.out hb)
   have n3_ := aS (kb BK365.out hb)
   have n4_ := aS (below_step bb hb)
   clear HO_28
   clear HO_366003
   clear BK364
   clear BK365
   clear HB
   have HO_28 := n0_
   have HO_366003 := n1_
   have BK364 := n2_
   have BK365 := n3_
   have HB := n4_
   clear n0_ n1_ n2_ n3_ n4_
   (try clear hb)
   (try clear hb2)
   (try clear hk)
   (try clear hi)
   refine hK.out _ _ ⟨(blk_cell BK365.out 0).trans rfl, (blk_cell BK365.out 1).trans rfl, (blk_cell BK365.out 2).trans rfl, (blk_cell BK365.out 3).trans rfl⟩ (fun hHeld => ?_)
   clear hK K
   refine norm_ (a' := ?_) ?_ ?_
   rotate_left
   {
   show Act.put _ (some 37) _ = _
   simp only [Act.put, sT, s0, s1, i64_w, i32_w]
   rfl }
   refine one_ (i := 4) (N := some 38) #[true, true, true, true, true, false, false, false] rfl rfl (one_of HT_.out (by kernel_rfl)) (by decide) (fun K hK => ?_)
   refine value_ (w1 := ?_) (v := ?_) (by rfl) rfl ?_ ?_
   rotate_left 2
   {
   go_simp
   constructor
   { rfl }
   { rfl } }
   refine hK.out _ _ ⟨(blk_cell (blk_alloc BK365.out _) 0).trans rfl, (blk_cell (blk_alloc BK365.out _) 1).trans rfl, (blk_cell (blk_alloc BK365.out _) 2).trans rfl, (blk_cell (blk_alloc BK365.out _) 3).trans rfl⟩ (fun hHeld => ?_)
   clear hK K
   refine norm_ (a' := ?_) ?_ ?_
   rotate_left
   {
   show Act.put _ (some 38) _ = _
   simp only [Act.put, sT, s0, s1, i64_w, i32_w]
   rfl }
   refine one_ (i := 5) (N := some 39) #[true, true, true, true, true, true, false, false] rfl rfl (one_of HT_.out (by kernel_rfl)) (by decide) (fun K hK => ?_)
   refine Kd.R_append_step (Kd.int .i64) (w0 := w) w.heap.size (by rfl) (.tmp 35) (.tmp 38) 24 3 (.int .i64 0) 8 rfl Tryd.underlying24 info3 rfl (by decide) (by omega) u366003 x366003_2 t373 [.int .i64 t373] (fun _ => True) (fun _ => False) rfl rfl ?aP (fun _ hk => hk.elim) ?aF ?aO ?aB ?aS ?aL ?_
   (case aP => exact rfl)
   (case aB => exact bb)
   (case aF => exact (fun _ _ => trivial))
   (case aO => exact (rr HO_366003.out))
   (case aS => exact bz)
   (case aL => have := LMc25.out; omega)
   intro v375 w28 ho hb hg hat
   rw [← Ny374.out] at ho
   have n0_ := aS (Kd.R_over' (rr HO_28.out) (Kd.R_typed (rr HO_366003.out)) (by decide) hg)
   have n1_ := aS (blk_grown (g := gb364) (o := .cells #[.int .i64 0, .int .i64 0, .int .i64 0, .slice none 0 0] 26 (0, 0)) (kk BK364.out) hg (Kd.R_ne HO_366003.out BK364.out (by decide)))
   have n2_ := aS (blk_grown (g := gb365) (o := .cells #[.int .i64 3, .int .i64 0, .int .i64 0, u366003] 26 (0, 0)) (kk BK365.out) hg (Kd.R_ne HO_366003.out BK365.out (by decide)))
   have n3_ := aS (hb)
   have n4_ := aS (ho)
   clear HO_28
   clear BK364
   clear BK365
   clear HB
   clear HO_366003
   have HO_28 := n0_
   have BK364 := n1_
   have BK365 := n2_
   have HB := n3_
   have HO376 := n4_
   clear n0_ n1_ n2_ n3_ n4_
   clear ho hb hg hat
   obtain ⟨Ao29, co29, eo29⟩ := Kd.R_slice HO376.out
   (first | subst eo29 | (injection eo29 with f1_ f2_ f3_; have f4_ := f1_.symm; have f5_ := f3_.symm; clear f1_ f2_ f3_; subst f4_; subst f5_))
   refine hK.out _ _ ⟨(blk_cell BK365.out 0).trans rfl, (blk_cell BK365.out 1).trans rfl, (blk_cell BK365.out 2).trans rfl, (blk_cell BK365.out 3).trans rfl⟩ (fun hHeld => ?_)
   clear hK K
   refine norm_ (a' := ?_) ?_ ?_
   rotate_left
   {
   show Act.put _ (some 39) _ = _
   simp only [Act.put, sT, s0, s1, i64_w, i32_w]
   rfl }
   refine pure_ (i := 6) (N := some 40) (v := ?_) (a' := ?_) #[true, true, true, true, true, true, true, false] rfl rfl (any_of HT_.out (by kernel_rfl)) (fun _ _ _ h => h) (Or.inl ⟨by rfl, ?_⟩) ?_ ?_
   rotate_left
   {
   intro w'
   go_simp
   with_reducible rfl }
   rotate_left
   {
   simp only [Act.put, sT, s0, s1, i64_w, i32_w]
   rfl }
   refine last_ (i := 7) (N := none) #[true, true, true, true, true, true, true, true] rfl rfl (one_of HT_.out (by kernel_rfl)) (by decide) (fun K hK => ?_)
   have hs30 : w28.cell? ⟨gb365, 3, none⟩ = some (u366003) := (blk_cell BK365.out 3).trans rfl
   have hfs30 := blk_frozen BK365.out 3
   have hns30_0 := NB364_365.out
   have hms30_0 := NB365_364.out
   refine skip_ (w1 := ?_) (by rfl) rfl ?_ ?_
   rotate_left
   {
   go_simp
   rfl }
   refine hK.out _ _ ?_
   clear hK K
   refine done_ (done_of HT_.out (by kernel_rfl)) ?_
   try go_wp2
   go_roundg k2
   case measure => have := HJ2.out; have := HK2.out; omega
   case rel => exact ⟨(wrap64 (x30_2 + 1)), (y374), (.slice Ao29 y374.length co29), (by first | rfl | (simp; done) | (simp [*]; done) | (generalize ByteArray.toList _ = q_; cases q_ <;> rfl)), H', ⟨by have := HJ2.out; have := HK2.out; omega⟩, ⟨by (with_reducible repeat (first | apply Kd.R_alloc | apply Kd.R_drewN | apply Kd.R_drew)); exact Kd.R_mono (Kd.R_far (p := ⟨gb365, 3, none⟩) (Kd.R_types HO_28.out BK365.out (by decide)) (fun _ hk => hk.2) (.slice Ao29 y374.length co29)) (fun _ hk => trivial)⟩, ⟨by (with_reducible repeat (first | apply Kd.R_alloc | apply Kd.R_drewN | apply Kd.R_drew)); exact Kd.R_mono (Kd.R_far (p := ⟨gb365, 3, none⟩) (Kd.R_types HO376.out BK365.out (by decide)) (fun _ hk => hk.2) (.slice Ao29 y374.length co29)) (fun _ hk => trivial)⟩, ⟨by (with_reducible repeat (first | refine blk_drewN ?_ _ | refine blk_drew ?_ | refine blk_alloc ?_ _)); refine blk_far ?_ NB364_365.out _; (with_reducible repeat (first | refine blk_drewN ?_ _ | refine blk_drew ?_ | refine blk_alloc ?_ _)); exact BK364.out⟩, ⟨by (with_reducible repeat (first | refine blk_drewN ?_ _ | refine blk_drew ?_ | refine blk_alloc ?_ _)); refine blk_put (cs := #[.int .i64 3, .int .i64 0, .int .i64 0, u366003]) ?_ 3 _ rfl; (with_reducible repeat (first | refine blk_drewN ?_ _ | refine blk_drew ?_ | refine blk_alloc ?_ _)); exact BK365.out⟩, ⟨by repeat (first | (with_reducible first | exact HB.out | apply below_alloc | apply pw_below_drewN | apply below_drew1 | refine below_set ?_ GE364.out | refine below_set ?_ GE365.out) | exact HB.out)⟩⟩ }
   {
   rw [if_neg c25] at H
   exact absurd H (by simp) } }
   {
   rw [if_neg c23] at H
   exact absurd H (by simp) } }
   {
   rw [if_neg c22] at H
   exact absurd H (by simp) } }
   {
   rw [if_neg c21] at H
   have c21b0 : decide (x30_2 < (t369.length : Int)) = false := decide_eq_false c21
   clear c21
   replace H := Option.bind_eq_some_iff.mp H
   obtain ⟨t377, A310, H⟩ := H
   replace H : (if t377 = true then (some (3, 0, 0, x366003_2, 1)) else (some (3, 0, 0, x366003_2, 0))) = some (r1, r2, r3, r4, r5) := H
   have A31 := aS A310
   clear A310
   by_cases c32 : t377 = true
   {
   subst c32
   have H1 : (some (3, 0, 0, x366003_2, 1)) = some (r1, r2, r3, r4, r5) := by rw [if_pos rfl] at H; exact H
   clear H
   have H := H1
   clear H1
   simp only [Option.some.injEq, Prod.mk.injEq] at H
   obtain ⟨rfl, rfl, rfl, rfl, rfl⟩ := H
   have hnb33 := NB365_364.out
   have hnc33 := NB364_365.out
   have hcz34_0 : wr.cell? ⟨gb365, 0, none⟩ = some (.int .i64 3) := (blk_cell BK365.out 0).trans rfl
   have hcz34_1 : wr.cell? ⟨gb365, 1, none⟩ = some (.int .i64 0) := (blk_cell BK365.out 1).trans rfl
   have hcz34_2 : wr.cell? ⟨gb365, 2, none⟩ = some (.int .i64 0) := (blk_cell BK365.out 2).trans rfl
   have hcz34_3 : wr.cell? ⟨gb365, 3, none⟩ = some (u366003) := (blk_cell BK365.out 3).trans rfl
   have hfz34_0 := blk_frozen BK365.out 0
   have hfz34_1 := blk_frozen BK365.out 1
   have hfz34_2 := blk_frozen BK365.out 2
   have hfz34_3 := blk_frozen BK365.out 3
   obtain ⟨Ao35, co35, eo35⟩ := Kd.R_slice HO_366003.out
   subst eo35
   go_wp2_with (first | ((with_reducible refine gate_callee (f := 15) rfl ?_); refine goesL_ (some 43) rfl rfl Tryd.func15 (by kernel_rfl) rfl #[.int .i64 1, .agg #[.int .i64 3, .int .i64 0, .int .i64 0, .slice Ao35 x366003_2.length co35]] rfl (by (try simp only [List.map_toArray, List.map_cons, List.map_nil]); first | done | rfl | (simp only [List.length_drop, List.length_take]; rfl)) ?_; (with_reducible refine (script_Right.calls k2 1 3 0 0 _ _ x366003_2 true _ ?side1 ?side2 A31.out).mono ?_); (case side1 => repeat (first | exact (Kd.R_reads' HO_366003.out).2.2 | (with_reducible refine Kd.C_alloc ?_ _) | (with_reducible refine Kd.C_drewN ?_ _) | (with_reducible refine Kd.C_drew ?_))); (case side2 => exact (Kd.R_reads' HO_366003.out).2.1); rintro e w36 ⟨rfl, hb⟩; refine ⟨_, rfl, ?_⟩; have n0_ := aS (Kd.R_below (rr HO_28.out) hb); have n1_ := aS (Kd.R_below (rr HO_366003.out) hb); have n2_ := aS (kb BK364.out hb); have n3_ := aS (kb BK365.out hb); have n4_ := aS (below_step bb hb); clear HO_28; clear HO_366003; clear BK364; clear BK365; clear HB; have HO_28 := n0_; have HO_366003 := n1_; have BK364 := n2_; have BK365 := n3_; have HB := n4_; clear n0_ n1_ n2_ n3_ n4_; (try clear hb); (try clear hb2); (try clear hk); (try clear hi); have hcz37_0 : w36.cell? ⟨gb365, 0, none⟩ = some (.int .i64 3) := (blk_cell BK365.out 0).trans rfl; have hcz37_1 : w36.cell? ⟨gb365, 1, none⟩ = some (.int .i64 0) := (blk_cell BK365.out 1).trans rfl; have hcz37_2 : w36.cell? ⟨gb365, 2, none⟩ = some (.int .i64 0) := (blk_cell BK365.out 2).trans rfl; have hcz37_3 : w36.cell? ⟨gb365, 3, none⟩ = some (.slice Ao35 x366003_2.length co35) := (blk_cell BK365.out 3).trans rfl; have hfz37_0 := blk_frozen BK365.out 0; have hfz37_1 := blk_frozen BK365.out 1; have hfz37_2 := blk_frozen BK365.out 2; have hfz37_3 := blk_frozen BK365.out 3; have hcz38_0 : w36.cell? ⟨gb364, 0, none⟩ = some (.int .i64 0) := (blk_cell BK364.out 0).trans rfl; have hcz38_1 : w36.cell? ⟨gb364, 1, none⟩ = some (.int .i64 0) := (blk_cell BK364.out 1).trans rfl; have hcz38_2 : w36.cell? ⟨gb364, 2, none⟩ = some (.int .i64 0) := (blk_cell BK364.out 2).trans rfl; have hcz38_3 : w36.cell? ⟨gb364, 3, none⟩ = some (.slice none 0 0) := (blk_cell BK364.out 3).trans rfl; have hfz38_0 := blk_frozen BK364.out 0; have hfz38_1 := blk_frozen BK364.out 1; have hfz38_2 := blk_frozen BK364.out 2; have hfz38_3 := blk_frozen BK364.out 3))
   refine bodyPost_ret (results_ct rfl _ _ gb364 26 #[.int .i64 3, .int .i64 0, .int .i64 0, .slice Ao35 x366003_2.length co35] (0, 0) _ rfl (by (with_reducible repeat (first | refine blk_drewN ?_ _ | refine blk_drew ?_ | refine blk_alloc ?_ _)); refine blk_put (cs := #[.int .i64 3, .int .i64 0, .int .i64 0, .slice none 0 0]) ?_ 3 _ rfl; (with_reducible repeat (first | refine blk_drewN ?_ _ | refine blk_drew ?_ | refine blk_alloc ?_ _)); refine blk_put (cs := #[.int .i64 3, .int .i64 0, .int .i64 0, .slice none 0 0]) ?_ 2 _ rfl; (with_reducible repeat (first | refine blk_drewN ?_ _ | refine blk_drew ?_ | refine blk_alloc ?_ _)); refine blk_put (cs := #[.int .i64 3, .int .i64 0, .int .i64 0, .slice none 0 0]) ?_ 1 _ rfl; (with_reducible repeat (first | refine blk_drewN ?_ _ | refine blk_drew ?_ | refine blk_alloc ?_ _)); refine blk_put (cs := #[.int .i64 0, .int .i64 0, .int .i64 0, .slice none 0 0]) ?_ 0 _ rfl; (with_reducible repeat (first | refine blk_drewN ?_ _ | refine blk_drew ?_ | refine blk_alloc ?_ _)); exact BK364.out) Tryd.underlying26 rfl (by kernel_rfl)) rfl ?_
   exact ⟨_, by first | rfl | (simp [errW_none, errW_some] <;> rfl) | (simp [*, errW_none, errW_some] <;> rfl), by (with_reducible repeat (first | apply Kd.R_alloc | apply Kd.R_drewN | apply Kd.R_drew)); exact Kd.R_mono (Kd.R_far (p := ⟨gb364, 3, none⟩) (Kd.R_far (p := ⟨gb364, 2, none⟩) (Kd.R_far (p := ⟨gb364, 1, none⟩) (Kd.R_far (p := ⟨gb364, 0, none⟩) (Kd.R_types HO_366003.out BK364.out (by decide)) (fun _ hk => hk.2) (.int .i64 3)) (fun _ hk => hk.2) (.int .i64 0)) (fun _ hk => hk.2) (.int .i64 0)) (fun _ hk => hk.2) (.slice Ao35 x366003_2.length co35)) (fun _ hk => trivial), by repeat (first | (with_reducible first | exact HB.out | apply below_alloc | apply pw_below_drewN | apply below_drew1 | refine below_set ?_ GE364.out | refine below_set ?_ GE365.out) | exact HB.out)⟩ }
   {
   replace c32 := Bool.eq_false_iff.mpr c32
   subst c32
   have H1 : (some (3, 0, 0, x366003_2, 0)) = some (r1, r2, r3, r4, r5) := by rw [if_neg (show ¬ (false = true) by decide)] at H; exact H
   clear H
   have H := H1
   clear H1
   simp only [Option.some.injEq, Prod.mk.injEq] at H
   obtain ⟨rfl, rfl, rfl, rfl, rfl⟩ := H
   have hnb39 := NB365_364.out
   have hnc39 := NB364_365.out
   have hcz40_0 : wr.cell? ⟨gb365, 0, none⟩ = some (.int .i64 3) := (blk_cell BK365.out 0).trans rfl
   have hcz40_1 : wr.cell? ⟨gb365, 1, none⟩ = some (.int .i64 0) := (blk_cell BK365.out 1).trans rfl
   have hcz40_2 : wr.cell? ⟨gb365, 2, none⟩ = some (.int .i64 0) := (blk_cell BK365.out 2).trans rfl
   have hcz40_3 : wr.cell? ⟨gb365, 3, none⟩ = some (u366003) := (blk_cell BK365.out 3).trans rfl
   have hfz40_0 := blk_frozen BK365.out 0
   have hfz40_1 := blk_frozen BK365.out 1
   have hfz40_2 := blk_frozen BK365.out 2
   have hfz40_3 := blk_frozen BK365.out 3
   obtain ⟨Ao41, co41, eo41⟩ := Kd.R_slice HO_366003.out
   subst eo41
   go_wp2_with (first | ((with_reducible refine gate_callee (f := 15) rfl ?_); refine goesL_ (some 43) rfl rfl Tryd.func15 (by kernel_rfl) rfl #[.int .i64 1, .agg #[.int .i64 3, .int .i64 0, .int .i64 0, .slice Ao41 x366003_2.length co41]] rfl (by (try simp only [List.map_toArray, List.map_cons, List.map_nil]); first | done | rfl | (simp only [List.length_drop, List.length_take]; rfl)) ?_; (with_reducible refine (script_Right.calls k2 1 3 0 0 _ _ x366003_2 false _ ?side1 ?side2 A31.out).mono ?_); (case side1 => repeat (first | exact (Kd.R_reads' HO_366003.out).2.2 | (with_reducible refine Kd.C_alloc ?_ _) | (with_reducible refine Kd.C_drewN ?_ _) | (with_reducible refine Kd.C_drew ?_))); (case side2 => exact (Kd.R_reads' HO_366003.out).2.1); rintro e w42 ⟨rfl, hb⟩; refine ⟨_, rfl, ?_⟩; have n0_ := aS (Kd.R_below (rr HO_28.out) hb); have n1_ := aS (Kd.R_below (rr HO_366003.out) hb); have n2_ := aS (kb BK364.out hb); have n3_ := aS (kb BK365.out hb); have n4_ := aS (below_step bb hb); clear HO_28; clear HO_366003; clear BK364; clear BK365; clear HB; have HO_28 := n0_; have HO_366003 := n1_; have BK364 := n2_; have BK365 := n3_; have HB := n4_; clear n0_ n1_ n2_ n3_ n4_; (try clear hb); (try clear hb2); (try clear hk); (try clear hi); have hcz43_0 : w42.cell? ⟨gb365, 0, none⟩ = some (.int .i64 3) := (blk_cell BK365.out 0).trans rfl; have hcz43_1 : w42.cell? ⟨gb365, 1, none⟩ = some (.int .i64 0) := (blk_cell BK365.out 1).trans rfl; have hcz43_2 : w42.cell? ⟨gb365, 2, none⟩ = some (.int .i64 0) := (blk_cell BK365.out 2).trans rfl; have hcz43_3 : w42.cell? ⟨gb365, 3, none⟩ = some (.slice Ao41 x366003_2.length co41) := (blk_cell BK365.out 3).trans rfl; have hfz43_0 := blk_frozen BK365.out 0; have hfz43_1 := blk_frozen BK365.out 1; have hfz43_2 := blk_frozen BK365.out 2; have hfz43_3 := blk_frozen BK365.out 3; have hcz44_0 : w42.cell? ⟨gb364, 0, none⟩ = some (.int .i64 0) := (blk_cell BK364.out 0).trans rfl; have hcz44_1 : w42.cell? ⟨gb364, 1, none⟩ = some (.int .i64 0) := (blk_cell BK364.out 1).trans rfl; have hcz44_2 : w42.cell? ⟨gb364, 2, none⟩ = some (.int .i64 0) := (blk_cell BK364.out 2).trans rfl; have hcz44_3 : w42.cell? ⟨gb364, 3, none⟩ = some (.slice none 0 0) := (blk_cell BK364.out 3).trans rfl; have hfz44_0 := blk_frozen BK364.out 0; have hfz44_1 := blk_frozen BK364.out 1; have hfz44_2 := blk_frozen BK364.out 2; have hfz44_3 := blk_frozen BK364.out 3))
   refine bodyPost_ret (results_ct rfl _ _ gb364 26 #[.int .i64 3, .int .i64 0, .int .i64 0, .slice Ao41 x366003_2.length co41] (0, 0) _ rfl (by (with_reducible repeat (first | refine blk_drewN ?_ _ | refine blk_drew ?_ | refine blk_alloc ?_ _)); refine blk_put (cs := #[.int .i64 3, .int .i64 0, .int .i64 0, .slice none 0 0]) ?_ 3 _ rfl; (with_reducible repeat (first | refine blk_drewN ?_ _ | refine blk_drew ?_ | refine blk_alloc ?_ _)); refine blk_put (cs := #[.int .i64 3, .int .i64 0, .int .i64 0, .slice none 0 0]) ?_ 2 _ rfl; (with_reducible repeat (first | refine blk_drewN ?_ _ | refine blk_drew ?_ | refine blk_alloc ?_ _)); refine blk_put (cs := #[.int .i64 3, .int .i64 0, .int .i64 0, .slice none 0 0]) ?_ 1 _ rfl; (with_reducible repeat (first | refine blk_drewN ?_ _ | refine blk_drew ?_ | refine blk_alloc ?_ _)); refine blk_put (cs := #[.int .i64 0, .int .i64 0, .int .i64 0, .slice none 0 0]) ?_ 0 _ rfl; (with_reducible repeat (first | refine blk_drewN ?_ _ | refine blk_drew ?_ | refine blk_alloc ?_ _)); exact BK364.out) Tryd.underlying26 rfl (by kernel_rfl)) rfl ?_
   exact ⟨_, by first | rfl | (simp [errW_none, errW_some] <;> rfl) | (simp [*, errW_none, errW_some] <;> rfl), by (with_reducible repeat (first | apply Kd.R_alloc | apply Kd.R_drewN | apply Kd.R_drew)); exact Kd.R_mono (Kd.R_far (p := ⟨gb364, 3, none⟩) (Kd.R_far (p := ⟨gb364, 2, none⟩) (Kd.R_far (p := ⟨gb364, 1, none⟩) (Kd.R_far (p := ⟨gb364, 0, none⟩) (Kd.R_types HO_366003.out BK364.out (by decide)) (fun _ hk => hk.2) (.int .i64 3)) (fun _ hk => hk.2) (.int .i64 0)) (fun _ hk => hk.2) (.int .i64 0)) (fun _ hk => hk.2) (.slice Ao41 x366003_2.length co41)) (fun _ hk => trivial), by repeat (first | (with_reducible first | exact HB.out | apply below_alloc | apply pw_below_drewN | apply below_drew1 | refine below_set ?_ GE364.out | refine below_set ?_ GE365.out) | exact HB.out)⟩ } } } } } }

end Go.Proofs.YtcnclgneldonfaaDoor.P
