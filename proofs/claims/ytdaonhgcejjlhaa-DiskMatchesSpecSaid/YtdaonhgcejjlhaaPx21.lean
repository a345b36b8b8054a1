-- Written by pp.py (this session's program over the kit's printer): functions, contracts. Not trusted: Lean checks it.
import Derived.Test.YtdaonhgcejjlhaaYM0
namespace Go.Proofs.Ytdaonhgcejjlhaa.P
open Go.RowKit Go.Proofs.YtdaonhgcejjlhaaW.PrintWords Go.Proofs.YtdaonhgcejjlhaaW.PrintLast Go.Proofs.YtdaonhgcejjlhaaW.PrintMore
attribute [local go_sem] max2_int min2_int max_two min_two max_three min_three max_four min_four   -- for this text's walks alone
set_option linter.unusedVariables false
set_option linter.unusedSimpArgs false

/-! ### rWriteOk: function 18 -/
def rWriteOk.j0 : Nat → Int → ByteArray → Bool → List ByteArray → List (S46) → Option (List ByteArray × (List (S46)) × Int)
  | 0, _, _, _, _, _ => none
  | k + 1, x1, x2, x18, x243000, x243001 => if x18 = true then (none) else (if (x2.size : Int) = 32 then ((some (([] : List (S46)) : List (S46))).bind fun y244 => (if y244.length + x243001.length < 5864062014805 then ((some (y244 ++ x243001 : List (S46))).bind fun y247 => (if 0 ≤ x1 then (if x1 < (x243000.length : Int) then ((some (([(⟨x1, rdOf ByteArray.empty x243000 x1⟩ : S46)] : List (S46)) : List (S46))).bind fun y251 => (if y247.length + y251.length < 5864062014805 then ((some (([] : List ByteArray) : List ByteArray)).bind fun y257 => (if y257.length + x243000.length < 8796093022208 then ((some (y257 ++ x243000 : List ByteArray)).bind fun y260 => (if x1 < (y260.length : Int) then (some ((y260.set (x1 : Int).toNat x2), (y247 ++ y251), 0)) else (none))) else (none))) else (none))) else (none)) else (none))) else (none))) else (none))
def rWriteOk.f (k : Nat) (l0_0 : List ByteArray) (l0_1 : List (S46)) (a1 : Int) (a2 : ByteArray) : Option (List ByteArray × (List (S46)) × Int) := if a1 < 0 then (rWriteOk.j0 k a1 a2 true l0_0 l0_1) else (rWriteOk.j0 k a1 a2 (decide (a1 ≥ (l0_0.length : Int))) l0_0 l0_1)
theorem rWriteOk.mono_l : ∀ k, (∀ y0 y1 y2 y3 y4, LeO (rWriteOk.j0 k y0 y1 y2 y3 y4) (rWriteOk.j0 (k + 1) y0 y1 y2 y3 y4))
  | 0 => fun _ _ _ _ _ r h => by simp [rWriteOk.j0] at h
  | k + 1 => by
    have ih0 := rWriteOk.mono_l k
    · intro y0 y1 y2 y3 y4
      unfold rWriteOk.j0
      repeat' first
      | (with_reducible exact ih0 _ _ _ _ _)
      | (with_reducible exact LeO.refl _)
      | (with_reducible exact LeO.none _)
      | (with_reducible refine LeO.ite ?_ ?_)
      | (with_reducible refine LeO.bind ?_ (fun _ => ?_))
      | exact ih0 _ _ _ _ _
      | exact LeO.none _
      | refine LeO.ite ?_ ?_
      | refine LeO.bind ?_ (fun _ => ?_)
theorem rWriteOk.mono : ∀ a0 a1 a2 a3 k, LeO (rWriteOk.f k a0 a1 a2 a3) (rWriteOk.f (k + 1) a0 a1 a2 a3) := by
 intro a0 a1 a2 a3 k
 have ih0 := rWriteOk.mono_l k
 unfold rWriteOk.f
 repeat' first | (with_reducible exact ih0 _ _ _ _ _) | (with_reducible exact LeO.refl _) | (with_reducible exact LeO.none _) | (with_reducible refine LeO.ite ?_ ?_) | (with_reducible refine LeO.bind ?_ (fun _ => ?_)) | exact ih0 _ _ _ _ _ | exact LeO.none _ | refine LeO.ite ?_ ?_ | refine LeO.bind ?_ (fun _ => ?_)
def rWriteOk.T5 : Bool × List (List Nat × List Nat) := (true, [([], []), ([], []), ([1], [1]), ([0, 2], [0, 2]), ([], []), ([], []), ([5], [5]), ([], []), ([6, 7], [6, 7]), ([8], [8]), ([4, 9], [4, 9]), ([10], [10]), ([3, 11, 3], [3, 11]), ([12, 12, 0, 1, 2, 3, 4, 5, 6, 7, 8, 9, 10, 11, 12], [12])])
def rWriteOk.B5 : List Nat := [0, 0, 2, 7, 0, 0, 32, 0, 224, 480, 1008, 2032, 4095, 8191]
theorem rWriteOk.tab5 : rtab .any (opsOf Try.f18 5) = rWriteOk.T5 := by kernel_rfl
theorem rWriteOk.bits5 : waitsOk rWriteOk.T5.2 rWriteOk.B5 = true := by kernel_rfl
set_option maxHeartbeats 8000000 in
set_option maxRecDepth 100000 in
theorem rWriteOk.calls (k : Nat) (A0_0 : Option Addr) (c0_0 : Nat) (l0_0 : List ByteArray) (A0_1 : Option Addr) (c0_1 : Nat) (l0_1 : List (S46)) (a1 : Int) (a2 : ByteArray) (r1 : List ByteArray) (r2 : List (S46)) (r3 : Int) (w : World) (hr0_0 : Kd.C Kd.string w A0_0 l0_0.length l0_0) (hc0_0 : l0_0.length ≤ c0_0) (hr0_1 : Kd.C k46 w A0_1 l0_1.length l0_1) (hc0_1 : l0_1.length ≤ c0_1) (h : rWriteOk.f k l0_0 l0_1 a1 a2 = some (r1, r2, r3)) : Calls Try.prog 18 #[.agg #[.slice A0_0 l0_0.length c0_0, .slice A0_1 l0_1.length c0_1], .int .i64 a1, .string a2] w fun e w' => ∃ v0_ v1_ : Value, e = .returned (.tuple #[.agg #[v0_, v1_], .int .i64 r3]) ∧ Kd.R Kd.string 9 w' w.heap.size (fun _ => True) v0_ r1 ∧ Kd.R k46 46 w' w.heap.size (fun _ => True) v1_ r2 ∧ Below w.heap.size w w' := by
 have hu25 := Try.underlying25
 have hu46 := Try.underlying46
 have HR0_0 := aS hr0_0
 have HC0_0 := aS hc0_0
 clear hr0_0 hc0_0
 have HR0_1 := aS hr0_1
 have HC0_1 := aS hc0_1
 clear hr0_1 hc0_1
 have HB := aS (Below.refl w.heap.size w)
 have H : (if a1 < 0 then (rWriteOk.j0 k a1 a2 true l0_0 l0_1) else (rWriteOk.j0 k a1 a2 (decide (a1 ≥ (l0_0.length : Int))) l0_0 l0_1)) = some (r1, r2, r3) := h
 clear h
 have HC4 := aS H
 clear H
 go_enter Try.func18, Try.ntmps18
 go_upto_region 1 with (first | ((with_reducible refine gate_dst (N := 3) rfl ?_); (try (refine gate_guard (by rfl) ?_; dsimp only)); refine box_event ?hg (N := 3) ?hd (cs := #[.slice A0_0 l0_0.length c0_0, .slice A0_1 l0_1.length c0_1]) (t := 25) ?hr ?_; (case hd => rfl); (case hg => rfl); (case hr => first | (go_simp; done) | (go_simp; rfl)); intro gb242 hg w5 hbox hb; have n0_ := aS (below_step bb hb); have n1_ := aS (hbox); have n2_ := aS ((by rw [hg]; exact bz : w.heap.size ≤ gb242)); have n3_ := aS ((by rw [hg]; exact bz : w.heap.size ≤ gb242)); clear HB; have HB := n0_; have BK242 := n1_; have GW242 := n2_; have GE242 := n3_; clear n0_ n1_ n2_ n3_; clear hb hbox hg) | ((with_reducible refine gate_dst (N := 6) rfl ?_); (try (refine gate_guard (by rfl) ?_; dsimp only)); refine box_event ?hg (N := 6) ?hd (cs := #[.slice none 0 0, .slice none 0 0]) (t := 25) ?hr ?_; (case hd => rfl); (case hg => rfl); (case hr => first | (go_simp; done) | (go_simp; rfl)); intro gb243 hg w6 hbox hb; have n0_ := aS (kb BK242.out hb); have n1_ := aS (below_step bb hb); have n2_ := aS (hbox); have n3_ := aS ((by rw [hg]; exact bz : w.heap.size ≤ gb243)); have n4_ := aS ((by rw [hg]; exact bz : w.heap.size ≤ gb243)); have n5_ := aS ((by rw [hg]; exact Nat.ne_of_lt (blk_lt (g := gb242) (o := .cells #[.slice A0_0 l0_0.length c0_0, .slice A0_1 l0_1.length c0_1] 25 (0, 0)) (kk BK242.out)) : gb242 ≠ gb243)); have n6_ := aS ((by rw [hg]; exact Nat.ne_of_gt (blk_lt (g := gb242) (o := .cells #[.slice A0_0 l0_0.length c0_0, .slice A0_1 l0_1.length c0_1] 25 (0, 0)) (kk BK242.out)) : gb243 ≠ gb242)); clear BK242; clear HB; have BK242 := n0_; have HB := n1_; have BK243 := n2_; have GW243 := n3_; have GE243 := n4_; have NB242_243 := n5_; have NB243_242 := n6_; clear n0_ n1_ n2_ n3_ n4_ n5_ n6_; clear hb hbox hg))
 (try simp only [Act.put, List.setIfInBounds_toArray, List.set_cons_zero, List.set_cons_succ])
 go_cut [18] (fun v18 wc => ∃ (kq : Nat) (x18_3 : Bool), v18 = .bool x18_3 ∧ Aside0 (rWriteOk.j0 kq a1 a2 x18_3 l0_0 l0_1 = some (r1, r2, r3)) ∧ Aside0 (kq ≤ k) ∧ Aside0 (wc.heap[gb242]? = some (.cells #[(.slice A0_0 l0_0.length c0_0), (.slice A0_1 l0_1.length c0_1)] 25 (0, 0))) ∧ Aside0 (wc.heap[gb243]? = some (.cells #[(.slice none 0 0), (.slice none 0 0)] 25 (0, 0))) ∧ Aside0 (Below w.heap.size w wc))
 case first =>
  have H := HC4.out
  clear HC4
  by_cases c7 : a1 < 0
  {
  rw [if_pos c7] at H
  have c7b0 : decide (a1 < 0) = true := decide_eq_true c7
  clear c7
  (first | rw [c7b0] | (simp only [i64_w, i32_w]; rw [c7b0]) | skip)
  have H' := aS H
  clear H
  go_wp2
  go_meet
  case rel => exact ⟨_, (true), (by first | rfl | (simp; done) | (simp [*]; done)), H', ⟨by first | omega | exact Nat.le_refl _⟩, ⟨kk BK242.out⟩, ⟨kk BK243.out⟩, ⟨by repeat (first | (with_reducible first | exact HB.out | apply below_alloc | apply pw_below_drewN | apply below_drew1 | refine below_set ?_ GE242.out | refine below_set ?_ GE243.out) | exact HB.out)⟩⟩ }
  {
  rw [if_neg c7] at H
  have c7b0 : decide (a1 < 0) = false := decide_eq_false c7
  clear c7
  (first | rw [c7b0] | (simp only [i64_w, i32_w]; rw [c7b0]) | skip)
  have H' := aS H
  clear H
  have hnb8 := NB242_243.out
  have hnc8 := NB243_242.out
  have hcz9_0 : w6.cell? ⟨gb242, 0, none⟩ = some (.slice A0_0 l0_0.length c0_0) := (blk_cell BK242.out 0).trans rfl
  have hcz9_1 : w6.cell? ⟨gb242, 1, none⟩ = some (.slice A0_1 l0_1.length c0_1) := (blk_cell BK242.out 1).trans rfl
  have hfz9_0 := blk_frozen BK242.out 0
  have hfz9_1 := blk_frozen BK242.out 1
  go_wp2
  go_meet
  case rel => exact ⟨_, (decide (a1 ≥ (l0_0.length : Int))), (by first | rfl | (simp; done) | (simp [*]; done)), H', ⟨by first | omega | exact Nat.le_refl _⟩, ⟨kk BK242.out⟩, ⟨kk BK243.out⟩, ⟨by repeat (first | (with_reducible first | exact HB.out | apply below_alloc | apply pw_below_drewN | apply below_drew1 | refine below_set ?_ GE242.out | refine below_set ?_ GE243.out) | exact HB.out)⟩⟩ }
 case rest =>
  clear HC4
  try clear c1
  try clear p2
  try clear c7
  try clear c7b0
  try clear c8
  try clear hcz9_0
  try clear hcz9_1
  try clear hfz9_0
  try clear hfz9_1
  obtain ⟨kq, x18_3, rfl, HA, HJ3, BK242, BK243, HB⟩ := hcut
  cases kq with
  | zero => exact absurd HA.out (by simp [rWriteOk.j0])
  | succ kj3 => {
  have H := HA.out
  clear HA
  simp only [rWriteOk.j0] at H
  by_cases c10 : x18_3 = true
  {
  subst c10
  have H1 : (none) = some (r1, r2, r3) := by rw [if_pos rfl] at H; exact H
  clear H
  have H := H1
  clear H1
  exact absurd H (by simp) }
  {
  replace c10 := Bool.eq_false_iff.mpr c10
  subst c10
  have H1 : (if (a2.size : Int) = 32 then ((some (([] : List (S46)) : List (S46))).bind fun y244 => (if y244.length + l0_1.length < 5864062014805 then ((some (y244 ++ l0_1 : List (S46))).bind fun y247 => (if 0 ≤ a1 then (if a1 < (l0_0.length : Int) then ((some (([(⟨a1, rdOf ByteArray.empty l0_0 a1⟩ : S46)] : List (S46)) : List (S46))).bind fun y251 => (if y247.length + y251.length < 5864062014805 then ((some (([] : List ByteArray) : List ByteArray)).bind fun y257 => (if y257.length + l0_0.length < 8796093022208 then ((some (y257 ++ l0_0 : List ByteArray)).bind fun y260 => (if a1 < (y260.length : Int) then (some ((y260.set (a1 : Int).toNat a2), (y247 ++ y251), 0)) else (none))) else (none))) else (none))) else (none)) else (none))) else (none))) else (none)) = some (r1, r2, r3) := by rw [if_neg (show ¬ (false = true) by decide)] at H; exact H
  clear H
  have H := H1
  clear H1
  by_cases c11 : (a2.size : Int) = 32
  {
  rw [if_pos c11] at H
  have c11b0 : ((a2.size : Int) == 32) = true := beq_iff_eq.mpr c11
  have c11b1 : ((a2.size : Int) != 32) = false := bne_eq_false_iff_eq.mpr c11
  clear c11
  obtain ⟨y244, hy244⟩ : ∃ y_ : List (S46), y_ = (([] : List (S46))) := ⟨_, rfl⟩
  replace H : (if y244.length + l0_1.length < 5864062014805 then ((some (y244 ++ l0_1 : List (S46))).bind fun y247 => (if 0 ≤ a1 then (if a1 < (l0_0.length : Int) then ((some (([(⟨a1, rdOf ByteArray.empty l0_0 a1⟩ : S46)] : List (S46)) : List (S46))).bind fun y251 => (if y247.length + y251.length < 5864062014805 then ((some (([] : List ByteArray) : List ByteArray)).bind fun y257 => (if y257.length + l0_0.length < 8796093022208 then ((some (y257 ++ l0_0 : List ByteArray)).bind fun y260 => (if a1 < (y260.length : Int) then (some ((y260.set (a1 : Int).toNat a2), (y247 ++ y251), 0)) else (none))) else (none))) else (none))) else (none)) else (none))) else (none)) = some (r1, r2, r3) := by first | (rw [hy244]; with_reducible exact H) | (have H2_ := (Option.bind_some _ _).symm.trans H; rw [hy244]; with_reducible exact H2_) | (have H2_ := (Option.bind_some _ _).symm.trans H; with_reducible exact H2_) | with_reducible exact H | (rw [hy244]; exact H) | exact H
  have Ny244 := aS hy244
  clear hy244
  by_cases c12 : y244.length + l0_1.length < 5864062014805
  {
  rw [if_pos c12] at H
  have LMc12 := aS c12
  clear c12
  obtain ⟨y247, hy247⟩ : ∃ y_ : List (S46), y_ = (y244 ++ l0_1) := ⟨_, rfl⟩
  replace H : (if 0 ≤ a1 then (if a1 < (l0_0.length : Int) then ((some (([(⟨a1, rdOf ByteArray.empty l0_0 a1⟩ : S46)] : List (S46)) : List (S46))).bind fun y251 => (if y247.length + y251.length < 5864062014805 then ((some (([] : List ByteArray) : List ByteArray)).bind fun y257 => (if y257.length + l0_0.length < 8796093022208 then ((some (y257 ++ l0_0 : List ByteArray)).bind fun y260 => (if a1 < (y260.length : Int) then (some ((y260.set (a1 : Int).toNat a2), (y247 ++ y251), 0)) else (none))) else (none))) else (none))) else (none)) else (none)) = some (r1, r2, r3) := by first | (rw [hy247]; with_reducible exact H) | (have H2_ := (Option.bind_some _ _).symm.trans H; rw [hy247]; with_reducible exact H2_) | (have H2_ := (Option.bind_some _ _).symm.trans H; with_reducible exact H2_) | with_reducible exact H | (rw [hy247]; exact H) | exact H
  have Ny247 := aS hy247
  clear hy247
  by_cases c13 : 0 ≤ a1
  {
  rw [if_pos c13] at H
  have c13b0 : decide (0 ≤ a1) = true := decide_eq_true c13
  clear c13
  by_cases c14 : a1 < (l0_0.length : Int)
  {
  rw [if_pos c14] at H
  have c14b0 : decide (a1 < (l0_0.length : Int)) = true := decide_eq_true c14
  clear c14
  obtain ⟨y251, hy251⟩ : ∃ y_ : List (S46), y_ = (([(⟨a1, rdOf ByteArray.empty l0_0 a1⟩ : S46)] : List (S46))) := ⟨_, rfl⟩
  replace H : (if y247.length + y251.length < 5864062014805 then ((some (([] : List ByteArray) : List ByteArray)).bind fun y257 => (if y257.length + l0_0.length < 8796093022208 then ((some (y257 ++ l0_0 : List ByteArray)).bind fun y260 => (if a1 < (y260.length : Int) then (some ((y260.set (a1 : Int).toNat a2), (y247 ++ y251), 0)) else (none))) else (none))) else (none)) = some (r1, r2, r3) := by first | (rw [hy251]; with_reducible exact H) | (have H2_ := (Option.bind_some _ _).symm.trans H; rw [hy251]; with_reducible exact H2_) | (have H2_ := (Option.bind_some _ _).symm.trans H; with_reducible exact H2_) | with_reducible exact H | (rw [hy251]; exact H) | exact H
  have Ny251 := aS hy251
  clear hy251
  by_cases c15 : y247.length + y251.length < 5864062014805
  {
  rw [if_pos c15] at H
  have LMc15 := aS c15
  clear c15
  obtain ⟨y254, hy254⟩ : ∃ y_ : List (S46), y_ = (y247 ++ y251) := ⟨_, rfl⟩
  replace H : ((some (([] : List ByteArray) : List ByteArray)).bind fun y257 => (if y257.length + l0_0.length < 8796093022208 then ((some (y257 ++ l0_0 : List ByteArray)).bind fun y260 => (if a1 < (y260.length : Int) then (some ((y260.set (a1 : Int).toNat a2), y254, 0)) else (none))) else (none))) = some (r1, r2, r3) := by first | (rw [hy254]; with_reducible exact H) | (have H2_ := (Option.bind_some _ _).symm.trans H; rw [hy254]; with_reducible exact H2_) | (have H2_ := (Option.bind_some _ _).symm.trans H; with_reducible exact H2_) | with_reducible exact H | (rw [hy254]; exact H) | exact H
  have Ny254 := aS hy254
  clear hy254
  obtain ⟨y257, hy257⟩ : ∃ y_ : List ByteArray, y_ = (([] : List ByteArray)) := ⟨_, rfl⟩
  replace H : (if y257.length + l0_0.length < 8796093022208 then ((some (y257 ++ l0_0 : List ByteArray)).bind fun y260 => (if a1 < (y260.length : Int) then (some ((y260.set (a1 : Int).toNat a2), y254, 0)) else (none))) else (none)) = some (r1, r2, r3) := by first | (rw [hy257]; with_reducible exact H) | (have H2_ := (Option.bind_some _ _).symm.trans H; rw [hy257]; with_reducible exact H2_) | (have H2_ := (Option.bind_some _ _).symm.trans H; with_reducible exact H2_) | with_reducible exact H | (rw [hy257]; exact H) | exact H
  have Ny257 := aS hy257
  clear hy257
  by_cases c16 : y257.length + l0_0.length < 8796093022208
  {
  rw [if_pos c16] at H
  have LMc16 := aS c16
  clear c16
  obtain ⟨y260, hy260⟩ : ∃ y_ : List ByteArray, y_ = (y257 ++ l0_0) := ⟨_, rfl⟩
  replace H : (if a1 < (y260.length : Int) then (some ((y260.set (a1 : Int).toNat a2), y254, 0)) else (none)) = some (r1, r2, r3) := by first | (rw [hy260]; with_reducible exact H) | (have H2_ := (Option.bind_some _ _).symm.trans H; rw [hy260]; with_reducible exact H2_) | (have H2_ := (Option.bind_some _ _).symm.trans H; with_reducible exact H2_) | with_reducible exact H | (rw [hy260]; exact H) | exact H
  have Ny260 := aS hy260
  clear hy260
  by_cases c17 : a1 < (y260.length : Int)
  {
  rw [if_pos c17] at H
  have c17b0 : decide (a1 < (y260.length : Int)) = true := decide_eq_true c17
  clear c17
  obtain ⟨y263, hy263⟩ : ∃ y_ : List ByteArray, y_ = (y260.set (a1 : Int).toNat a2) := ⟨_, rfl⟩
  replace H : (some (y263, y254, 0)) = some (r1, r2, r3) := by first | (rw [hy263]; with_reducible exact H) | (have H2_ := (Option.bind_some _ _).symm.trans H; rw [hy263]; with_reducible exact H2_) | (have H2_ := (Option.bind_some _ _).symm.trans H; with_reducible exact H2_) | with_reducible exact H | (rw [hy263]; exact H) | exact H
  have Ny263 := aS hy263
  clear hy263
  simp only [Option.some.injEq, Prod.mk.injEq] at H
  obtain ⟨rfl, rfl, rfl⟩ := H
  try go_wp2
  have n0_ := aS (blk_drew BK242.out)
  have n1_ := aS (blk_drew BK243.out)
  have n2_ := aS (below_drew1 HB.out)
  clear BK242
  clear BK243
  clear HB
  have BK242 := n0_
  have BK243 := n1_
  have HB := n2_
  clear n0_ n1_ n2_
  have p250 : 0 ≤ (a1 : Int) := dd
  have q250 : a1 < (l0_0.length : Int) := dd
  obtain ⟨ad250, e250, hx250_0⟩ := Kd.at_string HR0_0.out a1 p250 q250
  have hw250_0 := hx250_0
  cases e250
  replace hx250_0 := cc HB.out hx250_0
  replace p250 := eq_true p250
  replace q250 := eq_true q250
  refine start_ (n := 14) (S := fun w' => w'.cell? ⟨gb242, 0, none⟩ = some (.slice (some ad250) l0_0.length c0_0) ∧ w'.cell? ⟨gb242, 1, none⟩ = some (.slice A0_1 l0_1.length c0_1) ∧ w'.cell? (ad250.add (a1).toNat) = some (.string (rdOf ByteArray.empty l0_0 a1))) (ds := []) #[false, false, false, false, false, false, false, false, false, false, false, false, false, false] (by kernel_rfl) rfl rfl ⟨(blk_cell BK242.out 0).trans rfl, (blk_cell BK242.out 1).trans rfl, (cc HB.out hw250_0)⟩ (fun hHeld => ?_); refine with_tabW rWriteOk.tab5 rWriteOk.bits5 (fun HT_ HW_ => ?_)
  generalize wc.drew = w19 at BK242 BK243 HB hx250_0 hHeld ⊢
  refine pure_ (i := 1) (N := some 25) (v := ?_) (a' := ?_) #[false, true, false, false, false, false, false, false, false, false, false, false, false, false] rfl rfl (any_of HT_.out (by kernel_rfl)) (fun _ _ _ h => h) (Or.inl ⟨by rfl, ?_⟩) ?_ ?_
  rotate_left
  {
  intro w'
  go_simp
  with_reducible rfl }
  rotate_left
  {
  simp only [Act.put, sT, s0, s1, i64_w, i32_w]
  rfl }
  refine pure_ (i := 4) (N := some 28) (v := ?_) (a' := ?_) #[false, true, false, false, true, false, false, false, false, false, false, false, false, false] rfl rfl (any_of HT_.out (by kernel_rfl)) (fun _ _ _ h => h) (Or.inl ⟨by rfl, ?_⟩) ?_ ?_
  rotate_left
  {
  intro w'
  go_simp
  with_reducible rfl }
  rotate_left
  {
  simp only [Act.put, sT, s0, s1, i64_w, i32_w]
  rfl }
  refine pure_ (i := 5) (N := some 29) (v := ?_) (a' := ?_) #[false, true, false, false, true, true, false, false, false, false, false, false, false, false] rfl rfl (any_of HT_.out (by kernel_rfl)) (fun _ _ _ h => h) (Or.inl ⟨by rfl, ?_⟩) ?_ ?_
  rotate_left
  {
  intro w'
  go_simp
  with_reducible rfl }
  rotate_left
  {
  simp only [Act.put, sT, s0, s1, i64_w, i32_w]
  rfl }
  refine pure_ (i := 7) (N := some 31) (v := ?_) (a' := ?_) #[false, true, false, false, true, true, false, true, false, false, false, false, false, false] rfl rfl (any_of HT_.out (by kernel_rfl)) (fun _ _ _ h => h) (Or.inl ⟨by rfl, ?_⟩) ?_ ?_
  rotate_left
  {
  intro w'
  go_simp
  with_reducible rfl }
  rotate_left
  {
  simp only [Act.put, sT, s0, s1, i64_w, i32_w]
  rfl }
  refine take_ (i := 2) (N := some 26) (v := ?_) (a' := ?_) #[false, true, true, false, true, true, false, true, false, false, false, false, false, false] rfl rfl (take_ofW HT_.out HW_.out (by kernel_rfl)) (fun _ _ _ h => h) (Or.inl ⟨by rfl, ?_⟩) hHeld ?_ ?_
  rotate_left
  {
  rintro w' ⟨s0, s1, s2⟩
  go_simp
  with_reducible rfl }
  rotate_left
  {
  simp only [Act.put, sT, s0, s1, i64_w, i32_w]
  rfl }
  refine take_ (i := 6) (N := some 30) (v := ?_) (a' := ?_) #[false, true, true, false, true, true, true, true, false, false, false, false, false, false] rfl rfl (take_ofW HT_.out HW_.out (by kernel_rfl)) (fun _ _ _ h => h) (Or.inl ⟨by rfl, ?_⟩) hHeld ?_ ?_
  rotate_left
  {
  rintro w' ⟨s0, s1, s2⟩
  go_simp
  with_reducible rfl }
  rotate_left
  {
  simp only [Act.put, sT, s0, s1, i64_w, i32_w]
  rfl }
  refine pure_ (i := 8) (N := some 32) (v := ?_) (a' := ?_) #[false, true, true, false, true, true, true, true, true, false, false, false, false, false] rfl rfl (any_of HT_.out (by kernel_rfl)) (fun _ _ _ h => h) (Or.inl ⟨by rfl, ?_⟩) ?_ ?_
  rotate_left
  {
  intro w'
  go_simp
  with_reducible rfl }
  rotate_left
  {
  simp only [Act.put, sT, s0, s1, i64_w, i32_w]
  rfl }
  refine take_ (i := 9) (N := some 33) (v := ?_) (a' := ?_) #[false, true, true, false, true, true, true, true, true, true, false, false, false, false] rfl rfl (take_ofW HT_.out HW_.out (by kernel_rfl)) (fun _ _ _ h => h) (Or.inl ⟨by rfl, ?_⟩) hHeld ?_ ?_
  rotate_left
  {
  rintro w' ⟨s0, s1, s2⟩
  go_simp
  with_reducible rfl }
  rotate_left
  {
  simp only [Act.put, sT, s0, s1, i64_w, i32_w]
  rfl }
  refine pure_ (i := 10) (N := some 34) (v := ?_) (a' := ?_) #[false, true, true, false, true, true, true, true, true, true, true, false, false, false] rfl rfl (any_of HT_.out (by kernel_rfl)) (fun _ _ _ h => h) (Or.inl ⟨by rfl, ?_⟩) ?_ ?_
  rotate_left
  {
  intro w'
  go_simp
  with_reducible rfl }
  rotate_left
  {
  simp only [Act.put, sT, s0, s1, i64_w, i32_w]
  rfl }
  refine join_ (σ := Value × Value × Value) 2 #[true, true, true, true, true, true, true, true, true, true, true, true, false, false] (fun s_ => [(24, s_.1), (27, s_.2.1), (35, s_.2.2)]) (fun s_ w' => (w'.cell? ⟨gb242, 0, none⟩ = some (.slice (some ad250) l0_0.length c0_0) ∧ w'.cell? ⟨gb242, 1, none⟩ = some (.slice A0_1 l0_1.length c0_1) ∧ w'.cell? (ad250.add (a1).toNat) = some (.string (rdOf ByteArray.empty l0_0 a1))) ∧ (Kd.R k46 46 w' w.heap.size (fun k_ => some k_ ≠ (s_.2.2 : Value).ownBlock) s_.2.1 y247) ∧ (Kd.R k46 46 w' w.heap.size (fun k_ => some k_ ≠ (s_.2.1 : Value).ownBlock) s_.2.2 y251) ∧ (w'.heap[gb242]? = some (.cells #[.slice (some ad250) l0_0.length c0_0, .slice A0_1 l0_1.length c0_1] 25 (0, 0))) ∧ (w'.heap[gb243]? = some (.cells #[.slice none 0 0, .slice none 0 0] 25 (0, 0))) ∧ (Below w.heap.size w w')) ?_ ?_
  rotate_left
  {
  intro hCont
  refine two_ (i := 0) (j := 11) (Ni := some 24) (Nj := some 35) #[true, true, true, false, true, true, true, true, true, true, true, false, false, false] #[false, true, true, false, true, true, true, true, true, true, true, true, false, false] rfl rfl rfl rfl (two_of HT_.out (by kernel_rfl)) (by decide) (by decide) (fun K hK => ?_) (fun K hK => ?_)
  {
  skip
  refine Kd.R_lit_step k46 _ 46 ?hg (N := 24) ?hd (xs := ([] : List (S46))) (inner := []) (ok := fun _ => True) (okp := fun _ => True) ?hr ?hp (fun _ hk => hk) trivial (Below.refl _ _) (Nat.le_refl _) (by simp) ?_; (case hd => rfl); (case hg => rfl); (case hr => first | (go_simp; done) | (go_simp; rfl)); (case hp => exact (Reps.none _ _))
  intro v245 w20 ho21 hb hg_ hnew_
  clear hg_ hnew_
  (first | rw [← Ny244.out] at ho21 | (simp only [Int.reduceToNat] at ho21; rw [← Ny244.out] at ho21))
  have n0_ := aS (Kd.R_lower ho21 bz)
  have n1_ := aS (kb BK242.out hb)
  have n2_ := aS (kb BK243.out hb)
  have n3_ := aS (below_step bb hb)
  clear BK242
  clear BK243
  clear HB
  have HO246 := n0_
  have BK242 := n1_
  have BK243 := n2_
  have HB := n3_
  clear n0_ n1_ n2_ n3_
  clear hb ho21
  refine hK.out _ _ ⟨(blk_cell BK242.out 0).trans rfl, (blk_cell BK242.out 1).trans rfl, (cc HB.out hw250_0)⟩ (fun hHeld => ?_)
  clear hK K
  refine norm_ (a' := ?_) ?_ ?_
  rotate_left
  {
  show Act.put _ (some 24) _ = _
  simp only [Act.put, sT, s0, s1, i64_w, i32_w]
  rfl }
  refine two_ (i := 3) (j := 11) (Ni := some 27) (Nj := some 35) #[true, true, true, true, true, true, true, true, true, true, true, false, false, false] #[true, true, true, false, true, true, true, true, true, true, true, true, false, false] rfl rfl rfl rfl (two_of HT_.out (by kernel_rfl)) (by decide) (by decide) (fun K hK => ?_) (fun K hK => ?_)
  {
  skip
  refine Kd.R_append_rows_step k46 (w0 := w) w.heap.size (by rfl) (.tmp 24) (.tmp 26) 23 46 (.agg #[(.int .i64 0), (.string ⟨#[]⟩)]) 24 rfl Try.underlying23 info46 rfl (by decide) (by omega) v245 y244 l0_1 _ _ _ (fun _ => True) (fun _ => False) rfl rfl ?aO ?aR (fun _ _ h => h) (fun _ h => h.elim) ?aF ?aB ?aS ?aL ?_
  (case aR => exact Kd.C_below HR0_1.out bb)
  (case aB => exact bb)
  (case aF => exact (fun _ _ => trivial))
  (case aO => exact (rr HO246.out))
  (case aS => exact bz)
  (case aL => have := LMc12.out; omega)
  intro v248 w22 ho hb hg hat
  rw [← Ny247.out] at ho
  have n0_ := aS (blk_grown (g := gb242) (o := .cells #[.slice (some ad250) l0_0.length c0_0, .slice A0_1 l0_1.length c0_1] 25 (0, 0)) (kk BK242.out) hg (Kd.R_ne HO246.out BK242.out (by decide)))
  have n1_ := aS (blk_grown (g := gb243) (o := .cells #[.slice none 0 0, .slice none 0 0] 25 (0, 0)) (kk BK243.out) hg (Kd.R_ne HO246.out BK243.out (by decide)))
  have n2_ := aS (hb)
  have n3_ := aS (ho)
  clear BK242
  clear BK243
  clear HB
  clear HO246
  have BK242 := n0_
  have BK243 := n1_
  have HB := n2_
  have HO249 := n3_
  clear n0_ n1_ n2_ n3_
  clear ho hb hg hat
  refine hK.out _ _ ⟨(blk_cell BK242.out 0).trans rfl, (blk_cell BK242.out 1).trans rfl, (cc HB.out hw250_0)⟩ (fun hHeld => ?_)
  clear hK K
  refine norm_ (a' := ?_) ?_ ?_
  rotate_left
  {
  show Act.put _ (some 27) _ = _
  simp only [Act.put, sT, s0, s1, i64_w, i32_w]
  rfl }
  refine one_ (i := 11) (N := some 35) #[true, true, true, true, true, true, true, true, true, true, true, true, false, false] rfl rfl (one_of HT_.out (by kernel_rfl)) (by decide) (fun K hK => ?_)
  refine Kd.R_lit_step k46 _ 46 ?hg (N := 35) ?hd (xs := ([(⟨a1, rdOf ByteArray.empty l0_0 a1⟩ : S46)] : List (S46))) (inner := [.int .i64 a1, .string (rdOf ByteArray.empty l0_0 a1)]) (ok := fun _ => True) (okp := fun _ => True) ?hr ?hp (fun _ hk => hk) trivial (Below.refl _ _) (Nat.le_refl _) (by simp) ?_; (case hd => rfl); (case hg => rfl); (case hr => first | (go_simp; done) | (go_simp; rfl)); (case hp => exact (Reps.c2 (show Kd.M k46 _ _ _ (⟨a1, rdOf ByteArray.empty l0_0 a1⟩ : S46) [.int .i64 a1, .string (rdOf ByteArray.empty l0_0 a1)] from (k46_mkM _ _ _ (⟨a1, rdOf ByteArray.empty l0_0 a1⟩ : S46) )) (Reps.none _ _)))
  intro v252 w23 ho24 hb hg_ hnew_
  clear hg_ hnew_
  (first | rw [← Ny251.out] at ho24 | (simp only [Int.reduceToNat] at ho24; rw [← Ny251.out] at ho24))
  have n0_ := aS (Kd.R_elder' (rr HO249.out) (Kd.R_base ho24) hb)
  have n1_ := aS (Kd.R_lower (Kd.R_new' ho24 (Kd.R_lt (rr HO249.out))) bz)
  have n2_ := aS (kb BK242.out hb)
  have n3_ := aS (kb BK243.out hb)
  have n4_ := aS (below_step bb hb)
  clear HO249
  clear BK242
  clear BK243
  clear HB
  have HO249 := n0_
  have HO253 := n1_
  have BK242 := n2_
  have BK243 := n3_
  have HB := n4_
  clear n0_ n1_ n2_ n3_ n4_
  clear hb ho24
  refine hK.out _ _ ⟨(blk_cell BK242.out 0).trans rfl, (blk_cell BK242.out 1).trans rfl, (cc HB.out hw250_0)⟩ (fun hHeld => ?_)
  clear hK K
  refine norm_ (a' := ?_) ?_ ?_
  rotate_left
  {
  show Act.put _ (some 35) _ = _
  simp only [Act.put, sT, s0, s1, i64_w, i32_w]
  rfl }
  exact norm_ (by simp only [putAll, Act.put, List.setIfInBounds_toArray, List.set_cons_zero, List.set_cons_succ]) (hCont (v245, v248, v252) _ ⟨hHeld, (rr (Kd.R_mono HO249.out (fun _ hk => hk.2))), (rr (Kd.R_mono HO253.out (fun _ hk => hk.2))), (kk BK242.out), (kk BK243.out), bb⟩) }
  {
  skip
  refine Kd.R_lit_step k46 _ 46 ?hg (N := 35) ?hd (xs := ([(⟨a1, rdOf ByteArray.empty l0_0 a1⟩ : S46)] : List (S46))) (inner := [.int .i64 a1, .string (rdOf ByteArray.empty l0_0 a1)]) (ok := fun _ => True) (okp := fun _ => True) ?hr ?hp (fun _ hk => hk) trivial (Below.refl _ _) (Nat.le_refl _) (by simp) ?_; (case hd => rfl); (case hg => rfl); (case hr => first | (go_simp; done) | (go_simp; rfl)); (case hp => exact (Reps.c2 (show Kd.M k46 _ _ _ (⟨a1, rdOf ByteArray.empty l0_0 a1⟩ : S46) [.int .i64 a1, .string (rdOf ByteArray.empty l0_0 a1)] from (k46_mkM _ _ _ (⟨a1, rdOf ByteArray.empty l0_0 a1⟩ : S46) )) (Reps.none _ _)))
  intro v252 w22 ho23 hb hg_ hnew_
  clear hg_ hnew_
  (first | rw [← Ny251.out] at ho23 | (simp only [Int.reduceToNat] at ho23; rw [← Ny251.out] at ho23))
  have n0_ := aS (Kd.R_elder' (rr HO246.out) (Kd.R_base ho23) hb)
  have n1_ := aS (Kd.R_lower (Kd.R_new' ho23 (Kd.R_lt (rr HO246.out))) bz)
  have n2_ := aS (kb BK242.out hb)
  have n3_ := aS (kb BK243.out hb)
  have n4_ := aS (below_step bb hb)
  clear HO246
  clear BK242
  clear BK243
  clear HB
  have HO246 := n0_
  have HO253 := n1_
  have BK242 := n2_
  have BK243 := n3_
  have HB := n4_
  clear n0_ n1_ n2_ n3_ n4_
  clear hb ho23
  refine hK.out _ _ ⟨(blk_cell BK242.out 0).trans rfl, (blk_cell BK242.out 1).trans rfl, (cc HB.out hw250_0)⟩ (fun hHeld => ?_)
  clear hK K
  refine norm_ (a' := ?_) ?_ ?_
  rotate_left
  {
  show Act.put _ (some 35) _ = _
  simp only [Act.put, sT, s0, s1, i64_w, i32_w]
  rfl }
  refine one_ (i := 3) (N := some 27) #[true, true, true, true, true, true, true, true, true, true, true, true, false, false] rfl rfl (one_of HT_.out (by kernel_rfl)) (by decide) (fun K hK => ?_)
  refine Kd.R_append_rows_step k46 (w0 := w) w.heap.size (by rfl) (.tmp 24) (.tmp 26) 23 46 (.agg #[(.int .i64 0), (.string ⟨#[]⟩)]) 24 rfl Try.underlying23 info46 rfl (by decide) (by omega) v245 y244 l0_1 _ _ _ (fun k_ => some k_ ≠ (v252 : Value).ownBlock) (fun _ => False) rfl rfl ?aO ?aR (fun _ _ h => h) (fun _ h => h.elim) ?aF ?aB ?aS ?aL ?_
  (case aR => exact Kd.C_below HR0_1.out bb)
  (case aB => exact bb)
  (case aF => exact (fun k_ hk => Kd.fresh' (Kd.R_lt (rr HO253.out)) k_ hk))
  (case aO => exact (rr (Kd.R_mono HO246.out (fun _ hk => hk.2))))
  (case aS => exact bz)
  (case aL => have := LMc12.out; omega)
  intro v248 w24 ho hb hg hat
  rw [← Ny247.out] at ho
  have n0_ := aS (blk_grown (g := gb242) (o := .cells #[.slice (some ad250) l0_0.length c0_0, .slice A0_1 l0_1.length c0_1] 25 (0, 0)) (kk BK242.out) hg (Kd.R_ne HO246.out BK242.out (by decide)))
  have n1_ := aS (blk_grown (g := gb243) (o := .cells #[.slice none 0 0, .slice none 0 0] 25 (0, 0)) (kk BK243.out) hg (Kd.R_ne HO246.out BK243.out (by decide)))
  have n2_ := aS (Kd.R_after (ok := (fun _ => True)) (rr HO253.out) hg hat)
  have n3_ := aS (hb)
  have n4_ := aS (ho)
  clear BK242
  clear BK243
  clear HO253
  clear HB
  clear HO246
  have BK242 := n0_
  have BK243 := n1_
  have HO253 := n2_
  have HB := n3_
  have HO249 := n4_
  clear n0_ n1_ n2_ n3_ n4_
  clear ho hb hg hat
  refine hK.out _ _ ⟨(blk_cell BK242.out 0).trans rfl, (blk_cell BK242.out 1).trans rfl, (cc HB.out hw250_0)⟩ (fun hHeld => ?_)
  clear hK K
  refine norm_ (a' := ?_) ?_ ?_
  rotate_left
  {
  show Act.put _ (some 27) _ = _
  simp only [Act.put, sT, s0, s1, i64_w, i32_w]
  rfl }
  exact norm_ (by simp only [putAll, Act.put, List.setIfInBounds_toArray, List.set_cons_zero, List.set_cons_succ]) (hCont (v245, v248, v252) _ ⟨hHeld, (rr HO249.out), (rr (Kd.R_mono HO253.out (fun _ hk => hk.2))), (kk BK242.out), (kk BK243.out), bb⟩) } }
  {
  skip
  refine Kd.R_lit_step k46 _ 46 ?hg (N := 35) ?hd (xs := ([(⟨a1, rdOf ByteArray.empty l0_0 a1⟩ : S46)] : List (S46))) (inner := [.int .i64 a1, .string (rdOf ByteArray.empty l0_0 a1)]) (ok := fun _ => True) (okp := fun _ => True) ?hr ?hp (fun _ hk => hk) trivial (Below.refl _ _) (Nat.le_refl _) (by simp) ?_; (case hd => rfl); (case hg => rfl); (case hr => first | (go_simp; done) | (go_simp; rfl)); (case hp => exact (Reps.c2 (show Kd.M k46 _ _ _ (⟨a1, rdOf ByteArray.empty l0_0 a1⟩ : S46) [.int .i64 a1, .string (rdOf ByteArray.empty l0_0 a1)] from (k46_mkM _ _ _ (⟨a1, rdOf ByteArray.empty l0_0 a1⟩ : S46) )) (Reps.none _ _)))
  intro v252 w20 ho21 hb hg_ hnew_
  clear hg_ hnew_
  (first | rw [← Ny251.out] at ho21 | (simp only [Int.reduceToNat] at ho21; rw [← Ny251.out] at ho21))
  have n0_ := aS (Kd.R_lower ho21 bz)
  have n1_ := aS (kb BK242.out hb)
  have n2_ := aS (kb BK243.out hb)
  have n3_ := aS (below_step bb hb)
  clear BK242
  clear BK243
  clear HB
  have HO253 := n0_
  have BK242 := n1_
  have BK243 := n2_
  have HB := n3_
  clear n0_ n1_ n2_ n3_
  clear hb ho21
  refine hK.out _ _ ⟨(blk_cell BK242.out 0).trans rfl, (blk_cell BK242.out 1).trans rfl, (cc HB.out hw250_0)⟩ (fun hHeld => ?_)
  clear hK K
  refine norm_ (a' := ?_) ?_ ?_
  rotate_left
  {
  show Act.put _ (some 35) _ = _
  simp only [Act.put, sT, s0, s1, i64_w, i32_w]
  rfl }
  refine one_ (i := 0) (N := some 24) #[true, true, true, false, true, true, true, true, true, true, true, true, false, false] rfl rfl (one_of HT_.out (by kernel_rfl)) (by decide) (fun K hK => ?_)
  refine Kd.R_lit_step k46 _ 46 ?hg (N := 24) ?hd (xs := ([] : List (S46))) (inner := []) (ok := fun _ => True) (okp := fun _ => True) ?hr ?hp (fun _ hk => hk) trivial (Below.refl _ _) (Nat.le_refl _) (by simp) ?_; (case hd => rfl); (case hg => rfl); (case hr => first | (go_simp; done) | (go_simp; rfl)); (case hp => exact (Reps.none _ _))
  intro v245 w22 ho23 hb hg_ hnew_
  clear hg_ hnew_
  (first | rw [← Ny244.out] at ho23 | (simp only [Int.reduceToNat] at ho23; rw [← Ny244.out] at ho23))
  have n0_ := aS (Kd.R_elder' (rr HO253.out) (Kd.R_base ho23) hb)
  have n1_ := aS (Kd.R_lower (Kd.R_new' ho23 (Kd.R_lt (rr HO253.out))) bz)
  have n2_ := aS (kb BK242.out hb)
  have n3_ := aS (kb BK243.out hb)
  have n4_ := aS (below_step bb hb)
  clear HO253
  clear BK242
  clear BK243
  clear HB
  have HO253 := n0_
  have HO246 := n1_
  have BK242 := n2_
  have BK243 := n3_
  have HB := n4_
  clear n0_ n1_ n2_ n3_ n4_
  clear hb ho23
  refine hK.out _ _ ⟨(blk_cell BK242.out 0).trans rfl, (blk_cell BK242.out 1).trans rfl, (cc HB.out hw250_0)⟩ (fun hHeld => ?_)
  clear hK K
  refine norm_ (a' := ?_) ?_ ?_
  rotate_left
  {
  show Act.put _ (some 24) _ = _
  simp only [Act.put, sT, s0, s1, i64_w, i32_w]
  rfl }
  refine one_ (i := 3) (N := some 27) #[true, true, true, true, true, true, true, true, true, true, true, true, false, false] rfl rfl (one_of HT_.out (by kernel_rfl)) (by decide) (fun K hK => ?_)
  refine Kd.R_append_rows_step k46 (w0 := w) w.heap.size (by rfl) (.tmp 24) (.tmp 26) 23 46 (.agg #[(.int .i64 0), (.string ⟨#[]⟩)]) 24 rfl Try.underlying23 info46 rfl (by decide) (by omega) v245 y244 l0_1 _ _ _ (fun k_ => some k_ ≠ (v252 : Value).ownBlock) (fun _ => False) rfl rfl ?aO ?aR (fun _ _ h => h) (fun _ h => h.elim) ?aF ?aB ?aS ?aL ?_
  (case aR => exact Kd.C_below HR0_1.out bb)
  (case aB => exact bb)
  (case aF => exact (fun k_ hk => Kd.fresh' (Kd.R_lt (rr HO253.out)) k_ hk))
  (case aO => exact (rr (Kd.R_mono HO246.out (fun _ hk => hk.2))))
  (case aS => exact bz)
  (case aL => have := LMc12.out; omega)
  intro v248 w24 ho hb hg hat
  rw [← Ny247.out] at ho
  have n0_ := aS (blk_grown (g := gb242) (o := .cells #[.slice (some ad250) l0_0.length c0_0, .slice A0_1 l0_1.length c0_1] 25 (0, 0)) (kk BK242.out) hg (Kd.R_ne HO246.out BK242.out (by decide)))
  have n1_ := aS (blk_grown (g := gb243) (o := .cells #[.slice none 0 0, .slice none 0 0] 25 (0, 0)) (kk BK243.out) hg (Kd.R_ne HO246.out BK243.out (by decide)))
  have n2_ := aS (Kd.R_after (ok := (fun _ => True)) (rr HO253.out) hg hat)
  have n3_ := aS (hb)
  have n4_ := aS (ho)
  clear BK242
  clear BK243
  clear HO253
  clear HB
  clear HO246
  have BK242 := n0_
  have BK243 := n1_
  have HO253 := n2_
  have HB := n3_
  have HO249 := n4_
  clear n0_ n1_ n2_ n3_ n4_
  clear ho hb hg hat
  refine hK.out _ _ ⟨(blk_cell BK242.out 0).trans rfl, (blk_cell BK242.out 1).trans rfl, (cc HB.out hw250_0)⟩ (fun hHeld => ?_)
  clear hK K
  refine norm_ (a' := ?_) ?_ ?_
  rotate_left
  {
  show Act.put _ (some 27) _ = _
  simp only [Act.put, sT, s0, s1, i64_w, i32_w]
  rfl }
  exact norm_ (by simp only [putAll, Act.put, List.setIfInBounds_toArray, List.set_cons_zero, List.set_cons_succ]) (hCont (v245, v248, v252) _ ⟨hHeld, (rr HO249.out), (rr (Kd.R_mono HO253.out (fun _ hk => hk.2))), (kk BK242.out), (kk BK243.out), bb⟩) } }
  rintro ⟨v245, v248, v252⟩ w25 ⟨hS_, h0_, h1_, h2_, h3_, h4_⟩
  have n0_ : Aside0 (Kd.R k46 46 w25 w.heap.size (fun k_ => some k_ ≠ (v252 : Value).ownBlock) v248 y247) := ⟨h0_⟩
  have n1_ : Aside0 (Kd.R k46 46 w25 w.heap.size (fun k_ => some k_ ≠ (v248 : Value).ownBlock) v252 y251) := ⟨h1_⟩
  have n2_ : Aside0 (w25.heap[gb242]? = some (.cells #[.slice (some ad250) l0_0.length c0_0, .slice A0_1 l0_1.length c0_1] 25 (0, 0))) := ⟨h2_⟩
  have n3_ : Aside0 (w25.heap[gb243]? = some (.cells #[.slice none 0 0, .slice none 0 0] 25 (0, 0))) := ⟨h3_⟩
  have n4_ : Aside0 (Below w.heap.size w w25) := ⟨h4_⟩
  clear BK242
  clear BK243
  clear HB
  clear h0_ h1_ h2_ h3_ h4_
  have HO249 := n0_
  have HO253 := n1_
  have BK242 := n2_
  have BK243 := n3_
  have HB := n4_
  clear n0_ n1_ n2_ n3_ n4_
  have hHeld : w25.cell? ⟨gb242, 0, none⟩ = some (.slice (some ad250) l0_0.length c0_0) ∧ w25.cell? ⟨gb242, 1, none⟩ = some (.slice A0_1 l0_1.length c0_1) ∧ w25.cell? (ad250.add (a1).toNat) = some (.string (rdOf ByteArray.empty l0_0 a1)) := hS_
  obtain ⟨Ao27, co27, eo27⟩ := Kd.R_slice HO253.out
  (first | subst eo27 | (injection eo27 with f1_ f2_ f3_; have f4_ := f1_.symm; have f5_ := f3_.symm; clear f1_ f2_ f3_; subst f4_; subst f5_))
  refine norm_ (a' := ?_) ?_ ?_
  rotate_left
  {
  simp only [putAll, Act.put, List.setIfInBounds_toArray, List.set_cons_zero, List.set_cons_succ]
  rfl }
  refine one_ (i := 12) (N := some 36) #[true, true, true, true, true, true, true, true, true, true, true, true, true, false] rfl rfl (one_of HT_.out (by kernel_rfl)) (by decide) (fun K hK => ?_)
  refine Kd.R_append_rows_step k46 (w0 := w) w.heap.size (by rfl) (.tmp 27) (.tmp 35) 23 46 (.agg #[(.int .i64 0), (.string ⟨#[]⟩)]) 24 rfl Try.underlying23 info46 rfl (by decide) (by omega) v248 y247 y251 _ _ _ (fun k_ => some k_ ≠ (.slice Ao27 y251.length co27 : Value).ownBlock) (fun _ => False) rfl rfl ?aO ?aR (fun _ _ h => h) (fun _ h => h.elim) ?aF ?aB ?aS ?aL ?_
  (case aR => repeat (first | exact (Kd.R_reads' HO253.out).2.2 | (with_reducible refine Kd.C_alloc ?_ _) | (with_reducible refine Kd.C_drewN ?_ _) | (with_reducible refine Kd.C_drew ?_)))
  (case aB => exact bb)
  (case aF => exact (fun k_ hk => Kd.fresh' (Kd.R_lt (rr HO253.out)) k_ hk))
  (case aO => exact (rr HO249.out))
  (case aS => exact bz)
  (case aL => have := LMc15.out; omega)
  intro v255 w26 ho hb hg hat
  rw [← Ny254.out] at ho
  have n0_ := aS (blk_grown (g := gb242) (o := .cells #[.slice (some ad250) l0_0.length c0_0, .slice A0_1 l0_1.length c0_1] 25 (0, 0)) (kk BK242.out) hg (Kd.R_ne HO249.out BK242.out (by decide)))
  have n1_ := aS (blk_grown (g := gb243) (o := .cells #[.slice none 0 0, .slice none 0 0] 25 (0, 0)) (kk BK243.out) hg (Kd.R_ne HO249.out BK243.out (by decide)))
  have n2_ := aS (Kd.R_after (ok := (fun _ => True)) (rr (Kd.R_mono HO253.out (fun _ hk => ⟨trivial, hk⟩))) hg hat)
  have n3_ := aS (hb)
  have n4_ := aS (ho)
  clear BK242
  clear BK243
  clear HO253
  clear HB
  clear HO249
  have BK242 := n0_
  have BK243 := n1_
  have HO253 := n2_
  have HB := n3_
  have HO256 := n4_
  clear n0_ n1_ n2_ n3_ n4_
  clear ho hb hg hat
  refine hK.out _ _ ⟨(blk_cell BK242.out 0).trans rfl, (blk_cell BK242.out 1).trans rfl, (cc HB.out hw250_0)⟩ (fun hHeld => ?_)
  clear hK K
  refine norm_ (a' := ?_) ?_ ?_
  rotate_left
  {
  show Act.put _ (some 36) _ = _
  simp only [Act.put, sT, s0, s1, i64_w, i32_w]
  rfl }
  refine pure_ (i := 13) (N := some 8) (v := ?_) (a' := ?_) #[true, true, true, true, true, true, true, true, true, true, true, true, true, true] rfl rfl (any_of HT_.out (by kernel_rfl)) (fun _ _ _ h => h) (Or.inl ⟨by rfl, ?_⟩) ?_ ?_
  rotate_left
  {
  intro w'
  go_simp
  with_reducible rfl }
  rotate_left
  {
  simp only [Act.put, sT, s0, s1, i64_w, i32_w]
  rfl }
  refine done_ (done_of HT_.out (by kernel_rfl)) ?_
  try go_wp2_with (first | ((with_reducible refine gate_dst (N := 37) rfl ?_); (try (refine gate_guard (by rfl) ?_; dsimp only)); refine Kd.R_lit Kd.string _ 9 ?hg (N := 37) ?hd (xs := ([] : List ByteArray)) (inner := []) (ok := fun _ => True) (okp := fun _ => True) ?hr ?hp (fun _ hk => hk) trivial (Below.refl _ _) (Nat.le_refl _) (by simp) ?_; (case hd => rfl); (case hg => rfl); (case hr => first | (go_simp; done) | (go_simp; rfl)); (case hp => exact (Reps.none _ _)); intro v258 w28 ho29 hb hg_ hnew_; clear hg_ hnew_; (first | rw [← Ny257.out] at ho29 | (simp only [Int.reduceToNat] at ho29; rw [← Ny257.out] at ho29)); have n0_ := aS (Kd.R_below (rr HO253.out) hb); have n1_ := aS (Kd.R_below (rr HO256.out) hb); have n2_ := aS (Kd.R_lower ho29 bz); have n3_ := aS (kb BK242.out hb); have n4_ := aS (kb BK243.out hb); have n5_ := aS (below_step bb hb); clear HO253; clear HO256; clear BK242; clear BK243; clear HB; have HO253 := n0_; have HO256 := n1_; have HO259 := n2_; have BK242 := n3_; have BK243 := n4_; have HB := n5_; clear n0_ n1_ n2_ n3_ n4_ n5_; clear hb ho29; have hnb30 := NB242_243.out; have hnc30 := NB243_242.out; have hcz31_0 : w28.cell? ⟨gb242, 0, none⟩ = some (.slice (some ad250) l0_0.length c0_0) := (blk_cell BK242.out 0).trans rfl; have hcz31_1 : w28.cell? ⟨gb242, 1, none⟩ = some (.slice A0_1 l0_1.length c0_1) := (blk_cell BK242.out 1).trans rfl; have hfz31_0 := blk_frozen BK242.out 0; have hfz31_1 := blk_frozen BK242.out 1) | ((with_reducible refine gate_builtin (b := .append) (xs := #[.tmp 37, .tmp 39]) rfl ?_); (try (refine gate_guard (by rfl) ?_; dsimp only)); at_builtin; refine Kd.R_append_rows Kd.string (w0 := w) w.heap.size rfl (.tmp 37) (.tmp 39) 22 9 (.string ⟨#[]⟩) 16 rfl Try.underlying22 info9 rfl (by decide) (by omega) v258 y257 l0_0 _ _ _ (fun _ => True) (fun _ => False) rfl rfl ?aO ?aR (fun _ _ h => h) (fun _ h => h.elim) ?aF ?aB ?aS ?aL ?_; (case aR => exact Kd.C_below HR0_0.out bb); (case aB => exact bb); (case aF => exact (fun _ _ => trivial)); (case aO => exact (rr HO259.out)); (case aS => exact bz); (case aL => have := LMc16.out; omega); intro v261 w32 ho hb hg hat; rw [← Ny260.out] at ho; have n0_ := aS (blk_grown (g := gb242) (o := .cells #[.slice (some ad250) l0_0.length c0_0, .slice A0_1 l0_1.length c0_1] 25 (0, 0)) (kk BK242.out) hg (Kd.R_ne HO259.out BK242.out (by decide))); have n1_ := aS (blk_grown (g := gb243) (o := .cells #[.slice none 0 0, .slice none 0 0] 25 (0, 0)) (kk BK243.out) hg (Kd.R_ne HO259.out BK243.out (by decide))); have n2_ := aS (Kd.R_over' (rr HO253.out) (Kd.R_typed (rr HO259.out)) (by decide) hg); have n3_ := aS (Kd.R_over' (rr HO256.out) (Kd.R_typed (rr HO259.out)) (by decide) hg); have n4_ := aS (hb); have n5_ := aS (ho); clear BK242; clear BK243; clear HO253; clear HO256; clear HB; clear HO259; have BK242 := n0_; have BK243 := n1_; have HO253 := n2_; have HO256 := n3_; have HB := n4_; have HO262 := n5_; clear n0_ n1_ n2_ n3_ n4_ n5_; clear ho hb hg hat; have p18 : 0 ≤ (a1 : Int) := dd; have q18 : (a1 : Int) < ((y260.length : Int) : Int) := dd; obtain ⟨go18, co18, eo18, gb18, gl18, cl18, HG18⟩ := Kd.R_form HO262.out (by omega); (first | cases eo18 | (injection eo18 with ea_ en_ ec_; (first | subst ea_ | (injection ea_ with ea_; subst ea_)); subst ec_; clear en_)); have GB18 := aS gb18; have GG18 := aS HG18; clear gb18 gl18 HG18; obtain ⟨hx18_0, hf18_0⟩ := Kd.R_celln (⟨#[]⟩ : ByteArray) HO262.out (a1 : Int) p18 q18; replace p18 := eq_true p18; replace q18 := eq_true q18; obtain ⟨hy33_, hz33_⟩ := Kd.R_celln (⟨#[]⟩ : ByteArray) HO262.out (a1 : Int) (dd) (dd); have HP33 := Kd.R_putg HO262.out (a1 : Int) a2) | ((with_reducible refine gate_store (t := 9) (p := 44) rfl ?_); refine store_event (t := 9) (p := 44) (v := ?vo_w34) (w1 := (w32.setCell ⟨go18, (a1 : Int).toNat, none⟩ (.string a2))) ?hg ?ho ?hn ?hr ?_; (case ho => rfl); (case hg => rfl); (case hn => rfl); (case hr => first | (go_simp; done) | (go_simp; rfl)); intro w34 hw; have hg : w32.grownBy w34 (some go18) := (by rw [hw]; exact HP33.2); have hp_ : Kd.R Kd.string 9 w34 w.heap.size (fun _ => True) (.slice (some ⟨go18, 0, none⟩) y260.length co18) y263 := (by rw [hw, Ny263.out]; exact HP33.1); clear HP33; have n0_ := aS (blk_grown (g := gb242) (o := .cells #[.slice (some ad250) l0_0.length c0_0, .slice A0_1 l0_1.length c0_1] 25 (0, 0)) (kk BK242.out) hg (Kd.R_ne HO262.out BK242.out (by decide))); have n1_ := aS (blk_grown (g := gb243) (o := .cells #[.slice none 0 0, .slice none 0 0] 25 (0, 0)) (kk BK243.out) hg (Kd.R_ne HO262.out BK243.out (by decide))); have n2_ := aS (Kd.R_over' (v := (.slice (some ⟨go18, 0, none⟩) y260.length co18)) (rr HO253.out) (Kd.R_typed HO262.out) (by decide) hg); have n3_ := aS (Kd.R_over' (v := (.slice (some ⟨go18, 0, none⟩) y260.length co18)) (rr HO256.out) (Kd.R_typed HO262.out) (by decide) hg); have n4_ := aS (hp_); have n5_ := aS ((by rw [hw]; exact below_set (HB.out) GB18.out : Below w.heap.size w w34)); clear BK242; clear BK243; clear HO253; clear HO256; clear HO262; clear HB; have BK242 := n0_; have BK243 := n1_; have HO253 := n2_; have HO256 := n3_; have HO262 := n4_; have HB := n5_; clear n0_ n1_ n2_ n3_ n4_ n5_; clear hg hw hp_; obtain ⟨Ao35, co35, eo35⟩ := Kd.R_slice HO256.out; subst eo35; have hcz36_0 : w34.cell? ⟨gb243, 0, none⟩ = some (.slice none 0 0) := (blk_cell BK243.out 0).trans rfl; have hcz36_1 : w34.cell? ⟨gb243, 1, none⟩ = some (.slice none 0 0) := (blk_cell BK243.out 1).trans rfl; have hfz36_0 := blk_frozen BK243.out 0; have hfz36_1 := blk_frozen BK243.out 1))
  refine bodyPost_ret (results_ct rfl _ _ gb243 25 #[.slice (some ⟨go18, 0, none⟩) y260.length co18, .slice Ao35 y254.length co35] (0, 0) _ rfl (by (with_reducible repeat (first | refine blk_drewN ?_ _ | refine blk_drew ?_ | refine blk_alloc ?_ _)); refine blk_put (cs := #[.slice (some ⟨go18, 0, none⟩) y260.length co18, .slice none 0 0]) ?_ 1 _ rfl; (with_reducible repeat (first | refine blk_drewN ?_ _ | refine blk_drew ?_ | refine blk_alloc ?_ _)); refine blk_put (cs := #[.slice none 0 0, .slice none 0 0]) ?_ 0 _ rfl; (with_reducible repeat (first | refine blk_drewN ?_ _ | refine blk_drew ?_ | refine blk_alloc ?_ _)); exact BK243.out) Try.underlying25 rfl (by kernel_rfl)) rfl ?_
  exact ⟨_, _, by first | rfl | (simp [errW_none, errW_some] <;> rfl) | (simp [*, errW_none, errW_some] <;> rfl), by (with_reducible repeat (first | apply Kd.R_alloc | apply Kd.R_drewN | apply Kd.R_drew)); exact Kd.R_mono (Kd.R_far (p := ⟨gb243, 1, none⟩) (Kd.R_far (p := ⟨gb243, 0, none⟩) (Kd.R_types HO262.out BK243.out (by decide)) (fun _ hk => hk.2) (.slice (some ⟨go18, 0, none⟩) y260.length co18)) (fun _ hk => hk.2) (.slice Ao35 y254.length co35)) (fun _ hk => trivial), by (with_reducible repeat (first | apply Kd.R_alloc | apply Kd.R_drewN | apply Kd.R_drew)); exact Kd.R_mono (Kd.R_far (p := ⟨gb243, 1, none⟩) (Kd.R_far (p := ⟨gb243, 0, none⟩) (Kd.R_types HO256.out BK243.out (by decide)) (fun _ hk => hk.2) (.slice (some ⟨go18, 0, none⟩) y260.length co18)) (fun _ hk => hk.2) (.slice Ao35 y254.length co35)) (fun _ hk => trivial), by repeat (first | (with_reducible first | exact HB.out | apply below_alloc | apply pw_below_drewN | apply below_drew1 | refine below_set ?_ GE242.out | refine below_set ?_ GE243.out) | exact HB.out)⟩ }
  {
  rw [if_neg c17] at H
  exact absurd H (by simp) } }
  {
  rw [if_neg c16] at H
  exact absurd H (by simp) } }
  {
  rw [if_neg c15] at H
  exact absurd H (by simp) } }
  {
  rw [if_neg c14] at H
  exact absurd H (by simp) } }
  {
  rw [if_neg c13] at H
  exact absurd H (by simp) } }
  {
  rw [if_neg c12] at H
  exact absurd H (by simp) } }
  {
  rw [if_neg c11] at H
  exact absurd H (by simp) } } }

end Go.Proofs.Ytdaonhgcejjlhaa.P
