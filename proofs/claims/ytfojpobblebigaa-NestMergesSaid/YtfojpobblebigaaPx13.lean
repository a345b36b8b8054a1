-- Written by pp.py (this session's program over the kit's printer): functions, contracts. Not trusted: Lean checks it.
import Derived.Test.YtfojpobblebigaaYM0
import Derived.Test.YtfojpobblebigaaPx10
namespace Go.Proofs.Ytfojpobblebigaa.P
open Go.RowKit Go.Proofs.YtfojpobblebigaaW.PrintWords Go.Proofs.YtfojpobblebigaaW.PrintLast Go.Proofs.YtfojpobblebigaaW.PrintMore
attribute [local go_sem] max2_int min2_int max_two min_two max_three min_three max_four min_four   -- for this text's walks alone
set_option linter.unusedVariables false
set_option linter.unusedSimpArgs false

/-! ### hallmootref13_Same: function 19 -/
def hallmootref13_Same.l0 : Nat → List (S62) → List (S62) → Int → Option (Bool)
  | 0, _, _, _ => none
  | k + 1, x0, x1, x5 => if x5 < (x0.length : Int) then (if 0 ≤ x5 then (if x5 < (x1.length : Int) then ((hallmootref13_Seens.f k ((rd_T62 x0 x5).f0) ((rd_T62 x1 x5).f0)).bind fun t211 => ((hallmootref13_Writes.f k ((rd_T62 x0 x5).f1) ((rd_T62 x1 x5).f1)).bind fun t214 => ((hallmootref13_Undos.f k ((rd_T62 x0 x5).f2) ((rd_T62 x1 x5).f2)).bind fun t217 => (if t211 = true then (if t214 = true then (if t217 = true then (hallmootref13_Same.l0 k x0 x1 (wrap64 (x5 + 1))) else (some false)) else (some false)) else (some false))))) else (none)) else (none)) else (some true)
def hallmootref13_Same.f (k : Nat) (l0 : List (S62)) (l1 : List (S62)) : Option (Bool) := if (l0.length : Int) = (l1.length : Int) then (hallmootref13_Same.l0 k l0 l1 0) else (some false)
theorem hallmootref13_Same.mono_l : ∀ k, (∀ y0 y1 y2, LeO (hallmootref13_Same.l0 k y0 y1 y2) (hallmootref13_Same.l0 (k + 1) y0 y1 y2))
  | 0 => fun _ _ _ r h => by simp [hallmootref13_Same.l0] at h
  | k + 1 => by
    have ih0 := hallmootref13_Same.mono_l k
    · intro y0 y1 y2
      unfold hallmootref13_Same.l0
      repeat' first
      | (with_reducible exact ih0 _ _ _)
      | (with_reducible exact hallmootref13_Seens.mono _ _ _)
      | (with_reducible exact hallmootref13_Undos.mono _ _ _)
      | (with_reducible exact hallmootref13_Writes.mono _ _ _)
      | (with_reducible exact LeO.refl _)
      | (with_reducible exact LeO.none _)
      | (with_reducible refine LeO.ite ?_ ?_)
      | (with_reducible refine LeO.bind ?_ (fun _ => ?_))
      | exact ih0 _ _ _
      | exact hallmootref13_Seens.mono _ _ _
      | exact hallmootref13_Undos.mono _ _ _
      | exact hallmootref13_Writes.mono _ _ _
      | exact LeO.none _
      | refine LeO.ite ?_ ?_
      | refine LeO.bind ?_ (fun _ => ?_)
theorem hallmootref13_Same.mono : ∀ a0 a1 k, LeO (hallmootref13_Same.f k a0 a1) (hallmootref13_Same.f (k + 1) a0 a1) := by
 intro a0 a1 k
 have ih0 := hallmootref13_Same.mono_l k
 unfold hallmootref13_Same.f
 repeat' first | (with_reducible exact ih0 _ _ _) | (with_reducible exact hallmootref13_Seens.mono _ _ _) | (with_reducible exact hallmootref13_Undos.mono _ _ _) | (with_reducible exact hallmootref13_Writes.mono _ _ _) | (with_reducible exact LeO.refl _) | (with_reducible exact LeO.none _) | (with_reducible refine LeO.ite ?_ ?_) | (with_reducible refine LeO.bind ?_ (fun _ => ?_)) | exact ih0 _ _ _ | exact hallmootref13_Seens.mono _ _ _ | exact hallmootref13_Undos.mono _ _ _ | exact hallmootref13_Writes.mono _ _ _ | exact LeO.none _ | refine LeO.ite ?_ ?_ | refine LeO.bind ?_ (fun _ => ?_)
def hallmootref13_Same.T6 : Bool × List (List Nat × List Nat) := (true, [([], []), ([], []), ([0, 1], [0, 1]), ([2], [2]), ([3], [3]), ([], []), ([], []), ([5, 6], [5, 6]), ([7], [7]), ([8], [8]), ([4, 9], [4, 9]), ([10, 10, 0, 1, 2, 3, 4, 5, 6, 7, 8, 9, 10], [10])])
def hallmootref13_Same.B6 : List Nat := [0, 0, 3, 7, 15, 0, 0, 96, 224, 480, 1023, 2047]
theorem hallmootref13_Same.tab6 : rtab .any (opsOf Try.f19 6) = hallmootref13_Same.T6 := by kernel_rfl
theorem hallmootref13_Same.bits6 : waitsOk hallmootref13_Same.T6.2 hallmootref13_Same.B6 = true := by kernel_rfl
def hallmootref13_Same.T7 : Bool × List (List Nat × List Nat) := (true, [([], []), ([], []), ([0, 1], [0, 1]), ([2], [2]), ([3], [3]), ([], []), ([], []), ([5, 6], [5, 6]), ([7], [7]), ([8], [8]), ([4, 9], [4, 9]), ([10, 10, 0, 1, 2, 3, 4, 5, 6, 7, 8, 9, 10], [10])])
def hallmootref13_Same.B7 : List Nat := [0, 0, 3, 7, 15, 0, 0, 96, 224, 480, 1023, 2047]
theorem hallmootref13_Same.tab7 : rtab .any (opsOf Try.f19 7) = hallmootref13_Same.T7 := by kernel_rfl
theorem hallmootref13_Same.bits7 : waitsOk hallmootref13_Same.T7.2 hallmootref13_Same.B7 = true := by kernel_rfl
def hallmootref13_Same.T8 : Bool × List (List Nat × List Nat) := (true, [([], []), ([], []), ([0, 1], [0, 1]), ([2], [2]), ([3], [3]), ([], []), ([], []), ([5, 6], [5, 6]), ([7], [7]), ([8], [8]), ([4, 9], [4, 9]), ([10, 10, 0, 1, 2, 3, 4, 5, 6, 7, 8, 9, 10], [10])])
def hallmootref13_Same.B8 : List Nat := [0, 0, 3, 7, 15, 0, 0, 96, 224, 480, 1023, 2047]
theorem hallmootref13_Same.tab8 : rtab .any (opsOf Try.f19 8) = hallmootref13_Same.T8 := by kernel_rfl
theorem hallmootref13_Same.bits8 : waitsOk hallmootref13_Same.T8.2 hallmootref13_Same.B8 = true := by kernel_rfl
set_option maxHeartbeats 8000000 in
set_option maxRecDepth 100000 in
theorem hallmootref13_Same.calls (k : Nat) (A0 : Option Addr) (c0 : Nat) (l0 : List (S62)) (A1 : Option Addr) (c1 : Nat) (l1 : List (S62)) (r : Bool) (w : World) (hr0 : Kd.C k62 w A0 l0.length l0) (hc0 : l0.length ≤ c0) (hr1 : Kd.C k62 w A1 l1.length l1) (hc1 : l1.length ≤ c1) (h : hallmootref13_Same.f k l0 l1 = some r) : Calls Try.prog 19 #[.slice A0 l0.length c0, .slice A1 l1.length c1] w fun e w' => e = .returned (.bool r) ∧ Below w.heap.size w w' := by
 have HR0 := aS hr0
 have HC0 := aS hc0
 clear hr0 hc0
 have HR1 := aS hr1
 have HC1 := aS hc1
 clear hr1 hc1
 have HB := aS (Below.refl w.heap.size w)
 have H : (if (l0.length : Int) = (l1.length : Int) then (hallmootref13_Same.l0 k l0 l1 0) else (some false)) = some r := h
 clear h
 by_cases c3 : (l0.length : Int) = (l1.length : Int)
 {
 rw [if_pos c3] at H
 have c3b0 : ((l0.length : Int) == (l1.length : Int)) = true := beq_iff_eq.mpr c3
 have c3b1 : ((l0.length : Int) != (l1.length : Int)) = false := bne_eq_false_iff_eq.mpr c3
 have c3b2 : (l0.length == l1.length) = true := by first | simpa using c3 | (simp at c3 ⊢; omega)
 clear c3
 have H' := aS H
 clear H
 go_enter Try.func19, Try.ntmps19
 go_wp2
 go_loopg [5] k (fun kq v5 w' => ∃ (x5_1 : Int), v5 = .int .i64 x5_1 ∧ Aside0 (hallmootref13_Same.l0 kq l0 l1 x5_1 = some r) ∧ Aside0 (kq ≤ k) ∧ Aside0 (Below w.heap.size w w'))
 case atStart => exact ⟨(0), (by first | rfl | (simp; done) | (simp [*]; done)), H', ⟨Nat.le_refl _⟩, ⟨by repeat (first | (with_reducible first | exact HB.out | apply below_alloc | apply pw_below_drewN | apply below_drew1) | exact HB.out)⟩⟩
 case round =>
  clear H'
  try clear c1
  try clear p2
  try clear c3
  try clear c3b0
  try clear c3b1
  try clear c3b2
  obtain ⟨x5_1, rfl, HA, HK1, HB⟩ := hrel
  cases gk with
  | zero => exact absurd HA.out (by simp [hallmootref13_Same.l0])
  | succ k1 => {
  have H := HA.out
  clear HA
  simp only [hallmootref13_Same.l0] at H
  by_cases c4 : x5_1 < (l0.length : Int)
  {
  rw [if_pos c4] at H
  have c4b0 : decide (x5_1 < (l0.length : Int)) = true := decide_eq_true c4
  clear c4
  by_cases c5 : 0 ≤ x5_1
  {
  rw [if_pos c5] at H
  have c5b0 : decide (0 ≤ x5_1) = true := decide_eq_true c5
  clear c5
  by_cases c6 : x5_1 < (l1.length : Int)
  {
  rw [if_pos c6] at H
  have c6b0 : decide (x5_1 < (l1.length : Int)) = true := decide_eq_true c6
  clear c6
  replace H := Option.bind_eq_some_iff.mp H
  obtain ⟨t211, A70, H⟩ := H
  replace H : ((hallmootref13_Writes.f k1 ((rd_T62 l0 x5_1).f1) ((rd_T62 l1 x5_1).f1)).bind fun t214 => ((hallmootref13_Undos.f k1 ((rd_T62 l0 x5_1).f2) ((rd_T62 l1 x5_1).f2)).bind fun t217 => (if t211 = true then (if t214 = true then (if t217 = true then (hallmootref13_Same.l0 k1 l0 l1 (wrap64 (x5_1 + 1))) else (some false)) else (some false)) else (some false)))) = some r := H
  have A7 := aS A70
  clear A70
  replace H := Option.bind_eq_some_iff.mp H
  obtain ⟨t214, A80, H⟩ := H
  replace H : ((hallmootref13_Undos.f k1 ((rd_T62 l0 x5_1).f2) ((rd_T62 l1 x5_1).f2)).bind fun t217 => (if t211 = true then (if t214 = true then (if t217 = true then (hallmootref13_Same.l0 k1 l0 l1 (wrap64 (x5_1 + 1))) else (some false)) else (some false)) else (some false))) = some r := H
  have A8 := aS A80
  clear A80
  replace H := Option.bind_eq_some_iff.mp H
  obtain ⟨t217, A90, H⟩ := H
  replace H : (if t211 = true then (if t214 = true then (if t217 = true then (hallmootref13_Same.l0 k1 l0 l1 (wrap64 (x5_1 + 1))) else (some false)) else (some false)) else (some false)) = some r := H
  have A9 := aS A90
  clear A90
  by_cases c10 : t211 = true
  {
  subst c10
  have H1 : (if t214 = true then (if t217 = true then (hallmootref13_Same.l0 k1 l0 l1 (wrap64 (x5_1 + 1))) else (some false)) else (some false)) = some r := by rw [if_pos rfl] at H; exact H
  clear H
  have H := H1
  clear H1
  by_cases c11 : t214 = true
  {
  subst c11
  have H1 : (if t217 = true then (hallmootref13_Same.l0 k1 l0 l1 (wrap64 (x5_1 + 1))) else (some false)) = some r := by rw [if_pos rfl] at H; exact H
  clear H
  have H := H1
  clear H1
  by_cases c12 : t217 = true
  {
  subst c12
  have H1 : (hallmootref13_Same.l0 k1 l0 l1 (wrap64 (x5_1 + 1))) = some r := by rw [if_pos rfl] at H; exact H
  clear H
  have H := H1
  clear H1
  have H' := aS H
  clear H
  try go_wp2
  have n0_ := aS (below_drew1 HB.out)
  clear HB
  have HB := n0_
  clear n0_
  have p209 : 0 ≤ (x5_1 : Int) := dd
  have q209 : x5_1 < (l0.length : Int) := dd
  obtain ⟨ad209, A209_0, c209_0, A209_1, c209_1, A209_2, c209_2, e209, hx209_0, hx209_1, hx209_2, hl209_0, hi209_0, hl209_1, hi209_1, hl209_2, hi209_2⟩ := at_T62 HR0.out x5_1 p209 q209
  have hw209_2 := hx209_2
  have hw209_1 := hx209_1
  have hw209_0 := hx209_0
  cases e209
  replace hx209_0 := cc HB.out hx209_0
  replace hx209_1 := cc HB.out hx209_1
  replace hx209_2 := cc HB.out hx209_2
  have HR209_0 := aS hi209_0
  have HC209_0 := aS hl209_0
  clear hi209_0 hl209_0
  have HR209_1 := aS hi209_1
  have HC209_1 := aS hl209_1
  clear hi209_1 hl209_1
  have HR209_2 := aS hi209_2
  have HC209_2 := aS hl209_2
  clear hi209_2 hl209_2
  replace p209 := eq_true p209
  replace q209 := eq_true q209
  have p210 : 0 ≤ (x5_1 : Int) := dd
  have q210 : x5_1 < (l1.length : Int) := dd
  obtain ⟨ad210, A210_0, c210_0, A210_1, c210_1, A210_2, c210_2, e210, hx210_0, hx210_1, hx210_2, hl210_0, hi210_0, hl210_1, hi210_1, hl210_2, hi210_2⟩ := at_T62 HR1.out x5_1 p210 q210
  have hw210_2 := hx210_2
  have hw210_1 := hx210_1
  have hw210_0 := hx210_0
  cases e210
  replace hx210_0 := cc HB.out hx210_0
  replace hx210_1 := cc HB.out hx210_1
  replace hx210_2 := cc HB.out hx210_2
  have HR210_0 := aS hi210_0
  have HC210_0 := aS hl210_0
  clear hi210_0 hl210_0
  have HR210_1 := aS hi210_1
  have HC210_1 := aS hl210_1
  clear hi210_1 hl210_1
  have HR210_2 := aS hi210_2
  have HC210_2 := aS hl210_2
  clear hi210_2 hl210_2
  replace p210 := eq_true p210
  replace q210 := eq_true q210
  refine start_ (n := 12) (S := fun w' => w'.cell? (ad209.add ((x5_1).toNat * 3)) = some (.slice A209_0 ((rd_T62 l0 x5_1).f0).length c209_0) ∧ w'.cell? ⟨(ad209.add ((x5_1).toNat * 3)).block, (ad209.add ((x5_1).toNat * 3)).off + 1, none⟩ = some (.slice A209_1 ((rd_T62 l0 x5_1).f1).length c209_1) ∧ w'.cell? ⟨(ad209.add ((x5_1).toNat * 3)).block, (ad209.add ((x5_1).toNat * 3)).off + 2, none⟩ = some (.slice A209_2 ((rd_T62 l0 x5_1).f2).length c209_2) ∧ w'.cell? (ad210.add ((x5_1).toNat * 3)) = some (.slice A210_0 ((rd_T62 l1 x5_1).f0).length c210_0) ∧ w'.cell? ⟨(ad210.add ((x5_1).toNat * 3)).block, (ad210.add ((x5_1).toNat * 3)).off + 1, none⟩ = some (.slice A210_1 ((rd_T62 l1 x5_1).f1).length c210_1) ∧ w'.cell? ⟨(ad210.add ((x5_1).toNat * 3)).block, (ad210.add ((x5_1).toNat * 3)).off + 2, none⟩ = some (.slice A210_2 ((rd_T62 l1 x5_1).f2).length c210_2)) (ds := []) #[false, false, false, false, false, false, false, false, false, false, false, false] (by kernel_rfl) rfl rfl ⟨(cc HB.out hw209_0), (cc HB.out hw209_1), (cc HB.out hw209_2), (cc HB.out hw210_0), (cc HB.out hw210_1), (cc HB.out hw210_2)⟩ (fun hHeld => ?_); refine with_tabW hallmootref13_Same.tab6 hallmootref13_Same.bits6 (fun HT_ HW_ => ?_)
  generalize wr.drew = w13 at HB HR209_0 HR209_1 HR209_2 HR210_0 HR210_1 HR210_2 hx209_0 hx209_1 hx209_2 hx210_0 hx210_1 hx210_2 hHeld ⊢
  refine pure_ (i := 0) (N := some 20) (v := ?_) (a' := ?_) #[true, false, false, false, false, false, false, false, false, false, false, false] rfl rfl (any_of HT_.out (by kernel_rfl)) (fun _ _ _ h => h) (Or.inl ⟨by rfl, ?_⟩) ?_ ?_
  rotate_left
  {
  intro w'
  go_simp
  with_reducible rfl }
  rotate_left
  {
  simp only [Act.put, sT, s0, s1, i64_w, i32_w]
  rfl }
  refine pure_ (i := 1) (N := some 21) (v := ?_) (a' := ?_) #[true, true, false, false, false, false, false, false, false, false, false, false] rfl rfl (any_of HT_.out (by kernel_rfl)) (fun _ _ _ h => h) (Or.inl ⟨by rfl, ?_⟩) ?_ ?_
  rotate_left
  {
  intro w'
  go_simp
  with_reducible rfl }
  rotate_left
  {
  simp only [Act.put, sT, s0, s1, i64_w, i32_w]
  rfl }
  refine pure_ (i := 2) (N := some 22) (v := ?_) (a' := ?_) #[true, true, true, false, false, false, false, false, false, false, false, false] rfl rfl (any_of HT_.out (by kernel_rfl)) (fun _ _ _ h => h) (Or.inl ⟨by rfl, ?_⟩) ?_ ?_
  rotate_left
  {
  intro w'
  go_simp
  with_reducible rfl }
  rotate_left
  {
  simp only [Act.put, sT, s0, s1, i64_w, i32_w]
  rfl }
  refine pure_ (i := 3) (N := some 23) (v := ?_) (a' := ?_) #[true, true, true, true, false, false, false, false, false, false, false, false] rfl rfl (any_of HT_.out (by kernel_rfl)) (fun _ _ _ h => h) (Or.inl ⟨by rfl, ?_⟩) ?_ ?_
  rotate_left
  {
  intro w'
  go_simp
  with_reducible rfl }
  rotate_left
  {
  simp only [Act.put, sT, s0, s1, i64_w, i32_w]
  rfl }
  refine pure_ (i := 5) (N := some 25) (v := ?_) (a' := ?_) #[true, true, true, true, false, true, false, false, false, false, false, false] rfl rfl (any_of HT_.out (by kernel_rfl)) (fun _ _ _ h => h) (Or.inl ⟨by rfl, ?_⟩) ?_ ?_
  rotate_left
  {
  intro w'
  go_simp
  with_reducible rfl }
  rotate_left
  {
  simp only [Act.put, sT, s0, s1, i64_w, i32_w]
  rfl }
  refine pure_ (i := 6) (N := some 26) (v := ?_) (a' := ?_) #[true, true, true, true, false, true, true, false, false, false, false, false] rfl rfl (any_of HT_.out (by kernel_rfl)) (fun _ _ _ h => h) (Or.inl ⟨by rfl, ?_⟩) ?_ ?_
  rotate_left
  {
  intro w'
  go_simp
  with_reducible rfl }
  rotate_left
  {
  simp only [Act.put, sT, s0, s1, i64_w, i32_w]
  rfl }
  refine pure_ (i := 7) (N := some 27) (v := ?_) (a' := ?_) #[true, true, true, true, false, true, true, true, false, false, false, false] rfl rfl (any_of HT_.out (by kernel_rfl)) (fun _ _ _ h => h) (Or.inl ⟨by rfl, ?_⟩) ?_ ?_
  rotate_left
  {
  intro w'
  go_simp
  with_reducible rfl }
  rotate_left
  {
  simp only [Act.put, sT, s0, s1, i64_w, i32_w]
  rfl }
  refine pure_ (i := 8) (N := some 28) (v := ?_) (a' := ?_) #[true, true, true, true, false, true, true, true, true, false, false, false] rfl rfl (any_of HT_.out (by kernel_rfl)) (fun _ _ _ h => h) (Or.inl ⟨by rfl, ?_⟩) ?_ ?_
  rotate_left
  {
  intro w'
  go_simp
  with_reducible rfl }
  rotate_left
  {
  simp only [Act.put, sT, s0, s1, i64_w, i32_w]
  rfl }
  refine take_ (i := 4) (N := some 24) (v := ?_) (a' := ?_) #[true, true, true, true, true, true, true, true, true, false, false, false] rfl rfl (take_ofW HT_.out HW_.out (by kernel_rfl)) (fun _ _ _ h => h) (Or.inl ⟨by rfl, ?_⟩) hHeld ?_ ?_
  rotate_left
  {
  rintro w' ⟨s0, s1, s2, s3, s4, s5⟩
  go_simp
  with_reducible rfl }
  rotate_left
  {
  simp only [Act.put, sT, s0, s1, i64_w, i32_w]
  rfl }
  refine take_ (i := 9) (N := some 29) (v := ?_) (a' := ?_) #[true, true, true, true, true, true, true, true, true, true, false, false] rfl rfl (take_ofW HT_.out HW_.out (by kernel_rfl)) (fun _ _ _ h => h) (Or.inl ⟨by rfl, ?_⟩) hHeld ?_ ?_
  rotate_left
  {
  rintro w' ⟨s0, s1, s2, s3, s4, s5⟩
  go_simp
  with_reducible rfl }
  rotate_left
  {
  simp only [Act.put, sT, s0, s1, i64_w, i32_w]
  rfl }
  refine one_ (i := 10) (N := some 30) #[true, true, true, true, true, true, true, true, true, true, true, false] rfl rfl (one_of HT_.out (by kernel_rfl)) (by decide) (fun K hK => ?_)
  refine goes_ Try.func30 (by kernel_rfl) rfl #[.slice A209_0 ((rd_T62 l0 x5_1).f0).length c209_0, .slice A210_0 ((rd_T62 l1 x5_1).f0).length c210_0] (by rfl) rfl rfl (by (try simp only [List.map_toArray, List.map_cons, List.map_nil]); first | done | rfl | (simp only [List.length_drop, List.length_take]; rfl)) ?_
  with_reducible refine (hallmootref13_Seens.calls k1 _ _ ((rd_T62 l0 x5_1).f0) _ _ ((rd_T62 l1 x5_1).f0) true _ ?side1 ?side2 ?side3 ?side4 A7.out).mono ?_
  (case side1 => repeat (first | exact (Kd.C_below HR209_0.out HB.out) | (with_reducible refine Kd.C_alloc ?_ _) | (with_reducible refine Kd.C_drewN ?_ _) | (with_reducible refine Kd.C_drew ?_)))
  (case side2 => exact HC209_0.out)
  (case side3 => repeat (first | exact (Kd.C_below HR210_0.out HB.out) | (with_reducible refine Kd.C_alloc ?_ _) | (with_reducible refine Kd.C_drewN ?_ _) | (with_reducible refine Kd.C_drew ?_)))
  (case side4 => exact HC210_0.out)
  rintro e w' ⟨rfl, ⟨nd, rfl⟩⟩
  refine ⟨_, rfl, ?_⟩
  refine hK.out _ _ ⟨(cc HB.out hw209_0), (cc HB.out hw209_1), (cc HB.out hw209_2), (cc HB.out hw210_0), (cc HB.out hw210_1), (cc HB.out hw210_2)⟩ (fun hHeld => ?_)
  clear hK K
  refine norm_ (a' := ?_) ?_ ?_
  rotate_left
  {
  show Act.put _ (some 30) _ = _
  simp only [Act.put, sT, s0, s1, i64_w, i32_w]
  rfl }
  refine pure_ (i := 11) (N := some 6) (v := ?_) (a' := ?_) #[true, true, true, true, true, true, true, true, true, true, true, true] rfl rfl (any_of HT_.out (by kernel_rfl)) (fun _ _ _ h => h) (Or.inl ⟨by rfl, ?_⟩) ?_ ?_
  rotate_left
  {
  intro w'
  go_simp
  with_reducible rfl }
  rotate_left
  {
  simp only [Act.put, sT, s0, s1, i64_w, i32_w]
  rfl }
  refine done_ (done_of HT_.out (by kernel_rfl)) ?_
  try go_wp2
  (try (rw [drewN_self w13]; generalize hq_ : World.drewN w13 _ = w13; have n0_ : Aside0 (Below w.heap.size w w13) := ⟨by rw [← hq_]; exact bb⟩; clear HB hq_; have HB := n0_; clear n0_))
  have n0_ := aS (below_drew1 HB.out)
  clear HB
  have HB := n0_
  clear n0_
  have p212 : 0 ≤ (x5_1 : Int) := dd
  have q212 : x5_1 < (l0.length : Int) := dd
  obtain ⟨ad212, A212_0, c212_0, A212_1, c212_1, A212_2, c212_2, e212, hx212_0, hx212_1, hx212_2, hl212_0, hi212_0, hl212_1, hi212_1, hl212_2, hi212_2⟩ := at_T62 HR0.out x5_1 p212 q212
  have hw212_2 := hx212_2
  have hw212_1 := hx212_1
  have hw212_0 := hx212_0
  obtain rfl : ad209 = ad212 := (by injection e212)
  replace hx212_0 := cc HB.out hx212_0
  replace hx212_1 := cc HB.out hx212_1
  replace hx212_2 := cc HB.out hx212_2
  have HR212_0 := aS hi212_0
  have HC212_0 := aS hl212_0
  clear hi212_0 hl212_0
  have HR212_1 := aS hi212_1
  have HC212_1 := aS hl212_1
  clear hi212_1 hl212_1
  have HR212_2 := aS hi212_2
  have HC212_2 := aS hl212_2
  clear hi212_2 hl212_2
  replace p212 := eq_true p212
  replace q212 := eq_true q212
  have p213 : 0 ≤ (x5_1 : Int) := dd
  have q213 : x5_1 < (l1.length : Int) := dd
  obtain ⟨ad213, A213_0, c213_0, A213_1, c213_1, A213_2, c213_2, e213, hx213_0, hx213_1, hx213_2, hl213_0, hi213_0, hl213_1, hi213_1, hl213_2, hi213_2⟩ := at_T62 HR1.out x5_1 p213 q213
  have hw213_2 := hx213_2
  have hw213_1 := hx213_1
  have hw213_0 := hx213_0
  obtain rfl : ad210 = ad213 := (by injection e213)
  replace hx213_0 := cc HB.out hx213_0
  replace hx213_1 := cc HB.out hx213_1
  replace hx213_2 := cc HB.out hx213_2
  have HR213_0 := aS hi213_0
  have HC213_0 := aS hl213_0
  clear hi213_0 hl213_0
  have HR213_1 := aS hi213_1
  have HC213_1 := aS hl213_1
  clear hi213_1 hl213_1
  have HR213_2 := aS hi213_2
  have HC213_2 := aS hl213_2
  clear hi213_2 hl213_2
  replace p213 := eq_true p213
  replace q213 := eq_true q213
  refine start_ (n := 12) (S := fun w' => w'.cell? (ad209.add ((x5_1).toNat * 3)) = some (.slice A212_0 ((rd_T62 l0 x5_1).f0).length c212_0) ∧ w'.cell? ⟨(ad209.add ((x5_1).toNat * 3)).block, (ad209.add ((x5_1).toNat * 3)).off + 1, none⟩ = some (.slice A212_1 ((rd_T62 l0 x5_1).f1).length c212_1) ∧ w'.cell? ⟨(ad209.add ((x5_1).toNat * 3)).block, (ad209.add ((x5_1).toNat * 3)).off + 2, none⟩ = some (.slice A212_2 ((rd_T62 l0 x5_1).f2).length c212_2) ∧ w'.cell? (ad210.add ((x5_1).toNat * 3)) = some (.slice A213_0 ((rd_T62 l1 x5_1).f0).length c213_0) ∧ w'.cell? ⟨(ad210.add ((x5_1).toNat * 3)).block, (ad210.add ((x5_1).toNat * 3)).off + 1, none⟩ = some (.slice A213_1 ((rd_T62 l1 x5_1).f1).length c213_1) ∧ w'.cell? ⟨(ad210.add ((x5_1).toNat * 3)).block, (ad210.add ((x5_1).toNat * 3)).off + 2, none⟩ = some (.slice A213_2 ((rd_T62 l1 x5_1).f2).length c213_2)) (ds := []) #[false, false, false, false, false, false, false, false, false, false, false, false] (by kernel_rfl) rfl rfl ⟨(cc HB.out hw212_0), (cc HB.out hw212_1), (cc HB.out hw212_2), (cc HB.out hw213_0), (cc HB.out hw213_1), (cc HB.out hw213_2)⟩ (fun hHeld => ?_); refine with_tabW hallmootref13_Same.tab7 hallmootref13_Same.bits7 (fun HT_ HW_ => ?_)
  generalize w13.drew = w14 at HB HR212_0 HR212_1 HR212_2 HR213_0 HR213_1 HR213_2 hx212_0 hx212_1 hx212_2 hx213_0 hx213_1 hx213_2 hHeld ⊢
  refine pure_ (i := 0) (N := some 31) (v := ?_) (a' := ?_) #[true, false, false, false, false, false, false, false, false, false, false, false] rfl rfl (any_of HT_.out (by kernel_rfl)) (fun _ _ _ h => h) (Or.inl ⟨by rfl, ?_⟩) ?_ ?_
  rotate_left
  {
  intro w'
  go_simp
  with_reducible rfl }
  rotate_left
  {
  simp only [Act.put, sT, s0, s1, i64_w, i32_w]
  rfl }
  refine pure_ (i := 1) (N := some 32) (v := ?_) (a' := ?_) #[true, true, false, false, false, false, false, false, false, false, false, false] rfl rfl (any_of HT_.out (by kernel_rfl)) (fun _ _ _ h => h) (Or.inl ⟨by rfl, ?_⟩) ?_ ?_
  rotate_left
  {
  intro w'
  go_simp
  with_reducible rfl }
  rotate_left
  {
  simp only [Act.put, sT, s0, s1, i64_w, i32_w]
  rfl }
  refine pure_ (i := 2) (N := some 33) (v := ?_) (a' := ?_) #[true, true, true, false, false, false, false, false, false, false, false, false] rfl rfl (any_of HT_.out (by kernel_rfl)) (fun _ _ _ h => h) (Or.inl ⟨by rfl, ?_⟩) ?_ ?_
  rotate_left
  {
  intro w'
  go_simp
  with_reducible rfl }
  rotate_left
  {
  simp only [Act.put, sT, s0, s1, i64_w, i32_w]
  rfl }
  refine pure_ (i := 3) (N := some 34) (v := ?_) (a' := ?_) #[true, true, true, true, false, false, false, false, false, false, false, false] rfl rfl (any_of HT_.out (by kernel_rfl)) (fun _ _ _ h => h) (Or.inl ⟨by rfl, ?_⟩) ?_ ?_
  rotate_left
  {
  intro w'
  go_simp
  with_reducible rfl }
  rotate_left
  {
  simp only [Act.put, sT, s0, s1, i64_w, i32_w]
  rfl }
  refine pure_ (i := 5) (N := some 36) (v := ?_) (a' := ?_) #[true, true, true, true, false, true, false, false, false, false, false, false] rfl rfl (any_of HT_.out (by kernel_rfl)) (fun _ _ _ h => h) (Or.inl ⟨by rfl, ?_⟩) ?_ ?_
  rotate_left
  {
  intro w'
  go_simp
  with_reducible rfl }
  rotate_left
  {
  simp only [Act.put, sT, s0, s1, i64_w, i32_w]
  rfl }
  refine pure_ (i := 6) (N := some 37) (v := ?_) (a' := ?_) #[true, true, true, true, false, true, true, false, false, false, false, false] rfl rfl (any_of HT_.out (by kernel_rfl)) (fun _ _ _ h => h) (Or.inl ⟨by rfl, ?_⟩) ?_ ?_
  rotate_left
  {
  intro w'
  go_simp
  with_reducible rfl }
  rotate_left
  {
  simp only [Act.put, sT, s0, s1, i64_w, i32_w]
  rfl }
  refine pure_ (i := 7) (N := some 38) (v := ?_) (a' := ?_) #[true, true, true, true, false, true, true, true, false, false, false, false] rfl rfl (any_of HT_.out (by kernel_rfl)) (fun _ _ _ h => h) (Or.inl ⟨by rfl, ?_⟩) ?_ ?_
  rotate_left
  {
  intro w'
  go_simp
  with_reducible rfl }
  rotate_left
  {
  simp only [Act.put, sT, s0, s1, i64_w, i32_w]
  rfl }
  refine pure_ (i := 8) (N := some 39) (v := ?_) (a' := ?_) #[true, true, true, true, false, true, true, true, true, false, false, false] rfl rfl (any_of HT_.out (by kernel_rfl)) (fun _ _ _ h => h) (Or.inl ⟨by rfl, ?_⟩) ?_ ?_
  rotate_left
  {
  intro w'
  go_simp
  with_reducible rfl }
  rotate_left
  {
  simp only [Act.put, sT, s0, s1, i64_w, i32_w]
  rfl }
  refine take_ (i := 4) (N := some 35) (v := ?_) (a' := ?_) #[true, true, true, true, true, true, true, true, true, false, false, false] rfl rfl (take_ofW HT_.out HW_.out (by kernel_rfl)) (fun _ _ _ h => h) (Or.inl ⟨by rfl, ?_⟩) hHeld ?_ ?_
  rotate_left
  {
  rintro w' ⟨s0, s1, s2, s3, s4, s5⟩
  go_simp
  with_reducible rfl }
  rotate_left
  {
  simp only [Act.put, sT, s0, s1, i64_w, i32_w]
  rfl }
  refine take_ (i := 9) (N := some 40) (v := ?_) (a' := ?_) #[true, true, true, true, true, true, true, true, true, true, false, false] rfl rfl (take_ofW HT_.out HW_.out (by kernel_rfl)) (fun _ _ _ h => h) (Or.inl ⟨by rfl, ?_⟩) hHeld ?_ ?_
  rotate_left
  {
  rintro w' ⟨s0, s1, s2, s3, s4, s5⟩
  go_simp
  with_reducible rfl }
  rotate_left
  {
  simp only [Act.put, sT, s0, s1, i64_w, i32_w]
  rfl }
  refine one_ (i := 10) (N := some 41) #[true, true, true, true, true, true, true, true, true, true, true, false] rfl rfl (one_of HT_.out (by kernel_rfl)) (by decide) (fun K hK => ?_)
  refine goes_ Try.func31 (by kernel_rfl) rfl #[.slice A212_1 ((rd_T62 l0 x5_1).f1).length c212_1, .slice A213_1 ((rd_T62 l1 x5_1).f1).length c213_1] (by rfl) rfl rfl (by (try simp only [List.map_toArray, List.map_cons, List.map_nil]); first | done | rfl | (simp only [List.length_drop, List.length_take]; rfl)) ?_
  with_reducible refine (hallmootref13_Writes.calls k1 _ _ ((rd_T62 l0 x5_1).f1) _ _ ((rd_T62 l1 x5_1).f1) true _ ?side1 ?side2 ?side3 ?side4 A8.out).mono ?_
  (case side1 => repeat (first | exact (Kd.C_below HR212_1.out HB.out) | (with_reducible refine Kd.C_alloc ?_ _) | (with_reducible refine Kd.C_drewN ?_ _) | (with_reducible refine Kd.C_drew ?_)))
  (case side2 => exact HC212_1.out)
  (case side3 => repeat (first | exact (Kd.C_below HR213_1.out HB.out) | (with_reducible refine Kd.C_alloc ?_ _) | (with_reducible refine Kd.C_drewN ?_ _) | (with_reducible refine Kd.C_drew ?_)))
  (case side4 => exact HC213_1.out)
  rintro e w' ⟨rfl, ⟨nd, rfl⟩⟩
  refine ⟨_, rfl, ?_⟩
  refine hK.out _ _ ⟨(cc HB.out hw212_0), (cc HB.out hw212_1), (cc HB.out hw212_2), (cc HB.out hw213_0), (cc HB.out hw213_1), (cc HB.out hw213_2)⟩ (fun hHeld => ?_)
  clear hK K
  refine norm_ (a' := ?_) ?_ ?_
  rotate_left
  {
  show Act.put _ (some 41) _ = _
  simp only [Act.put, sT, s0, s1, i64_w, i32_w]
  rfl }
  refine pure_ (i := 11) (N := some 7) (v := ?_) (a' := ?_) #[true, true, true, true, true, true, true, true, true, true, true, true] rfl rfl (any_of HT_.out (by kernel_rfl)) (fun _ _ _ h => h) (Or.inl ⟨by rfl, ?_⟩) ?_ ?_
  rotate_left
  {
  intro w'
  go_simp
  with_reducible rfl }
  rotate_left
  {
  simp only [Act.put, sT, s0, s1, i64_w, i32_w]
  rfl }
  refine done_ (done_of HT_.out (by kernel_rfl)) ?_
  try go_wp2
  (try (rw [drewN_self w14]; generalize hq_ : World.drewN w14 _ = w14; have n0_ : Aside0 (Below w.heap.size w w14) := ⟨by rw [← hq_]; exact bb⟩; clear HB hq_; have HB := n0_; clear n0_))
  have n0_ := aS (below_drew1 HB.out)
  clear HB
  have HB := n0_
  clear n0_
  have p215 : 0 ≤ (x5_1 : Int) := dd
  have q215 : x5_1 < (l0.length : Int) := dd
  obtain ⟨ad215, A215_0, c215_0, A215_1, c215_1, A215_2, c215_2, e215, hx215_0, hx215_1, hx215_2, hl215_0, hi215_0, hl215_1, hi215_1, hl215_2, hi215_2⟩ := at_T62 HR0.out x5_1 p215 q215
  have hw215_2 := hx215_2
  have hw215_1 := hx215_1
  have hw215_0 := hx215_0
  obtain rfl : ad209 = ad215 := (by injection e215)
  replace hx215_0 := cc HB.out hx215_0
  replace hx215_1 := cc HB.out hx215_1
  replace hx215_2 := cc HB.out hx215_2
  have HR215_0 := aS hi215_0
  have HC215_0 := aS hl215_0
  clear hi215_0 hl215_0
  have HR215_1 := aS hi215_1
  have HC215_1 := aS hl215_1
  clear hi215_1 hl215_1
  have HR215_2 := aS hi215_2
  have HC215_2 := aS hl215_2
  clear hi215_2 hl215_2
  replace p215 := eq_true p215
  replace q215 := eq_true q215
  have p216 : 0 ≤ (x5_1 : Int) := dd
  have q216 : x5_1 < (l1.length : Int) := dd
  obtain ⟨ad216, A216_0, c216_0, A216_1, c216_1, A216_2, c216_2, e216, hx216_0, hx216_1, hx216_2, hl216_0, hi216_0, hl216_1, hi216_1, hl216_2, hi216_2⟩ := at_T62 HR1.out x5_1 p216 q216
  have hw216_2 := hx216_2
  have hw216_1 := hx216_1
  have hw216_0 := hx216_0
  obtain rfl : ad210 = ad216 := (by injection e216)
  replace hx216_0 := cc HB.out hx216_0
  replace hx216_1 := cc HB.out hx216_1
  replace hx216_2 := cc HB.out hx216_2
  have HR216_0 := aS hi216_0
  have HC216_0 := aS hl216_0
  clear hi216_0 hl216_0
  have HR216_1 := aS hi216_1
  have HC216_1 := aS hl216_1
  clear hi216_1 hl216_1
  have HR216_2 := aS hi216_2
  have HC216_2 := aS hl216_2
  clear hi216_2 hl216_2
  replace p216 := eq_true p216
  replace q216 := eq_true q216
  refine start_ (n := 12) (S := fun w' => w'.cell? (ad209.add ((x5_1).toNat * 3)) = some (.slice A215_0 ((rd_T62 l0 x5_1).f0).length c215_0) ∧ w'.cell? ⟨(ad209.add ((x5_1).toNat * 3)).block, (ad209.add ((x5_1).toNat * 3)).off + 1, none⟩ = some (.slice A215_1 ((rd_T62 l0 x5_1).f1).length c215_1) ∧ w'.cell? ⟨(ad209.add ((x5_1).toNat * 3)).block, (ad209.add ((x5_1).toNat * 3)).off + 2, none⟩ = some (.slice A215_2 ((rd_T62 l0 x5_1).f2).length c215_2) ∧ w'.cell? (ad210.add ((x5_1).toNat * 3)) = some (.slice A216_0 ((rd_T62 l1 x5_1).f0).length c216_0) ∧ w'.cell? ⟨(ad210.add ((x5_1).toNat * 3)).block, (ad210.add ((x5_1).toNat * 3)).off + 1, none⟩ = some (.slice A216_1 ((rd_T62 l1 x5_1).f1).length c216_1) ∧ w'.cell? ⟨(ad210.add ((x5_1).toNat * 3)).block, (ad210.add ((x5_1).toNat * 3)).off + 2, none⟩ = some (.slice A216_2 ((rd_T62 l1 x5_1).f2).length c216_2)) (ds := []) #[false, false, false, false, false, false, false, false, false, false, false, false] (by kernel_rfl) rfl rfl ⟨(cc HB.out hw215_0), (cc HB.out hw215_1), (cc HB.out hw215_2), (cc HB.out hw216_0), (cc HB.out hw216_1), (cc HB.out hw216_2)⟩ (fun hHeld => ?_); refine with_tabW hallmootref13_Same.tab8 hallmootref13_Same.bits8 (fun HT_ HW_ => ?_)
  generalize w14.drew = w15 at HB HR215_0 HR215_1 HR215_2 HR216_0 HR216_1 HR216_2 hx215_0 hx215_1 hx215_2 hx216_0 hx216_1 hx216_2 hHeld ⊢
  refine pure_ (i := 0) (N := some 42) (v := ?_) (a' := ?_) #[true, false, false, false, false, false, false, false, false, false, false, false] rfl rfl (any_of HT_.out (by kernel_rfl)) (fun _ _ _ h => h) (Or.inl ⟨by rfl, ?_⟩) ?_ ?_
  rotate_left
  {
  intro w'
  go_simp
  with_reducible rfl }
  rotate_left
  {
  simp only [Act.put, sT, s0, s1, i64_w, i32_w]
  rfl }
  refine pure_ (i := 1) (N := some 43) (v := ?_) (a' := ?_) #[true, true, false, false, false, false, false, false, false, false, false, false] rfl rfl (any_of HT_.out (by kernel_rfl)) (fun _ _ _ h => h) (Or.inl ⟨by rfl, ?_⟩) ?_ ?_
  rotate_left
  {
  intro w'
  go_simp
  with_reducible rfl }
  rotate_left
  {
  simp only [Act.put, sT, s0, s1, i64_w, i32_w]
  rfl }
  refine pure_ (i := 2) (N := some 44) (v := ?_) (a' := ?_) #[true, true, true, false, false, false, false, false, false, false, false, false] rfl rfl (any_of HT_.out (by kernel_rfl)) (fun _ _ _ h => h) (Or.inl ⟨by rfl, ?_⟩) ?_ ?_
  rotate_left
  {
  intro w'
  go_simp
  with_reducible rfl }
  rotate_left
  {
  simp only [Act.put, sT, s0, s1, i64_w, i32_w]
  rfl }
  refine pure_ (i := 3) (N := some 45) (v := ?_) (a' := ?_) #[true, true, true, true, false, false, false, false, false, false, false, false] rfl rfl (any_of HT_.out (by kernel_rfl)) (fun _ _ _ h => h) (Or.inl ⟨by rfl, ?_⟩) ?_ ?_
  rotate_left
  {
  intro w'
  go_simp
  with_reducible rfl }
  rotate_left
  {
  simp only [Act.put, sT, s0, s1, i64_w, i32_w]
  rfl }
  refine pure_ (i := 5) (N := some 47) (v := ?_) (a' := ?_) #[true, true, true, true, false, true, false, false, false, false, false, false] rfl rfl (any_of HT_.out (by kernel_rfl)) (fun _ _ _ h => h) (Or.inl ⟨by rfl, ?_⟩) ?_ ?_
  rotate_left
  {
  intro w'
  go_simp
  with_reducible rfl }
  rotate_left
  {
  simp only [Act.put, sT, s0, s1, i64_w, i32_w]
  rfl }
  refine pure_ (i := 6) (N := some 48) (v := ?_) (a' := ?_) #[true, true, true, true, false, true, true, false, false, false, false, false] rfl rfl (any_of HT_.out (by kernel_rfl)) (fun _ _ _ h => h) (Or.inl ⟨by rfl, ?_⟩) ?_ ?_
  rotate_left
  {
  intro w'
  go_simp
  with_reducible rfl }
  rotate_left
  {
  simp only [Act.put, sT, s0, s1, i64_w, i32_w]
  rfl }
  refine pure_ (i := 7) (N := some 49) (v := ?_) (a' := ?_) #[true, true, true, true, false, true, true, true, false, false, false, false] rfl rfl (any_of HT_.out (by kernel_rfl)) (fun _ _ _ h => h) (Or.inl ⟨by rfl, ?_⟩) ?_ ?_
  rotate_left
  {
  intro w'
  go_simp
  with_reducible rfl }
  rotate_left
  {
  simp only [Act.put, sT, s0, s1, i64_w, i32_w]
  rfl }
  refine pure_ (i := 8) (N := some 50) (v := ?_) (a' := ?_) #[true, true, true, true, false, true, true, true, true, false, false, false] rfl rfl (any_of HT_.out (by kernel_rfl)) (fun _ _ _ h => h) (Or.inl ⟨by rfl, ?_⟩) ?_ ?_
  rotate_left
  {
  intro w'
  go_simp
  with_reducible rfl }
  rotate_left
  {
  simp only [Act.put, sT, s0, s1, i64_w, i32_w]
  rfl }
  refine take_ (i := 4) (N := some 46) (v := ?_) (a' := ?_) #[true, true, true, true, true, true, true, true, true, false, false, false] rfl rfl (take_ofW HT_.out HW_.out (by kernel_rfl)) (fun _ _ _ h => h) (Or.inl ⟨by rfl, ?_⟩) hHeld ?_ ?_
  rotate_left
  {
  rintro w' ⟨s0, s1, s2, s3, s4, s5⟩
  go_simp
  with_reducible rfl }
  rotate_left
  {
  simp only [Act.put, sT, s0, s1, i64_w, i32_w]
  rfl }
  refine take_ (i := 9) (N := some 51) (v := ?_) (a' := ?_) #[true, true, true, true, true, true, true, true, true, true, false, false] rfl rfl (take_ofW HT_.out HW_.out (by kernel_rfl)) (fun _ _ _ h => h) (Or.inl ⟨by rfl, ?_⟩) hHeld ?_ ?_
  rotate_left
  {
  rintro w' ⟨s0, s1, s2, s3, s4, s5⟩
  go_simp
  with_reducible rfl }
  rotate_left
  {
  simp only [Act.put, sT, s0, s1, i64_w, i32_w]
  rfl }
  refine one_ (i := 10) (N := some 52) #[true, true, true, true, true, true, true, true, true, true, true, false] rfl rfl (one_of HT_.out (by kernel_rfl)) (by decide) (fun K hK => ?_)
  refine goes_ Try.func25 (by kernel_rfl) rfl #[.slice A215_2 ((rd_T62 l0 x5_1).f2).length c215_2, .slice A216_2 ((rd_T62 l1 x5_1).f2).length c216_2] (by rfl) rfl rfl (by (try simp only [List.map_toArray, List.map_cons, List.map_nil]); first | done | rfl | (simp only [List.length_drop, List.length_take]; rfl)) ?_
  with_reducible refine (hallmootref13_Undos.calls k1 _ _ ((rd_T62 l0 x5_1).f2) _ _ ((rd_T62 l1 x5_1).f2) true _ ?side1 ?side2 ?side3 ?side4 A9.out).mono ?_
  (case side1 => repeat (first | exact (Kd.C_below HR215_2.out HB.out) | (with_reducible refine Kd.C_alloc ?_ _) | (with_reducible refine Kd.C_drewN ?_ _) | (with_reducible refine Kd.C_drew ?_)))
  (case side2 => exact HC215_2.out)
  (case side3 => repeat (first | exact (Kd.C_below HR216_2.out HB.out) | (with_reducible refine Kd.C_alloc ?_ _) | (with_reducible refine Kd.C_drewN ?_ _) | (with_reducible refine Kd.C_drew ?_)))
  (case side4 => exact HC216_2.out)
  rintro e w16 ⟨rfl, hb⟩
  refine ⟨_, rfl, ?_⟩
  have n0_ := aS (below_step bb hb)
  clear HB
  have HB := n0_
  clear n0_
  (try clear hb)
  (try clear hb2)
  (try clear hk)
  (try clear hi)
  refine hK.out _ _ ⟨(cc HB.out hw215_0), (cc HB.out hw215_1), (cc HB.out hw215_2), (cc HB.out hw216_0), (cc HB.out hw216_1), (cc HB.out hw216_2)⟩ (fun hHeld => ?_)
  clear hK K
  refine norm_ (a' := ?_) ?_ ?_
  rotate_left
  {
  show Act.put _ (some 52) _ = _
  simp only [Act.put, sT, s0, s1, i64_w, i32_w]
  rfl }
  refine pure_ (i := 11) (N := some 8) (v := ?_) (a' := ?_) #[true, true, true, true, true, true, true, true, true, true, true, true] rfl rfl (any_of HT_.out (by kernel_rfl)) (fun _ _ _ h => h) (Or.inl ⟨by rfl, ?_⟩) ?_ ?_
  rotate_left
  {
  intro w'
  go_simp
  with_reducible rfl }
  rotate_left
  {
  simp only [Act.put, sT, s0, s1, i64_w, i32_w]
  rfl }
  refine done_ (done_of HT_.out (by kernel_rfl)) ?_
  try go_wp2
  go_roundg k1
  case measure => have := HK1.out; omega
  case rel => exact ⟨(wrap64 (x5_1 + 1)), (by first | rfl | (simp; done) | (simp [*]; done)), H', ⟨by have := HK1.out; omega⟩, ⟨by repeat (first | (with_reducible first | exact HB.out | apply below_alloc | apply pw_below_drewN | apply below_drew1) | exact HB.out)⟩⟩ }
  {
  replace c12 := Bool.eq_false_iff.mpr c12
  subst c12
  have H1 : (some false) = some r := by rw [if_neg (show ¬ (false = true) by decide)] at H; exact H
  clear H
  have H := H1
  clear H1
  obtain rfl := Option.some.inj H
  try go_wp2
  have n0_ := aS (below_drew1 HB.out)
  clear HB
  have HB := n0_
  clear n0_
  have p209 : 0 ≤ (x5_1 : Int) := dd
  have q209 : x5_1 < (l0.length : Int) := dd
  obtain ⟨ad209, A209_0, c209_0, A209_1, c209_1, A209_2, c209_2, e209, hx209_0, hx209_1, hx209_2, hl209_0, hi209_0, hl209_1, hi209_1, hl209_2, hi209_2⟩ := at_T62 HR0.out x5_1 p209 q209
  have hw209_2 := hx209_2
  have hw209_1 := hx209_1
  have hw209_0 := hx209_0
  cases e209
  replace hx209_0 := cc HB.out hx209_0
  replace hx209_1 := cc HB.out hx209_1
  replace hx209_2 := cc HB.out hx209_2
  have HR209_0 := aS hi209_0
  have HC209_0 := aS hl209_0
  clear hi209_0 hl209_0
  have HR209_1 := aS hi209_1
  have HC209_1 := aS hl209_1
  clear hi209_1 hl209_1
  have HR209_2 := aS hi209_2
  have HC209_2 := aS hl209_2
  clear hi209_2 hl209_2
  replace p209 := eq_true p209
  replace q209 := eq_true q209
  have p210 : 0 ≤ (x5_1 : Int) := dd
  have q210 : x5_1 < (l1.length : Int) := dd
  obtain ⟨ad210, A210_0, c210_0, A210_1, c210_1, A210_2, c210_2, e210, hx210_0, hx210_1, hx210_2, hl210_0, hi210_0, hl210_1, hi210_1, hl210_2, hi210_2⟩ := at_T62 HR1.out x5_1 p210 q210
  have hw210_2 := hx210_2
  have hw210_1 := hx210_1
  have hw210_0 := hx210_0
  cases e210
  replace hx210_0 := cc HB.out hx210_0
  replace hx210_1 := cc HB.out hx210_1
  replace hx210_2 := cc HB.out hx210_2
  have HR210_0 := aS hi210_0
  have HC210_0 := aS hl210_0
  clear hi210_0 hl210_0
  have HR210_1 := aS hi210_1
  have HC210_1 := aS hl210_1
  clear hi210_1 hl210_1
  have HR210_2 := aS hi210_2
  have HC210_2 := aS hl210_2
  clear hi210_2 hl210_2
  replace p210 := eq_true p210
  replace q210 := eq_true q210
  refine start_ (n := 12) (S := fun w' => w'.cell? (ad209.add ((x5_1).toNat * 3)) = some (.slice A209_0 ((rd_T62 l0 x5_1).f0).length c209_0) ∧ w'.cell? ⟨(ad209.add ((x5_1).toNat * 3)).block, (ad209.add ((x5_1).toNat * 3)).off + 1, none⟩ = some (.slice A209_1 ((rd_T62 l0 x5_1).f1).length c209_1) ∧ w'.cell? ⟨(ad209.add ((x5_1).toNat * 3)).block, (ad209.add ((x5_1).toNat * 3)).off + 2, none⟩ = some (.slice A209_2 ((rd_T62 l0 x5_1).f2).length c209_2) ∧ w'.cell? (ad210.add ((x5_1).toNat * 3)) = some (.slice A210_0 ((rd_T62 l1 x5_1).f0).length c210_0) ∧ w'.cell? ⟨(ad210.add ((x5_1).toNat * 3)).block, (ad210.add ((x5_1).toNat * 3)).off + 1, none⟩ = some (.slice A210_1 ((rd_T62 l1 x5_1).f1).length c210_1) ∧ w'.cell? ⟨(ad210.add ((x5_1).toNat * 3)).block, (ad210.add ((x5_1).toNat * 3)).off + 2, none⟩ = some (.slice A210_2 ((rd_T62 l1 x5_1).f2).length c210_2)) (ds := []) #[false, false, false, false, false, false, false, false, false, false, false, false] (by kernel_rfl) rfl rfl ⟨(cc HB.out hw209_0), (cc HB.out hw209_1), (cc HB.out hw209_2), (cc HB.out hw210_0), (cc HB.out hw210_1), (cc HB.out hw210_2)⟩ (fun hHeld => ?_); refine with_tabW hallmootref13_Same.tab6 hallmootref13_Same.bits6 (fun HT_ HW_ => ?_)
  generalize wr.drew = w17 at HB HR209_0 HR209_1 HR209_2 HR210_0 HR210_1 HR210_2 hx209_0 hx209_1 hx209_2 hx210_0 hx210_1 hx210_2 hHeld ⊢
  refine pure_ (i := 0) (N := some 20) (v := ?_) (a' := ?_) #[true, false, false, false, false, false, false, false, false, false, false, false] rfl rfl (any_of HT_.out (by kernel_rfl)) (fun _ _ _ h => h) (Or.inl ⟨by rfl, ?_⟩) ?_ ?_
  rotate_left
  {
  intro w'
  go_simp
  with_reducible rfl }
  rotate_left
  {
  simp only [Act.put, sT, s0, s1, i64_w, i32_w]
  rfl }
  refine pure_ (i := 1) (N := some 21) (v := ?_) (a' := ?_) #[true, true, false, false, false, false, false, false, false, false, false, false] rfl rfl (any_of HT_.out (by kernel_rfl)) (fun _ _ _ h => h) (Or.inl ⟨by rfl, ?_⟩) ?_ ?_
  rotate_left
  {
  intro w'
  go_simp
  with_reducible rfl }
  rotate_left
  {
  simp only [Act.put, sT, s0, s1, i64_w, i32_w]
  rfl }
  refine pure_ (i := 2) (N := some 22) (v := ?_) (a' := ?_) #[true, true, true, false, false, false, false, false, false, false, false, false] rfl rfl (any_of HT_.out (by kernel_rfl)) (fun _ _ _ h => h) (Or.inl ⟨by rfl, ?_⟩) ?_ ?_
  rotate_left
  {
  intro w'
  go_simp
  with_reducible rfl }
  rotate_left
  {
  simp only [Act.put, sT, s0, s1, i64_w, i32_w]
  rfl }
  refine pure_ (i := 3) (N := some 23) (v := ?_) (a' := ?_) #[true, true, true, true, false, false, false, false, false, false, false, false] rfl rfl (any_of HT_.out (by kernel_rfl)) (fun _ _ _ h => h) (Or.inl ⟨by rfl, ?_⟩) ?_ ?_
  rotate_left
  {
  intro w'
  go_simp
  with_reducible rfl }
  rotate_left
  {
  simp only [Act.put, sT, s0, s1, i64_w, i32_w]
  rfl }
  refine pure_ (i := 5) (N := some 25) (v := ?_) (a' := ?_) #[true, true, true, true, false, true, false, false, false, false, false, false] rfl rfl (any_of HT_.out (by kernel_rfl)) (fun _ _ _ h => h) (Or.inl ⟨by rfl, ?_⟩) ?_ ?_
  rotate_left
  {
  intro w'
  go_simp
  with_reducible rfl }
  rotate_left
  {
  simp only [Act.put, sT, s0, s1, i64_w, i32_w]
  rfl }
  refine pure_ (i := 6) (N := some 26) (v := ?_) (a' := ?_) #[true, true, true, true, false, true, true, false, false, false, false, false] rfl rfl (any_of HT_.out (by kernel_rfl)) (fun _ _ _ h => h) (Or.inl ⟨by rfl, ?_⟩) ?_ ?_
  rotate_left
  {
  intro w'
  go_simp
  with_reducible rfl }
  rotate_left
  {
  simp only [Act.put, sT, s0, s1, i64_w, i32_w]
  rfl }
  refine pure_ (i := 7) (N := some 27) (v := ?_) (a' := ?_) #[true, true, true, true, false, true, true, true, false, false, false, false] rfl rfl (any_of HT_.out (by kernel_rfl)) (fun _ _ _ h => h) (Or.inl ⟨by rfl, ?_⟩) ?_ ?_
  rotate_left
  {
  intro w'
  go_simp
  with_reducible rfl }
  rotate_left
  {
  simp only [Act.put, sT, s0, s1, i64_w, i32_w]
  rfl }
  refine pure_ (i := 8) (N := some 28) (v := ?_) (a' := ?_) #[true, true, true, true, false, true, true, true, true, false, false, false] rfl rfl (any_of HT_.out (by kernel_rfl)) (fun _ _ _ h => h) (Or.inl ⟨by rfl, ?_⟩) ?_ ?_
  rotate_left
  {
  intro w'
  go_simp
  with_reducible rfl }
  rotate_left
  {
  simp only [Act.put, sT, s0, s1, i64_w, i32_w]
  rfl }
  refine take_ (i := 4) (N := some 24) (v := ?_) (a' := ?_) #[true, true, true, true, true, true, true, true, true, false, false, false] rfl rfl (take_ofW HT_.out HW_.out (by kernel_rfl)) (fun _ _ _ h => h) (Or.inl ⟨by rfl, ?_⟩) hHeld ?_ ?_
  rotate_left
  {
  rintro w' ⟨s0, s1, s2, s3, s4, s5⟩
  go_simp
  with_reducible rfl }
  rotate_left
  {
  simp only [Act.put, sT, s0, s1, i64_w, i32_w]
  rfl }
  refine take_ (i := 9) (N := some 29) (v := ?_) (a' := ?_) #[true, true, true, true, true, true, true, true, true, true, false, false] rfl rfl (take_ofW HT_.out HW_.out (by kernel_rfl)) (fun _ _ _ h => h) (Or.inl ⟨by rfl, ?_⟩) hHeld ?_ ?_
  rotate_left
  {
  rintro w' ⟨s0, s1, s2, s3, s4, s5⟩
  go_simp
  with_reducible rfl }
  rotate_left
  {
  simp only [Act.put, sT, s0, s1, i64_w, i32_w]
  rfl }
  refine one_ (i := 10) (N := some 30) #[true, true, true, true, true, true, true, true, true, true, true, false] rfl rfl (one_of HT_.out (by kernel_rfl)) (by decide) (fun K hK => ?_)
  refine goes_ Try.func30 (by kernel_rfl) rfl #[.slice A209_0 ((rd_T62 l0 x5_1).f0).length c209_0, .slice A210_0 ((rd_T62 l1 x5_1).f0).length c210_0] (by rfl) rfl rfl (by (try simp only [List.map_toArray, List.map_cons, List.map_nil]); first | done | rfl | (simp only [List.length_drop, List.length_take]; rfl)) ?_
  with_reducible refine (hallmootref13_Seens.calls k1 _ _ ((rd_T62 l0 x5_1).f0) _ _ ((rd_T62 l1 x5_1).f0) true _ ?side1 ?side2 ?side3 ?side4 A7.out).mono ?_
  (case side1 => repeat (first | exact (Kd.C_below HR209_0.out HB.out) | (with_reducible refine Kd.C_alloc ?_ _) | (with_reducible refine Kd.C_drewN ?_ _) | (with_reducible refine Kd.C_drew ?_)))
  (case side2 => exact HC209_0.out)
  (case side3 => repeat (first | exact (Kd.C_below HR210_0.out HB.out) | (with_reducible refine Kd.C_alloc ?_ _) | (with_reducible refine Kd.C_drewN ?_ _) | (with_reducible refine Kd.C_drew ?_)))
  (case side4 => exact HC210_0.out)
  rintro e w' ⟨rfl, ⟨nd, rfl⟩⟩
  refine ⟨_, rfl, ?_⟩
  refine hK.out _ _ ⟨(cc HB.out hw209_0), (cc HB.out hw209_1), (cc HB.out hw209_2), (cc HB.out hw210_0), (cc HB.out hw210_1), (cc HB.out hw210_2)⟩ (fun hHeld => ?_)
  clear hK K
  refine norm_ (a' := ?_) ?_ ?_
  rotate_left
  {
  show Act.put _ (some 30) _ = _
  simp only [Act.put, sT, s0, s1, i64_w, i32_w]
  rfl }
  refine pure_ (i := 11) (N := some 6) (v := ?_) (a' := ?_) #[true, true, true, true, true, true, true, true, true, true, true, true] rfl rfl (any_of HT_.out (by kernel_rfl)) (fun _ _ _ h => h) (Or.inl ⟨by rfl, ?_⟩) ?_ ?_
  rotate_left
  {
  intro w'
  go_simp
  with_reducible rfl }
  rotate_left
  {
  simp only [Act.put, sT, s0, s1, i64_w, i32_w]
  rfl }
  refine done_ (done_of HT_.out (by kernel_rfl)) ?_
  try go_wp2
  (try (rw [drewN_self w17]; generalize hq_ : World.drewN w17 _ = w17; have n0_ : Aside0 (Below w.heap.size w w17) := ⟨by rw [← hq_]; exact bb⟩; clear HB hq_; have HB := n0_; clear n0_))
  have n0_ := aS (below_drew1 HB.out)
  clear HB
  have HB := n0_
  clear n0_
  have p212 : 0 ≤ (x5_1 : Int) := dd
  have q212 : x5_1 < (l0.length : Int) := dd
  obtain ⟨ad212, A212_0, c212_0, A212_1, c212_1, A212_2, c212_2, e212, hx212_0, hx212_1, hx212_2, hl212_0, hi212_0, hl212_1, hi212_1, hl212_2, hi212_2⟩ := at_T62 HR0.out x5_1 p212 q212
  have hw212_2 := hx212_2
  have hw212_1 := hx212_1
  have hw212_0 := hx212_0
  obtain rfl : ad209 = ad212 := (by injection e212)
  replace hx212_0 := cc HB.out hx212_0
  replace hx212_1 := cc HB.out hx212_1
  replace hx212_2 := cc HB.out hx212_2
  have HR212_0 := aS hi212_0
  have HC212_0 := aS hl212_0
  clear hi212_0 hl212_0
  have HR212_1 := aS hi212_1
  have HC212_1 := aS hl212_1
  clear hi212_1 hl212_1
  have HR212_2 := aS hi212_2
  have HC212_2 := aS hl212_2
  clear hi212_2 hl212_2
  replace p212 := eq_true p212
  replace q212 := eq_true q212
  have p213 : 0 ≤ (x5_1 : Int) := dd
  have q213 : x5_1 < (l1.length : Int) := dd
  obtain ⟨ad213, A213_0, c213_0, A213_1, c213_1, A213_2, c213_2, e213, hx213_0, hx213_1, hx213_2, hl213_0, hi213_0, hl213_1, hi213_1, hl213_2, hi213_2⟩ := at_T62 HR1.out x5_1 p213 q213
  have hw213_2 := hx213_2
  have hw213_1 := hx213_1
  have hw213_0 := hx213_0
  obtain rfl : ad210 = ad213 := (by injection e213)
  replace hx213_0 := cc HB.out hx213_0
  replace hx213_1 := cc HB.out hx213_1
  replace hx213_2 := cc HB.out hx213_2
  have HR213_0 := aS hi213_0
  have HC213_0 := aS hl213_0
  clear hi213_0 hl213_0
  have HR213_1 := aS hi213_1
  have HC213_1 := aS hl213_1
  clear hi213_1 hl213_1
  have HR213_2 := aS hi213_2
  have HC213_2 := aS hl213_2
  clear hi213_2 hl213_2
  replace p213 := eq_true p213
  replace q213 := eq_true q213
  refine start_ (n := 12) (S := fun w' => w'.cell? (ad209.add ((x5_1).toNat * 3)) = some (.slice A212_0 ((rd_T62 l0 x5_1).f0).length c212_0) ∧ w'.cell? ⟨(ad209.add ((x5_1).toNat * 3)).block, (ad209.add ((x5_1).toNat * 3)).off + 1, none⟩ = some (.slice A212_1 ((rd_T62 l0 x5_1).f1).length c212_1) ∧ w'.cell? ⟨(ad209.add ((x5_1).toNat * 3)).block, (ad209.add ((x5_1).toNat * 3)).off + 2, none⟩ = some (.slice A212_2 ((rd_T62 l0 x5_1).f2).length c212_2) ∧ w'.cell? (ad210.add ((x5_1).toNat * 3)) = some (.slice A213_0 ((rd_T62 l1 x5_1).f0).length c213_0) ∧ w'.cell? ⟨(ad210.add ((x5_1).toNat * 3)).block, (ad210.add ((x5_1).toNat * 3)).off + 1, none⟩ = some (.slice A213_1 ((rd_T62 l1 x5_1).f1).length c213_1) ∧ w'.cell? ⟨(ad210.add ((x5_1).toNat * 3)).block, (ad210.add ((x5_1).toNat * 3)).off + 2, none⟩ = some (.slice A213_2 ((rd_T62 l1 x5_1).f2).length c213_2)) (ds := []) #[false, false, false, false, false, false, false, false, false, false, false, false] (by kernel_rfl) rfl rfl ⟨(cc HB.out hw212_0), (cc HB.out hw212_1), (cc HB.out hw212_2), (cc HB.out hw213_0), (cc HB.out hw213_1), (cc HB.out hw213_2)⟩ (fun hHeld => ?_); refine with_tabW hallmootref13_Same.tab7 hallmootref13_Same.bits7 (fun HT_ HW_ => ?_)
  generalize w17.drew = w18 at HB HR212_0 HR212_1 HR212_2 HR213_0 HR213_1 HR213_2 hx212_0 hx212_1 hx212_2 hx213_0 hx213_1 hx213_2 hHeld ⊢
  refine pure_ (i := 0) (N := some 31) (v := ?_) (a' := ?_) #[true, false, false, false, false, false, false, false, false, false, false, false] rfl rfl (any_of HT_.out (by kernel_rfl)) (fun _ _ _ h => h) (Or.inl ⟨by rfl, ?_⟩) ?_ ?_
  rotate_left
  {
  intro w'
  go_simp
  with_reducible rfl }
  rotate_left
  {
  simp only [Act.put, sT, s0, s1, i64_w, i32_w]
  rfl }
  refine pure_ (i := 1) (N := some 32) (v := ?_) (a' := ?_) #[true, true, false, false, false, false, false, false, false, false, false, false] rfl rfl (any_of HT_.out (by kernel_rfl)) (fun _ _ _ h => h) (Or.inl ⟨by rfl, ?_⟩) ?_ ?_
  rotate_left
  {
  intro w'
  go_simp
  with_reducible rfl }
  rotate_left
  {
  simp only [Act.put, sT, s0, s1, i64_w, i32_w]
  rfl }
  refine pure_ (i := 2) (N := some 33) (v := ?_) (a' := ?_) #[true, true, true, false, false, false, false, false, false, false, false, false] rfl rfl (any_of HT_.out (by kernel_rfl)) (fun _ _ _ h => h) (Or.inl ⟨by rfl, ?_⟩) ?_ ?_
  rotate_left
  {
  intro w'
  go_simp
  with_reducible rfl }
  rotate_left
  {
  simp only [Act.put, sT, s0, s1, i64_w, i32_w]
  rfl }
  refine pure_ (i := 3) (N := some 34) (v := ?_) (a' := ?_) #[true, true, true, true, false, false, false, false, false, false, false, false] rfl rfl (any_of HT_.out (by kernel_rfl)) (fun _ _ _ h => h) (Or.inl ⟨by rfl, ?_⟩) ?_ ?_
  rotate_left
  {
  intro w'
  go_simp
  with_reducible rfl }
  rotate_left
  {
  simp only [Act.put, sT, s0, s1, i64_w, i32_w]
  rfl }
  refine pure_ (i := 5) (N := some 36) (v := ?_) (a' := ?_) #[true, true, true, true, false, true, false, false, false, false, false, false] rfl rfl (any_of HT_.out (by kernel_rfl)) (fun _ _ _ h => h) (Or.inl ⟨by rfl, ?_⟩) ?_ ?_
  rotate_left
  {
  intro w'
  go_simp
  with_reducible rfl }
  rotate_left
  {
  simp only [Act.put, sT, s0, s1, i64_w, i32_w]
  rfl }
  refine pure_ (i := 6) (N := some 37) (v := ?_) (a' := ?_) #[true, true, true, true, false, true, true, false, false, false, false, false] rfl rfl (any_of HT_.out (by kernel_rfl)) (fun _ _ _ h => h) (Or.inl ⟨by rfl, ?_⟩) ?_ ?_
  rotate_left
  {
  intro w'
  go_simp
  with_reducible rfl }
  rotate_left
  {
  simp only [Act.put, sT, s0, s1, i64_w, i32_w]
  rfl }
  refine pure_ (i := 7) (N := some 38) (v := ?_) (a' := ?_) #[true, true, true, true, false, true, true, true, false, false, false, false] rfl rfl (any_of HT_.out (by kernel_rfl)) (fun _ _ _ h => h) (Or.inl ⟨by rfl, ?_⟩) ?_ ?_
  rotate_left
  {
  intro w'
  go_simp
  with_reducible rfl }
  rotate_left
  {
  simp only [Act.put, sT, s0, s1, i64_w, i32_w]
  rfl }
  refine pure_ (i := 8) (N := some 39) (v := ?_) (a' := ?_) #[true, true, true, true, false, true, true, true, true, false, false, false] rfl rfl (any_of HT_.out (by kernel_rfl)) (fun _ _ _ h => h) (Or.inl ⟨by rfl, ?_⟩) ?_ ?_
  rotate_left
  {
  intro w'
  go_simp
  with_reducible rfl }
  rotate_left
  {
  simp only [Act.put, sT, s0, s1, i64_w, i32_w]
  rfl }
  refine take_ (i := 4) (N := some 35) (v := ?_) (a' := ?_) #[true, true, true, true, true, true, true, true, true, false, false, false] rfl rfl (take_ofW HT_.out HW_.out (by kernel_rfl)) (fun _ _ _ h => h) (Or.inl ⟨by rfl, ?_⟩) hHeld ?_ ?_
  rotate_left
  {
  rintro w' ⟨s0, s1, s2, s3, s4, s5⟩
  go_simp
  with_reducible rfl }
  rotate_left
  {
  simp only [Act.put, sT, s0, s1, i64_w, i32_w]
  rfl }
  refine take_ (i := 9) (N := some 40) (v := ?_) (a' := ?_) #[true, true, true, true, true, true, true, true, true, true, false, false] rfl rfl (take_ofW HT_.out HW_.out (by kernel_rfl)) (fun _ _ _ h => h) (Or.inl ⟨by rfl, ?_⟩) hHeld ?_ ?_
  rotate_left
  {
  rintro w' ⟨s0, s1, s2, s3, s4, s5⟩
  go_simp
  with_reducible rfl }
  rotate_left
  {
  simp only [Act.put, sT, s0, s1, i64_w, i32_w]
  rfl }
  refine one_ (i := 10) (N := some 41) #[true, true, true, true, true, true, true, true, true, true, true, false] rfl rfl (one_of HT_.out (by kernel_rfl)) (by decide) (fun K hK => ?_)
  refine goes_ Try.func31 (by kernel_rfl) rfl #[.slice A212_1 ((rd_T62 l0 x5_1).f1).length c212_1, .slice A213_1 ((rd_T62 l1 x5_1).f1).length c213_1] (by rfl) rfl rfl (by (try simp only [List.map_toArray, List.map_cons, List.map_nil]); first | done | rfl | (simp only [List.length_drop, List.length_take]; rfl)) ?_
  with_reducible refine (hallmootref13_Writes.calls k1 _ _ ((rd_T62 l0 x5_1).f1) _ _ ((rd_T62 l1 x5_1).f1) true _ ?side1 ?side2 ?side3 ?side4 A8.out).mono ?_
  (case side1 => repeat (first | exact (Kd.C_below HR212_1.out HB.out) | (with_reducible refine Kd.C_alloc ?_ _) | (with_reducible refine Kd.C_drewN ?_ _) | (with_reducible refine Kd.C_drew ?_)))
  (case side2 => exact HC212_1.out)
  (case side3 => repeat (first | exact (Kd.C_below HR213_1.out HB.out) | (with_reducible refine Kd.C_alloc ?_ _) | (with_reducible refine Kd.C_drewN ?_ _) | (with_reducible refine Kd.C_drew ?_)))
  (case side4 => exact HC213_1.out)
  rintro e w' ⟨rfl, ⟨nd, rfl⟩⟩
  refine ⟨_, rfl, ?_⟩
  refine hK.out _ _ ⟨(cc HB.out hw212_0), (cc HB.out hw212_1), (cc HB.out hw212_2), (cc HB.out hw213_0), (cc HB.out hw213_1), (cc HB.out hw213_2)⟩ (fun hHeld => ?_)
  clear hK K
  refine norm_ (a' := ?_) ?_ ?_
  rotate_left
  {
  show Act.put _ (some 41) _ = _
  simp only [Act.put, sT, s0, s1, i64_w, i32_w]
  rfl }
  refine pure_ (i := 11) (N := some 7) (v := ?_) (a' := ?_) #[true, true, true, true, true, true, true, true, true, true, true, true] rfl rfl (any_of HT_.out (by kernel_rfl)) (fun _ _ _ h => h) (Or.inl ⟨by rfl, ?_⟩) ?_ ?_
  rotate_left
  {
  intro w'
  go_simp
  with_reducible rfl }
  rotate_left
  {
  simp only [Act.put, sT, s0, s1, i64_w, i32_w]
  rfl }
  refine done_ (done_of HT_.out (by kernel_rfl)) ?_
  try go_wp2
  (try (rw [drewN_self w18]; generalize hq_ : World.drewN w18 _ = w18; have n0_ : Aside0 (Below w.heap.size w w18) := ⟨by rw [← hq_]; exact bb⟩; clear HB hq_; have HB := n0_; clear n0_))
  have n0_ := aS (below_drew1 HB.out)
  clear HB
  have HB := n0_
  clear n0_
  have p215 : 0 ≤ (x5_1 : Int) := dd
  have q215 : x5_1 < (l0.length : Int) := dd
  obtain ⟨ad215, A215_0, c215_0, A215_1, c215_1, A215_2, c215_2, e215, hx215_0, hx215_1, hx215_2, hl215_0, hi215_0, hl215_1, hi215_1, hl215_2, hi215_2⟩ := at_T62 HR0.out x5_1 p215 q215
  have hw215_2 := hx215_2
  have hw215_1 := hx215_1
  have hw215_0 := hx215_0
  obtain rfl : ad209 = ad215 := (by injection e215)
  replace hx215_0 := cc HB.out hx215_0
  replace hx215_1 := cc HB.out hx215_1
  replace hx215_2 := cc HB.out hx215_2
  have HR215_0 := aS hi215_0
  have HC215_0 := aS hl215_0
  clear hi215_0 hl215_0
  have HR215_1 := aS hi215_1
  have HC215_1 := aS hl215_1
  clear hi215_1 hl215_1
  have HR215_2 := aS hi215_2
  have HC215_2 := aS hl215_2
  clear hi215_2 hl215_2
  replace p215 := eq_true p215
  replace q215 := eq_true q215
  have p216 : 0 ≤ (x5_1 : Int) := dd
  have q216 : x5_1 < (l1.length : Int) := dd
  obtain ⟨ad216, A216_0, c216_0, A216_1, c216_1, A216_2, c216_2, e216, hx216_0, hx216_1, hx216_2, hl216_0, hi216_0, hl216_1, hi216_1, hl216_2, hi216_2⟩ := at_T62 HR1.out x5_1 p216 q216
  have hw216_2 := hx216_2
  have hw216_1 := hx216_1
  have hw216_0 := hx216_0
  obtain rfl : ad210 = ad216 := (by injection e216)
  replace hx216_0 := cc HB.out hx216_0
  replace hx216_1 := cc HB.out hx216_1
  replace hx216_2 := cc HB.out hx216_2
  have HR216_0 := aS hi216_0
  have HC216_0 := aS hl216_0
  clear hi216_0 hl216_0
  have HR216_1 := aS hi216_1
  have HC216_1 := aS hl216_1
  clear hi216_1 hl216_1
  have HR216_2 := aS hi216_2
  have HC216_2 := aS hl216_2
  clear hi216_2 hl216_2
  replace p216 := eq_true p216
  replace q216 := eq_true q216
  refine start_ (n := 12) (S := fun w' => w'.cell? (ad209.add ((x5_1).toNat * 3)) = some (.slice A215_0 ((rd_T62 l0 x5_1).f0).length c215_0) ∧ w'.cell? ⟨(ad209.add ((x5_1).toNat * 3)).block, (ad209.add ((x5_1).toNat * 3)).off + 1, none⟩ = some (.slice A215_1 ((rd_T62 l0 x5_1).f1).length c215_1) ∧ w'.cell? ⟨(ad209.add ((x5_1).toNat * 3)).block, (ad209.add ((x5_1).toNat * 3)).off + 2, none⟩ = some (.slice A215_2 ((rd_T62 l0 x5_1).f2).length c215_2) ∧ w'.cell? (ad210.add ((x5_1).toNat * 3)) = some (.slice A216_0 ((rd_T62 l1 x5_1).f0).length c216_0) ∧ w'.cell? ⟨(ad210.add ((x5_1).toNat * 3)).block, (ad210.add ((x5_1).toNat * 3)).off + 1, none⟩ = some (.slice A216_1 ((rd_T62 l1 x5_1).f1).length c216_1) ∧ w'.cell? ⟨(ad210.add ((x5_1).toNat * 3)).block, (ad210.add ((x5_1).toNat * 3)).off + 2, none⟩ = some (.slice A216_2 ((rd_T62 l1 x5_1).f2).length c216_2)) (ds := []) #[false, false, false, false, false, false, false, false, false, false, false, false] (by kernel_rfl) rfl rfl ⟨(cc HB.out hw215_0), (cc HB.out hw215_1), (cc HB.out hw215_2), (cc HB.out hw216_0), (cc HB.out hw216_1), (cc HB.out hw216_2)⟩ (fun hHeld => ?_); refine with_tabW hallmootref13_Same.tab8 hallmootref13_Same.bits8 (fun HT_ HW_ => ?_)
  generalize w18.drew = w19 at HB HR215_0 HR215_1 HR215_2 HR216_0 HR216_1 HR216_2 hx215_0 hx215_1 hx215_2 hx216_0 hx216_1 hx216_2 hHeld ⊢
  refine pure_ (i := 0) (N := some 42) (v := ?_) (a' := ?_) #[true, false, false, false, false, false, false, false, false, false, false, false] rfl rfl (any_of HT_.out (by kernel_rfl)) (fun _ _ _ h => h) (Or.inl ⟨by rfl, ?_⟩) ?_ ?_
  rotate_left
  {
  intro w'
  go_simp
  with_reducible rfl }
  rotate_left
  {
  simp only [Act.put, sT, s0, s1, i64_w, i32_w]
  rfl }
  refine pure_ (i := 1) (N := some 43) (v := ?_) (a' := ?_) #[true, true, false, false, false, false, false, false, false, false, false, false] rfl rfl (any_of HT_.out (by kernel_rfl)) (fun _ _ _ h => h) (Or.inl ⟨by rfl, ?_⟩) ?_ ?_
  rotate_left
  {
  intro w'
  go_simp
  with_reducible rfl }
  rotate_left
  {
  simp only [Act.put, sT, s0, s1, i64_w, i32_w]
  rfl }
  refine pure_ (i := 2) (N := some 44) (v := ?_) (a' := ?_) #[true, true, true, false, false, false, false, false, false, false, false, false] rfl rfl (any_of HT_.out (by kernel_rfl)) (fun _ _ _ h => h) (Or.inl ⟨by rfl, ?_⟩) ?_ ?_
  rotate_left
  {
  intro w'
  go_simp
  with_reducible rfl }
  rotate_left
  {
  simp only [Act.put, sT, s0, s1, i64_w, i32_w]
  rfl }
  refine pure_ (i := 3) (N := some 45) (v := ?_) (a' := ?_) #[true, true, true, true, false, false, false, false, false, false, false, false] rfl rfl (any_of HT_.out (by kernel_rfl)) (fun _ _ _ h => h) (Or.inl ⟨by rfl, ?_⟩) ?_ ?_
  rotate_left
  {
  intro w'
  go_simp
  with_reducible rfl }
  rotate_left
  {
  simp only [Act.put, sT, s0, s1, i64_w, i32_w]
  rfl }
  refine pure_ (i := 5) (N := some 47) (v := ?_) (a' := ?_) #[true, true, true, true, false, true, false, false, false, false, false, false] rfl rfl (any_of HT_.out (by kernel_rfl)) (fun _ _ _ h => h) (Or.inl ⟨by rfl, ?_⟩) ?_ ?_
  rotate_left
  {
  intro w'
  go_simp
  with_reducible rfl }
  rotate_left
  {
  simp only [Act.put, sT, s0, s1, i64_w, i32_w]
  rfl }
  refine pure_ (i := 6) (N := some 48) (v := ?_) (a' := ?_) #[true, true, true, true, false, true, true, false, false, false, false, false] rfl rfl (any_of HT_.out (by kernel_rfl)) (fun _ _ _ h => h) (Or.inl ⟨by rfl, ?_⟩) ?_ ?_
  rotate_left
  {
  intro w'
  go_simp
  with_reducible rfl }
  rotate_left
  {
  simp only [Act.put, sT, s0, s1, i64_w, i32_w]
  rfl }
  refine pure_ (i := 7) (N := some 49) (v := ?_) (a' := ?_) #[true, true, true, true, false, true, true, true, false, false, false, false] rfl rfl (any_of HT_.out (by kernel_rfl)) (fun _ _ _ h => h) (Or.inl ⟨by rfl, ?_⟩) ?_ ?_
  rotate_left
  {
  intro w'
  go_simp
  with_reducible rfl }
  rotate_left
  {
  simp only [Act.put, sT, s0, s1, i64_w, i32_w]
  rfl }
  refine pure_ (i := 8) (N := some 50) (v := ?_) (a' := ?_) #[true, true, true, true, false, true, true, true, true, false, false, false] rfl rfl (any_of HT_.out (by kernel_rfl)) (fun _ _ _ h => h) (Or.inl ⟨by rfl, ?_⟩) ?_ ?_
  rotate_left
  {
  intro w'
  go_simp
  with_reducible rfl }
  rotate_left
  {
  simp only [Act.put, sT, s0, s1, i64_w, i32_w]
  rfl }
  refine take_ (i := 4) (N := some 46) (v := ?_) (a' := ?_) #[true, true, true, true, true, true, true, true, true, false, false, false] rfl rfl (take_ofW HT_.out HW_.out (by kernel_rfl)) (fun _ _ _ h => h) (Or.inl ⟨by rfl, ?_⟩) hHeld ?_ ?_
  rotate_left
  {
  rintro w' ⟨s0, s1, s2, s3, s4, s5⟩
  go_simp
  with_reducible rfl }
  rotate_left
  {
  simp only [Act.put, sT, s0, s1, i64_w, i32_w]
  rfl }
  refine take_ (i := 9) (N := some 51) (v := ?_) (a' := ?_) #[true, true, true, true, true, true, true, true, true, true, false, false] rfl rfl (take_ofW HT_.out HW_.out (by kernel_rfl)) (fun _ _ _ h => h) (Or.inl ⟨by rfl, ?_⟩) hHeld ?_ ?_
  rotate_left
  {
  rintro w' ⟨s0, s1, s2, s3, s4, s5⟩
  go_simp
  with_reducible rfl }
  rotate_left
  {
  simp only [Act.put, sT, s0, s1, i64_w, i32_w]
  rfl }
  refine one_ (i := 10) (N := some 52) #[true, true, true, true, true, true, true, true, true, true, true, false] rfl rfl (one_of HT_.out (by kernel_rfl)) (by decide) (fun K hK => ?_)
  refine goes_ Try.func25 (by kernel_rfl) rfl #[.slice A215_2 ((rd_T62 l0 x5_1).f2).length c215_2, .slice A216_2 ((rd_T62 l1 x5_1).f2).length c216_2] (by rfl) rfl rfl (by (try simp only [List.map_toArray, List.map_cons, List.map_nil]); first | done | rfl | (simp only [List.length_drop, List.length_take]; rfl)) ?_
  with_reducible refine (hallmootref13_Undos.calls k1 _ _ ((rd_T62 l0 x5_1).f2) _ _ ((rd_T62 l1 x5_1).f2) false _ ?side1 ?side2 ?side3 ?side4 A9.out).mono ?_
  (case side1 => repeat (first | exact (Kd.C_below HR215_2.out HB.out) | (with_reducible refine Kd.C_alloc ?_ _) | (with_reducible refine Kd.C_drewN ?_ _) | (with_reducible refine Kd.C_drew ?_)))
  (case side2 => exact HC215_2.out)
  (case side3 => repeat (first | exact (Kd.C_below HR216_2.out HB.out) | (with_reducible refine Kd.C_alloc ?_ _) | (with_reducible refine Kd.C_drewN ?_ _) | (with_reducible refine Kd.C_drew ?_)))
  (case side4 => exact HC216_2.out)
  rintro e w20 ⟨rfl, hb⟩
  refine ⟨_, rfl, ?_⟩
  have n0_ := aS (below_step bb hb)
  clear HB
  have HB := n0_
  clear n0_
  (try clear hb)
  (try clear hb2)
  (try clear hk)
  (try clear hi)
  refine hK.out _ _ ⟨(cc HB.out hw215_0), (cc HB.out hw215_1), (cc HB.out hw215_2), (cc HB.out hw216_0), (cc HB.out hw216_1), (cc HB.out hw216_2)⟩ (fun hHeld => ?_)
  clear hK K
  refine norm_ (a' := ?_) ?_ ?_
  rotate_left
  {
  show Act.put _ (some 52) _ = _
  simp only [Act.put, sT, s0, s1, i64_w, i32_w]
  rfl }
  refine pure_ (i := 11) (N := some 8) (v := ?_) (a' := ?_) #[true, true, true, true, true, true, true, true, true, true, true, true] rfl rfl (any_of HT_.out (by kernel_rfl)) (fun _ _ _ h => h) (Or.inl ⟨by rfl, ?_⟩) ?_ ?_
  rotate_left
  {
  intro w'
  go_simp
  with_reducible rfl }
  rotate_left
  {
  simp only [Act.put, sT, s0, s1, i64_w, i32_w]
  rfl }
  refine done_ (done_of HT_.out (by kernel_rfl)) ?_
  try go_wp2
  go_ret
  exact ⟨by first | rfl | (simp [errW_none, errW_some] <;> rfl) | (simp [*, errW_none, errW_some] <;> rfl), by repeat (first | (with_reducible first | exact HB.out | apply below_alloc | apply pw_below_drewN | apply below_drew1) | exact HB.out)⟩ } }
  {
  replace c11 := Bool.eq_false_iff.mpr c11
  subst c11
  have H1 : (some false) = some r := by rw [if_neg (show ¬ (false = true) by decide)] at H; exact H
  clear H
  have H := H1
  clear H1
  obtain rfl := Option.some.inj H
  try go_wp2
  have n0_ := aS (below_drew1 HB.out)
  clear HB
  have HB := n0_
  clear n0_
  have p209 : 0 ≤ (x5_1 : Int) := dd
  have q209 : x5_1 < (l0.length : Int) := dd
  obtain ⟨ad209, A209_0, c209_0, A209_1, c209_1, A209_2, c209_2, e209, hx209_0, hx209_1, hx209_2, hl209_0, hi209_0, hl209_1, hi209_1, hl209_2, hi209_2⟩ := at_T62 HR0.out x5_1 p209 q209
  have hw209_2 := hx209_2
  have hw209_1 := hx209_1
  have hw209_0 := hx209_0
  cases e209
  replace hx209_0 := cc HB.out hx209_0
  replace hx209_1 := cc HB.out hx209_1
  replace hx209_2 := cc HB.out hx209_2
  have HR209_0 := aS hi209_0
  have HC209_0 := aS hl209_0
  clear hi209_0 hl209_0
  have HR209_1 := aS hi209_1
  have HC209_1 := aS hl209_1
  clear hi209_1 hl209_1
  have HR209_2 := aS hi209_2
  have HC209_2 := aS hl209_2
  clear hi209_2 hl209_2
  replace p209 := eq_true p209
  replace q209 := eq_true q209
  have p210 : 0 ≤ (x5_1 : Int) := dd
  have q210 : x5_1 < (l1.length : Int) := dd
  obtain ⟨ad210, A210_0, c210_0, A210_1, c210_1, A210_2, c210_2, e210, hx210_0, hx210_1, hx210_2, hl210_0, hi210_0, hl210_1, hi210_1, hl210_2, hi210_2⟩ := at_T62 HR1.out x5_1 p210 q210
  have hw210_2 := hx210_2
  have hw210_1 := hx210_1
  have hw210_0 := hx210_0
  cases e210
  replace hx210_0 := cc HB.out hx210_0
  replace hx210_1 := cc HB.out hx210_1
  replace hx210_2 := cc HB.out hx210_2
  have HR210_0 := aS hi210_0
  have HC210_0 := aS hl210_0
  clear hi210_0 hl210_0
  have HR210_1 := aS hi210_1
  have HC210_1 := aS hl210_1
  clear hi210_1 hl210_1
  have HR210_2 := aS hi210_2
  have HC210_2 := aS hl210_2
  clear hi210_2 hl210_2
  replace p210 := eq_true p210
  replace q210 := eq_true q210
  refine start_ (n := 12) (S := fun w' => w'.cell? (ad209.add ((x5_1).toNat * 3)) = some (.slice A209_0 ((rd_T62 l0 x5_1).f0).length c209_0) ∧ w'.cell? ⟨(ad209.add ((x5_1).toNat * 3)).block, (ad209.add ((x5_1).toNat * 3)).off + 1, none⟩ = some (.slice A209_1 ((rd_T62 l0 x5_1).f1).length c209_1) ∧ w'.cell? ⟨(ad209.add ((x5_1).toNat * 3)).block, (ad209.add ((x5_1).toNat * 3)).off + 2, none⟩ = some (.slice A209_2 ((rd_T62 l0 x5_1).f2).length c209_2) ∧ w'.cell? (ad210.add ((x5_1).toNat * 3)) = some (.slice A210_0 ((rd_T62 l1 x5_1).f0).length c210_0) ∧ w'.cell? ⟨(ad210.add ((x5_1).toNat * 3)).block, (ad210.add ((x5_1).toNat * 3)).off + 1, none⟩ = some (.slice A210_1 ((rd_T62 l1 x5_1).f1).length c210_1) ∧ w'.cell? ⟨(ad210.add ((x5_1).toNat * 3)).block, (ad210.add ((x5_1).toNat * 3)).off + 2, none⟩ = some (.slice A210_2 ((rd_T62 l1 x5_1).f2).length c210_2)) (ds := []) #[false, false, false, false, false, false, false, false, false, false, false, false] (by kernel_rfl) rfl rfl ⟨(cc HB.out hw209_0), (cc HB.out hw209_1), (cc HB.out hw209_2), (cc HB.out hw210_0), (cc HB.out hw210_1), (cc HB.out hw210_2)⟩ (fun hHeld => ?_); refine with_tabW hallmootref13_Same.tab6 hallmootref13_Same.bits6 (fun HT_ HW_ => ?_)
  generalize wr.drew = w21 at HB HR209_0 HR209_1 HR209_2 HR210_0 HR210_1 HR210_2 hx209_0 hx209_1 hx209_2 hx210_0 hx210_1 hx210_2 hHeld ⊢
  refine pure_ (i := 0) (N := some 20) (v := ?_) (a' := ?_) #[true, false, false, false, false, false, false, false, false, false, false, false] rfl rfl (any_of HT_.out (by kernel_rfl)) (fun _ _ _ h => h) (Or.inl ⟨by rfl, ?_⟩) ?_ ?_
  rotate_left
  {
  intro w'
  go_simp
  with_reducible rfl }
  rotate_left
  {
  simp only [Act.put, sT, s0, s1, i64_w, i32_w]
  rfl }
  refine pure_ (i := 1) (N := some 21) (v := ?_) (a' := ?_) #[true, true, false, false, false, false, false, false, false, false, false, false] rfl rfl (any_of HT_.out (by kernel_rfl)) (fun _ _ _ h => h) (Or.inl ⟨by rfl, ?_⟩) ?_ ?_
  rotate_left
  {
  intro w'
  go_simp
  with_reducible rfl }
  rotate_left
  {
  simp only [Act.put, sT, s0, s1, i64_w, i32_w]
  rfl }
  refine pure_ (i := 2) (N := some 22) (v := ?_) (a' := ?_) #[true, true, true, false, false, false, false, false, false, false, false, false] rfl rfl (any_of HT_.out (by kernel_rfl)) (fun _ _ _ h => h) (Or.inl ⟨by rfl, ?_⟩) ?_ ?_
  rotate_left
  {
  intro w'
  go_simp
  with_reducible rfl }
  rotate_left
  {
  simp only [Act.put, sT, s0, s1, i64_w, i32_w]
  rfl }
  refine pure_ (i := 3) (N := some 23) (v := ?_) (a' := ?_) #[true, true, true, true, false, false, false, false, false, false, false, false] rfl rfl (any_of HT_.out (by kernel_rfl)) (fun _ _ _ h => h) (Or.inl ⟨by rfl, ?_⟩) ?_ ?_
  rotate_left
  {
  intro w'
  go_simp
  with_reducible rfl }
  rotate_left
  {
  simp only [Act.put, sT, s0, s1, i64_w, i32_w]
  rfl }
  refine pure_ (i := 5) (N := some 25) (v := ?_) (a' := ?_) #[true, true, true, true, false, true, false, false, false, false, false, false] rfl rfl (any_of HT_.out (by kernel_rfl)) (fun _ _ _ h => h) (Or.inl ⟨by rfl, ?_⟩) ?_ ?_
  rotate_left
  {
  intro w'
  go_simp
  with_reducible rfl }
  rotate_left
  {
  simp only [Act.put, sT, s0, s1, i64_w, i32_w]
  rfl }
  refine pure_ (i := 6) (N := some 26) (v := ?_) (a' := ?_) #[true, true, true, true, false, true, true, false, false, false, false, false] rfl rfl (any_of HT_.out (by kernel_rfl)) (fun _ _ _ h => h) (Or.inl ⟨by rfl, ?_⟩) ?_ ?_
  rotate_left
  {
  intro w'
  go_simp
  with_reducible rfl }
  rotate_left
  {
  simp only [Act.put, sT, s0, s1, i64_w, i32_w]
  rfl }
  refine pure_ (i := 7) (N := some 27) (v := ?_) (a' := ?_) #[true, true, true, true, false, true, true, true, false, false, false, false] rfl rfl (any_of HT_.out (by kernel_rfl)) (fun _ _ _ h => h) (Or.inl ⟨by rfl, ?_⟩) ?_ ?_
  rotate_left
  {
  intro w'
  go_simp
  with_reducible rfl }
  rotate_left
  {
  simp only [Act.put, sT, s0, s1, i64_w, i32_w]
  rfl }
  refine pure_ (i := 8) (N := some 28) (v := ?_) (a' := ?_) #[true, true, true, true, false, true, true, true, true, false, false, false] rfl rfl (any_of HT_.out (by kernel_rfl)) (fun _ _ _ h => h) (Or.inl ⟨by rfl, ?_⟩) ?_ ?_
  rotate_left
  {
  intro w'
  go_simp
  with_reducible rfl }
  rotate_left
  {
  simp only [Act.put, sT, s0, s1, i64_w, i32_w]
  rfl }
  refine take_ (i := 4) (N := some 24) (v := ?_) (a' := ?_) #[true, true, true, true, true, true, true, true, true, false, false, false] rfl rfl (take_ofW HT_.out HW_.out (by kernel_rfl)) (fun _ _ _ h => h) (Or.inl ⟨by rfl, ?_⟩) hHeld ?_ ?_
  rotate_left
  {
  rintro w' ⟨s0, s1, s2, s3, s4, s5⟩
  go_simp
  with_reducible rfl }
  rotate_left
  {
  simp only [Act.put, sT, s0, s1, i64_w, i32_w]
  rfl }
  refine take_ (i := 9) (N := some 29) (v := ?_) (a' := ?_) #[true, true, true, true, true, true, true, true, true, true, false, false] rfl rfl (take_ofW HT_.out HW_.out (by kernel_rfl)) (fun _ _ _ h => h) (Or.inl ⟨by rfl, ?_⟩) hHeld ?_ ?_
  rotate_left
  {
  rintro w' ⟨s0, s1, s2, s3, s4, s5⟩
  go_simp
  with_reducible rfl }
  rotate_left
  {
  simp only [Act.put, sT, s0, s1, i64_w, i32_w]
  rfl }
  refine one_ (i := 10) (N := some 30) #[true, true, true, true, true, true, true, true, true, true, true, false] rfl rfl (one_of HT_.out (by kernel_rfl)) (by decide) (fun K hK => ?_)
  refine goes_ Try.func30 (by kernel_rfl) rfl #[.slice A209_0 ((rd_T62 l0 x5_1).f0).length c209_0, .slice A210_0 ((rd_T62 l1 x5_1).f0).length c210_0] (by rfl) rfl rfl (by (try simp only [List.map_toArray, List.map_cons, List.map_nil]); first | done | rfl | (simp only [List.length_drop, List.length_take]; rfl)) ?_
  with_reducible refine (hallmootref13_Seens.calls k1 _ _ ((rd_T62 l0 x5_1).f0) _ _ ((rd_T62 l1 x5_1).f0) true _ ?side1 ?side2 ?side3 ?side4 A7.out).mono ?_
  (case side1 => repeat (first | exact (Kd.C_below HR209_0.out HB.out) | (with_reducible refine Kd.C_alloc ?_ _) | (with_reducible refine Kd.C_drewN ?_ _) | (with_reducible refine Kd.C_drew ?_)))
  (case side2 => exact HC209_0.out)
  (case side3 => repeat (first | exact (Kd.C_below HR210_0.out HB.out) | (with_reducible refine Kd.C_alloc ?_ _) | (with_reducible refine Kd.C_drewN ?_ _) | (with_reducible refine Kd.C_drew ?_)))
  (case side4 => exact HC210_0.out)
  rintro e w' ⟨rfl, ⟨nd, rfl⟩⟩
  refine ⟨_, rfl, ?_⟩
  refine hK.out _ _ ⟨(cc HB.out hw209_0), (cc HB.out hw209_1), (cc HB.out hw209_2), (cc HB.out hw210_0), (cc HB.out hw210_1), (cc HB.out hw210_2)⟩ (fun hHeld => ?_)
  clear hK K
  refine norm_ (a' := ?_) ?_ ?_
  rotate_left
  {
  show Act.put _ (some 30) _ = _
  simp only [Act.put, sT, s0, s1, i64_w, i32_w]
  rfl }
  refine pure_ (i := 11) (N := some 6) (v := ?_) (a' := ?_) #[true, true, true, true, true, true, true, true, true, true, true, true] rfl rfl (any_of HT_.out (by kernel_rfl)) (fun _ _ _ h => h) (Or.inl ⟨by rfl, ?_⟩) ?_ ?_
  rotate_left
  {
  intro w'
  go_simp
  with_reducible rfl }
  rotate_left
  {
  simp only [Act.put, sT, s0, s1, i64_w, i32_w]
  rfl }
  refine done_ (done_of HT_.out (by kernel_rfl)) ?_
  try go_wp2
  (try (rw [drewN_self w21]; generalize hq_ : World.drewN w21 _ = w21; have n0_ : Aside0 (Below w.heap.size w w21) := ⟨by rw [← hq_]; exact bb⟩; clear HB hq_; have HB := n0_; clear n0_))
  have n0_ := aS (below_drew1 HB.out)
  clear HB
  have HB := n0_
  clear n0_
  have p212 : 0 ≤ (x5_1 : Int) := dd
  have q212 : x5_1 < (l0.length : Int) := dd
  obtain ⟨ad212, A212_0, c212_0, A212_1, c212_1, A212_2, c212_2, e212, hx212_0, hx212_1, hx212_2, hl212_0, hi212_0, hl212_1, hi212_1, hl212_2, hi212_2⟩ := at_T62 HR0.out x5_1 p212 q212
  have hw212_2 := hx212_2
  have hw212_1 := hx212_1
  have hw212_0 := hx212_0
  obtain rfl : ad209 = ad212 := (by injection e212)
  replace hx212_0 := cc HB.out hx212_0
  replace hx212_1 := cc HB.out hx212_1
  replace hx212_2 := cc HB.out hx212_2
  have HR212_0 := aS hi212_0
  have HC212_0 := aS hl212_0
  clear hi212_0 hl212_0
  have HR212_1 := aS hi212_1
  have HC212_1 := aS hl212_1
  clear hi212_1 hl212_1
  have HR212_2 := aS hi212_2
  have HC212_2 := aS hl212_2
  clear hi212_2 hl212_2
  replace p212 := eq_true p212
  replace q212 := eq_true q212
  have p213 : 0 ≤ (x5_1 : Int) := dd
  have q213 : x5_1 < (l1.length : Int) := dd
  obtain ⟨ad213, A213_0, c213_0, A213_1, c213_1, A213_2, c213_2, e213, hx213_0, hx213_1, hx213_2, hl213_0, hi213_0, hl213_1, hi213_1, hl213_2, hi213_2⟩ := at_T62 HR1.out x5_1 p213 q213
  have hw213_2 := hx213_2
  have hw213_1 := hx213_1
  have hw213_0 := hx213_0
  obtain rfl : ad210 = ad213 := (by injection e213)
  replace hx213_0 := cc HB.out hx213_0
  replace hx213_1 := cc HB.out hx213_1
  replace hx213_2 := cc HB.out hx213_2
  have HR213_0 := aS hi213_0
  have HC213_0 := aS hl213_0
  clear hi213_0 hl213_0
  have HR213_1 := aS hi213_1
  have HC213_1 := aS hl213_1
  clear hi213_1 hl213_1
  have HR213_2 := aS hi213_2
  have HC213_2 := aS hl213_2
  clear hi213_2 hl213_2
  replace p213 := eq_true p213
  replace q213 := eq_true q213
  refine start_ (n := 12) (S := fun w' => w'.cell? (ad209.add ((x5_1).toNat * 3)) = some (.slice A212_0 ((rd_T62 l0 x5_1).f0).length c212_0) ∧ w'.cell? ⟨(ad209.add ((x5_1).toNat * 3)).block, (ad209.add ((x5_1).toNat * 3)).off + 1, none⟩ = some (.slice A212_1 ((rd_T62 l0 x5_1).f1).length c212_1) ∧ w'.cell? ⟨(ad209.add ((x5_1).toNat * 3)).block, (ad209.add ((x5_1).toNat * 3)).off + 2, none⟩ = some (.slice A212_2 ((rd_T62 l0 x5_1).f2).length c212_2) ∧ w'.cell? (ad210.add ((x5_1).toNat * 3)) = some (.slice A213_0 ((rd_T62 l1 x5_1).f0).length c213_0) ∧ w'.cell? ⟨(ad210.add ((x5_1).toNat * 3)).block, (ad210.add ((x5_1).toNat * 3)).off + 1, none⟩ = some (.slice A213_1 ((rd_T62 l1 x5_1).f1).length c213_1) ∧ w'.cell? ⟨(ad210.add ((x5_1).toNat * 3)).block, (ad210.add ((x5_1).toNat * 3)).off + 2, none⟩ = some (.slice A213_2 ((rd_T62 l1 x5_1).f2).length c213_2)) (ds := []) #[false, false, false, false, false, false, false, false, false, false, false, false] (by kernel_rfl) rfl rfl ⟨(cc HB.out hw212_0), (cc HB.out hw212_1), (cc HB.out hw212_2), (cc HB.out hw213_0), (cc HB.out hw213_1), (cc HB.out hw213_2)⟩ (fun hHeld => ?_); refine with_tabW hallmootref13_Same.tab7 hallmootref13_Same.bits7 (fun HT_ HW_ => ?_)
  generalize w21.drew = w22 at HB HR212_0 HR212_1 HR212_2 HR213_0 HR213_1 HR213_2 hx212_0 hx212_1 hx212_2 hx213_0 hx213_1 hx213_2 hHeld ⊢
  refine pure_ (i := 0) (N := some 31) (v := ?_) (a' := ?_) #[true, false, false, false, false, false, false, false, false, false, false, false] rfl rfl (any_of HT_.out (by kernel_rfl)) (fun _ _ _ h => h) (Or.inl ⟨by rfl, ?_⟩) ?_ ?_
  rotate_left
  {
  intro w'
  go_simp
  with_reducible rfl }
  rotate_left
  {
  simp only [Act.put, sT, s0, s1, i64_w, i32_w]
  rfl }
  refine pure_ (i := 1) (N := some 32) (v := ?_) (a' := ?_) #[true, true, false, false, false, false, false, false, false, false, false, false] rfl rfl (any_of HT_.out (by kernel_rfl)) (fun _ _ _ h => h) (Or.inl ⟨by rfl, ?_⟩) ?_ ?_
  rotate_left
  {
  intro w'
  go_simp
  with_reducible rfl }
  rotate_left
  {
  simp only [Act.put, sT, s0, s1, i64_w, i32_w]
  rfl }
  refine pure_ (i := 2) (N := some 33) (v := ?_) (a' := ?_) #[true, true, true, false, false, false, false, false, false, false, false, false] rfl rfl (any_of HT_.out (by kernel_rfl)) (fun _ _ _ h => h) (Or.inl ⟨by rfl, ?_⟩) ?_ ?_
  rotate_left
  {
  intro w'
  go_simp
  with_reducible rfl }
  rotate_left
  {
  simp only [Act.put, sT, s0, s1, i64_w, i32_w]
  rfl }
  refine pure_ (i := 3) (N := some 34) (v := ?_) (a' := ?_) #[true, true, true, true, false, false, false, false, false, false, false, false] rfl rfl (any_of HT_.out (by kernel_rfl)) (fun _ _ _ h => h) (Or.inl ⟨by rfl, ?_⟩) ?_ ?_
  rotate_left
  {
  intro w'
  go_simp
  with_reducible rfl }
  rotate_left
  {
  simp only [Act.put, sT, s0, s1, i64_w, i32_w]
  rfl }
  refine pure_ (i := 5) (N := some 36) (v := ?_) (a' := ?_) #[true, true, true, true, false, true, false, false, false, false, false, false] rfl rfl (any_of HT_.out (by kernel_rfl)) (fun _ _ _ h => h) (Or.inl ⟨by rfl, ?_⟩) ?_ ?_
  rotate_left
  {
  intro w'
  go_simp
  with_reducible rfl }
  rotate_left
  {
  simp only [Act.put, sT, s0, s1, i64_w, i32_w]
  rfl }
  refine pure_ (i := 6) (N := some 37) (v := ?_) (a' := ?_) #[true, true, true, true, false, true, true, false, false, false, false, false] rfl rfl (any_of HT_.out (by kernel_rfl)) (fun _ _ _ h => h) (Or.inl ⟨by rfl, ?_⟩) ?_ ?_
  rotate_left
  {
  intro w'
  go_simp
  with_reducible rfl }
  rotate_left
  {
  simp only [Act.put, sT, s0, s1, i64_w, i32_w]
  rfl }
  refine pure_ (i := 7) (N := some 38) (v := ?_) (a' := ?_) #[true, true, true, true, false, true, true, true, false, false, false, false] rfl rfl (any_of HT_.out (by kernel_rfl)) (fun _ _ _ h => h) (Or.inl ⟨by rfl, ?_⟩) ?_ ?_
  rotate_left
  {
  intro w'
  go_simp
  with_reducible rfl }
  rotate_left
  {
  simp only [Act.put, sT, s0, s1, i64_w, i32_w]
  rfl }
  refine pure_ (i := 8) (N := some 39) (v := ?_) (a' := ?_) #[true, true, true, true, false, true, true, true, true, false, false, false] rfl rfl (any_of HT_.out (by kernel_rfl)) (fun _ _ _ h => h) (Or.inl ⟨by rfl, ?_⟩) ?_ ?_
  rotate_left
  {
  intro w'
  go_simp
  with_reducible rfl }
  rotate_left
  {
  simp only [Act.put, sT, s0, s1, i64_w, i32_w]
  rfl }
  refine take_ (i := 4) (N := some 35) (v := ?_) (a' := ?_) #[true, true, true, true, true, true, true, true, true, false, false, false] rfl rfl (take_ofW HT_.out HW_.out (by kernel_rfl)) (fun _ _ _ h => h) (Or.inl ⟨by rfl, ?_⟩) hHeld ?_ ?_
  rotate_left
  {
  rintro w' ⟨s0, s1, s2, s3, s4, s5⟩
  go_simp
  with_reducible rfl }
  rotate_left
  {
  simp only [Act.put, sT, s0, s1, i64_w, i32_w]
  rfl }
  refine take_ (i := 9) (N := some 40) (v := ?_) (a' := ?_) #[true, true, true, true, true, true, true, true, true, true, false, false] rfl rfl (take_ofW HT_.out HW_.out (by kernel_rfl)) (fun _ _ _ h => h) (Or.inl ⟨by rfl, ?_⟩) hHeld ?_ ?_
  rotate_left
  {
  rintro w' ⟨s0, s1, s2, s3, s4, s5⟩
  go_simp
  with_reducible rfl }
  rotate_left
  {
  simp only [Act.put, sT, s0, s1, i64_w, i32_w]
  rfl }
  refine one_ (i := 10) (N := some 41) #[true, true, true, true, true, true, true, true, true, true, true, false] rfl rfl (one_of HT_.out (by kernel_rfl)) (by decide) (fun K hK => ?_)
  refine goes_ Try.func31 (by kernel_rfl) rfl #[.slice A212_1 ((rd_T62 l0 x5_1).f1).length c212_1, .slice A213_1 ((rd_T62 l1 x5_1).f1).length c213_1] (by rfl) rfl rfl (by (try simp only [List.map_toArray, List.map_cons, List.map_nil]); first | done | rfl | (simp only [List.length_drop, List.length_take]; rfl)) ?_
  with_reducible refine (hallmootref13_Writes.calls k1 _ _ ((rd_T62 l0 x5_1).f1) _ _ ((rd_T62 l1 x5_1).f1) false _ ?side1 ?side2 ?side3 ?side4 A8.out).mono ?_
  (case side1 => repeat (first | exact (Kd.C_below HR212_1.out HB.out) | (with_reducible refine Kd.C_alloc ?_ _) | (with_reducible refine Kd.C_drewN ?_ _) | (with_reducible refine Kd.C_drew ?_)))
  (case side2 => exact HC212_1.out)
  (case side3 => repeat (first | exact (Kd.C_below HR213_1.out HB.out) | (with_reducible refine Kd.C_alloc ?_ _) | (with_reducible refine Kd.C_drewN ?_ _) | (with_reducible refine Kd.C_drew ?_)))
  (case side4 => exact HC213_1.out)
  rintro e w' ⟨rfl, ⟨nd, rfl⟩⟩
  refine ⟨_, rfl, ?_⟩
  refine hK.out _ _ ⟨(cc HB.out hw212_0), (cc HB.out hw212_1), (cc HB.out hw212_2), (cc HB.out hw213_0), (cc HB.out hw213_1), (cc HB.out hw213_2)⟩ (fun hHeld => ?_)
  clear hK K
  refine norm_ (a' := ?_) ?_ ?_
  rotate_left
  {
  show Act.put _ (some 41) _ = _
  simp only [Act.put, sT, s0, s1, i64_w, i32_w]
  rfl }
  refine pure_ (i := 11) (N := some 7) (v := ?_) (a' := ?_) #[true, true, true, true, true, true, true, true, true, true, true, true] rfl rfl (any_of HT_.out (by kernel_rfl)) (fun _ _ _ h => h) (Or.inl ⟨by rfl, ?_⟩) ?_ ?_
  rotate_left
  {
  intro w'
  go_simp
  with_reducible rfl }
  rotate_left
  {
  simp only [Act.put, sT, s0, s1, i64_w, i32_w]
  rfl }
  refine done_ (done_of HT_.out (by kernel_rfl)) ?_
  try go_wp2
  (try (rw [drewN_self w22]; generalize hq_ : World.drewN w22 _ = w22; have n0_ : Aside0 (Below w.heap.size w w22) := ⟨by rw [← hq_]; exact bb⟩; clear HB hq_; have HB := n0_; clear n0_))
  have n0_ := aS (below_drew1 HB.out)
  clear HB
  have HB := n0_
  clear n0_
  have p215 : 0 ≤ (x5_1 : Int) := dd
  have q215 : x5_1 < (l0.length : Int) := dd
  obtain ⟨ad215, A215_0, c215_0, A215_1, c215_1, A215_2, c215_2, e215, hx215_0, hx215_1, hx215_2, hl215_0, hi215_0, hl215_1, hi215_1, hl215_2, hi215_2⟩ := at_T62 HR0.out x5_1 p215 q215
  have hw215_2 := hx215_2
  have hw215_1 := hx215_1
  have hw215_0 := hx215_0
  obtain rfl : ad209 = ad215 := (by injection e215)
  replace hx215_0 := cc HB.out hx215_0
  replace hx215_1 := cc HB.out hx215_1
  replace hx215_2 := cc HB.out hx215_2
  have HR215_0 := aS hi215_0
  have HC215_0 := aS hl215_0
  clear hi215_0 hl215_0
  have HR215_1 := aS hi215_1
  have HC215_1 := aS hl215_1
  clear hi215_1 hl215_1
  have HR215_2 := aS hi215_2
  have HC215_2 := aS hl215_2
  clear hi215_2 hl215_2
  replace p215 := eq_true p215
  replace q215 := eq_true q215
  have p216 : 0 ≤ (x5_1 : Int) := dd
  have q216 : x5_1 < (l1.length : Int) := dd
  obtain ⟨ad216, A216_0, c216_0, A216_1, c216_1, A216_2, c216_2, e216, hx216_0, hx216_1, hx216_2, hl216_0, hi216_0, hl216_1, hi216_1, hl216_2, hi216_2⟩ := at_T62 HR1.out x5_1 p216 q216
  have hw216_2 := hx216_2
  have hw216_1 := hx216_1
  have hw216_0 := hx216_0
  obtain rfl : ad210 = ad216 := (by injection e216)
  replace hx216_0 := cc HB.out hx216_0
  replace hx216_1 := cc HB.out hx216_1
  replace hx216_2 := cc HB.out hx216_2
  have HR216_0 := aS hi216_0
  have HC216_0 := aS hl216_0
  clear hi216_0 hl216_0
  have HR216_1 := aS hi216_1
  have HC216_1 := aS hl216_1
  clear hi216_1 hl216_1
  have HR216_2 := aS hi216_2
  have HC216_2 := aS hl216_2
  clear hi216_2 hl216_2
  replace p216 := eq_true p216
  replace q216 := eq_true q216
  refine start_ (n := 12) (S := fun w' => w'.cell? (ad209.add ((x5_1).toNat * 3)) = some (.slice A215_0 ((rd_T62 l0 x5_1).f0).length c215_0) ∧ w'.cell? ⟨(ad209.add ((x5_1).toNat * 3)).block, (ad209.add ((x5_1).toNat * 3)).off + 1, none⟩ = some (.slice A215_1 ((rd_T62 l0 x5_1).f1).length c215_1) ∧ w'.cell? ⟨(ad209.add ((x5_1).toNat * 3)).block, (ad209.add ((x5_1).toNat * 3)).off + 2, none⟩ = some (.slice A215_2 ((rd_T62 l0 x5_1).f2).length c215_2) ∧ w'.cell? (ad210.add ((x5_1).toNat * 3)) = some (.slice A216_0 ((rd_T62 l1 x5_1).f0).length c216_0) ∧ w'.cell? ⟨(ad210.add ((x5_1).toNat * 3)).block, (ad210.add ((x5_1).toNat * 3)).off + 1, none⟩ = some (.slice A216_1 ((rd_T62 l1 x5_1).f1).length c216_1) ∧ w'.cell? ⟨(ad210.add ((x5_1).toNat * 3)).block, (ad210.add ((x5_1).toNat * 3)).off + 2, none⟩ = some (.slice A216_2 ((rd_T62 l1 x5_1).f2).length c216_2)) (ds := []) #[false, false, false, false, false, false, false, false, false, false, false, false] (by kernel_rfl) rfl rfl ⟨(cc HB.out hw215_0), (cc HB.out hw215_1), (cc HB.out hw215_2), (cc HB.out hw216_0), (cc HB.out hw216_1), (cc HB.out hw216_2)⟩ (fun hHeld => ?_); refine with_tabW hallmootref13_Same.tab8 hallmootref13_Same.bits8 (fun HT_ HW_ => ?_)
  generalize w22.drew = w23 at HB HR215_0 HR215_1 HR215_2 HR216_0 HR216_1 HR216_2 hx215_0 hx215_1 hx215_2 hx216_0 hx216_1 hx216_2 hHeld ⊢
  refine pure_ (i := 0) (N := some 42) (v := ?_) (a' := ?_) #[true, false, false, false, false, false, false, false, false, false, false, false] rfl rfl (any_of HT_.out (by kernel_rfl)) (fun _ _ _ h => h) (Or.inl ⟨by rfl, ?_⟩) ?_ ?_
  rotate_left
  {
  intro w'
  go_simp
  with_reducible rfl }
  rotate_left
  {
  simp only [Act.put, sT, s0, s1, i64_w, i32_w]
  rfl }
  refine pure_ (i := 1) (N := some 43) (v := ?_) (a' := ?_) #[true, true, false, false, false, false, false, false, false, false, false, false] rfl rfl (any_of HT_.out (by kernel_rfl)) (fun _ _ _ h => h) (Or.inl ⟨by rfl, ?_⟩) ?_ ?_
  rotate_left
  {
  intro w'
  go_simp
  with_reducible rfl }
  rotate_left
  {
  simp only [Act.put, sT, s0, s1, i64_w, i32_w]
  rfl }
  refine pure_ (i := 2) (N := some 44) (v := ?_) (a' := ?_) #[true, true, true, false, false, false, false, false, false, false, false, false] rfl rfl (any_of HT_.out (by kernel_rfl)) (fun _ _ _ h => h) (Or.inl ⟨by rfl, ?_⟩) ?_ ?_
  rotate_left
  {
  intro w'
  go_simp
  with_reducible rfl }
  rotate_left
  {
  simp only [Act.put, sT, s0, s1, i64_w, i32_w]
  rfl }
  refine pure_ (i := 3) (N := some 45) (v := ?_) (a' := ?_) #[true, true, true, true, false, false, false, false, false, false, false, false] rfl rfl (any_of HT_.out (by kernel_rfl)) (fun _ _ _ h => h) (Or.inl ⟨by rfl, ?_⟩) ?_ ?_
  rotate_left
  {
  intro w'
  go_simp
  with_reducible rfl }
  rotate_left
  {
  simp only [Act.put, sT, s0, s1, i64_w, i32_w]
  rfl }
  refine pure_ (i := 5) (N := some 47) (v := ?_) (a' := ?_) #[true, true, true, true, false, true, false, false, false, false, false, false] rfl rfl (any_of HT_.out (by kernel_rfl)) (fun _ _ _ h => h) (Or.inl ⟨by rfl, ?_⟩) ?_ ?_
  rotate_left
  {
  intro w'
  go_simp
  with_reducible rfl }
  rotate_left
  {
  simp only [Act.put, sT, s0, s1, i64_w, i32_w]
  rfl }
  refine pure_ (i := 6) (N := some 48) (v := ?_) (a' := ?_) #[true, true, true, true, false, true, true, false, false, false, false, false] rfl rfl (any_of HT_.out (by kernel_rfl)) (fun _ _ _ h => h) (Or.inl ⟨by rfl, ?_⟩) ?_ ?_
  rotate_left
  {
  intro w'
  go_simp
  with_reducible rfl }
  rotate_left
  {
  simp only [Act.put, sT, s0, s1, i64_w, i32_w]
  rfl }
  refine pure_ (i := 7) (N := some 49) (v := ?_) (a' := ?_) #[true, true, true, true, false, true, true, true, false, false, false, false] rfl rfl (any_of HT_.out (by kernel_rfl)) (fun _ _ _ h => h) (Or.inl ⟨by rfl, ?_⟩) ?_ ?_
  rotate_left
  {
  intro w'
  go_simp
  with_reducible rfl }
  rotate_left
  {
  simp only [Act.put, sT, s0, s1, i64_w, i32_w]
  rfl }
  refine pure_ (i := 8) (N := some 50) (v := ?_) (a' := ?_) #[true, true, true, true, false, true, true, true, true, false, false, false] rfl rfl (any_of HT_.out (by kernel_rfl)) (fun _ _ _ h => h) (Or.inl ⟨by rfl, ?_⟩) ?_ ?_
  rotate_left
  {
  intro w'
  go_simp
  with_reducible rfl }
  rotate_left
  {
  simp only [Act.put, sT, s0, s1, i64_w, i32_w]
  rfl }
  refine take_ (i := 4) (N := some 46) (v := ?_) (a' := ?_) #[true, true, true, true, true, true, true, true, true, false, false, false] rfl rfl (take_ofW HT_.out HW_.out (by kernel_rfl)) (fun _ _ _ h => h) (Or.inl ⟨by rfl, ?_⟩) hHeld ?_ ?_
  rotate_left
  {
  rintro w' ⟨s0, s1, s2, s3, s4, s5⟩
  go_simp
  with_reducible rfl }
  rotate_left
  {
  simp only [Act.put, sT, s0, s1, i64_w, i32_w]
  rfl }
  refine take_ (i := 9) (N := some 51) (v := ?_) (a' := ?_) #[true, true, true, true, true, true, true, true, true, true, false, false] rfl rfl (take_ofW HT_.out HW_.out (by kernel_rfl)) (fun _ _ _ h => h) (Or.inl ⟨by rfl, ?_⟩) hHeld ?_ ?_
  rotate_left
  {
  rintro w' ⟨s0, s1, s2, s3, s4, s5⟩
  go_simp
  with_reducible rfl }
  rotate_left
  {
  simp only [Act.put, sT, s0, s1, i64_w, i32_w]
  rfl }
  refine one_ (i := 10) (N := some 52) #[true, true, true, true, true, true, true, true, true, true, true, false] rfl rfl (one_of HT_.out (by kernel_rfl)) (by decide) (fun K hK => ?_)
  refine goes_ Try.func25 (by kernel_rfl) rfl #[.slice A215_2 ((rd_T62 l0 x5_1).f2).length c215_2, .slice A216_2 ((rd_T62 l1 x5_1).f2).length c216_2] (by rfl) rfl rfl (by (try simp only [List.map_toArray, List.map_cons, List.map_nil]); first | done | rfl | (simp only [List.length_drop, List.length_take]; rfl)) ?_
  with_reducible refine (hallmootref13_Undos.calls k1 _ _ ((rd_T62 l0 x5_1).f2) _ _ ((rd_T62 l1 x5_1).f2) t217 _ ?side1 ?side2 ?side3 ?side4 A9.out).mono ?_
  (case side1 => repeat (first | exact (Kd.C_below HR215_2.out HB.out) | (with_reducible refine Kd.C_alloc ?_ _) | (with_reducible refine Kd.C_drewN ?_ _) | (with_reducible refine Kd.C_drew ?_)))
  (case side2 => exact HC215_2.out)
  (case side3 => repeat (first | exact (Kd.C_below HR216_2.out HB.out) | (with_reducible refine Kd.C_alloc ?_ _) | (with_reducible refine Kd.C_drewN ?_ _) | (with_reducible refine Kd.C_drew ?_)))
  (case side4 => exact HC216_2.out)
  rintro e w24 ⟨rfl, hb⟩
  refine ⟨_, rfl, ?_⟩
  have n0_ := aS (below_step bb hb)
  clear HB
  have HB := n0_
  clear n0_
  (try clear hb)
  (try clear hb2)
  (try clear hk)
  (try clear hi)
  refine hK.out _ _ ⟨(cc HB.out hw215_0), (cc HB.out hw215_1), (cc HB.out hw215_2), (cc HB.out hw216_0), (cc HB.out hw216_1), (cc HB.out hw216_2)⟩ (fun hHeld => ?_)
  clear hK K
  refine norm_ (a' := ?_) ?_ ?_
  rotate_left
  {
  show Act.put _ (some 52) _ = _
  simp only [Act.put, sT, s0, s1, i64_w, i32_w]
  rfl }
  refine pure_ (i := 11) (N := some 8) (v := ?_) (a' := ?_) #[true, true, true, true, true, true, true, true, true, true, true, true] rfl rfl (any_of HT_.out (by kernel_rfl)) (fun _ _ _ h => h) (Or.inl ⟨by rfl, ?_⟩) ?_ ?_
  rotate_left
  {
  intro w'
  go_simp
  with_reducible rfl }
  rotate_left
  {
  simp only [Act.put, sT, s0, s1, i64_w, i32_w]
  rfl }
  refine done_ (done_of HT_.out (by kernel_rfl)) ?_
  try go_wp2
  go_ret
  exact ⟨by first | rfl | (simp [errW_none, errW_some] <;> rfl) | (simp [*, errW_none, errW_some] <;> rfl), by repeat (first | (with_reducible first | exact HB.out | apply below_alloc | apply pw_below_drewN | apply below_drew1) | exact HB.out)⟩ } }
  {
  replace c10 := Bool.eq_false_iff.mpr c10
  subst c10
  have H1 : (some false) = some r := by rw [if_neg (show ¬ (false = true) by decide)] at H; exact H
  clear H
  have H := H1
  clear H1
  obtain rfl := Option.some.inj H
  try go_wp2
  have n0_ := aS (below_drew1 HB.out)
  clear HB
  have HB := n0_
  clear n0_
  have p209 : 0 ≤ (x5_1 : Int) := dd
  have q209 : x5_1 < (l0.length : Int) := dd
  obtain ⟨ad209, A209_0, c209_0, A209_1, c209_1, A209_2, c209_2, e209, hx209_0, hx209_1, hx209_2, hl209_0, hi209_0, hl209_1, hi209_1, hl209_2, hi209_2⟩ := at_T62 HR0.out x5_1 p209 q209
  have hw209_2 := hx209_2
  have hw209_1 := hx209_1
  have hw209_0 := hx209_0
  cases e209
  replace hx209_0 := cc HB.out hx209_0
  replace hx209_1 := cc HB.out hx209_1
  replace hx209_2 := cc HB.out hx209_2
  have HR209_0 := aS hi209_0
  have HC209_0 := aS hl209_0
  clear hi209_0 hl209_0
  have HR209_1 := aS hi209_1
  have HC209_1 := aS hl209_1
  clear hi209_1 hl209_1
  have HR209_2 := aS hi209_2
  have HC209_2 := aS hl209_2
  clear hi209_2 hl209_2
  replace p209 := eq_true p209
  replace q209 := eq_true q209
  have p210 : 0 ≤ (x5_1 : Int) := dd
  have q210 : x5_1 < (l1.length : Int) := dd
  obtain ⟨ad210, A210_0, c210_0, A210_1, c210_1, A210_2, c210_2, e210, hx210_0, hx210_1, hx210_2, hl210_0, hi210_0, hl210_1, hi210_1, hl210_2, hi210_2⟩ := at_T62 HR1.out x5_1 p210 q210
  have hw210_2 := hx210_2
  have hw210_1 := hx210_1
  have hw210_0 := hx210_0
  cases e210
  replace hx210_0 := cc HB.out hx210_0
  replace hx210_1 := cc HB.out hx210_1
  replace hx210_2 := cc HB.out hx210_2
  have HR210_0 := aS hi210_0
  have HC210_0 := aS hl210_0
  clear hi210_0 hl210_0
  have HR210_1 := aS hi210_1
  have HC210_1 := aS hl210_1
  clear hi210_1 hl210_1
  have HR210_2 := aS hi210_2
  have HC210_2 := aS hl210_2
  clear hi210_2 hl210_2
  replace p210 := eq_true p210
  replace q210 := eq_true q210
  refine start_ (n := 12) (S := fun w' => w'.cell? (ad209.add ((x5_1).toNat * 3)) = some (.slice A209_0 ((rd_T62 l0 x5_1).f0).length c209_0) ∧ w'.cell? ⟨(ad209.add ((x5_1).toNat * 3)).block, (ad209.add ((x5_1).toNat * 3)).off + 1, none⟩ = some (.slice A209_1 ((rd_T62 l0 x5_1).f1).length c209_1) ∧ w'.cell? ⟨(ad209.add ((x5_1).toNat * 3)).block, (ad209.add ((x5_1).toNat * 3)).off + 2, none⟩ = some (.slice A209_2 ((rd_T62 l0 x5_1).f2).length c209_2) ∧ w'.cell? (ad210.add ((x5_1).toNat * 3)) = some (.slice A210_0 ((rd_T62 l1 x5_1).f0).length c210_0) ∧ w'.cell? ⟨(ad210.add ((x5_1).toNat * 3)).block, (ad210.add ((x5_1).toNat * 3)).off + 1, none⟩ = some (.slice A210_1 ((rd_T62 l1 x5_1).f1).length c210_1) ∧ w'.cell? ⟨(ad210.add ((x5_1).toNat * 3)).block, (ad210.add ((x5_1).toNat * 3)).off + 2, none⟩ = some (.slice A210_2 ((rd_T62 l1 x5_1).f2).length c210_2)) (ds := []) #[false, false, false, false, false, false, false, false, false, false, false, false] (by kernel_rfl) rfl rfl ⟨(cc HB.out hw209_0), (cc HB.out hw209_1), (cc HB.out hw209_2), (cc HB.out hw210_0), (cc HB.out hw210_1), (cc HB.out hw210_2)⟩ (fun hHeld => ?_); refine with_tabW hallmootref13_Same.tab6 hallmootref13_Same.bits6 (fun HT_ HW_ => ?_)
  generalize wr.drew = w25 at HB HR209_0 HR209_1 HR209_2 HR210_0 HR210_1 HR210_2 hx209_0 hx209_1 hx209_2 hx210_0 hx210_1 hx210_2 hHeld ⊢
  refine pure_ (i := 0) (N := some 20) (v := ?_) (a' := ?_) #[true, false, false, false, false, false, false, false, false, false, false, false] rfl rfl (any_of HT_.out (by kernel_rfl)) (fun _ _ _ h => h) (Or.inl ⟨by rfl, ?_⟩) ?_ ?_
  rotate_left
  {
  intro w'
  go_simp
  with_reducible rfl }
  rotate_left
  {
  simp only [Act.put, sT, s0, s1, i64_w, i32_w]
  rfl }
  refine pure_ (i := 1) (N := some 21) (v := ?_) (a' := ?_) #[true, true, false, false, false, false, false, false, false, false, false, false] rfl rfl (any_of HT_.out (by kernel_rfl)) (fun _ _ _ h => h) (Or.inl ⟨by rfl, ?_⟩) ?_ ?_
  rotate_left
  {
  intro w'
  go_simp
  with_reducible rfl }
  rotate_left
  {
  simp only [Act.put, sT, s0, s1, i64_w, i32_w]
  rfl }
  refine pure_ (i := 2) (N := some 22) (v := ?_) (a' := ?_) #[true, true, true, false, false, false, false, false, false, false, false, false] rfl rfl (any_of HT_.out (by kernel_rfl)) (fun _ _ _ h => h) (Or.inl ⟨by rfl, ?_⟩) ?_ ?_
  rotate_left
  {
  intro w'
  go_simp
  with_reducible rfl }
  rotate_left
  {
  simp only [Act.put, sT, s0, s1, i64_w, i32_w]
  rfl }
  refine pure_ (i := 3) (N := some 23) (v := ?_) (a' := ?_) #[true, true, true, true, false, false, false, false, false, false, false, false] rfl rfl (any_of HT_.out (by kernel_rfl)) (fun _ _ _ h => h) (Or.inl ⟨by rfl, ?_⟩) ?_ ?_
  rotate_left
  {
  intro w'
  go_simp
  with_reducible rfl }
  rotate_left
  {
  simp only [Act.put, sT, s0, s1, i64_w, i32_w]
  rfl }
  refine pure_ (i := 5) (N := some 25) (v := ?_) (a' := ?_) #[true, true, true, true, false, true, false, false, false, false, false, false] rfl rfl (any_of HT_.out (by kernel_rfl)) (fun _ _ _ h => h) (Or.inl ⟨by rfl, ?_⟩) ?_ ?_
  rotate_left
  {
  intro w'
  go_simp
  with_reducible rfl }
  rotate_left
  {
  simp only [Act.put, sT, s0, s1, i64_w, i32_w]
  rfl }
  refine pure_ (i := 6) (N := some 26) (v := ?_) (a' := ?_) #[true, true, true, true, false, true, true, false, false, false, false, false] rfl rfl (any_of HT_.out (by kernel_rfl)) (fun _ _ _ h => h) (Or.inl ⟨by rfl, ?_⟩) ?_ ?_
  rotate_left
  {
  intro w'
  go_simp
  with_reducible rfl }
  rotate_left
  {
  simp only [Act.put, sT, s0, s1, i64_w, i32_w]
  rfl }
  refine pure_ (i := 7) (N := some 27) (v := ?_) (a' := ?_) #[true, true, true, true, false, true, true, true, false, false, false, false] rfl rfl (any_of HT_.out (by kernel_rfl)) (fun _ _ _ h => h) (Or.inl ⟨by rfl, ?_⟩) ?_ ?_
  rotate_left
  {
  intro w'
  go_simp
  with_reducible rfl }
  rotate_left
  {
  simp only [Act.put, sT, s0, s1, i64_w, i32_w]
  rfl }
  refine pure_ (i := 8) (N := some 28) (v := ?_) (a' := ?_) #[true, true, true, true, false, true, true, true, true, false, false, false] rfl rfl (any_of HT_.out (by kernel_rfl)) (fun _ _ _ h => h) (Or.inl ⟨by rfl, ?_⟩) ?_ ?_
  rotate_left
  {
  intro w'
  go_simp
  with_reducible rfl }
  rotate_left
  {
  simp only [Act.put, sT, s0, s1, i64_w, i32_w]
  rfl }
  refine take_ (i := 4) (N := some 24) (v := ?_) (a' := ?_) #[true, true, true, true, true, true, true, true, true, false, false, false] rfl rfl (take_ofW HT_.out HW_.out (by kernel_rfl)) (fun _ _ _ h => h) (Or.inl ⟨by rfl, ?_⟩) hHeld ?_ ?_
  rotate_left
  {
  rintro w' ⟨s0, s1, s2, s3, s4, s5⟩
  go_simp
  with_reducible rfl }
  rotate_left
  {
  simp only [Act.put, sT, s0, s1, i64_w, i32_w]
  rfl }
  refine take_ (i := 9) (N := some 29) (v := ?_) (a' := ?_) #[true, true, true, true, true, true, true, true, true, true, false, false] rfl rfl (take_ofW HT_.out HW_.out (by kernel_rfl)) (fun _ _ _ h => h) (Or.inl ⟨by rfl, ?_⟩) hHeld ?_ ?_
  rotate_left
  {
  rintro w' ⟨s0, s1, s2, s3, s4, s5⟩
  go_simp
  with_reducible rfl }
  rotate_left
  {
  simp only [Act.put, sT, s0, s1, i64_w, i32_w]
  rfl }
  refine one_ (i := 10) (N := some 30) #[true, true, true, true, true, true, true, true, true, true, true, false] rfl rfl (one_of HT_.out (by kernel_rfl)) (by decide) (fun K hK => ?_)
  refine goes_ Try.func30 (by kernel_rfl) rfl #[.slice A209_0 ((rd_T62 l0 x5_1).f0).length c209_0, .slice A210_0 ((rd_T62 l1 x5_1).f0).length c210_0] (by rfl) rfl rfl (by (try simp only [List.map_toArray, List.map_cons, List.map_nil]); first | done | rfl | (simp only [List.length_drop, List.length_take]; rfl)) ?_
  with_reducible refine (hallmootref13_Seens.calls k1 _ _ ((rd_T62 l0 x5_1).f0) _ _ ((rd_T62 l1 x5_1).f0) false _ ?side1 ?side2 ?side3 ?side4 A7.out).mono ?_
  (case side1 => repeat (first | exact (Kd.C_below HR209_0.out HB.out) | (with_reducible refine Kd.C_alloc ?_ _) | (with_reducible refine Kd.C_drewN ?_ _) | (with_reducible refine Kd.C_drew ?_)))
  (case side2 => exact HC209_0.out)
  (case side3 => repeat (first | exact (Kd.C_below HR210_0.out HB.out) | (with_reducible refine Kd.C_alloc ?_ _) | (with_reducible refine Kd.C_drewN ?_ _) | (with_reducible refine Kd.C_drew ?_)))
  (case side4 => exact HC210_0.out)
  rintro e w' ⟨rfl, ⟨nd, rfl⟩⟩
  refine ⟨_, rfl, ?_⟩
  refine hK.out _ _ ⟨(cc HB.out hw209_0), (cc HB.out hw209_1), (cc HB.out hw209_2), (cc HB.out hw210_0), (cc HB.out hw210_1), (cc HB.out hw210_2)⟩ (fun hHeld => ?_)
  clear hK K
  refine norm_ (a' := ?_) ?_ ?_
  rotate_left
  {
  show Act.put _ (some 30) _ = _
  simp only [Act.put, sT, s0, s1, i64_w, i32_w]
  rfl }
  refine pure_ (i := 11) (N := some 6) (v := ?_) (a' := ?_) #[true, true, true, true, true, true, true, true, true, true, true, true] rfl rfl (any_of HT_.out (by kernel_rfl)) (fun _ _ _ h => h) (Or.inl ⟨by rfl, ?_⟩) ?_ ?_
  rotate_left
  {
  intro w'
  go_simp
  with_reducible rfl }
  rotate_left
  {
  simp only [Act.put, sT, s0, s1, i64_w, i32_w]
  rfl }
  refine done_ (done_of HT_.out (by kernel_rfl)) ?_
  try go_wp2
  (try (rw [drewN_self w25]; generalize hq_ : World.drewN w25 _ = w25; have n0_ : Aside0 (Below w.heap.size w w25) := ⟨by rw [← hq_]; exact bb⟩; clear HB hq_; have HB := n0_; clear n0_))
  have n0_ := aS (below_drew1 HB.out)
  clear HB
  have HB := n0_
  clear n0_
  have p212 : 0 ≤ (x5_1 : Int) := dd
  have q212 : x5_1 < (l0.length : Int) := dd
  obtain ⟨ad212, A212_0, c212_0, A212_1, c212_1, A212_2, c212_2, e212, hx212_0, hx212_1, hx212_2, hl212_0, hi212_0, hl212_1, hi212_1, hl212_2, hi212_2⟩ := at_T62 HR0.out x5_1 p212 q212
  have hw212_2 := hx212_2
  have hw212_1 := hx212_1
  have hw212_0 := hx212_0
  obtain rfl : ad209 = ad212 := (by injection e212)
  replace hx212_0 := cc HB.out hx212_0
  replace hx212_1 := cc HB.out hx212_1
  replace hx212_2 := cc HB.out hx212_2
  have HR212_0 := aS hi212_0
  have HC212_0 := aS hl212_0
  clear hi212_0 hl212_0
  have HR212_1 := aS hi212_1
  have HC212_1 := aS hl212_1
  clear hi212_1 hl212_1
  have HR212_2 := aS hi212_2
  have HC212_2 := aS hl212_2
  clear hi212_2 hl212_2
  replace p212 := eq_true p212
  replace q212 := eq_true q212
  have p213 : 0 ≤ (x5_1 : Int) := dd
  have q213 : x5_1 < (l1.length : Int) := dd
  obtain ⟨ad213, A213_0, c213_0, A213_1, c213_1, A213_2, c213_2, e213, hx213_0, hx213_1, hx213_2, hl213_0, hi213_0, hl213_1, hi213_1, hl213_2, hi213_2⟩ := at_T62 HR1.out x5_1 p213 q213
  have hw213_2 := hx213_2
  have hw213_1 := hx213_1
  have hw213_0 := hx213_0
  obtain rfl : ad210 = ad213 := (by injection e213)
  replace hx213_0 := cc HB.out hx213_0
  replace hx213_1 := cc HB.out hx213_1
  replace hx213_2 := cc HB.out hx213_2
  have HR213_0 := aS hi213_0
  have HC213_0 := aS hl213_0
  clear hi213_0 hl213_0
  have HR213_1 := aS hi213_1
  have HC213_1 := aS hl213_1
  clear hi213_1 hl213_1
  have HR213_2 := aS hi213_2
  have HC213_2 := aS hl213_2
  clear hi213_2 hl213_2
  replace p213 := eq_true p213
  replace q213 := eq_true q213
  refine start_ (n := 12) (S := fun w' => w'.cell? (ad209.add ((x5_1).toNat * 3)) = some (.slice A212_0 ((rd_T62 l0 x5_1).f0).length c212_0) ∧ w'.cell? ⟨(ad209.add ((x5_1).toNat * 3)).block, (ad209.add ((x5_1).toNat * 3)).off + 1, none⟩ = some (.slice A212_1 ((rd_T62 l0 x5_1).f1).length c212_1) ∧ w'.cell? ⟨(ad209.add ((x5_1).toNat * 3)).block, (ad209.add ((x5_1).toNat * 3)).off + 2, none⟩ = some (.slice A212_2 ((rd_T62 l0 x5_1).f2).length c212_2) ∧ w'.cell? (ad210.add ((x5_1).toNat * 3)) = some (.slice A213_0 ((rd_T62 l1 x5_1).f0).length c213_0) ∧ w'.cell? ⟨(ad210.add ((x5_1).toNat * 3)).block, (ad210.add ((x5_1).toNat * 3)).off + 1, none⟩ = some (.slice A213_1 ((rd_T62 l1 x5_1).f1).length c213_1) ∧ w'.cell? ⟨(ad210.add ((x5_1).toNat * 3)).block, (ad210.add ((x5_1).toNat * 3)).off + 2, none⟩ = some (.slice A213_2 ((rd_T62 l1 x5_1).f2).length c213_2)) (ds := []) #[false, false, false, false, false, false, false, false, false, false, false, false] (by kernel_rfl) rfl rfl ⟨(cc HB.out hw212_0), (cc HB.out hw212_1), (cc HB.out hw212_2), (cc HB.out hw213_0), (cc HB.out hw213_1), (cc HB.out hw213_2)⟩ (fun hHeld => ?_); refine with_tabW hallmootref13_Same.tab7 hallmootref13_Same.bits7 (fun HT_ HW_ => ?_)
  generalize w25.drew = w26 at HB HR212_0 HR212_1 HR212_2 HR213_0 HR213_1 HR213_2 hx212_0 hx212_1 hx212_2 hx213_0 hx213_1 hx213_2 hHeld ⊢
  refine pure_ (i := 0) (N := some 31) (v := ?_) (a' := ?_) #[true, false, false, false, false, false, false, false, false, false, false, false] rfl rfl (any_of HT_.out (by kernel_rfl)) (fun _ _ _ h => h) (Or.inl ⟨by rfl, ?_⟩) ?_ ?_
  rotate_left
  {
  intro w'
  go_simp
  with_reducible rfl }
  rotate_left
  {
  simp only [Act.put, sT, s0, s1, i64_w, i32_w]
  rfl }
  refine pure_ (i := 1) (N := some 32) (v := ?_) (a' := ?_) #[true, true, false, false, false, false, false, false, false, false, false, false] rfl rfl (any_of HT_.out (by kernel_rfl)) (fun _ _ _ h => h) (Or.inl ⟨by rfl, ?_⟩) ?_ ?_
  rotate_left
  {
  intro w'
  go_simp
  with_reducible rfl }
  rotate_left
  {
  simp only [Act.put, sT, s0, s1, i64_w, i32_w]
  rfl }
  refine pure_ (i := 2) (N := some 33) (v := ?_) (a' := ?_) #[true, true, true, false, false, false, false, false, false, false, false, false] rfl rfl (any_of HT_.out (by kernel_rfl)) (fun _ _ _ h => h) (Or.inl ⟨by rfl, ?_⟩) ?_ ?_
  rotate_left
  {
  intro w'
  go_simp
  with_reducible rfl }
  rotate_left
  {
  simp only [Act.put, sT, s0, s1, i64_w, i32_w]
  rfl }
  refine pure_ (i := 3) (N := some 34) (v := ?_) (a' := ?_) #[true, true, true, true, false, false, false, false, false, false, false, false] rfl rfl (any_of HT_.out (by kernel_rfl)) (fun _ _ _ h => h) (Or.inl ⟨by rfl, ?_⟩) ?_ ?_
  rotate_left
  {
  intro w'
  go_simp
  with_reducible rfl }
  rotate_left
  {
  simp only [Act.put, sT, s0, s1, i64_w, i32_w]
  rfl }
  refine pure_ (i := 5) (N := some 36) (v := ?_) (a' := ?_) #[true, true, true, true, false, true, false, false, false, false, false, false] rfl rfl (any_of HT_.out (by kernel_rfl)) (fun _ _ _ h => h) (Or.inl ⟨by rfl, ?_⟩) ?_ ?_
  rotate_left
  {
  intro w'
  go_simp
  with_reducible rfl }
  rotate_left
  {
  simp only [Act.put, sT, s0, s1, i64_w, i32_w]
  rfl }
  refine pure_ (i := 6) (N := some 37) (v := ?_) (a' := ?_) #[true, true, true, true, false, true, true, false, false, false, false, false] rfl rfl (any_of HT_.out (by kernel_rfl)) (fun _ _ _ h => h) (Or.inl ⟨by rfl, ?_⟩) ?_ ?_
  rotate_left
  {
  intro w'
  go_simp
  with_reducible rfl }
  rotate_left
  {
  simp only [Act.put, sT, s0, s1, i64_w, i32_w]
  rfl }
  refine pure_ (i := 7) (N := some 38) (v := ?_) (a' := ?_) #[true, true, true, true, false, true, true, true, false, false, false, false] rfl rfl (any_of HT_.out (by kernel_rfl)) (fun _ _ _ h => h) (Or.inl ⟨by rfl, ?_⟩) ?_ ?_
  rotate_left
  {
  intro w'
  go_simp
  with_reducible rfl }
  rotate_left
  {
  simp only [Act.put, sT, s0, s1, i64_w, i32_w]
  rfl }
  refine pure_ (i := 8) (N := some 39) (v := ?_) (a' := ?_) #[true, true, true, true, false, true, true, true, true, false, false, false] rfl rfl (any_of HT_.out (by kernel_rfl)) (fun _ _ _ h => h) (Or.inl ⟨by rfl, ?_⟩) ?_ ?_
  rotate_left
  {
  intro w'
  go_simp
  with_reducible rfl }
  rotate_left
  {
  simp only [Act.put, sT, s0, s1, i64_w, i32_w]
  rfl }
  refine take_ (i := 4) (N := some 35) (v := ?_) (a' := ?_) #[true, true, true, true, true, true, true, true, true, false, false, false] rfl rfl (take_ofW HT_.out HW_.out (by kernel_rfl)) (fun _ _ _ h => h) (Or.inl ⟨by rfl, ?_⟩) hHeld ?_ ?_
  rotate_left
  {
  rintro w' ⟨s0, s1, s2, s3, s4, s5⟩
  go_simp
  with_reducible rfl }
  rotate_left
  {
  simp only [Act.put, sT, s0, s1, i64_w, i32_w]
  rfl }
  refine take_ (i := 9) (N := some 40) (v := ?_) (a' := ?_) #[true, true, true, true, true, true, true, true, true, true, false, false] rfl rfl (take_ofW HT_.out HW_.out (by kernel_rfl)) (fun _ _ _ h => h) (Or.inl ⟨by rfl, ?_⟩) hHeld ?_ ?_
  rotate_left
  {
  rintro w' ⟨s0, s1, s2, s3, s4, s5⟩
  go_simp
  with_reducible rfl }
  rotate_left
  {
  simp only [Act.put, sT, s0, s1, i64_w, i32_w]
  rfl }
  refine one_ (i := 10) (N := some 41) #[true, true, true, true, true, true, true, true, true, true, true, false] rfl rfl (one_of HT_.out (by kernel_rfl)) (by decide) (fun K hK => ?_)
  refine goes_ Try.func31 (by kernel_rfl) rfl #[.slice A212_1 ((rd_T62 l0 x5_1).f1).length c212_1, .slice A213_1 ((rd_T62 l1 x5_1).f1).length c213_1] (by rfl) rfl rfl (by (try simp only [List.map_toArray, List.map_cons, List.map_nil]); first | done | rfl | (simp only [List.length_drop, List.length_take]; rfl)) ?_
  with_reducible refine (hallmootref13_Writes.calls k1 _ _ ((rd_T62 l0 x5_1).f1) _ _ ((rd_T62 l1 x5_1).f1) t214 _ ?side1 ?side2 ?side3 ?side4 A8.out).mono ?_
  (case side1 => repeat (first | exact (Kd.C_below HR212_1.out HB.out) | (with_reducible refine Kd.C_alloc ?_ _) | (with_reducible refine Kd.C_drewN ?_ _) | (with_reducible refine Kd.C_drew ?_)))
  (case side2 => exact HC212_1.out)
  (case side3 => repeat (first | exact (Kd.C_below HR213_1.out HB.out) | (with_reducible refine Kd.C_alloc ?_ _) | (with_reducible refine Kd.C_drewN ?_ _) | (with_reducible refine Kd.C_drew ?_)))
  (case side4 => exact HC213_1.out)
  rintro e w' ⟨rfl, ⟨nd, rfl⟩⟩
  refine ⟨_, rfl, ?_⟩
  refine hK.out _ _ ⟨(cc HB.out hw212_0), (cc HB.out hw212_1), (cc HB.out hw212_2), (cc HB.out hw213_0), (cc HB.out hw213_1), (cc HB.out hw213_2)⟩ (fun hHeld => ?_)
  clear hK K
  refine norm_ (a' := ?_) ?_ ?_
  rotate_left
  {
  show Act.put _ (some 41) _ = _
  simp only [Act.put, sT, s0, s1, i64_w, i32_w]
  rfl }
  refine pure_ (i := 11) (N := some 7) (v := ?_) (a' := ?_) #[true, true, true, true, true, true, true, true, true, true, true, true] rfl rfl (any_of HT_.out (by kernel_rfl)) (fun _ _ _ h => h) (Or.inl ⟨by rfl, ?_⟩) ?_ ?_
  rotate_left
  {
  intro w'
  go_simp
  with_reducible rfl }
  rotate_left
  {
  simp only [Act.put, sT, s0, s1, i64_w, i32_w]
  rfl }
  refine done_ (done_of HT_.out (by kernel_rfl)) ?_
  try go_wp2
  (try (rw [drewN_self w26]; generalize hq_ : World.drewN w26 _ = w26; have n0_ : Aside0 (Below w.heap.size w w26) := ⟨by rw [← hq_]; exact bb⟩; clear HB hq_; have HB := n0_; clear n0_))
  have n0_ := aS (below_drew1 HB.out)
  clear HB
  have HB := n0_
  clear n0_
  have p215 : 0 ≤ (x5_1 : Int) := dd
  have q215 : x5_1 < (l0.length : Int) := dd
  obtain ⟨ad215, A215_0, c215_0, A215_1, c215_1, A215_2, c215_2, e215, hx215_0, hx215_1, hx215_2, hl215_0, hi215_0, hl215_1, hi215_1, hl215_2, hi215_2⟩ := at_T62 HR0.out x5_1 p215 q215
  have hw215_2 := hx215_2
  have hw215_1 := hx215_1
  have hw215_0 := hx215_0
  obtain rfl : ad209 = ad215 := (by injection e215)
  replace hx215_0 := cc HB.out hx215_0
  replace hx215_1 := cc HB.out hx215_1
  replace hx215_2 := cc HB.out hx215_2
  have HR215_0 := aS hi215_0
  have HC215_0 := aS hl215_0
  clear hi215_0 hl215_0
  have HR215_1 := aS hi215_1
  have HC215_1 := aS hl215_1
  clear hi215_1 hl215_1
  have HR215_2 := aS hi215_2
  have HC215_2 := aS hl215_2
  clear hi215_2 hl215_2
  replace p215 := eq_true p215
  replace q215 := eq_true q215
  have p216 : 0 ≤ (x5_1 : Int) := dd
  have q216 : x5_1 < (l1.length : Int) := dd
  obtain ⟨ad216, A216_0, c216_0, A216_1, c216_1, A216_2, c216_2, e216, hx216_0, hx216_1, hx216_2, hl216_0, hi216_0, hl216_1, hi216_1, hl216_2, hi216_2⟩ := at_T62 HR1.out x5_1 p216 q216
  have hw216_2 := hx216_2
  have hw216_1 := hx216_1
  have hw216_0 := hx216_0
  obtain rfl : ad210 = ad216 := (by injection e216)
  replace hx216_0 := cc HB.out hx216_0
  replace hx216_1 := cc HB.out hx216_1
  replace hx216_2 := cc HB.out hx216_2
  have HR216_0 := aS hi216_0
  have HC216_0 := aS hl216_0
  clear hi216_0 hl216_0
  have HR216_1 := aS hi216_1
  have HC216_1 := aS hl216_1
  clear hi216_1 hl216_1
  have HR216_2 := aS hi216_2
  have HC216_2 := aS hl216_2
  clear hi216_2 hl216_2
  replace p216 := eq_true p216
  replace q216 := eq_true q216
  refine start_ (n := 12) (S := fun w' => w'.cell? (ad209.add ((x5_1).toNat * 3)) = some (.slice A215_0 ((rd_T62 l0 x5_1).f0).length c215_0) ∧ w'.cell? ⟨(ad209.add ((x5_1).toNat * 3)).block, (ad209.add ((x5_1).toNat * 3)).off + 1, none⟩ = some (.slice A215_1 ((rd_T62 l0 x5_1).f1).length c215_1) ∧ w'.cell? ⟨(ad209.add ((x5_1).toNat * 3)).block, (ad209.add ((x5_1).toNat * 3)).off + 2, none⟩ = some (.slice A215_2 ((rd_T62 l0 x5_1).f2).length c215_2) ∧ w'.cell? (ad210.add ((x5_1).toNat * 3)) = some (.slice A216_0 ((rd_T62 l1 x5_1).f0).length c216_0) ∧ w'.cell? ⟨(ad210.add ((x5_1).toNat * 3)).block, (ad210.add ((x5_1).toNat * 3)).off + 1, none⟩ = some (.slice A216_1 ((rd_T62 l1 x5_1).f1).length c216_1) ∧ w'.cell? ⟨(ad210.add ((x5_1).toNat * 3)).block, (ad210.add ((x5_1).toNat * 3)).off + 2, none⟩ = some (.slice A216_2 ((rd_T62 l1 x5_1).f2).length c216_2)) (ds := []) #[false, false, false, false, false, false, false, false, false, false, false, false] (by kernel_rfl) rfl rfl ⟨(cc HB.out hw215_0), (cc HB.out hw215_1), (cc HB.out hw215_2), (cc HB.out hw216_0), (cc HB.out hw216_1), (cc HB.out hw216_2)⟩ (fun hHeld => ?_); refine with_tabW hallmootref13_Same.tab8 hallmootref13_Same.bits8 (fun HT_ HW_ => ?_)
  generalize w26.drew = w27 at HB HR215_0 HR215_1 HR215_2 HR216_0 HR216_1 HR216_2 hx215_0 hx215_1 hx215_2 hx216_0 hx216_1 hx216_2 hHeld ⊢
  refine pure_ (i := 0) (N := some 42) (v := ?_) (a' := ?_) #[true, false, false, false, false, false, false, false, false, false, false, false] rfl rfl (any_of HT_.out (by kernel_rfl)) (fun _ _ _ h => h) (Or.inl ⟨by rfl, ?_⟩) ?_ ?_
  rotate_left
  {
  intro w'
  go_simp
  with_reducible rfl }
  rotate_left
  {
  simp only [Act.put, sT, s0, s1, i64_w, i32_w]
  rfl }
  refine pure_ (i := 1) (N := some 43) (v := ?_) (a' := ?_) #[true, true, false, false, false, false, false, false, false, false, false, false] rfl rfl (any_of HT_.out (by kernel_rfl)) (fun _ _ _ h => h) (Or.inl ⟨by rfl, ?_⟩) ?_ ?_
  rotate_left
  {
  intro w'
  go_simp
  with_reducible rfl }
  rotate_left
  {
  simp only [Act.put, sT, s0, s1, i64_w, i32_w]
  rfl }
  refine pure_ (i := 2) (N := some 44) (v := ?_) (a' := ?_) #[true, true, true, false, false, false, false, false, false, false, false, false] rfl rfl (any_of HT_.out (by kernel_rfl)) (fun _ _ _ h => h) (Or.inl ⟨by rfl, ?_⟩) ?_ ?_
  rotate_left
  {
  intro w'
  go_simp
  with_reducible rfl }
  rotate_left
  {
  simp only [Act.put, sT, s0, s1, i64_w, i32_w]
  rfl }
  refine pure_ (i := 3) (N := some 45) (v := ?_) (a' := ?_) #[true, true, true, true, false, false, false, false, false, false, false, false] rfl rfl (any_of HT_.out (by kernel_rfl)) (fun _ _ _ h => h) (Or.inl ⟨by rfl, ?_⟩) ?_ ?_
  rotate_left
  {
  intro w'
  go_simp
  with_reducible rfl }
  rotate_left
  {
  simp only [Act.put, sT, s0, s1, i64_w, i32_w]
  rfl }
  refine pure_ (i := 5) (N := some 47) (v := ?_) (a' := ?_) #[true, true, true, true, false, true, false, false, false, false, false, false] rfl rfl (any_of HT_.out (by kernel_rfl)) (fun _ _ _ h => h) (Or.inl ⟨by rfl, ?_⟩) ?_ ?_
  rotate_left
  {
  intro w'
  go_simp
  with_reducible rfl }
  rotate_left
  {
  simp only [Act.put, sT, s0, s1, i64_w, i32_w]
  rfl }
  refine pure_ (i := 6) (N := some 48) (v := ?_) (a' := ?_) #[true, true, true, true, false, true, true, false, false, false, false, false] rfl rfl (any_of HT_.out (by kernel_rfl)) (fun _ _ _ h => h) (Or.inl ⟨by rfl, ?_⟩) ?_ ?_
  rotate_left
  {
  intro w'
  go_simp
  with_reducible rfl }
  rotate_left
  {
  simp only [Act.put, sT, s0, s1, i64_w, i32_w]
  rfl }
  refine pure_ (i := 7) (N := some 49) (v := ?_) (a' := ?_) #[true, true, true, true, false, true, true, true, false, false, false, false] rfl rfl (any_of HT_.out (by kernel_rfl)) (fun _ _ _ h => h) (Or.inl ⟨by rfl, ?_⟩) ?_ ?_
  rotate_left
  {
  intro w'
  go_simp
  with_reducible rfl }
  rotate_left
  {
  simp only [Act.put, sT, s0, s1, i64_w, i32_w]
  rfl }
  refine pure_ (i := 8) (N := some 50) (v := ?_) (a' := ?_) #[true, true, true, true, false, true, true, true, true, false, false, false] rfl rfl (any_of HT_.out (by kernel_rfl)) (fun _ _ _ h => h) (Or.inl ⟨by rfl, ?_⟩) ?_ ?_
  rotate_left
  {
  intro w'
  go_simp
  with_reducible rfl }
  rotate_left
  {
  simp only [Act.put, sT, s0, s1, i64_w, i32_w]
  rfl }
  refine take_ (i := 4) (N := some 46) (v := ?_) (a' := ?_) #[true, true, true, true, true, true, true, true, true, false, false, false] rfl rfl (take_ofW HT_.out HW_.out (by kernel_rfl)) (fun _ _ _ h => h) (Or.inl ⟨by rfl, ?_⟩) hHeld ?_ ?_
  rotate_left
  {
  rintro w' ⟨s0, s1, s2, s3, s4, s5⟩
  go_simp
  with_reducible rfl }
  rotate_left
  {
  simp only [Act.put, sT, s0, s1, i64_w, i32_w]
  rfl }
  refine take_ (i := 9) (N := some 51) (v := ?_) (a' := ?_) #[true, true, true, true, true, true, true, true, true, true, false, false] rfl rfl (take_ofW HT_.out HW_.out (by kernel_rfl)) (fun _ _ _ h => h) (Or.inl ⟨by rfl, ?_⟩) hHeld ?_ ?_
  rotate_left
  {
  rintro w' ⟨s0, s1, s2, s3, s4, s5⟩
  go_simp
  with_reducible rfl }
  rotate_left
  {
  simp only [Act.put, sT, s0, s1, i64_w, i32_w]
  rfl }
  refine one_ (i := 10) (N := some 52) #[true, true, true, true, true, true, true, true, true, true, true, false] rfl rfl (one_of HT_.out (by kernel_rfl)) (by decide) (fun K hK => ?_)
  refine goes_ Try.func25 (by kernel_rfl) rfl #[.slice A215_2 ((rd_T62 l0 x5_1).f2).length c215_2, .slice A216_2 ((rd_T62 l1 x5_1).f2).length c216_2] (by rfl) rfl rfl (by (try simp only [List.map_toArray, List.map_cons, List.map_nil]); first | done | rfl | (simp only [List.length_drop, List.length_take]; rfl)) ?_
  with_reducible refine (hallmootref13_Undos.calls k1 _ _ ((rd_T62 l0 x5_1).f2) _ _ ((rd_T62 l1 x5_1).f2) t217 _ ?side1 ?side2 ?side3 ?side4 A9.out).mono ?_
  (case side1 => repeat (first | exact (Kd.C_below HR215_2.out HB.out) | (with_reducible refine Kd.C_alloc ?_ _) | (with_reducible refine Kd.C_drewN ?_ _) | (with_reducible refine Kd.C_drew ?_)))
  (case side2 => exact HC215_2.out)
  (case side3 => repeat (first | exact (Kd.C_below HR216_2.out HB.out) | (with_reducible refine Kd.C_alloc ?_ _) | (with_reducible refine Kd.C_drewN ?_ _) | (with_reducible refine Kd.C_drew ?_)))
  (case side4 => exact HC216_2.out)
  rintro e w28 ⟨rfl, hb⟩
  refine ⟨_, rfl, ?_⟩
  have n0_ := aS (below_step bb hb)
  clear HB
  have HB := n0_
  clear n0_
  (try clear hb)
  (try clear hb2)
  (try clear hk)
  (try clear hi)
  refine hK.out _ _ ⟨(cc HB.out hw215_0), (cc HB.out hw215_1), (cc HB.out hw215_2), (cc HB.out hw216_0), (cc HB.out hw216_1), (cc HB.out hw216_2)⟩ (fun hHeld => ?_)
  clear hK K
  refine norm_ (a' := ?_) ?_ ?_
  rotate_left
  {
  show Act.put _ (some 52) _ = _
  simp only [Act.put, sT, s0, s1, i64_w, i32_w]
  rfl }
  refine pure_ (i := 11) (N := some 8) (v := ?_) (a' := ?_) #[true, true, true, true, true, true, true, true, true, true, true, true] rfl rfl (any_of HT_.out (by kernel_rfl)) (fun _ _ _ h => h) (Or.inl ⟨by rfl, ?_⟩) ?_ ?_
  rotate_left
  {
  intro w'
  go_simp
  with_reducible rfl }
  rotate_left
  {
  simp only [Act.put, sT, s0, s1, i64_w, i32_w]
  rfl }
  refine done_ (done_of HT_.out (by kernel_rfl)) ?_
  try go_wp2
  go_ret
  exact ⟨by first | rfl | (simp [errW_none, errW_some] <;> rfl) | (simp [*, errW_none, errW_some] <;> rfl), by repeat (first | (with_reducible first | exact HB.out | apply below_alloc | apply pw_below_drewN | apply below_drew1) | exact HB.out)⟩ } }
  {
  rw [if_neg c6] at H
  exact absurd H (by simp) } }
  {
  rw [if_neg c5] at H
  exact absurd H (by simp) } }
  {
  rw [if_neg c4] at H
  have c4b0 : decide (x5_1 < (l0.length : Int)) = false := decide_eq_false c4
  clear c4
  obtain rfl := Option.some.inj H
  go_wp2
  go_ret
  exact ⟨by first | rfl | (simp [errW_none, errW_some] <;> rfl) | (simp [*, errW_none, errW_some] <;> rfl), by repeat (first | (with_reducible first | exact HB.out | apply below_alloc | apply pw_below_drewN | apply below_drew1) | exact HB.out)⟩ } } }
 {
 rw [if_neg c3] at H
 have c3b0 : ((l0.length : Int) == (l1.length : Int)) = false := beq_eq_false_iff_ne.mpr c3
 have c3b1 : ((l0.length : Int) != (l1.length : Int)) = true := bne_iff_ne.mpr c3
 have c3b2 : (l0.length == l1.length) = false := by first | simpa using c3 | (simp at c3 ⊢; omega)
 obtain rfl := Option.some.inj H
 go_enter Try.func19, Try.ntmps19
 go_wp2
 go_ret
 exact ⟨by first | rfl | (simp [errW_none, errW_some] <;> rfl) | (simp [*, errW_none, errW_some] <;> rfl), by repeat (first | (with_reducible first | exact HB.out | apply below_alloc | apply pw_below_drewN | apply below_drew1) | exact HB.out)⟩ }

end Go.Proofs.Ytfojpobblebigaa.P
