-- Written by pp.py (this session's program over the kit's printer): functions, contracts. Not trusted: Lean checks it.
import Derived.Test.YtfojpobblebigaaYM0
import Derived.Test.YtfojpobblebigaaPx9
namespace Go.Proofs.Ytfojpobblebigaa.P
open Go.RowKit Go.Proofs.YtfojpobblebigaaW.PrintWords Go.Proofs.YtfojpobblebigaaW.PrintLast Go.Proofs.YtfojpobblebigaaW.PrintMore
attribute [local go_sem] max2_int min2_int max_two min_two max_three min_three max_four min_four   -- for this text's walks alone
set_option linter.unusedVariables false
set_option linter.unusedSimpArgs false

/-! ### hallmootref13_Undos: function 25 -/
def hallmootref13_Undos.l0 : Nat → List (S50) → List (S50) → Int → Option (Bool)
  | 0, _, _, _ => none
  | k + 1, x0, x1, x5 => if x5 < (x0.length : Int) then (if 0 ≤ x5 then (if x5 < (x1.length : Int) then ((hallmootref13_value.f k ((rd_T50 x0 x5).f0.f0) ((rd_T50 x0 x5).f0.f1) ((rd_T50 x0 x5).f0.f2) ((rd_T50 x0 x5).f0.f3) ((rd_T50 x1 x5).f0.f0) ((rd_T50 x1 x5).f0.f1) ((rd_T50 x1 x5).f0.f2) ((rd_T50 x1 x5).f0.f3)).bind fun t202 => (if t202 = true then (if ((rd_T50 x0 x5).f1) = ((rd_T50 x1 x5).f1) then (hallmootref13_Undos.l0 k x0 x1 (wrap64 (x5 + 1))) else (some false)) else (some false))) else (none)) else (none)) else (some true)
def hallmootref13_Undos.f (k : Nat) (l0 : List (S50)) (l1 : List (S50)) : Option (Bool) := if (l0.length : Int) = (l1.length : Int) then (hallmootref13_Undos.l0 k l0 l1 0) else (some false)
theorem hallmootref13_Undos.mono_l : ∀ k, (∀ y0 y1 y2, LeO (hallmootref13_Undos.l0 k y0 y1 y2) (hallmootref13_Undos.l0 (k + 1) y0 y1 y2))
  | 0 => fun _ _ _ r h => by simp [hallmootref13_Undos.l0] at h
  | k + 1 => by
    have ih0 := hallmootref13_Undos.mono_l k
    · intro y0 y1 y2
      unfold hallmootref13_Undos.l0
      repeat' first
      | (with_reducible exact ih0 _ _ _)
      | (with_reducible exact hallmootref13_value.mono _ _ _ _ _ _ _ _ _)
      | (with_reducible exact LeO.refl _)
      | (with_reducible exact LeO.none _)
      | (with_reducible refine LeO.ite ?_ ?_)
      | (with_reducible refine LeO.bind ?_ (fun _ => ?_))
      | exact ih0 _ _ _
      | exact hallmootref13_value.mono _ _ _ _ _ _ _ _ _
      | exact LeO.none _
      | refine LeO.ite ?_ ?_
      | refine LeO.bind ?_ (fun _ => ?_)
theorem hallmootref13_Undos.mono : ∀ a0 a1 k, LeO (hallmootref13_Undos.f k a0 a1) (hallmootref13_Undos.f (k + 1) a0 a1) := by
 intro a0 a1 k
 have ih0 := hallmootref13_Undos.mono_l k
 unfold hallmootref13_Undos.f
 repeat' first | (with_reducible exact ih0 _ _ _) | (with_reducible exact hallmootref13_value.mono _ _ _ _ _ _ _ _ _) | (with_reducible exact LeO.refl _) | (with_reducible exact LeO.none _) | (with_reducible refine LeO.ite ?_ ?_) | (with_reducible refine LeO.bind ?_ (fun _ => ?_)) | exact ih0 _ _ _ | exact hallmootref13_value.mono _ _ _ _ _ _ _ _ _ | exact LeO.none _ | refine LeO.ite ?_ ?_ | refine LeO.bind ?_ (fun _ => ?_)
def hallmootref13_Undos.T6 : Bool × List (List Nat × List Nat) := (true, [([], []), ([], []), ([0, 1], [0, 1]), ([2], [2]), ([3], [3]), ([], []), ([], []), ([5, 6], [5, 6]), ([7], [7]), ([8], [8]), ([4, 9], [4, 9]), ([10, 10, 0, 1, 2, 3, 4, 5, 6, 7, 8, 9, 10], [10])])
def hallmootref13_Undos.B6 : List Nat := [0, 0, 3, 7, 15, 0, 0, 96, 224, 480, 1023, 2047]
theorem hallmootref13_Undos.tab6 : rtab .any (opsOf Try.f25 6) = hallmootref13_Undos.T6 := by kernel_rfl
theorem hallmootref13_Undos.bits6 : waitsOk hallmootref13_Undos.T6.2 hallmootref13_Undos.B6 = true := by kernel_rfl
def hallmootref13_Undos.T7 : Bool × List (List Nat × List Nat) := (true, [([], []), ([0], [0]), ([1], [1]), ([2], [2]), ([2], [2]), ([3, 4, 2], [2, 3, 4]), ([5, 2], [2, 5]), ([6, 2], [2, 6]), ([2], [2]), ([2], [2]), ([8, 9, 2], [2, 8, 9]), ([10, 2], [2, 10]), ([11, 2], [2, 11]), ([7, 12, 2], [2, 7, 12]), ([2, 13], [2, 13])])
def hallmootref13_Undos.B7 : List Nat := [0, 1, 3, 7, 7, 31, 63, 127, 7, 7, 775, 1799, 3847, 8191, 16383]
theorem hallmootref13_Undos.tab7 : rtab .any (opsOf Try.f25 7) = hallmootref13_Undos.T7 := by kernel_rfl
theorem hallmootref13_Undos.bits7 : waitsOk hallmootref13_Undos.T7.2 hallmootref13_Undos.B7 = true := by kernel_rfl
set_option maxHeartbeats 8000000 in
set_option maxRecDepth 100000 in
theorem hallmootref13_Undos.calls (k : Nat) (A0 : Option Addr) (c0 : Nat) (l0 : List (S50)) (A1 : Option Addr) (c1 : Nat) (l1 : List (S50)) (r : Bool) (w : World) (hr0 : Kd.C k50 w A0 l0.length l0) (hc0 : l0.length ≤ c0) (hr1 : Kd.C k50 w A1 l1.length l1) (hc1 : l1.length ≤ c1) (h : hallmootref13_Undos.f k l0 l1 = some r) : Calls Try.prog 25 #[.slice A0 l0.length c0, .slice A1 l1.length c1] w fun e w' => e = .returned (.bool r) ∧ Below w.heap.size w w' := by
 have hu48 := Try.underlying48
 have HR0 := aS hr0
 have HC0 := aS hc0
 clear hr0 hc0
 have HR1 := aS hr1
 have HC1 := aS hc1
 clear hr1 hc1
 have HB := aS (Below.refl w.heap.size w)
 have H : (if (l0.length : Int) = (l1.length : Int) then (hallmootref13_Undos.l0 k l0 l1 0) else (some false)) = some r := h
 clear h
 by_cases c3 : (l0.length : Int) = (l1.length : Int)
 {
 rw [if_pos c3] at H
 have c3b0 : ((l0.length : Int) == (l1.length : Int)) = true := beq_iff_eq.mpr c3
 have c3b1 : ((l0.length : Int) != (l1.length : Int)) = false := bne_eq_false_iff_eq.mpr c3
 have c3b2 : (l0.length == l1.length) = true := by first | simpa using c3 | (simp at c3 ⊢; omega)
 clear c3
 have H' := aS H
 clear H
 go_enter Try.func25, Try.ntmps25
 go_wp2
 go_loopg [5] k (fun kq v5 w' => ∃ (x5_1 : Int), v5 = .int .i64 x5_1 ∧ Aside0 (hallmootref13_Undos.l0 kq l0 l1 x5_1 = some r) ∧ Aside0 (kq ≤ k) ∧ Aside0 (Below w.heap.size w w'))
 case atStart => exact ⟨(0), (by first | rfl | (simp; done) | (simp [*]; done)), H', ⟨Nat.le_refl _⟩, ⟨by repeat (first | (with_reducible first | exact HB.out | apply below_alloc | apply pw_below_drewN | apply below_drew1) | exact HB.out)⟩⟩
 case round =>
  clear H'
  try clear c1
  try clear c2
  try clear p2
  try clear c3
  try clear c3b0
  try clear c3b1
  try clear c3b2
  obtain ⟨x5_1, rfl, HA, HK1, HB⟩ := hrel
  cases gk with
  | zero => exact absurd HA.out (by simp [hallmootref13_Undos.l0])
  | succ k1 => {
  have H := HA.out
  clear HA
  simp only [hallmootref13_Undos.l0] at H
  by_cases c4 : x5_1 < (l0.length : Int)
  {
  rw [if_pos c4] at H
  have c4b0 : decide (x5_1 < (l0.length : Int)) = true := decide_eq_true c4
  clear c4
  by_cases c5 : 0 ≤ x5_1
  {
  rw [if_pos c5] at H
  have c5b0 : decide (0 ≤ x5_1) = true := decide_eq_true c5
  clear c5
  by_cases c6 : x5_1 < (l1.length : Int)
  {
  rw [if_pos c6] at H
  have c6b0 : decide (x5_1 < (l1.length : Int)) = true := decide_eq_true c6
  clear c6
  replace H := Option.bind_eq_some_iff.mp H
  obtain ⟨t202, A70, H⟩ := H
  replace H : (if t202 = true then (if ((rd_T50 l0 x5_1).f1) = ((rd_T50 l1 x5_1).f1) then (hallmootref13_Undos.l0 k1 l0 l1 (wrap64 (x5_1 + 1))) else (some false)) else (some false)) = some r := H
  have A7 := aS A70
  clear A70
  by_cases c8 : t202 = true
  {
  subst c8
  have H1 : (if ((rd_T50 l0 x5_1).f1) = ((rd_T50 l1 x5_1).f1) then (hallmootref13_Undos.l0 k1 l0 l1 (wrap64 (x5_1 + 1))) else (some false)) = some r := by rw [if_pos rfl] at H; exact H
  clear H
  have H := H1
  clear H1
  by_cases c9 : ((rd_T50 l0 x5_1).f1) = ((rd_T50 l1 x5_1).f1)
  {
  rw [if_pos c9] at H
  have c9b0 : (((rd_T50 l0 x5_1).f1) == ((rd_T50 l1 x5_1).f1)) = true := beq_iff_eq.mpr c9
  have c9b1 : (((rd_T50 l0 x5_1).f1) != ((rd_T50 l1 x5_1).f1)) = false := bne_eq_false_iff_eq.mpr c9
  clear c9
  have H' := aS H
  clear H
  try go_wp2
  have n0_ := aS (below_drew1 HB.out)
  clear HB
  have HB := n0_
  clear n0_
  have p200 : 0 ≤ (x5_1 : Int) := dd
  have q200 : x5_1 < (l0.length : Int) := dd
  obtain ⟨ad200, A200_3, c200_3, e200, hx200_0, hx200_1, hx200_2, hx200_3, hx200_4, hl200_3, hi200_3⟩ := at_T50 HR0.out x5_1 p200 q200
  have hw200_4 := hx200_4
  have hw200_3 := hx200_3
  have hw200_2 := hx200_2
  have hw200_1 := hx200_1
  have hw200_0 := hx200_0
  cases e200
  replace hx200_0 := cc HB.out hx200_0
  replace hx200_1 := cc HB.out hx200_1
  replace hx200_2 := cc HB.out hx200_2
  replace hx200_3 := cc HB.out hx200_3
  replace hx200_4 := cc HB.out hx200_4
  have HR200_3 := aS hi200_3
  have HC200_3 := aS hl200_3
  clear hi200_3 hl200_3
  replace p200 := eq_true p200
  replace q200 := eq_true q200
  have p201 : 0 ≤ (x5_1 : Int) := dd
  have q201 : x5_1 < (l1.length : Int) := dd
  obtain ⟨ad201, A201_3, c201_3, e201, hx201_0, hx201_1, hx201_2, hx201_3, hx201_4, hl201_3, hi201_3⟩ := at_T50 HR1.out x5_1 p201 q201
  have hw201_4 := hx201_4
  have hw201_3 := hx201_3
  have hw201_2 := hx201_2
  have hw201_1 := hx201_1
  have hw201_0 := hx201_0
  cases e201
  replace hx201_0 := cc HB.out hx201_0
  replace hx201_1 := cc HB.out hx201_1
  replace hx201_2 := cc HB.out hx201_2
  replace hx201_3 := cc HB.out hx201_3
  replace hx201_4 := cc HB.out hx201_4
  have HR201_3 := aS hi201_3
  have HC201_3 := aS hl201_3
  clear hi201_3 hl201_3
  replace p201 := eq_true p201
  replace q201 := eq_true q201
  refine start_ (n := 12) (S := fun w' => w'.cell? (ad200.add ((x5_1).toNat * 5)) = some (.int .i64 ((rd_T50 l0 x5_1).f0.f0)) ∧ w'.cell? ⟨(ad200.add ((x5_1).toNat * 5)).block, (ad200.add ((x5_1).toNat * 5)).off + 1, none⟩ = some (.int .i64 ((rd_T50 l0 x5_1).f0.f1)) ∧ w'.cell? ⟨(ad200.add ((x5_1).toNat * 5)).block, (ad200.add ((x5_1).toNat * 5)).off + 2, none⟩ = some (.int .i64 ((rd_T50 l0 x5_1).f0.f2)) ∧ w'.cell? ⟨(ad200.add ((x5_1).toNat * 5)).block, (ad200.add ((x5_1).toNat * 5)).off + 3, none⟩ = some (.slice A200_3 ((rd_T50 l0 x5_1).f0.f3).length c200_3) ∧ w'.cell? ⟨(ad200.add ((x5_1).toNat * 5)).block, (ad200.add ((x5_1).toNat * 5)).off + 4, none⟩ = some (.int .i64 ((rd_T50 l0 x5_1).f1)) ∧ w'.cell? (ad201.add ((x5_1).toNat * 5)) = some (.int .i64 ((rd_T50 l1 x5_1).f0.f0)) ∧ w'.cell? ⟨(ad201.add ((x5_1).toNat * 5)).block, (ad201.add ((x5_1).toNat * 5)).off + 1, none⟩ = some (.int .i64 ((rd_T50 l1 x5_1).f0.f1)) ∧ w'.cell? ⟨(ad201.add ((x5_1).toNat * 5)).block, (ad201.add ((x5_1).toNat * 5)).off + 2, none⟩ = some (.int .i64 ((rd_T50 l1 x5_1).f0.f2)) ∧ w'.cell? ⟨(ad201.add ((x5_1).toNat * 5)).block, (ad201.add ((x5_1).toNat * 5)).off + 3, none⟩ = some (.slice A201_3 ((rd_T50 l1 x5_1).f0.f3).length c201_3) ∧ w'.cell? ⟨(ad201.add ((x5_1).toNat * 5)).block, (ad201.add ((x5_1).toNat * 5)).off + 4, none⟩ = some (.int .i64 ((rd_T50 l1 x5_1).f1))) (ds := []) #[false, false, false, false, false, false, false, false, false, false, false, false] (by kernel_rfl) rfl rfl ⟨(cc HB.out hw200_0), (cc HB.out hw200_1), (cc HB.out hw200_2), (cc HB.out hw200_3), (cc HB.out hw200_4), (cc HB.out hw201_0), (cc HB.out hw201_1), (cc HB.out hw201_2), (cc HB.out hw201_3), (cc HB.out hw201_4)⟩ (fun hHeld => ?_); refine with_tabW hallmootref13_Undos.tab6 hallmootref13_Undos.bits6 (fun HT_ HW_ => ?_)
  generalize wr.drew = w10 at HB HR200_3 HR201_3 hx200_0 hx200_1 hx200_2 hx200_3 hx200_4 hx201_0 hx201_1 hx201_2 hx201_3 hx201_4 hHeld ⊢
  refine pure_ (i := 0) (N := some 18) (v := ?_) (a' := ?_) #[true, false, false, false, false, false, false, false, false, false, false, false] rfl rfl (any_of HT_.out (by kernel_rfl)) (fun _ _ _ h => h) (Or.inl ⟨by rfl, ?_⟩) ?_ ?_
  rotate_left
  {
  intro w'
  go_simp
  with_reducible rfl }
  rotate_left
  {
  simp only [Act.put, sT, s0, s1, i64_w, i32_w]
  rfl }
  refine pure_ (i := 1) (N := some 19) (v := ?_) (a' := ?_) #[true, true, false, false, false, false, false, false, false, false, false, false] rfl rfl (any_of HT_.out (by kernel_rfl)) (fun _ _ _ h => h) (Or.inl ⟨by rfl, ?_⟩) ?_ ?_
  rotate_left
  {
  intro w'
  go_simp
  with_reducible rfl }
  rotate_left
  {
  simp only [Act.put, sT, s0, s1, i64_w, i32_w]
  rfl }
  refine pure_ (i := 2) (N := some 20) (v := ?_) (a' := ?_) #[true, true, true, false, false, false, false, false, false, false, false, false] rfl rfl (any_of HT_.out (by kernel_rfl)) (fun _ _ _ h => h) (Or.inl ⟨by rfl, ?_⟩) ?_ ?_
  rotate_left
  {
  intro w'
  go_simp
  with_reducible rfl }
  rotate_left
  {
  simp only [Act.put, sT, s0, s1, i64_w, i32_w]
  rfl }
  refine pure_ (i := 3) (N := some 21) (v := ?_) (a' := ?_) #[true, true, true, true, false, false, false, false, false, false, false, false] rfl rfl (any_of HT_.out (by kernel_rfl)) (fun _ _ _ h => h) (Or.inl ⟨by rfl, ?_⟩) ?_ ?_
  rotate_left
  {
  intro w'
  go_simp
  with_reducible rfl }
  rotate_left
  {
  simp only [Act.put, sT, s0, s1, i64_w, i32_w]
  rfl }
  refine pure_ (i := 5) (N := some 23) (v := ?_) (a' := ?_) #[true, true, true, true, false, true, false, false, false, false, false, false] rfl rfl (any_of HT_.out (by kernel_rfl)) (fun _ _ _ h => h) (Or.inl ⟨by rfl, ?_⟩) ?_ ?_
  rotate_left
  {
  intro w'
  go_simp
  with_reducible rfl }
  rotate_left
  {
  simp only [Act.put, sT, s0, s1, i64_w, i32_w]
  rfl }
  refine pure_ (i := 6) (N := some 24) (v := ?_) (a' := ?_) #[true, true, true, true, false, true, true, false, false, false, false, false] rfl rfl (any_of HT_.out (by kernel_rfl)) (fun _ _ _ h => h) (Or.inl ⟨by rfl, ?_⟩) ?_ ?_
  rotate_left
  {
  intro w'
  go_simp
  with_reducible rfl }
  rotate_left
  {
  simp only [Act.put, sT, s0, s1, i64_w, i32_w]
  rfl }
  refine pure_ (i := 7) (N := some 25) (v := ?_) (a' := ?_) #[true, true, true, true, false, true, true, true, false, false, false, false] rfl rfl (any_of HT_.out (by kernel_rfl)) (fun _ _ _ h => h) (Or.inl ⟨by rfl, ?_⟩) ?_ ?_
  rotate_left
  {
  intro w'
  go_simp
  with_reducible rfl }
  rotate_left
  {
  simp only [Act.put, sT, s0, s1, i64_w, i32_w]
  rfl }
  refine pure_ (i := 8) (N := some 26) (v := ?_) (a' := ?_) #[true, true, true, true, false, true, true, true, true, false, false, false] rfl rfl (any_of HT_.out (by kernel_rfl)) (fun _ _ _ h => h) (Or.inl ⟨by rfl, ?_⟩) ?_ ?_
  rotate_left
  {
  intro w'
  go_simp
  with_reducible rfl }
  rotate_left
  {
  simp only [Act.put, sT, s0, s1, i64_w, i32_w]
  rfl }
  refine take_ (i := 4) (N := some 22) (v := ?_) (a' := ?_) #[true, true, true, true, true, true, true, true, true, false, false, false] rfl rfl (take_ofW HT_.out HW_.out (by kernel_rfl)) (fun _ _ _ h => h) (Or.inl ⟨by rfl, ?_⟩) hHeld ?_ ?_
  rotate_left
  {
  rintro w' ⟨s0, s1, s2, s3, s4, s5, s6, s7, s8, s9⟩
  go_simp
  with_reducible rfl }
  rotate_left
  {
  simp only [Act.put, sT, s0, s1, i64_w, i32_w]
  rfl }
  refine take_ (i := 9) (N := some 27) (v := ?_) (a' := ?_) #[true, true, true, true, true, true, true, true, true, true, false, false] rfl rfl (take_ofW HT_.out HW_.out (by kernel_rfl)) (fun _ _ _ h => h) (Or.inl ⟨by rfl, ?_⟩) hHeld ?_ ?_
  rotate_left
  {
  rintro w' ⟨s0, s1, s2, s3, s4, s5, s6, s7, s8, s9⟩
  go_simp
  with_reducible rfl }
  rotate_left
  {
  simp only [Act.put, sT, s0, s1, i64_w, i32_w]
  rfl }
  refine one_ (i := 10) (N := some 28) #[true, true, true, true, true, true, true, true, true, true, true, false] rfl rfl (one_of HT_.out (by kernel_rfl)) (by decide) (fun K hK => ?_)
  refine goes_ Try.func52 (by kernel_rfl) rfl #[.agg #[.int .i64 ((rd_T50 l0 x5_1).f0.f0), .int .i64 ((rd_T50 l0 x5_1).f0.f1), .int .i64 ((rd_T50 l0 x5_1).f0.f2), .slice A200_3 ((rd_T50 l0 x5_1).f0.f3).length c200_3], .agg #[.int .i64 ((rd_T50 l1 x5_1).f0.f0), .int .i64 ((rd_T50 l1 x5_1).f0.f1), .int .i64 ((rd_T50 l1 x5_1).f0.f2), .slice A201_3 ((rd_T50 l1 x5_1).f0.f3).length c201_3]] (by rfl) rfl rfl (by (try simp only [List.map_toArray, List.map_cons, List.map_nil]); first | done | rfl | (simp only [List.length_drop, List.length_take]; rfl)) ?_
  with_reducible refine (hallmootref13_value.calls k1 ((rd_T50 l0 x5_1).f0.f0) ((rd_T50 l0 x5_1).f0.f1) ((rd_T50 l0 x5_1).f0.f2) _ _ ((rd_T50 l0 x5_1).f0.f3) ((rd_T50 l1 x5_1).f0.f0) ((rd_T50 l1 x5_1).f0.f1) ((rd_T50 l1 x5_1).f0.f2) _ _ ((rd_T50 l1 x5_1).f0.f3) true _ ?side1 ?side2 ?side3 ?side4 A7.out).mono ?_
  (case side1 => repeat (first | exact (Kd.C_below HR200_3.out HB.out) | (with_reducible refine Kd.C_alloc ?_ _) | (with_reducible refine Kd.C_drewN ?_ _) | (with_reducible refine Kd.C_drew ?_)))
  (case side2 => exact HC200_3.out)
  (case side3 => repeat (first | exact (Kd.C_below HR201_3.out HB.out) | (with_reducible refine Kd.C_alloc ?_ _) | (with_reducible refine Kd.C_drewN ?_ _) | (with_reducible refine Kd.C_drew ?_)))
  (case side4 => exact HC201_3.out)
  rintro e w11 ⟨rfl, hb⟩
  refine ⟨_, rfl, ?_⟩
  have n0_ := aS (below_step bb hb)
  clear HB
  have HB := n0_
  clear n0_
  (try clear hb)
  (try clear hb2)
  (try clear hk)
  (try clear hi)
  refine hK.out _ _ ⟨(cc HB.out hw200_0), (cc HB.out hw200_1), (cc HB.out hw200_2), (cc HB.out hw200_3), (cc HB.out hw200_4), (cc HB.out hw201_0), (cc HB.out hw201_1), (cc HB.out hw201_2), (cc HB.out hw201_3), (cc HB.out hw201_4)⟩ (fun hHeld => ?_)
  clear hK K
  refine norm_ (a' := ?_) ?_ ?_
  rotate_left
  {
  show Act.put _ (some 28) _ = _
  simp only [Act.put, sT, s0, s1, i64_w, i32_w]
  rfl }
  refine pure_ (i := 11) (N := some 6) (v := ?_) (a' := ?_) #[true, true, true, true, true, true, true, true, true, true, true, true] rfl rfl (any_of HT_.out (by kernel_rfl)) (fun _ _ _ h => h) (Or.inl ⟨by rfl, ?_⟩) ?_ ?_
  rotate_left
  {
  intro w'
  go_simp
  with_reducible rfl }
  rotate_left
  {
  simp only [Act.put, sT, s0, s1, i64_w, i32_w]
  rfl }
  refine done_ (done_of HT_.out (by kernel_rfl)) ?_
  try go_wp2
  have n0_ := aS (below_drew1 HB.out)
  clear HB
  have HB := n0_
  clear n0_
  have p203 : 0 ≤ (x5_1 : Int) := dd
  have q203 : x5_1 < (l0.length : Int) := dd
  obtain ⟨ad203, A203_3, c203_3, e203, hx203_0, hx203_1, hx203_2, hx203_3, hx203_4, hl203_3, hi203_3⟩ := at_T50 HR0.out x5_1 p203 q203
  have hw203_4 := hx203_4
  have hw203_3 := hx203_3
  have hw203_2 := hx203_2
  have hw203_1 := hx203_1
  have hw203_0 := hx203_0
  obtain rfl : ad200 = ad203 := (by injection e203)
  replace hx203_0 := cc HB.out hx203_0
  replace hx203_1 := cc HB.out hx203_1
  replace hx203_2 := cc HB.out hx203_2
  replace hx203_3 := cc HB.out hx203_3
  replace hx203_4 := cc HB.out hx203_4
  have HR203_3 := aS hi203_3
  have HC203_3 := aS hl203_3
  clear hi203_3 hl203_3
  replace p203 := eq_true p203
  replace q203 := eq_true q203
  have p204 : 0 ≤ (x5_1 : Int) := dd
  have q204 : x5_1 < (l1.length : Int) := dd
  obtain ⟨ad204, A204_3, c204_3, e204, hx204_0, hx204_1, hx204_2, hx204_3, hx204_4, hl204_3, hi204_3⟩ := at_T50 HR1.out x5_1 p204 q204
  have hw204_4 := hx204_4
  have hw204_3 := hx204_3
  have hw204_2 := hx204_2
  have hw204_1 := hx204_1
  have hw204_0 := hx204_0
  obtain rfl : ad201 = ad204 := (by injection e204)
  replace hx204_0 := cc HB.out hx204_0
  replace hx204_1 := cc HB.out hx204_1
  replace hx204_2 := cc HB.out hx204_2
  replace hx204_3 := cc HB.out hx204_3
  replace hx204_4 := cc HB.out hx204_4
  have HR204_3 := aS hi204_3
  have HC204_3 := aS hl204_3
  clear hi204_3 hl204_3
  replace p204 := eq_true p204
  replace q204 := eq_true q204
  refine start_ (n := 15) (S := fun w' => w'.cell? (ad200.add ((x5_1).toNat * 5)) = some (.int .i64 ((rd_T50 l0 x5_1).f0.f0)) ∧ w'.cell? ⟨(ad200.add ((x5_1).toNat * 5)).block, (ad200.add ((x5_1).toNat * 5)).off + 1, none⟩ = some (.int .i64 ((rd_T50 l0 x5_1).f0.f1)) ∧ w'.cell? ⟨(ad200.add ((x5_1).toNat * 5)).block, (ad200.add ((x5_1).toNat * 5)).off + 2, none⟩ = some (.int .i64 ((rd_T50 l0 x5_1).f0.f2)) ∧ w'.cell? ⟨(ad200.add ((x5_1).toNat * 5)).block, (ad200.add ((x5_1).toNat * 5)).off + 3, none⟩ = some (.slice A203_3 ((rd_T50 l0 x5_1).f0.f3).length c203_3) ∧ w'.cell? ⟨(ad200.add ((x5_1).toNat * 5)).block, (ad200.add ((x5_1).toNat * 5)).off + 4, none⟩ = some (.int .i64 ((rd_T50 l0 x5_1).f1)) ∧ w'.cell? (ad201.add ((x5_1).toNat * 5)) = some (.int .i64 ((rd_T50 l1 x5_1).f0.f0)) ∧ w'.cell? ⟨(ad201.add ((x5_1).toNat * 5)).block, (ad201.add ((x5_1).toNat * 5)).off + 1, none⟩ = some (.int .i64 ((rd_T50 l1 x5_1).f0.f1)) ∧ w'.cell? ⟨(ad201.add ((x5_1).toNat * 5)).block, (ad201.add ((x5_1).toNat * 5)).off + 2, none⟩ = some (.int .i64 ((rd_T50 l1 x5_1).f0.f2)) ∧ w'.cell? ⟨(ad201.add ((x5_1).toNat * 5)).block, (ad201.add ((x5_1).toNat * 5)).off + 3, none⟩ = some (.slice A204_3 ((rd_T50 l1 x5_1).f0.f3).length c204_3) ∧ w'.cell? ⟨(ad201.add ((x5_1).toNat * 5)).block, (ad201.add ((x5_1).toNat * 5)).off + 4, none⟩ = some (.int .i64 ((rd_T50 l1 x5_1).f1))) (ds := []) #[false, false, false, false, false, false, false, false, false, false, false, false, false, false, false] (by kernel_rfl) rfl rfl ⟨(cc HB.out hw203_0), (cc HB.out hw203_1), (cc HB.out hw203_2), (cc HB.out hw203_3), (cc HB.out hw203_4), (cc HB.out hw204_0), (cc HB.out hw204_1), (cc HB.out hw204_2), (cc HB.out hw204_3), (cc HB.out hw204_4)⟩ (fun hHeld => ?_); refine with_tabW hallmootref13_Undos.tab7 hallmootref13_Undos.bits7 (fun HT_ HW_ => ?_)
  generalize w11.drew = w12 at HB HR203_3 HR204_3 hx203_0 hx203_1 hx203_2 hx203_3 hx203_4 hx204_0 hx204_1 hx204_2 hx204_3 hx204_4 hHeld ⊢
  refine pure_ (i := 0) (N := some 29) (v := ?_) (a' := ?_) #[true, false, false, false, false, false, false, false, false, false, false, false, false, false, false] rfl rfl (any_of HT_.out (by kernel_rfl)) (fun _ _ _ h => h) (Or.inl ⟨by rfl, ?_⟩) ?_ ?_
  rotate_left
  {
  intro w'
  go_simp
  with_reducible rfl }
  rotate_left
  {
  simp only [Act.put, sT, s0, s1, i64_w, i32_w]
  rfl }
  refine pure_ (i := 1) (N := some 30) (v := ?_) (a' := ?_) #[true, true, false, false, false, false, false, false, false, false, false, false, false, false, false] rfl rfl (any_of HT_.out (by kernel_rfl)) (fun _ _ _ h => h) (Or.inl ⟨by rfl, ?_⟩) ?_ ?_
  rotate_left
  {
  intro w'
  go_simp
  with_reducible rfl }
  rotate_left
  {
  simp only [Act.put, sT, s0, s1, i64_w, i32_w]
  rfl }
  refine pure_ (i := 2) (N := some 31) (v := ?_) (a' := ?_) #[true, true, true, false, false, false, false, false, false, false, false, false, false, false, false] rfl rfl (any_of HT_.out (by kernel_rfl)) (fun _ _ _ h => h) (Or.inl ⟨by rfl, ?_⟩) ?_ ?_
  rotate_left
  {
  intro w'
  go_simp
  with_reducible rfl }
  rotate_left
  {
  simp only [Act.put, sT, s0, s1, i64_w, i32_w]
  rfl }
  refine pure_ (i := 3) (N := some 32) (v := ?_) (a' := ?_) #[true, true, true, true, false, false, false, false, false, false, false, false, false, false, false] rfl rfl (any_of HT_.out (by kernel_rfl)) (fun _ _ _ h => h) (Or.inl ⟨by rfl, ?_⟩) ?_ ?_
  rotate_left
  {
  intro w'
  go_simp
  with_reducible rfl }
  rotate_left
  {
  simp only [Act.put, sT, s0, s1, i64_w, i32_w]
  rfl }
  refine pure_ (i := 4) (N := some 33) (v := ?_) (a' := ?_) #[true, true, true, true, true, false, false, false, false, false, false, false, false, false, false] rfl rfl (any_of HT_.out (by kernel_rfl)) (fun _ _ _ h => h) (Or.inl ⟨by rfl, ?_⟩) ?_ ?_
  rotate_left
  {
  intro w'
  go_simp
  with_reducible rfl }
  rotate_left
  {
  simp only [Act.put, sT, s0, s1, i64_w, i32_w]
  rfl }
  refine pure_ (i := 5) (N := some 34) (v := ?_) (a' := ?_) #[true, true, true, true, true, true, false, false, false, false, false, false, false, false, false] rfl rfl (any_of HT_.out (by kernel_rfl)) (fun _ _ _ h => h) (Or.inl ⟨by rfl, ?_⟩) ?_ ?_
  rotate_left
  {
  intro w'
  go_simp
  with_reducible rfl }
  rotate_left
  {
  simp only [Act.put, sT, s0, s1, i64_w, i32_w]
  rfl }
  refine pure_ (i := 6) (N := some 35) (v := ?_) (a' := ?_) #[true, true, true, true, true, true, true, false, false, false, false, false, false, false, false] rfl rfl (any_of HT_.out (by kernel_rfl)) (fun _ _ _ h => h) (Or.inl ⟨by rfl, ?_⟩) ?_ ?_
  rotate_left
  {
  intro w'
  go_simp
  with_reducible rfl }
  rotate_left
  {
  simp only [Act.put, sT, s0, s1, i64_w, i32_w]
  rfl }
  refine pure_ (i := 8) (N := some 37) (v := ?_) (a' := ?_) #[true, true, true, true, true, true, true, false, true, false, false, false, false, false, false] rfl rfl (any_of HT_.out (by kernel_rfl)) (fun _ _ _ h => h) (Or.inl ⟨by rfl, ?_⟩) ?_ ?_
  rotate_left
  {
  intro w'
  go_simp
  with_reducible rfl }
  rotate_left
  {
  simp only [Act.put, sT, s0, s1, i64_w, i32_w]
  rfl }
  refine pure_ (i := 9) (N := some 38) (v := ?_) (a' := ?_) #[true, true, true, true, true, true, true, false, true, true, false, false, false, false, false] rfl rfl (any_of HT_.out (by kernel_rfl)) (fun _ _ _ h => h) (Or.inl ⟨by rfl, ?_⟩) ?_ ?_
  rotate_left
  {
  intro w'
  go_simp
  with_reducible rfl }
  rotate_left
  {
  simp only [Act.put, sT, s0, s1, i64_w, i32_w]
  rfl }
  refine pure_ (i := 10) (N := some 39) (v := ?_) (a' := ?_) #[true, true, true, true, true, true, true, false, true, true, true, false, false, false, false] rfl rfl (any_of HT_.out (by kernel_rfl)) (fun _ _ _ h => h) (Or.inl ⟨by rfl, ?_⟩) ?_ ?_
  rotate_left
  {
  intro w'
  go_simp
  with_reducible rfl }
  rotate_left
  {
  simp only [Act.put, sT, s0, s1, i64_w, i32_w]
  rfl }
  refine pure_ (i := 11) (N := some 40) (v := ?_) (a' := ?_) #[true, true, true, true, true, true, true, false, true, true, true, true, false, false, false] rfl rfl (any_of HT_.out (by kernel_rfl)) (fun _ _ _ h => h) (Or.inl ⟨by rfl, ?_⟩) ?_ ?_
  rotate_left
  {
  intro w'
  go_simp
  with_reducible rfl }
  rotate_left
  {
  simp only [Act.put, sT, s0, s1, i64_w, i32_w]
  rfl }
  refine take_ (i := 7) (N := some 36) (v := ?_) (a' := ?_) #[true, true, true, true, true, true, true, true, true, true, true, true, false, false, false] rfl rfl (take_ofW HT_.out HW_.out (by kernel_rfl)) (fun _ _ _ h => h) (Or.inl ⟨by rfl, ?_⟩) hHeld ?_ ?_
  rotate_left
  {
  rintro w' ⟨s0, s1, s2, s3, s4, s5, s6, s7, s8, s9⟩
  go_simp
  with_reducible rfl }
  rotate_left
  {
  simp only [Act.put, sT, s0, s1, i64_w, i32_w]
  rfl }
  refine take_ (i := 12) (N := some 41) (v := ?_) (a' := ?_) #[true, true, true, true, true, true, true, true, true, true, true, true, true, false, false] rfl rfl (take_ofW HT_.out HW_.out (by kernel_rfl)) (fun _ _ _ h => h) (Or.inl ⟨by rfl, ?_⟩) hHeld ?_ ?_
  rotate_left
  {
  rintro w' ⟨s0, s1, s2, s3, s4, s5, s6, s7, s8, s9⟩
  go_simp
  with_reducible rfl }
  rotate_left
  {
  simp only [Act.put, sT, s0, s1, i64_w, i32_w]
  rfl }
  refine pure_ (i := 13) (N := some 42) (v := ?_) (a' := ?_) #[true, true, true, true, true, true, true, true, true, true, true, true, true, true, false] rfl rfl (any_of HT_.out (by kernel_rfl)) (fun _ _ _ h => h) (Or.inl ⟨by rfl, ?_⟩) ?_ ?_
  rotate_left
  {
  intro w'
  go_simp
  with_reducible rfl }
  rotate_left
  {
  simp only [Act.put, sT, s0, s1, i64_w, i32_w]
  rfl }
  refine pure_ (i := 14) (N := some 43) (v := ?_) (a' := ?_) #[true, true, true, true, true, true, true, true, true, true, true, true, true, true, true] rfl rfl (any_of HT_.out (by kernel_rfl)) (fun _ _ _ h => h) (Or.inl ⟨by rfl, ?_⟩) ?_ ?_
  rotate_left
  {
  intro w'
  go_simp
  with_reducible rfl }
  rotate_left
  {
  simp only [Act.put, sT, s0, s1, i64_w, i32_w]
  rfl }
  refine done_ (done_of HT_.out (by kernel_rfl)) ?_
  try go_wp2
  go_roundg k1
  case measure => have := HK1.out; omega
  case rel => exact ⟨(wrap64 (x5_1 + 1)), (by first | rfl | (simp; done) | (simp [*]; done)), H', ⟨by have := HK1.out; omega⟩, ⟨by repeat (first | (with_reducible first | exact HB.out | apply below_alloc | apply pw_below_drewN | apply below_drew1) | exact HB.out)⟩⟩ }
  {
  rw [if_neg c9] at H
  have c9b0 : (((rd_T50 l0 x5_1).f1) == ((rd_T50 l1 x5_1).f1)) = false := beq_eq_false_iff_ne.mpr c9
  have c9b1 : (((rd_T50 l0 x5_1).f1) != ((rd_T50 l1 x5_1).f1)) = true := bne_iff_ne.mpr c9
  obtain rfl := Option.some.inj H
  try go_wp2
  have n0_ := aS (below_drew1 HB.out)
  clear HB
  have HB := n0_
  clear n0_
  have p200 : 0 ≤ (x5_1 : Int) := dd
  have q200 : x5_1 < (l0.length : Int) := dd
  obtain ⟨ad200, A200_3, c200_3, e200, hx200_0, hx200_1, hx200_2, hx200_3, hx200_4, hl200_3, hi200_3⟩ := at_T50 HR0.out x5_1 p200 q200
  have hw200_4 := hx200_4
  have hw200_3 := hx200_3
  have hw200_2 := hx200_2
  have hw200_1 := hx200_1
  have hw200_0 := hx200_0
  cases e200
  replace hx200_0 := cc HB.out hx200_0
  replace hx200_1 := cc HB.out hx200_1
  replace hx200_2 := cc HB.out hx200_2
  replace hx200_3 := cc HB.out hx200_3
  replace hx200_4 := cc HB.out hx200_4
  have HR200_3 := aS hi200_3
  have HC200_3 := aS hl200_3
  clear hi200_3 hl200_3
  replace p200 := eq_true p200
  replace q200 := eq_true q200
  have p201 : 0 ≤ (x5_1 : Int) := dd
  have q201 : x5_1 < (l1.length : Int) := dd
  obtain ⟨ad201, A201_3, c201_3, e201, hx201_0, hx201_1, hx201_2, hx201_3, hx201_4, hl201_3, hi201_3⟩ := at_T50 HR1.out x5_1 p201 q201
  have hw201_4 := hx201_4
  have hw201_3 := hx201_3
  have hw201_2 := hx201_2
  have hw201_1 := hx201_1
  have hw201_0 := hx201_0
  cases e201
  replace hx201_0 := cc HB.out hx201_0
  replace hx201_1 := cc HB.out hx201_1
  replace hx201_2 := cc HB.out hx201_2
  replace hx201_3 := cc HB.out hx201_3
  replace hx201_4 := cc HB.out hx201_4
  have HR201_3 := aS hi201_3
  have HC201_3 := aS hl201_3
  clear hi201_3 hl201_3
  replace p201 := eq_true p201
  replace q201 := eq_true q201
  refine start_ (n := 12) (S := fun w' => w'.cell? (ad200.add ((x5_1).toNat * 5)) = some (.int .i64 ((rd_T50 l0 x5_1).f0.f0)) ∧ w'.cell? ⟨(ad200.add ((x5_1).toNat * 5)).block, (ad200.add ((x5_1).toNat * 5)).off + 1, none⟩ = some (.int .i64 ((rd_T50 l0 x5_1).f0.f1)) ∧ w'.cell? ⟨(ad200.add ((x5_1).toNat * 5)).block, (ad200.add ((x5_1).toNat * 5)).off + 2, none⟩ = some (.int .i64 ((rd_T50 l0 x5_1).f0.f2)) ∧ w'.cell? ⟨(ad200.add ((x5_1).toNat * 5)).block, (ad200.add ((x5_1).toNat * 5)).off + 3, none⟩ = some (.slice A200_3 ((rd_T50 l0 x5_1).f0.f3).length c200_3) ∧ w'.cell? ⟨(ad200.add ((x5_1).toNat * 5)).block, (ad200.add ((x5_1).toNat * 5)).off + 4, none⟩ = some (.int .i64 ((rd_T50 l0 x5_1).f1)) ∧ w'.cell? (ad201.add ((x5_1).toNat * 5)) = some (.int .i64 ((rd_T50 l1 x5_1).f0.f0)) ∧ w'.cell? ⟨(ad201.add ((x5_1).toNat * 5)).block, (ad201.add ((x5_1).toNat * 5)).off + 1, none⟩ = some (.int .i64 ((rd_T50 l1 x5_1).f0.f1)) ∧ w'.cell? ⟨(ad201.add ((x5_1).toNat * 5)).block, (ad201.add ((x5_1).toNat * 5)).off + 2, none⟩ = some (.int .i64 ((rd_T50 l1 x5_1).f0.f2)) ∧ w'.cell? ⟨(ad201.add ((x5_1).toNat * 5)).block, (ad201.add ((x5_1).toNat * 5)).off + 3, none⟩ = some (.slice A201_3 ((rd_T50 l1 x5_1).f0.f3).length c201_3) ∧ w'.cell? ⟨(ad201.add ((x5_1).toNat * 5)).block, (ad201.add ((x5_1).toNat * 5)).off + 4, none⟩ = some (.int .i64 ((rd_T50 l1 x5_1).f1))) (ds := []) #[false, false, false, false, false, false, false, false, false, false, false, false] (by kernel_rfl) rfl rfl ⟨(cc HB.out hw200_0), (cc HB.out hw200_1), (cc HB.out hw200_2), (cc HB.out hw200_3), (cc HB.out hw200_4), (cc HB.out hw201_0), (cc HB.out hw201_1), (cc HB.out hw201_2), (cc HB.out hw201_3), (cc HB.out hw201_4)⟩ (fun hHeld => ?_); refine with_tabW hallmootref13_Undos.tab6 hallmootref13_Undos.bits6 (fun HT_ HW_ => ?_)
  generalize wr.drew = w13 at HB HR200_3 HR201_3 hx200_0 hx200_1 hx200_2 hx200_3 hx200_4 hx201_0 hx201_1 hx201_2 hx201_3 hx201_4 hHeld ⊢
  refine pure_ (i := 0) (N := some 18) (v := ?_) (a' := ?_) #[true, false, false, false, false, false, false, false, false, false, false, false] rfl rfl (any_of HT_.out (by kernel_rfl)) (fun _ _ _ h => h) (Or.inl ⟨by rfl, ?_⟩) ?_ ?_
  rotate_left
  {
  intro w'
  go_simp
  with_reducible rfl }
  rotate_left
  {
  simp only [Act.put, sT, s0, s1, i64_w, i32_w]
  rfl }
  refine pure_ (i := 1) (N := some 19) (v := ?_) (a' := ?_) #[true, true, false, false, false, false, false, false, false, false, false, false] rfl rfl (any_of HT_.out (by kernel_rfl)) (fun _ _ _ h => h) (Or.inl ⟨by rfl, ?_⟩) ?_ ?_
  rotate_left
  {
  intro w'
  go_simp
  with_reducible rfl }
  rotate_left
  {
  simp only [Act.put, sT, s0, s1, i64_w, i32_w]
  rfl }
  refine pure_ (i := 2) (N := some 20) (v := ?_) (a' := ?_) #[true, true, true, false, false, false, false, false, false, false, false, false] rfl rfl (any_of HT_.out (by kernel_rfl)) (fun _ _ _ h => h) (Or.inl ⟨by rfl, ?_⟩) ?_ ?_
  rotate_left
  {
  intro w'
  go_simp
  with_reducible rfl }
  rotate_left
  {
  simp only [Act.put, sT, s0, s1, i64_w, i32_w]
  rfl }
  refine pure_ (i := 3) (N := some 21) (v := ?_) (a' := ?_) #[true, true, true, true, false, false, false, false, false, false, false, false] rfl rfl (any_of HT_.out (by kernel_rfl)) (fun _ _ _ h => h) (Or.inl ⟨by rfl, ?_⟩) ?_ ?_
  rotate_left
  {
  intro w'
  go_simp
  with_reducible rfl }
  rotate_left
  {
  simp only [Act.put, sT, s0, s1, i64_w, i32_w]
  rfl }
  refine pure_ (i := 5) (N := some 23) (v := ?_) (a' := ?_) #[true, true, true, true, false, true, false, false, false, false, false, false] rfl rfl (any_of HT_.out (by kernel_rfl)) (fun _ _ _ h => h) (Or.inl ⟨by rfl, ?_⟩) ?_ ?_
  rotate_left
  {
  intro w'
  go_simp
  with_reducible rfl }
  rotate_left
  {
  simp only [Act.put, sT, s0, s1, i64_w, i32_w]
  rfl }
  refine pure_ (i := 6) (N := some 24) (v := ?_) (a' := ?_) #[true, true, true, true, false, true, true, false, false, false, false, false] rfl rfl (any_of HT_.out (by kernel_rfl)) (fun _ _ _ h => h) (Or.inl ⟨by rfl, ?_⟩) ?_ ?_
  rotate_left
  {
  intro w'
  go_simp
  with_reducible rfl }
  rotate_left
  {
  simp only [Act.put, sT, s0, s1, i64_w, i32_w]
  rfl }
  refine pure_ (i := 7) (N := some 25) (v := ?_) (a' := ?_) #[true, true, true, true, false, true, true, true, false, false, false, false] rfl rfl (any_of HT_.out (by kernel_rfl)) (fun _ _ _ h => h) (Or.inl ⟨by rfl, ?_⟩) ?_ ?_
  rotate_left
  {
  intro w'
  go_simp
  with_reducible rfl }
  rotate_left
  {
  simp only [Act.put, sT, s0, s1, i64_w, i32_w]
  rfl }
  refine pure_ (i := 8) (N := some 26) (v := ?_) (a' := ?_) #[true, true, true, true, false, true, true, true, true, false, false, false] rfl rfl (any_of HT_.out (by kernel_rfl)) (fun _ _ _ h => h) (Or.inl ⟨by rfl, ?_⟩) ?_ ?_
  rotate_left
  {
  intro w'
  go_simp
  with_reducible rfl }
  rotate_left
  {
  simp only [Act.put, sT, s0, s1, i64_w, i32_w]
  rfl }
  refine take_ (i := 4) (N := some 22) (v := ?_) (a' := ?_) #[true, true, true, true, true, true, true, true, true, false, false, false] rfl rfl (take_ofW HT_.out HW_.out (by kernel_rfl)) (fun _ _ _ h => h) (Or.inl ⟨by rfl, ?_⟩) hHeld ?_ ?_
  rotate_left
  {
  rintro w' ⟨s0, s1, s2, s3, s4, s5, s6, s7, s8, s9⟩
  go_simp
  with_reducible rfl }
  rotate_left
  {
  simp only [Act.put, sT, s0, s1, i64_w, i32_w]
  rfl }
  refine take_ (i := 9) (N := some 27) (v := ?_) (a' := ?_) #[true, true, true, true, true, true, true, true, true, true, false, false] rfl rfl (take_ofW HT_.out HW_.out (by kernel_rfl)) (fun _ _ _ h => h) (Or.inl ⟨by rfl, ?_⟩) hHeld ?_ ?_
  rotate_left
  {
  rintro w' ⟨s0, s1, s2, s3, s4, s5, s6, s7, s8, s9⟩
  go_simp
  with_reducible rfl }
  rotate_left
  {
  simp only [Act.put, sT, s0, s1, i64_w, i32_w]
  rfl }
  refine one_ (i := 10) (N := some 28) #[true, true, true, true, true, true, true, true, true, true, true, false] rfl rfl (one_of HT_.out (by kernel_rfl)) (by decide) (fun K hK => ?_)
  refine goes_ Try.func52 (by kernel_rfl) rfl #[.agg #[.int .i64 ((rd_T50 l0 x5_1).f0.f0), .int .i64 ((rd_T50 l0 x5_1).f0.f1), .int .i64 ((rd_T50 l0 x5_1).f0.f2), .slice A200_3 ((rd_T50 l0 x5_1).f0.f3).length c200_3], .agg #[.int .i64 ((rd_T50 l1 x5_1).f0.f0), .int .i64 ((rd_T50 l1 x5_1).f0.f1), .int .i64 ((rd_T50 l1 x5_1).f0.f2), .slice A201_3 ((rd_T50 l1 x5_1).f0.f3).length c201_3]] (by rfl) rfl rfl (by (try simp only [List.map_toArray, List.map_cons, List.map_nil]); first | done | rfl | (simp only [List.length_drop, List.length_take]; rfl)) ?_
  with_reducible refine (hallmootref13_value.calls k1 ((rd_T50 l0 x5_1).f0.f0) ((rd_T50 l0 x5_1).f0.f1) ((rd_T50 l0 x5_1).f0.f2) _ _ ((rd_T50 l0 x5_1).f0.f3) ((rd_T50 l1 x5_1).f0.f0) ((rd_T50 l1 x5_1).f0.f1) ((rd_T50 l1 x5_1).f0.f2) _ _ ((rd_T50 l1 x5_1).f0.f3) true _ ?side1 ?side2 ?side3 ?side4 A7.out).mono ?_
  (case side1 => repeat (first | exact (Kd.C_below HR200_3.out HB.out) | (with_reducible refine Kd.C_alloc ?_ _) | (with_reducible refine Kd.C_drewN ?_ _) | (with_reducible refine Kd.C_drew ?_)))
  (case side2 => exact HC200_3.out)
  (case side3 => repeat (first | exact (Kd.C_below HR201_3.out HB.out) | (with_reducible refine Kd.C_alloc ?_ _) | (with_reducible refine Kd.C_drewN ?_ _) | (with_reducible refine Kd.C_drew ?_)))
  (case side4 => exact HC201_3.out)
  rintro e w14 ⟨rfl, hb⟩
  refine ⟨_, rfl, ?_⟩
  have n0_ := aS (below_step bb hb)
  clear HB
  have HB := n0_
  clear n0_
  (try clear hb)
  (try clear hb2)
  (try clear hk)
  (try clear hi)
  refine hK.out _ _ ⟨(cc HB.out hw200_0), (cc HB.out hw200_1), (cc HB.out hw200_2), (cc HB.out hw200_3), (cc HB.out hw200_4), (cc HB.out hw201_0), (cc HB.out hw201_1), (cc HB.out hw201_2), (cc HB.out hw201_3), (cc HB.out hw201_4)⟩ (fun hHeld => ?_)
  clear hK K
  refine norm_ (a' := ?_) ?_ ?_
  rotate_left
  {
  show Act.put _ (some 28) _ = _
  simp only [Act.put, sT, s0, s1, i64_w, i32_w]
  rfl }
  refine pure_ (i := 11) (N := some 6) (v := ?_) (a' := ?_) #[true, true, true, true, true, true, true, true, true, true, true, true] rfl rfl (any_of HT_.out (by kernel_rfl)) (fun _ _ _ h => h) (Or.inl ⟨by rfl, ?_⟩) ?_ ?_
  rotate_left
  {
  intro w'
  go_simp
  with_reducible rfl }
  rotate_left
  {
  simp only [Act.put, sT, s0, s1, i64_w, i32_w]
  rfl }
  refine done_ (done_of HT_.out (by kernel_rfl)) ?_
  try go_wp2
  have n0_ := aS (below_drew1 HB.out)
  clear HB
  have HB := n0_
  clear n0_
  have p203 : 0 ≤ (x5_1 : Int) := dd
  have q203 : x5_1 < (l0.length : Int) := dd
  obtain ⟨ad203, A203_3, c203_3, e203, hx203_0, hx203_1, hx203_2, hx203_3, hx203_4, hl203_3, hi203_3⟩ := at_T50 HR0.out x5_1 p203 q203
  have hw203_4 := hx203_4
  have hw203_3 := hx203_3
  have hw203_2 := hx203_2
  have hw203_1 := hx203_1
  have hw203_0 := hx203_0
  obtain rfl : ad200 = ad203 := (by injection e203)
  replace hx203_0 := cc HB.out hx203_0
  replace hx203_1 := cc HB.out hx203_1
  replace hx203_2 := cc HB.out hx203_2
  replace hx203_3 := cc HB.out hx203_3
  replace hx203_4 := cc HB.out hx203_4
  have HR203_3 := aS hi203_3
  have HC203_3 := aS hl203_3
  clear hi203_3 hl203_3
  replace p203 := eq_true p203
  replace q203 := eq_true q203
  have p204 : 0 ≤ (x5_1 : Int) := dd
  have q204 : x5_1 < (l1.length : Int) := dd
  obtain ⟨ad204, A204_3, c204_3, e204, hx204_0, hx204_1, hx204_2, hx204_3, hx204_4, hl204_3, hi204_3⟩ := at_T50 HR1.out x5_1 p204 q204
  have hw204_4 := hx204_4
  have hw204_3 := hx204_3
  have hw204_2 := hx204_2
  have hw204_1 := hx204_1
  have hw204_0 := hx204_0
  obtain rfl : ad201 = ad204 := (by injection e204)
  replace hx204_0 := cc HB.out hx204_0
  replace hx204_1 := cc HB.out hx204_1
  replace hx204_2 := cc HB.out hx204_2
  replace hx204_3 := cc HB.out hx204_3
  replace hx204_4 := cc HB.out hx204_4
  have HR204_3 := aS hi204_3
  have HC204_3 := aS hl204_3
  clear hi204_3 hl204_3
  replace p204 := eq_true p204
  replace q204 := eq_true q204
  refine start_ (n := 15) (S := fun w' => w'.cell? (ad200.add ((x5_1).toNat * 5)) = some (.int .i64 ((rd_T50 l0 x5_1).f0.f0)) ∧ w'.cell? ⟨(ad200.add ((x5_1).toNat * 5)).block, (ad200.add ((x5_1).toNat * 5)).off + 1, none⟩ = some (.int .i64 ((rd_T50 l0 x5_1).f0.f1)) ∧ w'.cell? ⟨(ad200.add ((x5_1).toNat * 5)).block, (ad200.add ((x5_1).toNat * 5)).off + 2, none⟩ = some (.int .i64 ((rd_T50 l0 x5_1).f0.f2)) ∧ w'.cell? ⟨(ad200.add ((x5_1).toNat * 5)).block, (ad200.add ((x5_1).toNat * 5)).off + 3, none⟩ = some (.slice A203_3 ((rd_T50 l0 x5_1).f0.f3).length c203_3) ∧ w'.cell? ⟨(ad200.add ((x5_1).toNat * 5)).block, (ad200.add ((x5_1).toNat * 5)).off + 4, none⟩ = some (.int .i64 ((rd_T50 l0 x5_1).f1)) ∧ w'.cell? (ad201.add ((x5_1).toNat * 5)) = some (.int .i64 ((rd_T50 l1 x5_1).f0.f0)) ∧ w'.cell? ⟨(ad201.add ((x5_1).toNat * 5)).block, (ad201.add ((x5_1).toNat * 5)).off + 1, none⟩ = some (.int .i64 ((rd_T50 l1 x5_1).f0.f1)) ∧ w'.cell? ⟨(ad201.add ((x5_1).toNat * 5)).block, (ad201.add ((x5_1).toNat * 5)).off + 2, none⟩ = some (.int .i64 ((rd_T50 l1 x5_1).f0.f2)) ∧ w'.cell? ⟨(ad201.add ((x5_1).toNat * 5)).block, (ad201.add ((x5_1).toNat * 5)).off + 3, none⟩ = some (.slice A204_3 ((rd_T50 l1 x5_1).f0.f3).length c204_3) ∧ w'.cell? ⟨(ad201.add ((x5_1).toNat * 5)).block, (ad201.add ((x5_1).toNat * 5)).off + 4, none⟩ = some (.int .i64 ((rd_T50 l1 x5_1).f1))) (ds := []) #[false, false, false, false, false, false, false, false, false, false, false, false, false, false, false] (by kernel_rfl) rfl rfl ⟨(cc HB.out hw203_0), (cc HB.out hw203_1), (cc HB.out hw203_2), (cc HB.out hw203_3), (cc HB.out hw203_4), (cc HB.out hw204_0), (cc HB.out hw204_1), (cc HB.out hw204_2), (cc HB.out hw204_3), (cc HB.out hw204_4)⟩ (fun hHeld => ?_); refine with_tabW hallmootref13_Undos.tab7 hallmootref13_Undos.bits7 (fun HT_ HW_ => ?_)
  generalize w14.drew = w15 at HB HR203_3 HR204_3 hx203_0 hx203_1 hx203_2 hx203_3 hx203_4 hx204_0 hx204_1 hx204_2 hx204_3 hx204_4 hHeld ⊢
  refine pure_ (i := 0) (N := some 29) (v := ?_) (a' := ?_) #[true, false, false, false, false, false, false, false, false, false, false, false, false, false, false] rfl rfl (any_of HT_.out (by kernel_rfl)) (fun _ _ _ h => h) (Or.inl ⟨by rfl, ?_⟩) ?_ ?_
  rotate_left
  {
  intro w'
  go_simp
  with_reducible rfl }
  rotate_left
  {
  simp only [Act.put, sT, s0, s1, i64_w, i32_w]
  rfl }
  refine pure_ (i := 1) (N := some 30) (v := ?_) (a' := ?_) #[true, true, false, false, false, false, false, false, false, false, false, false, false, false, false] rfl rfl (any_of HT_.out (by kernel_rfl)) (fun _ _ _ h => h) (Or.inl ⟨by rfl, ?_⟩) ?_ ?_
  rotate_left
  {
  intro w'
  go_simp
  with_reducible rfl }
  rotate_left
  {
  simp only [Act.put, sT, s0, s1, i64_w, i32_w]
  rfl }
  refine pure_ (i := 2) (N := some 31) (v := ?_) (a' := ?_) #[true, true, true, false, false, false, false, false, false, false, false, false, false, false, false] rfl rfl (any_of HT_.out (by kernel_rfl)) (fun _ _ _ h => h) (Or.inl ⟨by rfl, ?_⟩) ?_ ?_
  rotate_left
  {
  intro w'
  go_simp
  with_reducible rfl }
  rotate_left
  {
  simp only [Act.put, sT, s0, s1, i64_w, i32_w]
  rfl }
  refine pure_ (i := 3) (N := some 32) (v := ?_) (a' := ?_) #[true, true, true, true, false, false, false, false, false, false, false, false, false, false, false] rfl rfl (any_of HT_.out (by kernel_rfl)) (fun _ _ _ h => h) (Or.inl ⟨by rfl, ?_⟩) ?_ ?_
  rotate_left
  {
  intro w'
  go_simp
  with_reducible rfl }
  rotate_left
  {
  simp only [Act.put, sT, s0, s1, i64_w, i32_w]
  rfl }
  refine pure_ (i := 4) (N := some 33) (v := ?_) (a' := ?_) #[true, true, true, true, true, false, false, false, false, false, false, false, false, false, false] rfl rfl (any_of HT_.out (by kernel_rfl)) (fun _ _ _ h => h) (Or.inl ⟨by rfl, ?_⟩) ?_ ?_
  rotate_left
  {
  intro w'
  go_simp
  with_reducible rfl }
  rotate_left
  {
  simp only [Act.put, sT, s0, s1, i64_w, i32_w]
  rfl }
  refine pure_ (i := 5) (N := some 34) (v := ?_) (a' := ?_) #[true, true, true, true, true, true, false, false, false, false, false, false, false, false, false] rfl rfl (any_of HT_.out (by kernel_rfl)) (fun _ _ _ h => h) (Or.inl ⟨by rfl, ?_⟩) ?_ ?_
  rotate_left
  {
  intro w'
  go_simp
  with_reducible rfl }
  rotate_left
  {
  simp only [Act.put, sT, s0, s1, i64_w, i32_w]
  rfl }
  refine pure_ (i := 6) (N := some 35) (v := ?_) (a' := ?_) #[true, true, true, true, true, true, true, false, false, false, false, false, false, false, false] rfl rfl (any_of HT_.out (by kernel_rfl)) (fun _ _ _ h => h) (Or.inl ⟨by rfl, ?_⟩) ?_ ?_
  rotate_left
  {
  intro w'
  go_simp
  with_reducible rfl }
  rotate_left
  {
  simp only [Act.put, sT, s0, s1, i64_w, i32_w]
  rfl }
  refine pure_ (i := 8) (N := some 37) (v := ?_) (a' := ?_) #[true, true, true, true, true, true, true, false, true, false, false, false, false, false, false] rfl rfl (any_of HT_.out (by kernel_rfl)) (fun _ _ _ h => h) (Or.inl ⟨by rfl, ?_⟩) ?_ ?_
  rotate_left
  {
  intro w'
  go_simp
  with_reducible rfl }
  rotate_left
  {
  simp only [Act.put, sT, s0, s1, i64_w, i32_w]
  rfl }
  refine pure_ (i := 9) (N := some 38) (v := ?_) (a' := ?_) #[true, true, true, true, true, true, true, false, true, true, false, false, false, false, false] rfl rfl (any_of HT_.out (by kernel_rfl)) (fun _ _ _ h => h) (Or.inl ⟨by rfl, ?_⟩) ?_ ?_
  rotate_left
  {
  intro w'
  go_simp
  with_reducible rfl }
  rotate_left
  {
  simp only [Act.put, sT, s0, s1, i64_w, i32_w]
  rfl }
  refine pure_ (i := 10) (N := some 39) (v := ?_) (a' := ?_) #[true, true, true, true, true, true, true, false, true, true, true, false, false, false, false] rfl rfl (any_of HT_.out (by kernel_rfl)) (fun _ _ _ h => h) (Or.inl ⟨by rfl, ?_⟩) ?_ ?_
  rotate_left
  {
  intro w'
  go_simp
  with_reducible rfl }
  rotate_left
  {
  simp only [Act.put, sT, s0, s1, i64_w, i32_w]
  rfl }
  refine pure_ (i := 11) (N := some 40) (v := ?_) (a' := ?_) #[true, true, true, true, true, true, true, false, true, true, true, true, false, false, false] rfl rfl (any_of HT_.out (by kernel_rfl)) (fun _ _ _ h => h) (Or.inl ⟨by rfl, ?_⟩) ?_ ?_
  rotate_left
  {
  intro w'
  go_simp
  with_reducible rfl }
  rotate_left
  {
  simp only [Act.put, sT, s0, s1, i64_w, i32_w]
  rfl }
  refine take_ (i := 7) (N := some 36) (v := ?_) (a' := ?_) #[true, true, true, true, true, true, true, true, true, true, true, true, false, false, false] rfl rfl (take_ofW HT_.out HW_.out (by kernel_rfl)) (fun _ _ _ h => h) (Or.inl ⟨by rfl, ?_⟩) hHeld ?_ ?_
  rotate_left
  {
  rintro w' ⟨s0, s1, s2, s3, s4, s5, s6, s7, s8, s9⟩
  go_simp
  with_reducible rfl }
  rotate_left
  {
  simp only [Act.put, sT, s0, s1, i64_w, i32_w]
  rfl }
  refine take_ (i := 12) (N := some 41) (v := ?_) (a' := ?_) #[true, true, true, true, true, true, true, true, true, true, true, true, true, false, false] rfl rfl (take_ofW HT_.out HW_.out (by kernel_rfl)) (fun _ _ _ h => h) (Or.inl ⟨by rfl, ?_⟩) hHeld ?_ ?_
  rotate_left
  {
  rintro w' ⟨s0, s1, s2, s3, s4, s5, s6, s7, s8, s9⟩
  go_simp
  with_reducible rfl }
  rotate_left
  {
  simp only [Act.put, sT, s0, s1, i64_w, i32_w]
  rfl }
  refine pure_ (i := 13) (N := some 42) (v := ?_) (a' := ?_) #[true, true, true, true, true, true, true, true, true, true, true, true, true, true, false] rfl rfl (any_of HT_.out (by kernel_rfl)) (fun _ _ _ h => h) (Or.inl ⟨by rfl, ?_⟩) ?_ ?_
  rotate_left
  {
  intro w'
  go_simp
  with_reducible rfl }
  rotate_left
  {
  simp only [Act.put, sT, s0, s1, i64_w, i32_w]
  rfl }
  refine pure_ (i := 14) (N := some 43) (v := ?_) (a' := ?_) #[true, true, true, true, true, true, true, true, true, true, true, true, true, true, true] rfl rfl (any_of HT_.out (by kernel_rfl)) (fun _ _ _ h => h) (Or.inl ⟨by rfl, ?_⟩) ?_ ?_
  rotate_left
  {
  intro w'
  go_simp
  with_reducible rfl }
  rotate_left
  {
  simp only [Act.put, sT, s0, s1, i64_w, i32_w]
  rfl }
  refine done_ (done_of HT_.out (by kernel_rfl)) ?_
  try go_wp2
  go_ret
  exact ⟨by first | rfl | (simp [errW_none, errW_some] <;> rfl) | (simp [*, errW_none, errW_some] <;> rfl), by repeat (first | (with_reducible first | exact HB.out | apply below_alloc | apply pw_below_drewN | apply below_drew1) | exact HB.out)⟩ } }
  {
  replace c8 := Bool.eq_false_iff.mpr c8
  subst c8
  have H1 : (some false) = some r := by rw [if_neg (show ¬ (false = true) by decide)] at H; exact H
  clear H
  have H := H1
  clear H1
  obtain rfl := Option.some.inj H
  try go_wp2
  have n0_ := aS (below_drew1 HB.out)
  clear HB
  have HB := n0_
  clear n0_
  have p200 : 0 ≤ (x5_1 : Int) := dd
  have q200 : x5_1 < (l0.length : Int) := dd
  obtain ⟨ad200, A200_3, c200_3, e200, hx200_0, hx200_1, hx200_2, hx200_3, hx200_4, hl200_3, hi200_3⟩ := at_T50 HR0.out x5_1 p200 q200
  have hw200_4 := hx200_4
  have hw200_3 := hx200_3
  have hw200_2 := hx200_2
  have hw200_1 := hx200_1
  have hw200_0 := hx200_0
  cases e200
  replace hx200_0 := cc HB.out hx200_0
  replace hx200_1 := cc HB.out hx200_1
  replace hx200_2 := cc HB.out hx200_2
  replace hx200_3 := cc HB.out hx200_3
  replace hx200_4 := cc HB.out hx200_4
  have HR200_3 := aS hi200_3
  have HC200_3 := aS hl200_3
  clear hi200_3 hl200_3
  replace p200 := eq_true p200
  replace q200 := eq_true q200
  have p201 : 0 ≤ (x5_1 : Int) := dd
  have q201 : x5_1 < (l1.length : Int) := dd
  obtain ⟨ad201, A201_3, c201_3, e201, hx201_0, hx201_1, hx201_2, hx201_3, hx201_4, hl201_3, hi201_3⟩ := at_T50 HR1.out x5_1 p201 q201
  have hw201_4 := hx201_4
  have hw201_3 := hx201_3
  have hw201_2 := hx201_2
  have hw201_1 := hx201_1
  have hw201_0 := hx201_0
  cases e201
  replace hx201_0 := cc HB.out hx201_0
  replace hx201_1 := cc HB.out hx201_1
  replace hx201_2 := cc HB.out hx201_2
  replace hx201_3 := cc HB.out hx201_3
  replace hx201_4 := cc HB.out hx201_4
  have HR201_3 := aS hi201_3
  have HC201_3 := aS hl201_3
  clear hi201_3 hl201_3
  replace p201 := eq_true p201
  replace q201 := eq_true q201
  refine start_ (n := 12) (S := fun w' => w'.cell? (ad200.add ((x5_1).toNat * 5)) = some (.int .i64 ((rd_T50 l0 x5_1).f0.f0)) ∧ w'.cell? ⟨(ad200.add ((x5_1).toNat * 5)).block, (ad200.add ((x5_1).toNat * 5)).off + 1, none⟩ = some (.int .i64 ((rd_T50 l0 x5_1).f0.f1)) ∧ w'.cell? ⟨(ad200.add ((x5_1).toNat * 5)).block, (ad200.add ((x5_1).toNat * 5)).off + 2, none⟩ = some (.int .i64 ((rd_T50 l0 x5_1).f0.f2)) ∧ w'.cell? ⟨(ad200.add ((x5_1).toNat * 5)).block, (ad200.add ((x5_1).toNat * 5)).off + 3, none⟩ = some (.slice A200_3 ((rd_T50 l0 x5_1).f0.f3).length c200_3) ∧ w'.cell? ⟨(ad200.add ((x5_1).toNat * 5)).block, (ad200.add ((x5_1).toNat * 5)).off + 4, none⟩ = some (.int .i64 ((rd_T50 l0 x5_1).f1)) ∧ w'.cell? (ad201.add ((x5_1).toNat * 5)) = some (.int .i64 ((rd_T50 l1 x5_1).f0.f0)) ∧ w'.cell? ⟨(ad201.add ((x5_1).toNat * 5)).block, (ad201.add ((x5_1).toNat * 5)).off + 1, none⟩ = some (.int .i64 ((rd_T50 l1 x5_1).f0.f1)) ∧ w'.cell? ⟨(ad201.add ((x5_1).toNat * 5)).block, (ad201.add ((x5_1).toNat * 5)).off + 2, none⟩ = some (.int .i64 ((rd_T50 l1 x5_1).f0.f2)) ∧ w'.cell? ⟨(ad201.add ((x5_1).toNat * 5)).block, (ad201.add ((x5_1).toNat * 5)).off + 3, none⟩ = some (.slice A201_3 ((rd_T50 l1 x5_1).f0.f3).length c201_3) ∧ w'.cell? ⟨(ad201.add ((x5_1).toNat * 5)).block, (ad201.add ((x5_1).toNat * 5)).off + 4, none⟩ = some (.int .i64 ((rd_T50 l1 x5_1).f1))) (ds := []) #[false, false, false, false, false, false, false, false, false, false, false, false] (by kernel_rfl) rfl rfl ⟨(cc HB.out hw200_0), (cc HB.out hw200_1), (cc HB.out hw200_2), (cc HB.out hw200_3), (cc HB.out hw200_4), (cc HB.out hw201_0), (cc HB.out hw201_1), (cc HB.out hw201_2), (cc HB.out hw201_3), (cc HB.out hw201_4)⟩ (fun hHeld => ?_); refine with_tabW hallmootref13_Undos.tab6 hallmootref13_Undos.bits6 (fun HT_ HW_ => ?_)
  generalize wr.drew = w16 at HB HR200_3 HR201_3 hx200_0 hx200_1 hx200_2 hx200_3 hx200_4 hx201_0 hx201_1 hx201_2 hx201_3 hx201_4 hHeld ⊢
  refine pure_ (i := 0) (N := some 18) (v := ?_) (a' := ?_) #[true, false, false, false, false, false, false, false, false, false, false, false] rfl rfl (any_of HT_.out (by kernel_rfl)) (fun _ _ _ h => h) (Or.inl ⟨by rfl, ?_⟩) ?_ ?_
  rotate_left
  {
  intro w'
  go_simp
  with_reducible rfl }
  rotate_left
  {
  simp only [Act.put, sT, s0, s1, i64_w, i32_w]
  rfl }
  refine pure_ (i := 1) (N := some 19) (v := ?_) (a' := ?_) #[true, true, false, false, false, false, false, false, false, false, false, false] rfl rfl (any_of HT_.out (by kernel_rfl)) (fun _ _ _ h => h) (Or.inl ⟨by rfl, ?_⟩) ?_ ?_
  rotate_left
  {
  intro w'
  go_simp
  with_reducible rfl }
  rotate_left
  {
  simp only [Act.put, sT, s0, s1, i64_w, i32_w]
  rfl }
  refine pure_ (i := 2) (N := some 20) (v := ?_) (a' := ?_) #[true, true, true, false, false, false, false, false, false, false, false, false] rfl rfl (any_of HT_.out (by kernel_rfl)) (fun _ _ _ h => h) (Or.inl ⟨by rfl, ?_⟩) ?_ ?_
  rotate_left
  {
  intro w'
  go_simp
  with_reducible rfl }
  rotate_left
  {
  simp only [Act.put, sT, s0, s1, i64_w, i32_w]
  rfl }
  refine pure_ (i := 3) (N := some 21) (v := ?_) (a' := ?_) #[true, true, true, true, false, false, false, false, false, false, false, false] rfl rfl (any_of HT_.out (by kernel_rfl)) (fun _ _ _ h => h) (Or.inl ⟨by rfl, ?_⟩) ?_ ?_
  rotate_left
  {
  intro w'
  go_simp
  with_reducible rfl }
  rotate_left
  {
  simp only [Act.put, sT, s0, s1, i64_w, i32_w]
  rfl }
  refine pure_ (i := 5) (N := some 23) (v := ?_) (a' := ?_) #[true, true, true, true, false, true, false, false, false, false, false, false] rfl rfl (any_of HT_.out (by kernel_rfl)) (fun _ _ _ h => h) (Or.inl ⟨by rfl, ?_⟩) ?_ ?_
  rotate_left
  {
  intro w'
  go_simp
  with_reducible rfl }
  rotate_left
  {
  simp only [Act.put, sT, s0, s1, i64_w, i32_w]
  rfl }
  refine pure_ (i := 6) (N := some 24) (v := ?_) (a' := ?_) #[true, true, true, true, false, true, true, false, false, false, false, false] rfl rfl (any_of HT_.out (by kernel_rfl)) (fun _ _ _ h => h) (Or.inl ⟨by rfl, ?_⟩) ?_ ?_
  rotate_left
  {
  intro w'
  go_simp
  with_reducible rfl }
  rotate_left
  {
  simp only [Act.put, sT, s0, s1, i64_w, i32_w]
  rfl }
  refine pure_ (i := 7) (N := some 25) (v := ?_) (a' := ?_) #[true, true, true, true, false, true, true, true, false, false, false, false] rfl rfl (any_of HT_.out (by kernel_rfl)) (fun _ _ _ h => h) (Or.inl ⟨by rfl, ?_⟩) ?_ ?_
  rotate_left
  {
  intro w'
  go_simp
  with_reducible rfl }
  rotate_left
  {
  simp only [Act.put, sT, s0, s1, i64_w, i32_w]
  rfl }
  refine pure_ (i := 8) (N := some 26) (v := ?_) (a' := ?_) #[true, true, true, true, false, true, true, true, true, false, false, false] rfl rfl (any_of HT_.out (by kernel_rfl)) (fun _ _ _ h => h) (Or.inl ⟨by rfl, ?_⟩) ?_ ?_
  rotate_left
  {
  intro w'
  go_simp
  with_reducible rfl }
  rotate_left
  {
  simp only [Act.put, sT, s0, s1, i64_w, i32_w]
  rfl }
  refine take_ (i := 4) (N := some 22) (v := ?_) (a' := ?_) #[true, true, true, true, true, true, true, true, true, false, false, false] rfl rfl (take_ofW HT_.out HW_.out (by kernel_rfl)) (fun _ _ _ h => h) (Or.inl ⟨by rfl, ?_⟩) hHeld ?_ ?_
  rotate_left
  {
  rintro w' ⟨s0, s1, s2, s3, s4, s5, s6, s7, s8, s9⟩
  go_simp
  with_reducible rfl }
  rotate_left
  {
  simp only [Act.put, sT, s0, s1, i64_w, i32_w]
  rfl }
  refine take_ (i := 9) (N := some 27) (v := ?_) (a' := ?_) #[true, true, true, true, true, true, true, true, true, true, false, false] rfl rfl (take_ofW HT_.out HW_.out (by kernel_rfl)) (fun _ _ _ h => h) (Or.inl ⟨by rfl, ?_⟩) hHeld ?_ ?_
  rotate_left
  {
  rintro w' ⟨s0, s1, s2, s3, s4, s5, s6, s7, s8, s9⟩
  go_simp
  with_reducible rfl }
  rotate_left
  {
  simp only [Act.put, sT, s0, s1, i64_w, i32_w]
  rfl }
  refine one_ (i := 10) (N := some 28) #[true, true, true, true, true, true, true, true, true, true, true, false] rfl rfl (one_of HT_.out (by kernel_rfl)) (by decide) (fun K hK => ?_)
  refine goes_ Try.func52 (by kernel_rfl) rfl #[.agg #[.int .i64 ((rd_T50 l0 x5_1).f0.f0), .int .i64 ((rd_T50 l0 x5_1).f0.f1), .int .i64 ((rd_T50 l0 x5_1).f0.f2), .slice A200_3 ((rd_T50 l0 x5_1).f0.f3).length c200_3], .agg #[.int .i64 ((rd_T50 l1 x5_1).f0.f0), .int .i64 ((rd_T50 l1 x5_1).f0.f1), .int .i64 ((rd_T50 l1 x5_1).f0.f2), .slice A201_3 ((rd_T50 l1 x5_1).f0.f3).length c201_3]] (by rfl) rfl rfl (by (try simp only [List.map_toArray, List.map_cons, List.map_nil]); first | done | rfl | (simp only [List.length_drop, List.length_take]; rfl)) ?_
  with_reducible refine (hallmootref13_value.calls k1 ((rd_T50 l0 x5_1).f0.f0) ((rd_T50 l0 x5_1).f0.f1) ((rd_T50 l0 x5_1).f0.f2) _ _ ((rd_T50 l0 x5_1).f0.f3) ((rd_T50 l1 x5_1).f0.f0) ((rd_T50 l1 x5_1).f0.f1) ((rd_T50 l1 x5_1).f0.f2) _ _ ((rd_T50 l1 x5_1).f0.f3) false _ ?side1 ?side2 ?side3 ?side4 A7.out).mono ?_
  (case side1 => repeat (first | exact (Kd.C_below HR200_3.out HB.out) | (with_reducible refine Kd.C_alloc ?_ _) | (with_reducible refine Kd.C_drewN ?_ _) | (with_reducible refine Kd.C_drew ?_)))
  (case side2 => exact HC200_3.out)
  (case side3 => repeat (first | exact (Kd.C_below HR201_3.out HB.out) | (with_reducible refine Kd.C_alloc ?_ _) | (with_reducible refine Kd.C_drewN ?_ _) | (with_reducible refine Kd.C_drew ?_)))
  (case side4 => exact HC201_3.out)
  rintro e w17 ⟨rfl, hb⟩
  refine ⟨_, rfl, ?_⟩
  have n0_ := aS (below_step bb hb)
  clear HB
  have HB := n0_
  clear n0_
  (try clear hb)
  (try clear hb2)
  (try clear hk)
  (try clear hi)
  refine hK.out _ _ ⟨(cc HB.out hw200_0), (cc HB.out hw200_1), (cc HB.out hw200_2), (cc HB.out hw200_3), (cc HB.out hw200_4), (cc HB.out hw201_0), (cc HB.out hw201_1), (cc HB.out hw201_2), (cc HB.out hw201_3), (cc HB.out hw201_4)⟩ (fun hHeld => ?_)
  clear hK K
  refine norm_ (a' := ?_) ?_ ?_
  rotate_left
  {
  show Act.put _ (some 28) _ = _
  simp only [Act.put, sT, s0, s1, i64_w, i32_w]
  rfl }
  refine pure_ (i := 11) (N := some 6) (v := ?_) (a' := ?_) #[true, true, true, true, true, true, true, true, true, true, true, true] rfl rfl (any_of HT_.out (by kernel_rfl)) (fun _ _ _ h => h) (Or.inl ⟨by rfl, ?_⟩) ?_ ?_
  rotate_left
  {
  intro w'
  go_simp
  with_reducible rfl }
  rotate_left
  {
  simp only [Act.put, sT, s0, s1, i64_w, i32_w]
  rfl }
  refine done_ (done_of HT_.out (by kernel_rfl)) ?_
  try go_wp2
  have n0_ := aS (below_drew1 HB.out)
  clear HB
  have HB := n0_
  clear n0_
  refine start_ (n := 15) (S := fun w' => True) (ds := []) #[false, false, false, false, false, false, false, false, false, false, false, false, false, false, false] (by kernel_rfl) rfl rfl trivial (fun hHeld => ?_); refine with_tabW hallmootref13_Undos.tab7 hallmootref13_Undos.bits7 (fun HT_ HW_ => ?_)
  generalize w17.drew = w18 at HB hHeld ⊢
  refine pure_ (i := 0) (N := some 29) (v := ?_) (a' := ?_) #[true, false, false, false, false, false, false, false, false, false, false, false, false, false, false] rfl rfl (any_of HT_.out (by kernel_rfl)) (fun _ _ _ h => h) (Or.inl ⟨by rfl, ?_⟩) ?_ ?_
  rotate_left
  {
  intro w'
  go_simp
  with_reducible rfl }
  rotate_left
  {
  simp only [Act.put, sT, s0, s1, i64_w, i32_w]
  rfl }
  refine pure_ (i := 1) (N := some 30) (v := ?_) (a' := ?_) #[true, true, false, false, false, false, false, false, false, false, false, false, false, false, false] rfl rfl (any_of HT_.out (by kernel_rfl)) (fun _ _ _ h => h) (Or.inl ⟨by rfl, ?_⟩) ?_ ?_
  rotate_left
  {
  intro w'
  go_simp
  with_reducible rfl }
  rotate_left
  {
  simp only [Act.put, sT, s0, s1, i64_w, i32_w]
  rfl }
  refine pure_ (i := 2) (N := some 31) (v := ?_) (a' := ?_) #[true, true, true, false, false, false, false, false, false, false, false, false, false, false, false] rfl rfl (any_of HT_.out (by kernel_rfl)) (fun _ _ _ h => h) (Or.inl ⟨by rfl, ?_⟩) ?_ ?_
  rotate_left
  {
  intro w'
  go_simp
  with_reducible rfl }
  rotate_left
  {
  simp only [Act.put, sT, s0, s1, i64_w, i32_w]
  rfl }
  refine pure_ (i := 3) (N := some 32) (v := undef) (a' := ?_) #[true, true, true, true, false, false, false, false, false, false, false, false, false, false, false] rfl rfl (any_of HT_.out (by kernel_rfl)) (fun _ _ _ h => h) (Or.inr ⟨by rfl, rfl⟩) ?_ ?_
  rotate_left
  {
  simp only [Act.put, sT, s0, s1, i64_w, i32_w]
  rfl }
  refine pure_ (i := 4) (N := some 33) (v := undef) (a' := ?_) #[true, true, true, true, true, false, false, false, false, false, false, false, false, false, false] rfl rfl (any_of HT_.out (by kernel_rfl)) (fun _ _ _ h => h) (Or.inr ⟨by rfl, rfl⟩) ?_ ?_
  rotate_left
  {
  simp only [Act.put, sT, s0, s1, i64_w, i32_w]
  rfl }
  refine pure_ (i := 5) (N := some 34) (v := undef) (a' := ?_) #[true, true, true, true, true, true, false, false, false, false, false, false, false, false, false] rfl rfl (any_of HT_.out (by kernel_rfl)) (fun _ _ _ h => h) (Or.inr ⟨by rfl, rfl⟩) ?_ ?_
  rotate_left
  {
  simp only [Act.put, sT, s0, s1, i64_w, i32_w]
  rfl }
  refine pure_ (i := 6) (N := some 35) (v := undef) (a' := ?_) #[true, true, true, true, true, true, true, false, false, false, false, false, false, false, false] rfl rfl (any_of HT_.out (by kernel_rfl)) (fun _ _ _ h => h) (Or.inr ⟨by rfl, rfl⟩) ?_ ?_
  rotate_left
  {
  simp only [Act.put, sT, s0, s1, i64_w, i32_w]
  rfl }
  refine pure_ (i := 7) (N := some 36) (v := undef) (a' := ?_) #[true, true, true, true, true, true, true, true, false, false, false, false, false, false, false] rfl rfl (any_of HT_.out (by kernel_rfl)) (fun _ _ _ h => h) (Or.inr ⟨by rfl, rfl⟩) ?_ ?_
  rotate_left
  {
  simp only [Act.put, sT, s0, s1, i64_w, i32_w]
  rfl }
  refine pure_ (i := 8) (N := some 37) (v := undef) (a' := ?_) #[true, true, true, true, true, true, true, true, true, false, false, false, false, false, false] rfl rfl (any_of HT_.out (by kernel_rfl)) (fun _ _ _ h => h) (Or.inr ⟨by rfl, rfl⟩) ?_ ?_
  rotate_left
  {
  simp only [Act.put, sT, s0, s1, i64_w, i32_w]
  rfl }
  refine pure_ (i := 9) (N := some 38) (v := undef) (a' := ?_) #[true, true, true, true, true, true, true, true, true, true, false, false, false, false, false] rfl rfl (any_of HT_.out (by kernel_rfl)) (fun _ _ _ h => h) (Or.inr ⟨by rfl, rfl⟩) ?_ ?_
  rotate_left
  {
  simp only [Act.put, sT, s0, s1, i64_w, i32_w]
  rfl }
  refine pure_ (i := 10) (N := some 39) (v := undef) (a' := ?_) #[true, true, true, true, true, true, true, true, true, true, true, false, false, false, false] rfl rfl (any_of HT_.out (by kernel_rfl)) (fun _ _ _ h => h) (Or.inr ⟨by rfl, rfl⟩) ?_ ?_
  rotate_left
  {
  simp only [Act.put, sT, s0, s1, i64_w, i32_w]
  rfl }
  refine pure_ (i := 11) (N := some 40) (v := undef) (a' := ?_) #[true, true, true, true, true, true, true, true, true, true, true, true, false, false, false] rfl rfl (any_of HT_.out (by kernel_rfl)) (fun _ _ _ h => h) (Or.inr ⟨by rfl, rfl⟩) ?_ ?_
  rotate_left
  {
  simp only [Act.put, sT, s0, s1, i64_w, i32_w]
  rfl }
  refine pure_ (i := 12) (N := some 41) (v := undef) (a' := ?_) #[true, true, true, true, true, true, true, true, true, true, true, true, true, false, false] rfl rfl (any_of HT_.out (by kernel_rfl)) (fun _ _ _ h => h) (Or.inr ⟨by rfl, rfl⟩) ?_ ?_
  rotate_left
  {
  simp only [Act.put, sT, s0, s1, i64_w, i32_w]
  rfl }
  refine pure_ (i := 13) (N := some 42) (v := undef) (a' := ?_) #[true, true, true, true, true, true, true, true, true, true, true, true, true, true, false] rfl rfl (any_of HT_.out (by kernel_rfl)) (fun _ _ _ h => h) (Or.inr ⟨by rfl, rfl⟩) ?_ ?_
  rotate_left
  {
  simp only [Act.put, sT, s0, s1, i64_w, i32_w]
  rfl }
  refine pure_ (i := 14) (N := some 43) (v := ?_) (a' := ?_) #[true, true, true, true, true, true, true, true, true, true, true, true, true, true, true] rfl rfl (any_of HT_.out (by kernel_rfl)) (fun _ _ _ h => h) (Or.inl ⟨by rfl, ?_⟩) ?_ ?_
  rotate_left
  {
  intro w'
  go_simp
  with_reducible rfl }
  rotate_left
  {
  simp only [Act.put, sT, s0, s1, i64_w, i32_w]
  rfl }
  refine done_ (done_of HT_.out (by kernel_rfl)) ?_
  try go_wp2
  go_ret
  exact ⟨by first | rfl | (simp [errW_none, errW_some] <;> rfl) | (simp [*, errW_none, errW_some] <;> rfl), by repeat (first | (with_reducible first | exact HB.out | apply below_alloc | apply pw_below_drewN | apply below_drew1) | exact HB.out)⟩ } }
  {
  rw [if_neg c6] at H
  exact absurd H (by simp) } }
  {
  rw [if_neg c5] at H
  exact absurd H (by simp) } }
  {
  rw [if_neg c4] at H
  have c4b0 : decide (x5_1 < (l0.length : Int)) = false := decide_eq_false c4
  clear c4
  obtain rfl := Option.some.inj H
  go_wp2
  go_ret
  exact ⟨by first | rfl | (simp [errW_none, errW_some] <;> rfl) | (simp [*, errW_none, errW_some] <;> rfl), by repeat (first | (with_reducible first | exact HB.out | apply below_alloc | apply pw_below_drewN | apply below_drew1) | exact HB.out)⟩ } } }
 {
 rw [if_neg c3] at H
 have c3b0 : ((l0.length : Int) == (l1.length : Int)) = false := beq_eq_false_iff_ne.mpr c3
 have c3b1 : ((l0.length : Int) != (l1.length : Int)) = true := bne_iff_ne.mpr c3
 have c3b2 : (l0.length == l1.length) = false := by first | simpa using c3 | (simp at c3 ⊢; omega)
 obtain rfl := Option.some.inj H
 go_enter Try.func25, Try.ntmps25
 go_wp2
 go_ret
 exact ⟨by first | rfl | (simp [errW_none, errW_some] <;> rfl) | (simp [*, errW_none, errW_some] <;> rfl), by repeat (first | (with_reducible first | exact HB.out | apply below_alloc | apply pw_below_drewN | apply below_drew1) | exact HB.out)⟩ }

end Go.Proofs.Ytfojpobblebigaa.P
