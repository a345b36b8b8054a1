-- Written by pp.py (this session's program over the kit's printer): functions, contracts. Not trusted: Lean checks it.
import Derived.Test.YtdaonhgcejjlhaaYM0
namespace Go.Proofs.Ytdaonhgcejjlhaa.P
open Go.RowKit Go.Proofs.YtdaonhgcejjlhaaW.PrintWords Go.Proofs.YtdaonhgcejjlhaaW.PrintLast Go.Proofs.YtdaonhgcejjlhaaW.PrintMore
attribute [local go_sem] max2_int min2_int max_two min_two max_three min_three max_four min_four   -- for this text's walks alone
set_option linter.unusedVariables false
set_option linter.unusedSimpArgs false

/-! ### dWriteOk: function 17 -/
def dWriteOk.f (l0_0 : List ByteArray) (l0_1 : List (S46)) (a1 : Int) (a2 : ByteArray) : Option (List ByteArray × (List (S46)) × Int) := (disk_has.f l0_0 l0_1 a1).bind fun t127 => (if t127 = true then (if (a2.size : Int) = 32 then ((cloneS.f l0_0).bind fun t128 => ((cloneW.f l0_1).bind fun t131 => (if 0 ≤ a1 then (if a1 < (l0_0.length : Int) then ((some (([(⟨a1, rdOf ByteArray.empty l0_0 a1⟩ : S46)] : List (S46)) : List (S46))).bind fun y135 => (if t131.length + y135.length < 5864062014805 then (if a1 < (t128.length : Int) then (some ((t128.set (a1 : Int).toNat a2), (t131 ++ y135), 0)) else (none)) else (none))) else (none)) else (none)))) else (none)) else (none))
def dWriteOk.T5 : Bool × List (List Nat × List Nat) := (true, [([], []), ([0], [0]), ([1], [1]), ([], []), ([3], [3]), ([4, 2], [4]), ([], []), ([], []), ([7], [7]), ([], []), ([8, 9], [8, 9]), ([10], [10]), ([6, 11], [6, 11]), ([12], [12]), ([5, 13, 5], [5, 13]), ([2, 14], [2, 14]), ([], []), ([16, 15, 14, 0, 1, 2, 3, 4, 5, 6, 7, 8, 9, 10, 11, 12, 13, 14, 15, 16], [15, 16])])
def dWriteOk.B5 : List Nat := [0, 1, 3, 0, 8, 31, 0, 0, 128, 0, 896, 1920, 4032, 8128, 16383, 32767, 0, 131071]
theorem dWriteOk.tab5 : rtab .any (opsOf Try.f17 5) = dWriteOk.T5 := by kernel_rfl
theorem dWriteOk.bits5 : waitsOk dWriteOk.T5.2 dWriteOk.B5 = true := by kernel_rfl
set_option maxHeartbeats 8000000 in
set_option maxRecDepth 100000 in
theorem dWriteOk.calls (A0_0 : Option Addr) (c0_0 : Nat) (l0_0 : List ByteArray) (A0_1 : Option Addr) (c0_1 : Nat) (l0_1 : List (S46)) (a1 : Int) (a2 : ByteArray) (r1 : List ByteArray) (r2 : List (S46)) (r3 : Int) (w : World) (hr0_0 : Kd.C Kd.string w A0_0 l0_0.length l0_0) (hc0_0 : l0_0.length ≤ c0_0) (hr0_1 : Kd.C k46 w A0_1 l0_1.length l0_1) (hc0_1 : l0_1.length ≤ c0_1) (h : dWriteOk.f l0_0 l0_1 a1 a2 = some (r1, r2, r3)) : Calls Try.prog 17 #[.agg #[.slice A0_0 l0_0.length c0_0, .slice A0_1 l0_1.length c0_1], .int .i64 a1, .string a2] w fun e w' => ∃ v0_ v1_ : Value, e = .returned (.tuple #[.agg #[v0_, v1_], .int .i64 r3]) ∧ Kd.R Kd.string 9 w' w.heap.size (fun _ => True) v0_ r1 ∧ Kd.R k46 46 w' w.heap.size (fun _ => True) v1_ r2 ∧ Below w.heap.size w w' := by
 have hu25 := Try.underlying25
 have hu46 := Try.underlying46
 have HR0_0 := aS hr0_0
 have HC0_0 := aS hc0_0
 clear hr0_0 hc0_0
 have HR0_1 := aS hr0_1
 have HC0_1 := aS hc0_1
 clear hr0_1 hc0_1
 have HB := aS (Below.refl w.heap.size w)
 have H : ((disk_has.f l0_0 l0_1 a1).bind fun t127 => (if t127 = true then (if (a2.size : Int) = 32 then ((cloneS.f l0_0).bind fun t128 => ((cloneW.f l0_1).bind fun t131 => (if 0 ≤ a1 then (if a1 < (l0_0.length : Int) then ((some (([(⟨a1, rdOf ByteArray.empty l0_0 a1⟩ : S46)] : List (S46)) : List (S46))).bind fun y135 => (if t131.length + y135.length < 5864062014805 then (if a1 < (t128.length : Int) then (some ((t128.set (a1 : Int).toNat a2), (t131 ++ y135), 0)) else (none)) else (none))) else (none)) else (none)))) else (none)) else (none))) = some (r1, r2, r3) := h
 clear h
 replace H := Option.bind_eq_some_iff.mp H
 obtain ⟨t127, A40, H⟩ := H
 replace H : (if t127 = true then (if (a2.size : Int) = 32 then ((cloneS.f l0_0).bind fun t128 => ((cloneW.f l0_1).bind fun t131 => (if 0 ≤ a1 then (if a1 < (l0_0.length : Int) then ((some (([(⟨a1, rdOf ByteArray.empty l0_0 a1⟩ : S46)] : List (S46)) : List (S46))).bind fun y135 => (if t131.length + y135.length < 5864062014805 then (if a1 < (t128.length : Int) then (some ((t128.set (a1 : Int).toNat a2), (t131 ++ y135), 0)) else (none)) else (none))) else (none)) else (none)))) else (none)) else (none)) = some (r1, r2, r3) := H
 have A4 := aS A40
 clear A40
 by_cases c5 : t127 = true
 {
 subst c5
 have H1 : (if (a2.size : Int) = 32 then ((cloneS.f l0_0).bind fun t128 => ((cloneW.f l0_1).bind fun t131 => (if 0 ≤ a1 then (if a1 < (l0_0.length : Int) then ((some (([(⟨a1, rdOf ByteArray.empty l0_0 a1⟩ : S46)] : List (S46)) : List (S46))).bind fun y135 => (if t131.length + y135.length < 5864062014805 then (if a1 < (t128.length : Int) then (some ((t128.set (a1 : Int).toNat a2), (t131 ++ y135), 0)) else (none)) else (none))) else (none)) else (none)))) else (none)) = some (r1, r2, r3) := by rw [if_pos rfl] at H; exact H
 clear H
 have H := H1
 clear H1
 by_cases c6 : (a2.size : Int) = 32
 {
 rw [if_pos c6] at H
 have c6b0 : ((a2.size : Int) == 32) = true := beq_iff_eq.mpr c6
 have c6b1 : ((a2.size : Int) != 32) = false := bne_eq_false_iff_eq.mpr c6
 clear c6
 replace H := Option.bind_eq_some_iff.mp H
 obtain ⟨t128, A70, H⟩ := H
 replace H : ((cloneW.f l0_1).bind fun t131 => (if 0 ≤ a1 then (if a1 < (l0_0.length : Int) then ((some (([(⟨a1, rdOf ByteArray.empty l0_0 a1⟩ : S46)] : List (S46)) : List (S46))).bind fun y135 => (if t131.length + y135.length < 5864062014805 then (if a1 < (t128.length : Int) then (some ((t128.set (a1 : Int).toNat a2), (t131 ++ y135), 0)) else (none)) else (none))) else (none)) else (none))) = some (r1, r2, r3) := H
 have A7 := aS A70
 clear A70
 replace H := Option.bind_eq_some_iff.mp H
 obtain ⟨t131, A80, H⟩ := H
 replace H : (if 0 ≤ a1 then (if a1 < (l0_0.length : Int) then ((some (([(⟨a1, rdOf ByteArray.empty l0_0 a1⟩ : S46)] : List (S46)) : List (S46))).bind fun y135 => (if t131.length + y135.length < 5864062014805 then (if a1 < (t128.length : Int) then (some ((t128.set (a1 : Int).toNat a2), (t131 ++ y135), 0)) else (none)) else (none))) else (none)) else (none)) = some (r1, r2, r3) := H
 have A8 := aS A80
 clear A80
 by_cases c9 : 0 ≤ a1
 {
 rw [if_pos c9] at H
 have c9b0 : decide (0 ≤ a1) = true := decide_eq_true c9
 clear c9
 by_cases c10 : a1 < (l0_0.length : Int)
 {
 rw [if_pos c10] at H
 have c10b0 : decide (a1 < (l0_0.length : Int)) = true := decide_eq_true c10
 clear c10
 obtain ⟨y135, hy135⟩ : ∃ y_ : List (S46), y_ = (([(⟨a1, rdOf ByteArray.empty l0_0 a1⟩ : S46)] : List (S46))) := ⟨_, rfl⟩
 replace H : (if t131.length + y135.length < 5864062014805 then (if a1 < (t128.length : Int) then (some ((t128.set (a1 : Int).toNat a2), (t131 ++ y135), 0)) else (none)) else (none)) = some (r1, r2, r3) := by first | (rw [hy135]; with_reducible exact H) | (have H2_ := (Option.bind_some _ _).symm.trans H; rw [hy135]; with_reducible exact H2_) | (have H2_ := (Option.bind_some _ _).symm.trans H; with_reducible exact H2_) | with_reducible exact H | (rw [hy135]; exact H) | exact H
 have Ny135 := aS hy135
 clear hy135
 by_cases c11 : t131.length + y135.length < 5864062014805
 {
 rw [if_pos c11] at H
 have LMc11 := aS c11
 clear c11
 obtain ⟨y138, hy138⟩ : ∃ y_ : List (S46), y_ = (t131 ++ y135) := ⟨_, rfl⟩
 replace H : (if a1 < (t128.length : Int) then (some ((t128.set (a1 : Int).toNat a2), y138, 0)) else (none)) = some (r1, r2, r3) := by first | (rw [hy138]; with_reducible exact H) | (have H2_ := (Option.bind_some _ _).symm.trans H; rw [hy138]; with_reducible exact H2_) | (have H2_ := (Option.bind_some _ _).symm.trans H; with_reducible exact H2_) | with_reducible exact H | (rw [hy138]; exact H) | exact H
 have Ny138 := aS hy138
 clear hy138
 by_cases c12 : a1 < (t128.length : Int)
 {
 rw [if_pos c12] at H
 have c12b0 : decide (a1 < (t128.length : Int)) = true := decide_eq_true c12
 clear c12
 obtain ⟨y142, hy142⟩ : ∃ y_ : List ByteArray, y_ = (t128.set (a1 : Int).toNat a2) := ⟨_, rfl⟩
 replace H : (some (y142, y138, 0)) = some (r1, r2, r3) := by first | (rw [hy142]; with_reducible exact H) | (have H2_ := (Option.bind_some _ _).symm.trans H; rw [hy142]; with_reducible exact H2_) | (have H2_ := (Option.bind_some _ _).symm.trans H; with_reducible exact H2_) | with_reducible exact H | (rw [hy142]; exact H) | exact H
 have Ny142 := aS hy142
 clear hy142
 simp only [Option.some.injEq, Prod.mk.injEq] at H
 obtain ⟨rfl, rfl, rfl⟩ := H
 go_enter Try.func17, Try.ntmps17
 try go_wp2_with (first | ((with_reducible refine gate_dst (N := 3) rfl ?_); refine box_event ?hg (N := 3) ?hd (cs := #[.slice A0_0 l0_0.length c0_0, .slice A0_1 l0_1.length c0_1]) (t := 25) ?hr ?_; (case hd => rfl); (case hg => rfl); (case hr => first | (go_simp; done) | (go_simp; rfl)); intro gb125 hg w14 hbox hb; have n0_ := aS (below_step bb hb); have n1_ := aS (hbox); have n2_ := aS ((by rw [hg]; exact bz : w.heap.size ≤ gb125)); have n3_ := aS ((by rw [hg]; exact bz : w.heap.size ≤ gb125)); clear HB; have HB := n0_; have BK125 := n1_; have GW125 := n2_; have GE125 := n3_; clear n0_ n1_ n2_ n3_; clear hb hbox hg) | ((with_reducible refine gate_dst (N := 6) rfl ?_); refine box_event ?hg (N := 6) ?hd (cs := #[.slice none 0 0, .slice none 0 0]) (t := 25) ?hr ?_; (case hd => rfl); (case hg => rfl); (case hr => first | (go_simp; done) | (go_simp; rfl)); intro gb126 hg w15 hbox hb; have n0_ := aS (kb BK125.out hb); have n1_ := aS (below_step bb hb); have n2_ := aS (hbox); have n3_ := aS ((by rw [hg]; exact bz : w.heap.size ≤ gb126)); have n4_ := aS ((by rw [hg]; exact bz : w.heap.size ≤ gb126)); have n5_ := aS ((by rw [hg]; exact Nat.ne_of_lt (blk_lt (g := gb125) (o := .cells #[.slice A0_0 l0_0.length c0_0, .slice A0_1 l0_1.length c0_1] 25 (0, 0)) (kk BK125.out)) : gb125 ≠ gb126)); have n6_ := aS ((by rw [hg]; exact Nat.ne_of_gt (blk_lt (g := gb125) (o := .cells #[.slice A0_0 l0_0.length c0_0, .slice A0_1 l0_1.length c0_1] 25 (0, 0)) (kk BK125.out)) : gb126 ≠ gb125)); clear BK125; clear HB; have BK125 := n0_; have HB := n1_; have BK126 := n2_; have GW126 := n3_; have GE126 := n4_; have NB125_126 := n5_; have NB126_125 := n6_; clear n0_ n1_ n2_ n3_ n4_ n5_ n6_; clear hb hbox hg; have hnb16 := NB125_126.out; have hnc16 := NB126_125.out; have hcz17_0 : w15.cell? ⟨gb125, 0, none⟩ = some (.slice A0_0 l0_0.length c0_0) := (blk_cell BK125.out 0).trans rfl; have hcz17_1 : w15.cell? ⟨gb125, 1, none⟩ = some (.slice A0_1 l0_1.length c0_1) := (blk_cell BK125.out 1).trans rfl; have hfz17_0 := blk_frozen BK125.out 0; have hfz17_1 := blk_frozen BK125.out 1) | ((with_reducible refine gate_callee (f := 33) rfl ?_); refine goesL_ (some 12) rfl rfl Try.func33 (by kernel_rfl) rfl #[.agg #[.slice A0_0 l0_0.length c0_0, .slice A0_1 l0_1.length c0_1], .int .i64 a1] rfl (by (try simp only [List.map_toArray, List.map_cons, List.map_nil]); first | done | rfl | (simp only [List.length_drop, List.length_take]; rfl)) ?_; (with_reducible refine (disk_has.calls _ _ l0_0 _ _ l0_1 a1 true _ ?side1 ?side2 ?side3 ?side4 A4.out).mono ?_); (case side1 => exact Kd.C_below HR0_0.out bb); (case side2 => exact HC0_0.out); (case side3 => exact Kd.C_below HR0_1.out bb); (case side4 => exact HC0_1.out); rintro e w18 ⟨rfl, hb⟩; refine ⟨_, rfl, ?_⟩; have n0_ := aS (kb BK125.out hb); have n1_ := aS (kb BK126.out hb); have n2_ := aS (below_step bb hb); clear BK125; clear BK126; clear HB; have BK125 := n0_; have BK126 := n1_; have HB := n2_; clear n0_ n1_ n2_; (try clear hb); (try clear hb2); (try clear hk); (try clear hi)))
 have n0_ := aS (blk_drew BK125.out)
 have n1_ := aS (blk_drew BK126.out)
 have n2_ := aS (below_drew1 HB.out)
 clear BK125
 clear BK126
 clear HB
 have BK125 := n0_
 have BK126 := n1_
 have HB := n2_
 clear n0_ n1_ n2_
 have p134 : 0 ≤ (a1 : Int) := dd
 have q134 : a1 < (l0_0.length : Int) := dd
 obtain ⟨ad134, e134, hx134_0⟩ := Kd.at_string HR0_0.out a1 p134 q134
 have hw134_0 := hx134_0
 cases e134
 replace hx134_0 := cc HB.out hx134_0
 replace p134 := eq_true p134
 replace q134 := eq_true q134
 refine start_ (n := 18) (S := fun w' => w'.cell? ⟨gb125, 0, none⟩ = some (.slice (some ad134) l0_0.length c0_0) ∧ w'.cell? ⟨gb125, 1, none⟩ = some (.slice A0_1 l0_1.length c0_1) ∧ w'.cell? (ad134.add (a1).toNat) = some (.string (rdOf ByteArray.empty l0_0 a1))) (ds := []) #[false, false, false, false, false, false, false, false, false, false, false, false, false, false, false, false, false, false] (by kernel_rfl) rfl rfl ⟨(blk_cell BK125.out 0).trans rfl, (blk_cell BK125.out 1).trans rfl, (cc HB.out hw134_0)⟩ (fun hHeld => ?_); refine with_tabW dWriteOk.tab5 dWriteOk.bits5 (fun HT_ HW_ => ?_)
 generalize w18.drew = w19 at BK125 BK126 HB hx134_0 hHeld ⊢
 refine pure_ (i := 0) (N := some 20) (v := ?_) (a' := ?_) #[true, false, false, false, false, false, false, false, false, false, false, false, false, false, false, false, false, false] rfl rfl (any_of HT_.out (by kernel_rfl)) (fun _ _ _ h => h) (Or.inl ⟨by rfl, ?_⟩) ?_ ?_
 rotate_left
 {
 intro w'
 go_simp
 with_reducible rfl }
 rotate_left
 {
 simp only [Act.put, sT, s0, s1, i64_w, i32_w]
 rfl }
 refine pure_ (i := 3) (N := some 23) (v := ?_) (a' := ?_) #[true, false, false, true, false, false, false, false, false, false, false, false, false, false, false, false, false, false] rfl rfl (any_of HT_.out (by kernel_rfl)) (fun _ _ _ h => h) (Or.inl ⟨by rfl, ?_⟩) ?_ ?_
 rotate_left
 {
 intro w'
 go_simp
 with_reducible rfl }
 rotate_left
 {
 simp only [Act.put, sT, s0, s1, i64_w, i32_w]
 rfl }
 refine pure_ (i := 6) (N := some 26) (v := ?_) (a' := ?_) #[true, false, false, true, false, false, true, false, false, false, false, false, false, false, false, false, false, false] rfl rfl (any_of HT_.out (by kernel_rfl)) (fun _ _ _ h => h) (Or.inl ⟨by rfl, ?_⟩) ?_ ?_
 rotate_left
 {
 intro w'
 go_simp
 with_reducible rfl }
 rotate_left
 {
 simp only [Act.put, sT, s0, s1, i64_w, i32_w]
 rfl }
 refine pure_ (i := 7) (N := some 27) (v := ?_) (a' := ?_) #[true, false, false, true, false, false, true, true, false, false, false, false, false, false, false, false, false, false] rfl rfl (any_of HT_.out (by kernel_rfl)) (fun _ _ _ h => h) (Or.inl ⟨by rfl, ?_⟩) ?_ ?_
 rotate_left
 {
 intro w'
 go_simp
 with_reducible rfl }
 rotate_left
 {
 simp only [Act.put, sT, s0, s1, i64_w, i32_w]
 rfl }
 refine pure_ (i := 9) (N := some 29) (v := ?_) (a' := ?_) #[true, false, false, true, false, false, true, true, false, true, false, false, false, false, false, false, false, false] rfl rfl (any_of HT_.out (by kernel_rfl)) (fun _ _ _ h => h) (Or.inl ⟨by rfl, ?_⟩) ?_ ?_
 rotate_left
 {
 intro w'
 go_simp
 with_reducible rfl }
 rotate_left
 {
 simp only [Act.put, sT, s0, s1, i64_w, i32_w]
 rfl }
 refine take_ (i := 1) (N := some 21) (v := ?_) (a' := ?_) #[true, true, false, true, false, false, true, true, false, true, false, false, false, false, false, false, false, false] rfl rfl (take_ofW HT_.out HW_.out (by kernel_rfl)) (fun _ _ _ h => h) (Or.inl ⟨by rfl, ?_⟩) hHeld ?_ ?_
 rotate_left
 {
 rintro w' ⟨s0, s1, s2⟩
 go_simp
 with_reducible rfl }
 rotate_left
 {
 simp only [Act.put, sT, s0, s1, i64_w, i32_w]
 rfl }
 refine take_ (i := 4) (N := some 24) (v := ?_) (a' := ?_) #[true, true, false, true, true, false, true, true, false, true, false, false, false, false, false, false, false, false] rfl rfl (take_ofW HT_.out HW_.out (by kernel_rfl)) (fun _ _ _ h => h) (Or.inl ⟨by rfl, ?_⟩) hHeld ?_ ?_
 rotate_left
 {
 rintro w' ⟨s0, s1, s2⟩
 go_simp
 with_reducible rfl }
 rotate_left
 {
 simp only [Act.put, sT, s0, s1, i64_w, i32_w]
 rfl }
 refine take_ (i := 8) (N := some 28) (v := ?_) (a' := ?_) #[true, true, false, true, true, false, true, true, true, true, false, false, false, false, false, false, false, false] rfl rfl (take_ofW HT_.out HW_.out (by kernel_rfl)) (fun _ _ _ h => h) (Or.inl ⟨by rfl, ?_⟩) hHeld ?_ ?_
 rotate_left
 {
 rintro w' ⟨s0, s1, s2⟩
 go_simp
 with_reducible rfl }
 rotate_left
 {
 simp only [Act.put, sT, s0, s1, i64_w, i32_w]
 rfl }
 refine pure_ (i := 10) (N := some 30) (v := ?_) (a' := ?_) #[true, true, false, true, true, false, true, true, true, true, true, false, false, false, false, false, false, false] rfl rfl (any_of HT_.out (by kernel_rfl)) (fun _ _ _ h => h) (Or.inl ⟨by rfl, ?_⟩) ?_ ?_
 rotate_left
 {
 intro w'
 go_simp
 with_reducible rfl }
 rotate_left
 {
 simp only [Act.put, sT, s0, s1, i64_w, i32_w]
 rfl }
 refine take_ (i := 11) (N := some 31) (v := ?_) (a' := ?_) #[true, true, false, true, true, false, true, true, true, true, true, true, false, false, false, false, false, false] rfl rfl (take_ofW HT_.out HW_.out (by kernel_rfl)) (fun _ _ _ h => h) (Or.inl ⟨by rfl, ?_⟩) hHeld ?_ ?_
 rotate_left
 {
 rintro w' ⟨s0, s1, s2⟩
 go_simp
 with_reducible rfl }
 rotate_left
 {
 simp only [Act.put, sT, s0, s1, i64_w, i32_w]
 rfl }
 refine pure_ (i := 12) (N := some 32) (v := ?_) (a' := ?_) #[true, true, false, true, true, false, true, true, true, true, true, true, true, false, false, false, false, false] rfl rfl (any_of HT_.out (by kernel_rfl)) (fun _ _ _ h => h) (Or.inl ⟨by rfl, ?_⟩) ?_ ?_
 rotate_left
 {
 intro w'
 go_simp
 with_reducible rfl }
 rotate_left
 {
 simp only [Act.put, sT, s0, s1, i64_w, i32_w]
 rfl }
 refine join_ (σ := Value × Value × Value × Value × Nat) 1 #[true, true, true, true, true, true, true, true, true, true, true, true, true, true, true, true, true, false] (fun s_ => [(22, s_.1), (25, s_.2.1), (33, s_.2.2.1), (34, s_.2.2.2.1), (8, .pointer (some ⟨s_.2.2.2.2, 0, none⟩)), (35, .agg #[s_.1, s_.2.2.2.1])]) (fun s_ w' => (w'.cell? ⟨gb125, 0, none⟩ = some (.slice (some ad134) l0_0.length c0_0) ∧ w'.cell? ⟨gb125, 1, none⟩ = some (.slice A0_1 l0_1.length c0_1) ∧ w'.cell? (ad134.add (a1).toNat) = some (.string (rdOf ByteArray.empty l0_0 a1))) ∧ (Kd.R Kd.string 9 w' w.heap.size (fun _ => True) s_.1 t128) ∧ (Kd.R k46 46 w' w.heap.size (fun k_ => some k_ ≠ (s_.2.2.2.1 : Value).ownBlock) s_.2.2.1 y135) ∧ (Kd.R k46 46 w' w.heap.size (fun k_ => some k_ ≠ (s_.2.2.1 : Value).ownBlock) s_.2.2.2.1 y138) ∧ (w'.heap[gb125]? = some (.cells #[.slice (some ad134) l0_0.length c0_0, .slice A0_1 l0_1.length c0_1] 25 (0, 0))) ∧ (w'.heap[gb126]? = some (.cells #[.slice none 0 0, .slice none 0 0] 25 (0, 0))) ∧ (w'.heap[s_.2.2.2.2]? = some (.cells #[.slice none 0 0, .slice none 0 0] 25 (0, 0))) ∧ (w.heap.size ≤ s_.2.2.2.2) ∧ (w.heap.size ≤ s_.2.2.2.2) ∧ (gb125 ≠ s_.2.2.2.2) ∧ (s_.2.2.2.2 ≠ gb125) ∧ (gb126 ≠ s_.2.2.2.2) ∧ (s_.2.2.2.2 ≠ gb126) ∧ (Below w.heap.size w w')) ?_ ?_
 rotate_left
 {
 intro hJ2_5_13_14_16
 refine join_ (σ := Value × Value × Value × Value) 2 #[true, true, true, true, true, true, true, true, true, true, true, true, true, true, true, true, false, false] (fun s_ => [(22, s_.1), (25, s_.2.1), (33, s_.2.2.1), (34, s_.2.2.2), (35, .agg #[s_.1, s_.2.2.2])]) (fun s_ w' => (w'.cell? ⟨gb125, 0, none⟩ = some (.slice (some ad134) l0_0.length c0_0) ∧ w'.cell? ⟨gb125, 1, none⟩ = some (.slice A0_1 l0_1.length c0_1) ∧ w'.cell? (ad134.add (a1).toNat) = some (.string (rdOf ByteArray.empty l0_0 a1))) ∧ (Kd.R Kd.string 9 w' w.heap.size (fun _ => True) s_.1 t128) ∧ (Kd.R k46 46 w' w.heap.size (fun k_ => some k_ ≠ (s_.2.2.2 : Value).ownBlock) s_.2.2.1 y135) ∧ (Kd.R k46 46 w' w.heap.size (fun k_ => some k_ ≠ (s_.2.2.1 : Value).ownBlock) s_.2.2.2 y138) ∧ (w'.heap[gb125]? = some (.cells #[.slice (some ad134) l0_0.length c0_0, .slice A0_1 l0_1.length c0_1] 25 (0, 0))) ∧ (w'.heap[gb126]? = some (.cells #[.slice none 0 0, .slice none 0 0] 25 (0, 0))) ∧ (Below w.heap.size w w')) ?_ ?_
 rotate_left
 {
 intro hJ2_5_13_14
 refine join_ (σ := Value × Value × Value × Nat) 3 #[true, true, true, true, true, true, true, true, true, true, true, true, true, true, false, false, true, false] (fun s_ => [(22, s_.1), (25, s_.2.1), (33, s_.2.2.1), (8, .pointer (some ⟨s_.2.2.2, 0, none⟩))]) (fun s_ w' => (w'.cell? ⟨gb125, 0, none⟩ = some (.slice (some ad134) l0_0.length c0_0) ∧ w'.cell? ⟨gb125, 1, none⟩ = some (.slice A0_1 l0_1.length c0_1) ∧ w'.cell? (ad134.add (a1).toNat) = some (.string (rdOf ByteArray.empty l0_0 a1))) ∧ (Kd.R Kd.string 9 w' w.heap.size (fun _ => True) s_.1 t128) ∧ (Kd.R k46 46 w' w.heap.size (fun k_ => some k_ ≠ (s_.2.2.1 : Value).ownBlock) s_.2.1 t131) ∧ (Kd.R k46 46 w' w.heap.size (fun k_ => some k_ ≠ (s_.2.1 : Value).ownBlock) s_.2.2.1 y135) ∧ (w'.heap[gb125]? = some (.cells #[.slice (some ad134) l0_0.length c0_0, .slice A0_1 l0_1.length c0_1] 25 (0, 0))) ∧ (w'.heap[gb126]? = some (.cells #[.slice none 0 0, .slice none 0 0] 25 (0, 0))) ∧ (w'.heap[s_.2.2.2]? = some (.cells #[.slice none 0 0, .slice none 0 0] 25 (0, 0))) ∧ (w.heap.size ≤ s_.2.2.2) ∧ (w.heap.size ≤ s_.2.2.2) ∧ (gb125 ≠ s_.2.2.2) ∧ (s_.2.2.2 ≠ gb125) ∧ (gb126 ≠ s_.2.2.2) ∧ (s_.2.2.2 ≠ gb126) ∧ (Below w.heap.size w w')) ?_ ?_
 rotate_left
 {
 intro hJ2_5_13_16
 refine join_ (σ := Value × Value × Value) 4 #[true, true, true, true, true, true, true, true, true, true, true, true, true, true, false, false, false, false] (fun s_ => [(22, s_.1), (25, s_.2.1), (33, s_.2.2)]) (fun s_ w' => (w'.cell? ⟨gb125, 0, none⟩ = some (.slice (some ad134) l0_0.length c0_0) ∧ w'.cell? ⟨gb125, 1, none⟩ = some (.slice A0_1 l0_1.length c0_1) ∧ w'.cell? (ad134.add (a1).toNat) = some (.string (rdOf ByteArray.empty l0_0 a1))) ∧ (Kd.R Kd.string 9 w' w.heap.size (fun _ => True) s_.1 t128) ∧ (Kd.R k46 46 w' w.heap.size (fun k_ => some k_ ≠ (s_.2.2 : Value).ownBlock) s_.2.1 t131) ∧ (Kd.R k46 46 w' w.heap.size (fun k_ => some k_ ≠ (s_.2.1 : Value).ownBlock) s_.2.2 y135) ∧ (w'.heap[gb125]? = some (.cells #[.slice (some ad134) l0_0.length c0_0, .slice A0_1 l0_1.length c0_1] 25 (0, 0))) ∧ (w'.heap[gb126]? = some (.cells #[.slice none 0 0, .slice none 0 0] 25 (0, 0))) ∧ (Below w.heap.size w w')) ?_ ?_
 rotate_left
 {
 intro hJ2_5_13
 refine join_ (σ := Value × Value × Nat) 4 #[true, true, true, true, true, true, true, true, true, true, true, true, true, false, false, false, true, false] (fun s_ => [(22, s_.1), (25, s_.2.1), (8, .pointer (some ⟨s_.2.2, 0, none⟩))]) (fun s_ w' => (w'.cell? ⟨gb125, 0, none⟩ = some (.slice (some ad134) l0_0.length c0_0) ∧ w'.cell? ⟨gb125, 1, none⟩ = some (.slice A0_1 l0_1.length c0_1) ∧ w'.cell? (ad134.add (a1).toNat) = some (.string (rdOf ByteArray.empty l0_0 a1))) ∧ (Kd.R Kd.string 9 w' w.heap.size (fun _ => True) s_.1 t128) ∧ (Kd.R k46 46 w' w.heap.size (fun _ => True) s_.2.1 t131) ∧ (w'.heap[gb125]? = some (.cells #[.slice (some ad134) l0_0.length c0_0, .slice A0_1 l0_1.length c0_1] 25 (0, 0))) ∧ (w'.heap[gb126]? = some (.cells #[.slice none 0 0, .slice none 0 0] 25 (0, 0))) ∧ (w'.heap[s_.2.2]? = some (.cells #[.slice none 0 0, .slice none 0 0] 25 (0, 0))) ∧ (w.heap.size ≤ s_.2.2) ∧ (w.heap.size ≤ s_.2.2) ∧ (gb125 ≠ s_.2.2) ∧ (s_.2.2 ≠ gb125) ∧ (gb126 ≠ s_.2.2) ∧ (s_.2.2 ≠ gb126) ∧ (Below w.heap.size w w')) ?_ ?_
 rotate_left
 {
 intro hJ2_5_16
 refine join_ (σ := Value × Value × Nat) 4 #[true, true, true, true, true, false, true, true, true, true, true, true, true, true, false, false, true, false] (fun s_ => [(22, s_.1), (33, s_.2.1), (8, .pointer (some ⟨s_.2.2, 0, none⟩))]) (fun s_ w' => (w'.cell? ⟨gb125, 0, none⟩ = some (.slice (some ad134) l0_0.length c0_0) ∧ w'.cell? ⟨gb125, 1, none⟩ = some (.slice A0_1 l0_1.length c0_1) ∧ w'.cell? (ad134.add (a1).toNat) = some (.string (rdOf ByteArray.empty l0_0 a1))) ∧ (Kd.R Kd.string 9 w' w.heap.size (fun _ => True) s_.1 t128) ∧ (Kd.R k46 46 w' w.heap.size (fun _ => True) s_.2.1 y135) ∧ (w'.heap[gb125]? = some (.cells #[.slice (some ad134) l0_0.length c0_0, .slice A0_1 l0_1.length c0_1] 25 (0, 0))) ∧ (w'.heap[gb126]? = some (.cells #[.slice none 0 0, .slice none 0 0] 25 (0, 0))) ∧ (w'.heap[s_.2.2]? = some (.cells #[.slice none 0 0, .slice none 0 0] 25 (0, 0))) ∧ (w.heap.size ≤ s_.2.2) ∧ (w.heap.size ≤ s_.2.2) ∧ (gb125 ≠ s_.2.2) ∧ (s_.2.2 ≠ gb125) ∧ (gb126 ≠ s_.2.2) ∧ (s_.2.2 ≠ gb126) ∧ (Below w.heap.size w w')) ?_ ?_
 rotate_left
 {
 intro hJ2_13_16
 refine join_ (σ := Value × Value) 5 #[true, true, true, true, true, true, true, true, true, true, true, true, true, false, false, false, false, false] (fun s_ => [(22, s_.1), (25, s_.2)]) (fun s_ w' => (w'.cell? ⟨gb125, 0, none⟩ = some (.slice (some ad134) l0_0.length c0_0) ∧ w'.cell? ⟨gb125, 1, none⟩ = some (.slice A0_1 l0_1.length c0_1) ∧ w'.cell? (ad134.add (a1).toNat) = some (.string (rdOf ByteArray.empty l0_0 a1))) ∧ (Kd.R Kd.string 9 w' w.heap.size (fun _ => True) s_.1 t128) ∧ (Kd.R k46 46 w' w.heap.size (fun _ => True) s_.2 t131) ∧ (w'.heap[gb125]? = some (.cells #[.slice (some ad134) l0_0.length c0_0, .slice A0_1 l0_1.length c0_1] 25 (0, 0))) ∧ (w'.heap[gb126]? = some (.cells #[.slice none 0 0, .slice none 0 0] 25 (0, 0))) ∧ (Below w.heap.size w w')) ?_ ?_
 rotate_left
 {
 intro hJ2_5
 refine join_ (σ := Value × Value) 5 #[true, true, true, true, true, false, true, true, true, true, true, true, true, true, false, false, false, false] (fun s_ => [(22, s_.1), (33, s_.2)]) (fun s_ w' => (w'.cell? ⟨gb125, 0, none⟩ = some (.slice (some ad134) l0_0.length c0_0) ∧ w'.cell? ⟨gb125, 1, none⟩ = some (.slice A0_1 l0_1.length c0_1) ∧ w'.cell? (ad134.add (a1).toNat) = some (.string (rdOf ByteArray.empty l0_0 a1))) ∧ (Kd.R Kd.string 9 w' w.heap.size (fun _ => True) s_.1 t128) ∧ (Kd.R k46 46 w' w.heap.size (fun _ => True) s_.2 y135) ∧ (w'.heap[gb125]? = some (.cells #[.slice (some ad134) l0_0.length c0_0, .slice A0_1 l0_1.length c0_1] 25 (0, 0))) ∧ (w'.heap[gb126]? = some (.cells #[.slice none 0 0, .slice none 0 0] 25 (0, 0))) ∧ (Below w.heap.size w w')) ?_ ?_
 rotate_left
 {
 intro hJ2_13
 refine join_ (σ := Value × Nat) 5 #[true, true, true, true, true, false, true, true, true, true, true, true, true, false, false, false, true, false] (fun s_ => [(22, s_.1), (8, .pointer (some ⟨s_.2, 0, none⟩))]) (fun s_ w' => (w'.cell? ⟨gb125, 0, none⟩ = some (.slice (some ad134) l0_0.length c0_0) ∧ w'.cell? ⟨gb125, 1, none⟩ = some (.slice A0_1 l0_1.length c0_1) ∧ w'.cell? (ad134.add (a1).toNat) = some (.string (rdOf ByteArray.empty l0_0 a1))) ∧ (Kd.R Kd.string 9 w' w.heap.size (fun _ => True) s_.1 t128) ∧ (w'.heap[gb125]? = some (.cells #[.slice (some ad134) l0_0.length c0_0, .slice A0_1 l0_1.length c0_1] 25 (0, 0))) ∧ (w'.heap[gb126]? = some (.cells #[.slice none 0 0, .slice none 0 0] 25 (0, 0))) ∧ (w'.heap[s_.2]? = some (.cells #[.slice none 0 0, .slice none 0 0] 25 (0, 0))) ∧ (w.heap.size ≤ s_.2) ∧ (w.heap.size ≤ s_.2) ∧ (gb125 ≠ s_.2) ∧ (s_.2 ≠ gb125) ∧ (gb126 ≠ s_.2) ∧ (s_.2 ≠ gb126) ∧ (Below w.heap.size w w')) ?_ ?_
 rotate_left
 {
 intro hJ2_16
 refine join_ (σ := Value × Nat) 5 #[true, true, false, true, true, false, true, true, true, true, true, true, true, true, false, false, true, false] (fun s_ => [(33, s_.1), (8, .pointer (some ⟨s_.2, 0, none⟩))]) (fun s_ w' => (w'.cell? ⟨gb125, 0, none⟩ = some (.slice (some ad134) l0_0.length c0_0) ∧ w'.cell? ⟨gb125, 1, none⟩ = some (.slice A0_1 l0_1.length c0_1) ∧ w'.cell? (ad134.add (a1).toNat) = some (.string (rdOf ByteArray.empty l0_0 a1))) ∧ (Kd.R k46 46 w' w.heap.size (fun _ => True) s_.1 y135) ∧ (w'.heap[gb125]? = some (.cells #[.slice (some ad134) l0_0.length c0_0, .slice A0_1 l0_1.length c0_1] 25 (0, 0))) ∧ (w'.heap[gb126]? = some (.cells #[.slice none 0 0, .slice none 0 0] 25 (0, 0))) ∧ (w'.heap[s_.2]? = some (.cells #[.slice none 0 0, .slice none 0 0] 25 (0, 0))) ∧ (w.heap.size ≤ s_.2) ∧ (w.heap.size ≤ s_.2) ∧ (gb125 ≠ s_.2) ∧ (s_.2 ≠ gb125) ∧ (gb126 ≠ s_.2) ∧ (s_.2 ≠ gb126) ∧ (Below w.heap.size w w')) ?_ ?_
 rotate_left
 {
 intro hJ13_16
 refine join_ (σ := Value) 6 #[true, true, true, true, true, false, true, true, true, true, true, true, true, false, false, false, false, false] (fun s_ => [(22, s_)]) (fun s_ w' => (w'.cell? ⟨gb125, 0, none⟩ = some (.slice (some ad134) l0_0.length c0_0) ∧ w'.cell? ⟨gb125, 1, none⟩ = some (.slice A0_1 l0_1.length c0_1) ∧ w'.cell? (ad134.add (a1).toNat) = some (.string (rdOf ByteArray.empty l0_0 a1))) ∧ (Kd.R Kd.string 9 w' w.heap.size (fun _ => True) s_ t128) ∧ (w'.heap[gb125]? = some (.cells #[.slice (some ad134) l0_0.length c0_0, .slice A0_1 l0_1.length c0_1] 25 (0, 0))) ∧ (w'.heap[gb126]? = some (.cells #[.slice none 0 0, .slice none 0 0] 25 (0, 0))) ∧ (Below w.heap.size w w')) ?_ ?_
 rotate_left
 {
 intro hJ2
 refine join_ (σ := Value) 6 #[true, true, false, true, true, false, true, true, true, true, true, true, true, true, false, false, false, false] (fun s_ => [(33, s_)]) (fun s_ w' => (w'.cell? ⟨gb125, 0, none⟩ = some (.slice (some ad134) l0_0.length c0_0) ∧ w'.cell? ⟨gb125, 1, none⟩ = some (.slice A0_1 l0_1.length c0_1) ∧ w'.cell? (ad134.add (a1).toNat) = some (.string (rdOf ByteArray.empty l0_0 a1))) ∧ (Kd.R k46 46 w' w.heap.size (fun _ => True) s_ y135) ∧ (w'.heap[gb125]? = some (.cells #[.slice (some ad134) l0_0.length c0_0, .slice A0_1 l0_1.length c0_1] 25 (0, 0))) ∧ (w'.heap[gb126]? = some (.cells #[.slice none 0 0, .slice none 0 0] 25 (0, 0))) ∧ (Below w.heap.size w w')) ?_ ?_
 rotate_left
 {
 intro hJ13
 refine join_ (σ := Nat) 6 #[true, true, false, true, true, false, true, true, true, true, true, true, true, false, false, false, true, false] (fun s_ => [(8, .pointer (some ⟨s_, 0, none⟩))]) (fun s_ w' => (w'.cell? ⟨gb125, 0, none⟩ = some (.slice (some ad134) l0_0.length c0_0) ∧ w'.cell? ⟨gb125, 1, none⟩ = some (.slice A0_1 l0_1.length c0_1) ∧ w'.cell? (ad134.add (a1).toNat) = some (.string (rdOf ByteArray.empty l0_0 a1))) ∧ (w'.heap[gb125]? = some (.cells #[.slice (some ad134) l0_0.length c0_0, .slice A0_1 l0_1.length c0_1] 25 (0, 0))) ∧ (w'.heap[gb126]? = some (.cells #[.slice none 0 0, .slice none 0 0] 25 (0, 0))) ∧ (w'.heap[s_]? = some (.cells #[.slice none 0 0, .slice none 0 0] 25 (0, 0))) ∧ (w.heap.size ≤ s_) ∧ (w.heap.size ≤ s_) ∧ (gb125 ≠ s_) ∧ (s_ ≠ gb125) ∧ (gb126 ≠ s_) ∧ (s_ ≠ gb126) ∧ (Below w.heap.size w w')) ?_ ?_
 rotate_left
 {
 intro hJ16
 refine three_ (i := 2) (j := 13) (k := 16) (Ni := some 22) (Nj := some 33) (Nk := some 8) #[true, true, true, true, true, false, true, true, true, true, true, true, true, false, false, false, false, false] #[true, true, false, true, true, false, true, true, true, true, true, true, true, true, false, false, false, false] #[true, true, false, true, true, false, true, true, true, true, true, true, true, false, false, false, true, false] rfl rfl rfl rfl rfl rfl (three_of HT_.out (by kernel_rfl)) (by decide) (by decide) (by decide) (fun K hK => ?_) (fun K hK => ?_) (fun K hK => ?_)
 {
 skip
 refine goes_ Try.func34 (by kernel_rfl) rfl #[.slice (some ad134) l0_0.length c0_0] (by rfl) rfl rfl (by (try simp only [List.map_toArray, List.map_cons, List.map_nil]); first | done | rfl | (simp only [List.length_drop, List.length_take]; rfl)) ?_
 with_reducible refine (cloneS.calls _ _ l0_0 t128 _ ?side1 ?side2 A7.out).mono ?_
 (case side1 => exact Kd.C_below HR0_0.out bb)
 (case side2 => exact HC0_0.out)
 rintro e w20 ⟨v129, rfl, ho0, hb⟩
 refine ⟨_, rfl, ?_⟩
 have n0_ := aS (Kd.R_lower ho0 bz)
 have n1_ := aS (kb BK125.out hb)
 have n2_ := aS (kb BK126.out hb)
 have n3_ := aS (below_step bb hb)
 clear BK125
 clear BK126
 clear HB
 have HO130 := n0_
 have BK125 := n1_
 have BK126 := n2_
 have HB := n3_
 clear n0_ n1_ n2_ n3_
 (try clear hb)
 (try clear hb2)
 (try clear hk)
 (try clear hi)
 (try clear ho0)
 refine hK.out _ _ ⟨(blk_cell BK125.out 0).trans rfl, (blk_cell BK125.out 1).trans rfl, (cc HB.out hw134_0)⟩ (fun hHeld => ?_)
 clear hK K
 refine norm_ (a' := ?_) ?_ ?_
 rotate_left
 {
 show Act.put _ (some 22) _ = _
 simp only [Act.put, sT, s0, s1, i64_w, i32_w]
 rfl }
 exact norm_ (by first | (simp only [putAll, Act.put, List.setIfInBounds_toArray, List.set_cons_zero, List.set_cons_succ]; done) | (simp only [putAll, Act.put, List.setIfInBounds_toArray, List.set_cons_zero, List.set_cons_succ]; rfl)) (hJ2 (v129) _ ⟨hHeld, (rr HO130.out), (kk BK125.out), (kk BK126.out), bb⟩) }
 {
 skip
 refine Kd.R_lit_step k46 _ 46 ?hg (N := 33) ?hd (xs := ([(⟨a1, rdOf ByteArray.empty l0_0 a1⟩ : S46)] : List (S46))) (inner := [.int .i64 a1, .string (rdOf ByteArray.empty l0_0 a1)]) (ok := fun _ => True) (okp := fun _ => True) ?hr ?hp (fun _ hk => hk) trivial (Below.refl _ _) (Nat.le_refl _) (by simp) ?_; (case hd => rfl); (case hg => rfl); (case hr => first | (go_simp; done) | (go_simp; rfl)); (case hp => exact (Reps.c2 (show Kd.M k46 _ _ _ (⟨a1, rdOf ByteArray.empty l0_0 a1⟩ : S46) [.int .i64 a1, .string (rdOf ByteArray.empty l0_0 a1)] from (k46_mkM _ _ _ (⟨a1, rdOf ByteArray.empty l0_0 a1⟩ : S46) )) (Reps.none _ _)))
 intro v136 w20 ho21 hb hg_ hnew_
 clear hg_ hnew_
 (first | rw [← Ny135.out] at ho21 | (simp only [Int.reduceToNat] at ho21; rw [← Ny135.out] at ho21))
 have n0_ := aS (Kd.R_lower ho21 bz)
 have n1_ := aS (kb BK125.out hb)
 have n2_ := aS (kb BK126.out hb)
 have n3_ := aS (below_step bb hb)
 clear BK125
 clear BK126
 clear HB
 have HO137 := n0_
 have BK125 := n1_
 have BK126 := n2_
 have HB := n3_
 clear n0_ n1_ n2_ n3_
 clear hb ho21
 refine hK.out _ _ ⟨(blk_cell BK125.out 0).trans rfl, (blk_cell BK125.out 1).trans rfl, (cc HB.out hw134_0)⟩ (fun hHeld => ?_)
 clear hK K
 refine norm_ (a' := ?_) ?_ ?_
 rotate_left
 {
 show Act.put _ (some 33) _ = _
 simp only [Act.put, sT, s0, s1, i64_w, i32_w]
 rfl }
 exact norm_ (by first | (simp only [putAll, Act.put, List.setIfInBounds_toArray, List.set_cons_zero, List.set_cons_succ]; done) | (simp only [putAll, Act.put, List.setIfInBounds_toArray, List.set_cons_zero, List.set_cons_succ]; rfl)) (hJ13 (v136) _ ⟨hHeld, (rr HO137.out), (kk BK125.out), (kk BK126.out), bb⟩) }
 {
 skip
 refine box_step ?hg (N := 8) ?hd (cs := #[.slice none 0 0, .slice none 0 0]) (t := 25) ?hr ?_; (case hd => rfl); (case hg => rfl); (case hr => first | (go_simp; done) | (go_simp; rfl))
 intro gb141 hg w20 hbox hb
 have n0_ := aS (kb BK125.out hb)
 have n1_ := aS (kb BK126.out hb)
 have n2_ := aS (below_step bb hb)
 have n3_ := aS (hbox)
 have n4_ := aS ((by rw [hg]; exact bz : w.heap.size ≤ gb141))
 have n5_ := aS ((by rw [hg]; exact bz : w.heap.size ≤ gb141))
 have n6_ := aS ((by rw [hg]; exact Nat.ne_of_lt (blk_lt (g := gb125) (o := .cells #[.slice (some ad134) l0_0.length c0_0, .slice A0_1 l0_1.length c0_1] 25 (0, 0)) (kk BK125.out)) : gb125 ≠ gb141))
 have n7_ := aS ((by rw [hg]; exact Nat.ne_of_gt (blk_lt (g := gb125) (o := .cells #[.slice (some ad134) l0_0.length c0_0, .slice A0_1 l0_1.length c0_1] 25 (0, 0)) (kk BK125.out)) : gb141 ≠ gb125))
 have n8_ := aS ((by rw [hg]; exact Nat.ne_of_lt (blk_lt (g := gb126) (o := .cells #[.slice none 0 0, .slice none 0 0] 25 (0, 0)) (kk BK126.out)) : gb126 ≠ gb141))
 have n9_ := aS ((by rw [hg]; exact Nat.ne_of_gt (blk_lt (g := gb126) (o := .cells #[.slice none 0 0, .slice none 0 0] 25 (0, 0)) (kk BK126.out)) : gb141 ≠ gb126))
 clear BK125
 clear BK126
 clear HB
 have BK125 := n0_
 have BK126 := n1_
 have HB := n2_
 have BK141 := n3_
 have GW141 := n4_
 have GE141 := n5_
 have NB125_141 := n6_
 have NB141_125 := n7_
 have NB126_141 := n8_
 have NB141_126 := n9_
 clear n0_ n1_ n2_ n3_ n4_ n5_ n6_ n7_ n8_ n9_
 clear hb hbox hg
 refine hK.out _ _ ⟨(blk_cell BK125.out 0).trans rfl, (blk_cell BK125.out 1).trans rfl, (cc HB.out hw134_0)⟩ (fun hHeld => ?_)
 clear hK K
 refine norm_ (a' := ?_) ?_ ?_
 rotate_left
 {
 show Act.put _ (some 8) _ = _
 simp only [Act.put, sT, s0, s1, i64_w, i32_w]
 rfl }
 exact norm_ (by first | (simp only [putAll, Act.put, List.setIfInBounds_toArray, List.set_cons_zero, List.set_cons_succ]; done) | (simp only [putAll, Act.put, List.setIfInBounds_toArray, List.set_cons_zero, List.set_cons_succ]; rfl)) (hJ16 (gb141) _ ⟨hHeld, (kk BK125.out), (kk BK126.out), (kk BK141.out), GW141.out, GE141.out, NB125_141.out, NB141_125.out, NB126_141.out, NB141_126.out, bb⟩) } }
 {
 skip
 rintro gb141 w21 ⟨hS_, h0_, h1_, h2_, h3_, h4_, h5_, h6_, h7_, h8_, h9_⟩
 have n0_ : Aside0 (w21.heap[gb125]? = some (.cells #[.slice (some ad134) l0_0.length c0_0, .slice A0_1 l0_1.length c0_1] 25 (0, 0))) := ⟨h0_⟩
 have n1_ : Aside0 (w21.heap[gb126]? = some (.cells #[.slice none 0 0, .slice none 0 0] 25 (0, 0))) := ⟨h1_⟩
 have n2_ : Aside0 (w21.heap[gb141]? = some (.cells #[.slice none 0 0, .slice none 0 0] 25 (0, 0))) := ⟨h2_⟩
 have n3_ : Aside0 (w.heap.size ≤ gb141) := ⟨h3_⟩
 have n4_ : Aside0 (w.heap.size ≤ gb141) := ⟨h4_⟩
 have n5_ : Aside0 (gb125 ≠ gb141) := ⟨h5_⟩
 have n6_ : Aside0 (gb141 ≠ gb125) := ⟨h6_⟩
 have n7_ : Aside0 (gb126 ≠ gb141) := ⟨h7_⟩
 have n8_ : Aside0 (gb141 ≠ gb126) := ⟨h8_⟩
 have n9_ : Aside0 (Below w.heap.size w w21) := ⟨h9_⟩
 clear BK125
 clear BK126
 clear HB
 clear h0_ h1_ h2_ h3_ h4_ h5_ h6_ h7_ h8_ h9_
 have BK125 := n0_
 have BK126 := n1_
 have BK141 := n2_
 have GW141 := n3_
 have GE141 := n4_
 have NB125_141 := n5_
 have NB141_125 := n6_
 have NB126_141 := n7_
 have NB141_126 := n8_
 have HB := n9_
 clear n0_ n1_ n2_ n3_ n4_ n5_ n6_ n7_ n8_ n9_
 have hHeld : w21.cell? ⟨gb125, 0, none⟩ = some (.slice (some ad134) l0_0.length c0_0) ∧ w21.cell? ⟨gb125, 1, none⟩ = some (.slice A0_1 l0_1.length c0_1) ∧ w21.cell? (ad134.add (a1).toNat) = some (.string (rdOf ByteArray.empty l0_0 a1)) := hS_
 refine norm_ (a' := ?_) ?_ ?_
 rotate_left
 {
 simp only [putAll, Act.put, List.setIfInBounds_toArray, List.set_cons_zero, List.set_cons_succ]
 rfl }
 refine two_ (i := 2) (j := 13) (Ni := some 22) (Nj := some 33) #[true, true, true, true, true, false, true, true, true, true, true, true, true, false, false, false, true, false] #[true, true, false, true, true, false, true, true, true, true, true, true, true, true, false, false, true, false] rfl rfl rfl rfl (two_of HT_.out (by kernel_rfl)) (by decide) (by decide) (fun K hK => ?_) (fun K hK => ?_)
 {
 skip
 refine goes_ Try.func34 (by kernel_rfl) rfl #[.slice (some ad134) l0_0.length c0_0] (by rfl) rfl rfl (by (try simp only [List.map_toArray, List.map_cons, List.map_nil]); first | done | rfl | (simp only [List.length_drop, List.length_take]; rfl)) ?_
 with_reducible refine (cloneS.calls _ _ l0_0 t128 _ ?side1 ?side2 A7.out).mono ?_
 (case side1 => exact Kd.C_below HR0_0.out bb)
 (case side2 => exact HC0_0.out)
 rintro e w22 ⟨v129, rfl, ho0, hb⟩
 refine ⟨_, rfl, ?_⟩
 have n0_ := aS (Kd.R_lower ho0 bz)
 have n1_ := aS (kb BK125.out hb)
 have n2_ := aS (kb BK126.out hb)
 have n3_ := aS (kb BK141.out hb)
 have n4_ := aS (below_step bb hb)
 clear BK125
 clear BK126
 clear BK141
 clear HB
 have HO130 := n0_
 have BK125 := n1_
 have BK126 := n2_
 have BK141 := n3_
 have HB := n4_
 clear n0_ n1_ n2_ n3_ n4_
 (try clear hb)
 (try clear hb2)
 (try clear hk)
 (try clear hi)
 (try clear ho0)
 refine hK.out _ _ ⟨(blk_cell BK125.out 0).trans rfl, (blk_cell BK125.out 1).trans rfl, (cc HB.out hw134_0)⟩ (fun hHeld => ?_)
 clear hK K
 refine norm_ (a' := ?_) ?_ ?_
 rotate_left
 {
 show Act.put _ (some 22) _ = _
 simp only [Act.put, sT, s0, s1, i64_w, i32_w]
 rfl }
 exact norm_ (by first | (simp only [putAll, Act.put, List.setIfInBounds_toArray, List.set_cons_zero, List.set_cons_succ]; done) | (simp only [putAll, Act.put, List.setIfInBounds_toArray, List.set_cons_zero, List.set_cons_succ]; rfl)) (hJ2_16 (v129, gb141) _ ⟨hHeld, (rr HO130.out), (kk BK125.out), (kk BK126.out), (kk BK141.out), GW141.out, GE141.out, NB125_141.out, NB141_125.out, NB126_141.out, NB141_126.out, bb⟩) }
 {
 skip
 refine Kd.R_lit_step k46 _ 46 ?hg (N := 33) ?hd (xs := ([(⟨a1, rdOf ByteArray.empty l0_0 a1⟩ : S46)] : List (S46))) (inner := [.int .i64 a1, .string (rdOf ByteArray.empty l0_0 a1)]) (ok := fun _ => True) (okp := fun _ => True) ?hr ?hp (fun _ hk => hk) trivial (Below.refl _ _) (Nat.le_refl _) (by simp) ?_; (case hd => rfl); (case hg => rfl); (case hr => first | (go_simp; done) | (go_simp; rfl)); (case hp => exact (Reps.c2 (show Kd.M k46 _ _ _ (⟨a1, rdOf ByteArray.empty l0_0 a1⟩ : S46) [.int .i64 a1, .string (rdOf ByteArray.empty l0_0 a1)] from (k46_mkM _ _ _ (⟨a1, rdOf ByteArray.empty l0_0 a1⟩ : S46) )) (Reps.none _ _)))
 intro v136 w22 ho23 hb hg_ hnew_
 clear hg_ hnew_
 (first | rw [← Ny135.out] at ho23 | (simp only [Int.reduceToNat] at ho23; rw [← Ny135.out] at ho23))
 have n0_ := aS (Kd.R_lower ho23 bz)
 have n1_ := aS (kb BK125.out hb)
 have n2_ := aS (kb BK126.out hb)
 have n3_ := aS (kb BK141.out hb)
 have n4_ := aS (below_step bb hb)
 clear BK125
 clear BK126
 clear BK141
 clear HB
 have HO137 := n0_
 have BK125 := n1_
 have BK126 := n2_
 have BK141 := n3_
 have HB := n4_
 clear n0_ n1_ n2_ n3_ n4_
 clear hb ho23
 refine hK.out _ _ ⟨(blk_cell BK125.out 0).trans rfl, (blk_cell BK125.out 1).trans rfl, (cc HB.out hw134_0)⟩ (fun hHeld => ?_)
 clear hK K
 refine norm_ (a' := ?_) ?_ ?_
 rotate_left
 {
 show Act.put _ (some 33) _ = _
 simp only [Act.put, sT, s0, s1, i64_w, i32_w]
 rfl }
 exact norm_ (by first | (simp only [putAll, Act.put, List.setIfInBounds_toArray, List.set_cons_zero, List.set_cons_succ]; done) | (simp only [putAll, Act.put, List.setIfInBounds_toArray, List.set_cons_zero, List.set_cons_succ]; rfl)) (hJ13_16 (v136, gb141) _ ⟨hHeld, (rr HO137.out), (kk BK125.out), (kk BK126.out), (kk BK141.out), GW141.out, GE141.out, NB125_141.out, NB141_125.out, NB126_141.out, NB141_126.out, bb⟩) } } }
 {
 skip
 rintro v136 w22 ⟨hS_, h0_, h1_, h2_, h3_⟩
 have n0_ : Aside0 (Kd.R k46 46 w22 w.heap.size (fun _ => True) v136 y135) := ⟨h0_⟩
 have n1_ : Aside0 (w22.heap[gb125]? = some (.cells #[.slice (some ad134) l0_0.length c0_0, .slice A0_1 l0_1.length c0_1] 25 (0, 0))) := ⟨h1_⟩
 have n2_ : Aside0 (w22.heap[gb126]? = some (.cells #[.slice none 0 0, .slice none 0 0] 25 (0, 0))) := ⟨h2_⟩
 have n3_ : Aside0 (Below w.heap.size w w22) := ⟨h3_⟩
 clear BK125
 clear BK126
 clear HB
 clear h0_ h1_ h2_ h3_
 have HO137 := n0_
 have BK125 := n1_
 have BK126 := n2_
 have HB := n3_
 clear n0_ n1_ n2_ n3_
 have hHeld : w22.cell? ⟨gb125, 0, none⟩ = some (.slice (some ad134) l0_0.length c0_0) ∧ w22.cell? ⟨gb125, 1, none⟩ = some (.slice A0_1 l0_1.length c0_1) ∧ w22.cell? (ad134.add (a1).toNat) = some (.string (rdOf ByteArray.empty l0_0 a1)) := hS_
 refine norm_ (a' := ?_) ?_ ?_
 rotate_left
 {
 simp only [putAll, Act.put, List.setIfInBounds_toArray, List.set_cons_zero, List.set_cons_succ]
 rfl }
 refine two_ (i := 2) (j := 16) (Ni := some 22) (Nj := some 8) #[true, true, true, true, true, false, true, true, true, true, true, true, true, true, false, false, false, false] #[true, true, false, true, true, false, true, true, true, true, true, true, true, true, false, false, true, false] rfl rfl rfl rfl (two_of HT_.out (by kernel_rfl)) (by decide) (by decide) (fun K hK => ?_) (fun K hK => ?_)
 {
 skip
 refine goes_ Try.func34 (by kernel_rfl) rfl #[.slice (some ad134) l0_0.length c0_0] (by rfl) rfl rfl (by (try simp only [List.map_toArray, List.map_cons, List.map_nil]); first | done | rfl | (simp only [List.length_drop, List.length_take]; rfl)) ?_
 with_reducible refine (cloneS.calls _ _ l0_0 t128 _ ?side1 ?side2 A7.out).mono ?_
 (case side1 => exact Kd.C_below HR0_0.out bb)
 (case side2 => exact HC0_0.out)
 rintro e w23 ⟨v129, rfl, ho0, hb⟩
 refine ⟨_, rfl, ?_⟩
 have n0_ := aS (Kd.R_below (rr HO137.out) hb)
 have n1_ := aS (Kd.R_lower ho0 bz)
 have n2_ := aS (kb BK125.out hb)
 have n3_ := aS (kb BK126.out hb)
 have n4_ := aS (below_step bb hb)
 clear HO137
 clear BK125
 clear BK126
 clear HB
 have HO137 := n0_
 have HO130 := n1_
 have BK125 := n2_
 have BK126 := n3_
 have HB := n4_
 clear n0_ n1_ n2_ n3_ n4_
 (try clear hb)
 (try clear hb2)
 (try clear hk)
 (try clear hi)
 (try clear ho0)
 refine hK.out _ _ ⟨(blk_cell BK125.out 0).trans rfl, (blk_cell BK125.out 1).trans rfl, (cc HB.out hw134_0)⟩ (fun hHeld => ?_)
 clear hK K
 refine norm_ (a' := ?_) ?_ ?_
 rotate_left
 {
 show Act.put _ (some 22) _ = _
 simp only [Act.put, sT, s0, s1, i64_w, i32_w]
 rfl }
 exact norm_ (by first | (simp only [putAll, Act.put, List.setIfInBounds_toArray, List.set_cons_zero, List.set_cons_succ]; done) | (simp only [putAll, Act.put, List.setIfInBounds_toArray, List.set_cons_zero, List.set_cons_succ]; rfl)) (hJ2_13 (v129, v136) _ ⟨hHeld, (rr HO130.out), (rr HO137.out), (kk BK125.out), (kk BK126.out), bb⟩) }
 {
 skip
 refine box_step ?hg (N := 8) ?hd (cs := #[.slice none 0 0, .slice none 0 0]) (t := 25) ?hr ?_; (case hd => rfl); (case hg => rfl); (case hr => first | (go_simp; done) | (go_simp; rfl))
 intro gb141 hg w23 hbox hb
 have n0_ := aS (Kd.R_below (rr HO137.out) hb)
 have n1_ := aS (kb BK125.out hb)
 have n2_ := aS (kb BK126.out hb)
 have n3_ := aS (below_step bb hb)
 have n4_ := aS (hbox)
 have n5_ := aS ((by rw [hg]; exact bz : w.heap.size ≤ gb141))
 have n6_ := aS ((by rw [hg]; exact bz : w.heap.size ≤ gb141))
 have n7_ := aS ((by rw [hg]; exact Nat.ne_of_lt (blk_lt (g := gb125) (o := .cells #[.slice (some ad134) l0_0.length c0_0, .slice A0_1 l0_1.length c0_1] 25 (0, 0)) (kk BK125.out)) : gb125 ≠ gb141))
 have n8_ := aS ((by rw [hg]; exact Nat.ne_of_gt (blk_lt (g := gb125) (o := .cells #[.slice (some ad134) l0_0.length c0_0, .slice A0_1 l0_1.length c0_1] 25 (0, 0)) (kk BK125.out)) : gb141 ≠ gb125))
 have n9_ := aS ((by rw [hg]; exact Nat.ne_of_lt (blk_lt (g := gb126) (o := .cells #[.slice none 0 0, .slice none 0 0] 25 (0, 0)) (kk BK126.out)) : gb126 ≠ gb141))
 have n10_ := aS ((by rw [hg]; exact Nat.ne_of_gt (blk_lt (g := gb126) (o := .cells #[.slice none 0 0, .slice none 0 0] 25 (0, 0)) (kk BK126.out)) : gb141 ≠ gb126))
 clear HO137
 clear BK125
 clear BK126
 clear HB
 have HO137 := n0_
 have BK125 := n1_
 have BK126 := n2_
 have HB := n3_
 have BK141 := n4_
 have GW141 := n5_
 have GE141 := n6_
 have NB125_141 := n7_
 have NB141_125 := n8_
 have NB126_141 := n9_
 have NB141_126 := n10_
 clear n0_ n1_ n2_ n3_ n4_ n5_ n6_ n7_ n8_ n9_ n10_
 clear hb hbox hg
 refine hK.out _ _ ⟨(blk_cell BK125.out 0).trans rfl, (blk_cell BK125.out 1).trans rfl, (cc HB.out hw134_0)⟩ (fun hHeld => ?_)
 clear hK K
 refine norm_ (a' := ?_) ?_ ?_
 rotate_left
 {
 show Act.put _ (some 8) _ = _
 simp only [Act.put, sT, s0, s1, i64_w, i32_w]
 rfl }
 exact norm_ (by first | (simp only [putAll, Act.put, List.setIfInBounds_toArray, List.set_cons_zero, List.set_cons_succ]; done) | (simp only [putAll, Act.put, List.setIfInBounds_toArray, List.set_cons_zero, List.set_cons_succ]; rfl)) (hJ13_16 (v136, gb141) _ ⟨hHeld, (rr HO137.out), (kk BK125.out), (kk BK126.out), (kk BK141.out), GW141.out, GE141.out, NB125_141.out, NB141_125.out, NB126_141.out, NB141_126.out, bb⟩) } } }
 {
 skip
 rintro v129 w21 ⟨hS_, h0_, h1_, h2_, h3_⟩
 have n0_ : Aside0 (Kd.R Kd.string 9 w21 w.heap.size (fun _ => True) v129 t128) := ⟨h0_⟩
 have n1_ : Aside0 (w21.heap[gb125]? = some (.cells #[.slice (some ad134) l0_0.length c0_0, .slice A0_1 l0_1.length c0_1] 25 (0, 0))) := ⟨h1_⟩
 have n2_ : Aside0 (w21.heap[gb126]? = some (.cells #[.slice none 0 0, .slice none 0 0] 25 (0, 0))) := ⟨h2_⟩
 have n3_ : Aside0 (Below w.heap.size w w21) := ⟨h3_⟩
 clear BK125
 clear BK126
 clear HB
 clear h0_ h1_ h2_ h3_
 have HO130 := n0_
 have BK125 := n1_
 have BK126 := n2_
 have HB := n3_
 clear n0_ n1_ n2_ n3_
 have hHeld : w21.cell? ⟨gb125, 0, none⟩ = some (.slice (some ad134) l0_0.length c0_0) ∧ w21.cell? ⟨gb125, 1, none⟩ = some (.slice A0_1 l0_1.length c0_1) ∧ w21.cell? (ad134.add (a1).toNat) = some (.string (rdOf ByteArray.empty l0_0 a1)) := hS_
 refine norm_ (a' := ?_) ?_ ?_
 rotate_left
 {
 simp only [putAll, Act.put, List.setIfInBounds_toArray, List.set_cons_zero, List.set_cons_succ]
 rfl }
 refine three_ (i := 5) (j := 13) (k := 16) (Ni := some 25) (Nj := some 33) (Nk := some 8) #[true, true, true, true, true, true, true, true, true, true, true, true, true, false, false, false, false, false] #[true, true, true, true, true, false, true, true, true, true, true, true, true, true, false, false, false, false] #[true, true, true, true, true, false, true, true, true, true, true, true, true, false, false, false, true, false] rfl rfl rfl rfl rfl rfl (three_of HT_.out (by kernel_rfl)) (by decide) (by decide) (by decide) (fun K hK => ?_) (fun K hK => ?_) (fun K hK => ?_)
 {
 skip
 refine goes_ Try.func35 (by kernel_rfl) rfl #[.slice A0_1 l0_1.length c0_1] (by rfl) rfl rfl (by (try simp only [List.map_toArray, List.map_cons, List.map_nil]); first | done | rfl | (simp only [List.length_drop, List.length_take]; rfl)) ?_
 with_reducible refine (cloneW.calls _ _ l0_1 t131 _ ?side1 ?side2 A8.out).mono ?_
 (case side1 => exact Kd.C_below HR0_1.out bb)
 (case side2 => exact HC0_1.out)
 rintro e w22 ⟨v132, rfl, ho0, hb⟩
 refine ⟨_, rfl, ?_⟩
 have n0_ := aS (Kd.R_below (rr HO130.out) hb)
 have n1_ := aS (Kd.R_lower ho0 bz)
 have n2_ := aS (kb BK125.out hb)
 have n3_ := aS (kb BK126.out hb)
 have n4_ := aS (below_step bb hb)
 clear HO130
 clear BK125
 clear BK126
 clear HB
 have HO130 := n0_
 have HO133 := n1_
 have BK125 := n2_
 have BK126 := n3_
 have HB := n4_
 clear n0_ n1_ n2_ n3_ n4_
 (try clear hb)
 (try clear hb2)
 (try clear hk)
 (try clear hi)
 (try clear ho0)
 refine hK.out _ _ ⟨(blk_cell BK125.out 0).trans rfl, (blk_cell BK125.out 1).trans rfl, (cc HB.out hw134_0)⟩ (fun hHeld => ?_)
 clear hK K
 refine norm_ (a' := ?_) ?_ ?_
 rotate_left
 {
 show Act.put _ (some 25) _ = _
 simp only [Act.put, sT, s0, s1, i64_w, i32_w]
 rfl }
 exact norm_ (by first | (simp only [putAll, Act.put, List.setIfInBounds_toArray, List.set_cons_zero, List.set_cons_succ]; done) | (simp only [putAll, Act.put, List.setIfInBounds_toArray, List.set_cons_zero, List.set_cons_succ]; rfl)) (hJ2_5 (v129, v132) _ ⟨hHeld, (rr HO130.out), (rr HO133.out), (kk BK125.out), (kk BK126.out), bb⟩) }
 {
 skip
 refine Kd.R_lit_step k46 _ 46 ?hg (N := 33) ?hd (xs := ([(⟨a1, rdOf ByteArray.empty l0_0 a1⟩ : S46)] : List (S46))) (inner := [.int .i64 a1, .string (rdOf ByteArray.empty l0_0 a1)]) (ok := fun _ => True) (okp := fun _ => True) ?hr ?hp (fun _ hk => hk) trivial (Below.refl _ _) (Nat.le_refl _) (by simp) ?_; (case hd => rfl); (case hg => rfl); (case hr => first | (go_simp; done) | (go_simp; rfl)); (case hp => exact (Reps.c2 (show Kd.M k46 _ _ _ (⟨a1, rdOf ByteArray.empty l0_0 a1⟩ : S46) [.int .i64 a1, .string (rdOf ByteArray.empty l0_0 a1)] from (k46_mkM _ _ _ (⟨a1, rdOf ByteArray.empty l0_0 a1⟩ : S46) )) (Reps.none _ _)))
 intro v136 w22 ho23 hb hg_ hnew_
 clear hg_ hnew_
 (first | rw [← Ny135.out] at ho23 | (simp only [Int.reduceToNat] at ho23; rw [← Ny135.out] at ho23))
 have n0_ := aS (Kd.R_below (rr HO130.out) hb)
 have n1_ := aS (Kd.R_lower ho23 bz)
 have n2_ := aS (kb BK125.out hb)
 have n3_ := aS (kb BK126.out hb)
 have n4_ := aS (below_step bb hb)
 clear HO130
 clear BK125
 clear BK126
 clear HB
 have HO130 := n0_
 have HO137 := n1_
 have BK125 := n2_
 have BK126 := n3_
 have HB := n4_
 clear n0_ n1_ n2_ n3_ n4_
 clear hb ho23
 refine hK.out _ _ ⟨(blk_cell BK125.out 0).trans rfl, (blk_cell BK125.out 1).trans rfl, (cc HB.out hw134_0)⟩ (fun hHeld => ?_)
 clear hK K
 refine norm_ (a' := ?_) ?_ ?_
 rotate_left
 {
 show Act.put _ (some 33) _ = _
 simp only [Act.put, sT, s0, s1, i64_w, i32_w]
 rfl }
 exact norm_ (by first | (simp only [putAll, Act.put, List.setIfInBounds_toArray, List.set_cons_zero, List.set_cons_succ]; done) | (simp only [putAll, Act.put, List.setIfInBounds_toArray, List.set_cons_zero, List.set_cons_succ]; rfl)) (hJ2_13 (v129, v136) _ ⟨hHeld, (rr HO130.out), (rr HO137.out), (kk BK125.out), (kk BK126.out), bb⟩) }
 {
 skip
 refine box_step ?hg (N := 8) ?hd (cs := #[.slice none 0 0, .slice none 0 0]) (t := 25) ?hr ?_; (case hd => rfl); (case hg => rfl); (case hr => first | (go_simp; done) | (go_simp; rfl))
 intro gb141 hg w22 hbox hb
 have n0_ := aS (Kd.R_below (rr HO130.out) hb)
 have n1_ := aS (kb BK125.out hb)
 have n2_ := aS (kb BK126.out hb)
 have n3_ := aS (below_step bb hb)
 have n4_ := aS (hbox)
 have n5_ := aS ((by rw [hg]; exact bz : w.heap.size ≤ gb141))
 have n6_ := aS ((by rw [hg]; exact bz : w.heap.size ≤ gb141))
 have n7_ := aS ((by rw [hg]; exact Nat.ne_of_lt (blk_lt (g := gb125) (o := .cells #[.slice (some ad134) l0_0.length c0_0, .slice A0_1 l0_1.length c0_1] 25 (0, 0)) (kk BK125.out)) : gb125 ≠ gb141))
 have n8_ := aS ((by rw [hg]; exact Nat.ne_of_gt (blk_lt (g := gb125) (o := .cells #[.slice (some ad134) l0_0.length c0_0, .slice A0_1 l0_1.length c0_1] 25 (0, 0)) (kk BK125.out)) : gb141 ≠ gb125))
 have n9_ := aS ((by rw [hg]; exact Nat.ne_of_lt (blk_lt (g := gb126) (o := .cells #[.slice none 0 0, .slice none 0 0] 25 (0, 0)) (kk BK126.out)) : gb126 ≠ gb141))
 have n10_ := aS ((by rw [hg]; exact Nat.ne_of_gt (blk_lt (g := gb126) (o := .cells #[.slice none 0 0, .slice none 0 0] 25 (0, 0)) (kk BK126.out)) : gb141 ≠ gb126))
 clear HO130
 clear BK125
 clear BK126
 clear HB
 have HO130 := n0_
 have BK125 := n1_
 have BK126 := n2_
 have HB := n3_
 have BK141 := n4_
 have GW141 := n5_
 have GE141 := n6_
 have NB125_141 := n7_
 have NB141_125 := n8_
 have NB126_141 := n9_
 have NB141_126 := n10_
 clear n0_ n1_ n2_ n3_ n4_ n5_ n6_ n7_ n8_ n9_ n10_
 clear hb hbox hg
 refine hK.out _ _ ⟨(blk_cell BK125.out 0).trans rfl, (blk_cell BK125.out 1).trans rfl, (cc HB.out hw134_0)⟩ (fun hHeld => ?_)
 clear hK K
 refine norm_ (a' := ?_) ?_ ?_
 rotate_left
 {
 show Act.put _ (some 8) _ = _
 simp only [Act.put, sT, s0, s1, i64_w, i32_w]
 rfl }
 exact norm_ (by first | (simp only [putAll, Act.put, List.setIfInBounds_toArray, List.set_cons_zero, List.set_cons_succ]; done) | (simp only [putAll, Act.put, List.setIfInBounds_toArray, List.set_cons_zero, List.set_cons_succ]; rfl)) (hJ2_16 (v129, gb141) _ ⟨hHeld, (rr HO130.out), (kk BK125.out), (kk BK126.out), (kk BK141.out), GW141.out, GE141.out, NB125_141.out, NB141_125.out, NB126_141.out, NB141_126.out, bb⟩) } } }
 {
 skip
 rintro ⟨v136, gb141⟩ w23 ⟨hS_, h0_, h1_, h2_, h3_, h4_, h5_, h6_, h7_, h8_, h9_, h10_⟩
 have n0_ : Aside0 (Kd.R k46 46 w23 w.heap.size (fun _ => True) v136 y135) := ⟨h0_⟩
 have n1_ : Aside0 (w23.heap[gb125]? = some (.cells #[.slice (some ad134) l0_0.length c0_0, .slice A0_1 l0_1.length c0_1] 25 (0, 0))) := ⟨h1_⟩
 have n2_ : Aside0 (w23.heap[gb126]? = some (.cells #[.slice none 0 0, .slice none 0 0] 25 (0, 0))) := ⟨h2_⟩
 have n3_ : Aside0 (w23.heap[gb141]? = some (.cells #[.slice none 0 0, .slice none 0 0] 25 (0, 0))) := ⟨h3_⟩
 have n4_ : Aside0 (w.heap.size ≤ gb141) := ⟨h4_⟩
 have n5_ : Aside0 (w.heap.size ≤ gb141) := ⟨h5_⟩
 have n6_ : Aside0 (gb125 ≠ gb141) := ⟨h6_⟩
 have n7_ : Aside0 (gb141 ≠ gb125) := ⟨h7_⟩
 have n8_ : Aside0 (gb126 ≠ gb141) := ⟨h8_⟩
 have n9_ : Aside0 (gb141 ≠ gb126) := ⟨h9_⟩
 have n10_ : Aside0 (Below w.heap.size w w23) := ⟨h10_⟩
 clear BK125
 clear BK126
 clear HB
 clear h0_ h1_ h2_ h3_ h4_ h5_ h6_ h7_ h8_ h9_ h10_
 have HO137 := n0_
 have BK125 := n1_
 have BK126 := n2_
 have BK141 := n3_
 have GW141 := n4_
 have GE141 := n5_
 have NB125_141 := n6_
 have NB141_125 := n7_
 have NB126_141 := n8_
 have NB141_126 := n9_
 have HB := n10_
 clear n0_ n1_ n2_ n3_ n4_ n5_ n6_ n7_ n8_ n9_ n10_
 have hHeld : w23.cell? ⟨gb125, 0, none⟩ = some (.slice (some ad134) l0_0.length c0_0) ∧ w23.cell? ⟨gb125, 1, none⟩ = some (.slice A0_1 l0_1.length c0_1) ∧ w23.cell? (ad134.add (a1).toNat) = some (.string (rdOf ByteArray.empty l0_0 a1)) := hS_
 refine norm_ (a' := ?_) ?_ ?_
 rotate_left
 {
 simp only [putAll, Act.put, List.setIfInBounds_toArray, List.set_cons_zero, List.set_cons_succ]
 rfl }
 refine one_ (i := 2) (N := some 22) #[true, true, true, true, true, false, true, true, true, true, true, true, true, true, false, false, true, false] rfl rfl (one_of HT_.out (by kernel_rfl)) (by decide) (fun K hK => ?_)
 refine goes_ Try.func34 (by kernel_rfl) rfl #[.slice (some ad134) l0_0.length c0_0] (by rfl) rfl rfl (by (try simp only [List.map_toArray, List.map_cons, List.map_nil]); first | done | rfl | (simp only [List.length_drop, List.length_take]; rfl)) ?_
 with_reducible refine (cloneS.calls _ _ l0_0 t128 _ ?side1 ?side2 A7.out).mono ?_
 (case side1 => exact Kd.C_below HR0_0.out bb)
 (case side2 => exact HC0_0.out)
 rintro e w24 ⟨v129, rfl, ho0, hb⟩
 refine ⟨_, rfl, ?_⟩
 have n0_ := aS (Kd.R_below (rr HO137.out) hb)
 have n1_ := aS (Kd.R_lower ho0 bz)
 have n2_ := aS (kb BK125.out hb)
 have n3_ := aS (kb BK126.out hb)
 have n4_ := aS (kb BK141.out hb)
 have n5_ := aS (below_step bb hb)
 clear HO137
 clear BK125
 clear BK126
 clear BK141
 clear HB
 have HO137 := n0_
 have HO130 := n1_
 have BK125 := n2_
 have BK126 := n3_
 have BK141 := n4_
 have HB := n5_
 clear n0_ n1_ n2_ n3_ n4_ n5_
 (try clear hb)
 (try clear hb2)
 (try clear hk)
 (try clear hi)
 (try clear ho0)
 refine hK.out _ _ ⟨(blk_cell BK125.out 0).trans rfl, (blk_cell BK125.out 1).trans rfl, (cc HB.out hw134_0)⟩ (fun hHeld => ?_)
 clear hK K
 refine norm_ (a' := ?_) ?_ ?_
 rotate_left
 {
 show Act.put _ (some 22) _ = _
 simp only [Act.put, sT, s0, s1, i64_w, i32_w]
 rfl }
 exact norm_ (by first | (simp only [putAll, Act.put, List.setIfInBounds_toArray, List.set_cons_zero, List.set_cons_succ]; done) | (simp only [putAll, Act.put, List.setIfInBounds_toArray, List.set_cons_zero, List.set_cons_succ]; rfl)) (hJ2_13_16 (v129, v136, gb141) _ ⟨hHeld, (rr HO130.out), (rr HO137.out), (kk BK125.out), (kk BK126.out), (kk BK141.out), GW141.out, GE141.out, NB125_141.out, NB141_125.out, NB126_141.out, NB141_126.out, bb⟩) } }
 {
 skip
 rintro ⟨v129, gb141⟩ w22 ⟨hS_, h0_, h1_, h2_, h3_, h4_, h5_, h6_, h7_, h8_, h9_, h10_⟩
 have n0_ : Aside0 (Kd.R Kd.string 9 w22 w.heap.size (fun _ => True) v129 t128) := ⟨h0_⟩
 have n1_ : Aside0 (w22.heap[gb125]? = some (.cells #[.slice (some ad134) l0_0.length c0_0, .slice A0_1 l0_1.length c0_1] 25 (0, 0))) := ⟨h1_⟩
 have n2_ : Aside0 (w22.heap[gb126]? = some (.cells #[.slice none 0 0, .slice none 0 0] 25 (0, 0))) := ⟨h2_⟩
 have n3_ : Aside0 (w22.heap[gb141]? = some (.cells #[.slice none 0 0, .slice none 0 0] 25 (0, 0))) := ⟨h3_⟩
 have n4_ : Aside0 (w.heap.size ≤ gb141) := ⟨h4_⟩
 have n5_ : Aside0 (w.heap.size ≤ gb141) := ⟨h5_⟩
 have n6_ : Aside0 (gb125 ≠ gb141) := ⟨h6_⟩
 have n7_ : Aside0 (gb141 ≠ gb125) := ⟨h7_⟩
 have n8_ : Aside0 (gb126 ≠ gb141) := ⟨h8_⟩
 have n9_ : Aside0 (gb141 ≠ gb126) := ⟨h9_⟩
 have n10_ : Aside0 (Below w.heap.size w w22) := ⟨h10_⟩
 clear BK125
 clear BK126
 clear HB
 clear h0_ h1_ h2_ h3_ h4_ h5_ h6_ h7_ h8_ h9_ h10_
 have HO130 := n0_
 have BK125 := n1_
 have BK126 := n2_
 have BK141 := n3_
 have GW141 := n4_
 have GE141 := n5_
 have NB125_141 := n6_
 have NB141_125 := n7_
 have NB126_141 := n8_
 have NB141_126 := n9_
 have HB := n10_
 clear n0_ n1_ n2_ n3_ n4_ n5_ n6_ n7_ n8_ n9_ n10_
 have hHeld : w22.cell? ⟨gb125, 0, none⟩ = some (.slice (some ad134) l0_0.length c0_0) ∧ w22.cell? ⟨gb125, 1, none⟩ = some (.slice A0_1 l0_1.length c0_1) ∧ w22.cell? (ad134.add (a1).toNat) = some (.string (rdOf ByteArray.empty l0_0 a1)) := hS_
 refine norm_ (a' := ?_) ?_ ?_
 rotate_left
 {
 simp only [putAll, Act.put, List.setIfInBounds_toArray, List.set_cons_zero, List.set_cons_succ]
 rfl }
 refine two_ (i := 5) (j := 13) (Ni := some 25) (Nj := some 33) #[true, true, true, true, true, true, true, true, true, true, true, true, true, false, false, false, true, false] #[true, true, true, true, true, false, true, true, true, true, true, true, true, true, false, false, true, false] rfl rfl rfl rfl (two_of HT_.out (by kernel_rfl)) (by decide) (by decide) (fun K hK => ?_) (fun K hK => ?_)
 {
 skip
 refine goes_ Try.func35 (by kernel_rfl) rfl #[.slice A0_1 l0_1.length c0_1] (by rfl) rfl rfl (by (try simp only [List.map_toArray, List.map_cons, List.map_nil]); first | done | rfl | (simp only [List.length_drop, List.length_take]; rfl)) ?_
 with_reducible refine (cloneW.calls _ _ l0_1 t131 _ ?side1 ?side2 A8.out).mono ?_
 (case side1 => exact Kd.C_below HR0_1.out bb)
 (case side2 => exact HC0_1.out)
 rintro e w23 ⟨v132, rfl, ho0, hb⟩
 refine ⟨_, rfl, ?_⟩
 have n0_ := aS (Kd.R_below (rr HO130.out) hb)
 have n1_ := aS (Kd.R_lower ho0 bz)
 have n2_ := aS (kb BK125.out hb)
 have n3_ := aS (kb BK126.out hb)
 have n4_ := aS (kb BK141.out hb)
 have n5_ := aS (below_step bb hb)
 clear HO130
 clear BK125
 clear BK126
 clear BK141
 clear HB
 have HO130 := n0_
 have HO133 := n1_
 have BK125 := n2_
 have BK126 := n3_
 have BK141 := n4_
 have HB := n5_
 clear n0_ n1_ n2_ n3_ n4_ n5_
 (try clear hb)
 (try clear hb2)
 (try clear hk)
 (try clear hi)
 (try clear ho0)
 refine hK.out _ _ ⟨(blk_cell BK125.out 0).trans rfl, (blk_cell BK125.out 1).trans rfl, (cc HB.out hw134_0)⟩ (fun hHeld => ?_)
 clear hK K
 refine norm_ (a' := ?_) ?_ ?_
 rotate_left
 {
 show Act.put _ (some 25) _ = _
 simp only [Act.put, sT, s0, s1, i64_w, i32_w]
 rfl }
 exact norm_ (by first | (simp only [putAll, Act.put, List.setIfInBounds_toArray, List.set_cons_zero, List.set_cons_succ]; done) | (simp only [putAll, Act.put, List.setIfInBounds_toArray, List.set_cons_zero, List.set_cons_succ]; rfl)) (hJ2_5_16 (v129, v132, gb141) _ ⟨hHeld, (rr HO130.out), (rr HO133.out), (kk BK125.out), (kk BK126.out), (kk BK141.out), GW141.out, GE141.out, NB125_141.out, NB141_125.out, NB126_141.out, NB141_126.out, bb⟩) }
 {
 skip
 refine Kd.R_lit_step k46 _ 46 ?hg (N := 33) ?hd (xs := ([(⟨a1, rdOf ByteArray.empty l0_0 a1⟩ : S46)] : List (S46))) (inner := [.int .i64 a1, .string (rdOf ByteArray.empty l0_0 a1)]) (ok := fun _ => True) (okp := fun _ => True) ?hr ?hp (fun _ hk => hk) trivial (Below.refl _ _) (Nat.le_refl _) (by simp) ?_; (case hd => rfl); (case hg => rfl); (case hr => first | (go_simp; done) | (go_simp; rfl)); (case hp => exact (Reps.c2 (show Kd.M k46 _ _ _ (⟨a1, rdOf ByteArray.empty l0_0 a1⟩ : S46) [.int .i64 a1, .string (rdOf ByteArray.empty l0_0 a1)] from (k46_mkM _ _ _ (⟨a1, rdOf ByteArray.empty l0_0 a1⟩ : S46) )) (Reps.none _ _)))
 intro v136 w23 ho24 hb hg_ hnew_
 clear hg_ hnew_
 (first | rw [← Ny135.out] at ho24 | (simp only [Int.reduceToNat] at ho24; rw [← Ny135.out] at ho24))
 have n0_ := aS (Kd.R_below (rr HO130.out) hb)
 have n1_ := aS (Kd.R_lower ho24 bz)
 have n2_ := aS (kb BK125.out hb)
 have n3_ := aS (kb BK126.out hb)
 have n4_ := aS (kb BK141.out hb)
 have n5_ := aS (below_step bb hb)
 clear HO130
 clear BK125
 clear BK126
 clear BK141
 clear HB
 have HO130 := n0_
 have HO137 := n1_
 have BK125 := n2_
 have BK126 := n3_
 have BK141 := n4_
 have HB := n5_
 clear n0_ n1_ n2_ n3_ n4_ n5_
 clear hb ho24
 refine hK.out _ _ ⟨(blk_cell BK125.out 0).trans rfl, (blk_cell BK125.out 1).trans rfl, (cc HB.out hw134_0)⟩ (fun hHeld => ?_)
 clear hK K
 refine norm_ (a' := ?_) ?_ ?_
 rotate_left
 {
 show Act.put _ (some 33) _ = _
 simp only [Act.put, sT, s0, s1, i64_w, i32_w]
 rfl }
 exact norm_ (by first | (simp only [putAll, Act.put, List.setIfInBounds_toArray, List.set_cons_zero, List.set_cons_succ]; done) | (simp only [putAll, Act.put, List.setIfInBounds_toArray, List.set_cons_zero, List.set_cons_succ]; rfl)) (hJ2_13_16 (v129, v136, gb141) _ ⟨hHeld, (rr HO130.out), (rr HO137.out), (kk BK125.out), (kk BK126.out), (kk BK141.out), GW141.out, GE141.out, NB125_141.out, NB141_125.out, NB126_141.out, NB141_126.out, bb⟩) } } }
 {
 skip
 rintro ⟨v129, v136⟩ w23 ⟨hS_, h0_, h1_, h2_, h3_, h4_⟩
 have n0_ : Aside0 (Kd.R Kd.string 9 w23 w.heap.size (fun _ => True) v129 t128) := ⟨h0_⟩
 have n1_ : Aside0 (Kd.R k46 46 w23 w.heap.size (fun _ => True) v136 y135) := ⟨h1_⟩
 have n2_ : Aside0 (w23.heap[gb125]? = some (.cells #[.slice (some ad134) l0_0.length c0_0, .slice A0_1 l0_1.length c0_1] 25 (0, 0))) := ⟨h2_⟩
 have n3_ : Aside0 (w23.heap[gb126]? = some (.cells #[.slice none 0 0, .slice none 0 0] 25 (0, 0))) := ⟨h3_⟩
 have n4_ : Aside0 (Below w.heap.size w w23) := ⟨h4_⟩
 clear BK125
 clear BK126
 clear HB
 clear h0_ h1_ h2_ h3_ h4_
 have HO130 := n0_
 have HO137 := n1_
 have BK125 := n2_
 have BK126 := n3_
 have HB := n4_
 clear n0_ n1_ n2_ n3_ n4_
 have hHeld : w23.cell? ⟨gb125, 0, none⟩ = some (.slice (some ad134) l0_0.length c0_0) ∧ w23.cell? ⟨gb125, 1, none⟩ = some (.slice A0_1 l0_1.length c0_1) ∧ w23.cell? (ad134.add (a1).toNat) = some (.string (rdOf ByteArray.empty l0_0 a1)) := hS_
 refine norm_ (a' := ?_) ?_ ?_
 rotate_left
 {
 simp only [putAll, Act.put, List.setIfInBounds_toArray, List.set_cons_zero, List.set_cons_succ]
 rfl }
 refine two_ (i := 5) (j := 16) (Ni := some 25) (Nj := some 8) #[true, true, true, true, true, true, true, true, true, true, true, true, true, true, false, false, false, false] #[true, true, true, true, true, false, true, true, true, true, true, true, true, true, false, false, true, false] rfl rfl rfl rfl (two_of HT_.out (by kernel_rfl)) (by decide) (by decide) (fun K hK => ?_) (fun K hK => ?_)
 {
 skip
 refine goes_ Try.func35 (by kernel_rfl) rfl #[.slice A0_1 l0_1.length c0_1] (by rfl) rfl rfl (by (try simp only [List.map_toArray, List.map_cons, List.map_nil]); first | done | rfl | (simp only [List.length_drop, List.length_take]; rfl)) ?_
 with_reducible refine (cloneW.calls _ _ l0_1 t131 _ ?side1 ?side2 A8.out).mono ?_
 (case side1 => exact Kd.C_below HR0_1.out bb)
 (case side2 => exact HC0_1.out)
 rintro e w24 ⟨v132, rfl, ho0, hb⟩
 refine ⟨_, rfl, ?_⟩
 have n0_ := aS (Kd.R_below (rr HO130.out) hb)
 have n1_ := aS (Kd.R_elder' (rr HO137.out) (Kd.R_base ho0) hb)
 have n2_ := aS (Kd.R_lower (Kd.R_new' ho0 (Kd.R_lt (rr HO137.out))) bz)
 have n3_ := aS (kb BK125.out hb)
 have n4_ := aS (kb BK126.out hb)
 have n5_ := aS (below_step bb hb)
 clear HO130
 clear HO137
 clear BK125
 clear BK126
 clear HB
 have HO130 := n0_
 have HO137 := n1_
 have HO133 := n2_
 have BK125 := n3_
 have BK126 := n4_
 have HB := n5_
 clear n0_ n1_ n2_ n3_ n4_ n5_
 (try clear hb)
 (try clear hb2)
 (try clear hk)
 (try clear hi)
 (try clear ho0)
 refine hK.out _ _ ⟨(blk_cell BK125.out 0).trans rfl, (blk_cell BK125.out 1).trans rfl, (cc HB.out hw134_0)⟩ (fun hHeld => ?_)
 clear hK K
 refine norm_ (a' := ?_) ?_ ?_
 rotate_left
 {
 show Act.put _ (some 25) _ = _
 simp only [Act.put, sT, s0, s1, i64_w, i32_w]
 rfl }
 exact norm_ (by first | (simp only [putAll, Act.put, List.setIfInBounds_toArray, List.set_cons_zero, List.set_cons_succ]; done) | (simp only [putAll, Act.put, List.setIfInBounds_toArray, List.set_cons_zero, List.set_cons_succ]; rfl)) (hJ2_5_13 (v129, v132, v136) _ ⟨hHeld, (rr HO130.out), (rr (Kd.R_mono HO133.out (fun _ hk => hk.2))), (rr (Kd.R_mono HO137.out (fun _ hk => hk.2))), (kk BK125.out), (kk BK126.out), bb⟩) }
 {
 skip
 refine box_step ?hg (N := 8) ?hd (cs := #[.slice none 0 0, .slice none 0 0]) (t := 25) ?hr ?_; (case hd => rfl); (case hg => rfl); (case hr => first | (go_simp; done) | (go_simp; rfl))
 intro gb141 hg w24 hbox hb
 have n0_ := aS (Kd.R_below (rr HO130.out) hb)
 have n1_ := aS (Kd.R_below (rr HO137.out) hb)
 have n2_ := aS (kb BK125.out hb)
 have n3_ := aS (kb BK126.out hb)
 have n4_ := aS (below_step bb hb)
 have n5_ := aS (hbox)
 have n6_ := aS ((by rw [hg]; exact bz : w.heap.size ≤ gb141))
 have n7_ := aS ((by rw [hg]; exact bz : w.heap.size ≤ gb141))
 have n8_ := aS ((by rw [hg]; exact Nat.ne_of_lt (blk_lt (g := gb125) (o := .cells #[.slice (some ad134) l0_0.length c0_0, .slice A0_1 l0_1.length c0_1] 25 (0, 0)) (kk BK125.out)) : gb125 ≠ gb141))
 have n9_ := aS ((by rw [hg]; exact Nat.ne_of_gt (blk_lt (g := gb125) (o := .cells #[.slice (some ad134) l0_0.length c0_0, .slice A0_1 l0_1.length c0_1] 25 (0, 0)) (kk BK125.out)) : gb141 ≠ gb125))
 have n10_ := aS ((by rw [hg]; exact Nat.ne_of_lt (blk_lt (g := gb126) (o := .cells #[.slice none 0 0, .slice none 0 0] 25 (0, 0)) (kk BK126.out)) : gb126 ≠ gb141))
 have n11_ := aS ((by rw [hg]; exact Nat.ne_of_gt (blk_lt (g := gb126) (o := .cells #[.slice none 0 0, .slice none 0 0] 25 (0, 0)) (kk BK126.out)) : gb141 ≠ gb126))
 clear HO130
 clear HO137
 clear BK125
 clear BK126
 clear HB
 have HO130 := n0_
 have HO137 := n1_
 have BK125 := n2_
 have BK126 := n3_
 have HB := n4_
 have BK141 := n5_
 have GW141 := n6_
 have GE141 := n7_
 have NB125_141 := n8_
 have NB141_125 := n9_
 have NB126_141 := n10_
 have NB141_126 := n11_
 clear n0_ n1_ n2_ n3_ n4_ n5_ n6_ n7_ n8_ n9_ n10_ n11_
 clear hb hbox hg
 refine hK.out _ _ ⟨(blk_cell BK125.out 0).trans rfl, (blk_cell BK125.out 1).trans rfl, (cc HB.out hw134_0)⟩ (fun hHeld => ?_)
 clear hK K
 refine norm_ (a' := ?_) ?_ ?_
 rotate_left
 {
 show Act.put _ (some 8) _ = _
 simp only [Act.put, sT, s0, s1, i64_w, i32_w]
 rfl }
 exact norm_ (by first | (simp only [putAll, Act.put, List.setIfInBounds_toArray, List.set_cons_zero, List.set_cons_succ]; done) | (simp only [putAll, Act.put, List.setIfInBounds_toArray, List.set_cons_zero, List.set_cons_succ]; rfl)) (hJ2_13_16 (v129, v136, gb141) _ ⟨hHeld, (rr HO130.out), (rr HO137.out), (kk BK125.out), (kk BK126.out), (kk BK141.out), GW141.out, GE141.out, NB125_141.out, NB141_125.out, NB126_141.out, NB141_126.out, bb⟩) } } }
 {
 skip
 rintro ⟨v129, v132⟩ w22 ⟨hS_, h0_, h1_, h2_, h3_, h4_⟩
 have n0_ : Aside0 (Kd.R Kd.string 9 w22 w.heap.size (fun _ => True) v129 t128) := ⟨h0_⟩
 have n1_ : Aside0 (Kd.R k46 46 w22 w.heap.size (fun _ => True) v132 t131) := ⟨h1_⟩
 have n2_ : Aside0 (w22.heap[gb125]? = some (.cells #[.slice (some ad134) l0_0.length c0_0, .slice A0_1 l0_1.length c0_1] 25 (0, 0))) := ⟨h2_⟩
 have n3_ : Aside0 (w22.heap[gb126]? = some (.cells #[.slice none 0 0, .slice none 0 0] 25 (0, 0))) := ⟨h3_⟩
 have n4_ : Aside0 (Below w.heap.size w w22) := ⟨h4_⟩
 clear BK125
 clear BK126
 clear HB
 clear h0_ h1_ h2_ h3_ h4_
 have HO130 := n0_
 have HO133 := n1_
 have BK125 := n2_
 have BK126 := n3_
 have HB := n4_
 clear n0_ n1_ n2_ n3_ n4_
 have hHeld : w22.cell? ⟨gb125, 0, none⟩ = some (.slice (some ad134) l0_0.length c0_0) ∧ w22.cell? ⟨gb125, 1, none⟩ = some (.slice A0_1 l0_1.length c0_1) ∧ w22.cell? (ad134.add (a1).toNat) = some (.string (rdOf ByteArray.empty l0_0 a1)) := hS_
 refine norm_ (a' := ?_) ?_ ?_
 rotate_left
 {
 simp only [putAll, Act.put, List.setIfInBounds_toArray, List.set_cons_zero, List.set_cons_succ]
 rfl }
 refine two_ (i := 13) (j := 16) (Ni := some 33) (Nj := some 8) #[true, true, true, true, true, true, true, true, true, true, true, true, true, true, false, false, false, false] #[true, true, true, true, true, true, true, true, true, true, true, true, true, false, false, false, true, false] rfl rfl rfl rfl (two_of HT_.out (by kernel_rfl)) (by decide) (by decide) (fun K hK => ?_) (fun K hK => ?_)
 {
 skip
 refine Kd.R_lit_step k46 _ 46 ?hg (N := 33) ?hd (xs := ([(⟨a1, rdOf ByteArray.empty l0_0 a1⟩ : S46)] : List (S46))) (inner := [.int .i64 a1, .string (rdOf ByteArray.empty l0_0 a1)]) (ok := fun _ => True) (okp := fun _ => True) ?hr ?hp (fun _ hk => hk) trivial (Below.refl _ _) (Nat.le_refl _) (by simp) ?_; (case hd => rfl); (case hg => rfl); (case hr => first | (go_simp; done) | (go_simp; rfl)); (case hp => exact (Reps.c2 (show Kd.M k46 _ _ _ (⟨a1, rdOf ByteArray.empty l0_0 a1⟩ : S46) [.int .i64 a1, .string (rdOf ByteArray.empty l0_0 a1)] from (k46_mkM _ _ _ (⟨a1, rdOf ByteArray.empty l0_0 a1⟩ : S46) )) (Reps.none _ _)))
 intro v136 w23 ho24 hb hg_ hnew_
 clear hg_ hnew_
 (first | rw [← Ny135.out] at ho24 | (simp only [Int.reduceToNat] at ho24; rw [← Ny135.out] at ho24))
 have n0_ := aS (Kd.R_below (rr HO130.out) hb)
 have n1_ := aS (Kd.R_elder' (rr HO133.out) (Kd.R_base ho24) hb)
 have n2_ := aS (Kd.R_lower (Kd.R_new' ho24 (Kd.R_lt (rr HO133.out))) bz)
 have n3_ := aS (kb BK125.out hb)
 have n4_ := aS (kb BK126.out hb)
 have n5_ := aS (below_step bb hb)
 clear HO130
 clear HO133
 clear BK125
 clear BK126
 clear HB
 have HO130 := n0_
 have HO133 := n1_
 have HO137 := n2_
 have BK125 := n3_
 have BK126 := n4_
 have HB := n5_
 clear n0_ n1_ n2_ n3_ n4_ n5_
 clear hb ho24
 refine hK.out _ _ ⟨(blk_cell BK125.out 0).trans rfl, (blk_cell BK125.out 1).trans rfl, (cc HB.out hw134_0)⟩ (fun hHeld => ?_)
 clear hK K
 refine norm_ (a' := ?_) ?_ ?_
 rotate_left
 {
 show Act.put _ (some 33) _ = _
 simp only [Act.put, sT, s0, s1, i64_w, i32_w]
 rfl }
 exact norm_ (by first | (simp only [putAll, Act.put, List.setIfInBounds_toArray, List.set_cons_zero, List.set_cons_succ]; done) | (simp only [putAll, Act.put, List.setIfInBounds_toArray, List.set_cons_zero, List.set_cons_succ]; rfl)) (hJ2_5_13 (v129, v132, v136) _ ⟨hHeld, (rr HO130.out), (rr (Kd.R_mono HO133.out (fun _ hk => hk.2))), (rr (Kd.R_mono HO137.out (fun _ hk => hk.2))), (kk BK125.out), (kk BK126.out), bb⟩) }
 {
 skip
 refine box_step ?hg (N := 8) ?hd (cs := #[.slice none 0 0, .slice none 0 0]) (t := 25) ?hr ?_; (case hd => rfl); (case hg => rfl); (case hr => first | (go_simp; done) | (go_simp; rfl))
 intro gb141 hg w23 hbox hb
 have n0_ := aS (Kd.R_below (rr HO130.out) hb)
 have n1_ := aS (Kd.R_below (rr HO133.out) hb)
 have n2_ := aS (kb BK125.out hb)
 have n3_ := aS (kb BK126.out hb)
 have n4_ := aS (below_step bb hb)
 have n5_ := aS (hbox)
 have n6_ := aS ((by rw [hg]; exact bz : w.heap.size ≤ gb141))
 have n7_ := aS ((by rw [hg]; exact bz : w.heap.size ≤ gb141))
 have n8_ := aS ((by rw [hg]; exact Nat.ne_of_lt (blk_lt (g := gb125) (o := .cells #[.slice (some ad134) l0_0.length c0_0, .slice A0_1 l0_1.length c0_1] 25 (0, 0)) (kk BK125.out)) : gb125 ≠ gb141))
 have n9_ := aS ((by rw [hg]; exact Nat.ne_of_gt (blk_lt (g := gb125) (o := .cells #[.slice (some ad134) l0_0.length c0_0, .slice A0_1 l0_1.length c0_1] 25 (0, 0)) (kk BK125.out)) : gb141 ≠ gb125))
 have n10_ := aS ((by rw [hg]; exact Nat.ne_of_lt (blk_lt (g := gb126) (o := .cells #[.slice none 0 0, .slice none 0 0] 25 (0, 0)) (kk BK126.out)) : gb126 ≠ gb141))
 have n11_ := aS ((by rw [hg]; exact Nat.ne_of_gt (blk_lt (g := gb126) (o := .cells #[.slice none 0 0, .slice none 0 0] 25 (0, 0)) (kk BK126.out)) : gb141 ≠ gb126))
 clear HO130
 clear HO133
 clear BK125
 clear BK126
 clear HB
 have HO130 := n0_
 have HO133 := n1_
 have BK125 := n2_
 have BK126 := n3_
 have HB := n4_
 have BK141 := n5_
 have GW141 := n6_
 have GE141 := n7_
 have NB125_141 := n8_
 have NB141_125 := n9_
 have NB126_141 := n10_
 have NB141_126 := n11_
 clear n0_ n1_ n2_ n3_ n4_ n5_ n6_ n7_ n8_ n9_ n10_ n11_
 clear hb hbox hg
 refine hK.out _ _ ⟨(blk_cell BK125.out 0).trans rfl, (blk_cell BK125.out 1).trans rfl, (cc HB.out hw134_0)⟩ (fun hHeld => ?_)
 clear hK K
 refine norm_ (a' := ?_) ?_ ?_
 rotate_left
 {
 show Act.put _ (some 8) _ = _
 simp only [Act.put, sT, s0, s1, i64_w, i32_w]
 rfl }
 exact norm_ (by first | (simp only [putAll, Act.put, List.setIfInBounds_toArray, List.set_cons_zero, List.set_cons_succ]; done) | (simp only [putAll, Act.put, List.setIfInBounds_toArray, List.set_cons_zero, List.set_cons_succ]; rfl)) (hJ2_5_16 (v129, v132, gb141) _ ⟨hHeld, (rr HO130.out), (rr HO133.out), (kk BK125.out), (kk BK126.out), (kk BK141.out), GW141.out, GE141.out, NB125_141.out, NB141_125.out, NB126_141.out, NB141_126.out, bb⟩) } } }
 {
 skip
 rintro ⟨v129, v136, gb141⟩ w24 ⟨hS_, h0_, h1_, h2_, h3_, h4_, h5_, h6_, h7_, h8_, h9_, h10_, h11_⟩
 have n0_ : Aside0 (Kd.R Kd.string 9 w24 w.heap.size (fun _ => True) v129 t128) := ⟨h0_⟩
 have n1_ : Aside0 (Kd.R k46 46 w24 w.heap.size (fun _ => True) v136 y135) := ⟨h1_⟩
 have n2_ : Aside0 (w24.heap[gb125]? = some (.cells #[.slice (some ad134) l0_0.length c0_0, .slice A0_1 l0_1.length c0_1] 25 (0, 0))) := ⟨h2_⟩
 have n3_ : Aside0 (w24.heap[gb126]? = some (.cells #[.slice none 0 0, .slice none 0 0] 25 (0, 0))) := ⟨h3_⟩
 have n4_ : Aside0 (w24.heap[gb141]? = some (.cells #[.slice none 0 0, .slice none 0 0] 25 (0, 0))) := ⟨h4_⟩
 have n5_ : Aside0 (w.heap.size ≤ gb141) := ⟨h5_⟩
 have n6_ : Aside0 (w.heap.size ≤ gb141) := ⟨h6_⟩
 have n7_ : Aside0 (gb125 ≠ gb141) := ⟨h7_⟩
 have n8_ : Aside0 (gb141 ≠ gb125) := ⟨h8_⟩
 have n9_ : Aside0 (gb126 ≠ gb141) := ⟨h9_⟩
 have n10_ : Aside0 (gb141 ≠ gb126) := ⟨h10_⟩
 have n11_ : Aside0 (Below w.heap.size w w24) := ⟨h11_⟩
 clear BK125
 clear BK126
 clear HB
 clear h0_ h1_ h2_ h3_ h4_ h5_ h6_ h7_ h8_ h9_ h10_ h11_
 have HO130 := n0_
 have HO137 := n1_
 have BK125 := n2_
 have BK126 := n3_
 have BK141 := n4_
 have GW141 := n5_
 have GE141 := n6_
 have NB125_141 := n7_
 have NB141_125 := n8_
 have NB126_141 := n9_
 have NB141_126 := n10_
 have HB := n11_
 clear n0_ n1_ n2_ n3_ n4_ n5_ n6_ n7_ n8_ n9_ n10_ n11_
 have hHeld : w24.cell? ⟨gb125, 0, none⟩ = some (.slice (some ad134) l0_0.length c0_0) ∧ w24.cell? ⟨gb125, 1, none⟩ = some (.slice A0_1 l0_1.length c0_1) ∧ w24.cell? (ad134.add (a1).toNat) = some (.string (rdOf ByteArray.empty l0_0 a1)) := hS_
 refine norm_ (a' := ?_) ?_ ?_
 rotate_left
 {
 simp only [putAll, Act.put, List.setIfInBounds_toArray, List.set_cons_zero, List.set_cons_succ]
 rfl }
 refine one_ (i := 5) (N := some 25) #[true, true, true, true, true, true, true, true, true, true, true, true, true, true, false, false, true, false] rfl rfl (one_of HT_.out (by kernel_rfl)) (by decide) (fun K hK => ?_)
 refine goes_ Try.func35 (by kernel_rfl) rfl #[.slice A0_1 l0_1.length c0_1] (by rfl) rfl rfl (by (try simp only [List.map_toArray, List.map_cons, List.map_nil]); first | done | rfl | (simp only [List.length_drop, List.length_take]; rfl)) ?_
 with_reducible refine (cloneW.calls _ _ l0_1 t131 _ ?side1 ?side2 A8.out).mono ?_
 (case side1 => exact Kd.C_below HR0_1.out bb)
 (case side2 => exact HC0_1.out)
 rintro e w25 ⟨v132, rfl, ho0, hb⟩
 refine ⟨_, rfl, ?_⟩
 have n0_ := aS (Kd.R_below (rr HO130.out) hb)
 have n1_ := aS (Kd.R_elder' (rr HO137.out) (Kd.R_base ho0) hb)
 have n2_ := aS (Kd.R_lower (Kd.R_new' ho0 (Kd.R_lt (rr HO137.out))) bz)
 have n3_ := aS (kb BK125.out hb)
 have n4_ := aS (kb BK126.out hb)
 have n5_ := aS (kb BK141.out hb)
 have n6_ := aS (below_step bb hb)
 clear HO130
 clear HO137
 clear BK125
 clear BK126
 clear BK141
 clear HB
 have HO130 := n0_
 have HO137 := n1_
 have HO133 := n2_
 have BK125 := n3_
 have BK126 := n4_
 have BK141 := n5_
 have HB := n6_
 clear n0_ n1_ n2_ n3_ n4_ n5_ n6_
 (try clear hb)
 (try clear hb2)
 (try clear hk)
 (try clear hi)
 (try clear ho0)
 refine hK.out _ _ ⟨(blk_cell BK125.out 0).trans rfl, (blk_cell BK125.out 1).trans rfl, (cc HB.out hw134_0)⟩ (fun hHeld => ?_)
 clear hK K
 refine norm_ (a' := ?_) ?_ ?_
 rotate_left
 {
 show Act.put _ (some 25) _ = _
 simp only [Act.put, sT, s0, s1, i64_w, i32_w]
 rfl }
 exact norm_ (by first | (simp only [putAll, Act.put, List.setIfInBounds_toArray, List.set_cons_zero, List.set_cons_succ]; done) | (simp only [putAll, Act.put, List.setIfInBounds_toArray, List.set_cons_zero, List.set_cons_succ]; rfl)) (hJ2_5_13_16 (v129, v132, v136, gb141) _ ⟨hHeld, (rr HO130.out), (rr (Kd.R_mono HO133.out (fun _ hk => hk.2))), (rr (Kd.R_mono HO137.out (fun _ hk => hk.2))), (kk BK125.out), (kk BK126.out), (kk BK141.out), GW141.out, GE141.out, NB125_141.out, NB141_125.out, NB126_141.out, NB141_126.out, bb⟩) } }
 {
 skip
 rintro ⟨v129, v132, gb141⟩ w23 ⟨hS_, h0_, h1_, h2_, h3_, h4_, h5_, h6_, h7_, h8_, h9_, h10_, h11_⟩
 have n0_ : Aside0 (Kd.R Kd.string 9 w23 w.heap.size (fun _ => True) v129 t128) := ⟨h0_⟩
 have n1_ : Aside0 (Kd.R k46 46 w23 w.heap.size (fun _ => True) v132 t131) := ⟨h1_⟩
 have n2_ : Aside0 (w23.heap[gb125]? = some (.cells #[.slice (some ad134) l0_0.length c0_0, .slice A0_1 l0_1.length c0_1] 25 (0, 0))) := ⟨h2_⟩
 have n3_ : Aside0 (w23.heap[gb126]? = some (.cells #[.slice none 0 0, .slice none 0 0] 25 (0, 0))) := ⟨h3_⟩
 have n4_ : Aside0 (w23.heap[gb141]? = some (.cells #[.slice none 0 0, .slice none 0 0] 25 (0, 0))) := ⟨h4_⟩
 have n5_ : Aside0 (w.heap.size ≤ gb141) := ⟨h5_⟩
 have n6_ : Aside0 (w.heap.size ≤ gb141) := ⟨h6_⟩
 have n7_ : Aside0 (gb125 ≠ gb141) := ⟨h7_⟩
 have n8_ : Aside0 (gb141 ≠ gb125) := ⟨h8_⟩
 have n9_ : Aside0 (gb126 ≠ gb141) := ⟨h9_⟩
 have n10_ : Aside0 (gb141 ≠ gb126) := ⟨h10_⟩
 have n11_ : Aside0 (Below w.heap.size w w23) := ⟨h11_⟩
 clear BK125
 clear BK126
 clear HB
 clear h0_ h1_ h2_ h3_ h4_ h5_ h6_ h7_ h8_ h9_ h10_ h11_
 have HO130 := n0_
 have HO133 := n1_
 have BK125 := n2_
 have BK126 := n3_
 have BK141 := n4_
 have GW141 := n5_
 have GE141 := n6_
 have NB125_141 := n7_
 have NB141_125 := n8_
 have NB126_141 := n9_
 have NB141_126 := n10_
 have HB := n11_
 clear n0_ n1_ n2_ n3_ n4_ n5_ n6_ n7_ n8_ n9_ n10_ n11_
 have hHeld : w23.cell? ⟨gb125, 0, none⟩ = some (.slice (some ad134) l0_0.length c0_0) ∧ w23.cell? ⟨gb125, 1, none⟩ = some (.slice A0_1 l0_1.length c0_1) ∧ w23.cell? (ad134.add (a1).toNat) = some (.string (rdOf ByteArray.empty l0_0 a1)) := hS_
 refine norm_ (a' := ?_) ?_ ?_
 rotate_left
 {
 simp only [putAll, Act.put, List.setIfInBounds_toArray, List.set_cons_zero, List.set_cons_succ]
 rfl }
 refine one_ (i := 13) (N := some 33) #[true, true, true, true, true, true, true, true, true, true, true, true, true, true, false, false, true, false] rfl rfl (one_of HT_.out (by kernel_rfl)) (by decide) (fun K hK => ?_)
 refine Kd.R_lit_step k46 _ 46 ?hg (N := 33) ?hd (xs := ([(⟨a1, rdOf ByteArray.empty l0_0 a1⟩ : S46)] : List (S46))) (inner := [.int .i64 a1, .string (rdOf ByteArray.empty l0_0 a1)]) (ok := fun _ => True) (okp := fun _ => True) ?hr ?hp (fun _ hk => hk) trivial (Below.refl _ _) (Nat.le_refl _) (by simp) ?_; (case hd => rfl); (case hg => rfl); (case hr => first | (go_simp; done) | (go_simp; rfl)); (case hp => exact (Reps.c2 (show Kd.M k46 _ _ _ (⟨a1, rdOf ByteArray.empty l0_0 a1⟩ : S46) [.int .i64 a1, .string (rdOf ByteArray.empty l0_0 a1)] from (k46_mkM _ _ _ (⟨a1, rdOf ByteArray.empty l0_0 a1⟩ : S46) )) (Reps.none _ _)))
 intro v136 w24 ho25 hb hg_ hnew_
 clear hg_ hnew_
 (first | rw [← Ny135.out] at ho25 | (simp only [Int.reduceToNat] at ho25; rw [← Ny135.out] at ho25))
 have n0_ := aS (Kd.R_below (rr HO130.out) hb)
 have n1_ := aS (Kd.R_elder' (rr HO133.out) (Kd.R_base ho25) hb)
 have n2_ := aS (Kd.R_lower (Kd.R_new' ho25 (Kd.R_lt (rr HO133.out))) bz)
 have n3_ := aS (kb BK125.out hb)
 have n4_ := aS (kb BK126.out hb)
 have n5_ := aS (kb BK141.out hb)
 have n6_ := aS (below_step bb hb)
 clear HO130
 clear HO133
 clear BK125
 clear BK126
 clear BK141
 clear HB
 have HO130 := n0_
 have HO133 := n1_
 have HO137 := n2_
 have BK125 := n3_
 have BK126 := n4_
 have BK141 := n5_
 have HB := n6_
 clear n0_ n1_ n2_ n3_ n4_ n5_ n6_
 clear hb ho25
 refine hK.out _ _ ⟨(blk_cell BK125.out 0).trans rfl, (blk_cell BK125.out 1).trans rfl, (cc HB.out hw134_0)⟩ (fun hHeld => ?_)
 clear hK K
 refine norm_ (a' := ?_) ?_ ?_
 rotate_left
 {
 show Act.put _ (some 33) _ = _
 simp only [Act.put, sT, s0, s1, i64_w, i32_w]
 rfl }
 exact norm_ (by first | (simp only [putAll, Act.put, List.setIfInBounds_toArray, List.set_cons_zero, List.set_cons_succ]; done) | (simp only [putAll, Act.put, List.setIfInBounds_toArray, List.set_cons_zero, List.set_cons_succ]; rfl)) (hJ2_5_13_16 (v129, v132, v136, gb141) _ ⟨hHeld, (rr HO130.out), (rr (Kd.R_mono HO133.out (fun _ hk => hk.2))), (rr (Kd.R_mono HO137.out (fun _ hk => hk.2))), (kk BK125.out), (kk BK126.out), (kk BK141.out), GW141.out, GE141.out, NB125_141.out, NB141_125.out, NB126_141.out, NB141_126.out, bb⟩) } }
 {
 skip
 rintro ⟨v129, v132, v136⟩ w24 ⟨hS_, h0_, h1_, h2_, h3_, h4_, h5_⟩
 have n0_ : Aside0 (Kd.R Kd.string 9 w24 w.heap.size (fun _ => True) v129 t128) := ⟨h0_⟩
 have n1_ : Aside0 (Kd.R k46 46 w24 w.heap.size (fun k_ => some k_ ≠ (v136 : Value).ownBlock) v132 t131) := ⟨h1_⟩
 have n2_ : Aside0 (Kd.R k46 46 w24 w.heap.size (fun k_ => some k_ ≠ (v132 : Value).ownBlock) v136 y135) := ⟨h2_⟩
 have n3_ : Aside0 (w24.heap[gb125]? = some (.cells #[.slice (some ad134) l0_0.length c0_0, .slice A0_1 l0_1.length c0_1] 25 (0, 0))) := ⟨h3_⟩
 have n4_ : Aside0 (w24.heap[gb126]? = some (.cells #[.slice none 0 0, .slice none 0 0] 25 (0, 0))) := ⟨h4_⟩
 have n5_ : Aside0 (Below w.heap.size w w24) := ⟨h5_⟩
 clear BK125
 clear BK126
 clear HB
 clear h0_ h1_ h2_ h3_ h4_ h5_
 have HO130 := n0_
 have HO133 := n1_
 have HO137 := n2_
 have BK125 := n3_
 have BK126 := n4_
 have HB := n5_
 clear n0_ n1_ n2_ n3_ n4_ n5_
 have hHeld : w24.cell? ⟨gb125, 0, none⟩ = some (.slice (some ad134) l0_0.length c0_0) ∧ w24.cell? ⟨gb125, 1, none⟩ = some (.slice A0_1 l0_1.length c0_1) ∧ w24.cell? (ad134.add (a1).toNat) = some (.string (rdOf ByteArray.empty l0_0 a1)) := hS_
 obtain ⟨Ao26, co26, eo26⟩ := Kd.R_slice HO137.out
 (first | subst eo26 | (injection eo26 with f1_ f2_ f3_; have f4_ := f1_.symm; have f5_ := f3_.symm; clear f1_ f2_ f3_; subst f4_; subst f5_))
 refine norm_ (a' := ?_) ?_ ?_
 rotate_left
 {
 simp only [putAll, Act.put, List.setIfInBounds_toArray, List.set_cons_zero, List.set_cons_succ]
 rfl }
 refine two_ (i := 14) (j := 16) (Ni := some 34) (Nj := some 8) #[true, true, true, true, true, true, true, true, true, true, true, true, true, true, true, false, false, false] #[true, true, true, true, true, true, true, true, true, true, true, true, true, true, false, false, true, false] rfl rfl rfl rfl (two_of HT_.out (by kernel_rfl)) (by decide) (by decide) (fun K hK => ?_) (fun K hK => ?_)
 {
 skip
 refine Kd.R_append_rows_step k46 (w0 := w) w.heap.size (by rfl) (.tmp 25) (.tmp 33) 23 46 (.agg #[(.int .i64 0), (.string ⟨#[]⟩)]) 24 rfl Try.underlying23 info46 rfl (by decide) (by omega) v132 t131 y135 _ _ _ (fun k_ => some k_ ≠ (.slice Ao26 y135.length co26 : Value).ownBlock) (fun _ => False) rfl rfl ?aO ?aR (fun _ _ h => h) (fun _ h => h.elim) ?aF ?aB ?aS ?aL ?_
 (case aR => repeat (first | exact (Kd.R_reads' HO137.out).2.2 | (with_reducible refine Kd.C_alloc ?_ _) | (with_reducible refine Kd.C_drewN ?_ _) | (with_reducible refine Kd.C_drew ?_)))
 (case aB => exact bb)
 (case aF => exact (fun k_ hk => Kd.fresh' (Kd.R_lt (rr HO137.out)) k_ hk))
 (case aO => exact (rr HO133.out))
 (case aS => exact bz)
 (case aL => have := LMc11.out; omega)
 intro v139 w25 ho hb hg hat
 rw [← Ny138.out] at ho
 have n0_ := aS (blk_grown (g := gb125) (o := .cells #[.slice (some ad134) l0_0.length c0_0, .slice A0_1 l0_1.length c0_1] 25 (0, 0)) (kk BK125.out) hg (Kd.R_ne HO133.out BK125.out (by decide)))
 have n1_ := aS (blk_grown (g := gb126) (o := .cells #[.slice none 0 0, .slice none 0 0] 25 (0, 0)) (kk BK126.out) hg (Kd.R_ne HO133.out BK126.out (by decide)))
 have n2_ := aS (Kd.R_over' (rr HO130.out) (Kd.R_typed (rr HO133.out)) (by decide) hg)
 have n3_ := aS (Kd.R_after (ok := (fun _ => True)) (rr (Kd.R_mono HO137.out (fun _ hk => ⟨trivial, hk⟩))) hg hat)
 have n4_ := aS (hb)
 have n5_ := aS (ho)
 clear BK125
 clear BK126
 clear HO130
 clear HO137
 clear HB
 clear HO133
 have BK125 := n0_
 have BK126 := n1_
 have HO130 := n2_
 have HO137 := n3_
 have HB := n4_
 have HO140 := n5_
 clear n0_ n1_ n2_ n3_ n4_ n5_
 clear ho hb hg hat
 obtain ⟨Ao27, co27, eo27⟩ := Kd.R_slice HO140.out
 (first | subst eo27 | (injection eo27 with f1_ f2_ f3_; have f4_ := f1_.symm; have f5_ := f3_.symm; clear f1_ f2_ f3_; subst f4_; subst f5_))
 obtain ⟨Ao28, co28, eo28⟩ := Kd.R_slice HO130.out
 (first | subst eo28 | (injection eo28 with f1_ f2_ f3_; have f4_ := f1_.symm; have f5_ := f3_.symm; clear f1_ f2_ f3_; subst f4_; subst f5_))
 refine hK.out _ _ ⟨(blk_cell BK125.out 0).trans rfl, (blk_cell BK125.out 1).trans rfl, (cc HB.out hw134_0)⟩ (fun hHeld => ?_)
 clear hK K
 refine norm_ (a' := ?_) ?_ ?_
 rotate_left
 {
 show Act.put _ (some 34) _ = _
 simp only [Act.put, sT, s0, s1, i64_w, i32_w]
 rfl }
 refine pure_ (i := 15) (N := some 35) (v := ?_) (a' := ?_) #[true, true, true, true, true, true, true, true, true, true, true, true, true, true, true, true, false, false] rfl rfl (any_of HT_.out (by kernel_rfl)) (fun _ _ _ h => h) (Or.inl ⟨by rfl, ?_⟩) ?_ ?_
 rotate_left
 {
 intro w'
 go_simp
 with_reducible rfl }
 rotate_left
 {
 simp only [Act.put, sT, s0, s1, i64_w, i32_w]
 rfl }
 exact norm_ (by first | (simp only [putAll, Act.put, List.setIfInBounds_toArray, List.set_cons_zero, List.set_cons_succ]; done) | (simp only [putAll, Act.put, List.setIfInBounds_toArray, List.set_cons_zero, List.set_cons_succ]; rfl)) (hJ2_5_13_14 (.slice Ao28 t128.length co28, v132, .slice Ao26 y135.length co26, .slice Ao27 y138.length co27) _ ⟨hHeld, (rr HO130.out), (rr (Kd.R_mono HO137.out (fun _ hk => hk.2))), (rr HO140.out), (kk BK125.out), (kk BK126.out), bb⟩) }
 {
 skip
 refine box_step ?hg (N := 8) ?hd (cs := #[.slice none 0 0, .slice none 0 0]) (t := 25) ?hr ?_; (case hd => rfl); (case hg => rfl); (case hr => first | (go_simp; done) | (go_simp; rfl))
 intro gb141 hg w25 hbox hb
 have n0_ := aS (Kd.R_below (rr HO130.out) hb)
 have n1_ := aS (Kd.R_below (rr HO133.out) hb)
 have n2_ := aS (Kd.R_below (rr HO137.out) hb)
 have n3_ := aS (kb BK125.out hb)
 have n4_ := aS (kb BK126.out hb)
 have n5_ := aS (below_step bb hb)
 have n6_ := aS (hbox)
 have n7_ := aS ((by rw [hg]; exact bz : w.heap.size ≤ gb141))
 have n8_ := aS ((by rw [hg]; exact bz : w.heap.size ≤ gb141))
 have n9_ := aS ((by rw [hg]; exact Nat.ne_of_lt (blk_lt (g := gb125) (o := .cells #[.slice (some ad134) l0_0.length c0_0, .slice A0_1 l0_1.length c0_1] 25 (0, 0)) (kk BK125.out)) : gb125 ≠ gb141))
 have n10_ := aS ((by rw [hg]; exact Nat.ne_of_gt (blk_lt (g := gb125) (o := .cells #[.slice (some ad134) l0_0.length c0_0, .slice A0_1 l0_1.length c0_1] 25 (0, 0)) (kk BK125.out)) : gb141 ≠ gb125))
 have n11_ := aS ((by rw [hg]; exact Nat.ne_of_lt (blk_lt (g := gb126) (o := .cells #[.slice none 0 0, .slice none 0 0] 25 (0, 0)) (kk BK126.out)) : gb126 ≠ gb141))
 have n12_ := aS ((by rw [hg]; exact Nat.ne_of_gt (blk_lt (g := gb126) (o := .cells #[.slice none 0 0, .slice none 0 0] 25 (0, 0)) (kk BK126.out)) : gb141 ≠ gb126))
 clear HO130
 clear HO133
 clear HO137
 clear BK125
 clear BK126
 clear HB
 have HO130 := n0_
 have HO133 := n1_
 have HO137 := n2_
 have BK125 := n3_
 have BK126 := n4_
 have HB := n5_
 have BK141 := n6_
 have GW141 := n7_
 have GE141 := n8_
 have NB125_141 := n9_
 have NB141_125 := n10_
 have NB126_141 := n11_
 have NB141_126 := n12_
 clear n0_ n1_ n2_ n3_ n4_ n5_ n6_ n7_ n8_ n9_ n10_ n11_ n12_
 clear hb hbox hg
 refine hK.out _ _ ⟨(blk_cell BK125.out 0).trans rfl, (blk_cell BK125.out 1).trans rfl, (cc HB.out hw134_0)⟩ (fun hHeld => ?_)
 clear hK K
 refine norm_ (a' := ?_) ?_ ?_
 rotate_left
 {
 show Act.put _ (some 8) _ = _
 simp only [Act.put, sT, s0, s1, i64_w, i32_w]
 rfl }
 exact norm_ (by first | (simp only [putAll, Act.put, List.setIfInBounds_toArray, List.set_cons_zero, List.set_cons_succ]; done) | (simp only [putAll, Act.put, List.setIfInBounds_toArray, List.set_cons_zero, List.set_cons_succ]; rfl)) (hJ2_5_13_16 (v129, v132, _, gb141) _ ⟨hHeld, (rr HO130.out), (rr HO133.out), (rr HO137.out), (kk BK125.out), (kk BK126.out), (kk BK141.out), GW141.out, GE141.out, NB125_141.out, NB141_125.out, NB126_141.out, NB141_126.out, bb⟩) } } }
 {
 skip
 rintro ⟨v129, v132, v136, gb141⟩ w25 ⟨hS_, h0_, h1_, h2_, h3_, h4_, h5_, h6_, h7_, h8_, h9_, h10_, h11_, h12_⟩
 have n0_ : Aside0 (Kd.R Kd.string 9 w25 w.heap.size (fun _ => True) v129 t128) := ⟨h0_⟩
 have n1_ : Aside0 (Kd.R k46 46 w25 w.heap.size (fun k_ => some k_ ≠ (v136 : Value).ownBlock) v132 t131) := ⟨h1_⟩
 have n2_ : Aside0 (Kd.R k46 46 w25 w.heap.size (fun k_ => some k_ ≠ (v132 : Value).ownBlock) v136 y135) := ⟨h2_⟩
 have n3_ : Aside0 (w25.heap[gb125]? = some (.cells #[.slice (some ad134) l0_0.length c0_0, .slice A0_1 l0_1.length c0_1] 25 (0, 0))) := ⟨h3_⟩
 have n4_ : Aside0 (w25.heap[gb126]? = some (.cells #[.slice none 0 0, .slice none 0 0] 25 (0, 0))) := ⟨h4_⟩
 have n5_ : Aside0 (w25.heap[gb141]? = some (.cells #[.slice none 0 0, .slice none 0 0] 25 (0, 0))) := ⟨h5_⟩
 have n6_ : Aside0 (w.heap.size ≤ gb141) := ⟨h6_⟩
 have n7_ : Aside0 (w.heap.size ≤ gb141) := ⟨h7_⟩
 have n8_ : Aside0 (gb125 ≠ gb141) := ⟨h8_⟩
 have n9_ : Aside0 (gb141 ≠ gb125) := ⟨h9_⟩
 have n10_ : Aside0 (gb126 ≠ gb141) := ⟨h10_⟩
 have n11_ : Aside0 (gb141 ≠ gb126) := ⟨h11_⟩
 have n12_ : Aside0 (Below w.heap.size w w25) := ⟨h12_⟩
 clear BK125
 clear BK126
 clear HB
 clear h0_ h1_ h2_ h3_ h4_ h5_ h6_ h7_ h8_ h9_ h10_ h11_ h12_
 have HO130 := n0_
 have HO133 := n1_
 have HO137 := n2_
 have BK125 := n3_
 have BK126 := n4_
 have BK141 := n5_
 have GW141 := n6_
 have GE141 := n7_
 have NB125_141 := n8_
 have NB141_125 := n9_
 have NB126_141 := n10_
 have NB141_126 := n11_
 have HB := n12_
 clear n0_ n1_ n2_ n3_ n4_ n5_ n6_ n7_ n8_ n9_ n10_ n11_ n12_
 have hHeld : w25.cell? ⟨gb125, 0, none⟩ = some (.slice (some ad134) l0_0.length c0_0) ∧ w25.cell? ⟨gb125, 1, none⟩ = some (.slice A0_1 l0_1.length c0_1) ∧ w25.cell? (ad134.add (a1).toNat) = some (.string (rdOf ByteArray.empty l0_0 a1)) := hS_
 obtain ⟨Ao27, co27, eo27⟩ := Kd.R_slice HO137.out
 (first | subst eo27 | (injection eo27 with f1_ f2_ f3_; have f4_ := f1_.symm; have f5_ := f3_.symm; clear f1_ f2_ f3_; subst f4_; subst f5_))
 refine norm_ (a' := ?_) ?_ ?_
 rotate_left
 {
 simp only [putAll, Act.put, List.setIfInBounds_toArray, List.set_cons_zero, List.set_cons_succ]
 rfl }
 refine one_ (i := 14) (N := some 34) #[true, true, true, true, true, true, true, true, true, true, true, true, true, true, true, false, true, false] rfl rfl (one_of HT_.out (by kernel_rfl)) (by decide) (fun K hK => ?_)
 refine Kd.R_append_rows_step k46 (w0 := w) w.heap.size (by rfl) (.tmp 25) (.tmp 33) 23 46 (.agg #[(.int .i64 0), (.string ⟨#[]⟩)]) 24 rfl Try.underlying23 info46 rfl (by decide) (by omega) v132 t131 y135 _ _ _ (fun k_ => some k_ ≠ (.slice Ao27 y135.length co27 : Value).ownBlock) (fun _ => False) rfl rfl ?aO ?aR (fun _ _ h => h) (fun _ h => h.elim) ?aF ?aB ?aS ?aL ?_
 (case aR => repeat (first | exact (Kd.R_reads' HO137.out).2.2 | (with_reducible refine Kd.C_alloc ?_ _) | (with_reducible refine Kd.C_drewN ?_ _) | (with_reducible refine Kd.C_drew ?_)))
 (case aB => exact bb)
 (case aF => exact (fun k_ hk => Kd.fresh' (Kd.R_lt (rr HO137.out)) k_ hk))
 (case aO => exact (rr HO133.out))
 (case aS => exact bz)
 (case aL => have := LMc11.out; omega)
 intro v139 w26 ho hb hg hat
 rw [← Ny138.out] at ho
 have n0_ := aS (blk_grown (g := gb125) (o := .cells #[.slice (some ad134) l0_0.length c0_0, .slice A0_1 l0_1.length c0_1] 25 (0, 0)) (kk BK125.out) hg (Kd.R_ne HO133.out BK125.out (by decide)))
 have n1_ := aS (blk_grown (g := gb126) (o := .cells #[.slice none 0 0, .slice none 0 0] 25 (0, 0)) (kk BK126.out) hg (Kd.R_ne HO133.out BK126.out (by decide)))
 have n2_ := aS (Kd.R_over' (rr HO130.out) (Kd.R_typed (rr HO133.out)) (by decide) hg)
 have n3_ := aS (Kd.R_after (ok := (fun _ => True)) (rr (Kd.R_mono HO137.out (fun _ hk => ⟨trivial, hk⟩))) hg hat)
 have n4_ := aS (blk_grown (g := gb141) (o := .cells #[.slice none 0 0, .slice none 0 0] 25 (0, 0)) (kk BK141.out) hg (Kd.R_ne HO133.out BK141.out (by decide)))
 have n5_ := aS (hb)
 have n6_ := aS (ho)
 clear BK125
 clear BK126
 clear HO130
 clear HO137
 clear BK141
 clear HB
 clear HO133
 have BK125 := n0_
 have BK126 := n1_
 have HO130 := n2_
 have HO137 := n3_
 have BK141 := n4_
 have HB := n5_
 have HO140 := n6_
 clear n0_ n1_ n2_ n3_ n4_ n5_ n6_
 clear ho hb hg hat
 obtain ⟨Ao28, co28, eo28⟩ := Kd.R_slice HO140.out
 (first | subst eo28 | (injection eo28 with f1_ f2_ f3_; have f4_ := f1_.symm; have f5_ := f3_.symm; clear f1_ f2_ f3_; subst f4_; subst f5_))
 obtain ⟨Ao29, co29, eo29⟩ := Kd.R_slice HO130.out
 (first | subst eo29 | (injection eo29 with f1_ f2_ f3_; have f4_ := f1_.symm; have f5_ := f3_.symm; clear f1_ f2_ f3_; subst f4_; subst f5_))
 refine hK.out _ _ ⟨(blk_cell BK125.out 0).trans rfl, (blk_cell BK125.out 1).trans rfl, (cc HB.out hw134_0)⟩ (fun hHeld => ?_)
 clear hK K
 refine norm_ (a' := ?_) ?_ ?_
 rotate_left
 {
 show Act.put _ (some 34) _ = _
 simp only [Act.put, sT, s0, s1, i64_w, i32_w]
 rfl }
 refine pure_ (i := 15) (N := some 35) (v := ?_) (a' := ?_) #[true, true, true, true, true, true, true, true, true, true, true, true, true, true, true, true, true, false] rfl rfl (any_of HT_.out (by kernel_rfl)) (fun _ _ _ h => h) (Or.inl ⟨by rfl, ?_⟩) ?_ ?_
 rotate_left
 {
 intro w'
 go_simp
 with_reducible rfl }
 rotate_left
 {
 simp only [Act.put, sT, s0, s1, i64_w, i32_w]
 rfl }
 exact norm_ (by first | (simp only [putAll, Act.put, List.setIfInBounds_toArray, List.set_cons_zero, List.set_cons_succ]; done) | (simp only [putAll, Act.put, List.setIfInBounds_toArray, List.set_cons_zero, List.set_cons_succ]; rfl)) (hJ2_5_13_14_16 (.slice Ao29 t128.length co29, v132, .slice Ao27 y135.length co27, .slice Ao28 y138.length co28, gb141) _ ⟨hHeld, (rr HO130.out), (rr (Kd.R_mono HO137.out (fun _ hk => hk.2))), (rr HO140.out), (kk BK125.out), (kk BK126.out), (kk BK141.out), GW141.out, GE141.out, NB125_141.out, NB141_125.out, NB126_141.out, NB141_126.out, bb⟩) } }
 {
 skip
 rintro ⟨v129, v132, v136, v139⟩ w28 ⟨hS_, h0_, h1_, h2_, h3_, h4_, h5_⟩
 have n0_ : Aside0 (Kd.R Kd.string 9 w28 w.heap.size (fun _ => True) v129 t128) := ⟨h0_⟩
 have n1_ : Aside0 (Kd.R k46 46 w28 w.heap.size (fun k_ => some k_ ≠ (v139 : Value).ownBlock) v136 y135) := ⟨h1_⟩
 have n2_ : Aside0 (Kd.R k46 46 w28 w.heap.size (fun k_ => some k_ ≠ (v136 : Value).ownBlock) v139 y138) := ⟨h2_⟩
 have n3_ : Aside0 (w28.heap[gb125]? = some (.cells #[.slice (some ad134) l0_0.length c0_0, .slice A0_1 l0_1.length c0_1] 25 (0, 0))) := ⟨h3_⟩
 have n4_ : Aside0 (w28.heap[gb126]? = some (.cells #[.slice none 0 0, .slice none 0 0] 25 (0, 0))) := ⟨h4_⟩
 have n5_ : Aside0 (Below w.heap.size w w28) := ⟨h5_⟩
 clear BK125
 clear BK126
 clear HB
 clear h0_ h1_ h2_ h3_ h4_ h5_
 have HO130 := n0_
 have HO137 := n1_
 have HO140 := n2_
 have BK125 := n3_
 have BK126 := n4_
 have HB := n5_
 clear n0_ n1_ n2_ n3_ n4_ n5_
 have hHeld : w28.cell? ⟨gb125, 0, none⟩ = some (.slice (some ad134) l0_0.length c0_0) ∧ w28.cell? ⟨gb125, 1, none⟩ = some (.slice A0_1 l0_1.length c0_1) ∧ w28.cell? (ad134.add (a1).toNat) = some (.string (rdOf ByteArray.empty l0_0 a1)) := hS_
 obtain ⟨Ao29, co29, eo29⟩ := Kd.R_slice HO140.out
 (first | subst eo29 | (injection eo29 with f1_ f2_ f3_; have f4_ := f1_.symm; have f5_ := f3_.symm; clear f1_ f2_ f3_; subst f4_; subst f5_))
 obtain ⟨Ao30, co30, eo30⟩ := Kd.R_slice HO130.out
 (first | subst eo30 | (injection eo30 with f1_ f2_ f3_; have f4_ := f1_.symm; have f5_ := f3_.symm; clear f1_ f2_ f3_; subst f4_; subst f5_))
 refine norm_ (a' := ?_) ?_ ?_
 rotate_left
 {
 simp only [putAll, Act.put, List.setIfInBounds_toArray, List.set_cons_zero, List.set_cons_succ]
 rfl }
 refine one_ (i := 16) (N := some 8) #[true, true, true, true, true, true, true, true, true, true, true, true, true, true, true, true, true, false] rfl rfl (one_of HT_.out (by kernel_rfl)) (by decide) (fun K hK => ?_)
 refine box_step ?hg (N := 8) ?hd (cs := #[.slice none 0 0, .slice none 0 0]) (t := 25) ?hr ?_; (case hd => rfl); (case hg => rfl); (case hr => first | (go_simp; done) | (go_simp; rfl))
 intro gb141 hg w31 hbox hb
 have n0_ := aS (Kd.R_below (rr HO130.out) hb)
 have n1_ := aS (Kd.R_below (rr HO137.out) hb)
 have n2_ := aS (Kd.R_below (rr HO140.out) hb)
 have n3_ := aS (kb BK125.out hb)
 have n4_ := aS (kb BK126.out hb)
 have n5_ := aS (below_step bb hb)
 have n6_ := aS (hbox)
 have n7_ := aS ((by rw [hg]; exact bz : w.heap.size ≤ gb141))
 have n8_ := aS ((by rw [hg]; exact bz : w.heap.size ≤ gb141))
 have n9_ := aS ((by rw [hg]; exact Nat.ne_of_lt (blk_lt (g := gb125) (o := .cells #[.slice (some ad134) l0_0.length c0_0, .slice A0_1 l0_1.length c0_1] 25 (0, 0)) (kk BK125.out)) : gb125 ≠ gb141))
 have n10_ := aS ((by rw [hg]; exact Nat.ne_of_gt (blk_lt (g := gb125) (o := .cells #[.slice (some ad134) l0_0.length c0_0, .slice A0_1 l0_1.length c0_1] 25 (0, 0)) (kk BK125.out)) : gb141 ≠ gb125))
 have n11_ := aS ((by rw [hg]; exact Nat.ne_of_lt (blk_lt (g := gb126) (o := .cells #[.slice none 0 0, .slice none 0 0] 25 (0, 0)) (kk BK126.out)) : gb126 ≠ gb141))
 have n12_ := aS ((by rw [hg]; exact Nat.ne_of_gt (blk_lt (g := gb126) (o := .cells #[.slice none 0 0, .slice none 0 0] 25 (0, 0)) (kk BK126.out)) : gb141 ≠ gb126))
 clear HO130
 clear HO137
 clear HO140
 clear BK125
 clear BK126
 clear HB
 have HO130 := n0_
 have HO137 := n1_
 have HO140 := n2_
 have BK125 := n3_
 have BK126 := n4_
 have HB := n5_
 have BK141 := n6_
 have GW141 := n7_
 have GE141 := n8_
 have NB125_141 := n9_
 have NB141_125 := n10_
 have NB126_141 := n11_
 have NB141_126 := n12_
 clear n0_ n1_ n2_ n3_ n4_ n5_ n6_ n7_ n8_ n9_ n10_ n11_ n12_
 clear hb hbox hg
 refine hK.out _ _ ⟨(blk_cell BK125.out 0).trans rfl, (blk_cell BK125.out 1).trans rfl, (cc HB.out hw134_0)⟩ (fun hHeld => ?_)
 clear hK K
 refine norm_ (a' := ?_) ?_ ?_
 rotate_left
 {
 show Act.put _ (some 8) _ = _
 simp only [Act.put, sT, s0, s1, i64_w, i32_w]
 rfl }
 exact norm_ (by first | (simp only [putAll, Act.put, List.setIfInBounds_toArray, List.set_cons_zero, List.set_cons_succ]; done) | (simp only [putAll, Act.put, List.setIfInBounds_toArray, List.set_cons_zero, List.set_cons_succ]; rfl)) (hJ2_5_13_14_16 (.slice Ao30 t128.length co30, v132, v136, .slice Ao29 y138.length co29, gb141) _ ⟨hHeld, (rr HO130.out), (rr HO137.out), (rr HO140.out), (kk BK125.out), (kk BK126.out), (kk BK141.out), GW141.out, GE141.out, NB125_141.out, NB141_125.out, NB126_141.out, NB141_126.out, bb⟩) } }
 rintro ⟨v129, v132, v136, v139, gb141⟩ w29 ⟨hS_, h0_, h1_, h2_, h3_, h4_, h5_, h6_, h7_, h8_, h9_, h10_, h11_, h12_⟩
 have n0_ : Aside0 (Kd.R Kd.string 9 w29 w.heap.size (fun _ => True) v129 t128) := ⟨h0_⟩
 have n1_ : Aside0 (Kd.R k46 46 w29 w.heap.size (fun k_ => some k_ ≠ (v139 : Value).ownBlock) v136 y135) := ⟨h1_⟩
 have n2_ : Aside0 (Kd.R k46 46 w29 w.heap.size (fun k_ => some k_ ≠ (v136 : Value).ownBlock) v139 y138) := ⟨h2_⟩
 have n3_ : Aside0 (w29.heap[gb125]? = some (.cells #[.slice (some ad134) l0_0.length c0_0, .slice A0_1 l0_1.length c0_1] 25 (0, 0))) := ⟨h3_⟩
 have n4_ : Aside0 (w29.heap[gb126]? = some (.cells #[.slice none 0 0, .slice none 0 0] 25 (0, 0))) := ⟨h4_⟩
 have n5_ : Aside0 (w29.heap[gb141]? = some (.cells #[.slice none 0 0, .slice none 0 0] 25 (0, 0))) := ⟨h5_⟩
 have n6_ : Aside0 (w.heap.size ≤ gb141) := ⟨h6_⟩
 have n7_ : Aside0 (w.heap.size ≤ gb141) := ⟨h7_⟩
 have n8_ : Aside0 (gb125 ≠ gb141) := ⟨h8_⟩
 have n9_ : Aside0 (gb141 ≠ gb125) := ⟨h9_⟩
 have n10_ : Aside0 (gb126 ≠ gb141) := ⟨h10_⟩
 have n11_ : Aside0 (gb141 ≠ gb126) := ⟨h11_⟩
 have n12_ : Aside0 (Below w.heap.size w w29) := ⟨h12_⟩
 clear BK125
 clear BK126
 clear HB
 clear h0_ h1_ h2_ h3_ h4_ h5_ h6_ h7_ h8_ h9_ h10_ h11_ h12_
 have HO130 := n0_
 have HO137 := n1_
 have HO140 := n2_
 have BK125 := n3_
 have BK126 := n4_
 have BK141 := n5_
 have GW141 := n6_
 have GE141 := n7_
 have NB125_141 := n8_
 have NB141_125 := n9_
 have NB126_141 := n10_
 have NB141_126 := n11_
 have HB := n12_
 clear n0_ n1_ n2_ n3_ n4_ n5_ n6_ n7_ n8_ n9_ n10_ n11_ n12_
 have hHeld : w29.cell? ⟨gb125, 0, none⟩ = some (.slice (some ad134) l0_0.length c0_0) ∧ w29.cell? ⟨gb125, 1, none⟩ = some (.slice A0_1 l0_1.length c0_1) ∧ w29.cell? (ad134.add (a1).toNat) = some (.string (rdOf ByteArray.empty l0_0 a1)) := hS_
 obtain ⟨Ao30, co30, eo30⟩ := Kd.R_slice HO140.out
 (first | subst eo30 | (injection eo30 with f1_ f2_ f3_; have f4_ := f1_.symm; have f5_ := f3_.symm; clear f1_ f2_ f3_; subst f4_; subst f5_))
 obtain ⟨Ao31, co31, eo31⟩ := Kd.R_slice HO130.out
 (first | subst eo31 | (injection eo31 with f1_ f2_ f3_; have f4_ := f1_.symm; have f5_ := f3_.symm; clear f1_ f2_ f3_; subst f4_; subst f5_))
 refine norm_ (a' := ?_) ?_ ?_
 rotate_left
 {
 simp only [putAll, Act.put, List.setIfInBounds_toArray, List.set_cons_zero, List.set_cons_succ]
 rfl }
 refine one_ (i := 17) (N := none) #[true, true, true, true, true, true, true, true, true, true, true, true, true, true, true, true, true, true] rfl rfl (one_of HT_.out (by kernel_rfl)) (by decide) (fun K hK => ?_)
 have hs32 : w29.cell? ⟨gb141, 0, none⟩ = some (.slice none 0 0) := (blk_cell BK141.out 0).trans rfl
 have hfs32 := blk_frozen BK141.out 0
 have hns32_0 := NB125_141.out
 have hns32_1 := NB126_141.out
 have hms32_0 := NB141_125.out
 have hms32_1 := NB141_126.out
 have hs33 : w29.cell? ⟨gb141, 1, none⟩ = some (.slice none 0 0) := (blk_cell BK141.out 1).trans rfl
 have hfs33 := blk_frozen BK141.out 1
 have hns33_0 := NB125_141.out
 have hns33_1 := NB126_141.out
 have hms33_0 := NB141_125.out
 have hms33_1 := NB141_126.out
 refine skip_ (w1 := ?_) (by rfl) rfl ?_ ?_
 rotate_left
 {
 go_simp
 rfl }
 refine hK.out _ _ ⟨((cell_far (p := ⟨gb141, _, none⟩) NB125_141.out _).trans (((cell_far (p := ⟨gb141, _, none⟩) NB125_141.out _).trans (hHeld.1)))), ((cell_far (p := ⟨gb141, _, none⟩) NB125_141.out _).trans (((cell_far (p := ⟨gb141, _, none⟩) NB125_141.out _).trans (hHeld.2.1)))), ((cell_far (p := ⟨gb141, _, none⟩) (by first | exact Nat.ne_of_lt (Nat.lt_of_lt_of_le (by have := World.block_lt_of_cell? _ _ hw134_0; first | rwa [add_block] at this | exact this) GW141.out) | (rw [add_block]; exact Nat.ne_of_lt (Nat.lt_of_lt_of_le (by have := World.block_lt_of_cell? _ _ hw134_0; first | rwa [add_block] at this | exact this) GW141.out)) | (show (Addr.add _ _).block ≠ _; rw [add_block]; exact Nat.ne_of_lt (Nat.lt_of_lt_of_le (by have := World.block_lt_of_cell? _ _ hw134_0; first | rwa [add_block] at this | exact this) GW141.out)) | (dsimp only; exact Nat.ne_of_lt (Nat.lt_of_lt_of_le (by have := World.block_lt_of_cell? _ _ hw134_0; first | rwa [add_block] at this | exact this) GW141.out))) _).trans (((cell_far (p := ⟨gb141, _, none⟩) (by first | exact Nat.ne_of_lt (Nat.lt_of_lt_of_le (by have := World.block_lt_of_cell? _ _ hw134_0; first | rwa [add_block] at this | exact this) GW141.out) | (rw [add_block]; exact Nat.ne_of_lt (Nat.lt_of_lt_of_le (by have := World.block_lt_of_cell? _ _ hw134_0; first | rwa [add_block] at this | exact this) GW141.out)) | (show (Addr.add _ _).block ≠ _; rw [add_block]; exact Nat.ne_of_lt (Nat.lt_of_lt_of_le (by have := World.block_lt_of_cell? _ _ hw134_0; first | rwa [add_block] at this | exact this) GW141.out)) | (dsimp only; exact Nat.ne_of_lt (Nat.lt_of_lt_of_le (by have := World.block_lt_of_cell? _ _ hw134_0; first | rwa [add_block] at this | exact this) GW141.out))) _).trans (hHeld.2.2))))⟩ (fun hHeld => ?_)
 clear hK K
 refine done_ (done_of HT_.out (by kernel_rfl)) ?_
 have n0_ : Aside0 (Kd.R Kd.string 9 ((w29.setCell ⟨gb141, 0, none⟩ (.slice Ao31 t128.length co31)).setCell ⟨gb141, 1, none⟩ (.slice Ao30 y138.length co30)) w.heap.size (fun _ => True) (.slice Ao31 t128.length co31) t128) := ⟨by (with_reducible repeat (first | apply Kd.R_alloc | apply Kd.R_drewN | apply Kd.R_drew)); exact Kd.R_mono (Kd.R_far (p := ⟨gb141, 1, none⟩) (Kd.R_far (p := ⟨gb141, 0, none⟩) (Kd.R_types HO130.out BK141.out (by decide)) (fun _ hk => hk.2) (.slice Ao31 t128.length co31)) (fun _ hk => hk.2) (.slice Ao30 y138.length co30)) (fun _ hk => trivial)⟩
 have n1_ : Aside0 (Kd.R k46 46 ((w29.setCell ⟨gb141, 0, none⟩ (.slice Ao31 t128.length co31)).setCell ⟨gb141, 1, none⟩ (.slice Ao30 y138.length co30)) w.heap.size (fun k_ => some k_ ≠ (.slice Ao30 y138.length co30 : Value).ownBlock) v136 y135) := ⟨by (with_reducible repeat (first | apply Kd.R_alloc | apply Kd.R_drewN | apply Kd.R_drew)); exact Kd.R_mono (Kd.R_far (p := ⟨gb141, 1, none⟩) (Kd.R_far (p := ⟨gb141, 0, none⟩) (Kd.R_types HO137.out BK141.out (by decide)) (fun _ hk => hk.2) (.slice Ao31 t128.length co31)) (fun _ hk => hk.2) (.slice Ao30 y138.length co30)) (fun _ hk => hk.1)⟩
 have n2_ : Aside0 (Kd.R k46 46 ((w29.setCell ⟨gb141, 0, none⟩ (.slice Ao31 t128.length co31)).setCell ⟨gb141, 1, none⟩ (.slice Ao30 y138.length co30)) w.heap.size (fun k_ => some k_ ≠ (v136 : Value).ownBlock) (.slice Ao30 y138.length co30) y138) := ⟨by (with_reducible repeat (first | apply Kd.R_alloc | apply Kd.R_drewN | apply Kd.R_drew)); exact Kd.R_mono (Kd.R_far (p := ⟨gb141, 1, none⟩) (Kd.R_far (p := ⟨gb141, 0, none⟩) (Kd.R_types HO140.out BK141.out (by decide)) (fun _ hk => hk.2) (.slice Ao31 t128.length co31)) (fun _ hk => hk.2) (.slice Ao30 y138.length co30)) (fun _ hk => hk.1)⟩
 have n3_ : Aside0 (((w29.setCell ⟨gb141, 0, none⟩ (.slice Ao31 t128.length co31)).setCell ⟨gb141, 1, none⟩ (.slice Ao30 y138.length co30)).heap[gb125]? = some (.cells #[.slice (some ad134) l0_0.length c0_0, .slice A0_1 l0_1.length c0_1] 25 (0, 0))) := ⟨by (with_reducible repeat (first | refine blk_drewN ?_ _ | refine blk_drew ?_ | refine blk_alloc ?_ _)); refine blk_far ?_ NB125_141.out _; (with_reducible repeat (first | refine blk_drewN ?_ _ | refine blk_drew ?_ | refine blk_alloc ?_ _)); refine blk_far ?_ NB125_141.out _; (with_reducible repeat (first | refine blk_drewN ?_ _ | refine blk_drew ?_ | refine blk_alloc ?_ _)); exact BK125.out⟩
 have n4_ : Aside0 (((w29.setCell ⟨gb141, 0, none⟩ (.slice Ao31 t128.length co31)).setCell ⟨gb141, 1, none⟩ (.slice Ao30 y138.length co30)).heap[gb126]? = some (.cells #[.slice none 0 0, .slice none 0 0] 25 (0, 0))) := ⟨by (with_reducible repeat (first | refine blk_drewN ?_ _ | refine blk_drew ?_ | refine blk_alloc ?_ _)); refine blk_far ?_ NB126_141.out _; (with_reducible repeat (first | refine blk_drewN ?_ _ | refine blk_drew ?_ | refine blk_alloc ?_ _)); refine blk_far ?_ NB126_141.out _; (with_reducible repeat (first | refine blk_drewN ?_ _ | refine blk_drew ?_ | refine blk_alloc ?_ _)); exact BK126.out⟩
 have n5_ : Aside0 (((w29.setCell ⟨gb141, 0, none⟩ (.slice Ao31 t128.length co31)).setCell ⟨gb141, 1, none⟩ (.slice Ao30 y138.length co30)).heap[gb141]? = some (.cells #[.slice Ao31 t128.length co31, .slice Ao30 y138.length co30] 25 (0, 0))) := ⟨by (with_reducible repeat (first | refine blk_drewN ?_ _ | refine blk_drew ?_ | refine blk_alloc ?_ _)); refine blk_put (cs := #[.slice Ao31 t128.length co31, .slice none 0 0]) ?_ 1 _ rfl; (with_reducible repeat (first | refine blk_drewN ?_ _ | refine blk_drew ?_ | refine blk_alloc ?_ _)); refine blk_put (cs := #[.slice none 0 0, .slice none 0 0]) ?_ 0 _ rfl; (with_reducible repeat (first | refine blk_drewN ?_ _ | refine blk_drew ?_ | refine blk_alloc ?_ _)); exact BK141.out⟩
 have n6_ : Aside0 (Below w.heap.size w ((w29.setCell ⟨gb141, 0, none⟩ (.slice Ao31 t128.length co31)).setCell ⟨gb141, 1, none⟩ (.slice Ao30 y138.length co30))) := ⟨by repeat (first | (with_reducible first | exact HB.out | apply below_alloc | apply pw_below_drewN | apply below_drew1 | refine below_set ?_ GE125.out | refine below_set ?_ GE126.out | refine below_set ?_ GE141.out) | exact HB.out)⟩
 (try clear HO130)
 (try clear HO137)
 (try clear HO140)
 (try clear BK125)
 (try clear BK126)
 (try clear BK141)
 (try clear HB)
 generalize ((w29.setCell ⟨gb141, 0, none⟩ (.slice Ao31 t128.length co31)).setCell ⟨gb141, 1, none⟩ (.slice Ao30 y138.length co30)) = w34 at n0_ n1_ n2_ n3_ n4_ n5_ n6_ ⊢
 have HO130 := n0_
 have HO137 := n1_
 have HO140 := n2_
 have BK125 := n3_
 have BK126 := n4_
 have BK141 := n5_
 have HB := n6_
 clear n0_ n1_ n2_ n3_ n4_ n5_ n6_
 have hnb35 := NB141_125.out
 have hnc35 := NB125_141.out
 have hnb36 := NB141_126.out
 have hnc36 := NB126_141.out
 have hcz37_0 : w34.cell? ⟨gb141, 0, none⟩ = some (.slice Ao31 t128.length co31) := (blk_cell BK141.out 0).trans rfl
 have hcz37_1 : w34.cell? ⟨gb141, 1, none⟩ = some (.slice Ao30 y138.length co30) := (blk_cell BK141.out 1).trans rfl
 have hfz37_0 := blk_frozen BK141.out 0
 have hfz37_1 := blk_frozen BK141.out 1
 have p13 : 0 ≤ (a1 : Int) := dd
 have q13 : (a1 : Int) < ((t128.length : Int) : Int) := dd
 obtain ⟨go13, co13, eo13, gb13, gl13, cl13, HG13⟩ := Kd.R_form HO130.out (by omega)
 (first | cases eo13 | (injection eo13 with ea_ en_ ec_; (first | subst ea_ | (injection ea_ with ea_; subst ea_)); subst ec_; clear en_))
 have GB13 := aS gb13
 have GG13 := aS HG13
 clear gb13 gl13 HG13
 obtain ⟨hx13_0, hf13_0⟩ := Kd.R_celln (⟨#[]⟩ : ByteArray) HO130.out (a1 : Int) p13 q13
 replace p13 := eq_true p13
 replace q13 := eq_true q13
 obtain ⟨hy38_, hz38_⟩ := Kd.R_celln (⟨#[]⟩ : ByteArray) HO130.out (a1 : Int) (dd) (dd)
 have HP38 := Kd.R_putg HO130.out (a1 : Int) a2
 try go_wp2_with (first | ((with_reducible refine gate_store (t := 9) (p := 40) rfl ?_); refine store_event (t := 9) (p := 40) (v := ?vo_w39) (w1 := (w34.setCell ⟨go13, (a1 : Int).toNat, none⟩ (.string a2))) ?hg ?ho ?hn ?hr ?_; (case ho => rfl); (case hg => rfl); (case hn => rfl); (case hr => first | (go_simp; done) | (go_simp; rfl)); intro w39 hw; have hg : w34.grownBy w39 (some go13) := (by rw [hw]; exact HP38.2); have hp_ : Kd.R Kd.string 9 w39 w.heap.size (fun _ => True) (.slice (some ⟨go13, 0, none⟩) t128.length co31) y142 := (by rw [hw, Ny142.out]; exact HP38.1); clear HP38; have n0_ := aS (blk_grown (g := gb125) (o := .cells #[.slice (some ad134) l0_0.length c0_0, .slice A0_1 l0_1.length c0_1] 25 (0, 0)) (kk BK125.out) hg (Kd.R_ne HO130.out BK125.out (by decide))); have n1_ := aS (blk_grown (g := gb126) (o := .cells #[.slice none 0 0, .slice none 0 0] 25 (0, 0)) (kk BK126.out) hg (Kd.R_ne HO130.out BK126.out (by decide))); have n2_ := aS (hp_); have n3_ := aS (Kd.R_over' (v := (.slice (some ⟨go13, 0, none⟩) t128.length co31)) (rr HO137.out) (Kd.R_typed HO130.out) (by decide) hg); have n4_ := aS (Kd.R_over' (v := (.slice (some ⟨go13, 0, none⟩) t128.length co31)) (rr HO140.out) (Kd.R_typed HO130.out) (by decide) hg); have n5_ := aS (blk_grown (g := gb141) (o := .cells #[.slice (some ⟨go13, 0, none⟩) t128.length co31, .slice Ao30 y138.length co30] 25 (0, 0)) (kk BK141.out) hg (Kd.R_ne HO130.out BK141.out (by decide))); have n6_ := aS ((by rw [hw]; exact below_set (HB.out) GB13.out : Below w.heap.size w w39)); clear BK125; clear BK126; clear HO130; clear HO137; clear HO140; clear BK141; clear HB; have BK125 := n0_; have BK126 := n1_; have HO130 := n2_; have HO137 := n3_; have HO140 := n4_; have BK141 := n5_; have HB := n6_; clear n0_ n1_ n2_ n3_ n4_ n5_ n6_; clear hg hw hp_; have hcz40_0 : w39.cell? ⟨gb141, 0, none⟩ = some (.slice (some ⟨go13, 0, none⟩) t128.length co31) := (blk_cell BK141.out 0).trans rfl; have hcz40_1 : w39.cell? ⟨gb141, 1, none⟩ = some (.slice Ao30 y138.length co30) := (blk_cell BK141.out 1).trans rfl; have hfz40_0 := blk_frozen BK141.out 0; have hfz40_1 := blk_frozen BK141.out 1; have hcz41_0 : w39.cell? ⟨gb126, 0, none⟩ = some (.slice none 0 0) := (blk_cell BK126.out 0).trans rfl; have hcz41_1 : w39.cell? ⟨gb126, 1, none⟩ = some (.slice none 0 0) := (blk_cell BK126.out 1).trans rfl; have hfz41_0 := blk_frozen BK126.out 0; have hfz41_1 := blk_frozen BK126.out 1))
 refine bodyPost_ret (results_ct rfl _ _ gb126 25 #[.slice (some ⟨go13, 0, none⟩) t128.length co31, .slice Ao30 y138.length co30] (0, 0) _ rfl (by (with_reducible repeat (first | refine blk_drewN ?_ _ | refine blk_drew ?_ | refine blk_alloc ?_ _)); refine blk_put (cs := #[.slice (some ⟨go13, 0, none⟩) t128.length co31, .slice none 0 0]) ?_ 1 _ rfl; (with_reducible repeat (first | refine blk_drewN ?_ _ | refine blk_drew ?_ | refine blk_alloc ?_ _)); refine blk_put (cs := #[.slice none 0 0, .slice none 0 0]) ?_ 0 _ rfl; (with_reducible repeat (first | refine blk_drewN ?_ _ | refine blk_drew ?_ | refine blk_alloc ?_ _)); exact BK126.out) Try.underlying25 rfl (by kernel_rfl)) rfl ?_
 exact ⟨_, _, by first | rfl | (simp [errW_none, errW_some] <;> rfl) | (simp [*, errW_none, errW_some] <;> rfl), by (with_reducible repeat (first | apply Kd.R_alloc | apply Kd.R_drewN | apply Kd.R_drew)); exact Kd.R_mono (Kd.R_far (p := ⟨gb126, 1, none⟩) (Kd.R_far (p := ⟨gb126, 0, none⟩) (Kd.R_types HO130.out BK126.out (by decide)) (fun _ hk => hk.2) (.slice (some ⟨go13, 0, none⟩) t128.length co31)) (fun _ hk => hk.2) (.slice Ao30 y138.length co30)) (fun _ hk => trivial), by (with_reducible repeat (first | apply Kd.R_alloc | apply Kd.R_drewN | apply Kd.R_drew)); exact Kd.R_mono (Kd.R_far (p := ⟨gb126, 1, none⟩) (Kd.R_far (p := ⟨gb126, 0, none⟩) (Kd.R_types HO140.out BK126.out (by decide)) (fun _ hk => hk.2) (.slice (some ⟨go13, 0, none⟩) t128.length co31)) (fun _ hk => hk.2) (.slice Ao30 y138.length co30)) (fun _ hk => trivial), by repeat (first | (with_reducible first | exact HB.out | apply below_alloc | apply pw_below_drewN | apply below_drew1 | refine below_set ?_ GE125.out | refine below_set ?_ GE126.out | refine below_set ?_ GE141.out) | exact HB.out)⟩ }
 {
 rw [if_neg c12] at H
 exact absurd H (by simp) } }
 {
 rw [if_neg c11] at H
 exact absurd H (by simp) } }
 {
 rw [if_neg c10] at H
 exact absurd H (by simp) } }
 {
 rw [if_neg c9] at H
 exact absurd H (by simp) } }
 {
 rw [if_neg c6] at H
 exact absurd H (by simp) } }
 {
 replace c5 := Bool.eq_false_iff.mpr c5
 subst c5
 have H1 : (none) = some (r1, r2, r3) := by rw [if_neg (show ¬ (false = true) by decide)] at H; exact H
 clear H
 have H := H1
 clear H1
 exact absurd H (by simp) }

end Go.Proofs.Ytdaonhgcejjlhaa.P
