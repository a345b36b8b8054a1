-- Written by pp.py (this session's program over the kit's printer): functions, contracts. Not trusted: Lean checks it.
import Derived.Test.YtfojpobblebigaaPx0
import Derived.Test.YtfojpobblebigaaPx12
import Derived.Test.YtfojpobblebigaaPx23
import Derived.Test.YtfojpobblebigaaPx3
import Derived.Test.YtfojpobblebigaaPx5
import Derived.Test.YtfojpobblebigaaHd
import Derived.Test.YtfojpobblebigaaHk
import Derived.Test.YtfojpobblebigaaHo
import Derived.Test.YtfojpobblebigaaHq
namespace Go.Proofs.Ytfojpobblebigaa.P
open Go.RowKit Go.Proofs.YtfojpobblebigaaW.PrintWords Go.Proofs.YtfojpobblebigaaW.PrintLast Go.Proofs.YtfojpobblebigaaW.PrintMore
attribute [local go_sem] max2_int min2_int max_two min_two max_three min_three max_four min_four   -- for this text's walks alone
set_option linter.unusedVariables false
set_option linter.unusedSimpArgs false

/-! ### hallmootlaw13_NestEnd: function 8 -/
mutual
def hallmootlaw13_NestEnd.j0 : Nat → List (S62) → Int → Bool → Bool → Option (Bool)
  | 0, _, _, _, _ => none
  | k + 1, x0, x1, x5, x32 => if x32 = true then (some x5) else ((nFind.f x0 x1).bind fun bt456 => ((nEnd.f x0).bind fun t459 => ((nFind.f t459 x1).bind fun bt462 => ((nAll.f x0).bind fun bt465 => ((nEnd.f x0).bind fun t471 => ((nAll.f t471).bind fun bt474 => (hallmootlaw13_NestEnd.l0 k x0 x1 x5 bt456.1 bt456.2.2 bt462.1 bt462.2.2 bt465.2 bt474.2 false 0)))))))
def hallmootlaw13_NestEnd.l0 : Nat → List (S62) → Int → Bool → Int → Int → Int → Int → List (S33) → List (S33) → Bool → Int → Option (Bool)
  | 0, _, _, _, _, _, _, _, _, _, _, _ => none
  | k + 1, x0, x1, x5, x6, x8, x9, x11, x13, x15, x16, x17 => if 0 ≤ (wrap64 ((x0.length : Int) - 2)) then (if (wrap64 ((x0.length : Int) - 2)) < (x0.length : Int) then (if x17 < (((rd_T62 x0 (wrap64 ((x0.length : Int) - 2))).f0).length : Int) then (if x16 = true then (hallmootlaw13_NestEnd.l0 k x0 x1 x5 x6 x8 x9 x11 x13 x15 true (wrap64 (x17 + 1))) else (if 0 ≤ x17 then (hallmootlaw13_NestEnd.l0 k x0 x1 x5 x6 x8 x9 x11 x13 x15 (((rd_T30 ((rd_T62 x0 (wrap64 ((x0.length : Int) - 2))).f0) x17).f0) == x1) (wrap64 (x17 + 1))) else (none))) else (if x8 = 2 then (if x16 = true then (if x5 = true then (if x8 = x11 then ((hallmootref13_Writes.f k x13 x15).bind fun t483 => (some t483)) else (none)) else (none)) else (if x5 = true then (if x8 = x11 then (if x6 = x9 then ((hallmootref13_Writes.f k x13 x15).bind fun t484 => (some t484)) else (none)) else (none)) else (none))) else (if x5 = true then (if x8 = x11 then (if x6 = x9 then ((hallmootref13_Writes.f k x13 x15).bind fun t485 => (some t485)) else (none)) else (none)) else (none)))) else (none)) else (none)
end
def hallmootlaw13_NestEnd.f (k : Nat) (l0 : List (S62)) (a1 : Int) : Option (Bool) := (hallmootlaw13_sanity.f).bind fun t453 => ((hallmootlaw13_few.f k l0).bind fun t454 => (if t454 = true then (if (l0.length : Int) < 2 then (hallmootlaw13_NestEnd.j0 k l0 a1 t453 true) else ((hallmootlaw13_once.f k l0).bind fun t455 => (hallmootlaw13_NestEnd.j0 k l0 a1 t453 (!t455)))) else (hallmootlaw13_NestEnd.j0 k l0 a1 t453 true)))
theorem hallmootlaw13_NestEnd.mono_l : ∀ k, (∀ y0 y1 y2 y3, LeO (hallmootlaw13_NestEnd.j0 k y0 y1 y2 y3) (hallmootlaw13_NestEnd.j0 (k + 1) y0 y1 y2 y3)) ∧ (∀ y0 y1 y2 y3 y4 y5 y6 y7 y8 y9 y10, LeO (hallmootlaw13_NestEnd.l0 k y0 y1 y2 y3 y4 y5 y6 y7 y8 y9 y10) (hallmootlaw13_NestEnd.l0 (k + 1) y0 y1 y2 y3 y4 y5 y6 y7 y8 y9 y10))
  | 0 => ⟨fun _ _ _ _ r h => by simp [hallmootlaw13_NestEnd.j0] at h, fun _ _ _ _ _ _ _ _ _ _ _ r h => by simp [hallmootlaw13_NestEnd.l0] at h⟩
  | k + 1 => by
    obtain ⟨ih0, ih1⟩ := hallmootlaw13_NestEnd.mono_l k
    refine ⟨?_, ?_⟩
    · intro y0 y1 y2 y3
      unfold hallmootlaw13_NestEnd.j0
      repeat' first
      | (with_reducible exact ih0 _ _ _ _)
      | (with_reducible exact ih1 _ _ _ _ _ _ _ _ _ _ _)
      | (with_reducible exact hallmootlaw13_few.mono _ _)
      | (with_reducible exact hallmootlaw13_once.mono _ _)
      | (with_reducible exact hallmootref13_Writes.mono _ _ _)
      | (with_reducible exact LeO.refl _)
      | (with_reducible exact LeO.none _)
      | (with_reducible refine LeO.ite ?_ ?_)
      | (with_reducible refine LeO.bind ?_ (fun _ => ?_))
      | exact ih0 _ _ _ _
      | exact ih1 _ _ _ _ _ _ _ _ _ _ _
      | exact hallmootlaw13_few.mono _ _
      | exact hallmootlaw13_once.mono _ _
      | exact hallmootref13_Writes.mono _ _ _
      | exact LeO.none _
      | refine LeO.ite ?_ ?_
      | refine LeO.bind ?_ (fun _ => ?_)
    · intro y0 y1 y2 y3 y4 y5 y6 y7 y8 y9 y10
      unfold hallmootlaw13_NestEnd.l0
      repeat' first
      | (with_reducible exact ih0 _ _ _ _)
      | (with_reducible exact ih1 _ _ _ _ _ _ _ _ _ _ _)
      | (with_reducible exact hallmootlaw13_few.mono _ _)
      | (with_reducible exact hallmootlaw13_once.mono _ _)
      | (with_reducible exact hallmootref13_Writes.mono _ _ _)
      | (with_reducible exact LeO.refl _)
      | (with_reducible exact LeO.none _)
      | (with_reducible refine LeO.ite ?_ ?_)
      | (with_reducible refine LeO.bind ?_ (fun _ => ?_))
      | exact ih0 _ _ _ _
      | exact ih1 _ _ _ _ _ _ _ _ _ _ _
      | exact hallmootlaw13_few.mono _ _
      | exact hallmootlaw13_once.mono _ _
      | exact hallmootref13_Writes.mono _ _ _
      | exact LeO.none _
      | refine LeO.ite ?_ ?_
      | refine LeO.bind ?_ (fun _ => ?_)
theorem hallmootlaw13_NestEnd.mono : ∀ a0 a1 k, LeO (hallmootlaw13_NestEnd.f k a0 a1) (hallmootlaw13_NestEnd.f (k + 1) a0 a1) := by
 intro a0 a1 k
 obtain ⟨ih0, ih1⟩ := hallmootlaw13_NestEnd.mono_l k
 unfold hallmootlaw13_NestEnd.f
 repeat' first | (with_reducible exact ih0 _ _ _ _) | (with_reducible exact ih1 _ _ _ _ _ _ _ _ _ _ _) | (with_reducible exact hallmootlaw13_few.mono _ _) | (with_reducible exact hallmootlaw13_once.mono _ _) | (with_reducible exact hallmootref13_Writes.mono _ _ _) | (with_reducible exact LeO.refl _) | (with_reducible exact LeO.none _) | (with_reducible refine LeO.ite ?_ ?_) | (with_reducible refine LeO.bind ?_ (fun _ => ?_)) | exact ih0 _ _ _ _ | exact ih1 _ _ _ _ _ _ _ _ _ _ _ | exact hallmootlaw13_few.mono _ _ | exact hallmootlaw13_once.mono _ _ | exact hallmootref13_Writes.mono _ _ _ | exact LeO.none _ | refine LeO.ite ?_ ?_ | refine LeO.bind ?_ (fun _ => ?_)
set_option maxHeartbeats 8000000 in
set_option maxRecDepth 100000 in
theorem hallmootlaw13_NestEnd.calls (k : Nat) (A0 : Option Addr) (c0 : Nat) (l0 : List (S62)) (a1 : Int) (r : Bool) (w : World) (hr0 : Kd.C k62 w A0 l0.length l0) (hc0 : l0.length ≤ c0) (h : hallmootlaw13_NestEnd.f k l0 a1 = some r) : Calls Try.prog 8 #[.slice A0 l0.length c0, .int .i64 a1] w fun e w' => e = .returned (.bool r) ∧ Below w.heap.size w w' := by
 have HR0 := Aside0.mk hr0
 have HC0 := Aside0.mk hc0
 clear hr0 hc0
 have HB := Aside0.mk (Below.refl w.heap.size w)
 have H : ((hallmootlaw13_sanity.f).bind fun t453 => ((hallmootlaw13_few.f k l0).bind fun t454 => (if t454 = true then (if (l0.length : Int) < 2 then (hallmootlaw13_NestEnd.j0 k l0 a1 t453 true) else ((hallmootlaw13_once.f k l0).bind fun t455 => (hallmootlaw13_NestEnd.j0 k l0 a1 t453 (!t455)))) else (hallmootlaw13_NestEnd.j0 k l0 a1 t453 true)))) = some r := h
 clear h
 replace H := Option.bind_eq_some_iff.mp H
 obtain ⟨t453, A30, H⟩ := H
 replace H : ((hallmootlaw13_few.f k l0).bind fun t454 => (if t454 = true then (if (l0.length : Int) < 2 then (hallmootlaw13_NestEnd.j0 k l0 a1 t453 true) else ((hallmootlaw13_once.f k l0).bind fun t455 => (hallmootlaw13_NestEnd.j0 k l0 a1 t453 (!t455)))) else (hallmootlaw13_NestEnd.j0 k l0 a1 t453 true))) = some r := H
 have A3 := Aside0.mk A30
 clear A30
 have HC4 := Aside0.mk H
 clear H
 go_enter Try.func8, Try.ntmps8
 go_upto_region 2 with (first | ((with_reducible refine gate_callee (f := 10) rfl ?_); refine goesL_ (some 19) rfl rfl Try.func10 (by kernel_rfl) rfl #[] rfl (by (try simp only [List.map_toArray, List.map_cons, List.map_nil]); first | done | rfl | (simp only [List.length_drop, List.length_take]; rfl)) ?_; (with_reducible refine (hallmootlaw13_sanity.calls  t453 _ A3.out).mono ?_); rintro e w5 ⟨rfl, hb⟩; refine ⟨_, rfl, ?_⟩; have n0_ := Aside0.mk (below_step (by repeat (first | (with_reducible first | exact HB.out | apply below_alloc | apply pw_below_drewN | apply below_drew1) | exact HB.out)) hb); clear HB; have HB := n0_; clear n0_; (try clear hb); (try clear hb2); (try clear hk); (try clear hi)))
 (try simp only [Act.put, List.setIfInBounds_toArray, List.set_cons_zero, List.set_cons_succ])
 go_cut [32] (fun v32 wc => ∃ (kq : Nat) (x32_3 : Bool), v32 = .bool x32_3 ∧ Aside0 (hallmootlaw13_NestEnd.j0 kq l0 a1 t453 x32_3 = some r) ∧ Aside0 (kq ≤ k) ∧ Aside0 (Below w.heap.size w wc))
 case first =>
  have H := HC4.out
  clear HC4
  replace H := Option.bind_eq_some_iff.mp H
  obtain ⟨t454, A60, H⟩ := H
  replace H : (if t454 = true then (if (l0.length : Int) < 2 then (hallmootlaw13_NestEnd.j0 k l0 a1 t453 true) else ((hallmootlaw13_once.f k l0).bind fun t455 => (hallmootlaw13_NestEnd.j0 k l0 a1 t453 (!t455)))) else (hallmootlaw13_NestEnd.j0 k l0 a1 t453 true)) = some r := H
  have A6 := Aside0.mk A60
  clear A60
  by_cases c7 : t454 = true
  {
  subst c7
  have H1 : (if (l0.length : Int) < 2 then (hallmootlaw13_NestEnd.j0 k l0 a1 t453 true) else ((hallmootlaw13_once.f k l0).bind fun t455 => (hallmootlaw13_NestEnd.j0 k l0 a1 t453 (!t455)))) = some r := by rw [if_pos rfl] at H; exact H
  clear H
  have H := H1
  clear H1
  by_cases c8 : (l0.length : Int) < 2
  {
  rw [if_pos c8] at H
  have c8b0 : decide ((l0.length : Int) < 2) = true := decide_eq_true c8
  have c8b1 : decide (l0.length < 2) = true := decide_eq_true (by omega)
  clear c8
  (first | rw [c8b0] | (simp only [i64_w, i32_w]; rw [c8b0]) | skip)
  have H' := Aside0.mk H
  clear H
  go_wp2_with (first | ((with_reducible refine gate_callee (f := 11) rfl ?_); refine goesL_ (some 21) rfl rfl Try.func11 (by kernel_rfl) rfl #[.slice A0 l0.length c0] rfl (by (try simp only [List.map_toArray, List.map_cons, List.map_nil]); first | done | rfl | (simp only [List.length_drop, List.length_take]; rfl)) ?_; (with_reducible refine (hallmootlaw13_few.calls k _ _ l0 true _ ?side1 ?side2 A6.out).mono ?_); (case side1 => repeat (first | exact (Kd.C_below HR0.out HB.out) | (with_reducible refine Kd.C_alloc ?_ _) | (with_reducible refine Kd.C_drewN ?_ _) | (with_reducible refine Kd.C_drew ?_))); (case side2 => exact HC0.out); rintro e w' ⟨rfl, ⟨nd, rfl⟩⟩; refine ⟨_, rfl, ?_⟩))
  go_meet
  case rel => exact ⟨_, (true), (by first | rfl | (simp; done) | (simp [*]; done)), H', ⟨by first | omega | exact Nat.le_refl _⟩, ⟨by repeat (first | (with_reducible first | exact HB.out | apply below_alloc | apply pw_below_drewN | apply below_drew1) | exact HB.out)⟩⟩ }
  {
  rw [if_neg c8] at H
  have c8b0 : decide ((l0.length : Int) < 2) = false := decide_eq_false c8
  have c8b1 : decide (l0.length < 2) = false := decide_eq_false (by omega)
  clear c8
  (first | rw [c8b0] | (simp only [i64_w, i32_w]; rw [c8b0]) | skip)
  replace H := Option.bind_eq_some_iff.mp H
  obtain ⟨t455, A90, H⟩ := H
  replace H : (hallmootlaw13_NestEnd.j0 k l0 a1 t453 (!t455)) = some r := H
  have A9 := Aside0.mk A90
  clear A90
  have H' := Aside0.mk H
  clear H
  go_wp2_with (first | ((with_reducible refine gate_callee (f := 11) rfl ?_); refine goesL_ (some 21) rfl rfl Try.func11 (by kernel_rfl) rfl #[.slice A0 l0.length c0] rfl (by (try simp only [List.map_toArray, List.map_cons, List.map_nil]); first | done | rfl | (simp only [List.length_drop, List.length_take]; rfl)) ?_; (with_reducible refine (hallmootlaw13_few.calls k _ _ l0 true _ ?side1 ?side2 A6.out).mono ?_); (case side1 => repeat (first | exact (Kd.C_below HR0.out HB.out) | (with_reducible refine Kd.C_alloc ?_ _) | (with_reducible refine Kd.C_drewN ?_ _) | (with_reducible refine Kd.C_drew ?_))); (case side2 => exact HC0.out); rintro e w' ⟨rfl, ⟨nd, rfl⟩⟩; refine ⟨_, rfl, ?_⟩) | (go_at_call 32; (with_reducible refine (hallmootlaw13_once.calls k _ _ l0 t455 _ ?side1 ?side2 A9.out).mono ?_); (case side1 => repeat (first | exact (Kd.C_below HR0.out (by repeat (first | (with_reducible first | exact HB.out | apply below_alloc | apply pw_below_drewN | apply below_drew1) | exact HB.out))) | (with_reducible refine Kd.C_alloc ?_ _) | (with_reducible refine Kd.C_drewN ?_ _) | (with_reducible refine Kd.C_drew ?_))); (case side2 => exact HC0.out); rintro e w' ⟨rfl, ⟨nd, rfl⟩⟩))
  go_meet
  case rel => exact ⟨_, (!t455), (by first | rfl | (simp; done) | (simp [*]; done)), H', ⟨by first | omega | exact Nat.le_refl _⟩, ⟨by repeat (first | (with_reducible first | exact HB.out | apply below_alloc | apply pw_below_drewN | apply below_drew1) | exact HB.out)⟩⟩ } }
  {
  replace c7 := Bool.eq_false_iff.mpr c7
  subst c7
  have H1 : (hallmootlaw13_NestEnd.j0 k l0 a1 t453 true) = some r := by rw [if_neg (show ¬ (false = true) by decide)] at H; exact H
  clear H
  have H := H1
  clear H1
  have H' := Aside0.mk H
  clear H
  go_wp2_with (first | ((with_reducible refine gate_callee (f := 11) rfl ?_); refine goesL_ (some 21) rfl rfl Try.func11 (by kernel_rfl) rfl #[.slice A0 l0.length c0] rfl (by (try simp only [List.map_toArray, List.map_cons, List.map_nil]); first | done | rfl | (simp only [List.length_drop, List.length_take]; rfl)) ?_; (with_reducible refine (hallmootlaw13_few.calls k _ _ l0 false _ ?side1 ?side2 A6.out).mono ?_); (case side1 => repeat (first | exact (Kd.C_below HR0.out HB.out) | (with_reducible refine Kd.C_alloc ?_ _) | (with_reducible refine Kd.C_drewN ?_ _) | (with_reducible refine Kd.C_drew ?_))); (case side2 => exact HC0.out); rintro e w' ⟨rfl, ⟨nd, rfl⟩⟩; refine ⟨_, rfl, ?_⟩))
  go_meet
  case rel => exact ⟨_, (true), (by first | rfl | (simp; done) | (simp [*]; done)), H', ⟨by first | omega | exact Nat.le_refl _⟩, ⟨by repeat (first | (with_reducible first | exact HB.out | apply below_alloc | apply pw_below_drewN | apply below_drew1) | exact HB.out)⟩⟩ }
 case rest =>
  clear HC4
  try clear c1
  try clear p2
  try clear c7
  try clear c8
  try clear c8b0
  try clear c8b1
  obtain ⟨kq, x32_3, rfl, HA, HJ3, HB⟩ := hcut
  cases kq with
  | zero => exact absurd HA.out (by simp [hallmootlaw13_NestEnd.j0])
  | succ kj3 => {
  have H := HA.out
  clear HA
  simp only [hallmootlaw13_NestEnd.j0] at H
  by_cases c10 : x32_3 = true
  {
  subst c10
  have H1 : (some t453) = some r := by rw [if_pos rfl] at H; exact H
  clear H
  have H := H1
  clear H1
  obtain rfl := Option.some.inj H
  go_wp2
  go_ret
  exact ⟨by first | rfl | (simp [errW_none, errW_some] <;> rfl) | (simp [*, errW_none, errW_some] <;> rfl), by repeat (first | (with_reducible first | exact HB.out | apply below_alloc | apply pw_below_drewN | apply below_drew1) | exact HB.out)⟩ }
  {
  replace c10 := Bool.eq_false_iff.mpr c10
  subst c10
  have H1 : ((nFind.f l0 a1).bind fun bt456 => ((nEnd.f l0).bind fun t459 => ((nFind.f t459 a1).bind fun bt462 => ((nAll.f l0).bind fun bt465 => ((nEnd.f l0).bind fun t471 => ((nAll.f t471).bind fun bt474 => (hallmootlaw13_NestEnd.l0 kj3 l0 a1 t453 bt456.1 bt456.2.2 bt462.1 bt462.2.2 bt465.2 bt474.2 false 0))))))) = some r := by rw [if_neg (show ¬ (false = true) by decide)] at H; exact H
  clear H
  have H := H1
  clear H1
  replace H := Option.bind_eq_some_iff.mp H
  obtain ⟨⟨t456, t457, t458⟩, A110, H⟩ := H
  replace H : ((nEnd.f l0).bind fun t459 => ((nFind.f t459 a1).bind fun bt462 => ((nAll.f l0).bind fun bt465 => ((nEnd.f l0).bind fun t471 => ((nAll.f t471).bind fun bt474 => (hallmootlaw13_NestEnd.l0 kj3 l0 a1 t453 t456 t458 bt462.1 bt462.2.2 bt465.2 bt474.2 false 0)))))) = some r := H
  have A11 := Aside0.mk A110
  clear A110
  replace H := Option.bind_eq_some_iff.mp H
  obtain ⟨t459, A120, H⟩ := H
  replace H : ((nFind.f t459 a1).bind fun bt462 => ((nAll.f l0).bind fun bt465 => ((nEnd.f l0).bind fun t471 => ((nAll.f t471).bind fun bt474 => (hallmootlaw13_NestEnd.l0 kj3 l0 a1 t453 t456 t458 bt462.1 bt462.2.2 bt465.2 bt474.2 false 0))))) = some r := H
  have A12 := Aside0.mk A120
  clear A120
  replace H := Option.bind_eq_some_iff.mp H
  obtain ⟨⟨t462, t463, t464⟩, A130, H⟩ := H
  replace H : ((nAll.f l0).bind fun bt465 => ((nEnd.f l0).bind fun t471 => ((nAll.f t471).bind fun bt474 => (hallmootlaw13_NestEnd.l0 kj3 l0 a1 t453 t456 t458 t462 t464 bt465.2 bt474.2 false 0)))) = some r := H
  have A13 := Aside0.mk A130
  clear A130
  replace H := Option.bind_eq_some_iff.mp H
  obtain ⟨⟨t465, t468⟩, A140, H⟩ := H
  replace H : ((nEnd.f l0).bind fun t471 => ((nAll.f t471).bind fun bt474 => (hallmootlaw13_NestEnd.l0 kj3 l0 a1 t453 t456 t458 t462 t464 t468 bt474.2 false 0))) = some r := H
  have A14 := Aside0.mk A140
  clear A140
  replace H := Option.bind_eq_some_iff.mp H
  obtain ⟨t471, A150, H⟩ := H
  replace H : ((nAll.f t471).bind fun bt474 => (hallmootlaw13_NestEnd.l0 kj3 l0 a1 t453 t456 t458 t462 t464 t468 bt474.2 false 0)) = some r := H
  have A15 := Aside0.mk A150
  clear A150
  replace H := Option.bind_eq_some_iff.mp H
  obtain ⟨⟨t474, t477⟩, A160, H⟩ := H
  replace H : (hallmootlaw13_NestEnd.l0 kj3 l0 a1 t453 t456 t458 t462 t464 t468 t477 false 0) = some r := H
  have A16 := Aside0.mk A160
  clear A160
  have H' := Aside0.mk H
  clear H
  go_wp2_with (first | ((with_reducible refine gate_callee (f := 17) rfl ?_); refine goesL_ (some 37) rfl rfl Try.func17 (by kernel_rfl) rfl #[.slice A0 l0.length c0, .int .i64 a1] rfl (by (try simp only [List.map_toArray, List.map_cons, List.map_nil]); first | done | rfl | (simp only [List.length_drop, List.length_take]; rfl)) ?_; (with_reducible refine (nFind.calls _ _ l0 a1 t456 t457 t458 _ ?side1 ?side2 A11.out).mono ?_); (case side1 => repeat (first | exact (Kd.C_below HR0.out HB.out) | (with_reducible refine Kd.C_alloc ?_ _) | (with_reducible refine Kd.C_drewN ?_ _) | (with_reducible refine Kd.C_drew ?_))); (case side2 => exact HC0.out); rintro e w17 ⟨rfl, hb⟩; refine ⟨_, rfl, ?_⟩; have n0_ := Aside0.mk (below_step (by repeat (first | (with_reducible first | exact HB.out | apply below_alloc | apply pw_below_drewN | apply below_drew1) | exact HB.out)) hb); clear HB; have HB := n0_; clear n0_; (try clear hb); (try clear hb2); (try clear hk); (try clear hi)) | ((with_reducible refine gate_callee (f := 15) rfl ?_); refine goesL_ (some 43) rfl rfl Try.func15 (by kernel_rfl) rfl #[.slice A0 l0.length c0] rfl (by (try simp only [List.map_toArray, List.map_cons, List.map_nil]); first | done | rfl | (simp only [List.length_drop, List.length_take]; rfl)) ?_; (with_reducible refine (nEnd.calls (fun k_ => k_ < w.heap.size) _ _ l0 t459 _ ?side1 A12.out).mono ?_); (case side1 => exact Kd.V_mk HC0.out (Kd.F_below (Kd.C_F k62_heap HR0.out) (by repeat (first | (with_reducible first | exact HB.out | apply below_alloc | apply pw_below_drewN | apply below_drew1) | exact HB.out)))); rintro e w18 ⟨v460, rfl, ho0, hb⟩; refine ⟨_, rfl, ?_⟩; have n0_ := Aside0.mk (Kd.V_lower (Kd.V_mono (ok' := fun k_ => True) ho0 (fun k_ hk_ => trivial)) (below_size (by repeat (first | (with_reducible first | exact HB.out | apply below_alloc | apply pw_below_drewN | apply below_drew1) | exact HB.out)))); have n1_ := Aside0.mk (below_step (by repeat (first | (with_reducible first | exact HB.out | apply below_alloc | apply pw_below_drewN | apply below_drew1) | exact HB.out)) hb); clear HB; have HO461 := n0_; have HB := n1_; clear n0_ n1_; (try clear hb); (try clear hb2); (try clear hk); (try clear hi); (try clear ho0); obtain ⟨Ao19, co19, eo19⟩ := Kd.V_slice HO461.out; subst eo19) | ((with_reducible refine gate_callee (f := 17) rfl ?_); refine goesL_ (some 45) rfl rfl Try.func17 (by kernel_rfl) rfl #[.slice Ao19 t459.length co19, .int .i64 a1] rfl (by (try simp only [List.map_toArray, List.map_cons, List.map_nil]); first | done | rfl | (simp only [List.length_drop, List.length_take]; rfl)) ?_; (with_reducible refine (nFind.calls _ _ t459 a1 t462 t463 t464 _ ?side1 ?side2 A13.out).mono ?_); (case side1 => repeat (first | exact (Kd.V_reads' HO461.out).2.2 | (with_reducible refine Kd.C_alloc ?_ _) | (with_reducible refine Kd.C_drewN ?_ _) | (with_reducible refine Kd.C_drew ?_))); (case side2 => exact (Kd.V_reads' HO461.out).2.1); rintro e w20 ⟨rfl, hb⟩; refine ⟨_, rfl, ?_⟩; have n0_ := Aside0.mk (Kd.V_below (by (with_reducible repeat (first | apply Kd.V_alloc | apply Kd.V_drewN | apply Kd.V_drew)); exact HO461.out) hb); have n1_ := Aside0.mk (below_step (by repeat (first | (with_reducible first | exact HB.out | apply below_alloc | apply pw_below_drewN | apply below_drew1) | exact HB.out)) hb); clear HO461; clear HB; have HO461 := n0_; have HB := n1_; clear n0_ n1_; (try clear hb); (try clear hb2); (try clear hk); (try clear hi)) | ((with_reducible refine gate_callee (f := 27) rfl ?_); refine goesL_ (some 51) rfl rfl Try.func27 (by kernel_rfl) rfl #[.slice A0 l0.length c0] rfl (by (try simp only [List.map_toArray, List.map_cons, List.map_nil]); first | done | rfl | (simp only [List.length_drop, List.length_take]; rfl)) ?_; (with_reducible refine (nAll.calls (fun k_ => k_ < w.heap.size) _ _ l0 t465 t468 _ ?side1 A14.out).mono ?_); (case side1 => exact Kd.V_mk HC0.out (Kd.F_below (Kd.C_F k62_heap HR0.out) (by repeat (first | (with_reducible first | exact HB.out | apply below_alloc | apply pw_below_drewN | apply below_drew1) | exact HB.out)))); rintro e w21 ⟨v466, v469, rfl, ho0, ho1, hb⟩; refine ⟨_, rfl, ?_⟩; have n0_ := Aside0.mk (Kd.V_below (by (with_reducible repeat (first | apply Kd.V_alloc | apply Kd.V_drewN | apply Kd.V_drew)); exact HO461.out) hb); have n1_ := Aside0.mk (Kd.V_lower (Kd.V_mono (ok' := fun k_ => True) ho0 (fun k_ hk_ => trivial)) (below_size (by repeat (first | (with_reducible first | exact HB.out | apply below_alloc | apply pw_below_drewN | apply below_drew1) | exact HB.out)))); have n2_ := Aside0.mk (Kd.V_lower (Kd.V_mono (ok' := fun k_ => True) ho1 (fun k_ hk_ => trivial)) (below_size (by repeat (first | (with_reducible first | exact HB.out | apply below_alloc | apply pw_below_drewN | apply below_drew1) | exact HB.out)))); have n3_ := Aside0.mk (below_step (by repeat (first | (with_reducible first | exact HB.out | apply below_alloc | apply pw_below_drewN | apply below_drew1) | exact HB.out)) hb); clear HO461; clear HB; have HO461 := n0_; have HO467 := n1_; have HO470 := n2_; have HB := n3_; clear n0_ n1_ n2_ n3_; (try clear hb); (try clear hb2); (try clear hk); (try clear hi); (try clear ho0); (try clear ho1)) | ((with_reducible refine gate_callee (f := 15) rfl ?_); refine goesL_ (some 56) rfl rfl Try.func15 (by kernel_rfl) rfl #[.slice A0 l0.length c0] rfl (by (try simp only [List.map_toArray, List.map_cons, List.map_nil]); first | done | rfl | (simp only [List.length_drop, List.length_take]; rfl)) ?_; (with_reducible refine (nEnd.calls (fun k_ => k_ < w.heap.size) _ _ l0 t471 _ ?side1 A15.out).mono ?_); (case side1 => exact Kd.V_mk HC0.out (Kd.F_below (Kd.C_F k62_heap HR0.out) (by repeat (first | (with_reducible first | exact HB.out | apply below_alloc | apply pw_below_drewN | apply below_drew1) | exact HB.out)))); rintro e w22 ⟨v472, rfl, ho0, hb⟩; refine ⟨_, rfl, ?_⟩; have n0_ := Aside0.mk (Kd.V_below (by (with_reducible repeat (first | apply Kd.V_alloc | apply Kd.V_drewN | apply Kd.V_drew)); exact HO461.out) hb); have n1_ := Aside0.mk (Kd.V_below (by (with_reducible repeat (first | apply Kd.V_alloc | apply Kd.V_drewN | apply Kd.V_drew)); exact HO467.out) hb); have n2_ := Aside0.mk (Kd.V_below (by (with_reducible repeat (first | apply Kd.V_alloc | apply Kd.V_drewN | apply Kd.V_drew)); exact HO470.out) hb); have n3_ := Aside0.mk (Kd.V_lower (Kd.V_mono (ok' := fun k_ => True) ho0 (fun k_ hk_ => trivial)) (below_size (by repeat (first | (with_reducible first | exact HB.out | apply below_alloc | apply pw_below_drewN | apply below_drew1) | exact HB.out)))); have n4_ := Aside0.mk (below_step (by repeat (first | (with_reducible first | exact HB.out | apply below_alloc | apply pw_below_drewN | apply below_drew1) | exact HB.out)) hb); clear HO461; clear HO467; clear HO470; clear HB; have HO461 := n0_; have HO467 := n1_; have HO470 := n2_; have HO473 := n3_; have HB := n4_; clear n0_ n1_ n2_ n3_ n4_; (try clear hb); (try clear hb2); (try clear hk); (try clear hi); (try clear ho0); obtain ⟨Ao23, co23, eo23⟩ := Kd.V_slice HO473.out; subst eo23) | ((with_reducible refine gate_callee (f := 27) rfl ?_); refine goesL_ (some 57) rfl rfl Try.func27 (by kernel_rfl) rfl #[.slice Ao23 t471.length co23] rfl (by (try simp only [List.map_toArray, List.map_cons, List.map_nil]); first | done | rfl | (simp only [List.length_drop, List.length_take]; rfl)) ?_; (with_reducible refine (nAll.calls (fun k_ => True) _ _ t471 t474 t477 _ ?side1 A16.out).mono ?_); (case side1 => exact HO473.out); rintro e w24 ⟨v475, v478, rfl, ho0, ho1, hb⟩; refine ⟨_, rfl, ?_⟩; have n0_ := Aside0.mk (Kd.V_below (by (with_reducible repeat (first | apply Kd.V_alloc | apply Kd.V_drewN | apply Kd.V_drew)); exact HO461.out) hb); have n1_ := Aside0.mk (Kd.V_below (by (with_reducible repeat (first | apply Kd.V_alloc | apply Kd.V_drewN | apply Kd.V_drew)); exact HO467.out) hb); have n2_ := Aside0.mk (Kd.V_below (by (with_reducible repeat (first | apply Kd.V_alloc | apply Kd.V_drewN | apply Kd.V_drew)); exact HO470.out) hb); have n3_ := Aside0.mk (Kd.V_below (by (with_reducible repeat (first | apply Kd.V_alloc | apply Kd.V_drewN | apply Kd.V_drew)); exact HO473.out) hb); have n4_ := Aside0.mk (Kd.V_lower (Kd.V_mono (ok' := fun k_ => True) ho0 (fun k_ hk_ => trivial)) (below_size (by repeat (first | (with_reducible first | exact HB.out | apply below_alloc | apply pw_below_drewN | apply below_drew1) | exact HB.out)))); have n5_ := Aside0.mk (Kd.V_lower (Kd.V_mono (ok' := fun k_ => True) ho1 (fun k_ hk_ => trivial)) (below_size (by repeat (first | (with_reducible first | exact HB.out | apply below_alloc | apply pw_below_drewN | apply below_drew1) | exact HB.out)))); have n6_ := Aside0.mk (below_step (by repeat (first | (with_reducible first | exact HB.out | apply below_alloc | apply pw_below_drewN | apply below_drew1) | exact HB.out)) hb); clear HO461; clear HO467; clear HO470; clear HO473; clear HB; have HO461 := n0_; have HO467 := n1_; have HO470 := n2_; have HO473 := n3_; have HO476 := n4_; have HO479 := n5_; have HB := n6_; clear n0_ n1_ n2_ n3_ n4_ n5_ n6_; (try clear hb); (try clear hb2); (try clear hk); (try clear hi); (try clear ho0); (try clear ho1)))
  go_loopg [16, 17] kj3 (fun kq v16 v17 w' => ∃ (x16_2 : Bool) (x17_2 : Int), v16 = .bool x16_2 ∧ v17 = .int .i64 x17_2 ∧ Aside0 (hallmootlaw13_NestEnd.l0 kq l0 a1 t453 t456 t458 t462 t464 t468 t477 x16_2 x17_2 = some r) ∧ Aside0 (kq ≤ kj3) ∧ Aside0 (Kd.V k33 33 w' w.heap.size (fun _ => True) v469 t468) ∧ Aside0 (Kd.V k33 33 w' w.heap.size (fun _ => True) v478 t477) ∧ Aside0 (Below w.heap.size w w'))
  case atStart => exact ⟨(false), (0), (by first | rfl | (simp; done) | (simp [*]; done)), (by first | rfl | (simp; done) | (simp [*]; done)), H', ⟨Nat.le_refl _⟩, ⟨by (with_reducible repeat (first | apply Kd.V_alloc | apply Kd.V_drewN | apply Kd.V_drew)); exact HO470.out⟩, ⟨by (with_reducible repeat (first | apply Kd.V_alloc | apply Kd.V_drewN | apply Kd.V_drew)); exact HO479.out⟩, ⟨by repeat (first | (with_reducible first | exact HB.out | apply below_alloc | apply pw_below_drewN | apply below_drew1) | exact HB.out)⟩⟩
  case round =>
   clear H'
   try clear c1
   try clear c2
   try clear p2
   try clear c7
   try clear c8
   try clear c8b0
   try clear c8b1
   try clear c10
   try clear c11
   try clear c15
   try clear c17
   try clear p2
   obtain ⟨x16_2, x17_2, rfl, rfl, HA, HK2, HO_13, HO_15, HB⟩ := hrel
   cases gk with
   | zero => exact absurd HA.out (by simp [hallmootlaw13_NestEnd.l0])
   | succ k2 => {
   have H := HA.out
   clear HA
   simp only [hallmootlaw13_NestEnd.l0] at H
   obtain ⟨ji25, hji25⟩ : ∃ j_ : Int, (wrap64 ((l0.length : Int) - 2)) = j_ := ⟨_, rfl⟩
   replace H : (if 0 ≤ (ji25) then (if (ji25) < (l0.length : Int) then (if x17_2 < (((rd_T62 l0 (ji25)).f0).length : Int) then (if x16_2 = true then (hallmootlaw13_NestEnd.l0 k2 l0 a1 t453 t456 t458 t462 t464 t468 t477 true (wrap64 (x17_2 + 1))) else (if 0 ≤ x17_2 then (hallmootlaw13_NestEnd.l0 k2 l0 a1 t453 t456 t458 t462 t464 t468 t477 (((rd_T30 ((rd_T62 l0 (ji25)).f0) x17_2).f0) == a1) (wrap64 (x17_2 + 1))) else (none))) else (if t458 = 2 then (if x16_2 = true then (if t453 = true then (if t458 = t464 then ((hallmootref13_Writes.f k2 t468 t477).bind fun t483 => (some t483)) else (none)) else (none)) else (if t453 = true then (if t458 = t464 then (if t456 = t462 then ((hallmootref13_Writes.f k2 t468 t477).bind fun t484 => (some t484)) else (none)) else (none)) else (none))) else (if t453 = true then (if t458 = t464 then (if t456 = t462 then ((hallmootref13_Writes.f k2 t468 t477).bind fun t485 => (some t485)) else (none)) else (none)) else (none)))) else (none)) else (none)) = some r := by first | (rw [hji25] at H; exact H) | (simp only [hji25] at H ⊢; exact H)
   have hji25w : (IntKind.i64.wrap ((l0.length : Int) - 2)) = ji25 := (i64_w _).trans hji25
   by_cases c26 : 0 ≤ (ji25)
   {
   rw [if_pos c26] at H
   have c26b0 : decide (0 ≤ (ji25)) = true := decide_eq_true c26
   clear c26
   by_cases c27 : (ji25) < (l0.length : Int)
   {
   rw [if_pos c27] at H
   have c27b0 : decide ((ji25) < (l0.length : Int)) = true := decide_eq_true c27
   clear c27
   by_cases c28 : x17_2 < (((rd_T62 l0 (ji25)).f0).length : Int)
   {
   rw [if_pos c28] at H
   have c28b0 : decide (x17_2 < (((rd_T62 l0 (ji25)).f0).length : Int)) = true := decide_eq_true c28
   clear c28
   by_cases c29 : x16_2 = true
   {
   subst c29
   have H1 : (hallmootlaw13_NestEnd.l0 k2 l0 a1 t453 t456 t458 t462 t464 t468 t477 true (wrap64 (x17_2 + 1))) = some r := by rw [if_pos rfl] at H; exact H
   clear H
   have H := H1
   clear H1
   have H' := Aside0.mk H
   clear H
   have p480 : 0 ≤ ((ji25) : Int) := of_decide_eq_true (by first | (with_reducible assumption) | assumption)
   have q480 : (ji25) < (l0.length : Int) := of_decide_eq_true (by first | (with_reducible assumption) | assumption)
   obtain ⟨ad480, A480_0, c480_0, A480_1, c480_1, A480_2, c480_2, e480, hx480_0, hx480_1, hx480_2, hl480_0, hi480_0, hl480_1, hi480_1, hl480_2, hi480_2⟩ := at_T62 HR0.out (ji25) p480 q480
   cases e480
   replace hx480_0 := (HB.out.cell (World.block_lt_of_cell? w _ hx480_0)).trans hx480_0
   replace hx480_1 := (HB.out.cell (World.block_lt_of_cell? w _ hx480_1)).trans hx480_1
   replace hx480_2 := (HB.out.cell (World.block_lt_of_cell? w _ hx480_2)).trans hx480_2
   have HR480_0 := Aside0.mk hi480_0
   have HC480_0 := Aside0.mk hl480_0
   clear hi480_0 hl480_0
   have HR480_1 := Aside0.mk hi480_1
   have HC480_1 := Aside0.mk hl480_1
   clear hi480_1 hl480_1
   have HR480_2 := Aside0.mk hi480_2
   have HC480_2 := Aside0.mk hl480_2
   clear hi480_2 hl480_2
   replace p480 := eq_true p480
   replace q480 := eq_true q480
   go_wp2
   go_roundg k2
   case measure => have := HJ3.out; have := HK2.out; omega
   case rel => exact ⟨(true), (wrap64 (x17_2 + 1)), (by first | rfl | (simp; done) | (simp [*]; done)), (by first | rfl | (simp; done) | (simp [*]; done)), H', ⟨by have := HJ3.out; have := HK2.out; omega⟩, ⟨by (with_reducible repeat (first | apply Kd.V_alloc | apply Kd.V_drewN | apply Kd.V_drew)); exact HO_13.out⟩, ⟨by (with_reducible repeat (first | apply Kd.V_alloc | apply Kd.V_drewN | apply Kd.V_drew)); exact HO_15.out⟩, ⟨by repeat (first | (with_reducible first | exact HB.out | apply below_alloc | apply pw_below_drewN | apply below_drew1) | exact HB.out)⟩⟩ }
   {
   replace c29 := Bool.eq_false_iff.mpr c29
   subst c29
   have H1 : (if 0 ≤ x17_2 then (hallmootlaw13_NestEnd.l0 k2 l0 a1 t453 t456 t458 t462 t464 t468 t477 (((rd_T30 ((rd_T62 l0 (ji25)).f0) x17_2).f0) == a1) (wrap64 (x17_2 + 1))) else (none)) = some r := by rw [if_neg (show ¬ (false = true) by decide)] at H; exact H
   clear H
   have H := H1
   clear H1
   by_cases c30 : 0 ≤ x17_2
   {
   rw [if_pos c30] at H
   have c30b0 : decide (0 ≤ x17_2) = true := decide_eq_true c30
   clear c30
   have H' := Aside0.mk H
   clear H
   have p480 : 0 ≤ ((ji25) : Int) := of_decide_eq_true (by first | (with_reducible assumption) | assumption)
   have q480 : (ji25) < (l0.length : Int) := of_decide_eq_true (by first | (with_reducible assumption) | assumption)
   obtain ⟨ad480, A480_0, c480_0, A480_1, c480_1, A480_2, c480_2, e480, hx480_0, hx480_1, hx480_2, hl480_0, hi480_0, hl480_1, hi480_1, hl480_2, hi480_2⟩ := at_T62 HR0.out (ji25) p480 q480
   cases e480
   replace hx480_0 := (HB.out.cell (World.block_lt_of_cell? w _ hx480_0)).trans hx480_0
   replace hx480_1 := (HB.out.cell (World.block_lt_of_cell? w _ hx480_1)).trans hx480_1
   replace hx480_2 := (HB.out.cell (World.block_lt_of_cell? w _ hx480_2)).trans hx480_2
   have HR480_0 := Aside0.mk hi480_0
   have HC480_0 := Aside0.mk hl480_0
   clear hi480_0 hl480_0
   have HR480_1 := Aside0.mk hi480_1
   have HC480_1 := Aside0.mk hl480_1
   clear hi480_1 hl480_1
   have HR480_2 := Aside0.mk hi480_2
   have HC480_2 := Aside0.mk hl480_2
   clear hi480_2 hl480_2
   replace p480 := eq_true p480
   replace q480 := eq_true q480
   have p481 : 0 ≤ ((ji25) : Int) := of_decide_eq_true (by first | (with_reducible assumption) | assumption)
   have q481 : (ji25) < (l0.length : Int) := of_decide_eq_true (by first | (with_reducible assumption) | assumption)
   obtain ⟨ad481, A481_0, c481_0, A481_1, c481_1, A481_2, c481_2, e481, hx481_0, hx481_1, hx481_2, hl481_0, hi481_0, hl481_1, hi481_1, hl481_2, hi481_2⟩ := at_T62 HR0.out (ji25) p481 q481
   obtain rfl : ad480 = ad481 := (by injection e481)
   replace hx481_0 := (HB.out.cell (World.block_lt_of_cell? w _ hx481_0)).trans hx481_0
   replace hx481_1 := (HB.out.cell (World.block_lt_of_cell? w _ hx481_1)).trans hx481_1
   replace hx481_2 := (HB.out.cell (World.block_lt_of_cell? w _ hx481_2)).trans hx481_2
   have HR481_0 := Aside0.mk hi481_0
   have HC481_0 := Aside0.mk hl481_0
   clear hi481_0 hl481_0
   have HR481_1 := Aside0.mk hi481_1
   have HC481_1 := Aside0.mk hl481_1
   clear hi481_1 hl481_1
   have HR481_2 := Aside0.mk hi481_2
   have HC481_2 := Aside0.mk hl481_2
   clear hi481_2 hl481_2
   replace p481 := eq_true p481
   replace q481 := eq_true q481
   have ea_ := Option.some.inj (hx480_0.symm.trans hx481_0)
   injection ea_ with ea_ en_ ec_
   subst ea_
   subst ec_
   clear en_
   have ea_ := Option.some.inj (hx480_1.symm.trans hx481_1)
   injection ea_ with ea_ en_ ec_
   subst ea_
   subst ec_
   clear en_
   have ea_ := Option.some.inj (hx480_2.symm.trans hx481_2)
   injection ea_ with ea_ en_ ec_
   subst ea_
   subst ec_
   clear en_
   have p482 : 0 ≤ (x17_2 : Int) := of_decide_eq_true (by first | (with_reducible assumption) | assumption)
   have q482 : x17_2 < (((rd_T62 l0 (ji25)).f0).length : Int) := of_decide_eq_true (by first | (with_reducible assumption) | assumption)
   obtain ⟨ad482, e482, hx482_0, hx482_1, hx482_2⟩ := at_T30 HR481_0.out x17_2 p482 q482
   cases e482
   replace hx482_0 := (HB.out.cell (World.block_lt_of_cell? w _ hx482_0)).trans hx482_0
   replace hx482_1 := (HB.out.cell (World.block_lt_of_cell? w _ hx482_1)).trans hx482_1
   replace hx482_2 := (HB.out.cell (World.block_lt_of_cell? w _ hx482_2)).trans hx482_2
   replace p482 := eq_true p482
   replace q482 := eq_true q482
   go_wp2
   go_roundg k2
   case measure => have := HJ3.out; have := HK2.out; omega
   case rel => exact ⟨((((rd_T30 ((rd_T62 l0 (ji25)).f0) x17_2).f0) == a1)), (wrap64 (x17_2 + 1)), (by first | rfl | (simp; done) | (simp only [← hji25] <;> (first | rfl | simp)) | (simp [*]; done)), (by first | rfl | (simp; done) | (simp [*]; done)), H', ⟨by have := HJ3.out; have := HK2.out; omega⟩, ⟨by (with_reducible repeat (first | apply Kd.V_alloc | apply Kd.V_drewN | apply Kd.V_drew)); exact HO_13.out⟩, ⟨by (with_reducible repeat (first | apply Kd.V_alloc | apply Kd.V_drewN | apply Kd.V_drew)); exact HO_15.out⟩, ⟨by repeat (first | (with_reducible first | exact HB.out | apply below_alloc | apply pw_below_drewN | apply below_drew1) | exact HB.out)⟩⟩ }
   {
   rw [if_neg c30] at H
   exact absurd H (by simp) } } }
   {
   rw [if_neg c28] at H
   have c28b0 : decide (x17_2 < (((rd_T62 l0 (ji25)).f0).length : Int)) = false := decide_eq_false c28
   clear c28
   by_cases c31 : t458 = 2
   {
   rw [if_pos c31] at H
   have c31b0 : (t458 == 2) = true := beq_iff_eq.mpr c31
   have c31b1 : (t458 != 2) = false := bne_eq_false_iff_eq.mpr c31
   clear c31
   by_cases c32 : x16_2 = true
   {
   subst c32
   have H1 : (if t453 = true then (if t458 = t464 then ((hallmootref13_Writes.f k2 t468 t477).bind fun t483 => (some t483)) else (none)) else (none)) = some r := by rw [if_pos rfl] at H; exact H
   clear H
   have H := H1
   clear H1
   by_cases c33 : t453 = true
   {
   subst c33
   have H1 : (if t458 = t464 then ((hallmootref13_Writes.f k2 t468 t477).bind fun t483 => (some t483)) else (none)) = some r := by rw [if_pos rfl] at H; exact H
   clear H
   have H := H1
   clear H1
   by_cases c34 : t458 = t464
   {
   rw [if_pos c34] at H
   have c34b0 : (t458 == t464) = true := beq_iff_eq.mpr c34
   have c34b1 : (t458 != t464) = false := bne_eq_false_iff_eq.mpr c34
   clear c34
   replace H := Option.bind_eq_some_iff.mp H
   obtain ⟨t483, A350, H⟩ := H
   replace H : (some t483) = some r := H
   have A35 := Aside0.mk A350
   clear A350
   obtain rfl := Option.some.inj H
   have p480 : 0 ≤ ((ji25) : Int) := of_decide_eq_true (by first | (with_reducible assumption) | assumption)
   have q480 : (ji25) < (l0.length : Int) := of_decide_eq_true (by first | (with_reducible assumption) | assumption)
   obtain ⟨ad480, A480_0, c480_0, A480_1, c480_1, A480_2, c480_2, e480, hx480_0, hx480_1, hx480_2, hl480_0, hi480_0, hl480_1, hi480_1, hl480_2, hi480_2⟩ := at_T62 HR0.out (ji25) p480 q480
   cases e480
   replace hx480_0 := (HB.out.cell (World.block_lt_of_cell? w _ hx480_0)).trans hx480_0
   replace hx480_1 := (HB.out.cell (World.block_lt_of_cell? w _ hx480_1)).trans hx480_1
   replace hx480_2 := (HB.out.cell (World.block_lt_of_cell? w _ hx480_2)).trans hx480_2
   have HR480_0 := Aside0.mk hi480_0
   have HC480_0 := Aside0.mk hl480_0
   clear hi480_0 hl480_0
   have HR480_1 := Aside0.mk hi480_1
   have HC480_1 := Aside0.mk hl480_1
   clear hi480_1 hl480_1
   have HR480_2 := Aside0.mk hi480_2
   have HC480_2 := Aside0.mk hl480_2
   clear hi480_2 hl480_2
   replace p480 := eq_true p480
   replace q480 := eq_true q480
   obtain ⟨Ao36, co36, eo36⟩ := Kd.V_slice HO_13.out
   subst eo36
   obtain ⟨Ao37, co37, eo37⟩ := Kd.V_slice HO_15.out
   subst eo37
   go_wp2_with (first | (go_at_call 31; (with_reducible refine (hallmootref13_Writes.calls k2 _ _ t468 _ _ t477 t483 _ ?side1 ?side2 ?side3 ?side4 A35.out).mono ?_); (case side1 => repeat (first | exact (Kd.V_reads' HO_13.out).2.2 | (with_reducible refine Kd.C_alloc ?_ _) | (with_reducible refine Kd.C_drewN ?_ _) | (with_reducible refine Kd.C_drew ?_))); (case side2 => exact (Kd.V_reads' HO_13.out).2.1); (case side3 => repeat (first | exact (Kd.V_reads' HO_15.out).2.2 | (with_reducible refine Kd.C_alloc ?_ _) | (with_reducible refine Kd.C_drewN ?_ _) | (with_reducible refine Kd.C_drew ?_))); (case side4 => exact (Kd.V_reads' HO_15.out).2.1); rintro e w' ⟨rfl, ⟨nd, rfl⟩⟩))
   go_ret
   exact ⟨by first | rfl | (simp [errW_none, errW_some] <;> rfl) | (simp only [← hji25]; first | rfl | (simp [errW_none, errW_some] <;> rfl)) | (simp [*, errW_none, errW_some] <;> rfl), by repeat (first | (with_reducible first | exact HB.out | apply below_alloc | apply pw_below_drewN | apply below_drew1) | exact HB.out)⟩ }
   {
   rw [if_neg c34] at H
   exact absurd H (by simp) } }
   {
   replace c33 := Bool.eq_false_iff.mpr c33
   subst c33
   have H1 : (none) = some r := by rw [if_neg (show ¬ (false = true) by decide)] at H; exact H
   clear H
   have H := H1
   clear H1
   exact absurd H (by simp) } }
   {
   replace c32 := Bool.eq_false_iff.mpr c32
   subst c32
   have H1 : (if t453 = true then (if t458 = t464 then (if t456 = t462 then ((hallmootref13_Writes.f k2 t468 t477).bind fun t484 => (some t484)) else (none)) else (none)) else (none)) = some r := by rw [if_neg (show ¬ (false = true) by decide)] at H; exact H
   clear H
   have H := H1
   clear H1
   by_cases c38 : t453 = true
   {
   subst c38
   have H1 : (if t458 = t464 then (if t456 = t462 then ((hallmootref13_Writes.f k2 t468 t477).bind fun t484 => (some t484)) else (none)) else (none)) = some r := by rw [if_pos rfl] at H; exact H
   clear H
   have H := H1
   clear H1
   by_cases c39 : t458 = t464
   {
   rw [if_pos c39] at H
   have c39b0 : (t458 == t464) = true := beq_iff_eq.mpr c39
   have c39b1 : (t458 != t464) = false := bne_eq_false_iff_eq.mpr c39
   clear c39
   by_cases c40 : t456 = t462
   {
   rw [if_pos c40] at H
   have c40b0 : (t456 == t462) = true := beq_iff_eq.mpr c40
   have c40b1 : (t456 != t462) = false := bne_eq_false_iff_eq.mpr c40
   clear c40
   replace H := Option.bind_eq_some_iff.mp H
   obtain ⟨t484, A410, H⟩ := H
   replace H : (some t484) = some r := H
   have A41 := Aside0.mk A410
   clear A410
   obtain rfl := Option.some.inj H
   have p480 : 0 ≤ ((ji25) : Int) := of_decide_eq_true (by first | (with_reducible assumption) | assumption)
   have q480 : (ji25) < (l0.length : Int) := of_decide_eq_true (by first | (with_reducible assumption) | assumption)
   obtain ⟨ad480, A480_0, c480_0, A480_1, c480_1, A480_2, c480_2, e480, hx480_0, hx480_1, hx480_2, hl480_0, hi480_0, hl480_1, hi480_1, hl480_2, hi480_2⟩ := at_T62 HR0.out (ji25) p480 q480
   cases e480
   replace hx480_0 := (HB.out.cell (World.block_lt_of_cell? w _ hx480_0)).trans hx480_0
   replace hx480_1 := (HB.out.cell (World.block_lt_of_cell? w _ hx480_1)).trans hx480_1
   replace hx480_2 := (HB.out.cell (World.block_lt_of_cell? w _ hx480_2)).trans hx480_2
   have HR480_0 := Aside0.mk hi480_0
   have HC480_0 := Aside0.mk hl480_0
   clear hi480_0 hl480_0
   have HR480_1 := Aside0.mk hi480_1
   have HC480_1 := Aside0.mk hl480_1
   clear hi480_1 hl480_1
   have HR480_2 := Aside0.mk hi480_2
   have HC480_2 := Aside0.mk hl480_2
   clear hi480_2 hl480_2
   replace p480 := eq_true p480
   replace q480 := eq_true q480
   obtain ⟨Ao42, co42, eo42⟩ := Kd.V_slice HO_13.out
   subst eo42
   obtain ⟨Ao43, co43, eo43⟩ := Kd.V_slice HO_15.out
   subst eo43
   go_wp2_with (first | (go_at_call 31; (with_reducible refine (hallmootref13_Writes.calls k2 _ _ t468 _ _ t477 t484 _ ?side1 ?side2 ?side3 ?side4 A41.out).mono ?_); (case side1 => repeat (first | exact (Kd.V_reads' HO_13.out).2.2 | (with_reducible refine Kd.C_alloc ?_ _) | (with_reducible refine Kd.C_drewN ?_ _) | (with_reducible refine Kd.C_drew ?_))); (case side2 => exact (Kd.V_reads' HO_13.out).2.1); (case side3 => repeat (first | exact (Kd.V_reads' HO_15.out).2.2 | (with_reducible refine Kd.C_alloc ?_ _) | (with_reducible refine Kd.C_drewN ?_ _) | (with_reducible refine Kd.C_drew ?_))); (case side4 => exact (Kd.V_reads' HO_15.out).2.1); rintro e w' ⟨rfl, ⟨nd, rfl⟩⟩))
   go_ret
   exact ⟨by first | rfl | (simp [errW_none, errW_some] <;> rfl) | (simp only [← hji25]; first | rfl | (simp [errW_none, errW_some] <;> rfl)) | (simp [*, errW_none, errW_some] <;> rfl), by repeat (first | (with_reducible first | exact HB.out | apply below_alloc | apply pw_below_drewN | apply below_drew1) | exact HB.out)⟩ }
   {
   rw [if_neg c40] at H
   exact absurd H (by simp) } }
   {
   rw [if_neg c39] at H
   exact absurd H (by simp) } }
   {
   replace c38 := Bool.eq_false_iff.mpr c38
   subst c38
   have H1 : (none) = some r := by rw [if_neg (show ¬ (false = true) by decide)] at H; exact H
   clear H
   have H := H1
   clear H1
   exact absurd H (by simp) } } }
   {
   rw [if_neg c31] at H
   have c31b0 : (t458 == 2) = false := beq_eq_false_iff_ne.mpr c31
   have c31b1 : (t458 != 2) = true := bne_iff_ne.mpr c31
   by_cases c44 : t453 = true
   {
   subst c44
   have H1 : (if t458 = t464 then (if t456 = t462 then ((hallmootref13_Writes.f k2 t468 t477).bind fun t485 => (some t485)) else (none)) else (none)) = some r := by rw [if_pos rfl] at H; exact H
   clear H
   have H := H1
   clear H1
   by_cases c45 : t458 = t464
   {
   rw [if_pos c45] at H
   have c45b0 : (t458 == t464) = true := beq_iff_eq.mpr c45
   have c45b1 : (t458 != t464) = false := bne_eq_false_iff_eq.mpr c45
   clear c45
   by_cases c46 : t456 = t462
   {
   rw [if_pos c46] at H
   have c46b0 : (t456 == t462) = true := beq_iff_eq.mpr c46
   have c46b1 : (t456 != t462) = false := bne_eq_false_iff_eq.mpr c46
   clear c46
   replace H := Option.bind_eq_some_iff.mp H
   obtain ⟨t485, A470, H⟩ := H
   replace H : (some t485) = some r := H
   have A47 := Aside0.mk A470
   clear A470
   obtain rfl := Option.some.inj H
   have p480 : 0 ≤ ((ji25) : Int) := of_decide_eq_true (by first | (with_reducible assumption) | assumption)
   have q480 : (ji25) < (l0.length : Int) := of_decide_eq_true (by first | (with_reducible assumption) | assumption)
   obtain ⟨ad480, A480_0, c480_0, A480_1, c480_1, A480_2, c480_2, e480, hx480_0, hx480_1, hx480_2, hl480_0, hi480_0, hl480_1, hi480_1, hl480_2, hi480_2⟩ := at_T62 HR0.out (ji25) p480 q480
   cases e480
   replace hx480_0 := (HB.out.cell (World.block_lt_of_cell? w _ hx480_0)).trans hx480_0
   replace hx480_1 := (HB.out.cell (World.block_lt_of_cell? w _ hx480_1)).trans hx480_1
   replace hx480_2 := (HB.out.cell (World.block_lt_of_cell? w _ hx480_2)).trans hx480_2
   have HR480_0 := Aside0.mk hi480_0
   have HC480_0 := Aside0.mk hl480_0
   clear hi480_0 hl480_0
   have HR480_1 := Aside0.mk hi480_1
   have HC480_1 := Aside0.mk hl480_1
   clear hi480_1 hl480_1
   have HR480_2 := Aside0.mk hi480_2
   have HC480_2 := Aside0.mk hl480_2
   clear hi480_2 hl480_2
   replace p480 := eq_true p480
   replace q480 := eq_true q480
   obtain ⟨Ao48, co48, eo48⟩ := Kd.V_slice HO_13.out
   subst eo48
   obtain ⟨Ao49, co49, eo49⟩ := Kd.V_slice HO_15.out
   subst eo49
   go_wp2_with (first | (go_at_call 31; (with_reducible refine (hallmootref13_Writes.calls k2 _ _ t468 _ _ t477 t485 _ ?side1 ?side2 ?side3 ?side4 A47.out).mono ?_); (case side1 => repeat (first | exact (Kd.V_reads' HO_13.out).2.2 | (with_reducible refine Kd.C_alloc ?_ _) | (with_reducible refine Kd.C_drewN ?_ _) | (with_reducible refine Kd.C_drew ?_))); (case side2 => exact (Kd.V_reads' HO_13.out).2.1); (case side3 => repeat (first | exact (Kd.V_reads' HO_15.out).2.2 | (with_reducible refine Kd.C_alloc ?_ _) | (with_reducible refine Kd.C_drewN ?_ _) | (with_reducible refine Kd.C_drew ?_))); (case side4 => exact (Kd.V_reads' HO_15.out).2.1); rintro e w' ⟨rfl, ⟨nd, rfl⟩⟩))
   go_ret
   exact ⟨by first | rfl | (simp [errW_none, errW_some] <;> rfl) | (simp only [← hji25]; first | rfl | (simp [errW_none, errW_some] <;> rfl)) | (simp [*, errW_none, errW_some] <;> rfl), by repeat (first | (with_reducible first | exact HB.out | apply below_alloc | apply pw_below_drewN | apply below_drew1) | exact HB.out)⟩ }
   {
   rw [if_neg c46] at H
   exact absurd H (by simp) } }
   {
   rw [if_neg c45] at H
   exact absurd H (by simp) } }
   {
   replace c44 := Bool.eq_false_iff.mpr c44
   subst c44
   have H1 : (none) = some r := by rw [if_neg (show ¬ (false = true) by decide)] at H; exact H
   clear H
   have H := H1
   clear H1
   exact absurd H (by simp) } } } }
   {
   rw [if_neg c27] at H
   exact absurd H (by simp) } }
   {
   rw [if_neg c26] at H
   exact absurd H (by simp) } } } }

end Go.Proofs.Ytfojpobblebigaa.P
