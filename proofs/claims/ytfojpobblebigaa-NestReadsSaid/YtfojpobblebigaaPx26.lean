-- Written by pp.py (this session's program over the kit's printer): functions, contracts. Not trusted: Lean checks it.
import Derived.Test.YtfojpobblebigaaPx0
import Derived.Test.YtfojpobblebigaaPx25
import Derived.Test.YtfojpobblebigaaPx3
import Derived.Test.YtfojpobblebigaaPx5
import Derived.Test.YtfojpobblebigaaHk
import Derived.Test.YtfojpobblebigaaHn
import Derived.Test.YtfojpobblebigaaHo
namespace Go.Proofs.Ytfojpobblebigaa.P
open Go.RowKit Go.Proofs.YtfojpobblebigaaW.PrintWords Go.Proofs.YtfojpobblebigaaW.PrintLast Go.Proofs.YtfojpobblebigaaW.PrintMore
attribute [local go_sem] max2_int min2_int max_two min_two max_three min_three max_four min_four   -- for this text's walks alone
set_option linter.unusedVariables false
set_option linter.unusedSimpArgs false

/-! ### hallmootlaw13_NestReads: function 9 -/
def hallmootlaw13_NestReads.l0 : Nat → List (S62) → Int → Bool → List (S30) → List (S30) → List (S30) → Bool → Bool → Int → Option (Bool)
  | 0, _, _, _, _, _, _, _, _, _ => none
  | k + 1, x0, x1, x5, x8, x10, x12, x14, x15, x16 => if x16 < (x0.length : Int) then (if x15 = true then (hallmootlaw13_NestReads.l0 k x0 x1 x5 x8 x10 x12 x14 true (wrap64 (x16 + 1))) else (if 0 ≤ x16 then ((hallmootlaw13_has.f k ((rd_T62 x0 x16).f0) x1).bind fun t518 => (hallmootlaw13_NestReads.l0 k x0 x1 x5 x8 x10 x12 x14 t518 (wrap64 (x16 + 1)))) else (none))) else (if x5 = true then (if (x14 == x15) = true then ((hallmootlaw13_has.f k x10 x1).bind fun t519 => (if (t519 == x15) = true then ((hallmootlaw13_has.f k x12 x1).bind fun t520 => (if (t520 == x15) = true then (if (x8.length : Int) = (x10.length : Int) then (some ((x8.length : Int) == (x12.length : Int))) else (none)) else (none))) else (none))) else (none)) else (none))
def hallmootlaw13_NestReads.f (k : Nat) (l0 : List (S62)) (a1 : Int) : Option (Bool) := (hallmootlaw13_sanity.f).bind fun t487 => ((hallmootlaw13_few.f k l0).bind fun t488 => (if t488 = true then ((nDrop.f l0).bind fun bt489 => ((nAll.f l0).bind fun bt495 => ((nEnd.f l0).bind fun t501 => ((nAll.f t501).bind fun bt504 => ((nAll.f bt489.1).bind fun bt510 => ((hallmootlaw13_has.f k bt495.1 a1).bind fun t516 => (hallmootlaw13_NestReads.l0 k l0 a1 t487 bt495.1 bt504.1 bt510.1 t516 false 0))))))) else (some t487)))
theorem hallmootlaw13_NestReads.mono_l : ∀ k, (∀ y0 y1 y2 y3 y4 y5 y6 y7 y8, LeO (hallmootlaw13_NestReads.l0 k y0 y1 y2 y3 y4 y5 y6 y7 y8) (hallmootlaw13_NestReads.l0 (k + 1) y0 y1 y2 y3 y4 y5 y6 y7 y8))
  | 0 => fun _ _ _ _ _ _ _ _ _ r h => by simp [hallmootlaw13_NestReads.l0] at h
  | k + 1 => by
    have ih0 := hallmootlaw13_NestReads.mono_l k
    · intro y0 y1 y2 y3 y4 y5 y6 y7 y8
      unfold hallmootlaw13_NestReads.l0
      repeat' first
      | (with_reducible exact ih0 _ _ _ _ _ _ _ _ _)
      | (with_reducible exact hallmootlaw13_few.mono _ _)
      | (with_reducible exact hallmootlaw13_has.mono _ _ _)
      | (with_reducible exact LeO.refl _)
      | (with_reducible exact LeO.none _)
      | (with_reducible refine LeO.ite ?_ ?_)
      | (with_reducible refine LeO.bind ?_ (fun _ => ?_))
      | exact ih0 _ _ _ _ _ _ _ _ _
      | exact hallmootlaw13_few.mono _ _
      | exact hallmootlaw13_has.mono _ _ _
      | exact LeO.none _
      | refine LeO.ite ?_ ?_
      | refine LeO.bind ?_ (fun _ => ?_)
theorem hallmootlaw13_NestReads.mono : ∀ a0 a1 k, LeO (hallmootlaw13_NestReads.f k a0 a1) (hallmootlaw13_NestReads.f (k + 1) a0 a1) := by
 intro a0 a1 k
 have ih0 := hallmootlaw13_NestReads.mono_l k
 unfold hallmootlaw13_NestReads.f
 repeat' first | (with_reducible exact ih0 _ _ _ _ _ _ _ _ _) | (with_reducible exact hallmootlaw13_few.mono _ _) | (with_reducible exact hallmootlaw13_has.mono _ _ _) | (with_reducible exact LeO.refl _) | (with_reducible exact LeO.none _) | (with_reducible refine LeO.ite ?_ ?_) | (with_reducible refine LeO.bind ?_ (fun _ => ?_)) | exact ih0 _ _ _ _ _ _ _ _ _ | exact hallmootlaw13_few.mono _ _ | exact hallmootlaw13_has.mono _ _ _ | exact LeO.none _ | refine LeO.ite ?_ ?_ | refine LeO.bind ?_ (fun _ => ?_)
set_option maxHeartbeats 8000000 in
set_option maxRecDepth 100000 in
theorem hallmootlaw13_NestReads.calls (k : Nat) (A0 : Option Addr) (c0 : Nat) (l0 : List (S62)) (a1 : Int) (r : Bool) (w : World) (hr0 : Kd.C k62 w A0 l0.length l0) (hc0 : l0.length ≤ c0) (h : hallmootlaw13_NestReads.f k l0 a1 = some r) : Calls Try.prog 9 #[.slice A0 l0.length c0, .int .i64 a1] w fun e w' => e = .returned (.bool r) ∧ Below w.heap.size w w' := by
 have HR0 := Aside0.mk hr0
 have HC0 := Aside0.mk hc0
 clear hr0 hc0
 have HB := Aside0.mk (Below.refl w.heap.size w)
 have H : ((hallmootlaw13_sanity.f).bind fun t487 => ((hallmootlaw13_few.f k l0).bind fun t488 => (if t488 = true then ((nDrop.f l0).bind fun bt489 => ((nAll.f l0).bind fun bt495 => ((nEnd.f l0).bind fun t501 => ((nAll.f t501).bind fun bt504 => ((nAll.f bt489.1).bind fun bt510 => ((hallmootlaw13_has.f k bt495.1 a1).bind fun t516 => (hallmootlaw13_NestReads.l0 k l0 a1 t487 bt495.1 bt504.1 bt510.1 t516 false 0))))))) else (some t487)))) = some r := h
 clear h
 replace H := Option.bind_eq_some_iff.mp H
 obtain ⟨t487, A30, H⟩ := H
 replace H : ((hallmootlaw13_few.f k l0).bind fun t488 => (if t488 = true then ((nDrop.f l0).bind fun bt489 => ((nAll.f l0).bind fun bt495 => ((nEnd.f l0).bind fun t501 => ((nAll.f t501).bind fun bt504 => ((nAll.f bt489.1).bind fun bt510 => ((hallmootlaw13_has.f k bt495.1 a1).bind fun t516 => (hallmootlaw13_NestReads.l0 k l0 a1 t487 bt495.1 bt504.1 bt510.1 t516 false 0))))))) else (some t487))) = some r := H
 have A3 := Aside0.mk A30
 clear A30
 replace H := Option.bind_eq_some_iff.mp H
 obtain ⟨t488, A40, H⟩ := H
 replace H : (if t488 = true then ((nDrop.f l0).bind fun bt489 => ((nAll.f l0).bind fun bt495 => ((nEnd.f l0).bind fun t501 => ((nAll.f t501).bind fun bt504 => ((nAll.f bt489.1).bind fun bt510 => ((hallmootlaw13_has.f k bt495.1 a1).bind fun t516 => (hallmootlaw13_NestReads.l0 k l0 a1 t487 bt495.1 bt504.1 bt510.1 t516 false 0))))))) else (some t487)) = some r := H
 have A4 := Aside0.mk A40
 clear A40
 by_cases c5 : t488 = true
 {
 subst c5
 have H1 : ((nDrop.f l0).bind fun bt489 => ((nAll.f l0).bind fun bt495 => ((nEnd.f l0).bind fun t501 => ((nAll.f t501).bind fun bt504 => ((nAll.f bt489.1).bind fun bt510 => ((hallmootlaw13_has.f k bt495.1 a1).bind fun t516 => (hallmootlaw13_NestReads.l0 k l0 a1 t487 bt495.1 bt504.1 bt510.1 t516 false 0))))))) = some r := by rw [if_pos rfl] at H; exact H
 clear H
 have H := H1
 clear H1
 replace H := Option.bind_eq_some_iff.mp H
 obtain ⟨⟨t489, t492⟩, A60, H⟩ := H
 replace H : ((nAll.f l0).bind fun bt495 => ((nEnd.f l0).bind fun t501 => ((nAll.f t501).bind fun bt504 => ((nAll.f t489).bind fun bt510 => ((hallmootlaw13_has.f k bt495.1 a1).bind fun t516 => (hallmootlaw13_NestReads.l0 k l0 a1 t487 bt495.1 bt504.1 bt510.1 t516 false 0)))))) = some r := H
 have A6 := Aside0.mk A60
 clear A60
 replace H := Option.bind_eq_some_iff.mp H
 obtain ⟨⟨t495, t498⟩, A70, H⟩ := H
 replace H : ((nEnd.f l0).bind fun t501 => ((nAll.f t501).bind fun bt504 => ((nAll.f t489).bind fun bt510 => ((hallmootlaw13_has.f k t495 a1).bind fun t516 => (hallmootlaw13_NestReads.l0 k l0 a1 t487 t495 bt504.1 bt510.1 t516 false 0))))) = some r := H
 have A7 := Aside0.mk A70
 clear A70
 replace H := Option.bind_eq_some_iff.mp H
 obtain ⟨t501, A80, H⟩ := H
 replace H : ((nAll.f t501).bind fun bt504 => ((nAll.f t489).bind fun bt510 => ((hallmootlaw13_has.f k t495 a1).bind fun t516 => (hallmootlaw13_NestReads.l0 k l0 a1 t487 t495 bt504.1 bt510.1 t516 false 0)))) = some r := H
 have A8 := Aside0.mk A80
 clear A80
 replace H := Option.bind_eq_some_iff.mp H
 obtain ⟨⟨t504, t507⟩, A90, H⟩ := H
 replace H : ((nAll.f t489).bind fun bt510 => ((hallmootlaw13_has.f k t495 a1).bind fun t516 => (hallmootlaw13_NestReads.l0 k l0 a1 t487 t495 t504 bt510.1 t516 false 0))) = some r := H
 have A9 := Aside0.mk A90
 clear A90
 replace H := Option.bind_eq_some_iff.mp H
 obtain ⟨⟨t510, t513⟩, A100, H⟩ := H
 replace H : ((hallmootlaw13_has.f k t495 a1).bind fun t516 => (hallmootlaw13_NestReads.l0 k l0 a1 t487 t495 t504 t510 t516 false 0)) = some r := H
 have A10 := Aside0.mk A100
 clear A100
 replace H := Option.bind_eq_some_iff.mp H
 obtain ⟨t516, A110, H⟩ := H
 replace H : (hallmootlaw13_NestReads.l0 k l0 a1 t487 t495 t504 t510 t516 false 0) = some r := H
 have A11 := Aside0.mk A110
 clear A110
 have H' := Aside0.mk H
 clear H
 go_enter Try.func9, Try.ntmps9
 go_wp2_with (first | ((with_reducible refine gate_callee (f := 10) rfl ?_); refine goesL_ (some 17) rfl rfl Try.func10 (by kernel_rfl) rfl #[] rfl (by (try simp only [List.map_toArray, List.map_cons, List.map_nil]); first | done | rfl | (simp only [List.length_drop, List.length_take]; rfl)) ?_; (with_reducible refine (hallmootlaw13_sanity.calls  t487 _ A3.out).mono ?_); rintro e w12 ⟨rfl, hb⟩; refine ⟨_, rfl, ?_⟩; have n0_ := Aside0.mk (below_step (by repeat (first | (with_reducible first | exact HB.out | apply below_alloc | apply pw_below_drewN | apply below_drew1) | exact HB.out)) hb); clear HB; have HB := n0_; clear n0_; (try clear hb); (try clear hb2); (try clear hk); (try clear hi)) | ((with_reducible refine gate_callee (f := 11) rfl ?_); refine goesL_ (some 19) rfl rfl Try.func11 (by kernel_rfl) rfl #[.slice A0 l0.length c0] rfl (by (try simp only [List.map_toArray, List.map_cons, List.map_nil]); first | done | rfl | (simp only [List.length_drop, List.length_take]; rfl)) ?_; (with_reducible refine (hallmootlaw13_few.calls k _ _ l0 true _ ?side1 ?side2 A4.out).mono ?_); (case side1 => repeat (first | exact (Kd.C_below HR0.out HB.out) | (with_reducible refine Kd.C_alloc ?_ _) | (with_reducible refine Kd.C_drewN ?_ _) | (with_reducible refine Kd.C_drew ?_))); (case side2 => exact HC0.out); rintro e w' ⟨rfl, ⟨nd, rfl⟩⟩; refine ⟨_, rfl, ?_⟩) | ((with_reducible refine gate_callee (f := 16) rfl ?_); refine goesL_ (some 24) rfl rfl Try.func16 (by kernel_rfl) rfl #[.slice A0 l0.length c0] rfl (by (try simp only [List.map_toArray, List.map_cons, List.map_nil]); first | done | rfl | (simp only [List.length_drop, List.length_take]; rfl)) ?_; (with_reducible refine (nDrop.calls (fun k_ => k_ < w.heap.size) _ _ l0 t489 t492 _ ?side1 A6.out).mono ?_); (case side1 => exact Kd.V_mk HC0.out (Kd.F_below (Kd.C_F k62_heap HR0.out) (by repeat (first | (with_reducible first | exact HB.out | apply below_alloc | apply pw_below_drewN | apply below_drew1) | exact HB.out)))); rintro e w13 ⟨v490, v493, rfl, ho0, ho1, hb⟩; refine ⟨_, rfl, ?_⟩; have n0_ := Aside0.mk (Kd.V_lower (Kd.V_mono (ok' := fun k_ => True) ho0 (fun k_ hk_ => trivial)) (below_size (by repeat (first | (with_reducible first | exact HB.out | apply below_alloc | apply pw_below_drewN | apply below_drew1) | exact HB.out)))); have n1_ := Aside0.mk (Kd.V_lower (Kd.V_mono (ok' := fun k_ => True) ho1 (fun k_ hk_ => trivial)) (below_size (by repeat (first | (with_reducible first | exact HB.out | apply below_alloc | apply pw_below_drewN | apply below_drew1) | exact HB.out)))); have n2_ := Aside0.mk (below_step (by repeat (first | (with_reducible first | exact HB.out | apply below_alloc | apply pw_below_drewN | apply below_drew1) | exact HB.out)) hb); clear HB; have HO491 := n0_; have HO494 := n1_; have HB := n2_; clear n0_ n1_ n2_; (try clear hb); (try clear hb2); (try clear hk); (try clear hi); (try clear ho0); (try clear ho1)) | ((with_reducible refine gate_callee (f := 27) rfl ?_); refine goesL_ (some 29) rfl rfl Try.func27 (by kernel_rfl) rfl #[.slice A0 l0.length c0] rfl (by (try simp only [List.map_toArray, List.map_cons, List.map_nil]); first | done | rfl | (simp only [List.length_drop, List.length_take]; rfl)) ?_; (with_reducible refine (nAll.calls (fun k_ => k_ < w.heap.size) _ _ l0 t495 t498 _ ?side1 A7.out).mono ?_); (case side1 => exact Kd.V_mk HC0.out (Kd.F_below (Kd.C_F k62_heap HR0.out) (by repeat (first | (with_reducible first | exact HB.out | apply below_alloc | apply pw_below_drewN | apply below_drew1) | exact HB.out)))); rintro e w14 ⟨v496, v499, rfl, ho0, ho1, hb⟩; refine ⟨_, rfl, ?_⟩; have n0_ := Aside0.mk (Kd.V_below (by (with_reducible repeat (first | apply Kd.V_alloc | apply Kd.V_drewN | apply Kd.V_drew)); exact HO491.out) hb); have n1_ := Aside0.mk (Kd.V_below (by (with_reducible repeat (first | apply Kd.V_alloc | apply Kd.V_drewN | apply Kd.V_drew)); exact HO494.out) hb); have n2_ := Aside0.mk (Kd.V_lower (Kd.V_mono (ok' := fun k_ => True) ho0 (fun k_ hk_ => trivial)) (below_size (by repeat (first | (with_reducible first | exact HB.out | apply below_alloc | apply pw_below_drewN | apply below_drew1) | exact HB.out)))); have n3_ := Aside0.mk (Kd.V_lower (Kd.V_mono (ok' := fun k_ => True) ho1 (fun k_ hk_ => trivial)) (below_size (by repeat (first | (with_reducible first | exact HB.out | apply below_alloc | apply pw_below_drewN | apply below_drew1) | exact HB.out)))); have n4_ := Aside0.mk (below_step (by repeat (first | (with_reducible first | exact HB.out | apply below_alloc | apply pw_below_drewN | apply below_drew1) | exact HB.out)) hb); clear HO491; clear HO494; clear HB; have HO491 := n0_; have HO494 := n1_; have HO497 := n2_; have HO500 := n3_; have HB := n4_; clear n0_ n1_ n2_ n3_ n4_; (try clear hb); (try clear hb2); (try clear hk); (try clear hi); (try clear ho0); (try clear ho1)) | ((with_reducible refine gate_callee (f := 15) rfl ?_); refine goesL_ (some 34) rfl rfl Try.func15 (by kernel_rfl) rfl #[.slice A0 l0.length c0] rfl (by (try simp only [List.map_toArray, List.map_cons, List.map_nil]); first | done | rfl | (simp only [List.length_drop, List.length_take]; rfl)) ?_; (with_reducible refine (nEnd.calls (fun k_ => k_ < w.heap.size) _ _ l0 t501 _ ?side1 A8.out).mono ?_); (case side1 => exact Kd.V_mk HC0.out (Kd.F_below (Kd.C_F k62_heap HR0.out) (by repeat (first | (with_reducible first | exact HB.out | apply below_alloc | apply pw_below_drewN | apply below_drew1) | exact HB.out)))); rintro e w15 ⟨v502, rfl, ho0, hb⟩; refine ⟨_, rfl, ?_⟩; have n0_ := Aside0.mk (Kd.V_below (by (with_reducible repeat (first | apply Kd.V_alloc | apply Kd.V_drewN | apply Kd.V_drew)); exact HO491.out) hb); have n1_ := Aside0.mk (Kd.V_below (by (with_reducible repeat (first | apply Kd.V_alloc | apply Kd.V_drewN | apply Kd.V_drew)); exact HO494.out) hb); have n2_ := Aside0.mk (Kd.V_below (by (with_reducible repeat (first | apply Kd.V_alloc | apply Kd.V_drewN | apply Kd.V_drew)); exact HO497.out) hb); have n3_ := Aside0.mk (Kd.V_below (by (with_reducible repeat (first | apply Kd.V_alloc | apply Kd.V_drewN | apply Kd.V_drew)); exact HO500.out) hb); have n4_ := Aside0.mk (Kd.V_lower (Kd.V_mono (ok' := fun k_ => True) ho0 (fun k_ hk_ => trivial)) (below_size (by repeat (first | (with_reducible first | exact HB.out | apply below_alloc | apply pw_below_drewN | apply below_drew1) | exact HB.out)))); have n5_ := Aside0.mk (below_step (by repeat (first | (with_reducible first | exact HB.out | apply below_alloc | apply pw_below_drewN | apply below_drew1) | exact HB.out)) hb); clear HO491; clear HO494; clear HO497; clear HO500; clear HB; have HO491 := n0_; have HO494 := n1_; have HO497 := n2_; have HO500 := n3_; have HO503 := n4_; have HB := n5_; clear n0_ n1_ n2_ n3_ n4_ n5_; (try clear hb); (try clear hb2); (try clear hk); (try clear hi); (try clear ho0); obtain ⟨Ao16, co16, eo16⟩ := Kd.V_slice HO503.out; subst eo16) | ((with_reducible refine gate_callee (f := 27) rfl ?_); refine goesL_ (some 35) rfl rfl Try.func27 (by kernel_rfl) rfl #[.slice Ao16 t501.length co16] rfl (by (try simp only [List.map_toArray, List.map_cons, List.map_nil]); first | done | rfl | (simp only [List.length_drop, List.length_take]; rfl)) ?_; (with_reducible refine (nAll.calls (fun k_ => True) _ _ t501 t504 t507 _ ?side1 A9.out).mono ?_); (case side1 => exact HO503.out); rintro e w17 ⟨v505, v508, rfl, ho0, ho1, hb⟩; refine ⟨_, rfl, ?_⟩; have n0_ := Aside0.mk (Kd.V_below (by (with_reducible repeat (first | apply Kd.V_alloc | apply Kd.V_drewN | apply Kd.V_drew)); exact HO491.out) hb); have n1_ := Aside0.mk (Kd.V_below (by (with_reducible repeat (first | apply Kd.V_alloc | apply Kd.V_drewN | apply Kd.V_drew)); exact HO494.out) hb); have n2_ := Aside0.mk (Kd.V_below (by (with_reducible repeat (first | apply Kd.V_alloc | apply Kd.V_drewN | apply Kd.V_drew)); exact HO497.out) hb); have n3_ := Aside0.mk (Kd.V_below (by (with_reducible repeat (first | apply Kd.V_alloc | apply Kd.V_drewN | apply Kd.V_drew)); exact HO500.out) hb); have n4_ := Aside0.mk (Kd.V_below (by (with_reducible repeat (first | apply Kd.V_alloc | apply Kd.V_drewN | apply Kd.V_drew)); exact HO503.out) hb); have n5_ := Aside0.mk (Kd.V_lower (Kd.V_mono (ok' := fun k_ => True) ho0 (fun k_ hk_ => trivial)) (below_size (by repeat (first | (with_reducible first | exact HB.out | apply below_alloc | apply pw_below_drewN | apply below_drew1) | exact HB.out)))); have n6_ := Aside0.mk (Kd.V_lower (Kd.V_mono (ok' := fun k_ => True) ho1 (fun k_ hk_ => trivial)) (below_size (by repeat (first | (with_reducible first | exact HB.out | apply below_alloc | apply pw_below_drewN | apply below_drew1) | exact HB.out)))); have n7_ := Aside0.mk (below_step (by repeat (first | (with_reducible first | exact HB.out | apply below_alloc | apply pw_below_drewN | apply below_drew1) | exact HB.out)) hb); clear HO491; clear HO494; clear HO497; clear HO500; clear HO503; clear HB; have HO491 := n0_; have HO494 := n1_; have HO497 := n2_; have HO500 := n3_; have HO503 := n4_; have HO506 := n5_; have HO509 := n6_; have HB := n7_; clear n0_ n1_ n2_ n3_ n4_ n5_ n6_ n7_; (try clear hb); (try clear hb2); (try clear hk); (try clear hi); (try clear ho0); (try clear ho1); obtain ⟨Ao18, co18, eo18⟩ := Kd.V_slice HO491.out; subst eo18) | ((with_reducible refine gate_callee (f := 27) rfl ?_); refine goesL_ (some 40) rfl rfl Try.func27 (by kernel_rfl) rfl #[.slice Ao18 t489.length co18] rfl (by (try simp only [List.map_toArray, List.map_cons, List.map_nil]); first | done | rfl | (simp only [List.length_drop, List.length_take]; rfl)) ?_; (with_reducible refine (nAll.calls (fun k_ => True) _ _ t489 t510 t513 _ ?side1 A10.out).mono ?_); (case side1 => exact HO491.out); rintro e w19 ⟨v511, v514, rfl, ho0, ho1, hb⟩; refine ⟨_, rfl, ?_⟩; have n0_ := Aside0.mk (Kd.V_below (by (with_reducible repeat (first | apply Kd.V_alloc | apply Kd.V_drewN | apply Kd.V_drew)); exact HO491.out) hb); have n1_ := Aside0.mk (Kd.V_below (by (with_reducible repeat (first | apply Kd.V_alloc | apply Kd.V_drewN | apply Kd.V_drew)); exact HO494.out) hb); have n2_ := Aside0.mk (Kd.V_below (by (with_reducible repeat (first | apply Kd.V_alloc | apply Kd.V_drewN | apply Kd.V_drew)); exact HO497.out) hb); have n3_ := Aside0.mk (Kd.V_below (by (with_reducible repeat (first | apply Kd.V_alloc | apply Kd.V_drewN | apply Kd.V_drew)); exact HO500.out) hb); have n4_ := Aside0.mk (Kd.V_below (by (with_reducible repeat (first | apply Kd.V_alloc | apply Kd.V_drewN | apply Kd.V_drew)); exact HO503.out) hb); have n5_ := Aside0.mk (Kd.V_below (by (with_reducible repeat (first | apply Kd.V_alloc | apply Kd.V_drewN | apply Kd.V_drew)); exact HO506.out) hb); have n6_ := Aside0.mk (Kd.V_below (by (with_reducible repeat (first | apply Kd.V_alloc | apply Kd.V_drewN | apply Kd.V_drew)); exact HO509.out) hb); have n7_ := Aside0.mk (Kd.V_lower (Kd.V_mono (ok' := fun k_ => True) ho0 (fun k_ hk_ => trivial)) (below_size (by repeat (first | (with_reducible first | exact HB.out | apply below_alloc | apply pw_below_drewN | apply below_drew1) | exact HB.out)))); have n8_ := Aside0.mk (Kd.V_lower (Kd.V_mono (ok' := fun k_ => True) ho1 (fun k_ hk_ => trivial)) (below_size (by repeat (first | (with_reducible first | exact HB.out | apply below_alloc | apply pw_below_drewN | apply below_drew1) | exact HB.out)))); have n9_ := Aside0.mk (below_step (by repeat (first | (with_reducible first | exact HB.out | apply below_alloc | apply pw_below_drewN | apply below_drew1) | exact HB.out)) hb); clear HO491; clear HO494; clear HO497; clear HO500; clear HO503; clear HO506; clear HO509; clear HB; have HO491 := n0_; have HO494 := n1_; have HO497 := n2_; have HO500 := n3_; have HO503 := n4_; have HO506 := n5_; have HO509 := n6_; have HO512 := n7_; have HO515 := n8_; have HB := n9_; clear n0_ n1_ n2_ n3_ n4_ n5_ n6_ n7_ n8_ n9_; (try clear hb); (try clear hb2); (try clear hk); (try clear hi); (try clear ho0); (try clear ho1); obtain ⟨Ao20, co20, eo20⟩ := Kd.V_slice HO497.out; subst eo20) | ((with_reducible refine gate_callee (f := 33) rfl ?_); refine goesL_ (some 45) rfl rfl Try.func33 (by kernel_rfl) rfl #[.slice Ao20 t495.length co20, .int .i64 a1] rfl (by (try simp only [List.map_toArray, List.map_cons, List.map_nil]); first | done | rfl | (simp only [List.length_drop, List.length_take]; rfl)) ?_; (with_reducible refine (hallmootlaw13_has.calls k _ _ t495 a1 t516 _ ?side1 ?side2 A11.out).mono ?_); (case side1 => repeat (first | exact (Kd.V_reads' HO497.out).2.2 | (with_reducible refine Kd.C_alloc ?_ _) | (with_reducible refine Kd.C_drewN ?_ _) | (with_reducible refine Kd.C_drew ?_))); (case side2 => exact (Kd.V_reads' HO497.out).2.1); rintro e w' ⟨rfl, ⟨nd, rfl⟩⟩; refine ⟨_, rfl, ?_⟩))
 go_loopg [15, 16] k (fun kq v15 v16 w' => ∃ (x15_1 : Bool) (x16_1 : Int), v15 = .bool x15_1 ∧ v16 = .int .i64 x16_1 ∧ Aside0 (hallmootlaw13_NestReads.l0 kq l0 a1 t487 t495 t504 t510 t516 x15_1 x16_1 = some r) ∧ Aside0 (kq ≤ k) ∧ Aside0 (Kd.V k30 30 w' w.heap.size (fun _ => True) (.slice Ao20 t495.length co20) t495) ∧ Aside0 (Kd.V k30 30 w' w.heap.size (fun _ => True) v505 t504) ∧ Aside0 (Kd.V k30 30 w' w.heap.size (fun _ => True) v511 t510) ∧ Aside0 (Below w.heap.size w w'))
 case atStart => exact ⟨(false), (0), (by first | rfl | (simp; done) | (simp [*]; done)), (by first | rfl | (simp; done) | (simp [*]; done)), H', ⟨Nat.le_refl _⟩, ⟨by (with_reducible repeat (first | apply Kd.V_alloc | apply Kd.V_drewN | apply Kd.V_drew)); exact HO497.out⟩, ⟨by (with_reducible repeat (first | apply Kd.V_alloc | apply Kd.V_drewN | apply Kd.V_drew)); exact HO506.out⟩, ⟨by (with_reducible repeat (first | apply Kd.V_alloc | apply Kd.V_drewN | apply Kd.V_drew)); exact HO512.out⟩, ⟨by repeat (first | (with_reducible first | exact HB.out | apply below_alloc | apply pw_below_drewN | apply below_drew1) | exact HB.out)⟩⟩
 case round =>
  clear H'
  try clear c1
  try clear c2
  try clear p2
  try clear c3
  try clear c5
  try clear c9
  try clear c10
  try clear c11
  try clear c15
  try clear c16
  obtain ⟨x15_1, x16_1, rfl, rfl, HA, HK1, HO_8, HO_10, HO_12, HB⟩ := hrel
  cases gk with
  | zero => exact absurd HA.out (by simp [hallmootlaw13_NestReads.l0])
  | succ k1 => {
  have H := HA.out
  clear HA
  simp only [hallmootlaw13_NestReads.l0] at H
  by_cases c21 : x16_1 < (l0.length : Int)
  {
  rw [if_pos c21] at H
  have c21b0 : decide (x16_1 < (l0.length : Int)) = true := decide_eq_true c21
  clear c21
  by_cases c22 : x15_1 = true
  {
  subst c22
  have H1 : (hallmootlaw13_NestReads.l0 k1 l0 a1 t487 t495 t504 t510 t516 true (wrap64 (x16_1 + 1))) = some r := by rw [if_pos rfl] at H; exact H
  clear H
  have H := H1
  clear H1
  have H' := Aside0.mk H
  clear H
  go_wp2
  go_roundg k1
  case measure => have := HK1.out; omega
  case rel => exact ⟨(true), (wrap64 (x16_1 + 1)), (by first | rfl | (simp; done) | (simp [*]; done)), (by first | rfl | (simp; done) | (simp [*]; done)), H', ⟨by have := HK1.out; omega⟩, ⟨by (with_reducible repeat (first | apply Kd.V_alloc | apply Kd.V_drewN | apply Kd.V_drew)); exact HO_8.out⟩, ⟨by (with_reducible repeat (first | apply Kd.V_alloc | apply Kd.V_drewN | apply Kd.V_drew)); exact HO_10.out⟩, ⟨by (with_reducible repeat (first | apply Kd.V_alloc | apply Kd.V_drewN | apply Kd.V_drew)); exact HO_12.out⟩, ⟨by repeat (first | (with_reducible first | exact HB.out | apply below_alloc | apply pw_below_drewN | apply below_drew1) | exact HB.out)⟩⟩ }
  {
  replace c22 := Bool.eq_false_iff.mpr c22
  subst c22
  have H1 : (if 0 ≤ x16_1 then ((hallmootlaw13_has.f k1 ((rd_T62 l0 x16_1).f0) a1).bind fun t518 => (hallmootlaw13_NestReads.l0 k1 l0 a1 t487 t495 t504 t510 t516 t518 (wrap64 (x16_1 + 1)))) else (none)) = some r := by rw [if_neg (show ¬ (false = true) by decide)] at H; exact H
  clear H
  have H := H1
  clear H1
  by_cases c23 : 0 ≤ x16_1
  {
  rw [if_pos c23] at H
  have c23b0 : decide (0 ≤ x16_1) = true := decide_eq_true c23
  clear c23
  replace H := Option.bind_eq_some_iff.mp H
  obtain ⟨t518, A240, H⟩ := H
  replace H : (hallmootlaw13_NestReads.l0 k1 l0 a1 t487 t495 t504 t510 t516 t518 (wrap64 (x16_1 + 1))) = some r := H
  have A24 := Aside0.mk A240
  clear A240
  have H' := Aside0.mk H
  clear H
  have p517 : 0 ≤ (x16_1 : Int) := of_decide_eq_true (by first | (with_reducible assumption) | assumption)
  have q517 : x16_1 < (l0.length : Int) := of_decide_eq_true (by first | (with_reducible assumption) | assumption)
  obtain ⟨ad517, A517_0, c517_0, A517_1, c517_1, A517_2, c517_2, e517, hx517_0, hx517_1, hx517_2, hl517_0, hi517_0, hl517_1, hi517_1, hl517_2, hi517_2⟩ := at_T62 HR0.out x16_1 p517 q517
  cases e517
  replace hx517_0 := (HB.out.cell (World.block_lt_of_cell? w _ hx517_0)).trans hx517_0
  replace hx517_1 := (HB.out.cell (World.block_lt_of_cell? w _ hx517_1)).trans hx517_1
  replace hx517_2 := (HB.out.cell (World.block_lt_of_cell? w _ hx517_2)).trans hx517_2
  have HR517_0 := Aside0.mk hi517_0
  have HC517_0 := Aside0.mk hl517_0
  clear hi517_0 hl517_0
  have HR517_1 := Aside0.mk hi517_1
  have HC517_1 := Aside0.mk hl517_1
  clear hi517_1 hl517_1
  have HR517_2 := Aside0.mk hi517_2
  have HC517_2 := Aside0.mk hl517_2
  clear hi517_2 hl517_2
  replace p517 := eq_true p517
  replace q517 := eq_true q517
  go_wp2_with (first | (go_at_call 33; (with_reducible refine (hallmootlaw13_has.calls k1 _ _ ((rd_T62 l0 x16_1).f0) a1 t518 _ ?side1 ?side2 A24.out).mono ?_); (case side1 => repeat (first | exact (Kd.C_below HR517_0.out HB.out) | (with_reducible refine Kd.C_alloc ?_ _) | (with_reducible refine Kd.C_drewN ?_ _) | (with_reducible refine Kd.C_drew ?_))); (case side2 => exact HC517_0.out); rintro e w' ⟨rfl, ⟨nd, rfl⟩⟩))
  go_roundg k1
  case measure => have := HK1.out; omega
  case rel => exact ⟨(t518), (wrap64 (x16_1 + 1)), (by first | rfl | (simp; done) | (simp [*]; done)), (by first | rfl | (simp; done) | (simp [*]; done)), H', ⟨by have := HK1.out; omega⟩, ⟨by (with_reducible repeat (first | apply Kd.V_alloc | apply Kd.V_drewN | apply Kd.V_drew)); exact HO_8.out⟩, ⟨by (with_reducible repeat (first | apply Kd.V_alloc | apply Kd.V_drewN | apply Kd.V_drew)); exact HO_10.out⟩, ⟨by (with_reducible repeat (first | apply Kd.V_alloc | apply Kd.V_drewN | apply Kd.V_drew)); exact HO_12.out⟩, ⟨by repeat (first | (with_reducible first | exact HB.out | apply below_alloc | apply pw_below_drewN | apply below_drew1) | exact HB.out)⟩⟩ }
  {
  rw [if_neg c23] at H
  exact absurd H (by simp) } } }
  {
  rw [if_neg c21] at H
  have c21b0 : decide (x16_1 < (l0.length : Int)) = false := decide_eq_false c21
  clear c21
  by_cases c25 : t487 = true
  {
  subst c25
  have H1 : (if (t516 == x15_1) = true then ((hallmootlaw13_has.f k1 t504 a1).bind fun t519 => (if (t519 == x15_1) = true then ((hallmootlaw13_has.f k1 t510 a1).bind fun t520 => (if (t520 == x15_1) = true then (if (t495.length : Int) = (t504.length : Int) then (some ((t495.length : Int) == (t510.length : Int))) else (none)) else (none))) else (none))) else (none)) = some r := by rw [if_pos rfl] at H; exact H
  clear H
  have H := H1
  clear H1
  by_cases c26 : (t516 == x15_1) = true
  {
  rw [if_pos c26] at H
  have c26b0 : (t516 == x15_1) = true := c26
  (try (have c26b1 : decide (t516 = x15_1) = true := by simpa using c26))
  (try (have c26b2 : (t516 == x15_1) = true := by simpa using c26))
  clear c26
  replace H := Option.bind_eq_some_iff.mp H
  obtain ⟨t519, A270, H⟩ := H
  replace H : (if (t519 == x15_1) = true then ((hallmootlaw13_has.f k1 t510 a1).bind fun t520 => (if (t520 == x15_1) = true then (if (t495.length : Int) = (t504.length : Int) then (some ((t495.length : Int) == (t510.length : Int))) else (none)) else (none))) else (none)) = some r := H
  have A27 := Aside0.mk A270
  clear A270
  by_cases c28 : (t519 == x15_1) = true
  {
  rw [if_pos c28] at H
  have c28b0 : (t519 == x15_1) = true := c28
  (try (have c28b1 : decide (t519 = x15_1) = true := by simpa using c28))
  (try (have c28b2 : (t519 == x15_1) = true := by simpa using c28))
  clear c28
  replace H := Option.bind_eq_some_iff.mp H
  obtain ⟨t520, A290, H⟩ := H
  replace H : (if (t520 == x15_1) = true then (if (t495.length : Int) = (t504.length : Int) then (some ((t495.length : Int) == (t510.length : Int))) else (none)) else (none)) = some r := H
  have A29 := Aside0.mk A290
  clear A290
  by_cases c30 : (t520 == x15_1) = true
  {
  rw [if_pos c30] at H
  have c30b0 : (t520 == x15_1) = true := c30
  (try (have c30b1 : decide (t520 = x15_1) = true := by simpa using c30))
  (try (have c30b2 : (t520 == x15_1) = true := by simpa using c30))
  clear c30
  by_cases c31 : (t495.length : Int) = (t504.length : Int)
  {
  rw [if_pos c31] at H
  have c31b0 : ((t495.length : Int) == (t504.length : Int)) = true := beq_iff_eq.mpr c31
  have c31b1 : ((t495.length : Int) != (t504.length : Int)) = false := bne_eq_false_iff_eq.mpr c31
  have c31b2 : (t495.length == t504.length) = true := by first | simpa using c31 | (simp at c31 ⊢; omega)
  clear c31
  obtain rfl := Option.some.inj H
  obtain ⟨Ao32, co32, eo32⟩ := Kd.V_slice HO_10.out
  subst eo32
  go_wp2_with (first | (go_at_call 33; (with_reducible refine (hallmootlaw13_has.calls k1 _ _ t504 a1 t519 _ ?side1 ?side2 A27.out).mono ?_); (case side1 => repeat (first | exact (Kd.V_reads' HO_10.out).2.2 | (with_reducible refine Kd.C_alloc ?_ _) | (with_reducible refine Kd.C_drewN ?_ _) | (with_reducible refine Kd.C_drew ?_))); (case side2 => exact (Kd.V_reads' HO_10.out).2.1); rintro e w' ⟨rfl, ⟨nd, rfl⟩⟩; obtain ⟨Ao33, co33, eo33⟩ := Kd.V_slice HO_12.out; subst eo33) | (go_at_call 33; (with_reducible refine (hallmootlaw13_has.calls k1 _ _ t510 a1 t520 _ ?side1 ?side2 A29.out).mono ?_); (case side1 => repeat (first | exact (Kd.V_reads' HO_12.out).2.2 | (with_reducible refine Kd.C_alloc ?_ _) | (with_reducible refine Kd.C_drewN ?_ _) | (with_reducible refine Kd.C_drew ?_))); (case side2 => exact (Kd.V_reads' HO_12.out).2.1); rintro e w' ⟨rfl, ⟨nd, rfl⟩⟩))
  go_ret
  exact ⟨by first | rfl | (simp [errW_none, errW_some] <;> rfl) | (simp [*, errW_none, errW_some] <;> rfl), by repeat (first | (with_reducible first | exact HB.out | apply below_alloc | apply pw_below_drewN | apply below_drew1) | exact HB.out)⟩ }
  {
  rw [if_neg c31] at H
  exact absurd H (by simp) } }
  {
  rw [if_neg c30] at H
  exact absurd H (by simp) } }
  {
  rw [if_neg c28] at H
  exact absurd H (by simp) } }
  {
  rw [if_neg c26] at H
  exact absurd H (by simp) } }
  {
  replace c25 := Bool.eq_false_iff.mpr c25
  subst c25
  have H1 : (none) = some r := by rw [if_neg (show ¬ (false = true) by decide)] at H; exact H
  clear H
  have H := H1
  clear H1
  exact absurd H (by simp) } } } }
 {
 replace c5 := Bool.eq_false_iff.mpr c5
 subst c5
 have H1 : (some t487) = some r := by rw [if_neg (show ¬ (false = true) by decide)] at H; exact H
 clear H
 have H := H1
 clear H1
 obtain rfl := Option.some.inj H
 go_enter Try.func9, Try.ntmps9
 go_wp2_with (first | ((with_reducible refine gate_callee (f := 10) rfl ?_); refine goesL_ (some 17) rfl rfl Try.func10 (by kernel_rfl) rfl #[] rfl (by (try simp only [List.map_toArray, List.map_cons, List.map_nil]); first | done | rfl | (simp only [List.length_drop, List.length_take]; rfl)) ?_; (with_reducible refine (hallmootlaw13_sanity.calls  t487 _ A3.out).mono ?_); rintro e w34 ⟨rfl, hb⟩; refine ⟨_, rfl, ?_⟩; have n0_ := Aside0.mk (below_step (by repeat (first | (with_reducible first | exact HB.out | apply below_alloc | apply pw_below_drewN | apply below_drew1) | exact HB.out)) hb); clear HB; have HB := n0_; clear n0_; (try clear hb); (try clear hb2); (try clear hk); (try clear hi)) | ((with_reducible refine gate_callee (f := 11) rfl ?_); refine goesL_ (some 19) rfl rfl Try.func11 (by kernel_rfl) rfl #[.slice A0 l0.length c0] rfl (by (try simp only [List.map_toArray, List.map_cons, List.map_nil]); first | done | rfl | (simp only [List.length_drop, List.length_take]; rfl)) ?_; (with_reducible refine (hallmootlaw13_few.calls k _ _ l0 false _ ?side1 ?side2 A4.out).mono ?_); (case side1 => repeat (first | exact (Kd.C_below HR0.out HB.out) | (with_reducible refine Kd.C_alloc ?_ _) | (with_reducible refine Kd.C_drewN ?_ _) | (with_reducible refine Kd.C_drew ?_))); (case side2 => exact HC0.out); rintro e w' ⟨rfl, ⟨nd, rfl⟩⟩; refine ⟨_, rfl, ?_⟩))
 go_ret
 exact ⟨by first | rfl | (simp [errW_none, errW_some] <;> rfl) | (simp [*, errW_none, errW_some] <;> rfl), by repeat (first | (with_reducible first | exact HB.out | apply below_alloc | apply pw_below_drewN | apply below_drew1) | exact HB.out)⟩ }

end Go.Proofs.Ytfojpobblebigaa.P
