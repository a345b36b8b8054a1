/- Merged: Written by pp.py (this session's program over the kit's printer): functions, contracts. Not trusted: Lean checks it. | The plain statement of NestMerges: End, Drop and All agree with the reference. -/
import Derived.Test.YtfojpobblebigaaYM0
import Derived.Test.YtfojpobblebigaaPx10
import Derived.Test.YtfojpobblebigaaPx13
import Derived.Test.YtfojpobblebigaaPx23
import Derived.Test.YtfojpobblebigaaYM2
import Derived.Test.YtfojpobblebigaaYM1
import Derived.Test.YtfojpobblebigaaYM4
namespace Go.Proofs.Ytfojpobblebigaa.P
open Go.RowKit Go.Proofs.YtfojpobblebigaaW.PrintWords Go.Proofs.YtfojpobblebigaaW.PrintLast Go.Proofs.YtfojpobblebigaaW.PrintMore
attribute [local go_sem] max2_int min2_int max_two min_two max_three min_three max_four min_four   -- for this text's walks alone
set_option linter.unusedVariables false
set_option linter.unusedSimpArgs false

/-! ### hallmootlaw13_NestMerges: function 7 -/
def hallmootlaw13_NestMerges.f (k : Nat) (l0 : List (S62)) : Option (Bool) := (hallmootlaw13_sanity.f).bind fun t439 => ((hallmootlaw13_few.f k l0).bind fun t440 => (if t440 = true then ((nDrop.f l0).bind fun bt441 => ((rDrop.f l0).bind fun bt447 => ((nAll.f l0).bind fun bt453 => ((hallmootref13_All.f k l0).bind fun bt459 => (if t439 = true then ((nEnd.f l0).bind fun t465 => ((rEnd.f l0).bind fun t468 => ((hallmootref13_Same.f k t465 t468).bind fun t471 => (if t471 = true then ((hallmootref13_Same.f k bt441.1 bt447.1).bind fun t472 => (if t472 = true then ((hallmootref13_Undos.f k bt441.2 bt447.2).bind fun t473 => (if t473 = true then ((hallmootref13_Seens.f k bt453.1 bt459.1).bind fun t474 => (if t474 = true then ((hallmootref13_Writes.f k bt453.2 bt459.2).bind fun t475 => (some t475)) else (none))) else (none))) else (none))) else (none))))) else (none)))))) else (some t439)))
theorem hallmootlaw13_NestMerges.mono : ∀ a0 k, LeO (hallmootlaw13_NestMerges.f k a0) (hallmootlaw13_NestMerges.f (k + 1) a0) := by
 intro a0 k
 unfold hallmootlaw13_NestMerges.f
 repeat' first | (with_reducible exact hallmootlaw13_few.mono _ _) | (with_reducible exact hallmootref13_All.mono _ _) | (with_reducible exact hallmootref13_Same.mono _ _ _) | (with_reducible exact hallmootref13_Seens.mono _ _ _) | (with_reducible exact hallmootref13_Undos.mono _ _ _) | (with_reducible exact hallmootref13_Writes.mono _ _ _) | (with_reducible exact LeO.refl _) | (with_reducible exact LeO.none _) | (with_reducible refine LeO.ite ?_ ?_) | (with_reducible refine LeO.bind ?_ (fun _ => ?_)) | exact hallmootlaw13_few.mono _ _ | exact hallmootref13_All.mono _ _ | exact hallmootref13_Same.mono _ _ _ | exact hallmootref13_Seens.mono _ _ _ | exact hallmootref13_Undos.mono _ _ _ | exact hallmootref13_Writes.mono _ _ _ | exact LeO.none _ | refine LeO.ite ?_ ?_ | refine LeO.bind ?_ (fun _ => ?_)
set_option maxHeartbeats 8000000 in
set_option maxRecDepth 100000 in
theorem hallmootlaw13_NestMerges.calls (k : Nat) (A0 : Option Addr) (c0 : Nat) (l0 : List (S62)) (r : Bool) (w : World) (hr0 : Kd.C k62 w A0 l0.length l0) (hc0 : l0.length ≤ c0) (h : hallmootlaw13_NestMerges.f k l0 = some r) : Calls Try.prog 7 #[.slice A0 l0.length c0] w fun e w' => e = .returned (.bool r) ∧ Below w.heap.size w w' := by
 have HR0 := aS hr0
 have HC0 := aS hc0
 clear hr0 hc0
 have HB := aS (Below.refl w.heap.size w)
 have H : ((hallmootlaw13_sanity.f).bind fun t439 => ((hallmootlaw13_few.f k l0).bind fun t440 => (if t440 = true then ((nDrop.f l0).bind fun bt441 => ((rDrop.f l0).bind fun bt447 => ((nAll.f l0).bind fun bt453 => ((hallmootref13_All.f k l0).bind fun bt459 => (if t439 = true then ((nEnd.f l0).bind fun t465 => ((rEnd.f l0).bind fun t468 => ((hallmootref13_Same.f k t465 t468).bind fun t471 => (if t471 = true then ((hallmootref13_Same.f k bt441.1 bt447.1).bind fun t472 => (if t472 = true then ((hallmootref13_Undos.f k bt441.2 bt447.2).bind fun t473 => (if t473 = true then ((hallmootref13_Seens.f k bt453.1 bt459.1).bind fun t474 => (if t474 = true then ((hallmootref13_Writes.f k bt453.2 bt459.2).bind fun t475 => (some t475)) else (none))) else (none))) else (none))) else (none))))) else (none)))))) else (some t439)))) = some r := h
 clear h
 replace H := Option.bind_eq_some_iff.mp H
 obtain ⟨t439, A20, H⟩ := H
 replace H : ((hallmootlaw13_few.f k l0).bind fun t440 => (if t440 = true then ((nDrop.f l0).bind fun bt441 => ((rDrop.f l0).bind fun bt447 => ((nAll.f l0).bind fun bt453 => ((hallmootref13_All.f k l0).bind fun bt459 => (if t439 = true then ((nEnd.f l0).bind fun t465 => ((rEnd.f l0).bind fun t468 => ((hallmootref13_Same.f k t465 t468).bind fun t471 => (if t471 = true then ((hallmootref13_Same.f k bt441.1 bt447.1).bind fun t472 => (if t472 = true then ((hallmootref13_Undos.f k bt441.2 bt447.2).bind fun t473 => (if t473 = true then ((hallmootref13_Seens.f k bt453.1 bt459.1).bind fun t474 => (if t474 = true then ((hallmootref13_Writes.f k bt453.2 bt459.2).bind fun t475 => (some t475)) else (none))) else (none))) else (none))) else (none))))) else (none)))))) else (some t439))) = some r := H
 have A2 := aS A20
 clear A20
 replace H := Option.bind_eq_some_iff.mp H
 obtain ⟨t440, A30, H⟩ := H
 replace H : (if t440 = true then ((nDrop.f l0).bind fun bt441 => ((rDrop.f l0).bind fun bt447 => ((nAll.f l0).bind fun bt453 => ((hallmootref13_All.f k l0).bind fun bt459 => (if t439 = true then ((nEnd.f l0).bind fun t465 => ((rEnd.f l0).bind fun t468 => ((hallmootref13_Same.f k t465 t468).bind fun t471 => (if t471 = true then ((hallmootref13_Same.f k bt441.1 bt447.1).bind fun t472 => (if t472 = true then ((hallmootref13_Undos.f k bt441.2 bt447.2).bind fun t473 => (if t473 = true then ((hallmootref13_Seens.f k bt453.1 bt459.1).bind fun t474 => (if t474 = true then ((hallmootref13_Writes.f k bt453.2 bt459.2).bind fun t475 => (some t475)) else (none))) else (none))) else (none))) else (none))))) else (none)))))) else (some t439)) = some r := H
 have A3 := aS A30
 clear A30
 by_cases c4 : t440 = true
 {
 subst c4
 have H1 : ((nDrop.f l0).bind fun bt441 => ((rDrop.f l0).bind fun bt447 => ((nAll.f l0).bind fun bt453 => ((hallmootref13_All.f k l0).bind fun bt459 => (if t439 = true then ((nEnd.f l0).bind fun t465 => ((rEnd.f l0).bind fun t468 => ((hallmootref13_Same.f k t465 t468).bind fun t471 => (if t471 = true then ((hallmootref13_Same.f k bt441.1 bt447.1).bind fun t472 => (if t472 = true then ((hallmootref13_Undos.f k bt441.2 bt447.2).bind fun t473 => (if t473 = true then ((hallmootref13_Seens.f k bt453.1 bt459.1).bind fun t474 => (if t474 = true then ((hallmootref13_Writes.f k bt453.2 bt459.2).bind fun t475 => (some t475)) else (none))) else (none))) else (none))) else (none))))) else (none)))))) = some r := by rw [if_pos rfl] at H; exact H
 clear H
 have H := H1
 clear H1
 replace H := Option.bind_eq_some_iff.mp H
 obtain ⟨⟨t441, t444⟩, A50, H⟩ := H
 replace H : ((rDrop.f l0).bind fun bt447 => ((nAll.f l0).bind fun bt453 => ((hallmootref13_All.f k l0).bind fun bt459 => (if t439 = true then ((nEnd.f l0).bind fun t465 => ((rEnd.f l0).bind fun t468 => ((hallmootref13_Same.f k t465 t468).bind fun t471 => (if t471 = true then ((hallmootref13_Same.f k t441 bt447.1).bind fun t472 => (if t472 = true then ((hallmootref13_Undos.f k t444 bt447.2).bind fun t473 => (if t473 = true then ((hallmootref13_Seens.f k bt453.1 bt459.1).bind fun t474 => (if t474 = true then ((hallmootref13_Writes.f k bt453.2 bt459.2).bind fun t475 => (some t475)) else (none))) else (none))) else (none))) else (none))))) else (none))))) = some r := H
 have A5 := aS A50
 clear A50
 replace H := Option.bind_eq_some_iff.mp H
 obtain ⟨⟨t447, t450⟩, A60, H⟩ := H
 replace H : ((nAll.f l0).bind fun bt453 => ((hallmootref13_All.f k l0).bind fun bt459 => (if t439 = true then ((nEnd.f l0).bind fun t465 => ((rEnd.f l0).bind fun t468 => ((hallmootref13_Same.f k t465 t468).bind fun t471 => (if t471 = true then ((hallmootref13_Same.f k t441 t447).bind fun t472 => (if t472 = true then ((hallmootref13_Undos.f k t444 t450).bind fun t473 => (if t473 = true then ((hallmootref13_Seens.f k bt453.1 bt459.1).bind fun t474 => (if t474 = true then ((hallmootref13_Writes.f k bt453.2 bt459.2).bind fun t475 => (some t475)) else (none))) else (none))) else (none))) else (none))))) else (none)))) = some r := H
 have A6 := aS A60
 clear A60
 replace H := Option.bind_eq_some_iff.mp H
 obtain ⟨⟨t453, t456⟩, A70, H⟩ := H
 replace H : ((hallmootref13_All.f k l0).bind fun bt459 => (if t439 = true then ((nEnd.f l0).bind fun t465 => ((rEnd.f l0).bind fun t468 => ((hallmootref13_Same.f k t465 t468).bind fun t471 => (if t471 = true then ((hallmootref13_Same.f k t441 t447).bind fun t472 => (if t472 = true then ((hallmootref13_Undos.f k t444 t450).bind fun t473 => (if t473 = true then ((hallmootref13_Seens.f k t453 bt459.1).bind fun t474 => (if t474 = true then ((hallmootref13_Writes.f k t456 bt459.2).bind fun t475 => (some t475)) else (none))) else (none))) else (none))) else (none))))) else (none))) = some r := H
 have A7 := aS A70
 clear A70
 replace H := Option.bind_eq_some_iff.mp H
 obtain ⟨⟨t459, t462⟩, A80, H⟩ := H
 replace H : (if t439 = true then ((nEnd.f l0).bind fun t465 => ((rEnd.f l0).bind fun t468 => ((hallmootref13_Same.f k t465 t468).bind fun t471 => (if t471 = true then ((hallmootref13_Same.f k t441 t447).bind fun t472 => (if t472 = true then ((hallmootref13_Undos.f k t444 t450).bind fun t473 => (if t473 = true then ((hallmootref13_Seens.f k t453 t459).bind fun t474 => (if t474 = true then ((hallmootref13_Writes.f k t456 t462).bind fun t475 => (some t475)) else (none))) else (none))) else (none))) else (none))))) else (none)) = some r := H
 have A8 := aS A80
 clear A80
 by_cases c9 : t439 = true
 {
 subst c9
 have H1 : ((nEnd.f l0).bind fun t465 => ((rEnd.f l0).bind fun t468 => ((hallmootref13_Same.f k t465 t468).bind fun t471 => (if t471 = true then ((hallmootref13_Same.f k t441 t447).bind fun t472 => (if t472 = true then ((hallmootref13_Undos.f k t444 t450).bind fun t473 => (if t473 = true then ((hallmootref13_Seens.f k t453 t459).bind fun t474 => (if t474 = true then ((hallmootref13_Writes.f k t456 t462).bind fun t475 => (some t475)) else (none))) else (none))) else (none))) else (none))))) = some r := by rw [if_pos rfl] at H; exact H
 clear H
 have H := H1
 clear H1
 replace H := Option.bind_eq_some_iff.mp H
 obtain ⟨t465, A100, H⟩ := H
 replace H : ((rEnd.f l0).bind fun t468 => ((hallmootref13_Same.f k t465 t468).bind fun t471 => (if t471 = true then ((hallmootref13_Same.f k t441 t447).bind fun t472 => (if t472 = true then ((hallmootref13_Undos.f k t444 t450).bind fun t473 => (if t473 = true then ((hallmootref13_Seens.f k t453 t459).bind fun t474 => (if t474 = true then ((hallmootref13_Writes.f k t456 t462).bind fun t475 => (some t475)) else (none))) else (none))) else (none))) else (none)))) = some r := H
 have A10 := aS A100
 clear A100
 replace H := Option.bind_eq_some_iff.mp H
 obtain ⟨t468, A110, H⟩ := H
 replace H : ((hallmootref13_Same.f k t465 t468).bind fun t471 => (if t471 = true then ((hallmootref13_Same.f k t441 t447).bind fun t472 => (if t472 = true then ((hallmootref13_Undos.f k t444 t450).bind fun t473 => (if t473 = true then ((hallmootref13_Seens.f k t453 t459).bind fun t474 => (if t474 = true then ((hallmootref13_Writes.f k t456 t462).bind fun t475 => (some t475)) else (none))) else (none))) else (none))) else (none))) = some r := H
 have A11 := aS A110
 clear A110
 replace H := Option.bind_eq_some_iff.mp H
 obtain ⟨t471, A120, H⟩ := H
 replace H : (if t471 = true then ((hallmootref13_Same.f k t441 t447).bind fun t472 => (if t472 = true then ((hallmootref13_Undos.f k t444 t450).bind fun t473 => (if t473 = true then ((hallmootref13_Seens.f k t453 t459).bind fun t474 => (if t474 = true then ((hallmootref13_Writes.f k t456 t462).bind fun t475 => (some t475)) else (none))) else (none))) else (none))) else (none)) = some r := H
 have A12 := aS A120
 clear A120
 by_cases c13 : t471 = true
 {
 subst c13
 have H1 : ((hallmootref13_Same.f k t441 t447).bind fun t472 => (if t472 = true then ((hallmootref13_Undos.f k t444 t450).bind fun t473 => (if t473 = true then ((hallmootref13_Seens.f k t453 t459).bind fun t474 => (if t474 = true then ((hallmootref13_Writes.f k t456 t462).bind fun t475 => (some t475)) else (none))) else (none))) else (none))) = some r := by rw [if_pos rfl] at H; exact H
 clear H
 have H := H1
 clear H1
 replace H := Option.bind_eq_some_iff.mp H
 obtain ⟨t472, A140, H⟩ := H
 replace H : (if t472 = true then ((hallmootref13_Undos.f k t444 t450).bind fun t473 => (if t473 = true then ((hallmootref13_Seens.f k t453 t459).bind fun t474 => (if t474 = true then ((hallmootref13_Writes.f k t456 t462).bind fun t475 => (some t475)) else (none))) else (none))) else (none)) = some r := H
 have A14 := aS A140
 clear A140
 by_cases c15 : t472 = true
 {
 subst c15
 have H1 : ((hallmootref13_Undos.f k t444 t450).bind fun t473 => (if t473 = true then ((hallmootref13_Seens.f k t453 t459).bind fun t474 => (if t474 = true then ((hallmootref13_Writes.f k t456 t462).bind fun t475 => (some t475)) else (none))) else (none))) = some r := by rw [if_pos rfl] at H; exact H
 clear H
 have H := H1
 clear H1
 replace H := Option.bind_eq_some_iff.mp H
 obtain ⟨t473, A160, H⟩ := H
 replace H : (if t473 = true then ((hallmootref13_Seens.f k t453 t459).bind fun t474 => (if t474 = true then ((hallmootref13_Writes.f k t456 t462).bind fun t475 => (some t475)) else (none))) else (none)) = some r := H
 have A16 := aS A160
 clear A160
 by_cases c17 : t473 = true
 {
 subst c17
 have H1 : ((hallmootref13_Seens.f k t453 t459).bind fun t474 => (if t474 = true then ((hallmootref13_Writes.f k t456 t462).bind fun t475 => (some t475)) else (none))) = some r := by rw [if_pos rfl] at H; exact H
 clear H
 have H := H1
 clear H1
 replace H := Option.bind_eq_some_iff.mp H
 obtain ⟨t474, A180, H⟩ := H
 replace H : (if t474 = true then ((hallmootref13_Writes.f k t456 t462).bind fun t475 => (some t475)) else (none)) = some r := H
 have A18 := aS A180
 clear A180
 by_cases c19 : t474 = true
 {
 subst c19
 have H1 : ((hallmootref13_Writes.f k t456 t462).bind fun t475 => (some t475)) = some r := by rw [if_pos rfl] at H; exact H
 clear H
 have H := H1
 clear H1
 replace H := Option.bind_eq_some_iff.mp H
 obtain ⟨t475, A200, H⟩ := H
 replace H : (some t475) = some r := H
 have A20 := aS A200
 clear A200
 obtain rfl := Option.some.inj H
 go_enter Try.func7, Try.ntmps7
 go_wp2_with (first | ((with_reducible refine gate_callee (f := 10) rfl ?_); refine goesL_ (some 12) rfl rfl Try.func10 (by kernel_rfl) rfl #[] rfl (by (try simp only [List.map_toArray, List.map_cons, List.map_nil]); first | done | rfl | (simp only [List.length_drop, List.length_take]; rfl)) ?_; (with_reducible refine (hallmootlaw13_sanity.calls  true _ A2.out).mono ?_); rintro e w21 ⟨rfl, hb⟩; refine ⟨_, rfl, ?_⟩; have n0_ := aS (below_step bb hb); clear HB; have HB := n0_; clear n0_; (try clear hb); (try clear hb2); (try clear hk); (try clear hi)) | ((with_reducible refine gate_callee (f := 11) rfl ?_); refine goesL_ (some 14) rfl rfl Try.func11 (by kernel_rfl) rfl #[.slice A0 l0.length c0] rfl (by (try simp only [List.map_toArray, List.map_cons, List.map_nil]); first | done | rfl | (simp only [List.length_drop, List.length_take]; rfl)) ?_; (with_reducible refine (hallmootlaw13_few.calls k _ _ l0 true _ ?side1 ?side2 A3.out).mono ?_); (case side1 => repeat (first | exact (Kd.C_below HR0.out HB.out) | (with_reducible refine Kd.C_alloc ?_ _) | (with_reducible refine Kd.C_drewN ?_ _) | (with_reducible refine Kd.C_drew ?_))); (case side2 => exact HC0.out); rintro e w' ⟨rfl, ⟨nd, rfl⟩⟩; refine ⟨_, rfl, ?_⟩) | ((with_reducible refine gate_callee (f := 16) rfl ?_); refine goesL_ (some 19) rfl rfl Try.func16 (by kernel_rfl) rfl #[.slice A0 l0.length c0] rfl (by (try simp only [List.map_toArray, List.map_cons, List.map_nil]); first | done | rfl | (simp only [List.length_drop, List.length_take]; rfl)) ?_; (with_reducible refine (nDrop.calls (fun k_ => k_ < w.heap.size) _ _ l0 t441 t444 _ ?side1 A5.out).mono ?_); (case side1 => exact Kd.V_mk HC0.out (Kd.F_below (Kd.C_F k62_heap HR0.out) bb)); rintro e w22 ⟨v442, v445, rfl, ho0, ho1, hb⟩; refine ⟨_, rfl, ?_⟩; have n0_ := aS (Kd.V_lower (Kd.V_mono (ok' := fun k_ => True) ho0 (fun k_ hk_ => trivial)) bz); have n1_ := aS (Kd.V_lower (Kd.V_mono (ok' := fun k_ => True) ho1 (fun k_ hk_ => trivial)) bz); have n2_ := aS (below_step bb hb); clear HB; have HO443 := n0_; have HO446 := n1_; have HB := n2_; clear n0_ n1_ n2_; (try clear hb); (try clear hb2); (try clear hk); (try clear hi); (try clear ho0); (try clear ho1)) | ((with_reducible refine gate_callee (f := 26) rfl ?_); refine goesL_ (some 24) rfl rfl Try.func26 (by kernel_rfl) rfl #[.slice A0 l0.length c0] rfl (by (try simp only [List.map_toArray, List.map_cons, List.map_nil]); first | done | rfl | (simp only [List.length_drop, List.length_take]; rfl)) ?_; (with_reducible refine (rDrop.calls (fun k_ => k_ < w.heap.size) _ _ l0 t447 t450 _ ?side1 A6.out).mono ?_); (case side1 => exact Kd.V_mk HC0.out (Kd.F_below (Kd.C_F k62_heap HR0.out) bb)); rintro e w23 ⟨v448, v451, rfl, ho0, ho1, hb⟩; refine ⟨_, rfl, ?_⟩; have n0_ := aS (Kd.V_below (vv HO443.out) hb); have n1_ := aS (Kd.V_below (vv HO446.out) hb); have n2_ := aS (Kd.V_lower (Kd.V_mono (ok' := fun k_ => True) ho0 (fun k_ hk_ => trivial)) bz); have n3_ := aS (Kd.V_lower (Kd.V_mono (ok' := fun k_ => True) ho1 (fun k_ hk_ => trivial)) bz); have n4_ := aS (below_step bb hb); clear HO443; clear HO446; clear HB; have HO443 := n0_; have HO446 := n1_; have HO449 := n2_; have HO452 := n3_; have HB := n4_; clear n0_ n1_ n2_ n3_ n4_; (try clear hb); (try clear hb2); (try clear hk); (try clear hi); (try clear ho0); (try clear ho1)) | ((with_reducible refine gate_callee (f := 27) rfl ?_); refine goesL_ (some 29) rfl rfl Try.func27 (by kernel_rfl) rfl #[.slice A0 l0.length c0] rfl (by (try simp only [List.map_toArray, List.map_cons, List.map_nil]); first | done | rfl | (simp only [List.length_drop, List.length_take]; rfl)) ?_; (with_reducible refine (nAll.calls (fun k_ => k_ < w.heap.size) _ _ l0 t453 t456 _ ?side1 A7.out).mono ?_); (case side1 => exact Kd.V_mk HC0.out (Kd.F_below (Kd.C_F k62_heap HR0.out) bb)); rintro e w24 ⟨v454, v457, rfl, ho0, ho1, hb⟩; refine ⟨_, rfl, ?_⟩; have n0_ := aS (Kd.V_below (vv HO443.out) hb); have n1_ := aS (Kd.V_below (vv HO446.out) hb); have n2_ := aS (Kd.V_below (vv HO449.out) hb); have n3_ := aS (Kd.V_below (vv HO452.out) hb); have n4_ := aS (Kd.V_lower (Kd.V_mono (ok' := fun k_ => True) ho0 (fun k_ hk_ => trivial)) bz); have n5_ := aS (Kd.V_lower (Kd.V_mono (ok' := fun k_ => True) ho1 (fun k_ hk_ => trivial)) bz); have n6_ := aS (below_step bb hb); clear HO443; clear HO446; clear HO449; clear HO452; clear HB; have HO443 := n0_; have HO446 := n1_; have HO449 := n2_; have HO452 := n3_; have HO455 := n4_; have HO458 := n5_; have HB := n6_; clear n0_ n1_ n2_ n3_ n4_ n5_ n6_; (try clear hb); (try clear hb2); (try clear hk); (try clear hi); (try clear ho0); (try clear ho1)) | ((with_reducible refine gate_callee (f := 28) rfl ?_); refine goesL_ (some 34) rfl rfl Try.func28 (by kernel_rfl) rfl #[.slice A0 l0.length c0] rfl (by (try simp only [List.map_toArray, List.map_cons, List.map_nil]); first | done | rfl | (simp only [List.length_drop, List.length_take]; rfl)) ?_; (with_reducible refine (hallmootref13_All.calls k _ _ l0 t459 t462 _ ?side1 ?side2 A8.out).mono ?_); (case side1 => repeat (first | exact (Kd.C_below HR0.out HB.out) | (with_reducible refine Kd.C_alloc ?_ _) | (with_reducible refine Kd.C_drewN ?_ _) | (with_reducible refine Kd.C_drew ?_))); (case side2 => exact HC0.out); rintro e w25 ⟨v460, v463, rfl, ho0, ho1, hb⟩; refine ⟨_, rfl, ?_⟩; have n0_ := aS (Kd.V_below (vv HO443.out) hb); have n1_ := aS (Kd.V_below (vv HO446.out) hb); have n2_ := aS (Kd.V_below (vv HO449.out) hb); have n3_ := aS (Kd.V_below (vv HO452.out) hb); have n4_ := aS (Kd.V_below (vv HO455.out) hb); have n5_ := aS (Kd.V_below (vv HO458.out) hb); have n6_ := aS (Kd.V_lower (Kd.V_mono (ok' := fun k_ => True) ho0 (fun k_ hk_ => trivial)) bz); have n7_ := aS (Kd.V_lower (Kd.V_mono (ok' := fun k_ => True) ho1 (fun k_ hk_ => trivial)) bz); have n8_ := aS (below_step bb hb); clear HO443; clear HO446; clear HO449; clear HO452; clear HO455; clear HO458; clear HB; have HO443 := n0_; have HO446 := n1_; have HO449 := n2_; have HO452 := n3_; have HO455 := n4_; have HO458 := n5_; have HO461 := n6_; have HO464 := n7_; have HB := n8_; clear n0_ n1_ n2_ n3_ n4_ n5_ n6_ n7_ n8_; (try clear hb); (try clear hb2); (try clear hk); (try clear hi); (try clear ho0); (try clear ho1)) | (go_at_call 15; (with_reducible refine (nEnd.calls (fun k_ => k_ < w.heap.size) _ _ l0 t465 _ ?side1 A10.out).mono ?_); (case side1 => exact Kd.V_mk HC0.out (Kd.F_below (Kd.C_F k62_heap HR0.out) bb)); rintro e w26 ⟨v466, rfl, ho0, hb⟩; have n0_ := aS (Kd.V_below (vv HO443.out) hb); have n1_ := aS (Kd.V_below (vv HO446.out) hb); have n2_ := aS (Kd.V_below (vv HO449.out) hb); have n3_ := aS (Kd.V_below (vv HO452.out) hb); have n4_ := aS (Kd.V_below (vv HO455.out) hb); have n5_ := aS (Kd.V_below (vv HO458.out) hb); have n6_ := aS (Kd.V_below (vv HO461.out) hb); have n7_ := aS (Kd.V_below (vv HO464.out) hb); have n8_ := aS (Kd.V_lower (Kd.V_mono (ok' := fun k_ => True) ho0 (fun k_ hk_ => trivial)) bz); have n9_ := aS (below_step bb hb); clear HO443; clear HO446; clear HO449; clear HO452; clear HO455; clear HO458; clear HO461; clear HO464; clear HB; have HO443 := n0_; have HO446 := n1_; have HO449 := n2_; have HO452 := n3_; have HO455 := n4_; have HO458 := n5_; have HO461 := n6_; have HO464 := n7_; have HO467 := n8_; have HB := n9_; clear n0_ n1_ n2_ n3_ n4_ n5_ n6_ n7_ n8_ n9_; (try clear hb); (try clear hb2); (try clear hk); (try clear hi); (try clear ho0)) | (go_at_call 29; (with_reducible refine (rEnd.calls (fun k_ => k_ < w.heap.size) _ _ l0 t468 _ ?side1 A11.out).mono ?_); (case side1 => exact Kd.V_mk HC0.out (Kd.F_below (Kd.C_F k62_heap HR0.out) bb)); rintro e w27 ⟨v469, rfl, ho0, hb⟩; have n0_ := aS (Kd.V_below (vv HO443.out) hb); have n1_ := aS (Kd.V_below (vv HO446.out) hb); have n2_ := aS (Kd.V_below (vv HO449.out) hb); have n3_ := aS (Kd.V_below (vv HO452.out) hb); have n4_ := aS (Kd.V_below (vv HO455.out) hb); have n5_ := aS (Kd.V_below (vv HO458.out) hb); have n6_ := aS (Kd.V_below (vv HO461.out) hb); have n7_ := aS (Kd.V_below (vv HO464.out) hb); have n8_ := aS (Kd.V_below (vv HO467.out) hb); have n9_ := aS (Kd.V_lower (Kd.V_mono (ok' := fun k_ => True) ho0 (fun k_ hk_ => trivial)) bz); have n10_ := aS (below_step bb hb); clear HO443; clear HO446; clear HO449; clear HO452; clear HO455; clear HO458; clear HO461; clear HO464; clear HO467; clear HB; have HO443 := n0_; have HO446 := n1_; have HO449 := n2_; have HO452 := n3_; have HO455 := n4_; have HO458 := n5_; have HO461 := n6_; have HO464 := n7_; have HO467 := n8_; have HO470 := n9_; have HB := n10_; clear n0_ n1_ n2_ n3_ n4_ n5_ n6_ n7_ n8_ n9_ n10_; (try clear hb); (try clear hb2); (try clear hk); (try clear hi); (try clear ho0); obtain ⟨Ao28, co28, eo28⟩ := Kd.V_slice HO467.out; subst eo28; obtain ⟨Ao29, co29, eo29⟩ := Kd.V_slice HO470.out; subst eo29) | (go_at_call 19; (with_reducible refine (hallmootref13_Same.calls k _ _ t465 _ _ t468 true _ ?side1 ?side2 ?side3 ?side4 A12.out).mono ?_); (case side1 => repeat (first | exact (Kd.V_reads' HO467.out).2.2 | (with_reducible refine Kd.C_alloc ?_ _) | (with_reducible refine Kd.C_drewN ?_ _) | (with_reducible refine Kd.C_drew ?_))); (case side2 => exact (Kd.V_reads' HO467.out).2.1); (case side3 => repeat (first | exact (Kd.V_reads' HO470.out).2.2 | (with_reducible refine Kd.C_alloc ?_ _) | (with_reducible refine Kd.C_drewN ?_ _) | (with_reducible refine Kd.C_drew ?_))); (case side4 => exact (Kd.V_reads' HO470.out).2.1); rintro e w30 ⟨rfl, hb⟩; have n0_ := aS (Kd.V_below (vv HO443.out) hb); have n1_ := aS (Kd.V_below (vv HO446.out) hb); have n2_ := aS (Kd.V_below (vv HO449.out) hb); have n3_ := aS (Kd.V_below (vv HO452.out) hb); have n4_ := aS (Kd.V_below (vv HO455.out) hb); have n5_ := aS (Kd.V_below (vv HO458.out) hb); have n6_ := aS (Kd.V_below (vv HO461.out) hb); have n7_ := aS (Kd.V_below (vv HO464.out) hb); have n8_ := aS (Kd.V_below (vv HO467.out) hb); have n9_ := aS (Kd.V_below (vv HO470.out) hb); have n10_ := aS (below_step bb hb); clear HO443; clear HO446; clear HO449; clear HO452; clear HO455; clear HO458; clear HO461; clear HO464; clear HO467; clear HO470; clear HB; have HO443 := n0_; have HO446 := n1_; have HO449 := n2_; have HO452 := n3_; have HO455 := n4_; have HO458 := n5_; have HO461 := n6_; have HO464 := n7_; have HO467 := n8_; have HO470 := n9_; have HB := n10_; clear n0_ n1_ n2_ n3_ n4_ n5_ n6_ n7_ n8_ n9_ n10_; (try clear hb); (try clear hb2); (try clear hk); (try clear hi); obtain ⟨Ao31, co31, eo31⟩ := Kd.V_slice HO443.out; subst eo31; obtain ⟨Ao32, co32, eo32⟩ := Kd.V_slice HO449.out; subst eo32) | (go_at_call 19; (with_reducible refine (hallmootref13_Same.calls k _ _ t441 _ _ t447 true _ ?side1 ?side2 ?side3 ?side4 A14.out).mono ?_); (case side1 => repeat (first | exact (Kd.V_reads' HO443.out).2.2 | (with_reducible refine Kd.C_alloc ?_ _) | (with_reducible refine Kd.C_drewN ?_ _) | (with_reducible refine Kd.C_drew ?_))); (case side2 => exact (Kd.V_reads' HO443.out).2.1); (case side3 => repeat (first | exact (Kd.V_reads' HO449.out).2.2 | (with_reducible refine Kd.C_alloc ?_ _) | (with_reducible refine Kd.C_drewN ?_ _) | (with_reducible refine Kd.C_drew ?_))); (case side4 => exact (Kd.V_reads' HO449.out).2.1); rintro e w33 ⟨rfl, hb⟩; have n0_ := aS (Kd.V_below (vv HO443.out) hb); have n1_ := aS (Kd.V_below (vv HO446.out) hb); have n2_ := aS (Kd.V_below (vv HO449.out) hb); have n3_ := aS (Kd.V_below (vv HO452.out) hb); have n4_ := aS (Kd.V_below (vv HO455.out) hb); have n5_ := aS (Kd.V_below (vv HO458.out) hb); have n6_ := aS (Kd.V_below (vv HO461.out) hb); have n7_ := aS (Kd.V_below (vv HO464.out) hb); have n8_ := aS (Kd.V_below (vv HO467.out) hb); have n9_ := aS (Kd.V_below (vv HO470.out) hb); have n10_ := aS (below_step bb hb); clear HO443; clear HO446; clear HO449; clear HO452; clear HO455; clear HO458; clear HO461; clear HO464; clear HO467; clear HO470; clear HB; have HO443 := n0_; have HO446 := n1_; have HO449 := n2_; have HO452 := n3_; have HO455 := n4_; have HO458 := n5_; have HO461 := n6_; have HO464 := n7_; have HO467 := n8_; have HO470 := n9_; have HB := n10_; clear n0_ n1_ n2_ n3_ n4_ n5_ n6_ n7_ n8_ n9_ n10_; (try clear hb); (try clear hb2); (try clear hk); (try clear hi); obtain ⟨Ao34, co34, eo34⟩ := Kd.V_slice HO446.out; subst eo34; obtain ⟨Ao35, co35, eo35⟩ := Kd.V_slice HO452.out; subst eo35) | (go_at_call 25; (with_reducible refine (hallmootref13_Undos.calls k _ _ t444 _ _ t450 true _ ?side1 ?side2 ?side3 ?side4 A16.out).mono ?_); (case side1 => repeat (first | exact (Kd.V_reads' HO446.out).2.2 | (with_reducible refine Kd.C_alloc ?_ _) | (with_reducible refine Kd.C_drewN ?_ _) | (with_reducible refine Kd.C_drew ?_))); (case side2 => exact (Kd.V_reads' HO446.out).2.1); (case side3 => repeat (first | exact (Kd.V_reads' HO452.out).2.2 | (with_reducible refine Kd.C_alloc ?_ _) | (with_reducible refine Kd.C_drewN ?_ _) | (with_reducible refine Kd.C_drew ?_))); (case side4 => exact (Kd.V_reads' HO452.out).2.1); rintro e w36 ⟨rfl, hb⟩; have n0_ := aS (Kd.V_below (vv HO443.out) hb); have n1_ := aS (Kd.V_below (vv HO446.out) hb); have n2_ := aS (Kd.V_below (vv HO449.out) hb); have n3_ := aS (Kd.V_below (vv HO452.out) hb); have n4_ := aS (Kd.V_below (vv HO455.out) hb); have n5_ := aS (Kd.V_below (vv HO458.out) hb); have n6_ := aS (Kd.V_below (vv HO461.out) hb); have n7_ := aS (Kd.V_below (vv HO464.out) hb); have n8_ := aS (Kd.V_below (vv HO467.out) hb); have n9_ := aS (Kd.V_below (vv HO470.out) hb); have n10_ := aS (below_step bb hb); clear HO443; clear HO446; clear HO449; clear HO452; clear HO455; clear HO458; clear HO461; clear HO464; clear HO467; clear HO470; clear HB; have HO443 := n0_; have HO446 := n1_; have HO449 := n2_; have HO452 := n3_; have HO455 := n4_; have HO458 := n5_; have HO461 := n6_; have HO464 := n7_; have HO467 := n8_; have HO470 := n9_; have HB := n10_; clear n0_ n1_ n2_ n3_ n4_ n5_ n6_ n7_ n8_ n9_ n10_; (try clear hb); (try clear hb2); (try clear hk); (try clear hi); obtain ⟨Ao37, co37, eo37⟩ := Kd.V_slice HO455.out; subst eo37; obtain ⟨Ao38, co38, eo38⟩ := Kd.V_slice HO461.out; subst eo38) | (go_at_call 30; (with_reducible refine (hallmootref13_Seens.calls k _ _ t453 _ _ t459 true _ ?side1 ?side2 ?side3 ?side4 A18.out).mono ?_); (case side1 => repeat (first | exact (Kd.V_reads' HO455.out).2.2 | (with_reducible refine Kd.C_alloc ?_ _) | (with_reducible refine Kd.C_drewN ?_ _) | (with_reducible refine Kd.C_drew ?_))); (case side2 => exact (Kd.V_reads' HO455.out).2.1); (case side3 => repeat (first | exact (Kd.V_reads' HO461.out).2.2 | (with_reducible refine Kd.C_alloc ?_ _) | (with_reducible refine Kd.C_drewN ?_ _) | (with_reducible refine Kd.C_drew ?_))); (case side4 => exact (Kd.V_reads' HO461.out).2.1); rintro e w' ⟨rfl, ⟨nd, rfl⟩⟩; obtain ⟨Ao39, co39, eo39⟩ := Kd.V_slice HO458.out; subst eo39; obtain ⟨Ao40, co40, eo40⟩ := Kd.V_slice HO464.out; subst eo40) | (go_at_call 31; (with_reducible refine (hallmootref13_Writes.calls k _ _ t456 _ _ t462 t475 _ ?side1 ?side2 ?side3 ?side4 A20.out).mono ?_); (case side1 => repeat (first | exact (Kd.V_reads' HO458.out).2.2 | (with_reducible refine Kd.C_alloc ?_ _) | (with_reducible refine Kd.C_drewN ?_ _) | (with_reducible refine Kd.C_drew ?_))); (case side2 => exact (Kd.V_reads' HO458.out).2.1); (case side3 => repeat (first | exact (Kd.V_reads' HO464.out).2.2 | (with_reducible refine Kd.C_alloc ?_ _) | (with_reducible refine Kd.C_drewN ?_ _) | (with_reducible refine Kd.C_drew ?_))); (case side4 => exact (Kd.V_reads' HO464.out).2.1); rintro e w' ⟨rfl, ⟨nd, rfl⟩⟩))
 go_ret
 exact ⟨by first | rfl | (simp [errW_none, errW_some] <;> rfl) | (simp [*, errW_none, errW_some] <;> rfl), by repeat (first | (with_reducible first | exact HB.out | apply below_alloc | apply pw_below_drewN | apply below_drew1) | exact HB.out)⟩ }
 {
 replace c19 := Bool.eq_false_iff.mpr c19
 subst c19
 have H1 : (none) = some r := by rw [if_neg (show ¬ (false = true) by decide)] at H; exact H
 clear H
 have H := H1
 clear H1
 exact absurd H (by simp) } }
 {
 replace c17 := Bool.eq_false_iff.mpr c17
 subst c17
 have H1 : (none) = some r := by rw [if_neg (show ¬ (false = true) by decide)] at H; exact H
 clear H
 have H := H1
 clear H1
 exact absurd H (by simp) } }
 {
 replace c15 := Bool.eq_false_iff.mpr c15
 subst c15
 have H1 : (none) = some r := by rw [if_neg (show ¬ (false = true) by decide)] at H; exact H
 clear H
 have H := H1
 clear H1
 exact absurd H (by simp) } }
 {
 replace c13 := Bool.eq_false_iff.mpr c13
 subst c13
 have H1 : (none) = some r := by rw [if_neg (show ¬ (false = true) by decide)] at H; exact H
 clear H
 have H := H1
 clear H1
 exact absurd H (by simp) } }
 {
 replace c9 := Bool.eq_false_iff.mpr c9
 subst c9
 have H1 : (none) = some r := by rw [if_neg (show ¬ (false = true) by decide)] at H; exact H
 clear H
 have H := H1
 clear H1
 exact absurd H (by simp) } }
 {
 replace c4 := Bool.eq_false_iff.mpr c4
 subst c4
 have H1 : (some t439) = some r := by rw [if_neg (show ¬ (false = true) by decide)] at H; exact H
 clear H
 have H := H1
 clear H1
 obtain rfl := Option.some.inj H
 go_enter Try.func7, Try.ntmps7
 go_wp2_with (first | ((with_reducible refine gate_callee (f := 10) rfl ?_); refine goesL_ (some 12) rfl rfl Try.func10 (by kernel_rfl) rfl #[] rfl (by (try simp only [List.map_toArray, List.map_cons, List.map_nil]); first | done | rfl | (simp only [List.length_drop, List.length_take]; rfl)) ?_; (with_reducible refine (hallmootlaw13_sanity.calls  t439 _ A2.out).mono ?_); rintro e w41 ⟨rfl, hb⟩; refine ⟨_, rfl, ?_⟩; have n0_ := aS (below_step bb hb); clear HB; have HB := n0_; clear n0_; (try clear hb); (try clear hb2); (try clear hk); (try clear hi)) | ((with_reducible refine gate_callee (f := 11) rfl ?_); refine goesL_ (some 14) rfl rfl Try.func11 (by kernel_rfl) rfl #[.slice A0 l0.length c0] rfl (by (try simp only [List.map_toArray, List.map_cons, List.map_nil]); first | done | rfl | (simp only [List.length_drop, List.length_take]; rfl)) ?_; (with_reducible refine (hallmootlaw13_few.calls k _ _ l0 false _ ?side1 ?side2 A3.out).mono ?_); (case side1 => repeat (first | exact (Kd.C_below HR0.out HB.out) | (with_reducible refine Kd.C_alloc ?_ _) | (with_reducible refine Kd.C_drewN ?_ _) | (with_reducible refine Kd.C_drew ?_))); (case side2 => exact HC0.out); rintro e w' ⟨rfl, ⟨nd, rfl⟩⟩; refine ⟨_, rfl, ?_⟩))
 go_ret
 exact ⟨by first | rfl | (simp [errW_none, errW_some] <;> rfl) | (simp [*, errW_none, errW_some] <;> rfl), by repeat (first | (with_reducible first | exact HB.out | apply below_alloc | apply pw_below_drewN | apply below_drew1) | exact HB.out)⟩ }

end Go.Proofs.Ytfojpobblebigaa.P
namespace Go.Proofs.Ytfojpobblebigaa.Pure
open Go.RowKit Go.Proofs.Ytfojpobblebigaa.P Go.Proofs.YtfojpobblebigaaW.PrintWords
set_option linter.unusedVariables false

def SmL (l : List S62) : Prop := ∀ x ∈ l, ∀ u ∈ x.f2, Sm u.f0
theorem all1 (l : List S62) (i : Nat) (hi : i < l.length) (hl : l.length ≤ 12) (r : List S30 × List S33) (d : Nat) : ∀ (j : Nat) (x : S62), j + d = l[i].f0.length → x.f0.length + l[i].f0.length ≤ 50000 + j → l[i].f0.length ≤ 20 →
    Ev (fun k => hallmootref13_All.l2 k l (i : Int) 0 (readL x.f0 (l[i].f0.drop j)) x.f1 x.f2) r → Ev (fun k => hallmootref13_All.l1 k l (i : Int) (j : Int) x.f0 x.f1 x.f2) r := by
  induction d with
  | zero =>
    intro j x hj hx h20 h
    rw [List.drop_of_length_le (by omega)] at h
    refine Ev.step (fun k => ?_) h
    rw [hallmootref13_All.l1, if_pos (by omega), if_pos (by omega), rd62 hi, if_neg (by omega)]
    rfl
  | succ d ih =>
    intro j x hj hx h20 h
    have hlt : j < l[i].f0.length := by omega
    rw [List.drop_eq_getElem_cons hlt] at h
    have hlen := readStep_len x.f0 l[i].f0[j]
    have h2 := ih (j + 1) { x with f0 := readStep x.f0 l[i].f0[j] } (by omega) (by show (readStep _ _).length + _ ≤ _; omega) h20 h
    refine Ev.step (f := fun k => (hallmootref13_reads.f k x.f0 x.f1 x.f2 l[i].f0[j].f0 l[i].f0[j].f1 l[i].f0[j].f2).bind fun b => hallmootref13_All.l1 k l (i : Int) ((j + 1 : Nat) : Int) b.1 b.2.1 b.2.2) (fun k => ?_) (Ev.bind (reads_ev x l[i].f0[j] (by omega)) h2)
    rw [hallmootref13_All.l1, if_pos (by omega), if_pos (by omega), rd62 hi, if_pos (by omega), if_pos (by omega), rd30 hlt, wrapB hlt (by omega)]
theorem all2 (l : List S62) (i : Nat) (hi : i < l.length) (hl : l.length ≤ 12) (r : List S30 × List S33) (d : Nat) : ∀ (j : Nat) (x : S62), j + d = l[i].f1.length → x.f1.length + l[i].f1.length ≤ 50000 + j → l[i].f1.length ≤ 20 →
    Ev (fun k => hallmootref13_All.l0 k l ((i + 1 : Nat) : Int) x.f0 (writeL x.f1 (l[i].f1.drop j)) x.f2) r → Ev (fun k => hallmootref13_All.l2 k l (i : Int) (j : Int) x.f0 x.f1 x.f2) r := by
  induction d with
  | zero =>
    intro j x hj hx h20 h
    rw [List.drop_of_length_le (by omega)] at h
    refine Ev.step (fun k => ?_) h
    rw [hallmootref13_All.l2, if_pos (by omega), if_pos (by omega), rd62 hi, if_neg (by omega), wrapB hi (by omega)]
    rfl
  | succ d ih =>
    intro j x hj hx h20 h
    have hlt : j < l[i].f1.length := by omega
    rw [List.drop_eq_getElem_cons hlt] at h
    have hlen := putStep_len x.f1 l[i].f1[j]
    have h2 := ih (j + 1) { x with f1 := putStep x.f1 l[i].f1[j] } (by omega) (by show (putStep _ _).length + _ ≤ _; omega) h20 h
    refine Ev.step (f := fun k => (hallmootref13_puts.f k x.f0 x.f1 x.f2 l[i].f1[j].f0 l[i].f1[j].f1).bind fun b => hallmootref13_All.l2 k l (i : Int) ((j + 1 : Nat) : Int) b.1 b.2.1 b.2.2) (fun k => ?_) (Ev.bind (puts_ev x l[i].f1[j] (by omega)) h2)
    rw [hallmootref13_All.l2, if_pos (by omega), if_pos (by omega), rd62 hi, if_pos (by omega), if_pos (by omega), rd33 hlt, wrapB hlt (by omega)]
theorem all0 (l : List S62) (h : FewL l) (d : Nat) : ∀ (i : Nat) (x : S62), i + d = l.length → x.f0.length ≤ 20 * i → x.f1.length ≤ 20 * i →
    Ev (fun k => hallmootref13_All.l0 k l (i : Int) x.f0 x.f1 x.f2) (((l.drop i).foldl joinWM x).f0, ((l.drop i).foldl joinWM x).f1) := by
  induction d with
  | zero =>
    intro i x hi h0 h1
    rw [List.drop_of_length_le (by omega)]
    refine Ev.step (f := fun _ => some (x.f0, x.f1)) (fun k => ?_) (Ev.now _)
    rw [hallmootref13_All.l0, if_neg (by omega)]
  | succ d ih =>
    intro i x hi h0 h1
    have hlt : i < l.length := by omega
    obtain ⟨g0, g1, _⟩ := h.2 l[i] (List.getElem_mem hlt)
    have hl := h.1
    rw [List.drop_eq_getElem_cons hlt]
    have r0 := readL_len l[i].f0 x.f0
    have r1 := writeL_len l[i].f1 x.f1
    have hn := ih (i + 1) (joinWM x l[i]) (by omega) (by show (readL _ _).length ≤ _; omega) (by show (writeL _ _).length ≤ _; omega)
    have h2 := all2 l i hlt hl _ l[i].f1.length 0 { x with f0 := readL x.f0 l[i].f0 } (by omega) (by show x.f1.length + _ ≤ _; omega) g1 (by rw [List.drop_zero]; exact hn)
    have h3 := all1 l i hlt hl _ l[i].f0.length 0 x (by omega) (by omega) g0 (by rw [List.drop_zero]; exact h2)
    refine Ev.step (fun k => ?_) h3
    rw [hallmootref13_All.l0, if_pos (by omega)]
    rfl
theorem all_ev (l : List S62) (h : FewL l) : Ev (fun k => hallmootref13_All.f k l) ((allL l).f0, (allL l).f1) := by
  have := all0 l h l.length 0 z62 (by omega) (Nat.zero_le _) (Nat.zero_le _)
  rw [List.drop_zero] at this
  exact this
theorem fits_of (l : List S62) (B : Nat) (hB : tot l ≤ B) (h2 : B ≤ 100000) (hs : SmL l) : Fits l := by
  have h1 := tot_len l
  refine ⟨by omega, fun x hx => ?_⟩
  have := tot_mem hx
  exact ⟨by omega, by omega, by omega, hs x hx⟩
theorem joinA_sz' (x z : S62) : sz62 (joinAM x z) ≤ sz62 x + sz62 z := by
  have h1 := readL_len z.f0 x.f0
  have h2 := writeL_len z.f1 x.f1
  unfold sz62 joinAM
  simp only [List.length_append]
  omega
theorem joinR_sz' (x z : S62) : sz62 (joinRM x z) ≤ sz62 x + sz62 z := by
  have h1 := readL_len z.f0 x.f0
  unfold sz62 joinRM
  simp only
  omega
theorem end_fits (l : List S62) (hF : FewL l) (hs : SmL l) : Fits (if l.length < 2 then l else foldAL l) := by
  have ht := tot_few hF
  by_cases h : l.length < 2
  · rw [if_pos h]; exact fits_of l 732 ht (by omega) hs
  · rw [if_neg h]
    obtain ⟨m, x, z, rfl⟩ := last2 (l := l) (by omega)
    have hsz := joinA_sz' x z
    rw [foldA2]
    refine fits_of _ 800 (by rw [tot_snoc]; rw [tot_snoc2] at ht; omega) (by omega) (fun y hy u hu => ?_)
    rcases List.mem_append.1 hy with hy | hy
    · exact hs y (by simp [hy]) u hu
    · obtain rfl : y = joinAM x z := by simpa using hy
      rcases List.mem_append.1 hu with hu | hu
      · exact hs x (by simp) u hu
      · exact hs z (by simp) u hu
theorem drop_fits (l : List S62) (hF : FewL l) (hs : SmL l) : Fits (dropL l).1 ∧ (dropL l).2.length ≤ 100 ∧ ∀ u ∈ (dropL l).2, Sm u.f0 := by
  have ht := tot_few hF
  unfold dropL
  by_cases h0 : l.length = 0
  · rw [if_pos h0]
    exact ⟨fits_of l 732 ht (by omega) hs, Nat.zero_le _, fun u hu => by cases hu⟩
  · rw [if_neg h0]
    have hm : l.getD (l.length - 1) z62 ∈ l := last_mem (by omega)
    have hm2 := hF.2 _ hm
    refine ⟨?_, by rw [List.length_reverse]; omega, fun u hu => hs _ hm u (by simpa using hu)⟩
    by_cases h1 : l.length = 1
    · simp only [if_pos h1]
      refine fits_of _ 732 ?_ (by omega) (fun y hy u hu => ?_)
      · have h20 := hm2.1
        generalize (l.getD (l.length - 1) z62).f0 = F at h20
        have e : tot [({ z62 with f0 := F } : S62)] = 1 + F.length := by simp [tot, z62]
        rw [e]
        omega
      · obtain rfl : y = { z62 with f0 := (l.getD (l.length - 1) z62).f0 } := by simpa using hy
        cases hu
    · simp only [if_neg h1]
      obtain ⟨m, x, z, rfl⟩ := last2 (l := l) (by omega)
      have hsz := joinR_sz' x z
      rw [foldR2]
      refine fits_of _ 800 (by rw [tot_snoc]; rw [tot_snoc2] at ht; omega) (by omega) (fun y hy u hu => ?_)
      rcases List.mem_append.1 hy with hy | hy
      · exact hs y (by simp [hy]) u hu
      · obtain rfl : y = joinRM x z := by simpa using hy
        exact hs x (by simp) u hu
theorem NestMerges (l : List S62) (hs : SmL l) : Ev (fun k => hallmootlaw13_NestMerges.f k l) true := by
  simp only [hallmootlaw13_NestMerges.f, san, Option.bind_some]
  obtain ⟨v, hv, hf⟩ := few_ev l
  refine Ev.bind hv ?_
  cases v with
  | false => exact Ev.now _
  | true =>
    have hF := hf rfl
    have ht := tot_few hF
    have hd : nDrop.f l = some (dropL l) := by unfold nDrop.f; rw [if_pos (by rw [LIMv]; omega)]
    have hd' : rDrop.f l = some (dropL l) := by unfold rDrop.f; rw [if_pos (by omega)]
    have he : nEnd.f l = some (if l.length < 2 then l else foldAL l) := by unfold nEnd.f; rw [if_pos (by rw [LIMv]; omega)]
    have he' : rEnd.f l = some (if l.length < 2 then l else foldAL l) := by unfold rEnd.f; rw [if_pos (by omega)]
    have ha : nAll.f l = some ((allL l).f0, (allL l).f1) := by unfold nAll.f; rw [if_pos (by rw [LIMv]; omega)]
    have g1 := end_fits l hF hs
    obtain ⟨g2, g3, g4⟩ := drop_fits l hF hs
    have hsz := allL_tot l l.length (Nat.le_refl _)
    rw [List.take_length] at hsz
    unfold sz62 at hsz
    generalize (if l.length < 2 then l else foldAL l) = e at *
    generalize dropL l = dd at *
    simp only [if_true, hd, hd', he, he', ha, Option.bind_some]
    refine Ev.bind (all_ev l hF) ?_
    refine Ev.bind (same_ev e g1) ?_
    simp only [if_true]
    refine Ev.bind (same_ev dd.1 g2) ?_
    simp only [if_true]
    refine Ev.bind (undos_ev dd.2 (by omega) g4) ?_
    simp only [if_true]
    refine Ev.bind (seens_ev (allL l).f0 (by omega)) ?_
    simp only [if_true]
    exact Ev.bind (writes_ev (allL l).f1 (by omega)) (Ev.now _)
end Go.Proofs.Ytfojpobblebigaa.Pure
