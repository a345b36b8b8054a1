-- Written by pp.py (this session's program over the kit's printer): functions, contracts. Not trusted: Lean checks it.
import Derived.Test.YtcnclgneldonfaaDoorPx0
import Derived.Test.YtcnclgneldonfaaDoorYZ
import Derived.Test.YtcnclgneldonfaaDoorPx3
import Derived.Test.YtcnclgneldonfaaDoorHb
import Derived.Test.YtcnclgneldonfaaDoorHc
import Derived.Test.YtcnclgneldonfaaDoorHf
import Derived.Test.YtcnclgneldonfaaDoorHh
namespace Go.Proofs.YtcnclgneldonfaaDoor.P
open Go.RowKit Go.Proofs.YtcnclgneldonfaaDoorW.PrintWords Go.Proofs.YtcnclgneldonfaaDoorW.PrintLast Go.Proofs.YtcnclgneldonfaaDoorW.PrintMore
attribute [local go_sem] max2_int min2_int max_two min_two max_three min_three max_four min_four   -- for this text's walks alone
set_option linter.unusedVariables false
set_option linter.unusedSimpArgs false

/-! ### hallmootlaw27_sanity: function 10 -/
def hallmootlaw27_sanity.f (k : Nat)  : Option (Bool) := (sParse.f (⟨#[48, 120, 50, 32, 49, 126, 50, 32, 49, 32, 48, 32, 49, 32, 48, 32, 33, 51, 44, 51, 50, 32, 48]⟩ : ByteArray)).bind fun bt132 => ((sPlain.f 2 bt132.1).bind fun t136 => ((sParse.f (⟨#[48, 120]⟩ : ByteArray)).bind fun bt139 => (if bt132.2 = 0 then (if bt139.2 = 3 then (if (bt132.1.length : Int) = 9 then ((sText.f t136).bind fun t143 => (if t143.toList = ([48, 120, 51, 32, 49, 32, 48, 32, 33, 51, 44, 51, 50] : List UInt8) then ((sText.f bt132.1).bind fun t144 => (if t144.toList = ([48, 120, 50, 32, 49, 126, 50, 32, 49, 32, 48, 32, 49, 32, 48, 32, 33, 51, 44, 51, 50, 32, 48] : List UInt8) then ((script_Next.f k (([true, false, true] : List Bool)) 2).bind fun t148 => (if t148 = 0 then ((script_Next.f k (([false] : List Bool)) 0).bind fun t152 => (some (t152 == (-1)))) else (none))) else (none))) else (none))) else (none)) else (none)) else (none))))
theorem hallmootlaw27_sanity.mono : ∀ k, LeO (hallmootlaw27_sanity.f k ) (hallmootlaw27_sanity.f (k + 1) ) := by
 intro  k
 unfold hallmootlaw27_sanity.f
 repeat' first | (with_reducible exact script_Next.mono _ _ _) | (with_reducible exact LeO.refl _) | (with_reducible exact LeO.none _) | (with_reducible refine LeO.ite ?_ ?_) | (with_reducible refine LeO.bind ?_ (fun _ => ?_)) | exact script_Next.mono _ _ _ | exact LeO.none _ | refine LeO.ite ?_ ?_ | refine LeO.bind ?_ (fun _ => ?_)
set_option maxHeartbeats 8000000 in
set_option maxRecDepth 100000 in
theorem hallmootlaw27_sanity.calls (k : Nat)  (r : Bool) (w : World) (h : hallmootlaw27_sanity.f k  = some r) (hL : Laid w) : Calls Tryd.prog 10 #[] w fun e w' => e = .returned (.bool r) ∧ Below w.heap.size w w' := by
 have HB := aS (Below.refl w.heap.size w)
 have H : ((sParse.f (⟨#[48, 120, 50, 32, 49, 126, 50, 32, 49, 32, 48, 32, 49, 32, 48, 32, 33, 51, 44, 51, 50, 32, 48]⟩ : ByteArray)).bind fun bt132 => ((sPlain.f 2 bt132.1).bind fun t136 => ((sParse.f (⟨#[48, 120]⟩ : ByteArray)).bind fun bt139 => (if bt132.2 = 0 then (if bt139.2 = 3 then (if (bt132.1.length : Int) = 9 then ((sText.f t136).bind fun t143 => (if t143.toList = ([48, 120, 51, 32, 49, 32, 48, 32, 33, 51, 44, 51, 50] : List UInt8) then ((sText.f bt132.1).bind fun t144 => (if t144.toList = ([48, 120, 50, 32, 49, 126, 50, 32, 49, 32, 48, 32, 49, 32, 48, 32, 33, 51, 44, 51, 50, 32, 48] : List UInt8) then ((script_Next.f k (([true, false, true] : List Bool)) 2).bind fun t148 => (if t148 = 0 then ((script_Next.f k (([false] : List Bool)) 0).bind fun t152 => (some (t152 == (-1)))) else (none))) else (none))) else (none))) else (none)) else (none)) else (none))))) = some r := h
 clear h
 replace H := Option.bind_eq_some_iff.mp H
 obtain ⟨⟨t132, t135⟩, A10, H⟩ := H
 replace H : ((sPlain.f 2 t132).bind fun t136 => ((sParse.f (⟨#[48, 120]⟩ : ByteArray)).bind fun bt139 => (if t135 = 0 then (if bt139.2 = 3 then (if (t132.length : Int) = 9 then ((sText.f t136).bind fun t143 => (if t143.toList = ([48, 120, 51, 32, 49, 32, 48, 32, 33, 51, 44, 51, 50] : List UInt8) then ((sText.f t132).bind fun t144 => (if t144.toList = ([48, 120, 50, 32, 49, 126, 50, 32, 49, 32, 48, 32, 49, 32, 48, 32, 33, 51, 44, 51, 50, 32, 48] : List UInt8) then ((script_Next.f k (([true, false, true] : List Bool)) 2).bind fun t148 => (if t148 = 0 then ((script_Next.f k (([false] : List Bool)) 0).bind fun t152 => (some (t152 == (-1)))) else (none))) else (none))) else (none))) else (none)) else (none)) else (none)))) = some r := H
 have A1 := aS A10
 clear A10
 replace H := Option.bind_eq_some_iff.mp H
 obtain ⟨t136, A20, H⟩ := H
 replace H : ((sParse.f (⟨#[48, 120]⟩ : ByteArray)).bind fun bt139 => (if t135 = 0 then (if bt139.2 = 3 then (if (t132.length : Int) = 9 then ((sText.f t136).bind fun t143 => (if t143.toList = ([48, 120, 51, 32, 49, 32, 48, 32, 33, 51, 44, 51, 50] : List UInt8) then ((sText.f t132).bind fun t144 => (if t144.toList = ([48, 120, 50, 32, 49, 126, 50, 32, 49, 32, 48, 32, 49, 32, 48, 32, 33, 51, 44, 51, 50, 32, 48] : List UInt8) then ((script_Next.f k (([true, false, true] : List Bool)) 2).bind fun t148 => (if t148 = 0 then ((script_Next.f k (([false] : List Bool)) 0).bind fun t152 => (some (t152 == (-1)))) else (none))) else (none))) else (none))) else (none)) else (none)) else (none))) = some r := H
 have A2 := aS A20
 clear A20
 replace H := Option.bind_eq_some_iff.mp H
 obtain ⟨⟨t139, t142⟩, A30, H⟩ := H
 replace H : (if t135 = 0 then (if t142 = 3 then (if (t132.length : Int) = 9 then ((sText.f t136).bind fun t143 => (if t143.toList = ([48, 120, 51, 32, 49, 32, 48, 32, 33, 51, 44, 51, 50] : List UInt8) then ((sText.f t132).bind fun t144 => (if t144.toList = ([48, 120, 50, 32, 49, 126, 50, 32, 49, 32, 48, 32, 49, 32, 48, 32, 33, 51, 44, 51, 50, 32, 48] : List UInt8) then ((script_Next.f k (([true, false, true] : List Bool)) 2).bind fun t148 => (if t148 = 0 then ((script_Next.f k (([false] : List Bool)) 0).bind fun t152 => (some (t152 == (-1)))) else (none))) else (none))) else (none))) else (none)) else (none)) else (none)) = some r := H
 have A3 := aS A30
 clear A30
 by_cases c4 : t135 = 0
 {
 rw [if_pos c4] at H
 have c4b0 : (t135 == 0) = true := beq_iff_eq.mpr c4
 have c4b1 : (t135 != 0) = false := bne_eq_false_iff_eq.mpr c4
 clear c4
 by_cases c5 : t142 = 3
 {
 rw [if_pos c5] at H
 have c5b0 : (t142 == 3) = true := beq_iff_eq.mpr c5
 have c5b1 : (t142 != 3) = false := bne_eq_false_iff_eq.mpr c5
 clear c5
 by_cases c6 : (t132.length : Int) = 9
 {
 rw [if_pos c6] at H
 have c6b0 : ((t132.length : Int) == 9) = true := beq_iff_eq.mpr c6
 have c6b1 : ((t132.length : Int) != 9) = false := bne_eq_false_iff_eq.mpr c6
 clear c6
 replace H := Option.bind_eq_some_iff.mp H
 obtain ⟨t143, A70, H⟩ := H
 replace H : (if t143.toList = ([48, 120, 51, 32, 49, 32, 48, 32, 33, 51, 44, 51, 50] : List UInt8) then ((sText.f t132).bind fun t144 => (if t144.toList = ([48, 120, 50, 32, 49, 126, 50, 32, 49, 32, 48, 32, 49, 32, 48, 32, 33, 51, 44, 51, 50, 32, 48] : List UInt8) then ((script_Next.f k (([true, false, true] : List Bool)) 2).bind fun t148 => (if t148 = 0 then ((script_Next.f k (([false] : List Bool)) 0).bind fun t152 => (some (t152 == (-1)))) else (none))) else (none))) else (none)) = some r := H
 have A7 := aS A70
 clear A70
 by_cases c8 : t143.toList = ([48, 120, 51, 32, 49, 32, 48, 32, 33, 51, 44, 51, 50] : List UInt8)
 {
 rw [if_pos c8] at H
 have c8b0 : (t143.toList == ([48, 120, 51, 32, 49, 32, 48, 32, 33, 51, 44, 51, 50] : List UInt8)) = true := beq_iff_eq.mpr c8
 have c8b1 : (t143.toList != ([48, 120, 51, 32, 49, 32, 48, 32, 33, 51, 44, 51, 50] : List UInt8)) = false := bne_eq_false_iff_eq.mpr c8
 clear c8
 replace H := Option.bind_eq_some_iff.mp H
 obtain ⟨t144, A90, H⟩ := H
 replace H : (if t144.toList = ([48, 120, 50, 32, 49, 126, 50, 32, 49, 32, 48, 32, 49, 32, 48, 32, 33, 51, 44, 51, 50, 32, 48] : List UInt8) then ((script_Next.f k (([true, false, true] : List Bool)) 2).bind fun t148 => (if t148 = 0 then ((script_Next.f k (([false] : List Bool)) 0).bind fun t152 => (some (t152 == (-1)))) else (none))) else (none)) = some r := H
 have A9 := aS A90
 clear A90
 by_cases c10 : t144.toList = ([48, 120, 50, 32, 49, 126, 50, 32, 49, 32, 48, 32, 49, 32, 48, 32, 33, 51, 44, 51, 50, 32, 48] : List UInt8)
 {
 rw [if_pos c10] at H
 have c10b0 : (t144.toList == ([48, 120, 50, 32, 49, 126, 50, 32, 49, 32, 48, 32, 49, 32, 48, 32, 33, 51, 44, 51, 50, 32, 48] : List UInt8)) = true := beq_iff_eq.mpr c10
 have c10b1 : (t144.toList != ([48, 120, 50, 32, 49, 126, 50, 32, 49, 32, 48, 32, 49, 32, 48, 32, 33, 51, 44, 51, 50, 32, 48] : List UInt8)) = false := bne_eq_false_iff_eq.mpr c10
 clear c10
 obtain ⟨y145, hy145⟩ : ∃ y_ : List Bool, y_ = (([true, false, true] : List Bool)) := ⟨_, rfl⟩
 replace H : ((script_Next.f k y145 2).bind fun t148 => (if t148 = 0 then ((script_Next.f k (([false] : List Bool)) 0).bind fun t152 => (some (t152 == (-1)))) else (none))) = some r := by first | (rw [hy145]; with_reducible exact H) | (have H2_ := (Option.bind_some _ _).symm.trans H; rw [hy145]; with_reducible exact H2_) | (have H2_ := (Option.bind_some _ _).symm.trans H; with_reducible exact H2_) | with_reducible exact H | (rw [hy145]; exact H) | exact H
 have Ny145 := aS hy145
 clear hy145
 replace H := Option.bind_eq_some_iff.mp H
 obtain ⟨t148, A110, H⟩ := H
 replace H : (if t148 = 0 then ((script_Next.f k (([false] : List Bool)) 0).bind fun t152 => (some (t152 == (-1)))) else (none)) = some r := H
 have A11 := aS A110
 clear A110
 by_cases c12 : t148 = 0
 {
 rw [if_pos c12] at H
 have c12b0 : (t148 == 0) = true := beq_iff_eq.mpr c12
 have c12b1 : (t148 != 0) = false := bne_eq_false_iff_eq.mpr c12
 clear c12
 obtain ⟨y149, hy149⟩ : ∃ y_ : List Bool, y_ = (([false] : List Bool)) := ⟨_, rfl⟩
 replace H : ((script_Next.f k y149 0).bind fun t152 => (some (t152 == (-1)))) = some r := by first | (rw [hy149]; with_reducible exact H) | (have H2_ := (Option.bind_some _ _).symm.trans H; rw [hy149]; with_reducible exact H2_) | (have H2_ := (Option.bind_some _ _).symm.trans H; with_reducible exact H2_) | with_reducible exact H | (rw [hy149]; exact H) | exact H
 have Ny149 := aS hy149
 clear hy149
 replace H := Option.bind_eq_some_iff.mp H
 obtain ⟨t152, A130, H⟩ := H
 replace H : (some (t152 == (-1))) = some r := H
 have A13 := aS A130
 clear A130
 obtain rfl := Option.some.inj H
 go_enter Tryd.func10, Tryd.ntmps10
 go_wp2_with (first | ((with_reducible refine gate_callee (f := 19) rfl ?_); refine goesL_ (some 7) rfl rfl Tryd.func19 (by kernel_rfl) rfl #[.string (⟨#[48, 120, 50, 32, 49, 126, 50, 32, 49, 32, 48, 32, 49, 32, 48, 32, 33, 51, 44, 51, 50, 32, 48]⟩ : ByteArray)] rfl (by (try simp only [List.map_toArray, List.map_cons, List.map_nil]); first | done | rfl | (simp only [List.length_drop, List.length_take]; rfl)) ?_; (with_reducible refine (sParse.calls (⟨#[48, 120, 50, 32, 49, 126, 50, 32, 49, 32, 48, 32, 49, 32, 48, 32, 33, 51, 44, 51, 50, 32, 48]⟩ : ByteArray) t132 t135 _ A1.out (hL.below bb)).mono ?_); rintro e w14 ⟨v133, rfl, ho0, hb⟩; refine ⟨_, rfl, ?_⟩; have n0_ := aS (Kd.V_lower (Kd.V_mono (ok' := fun k_ => True) ho0 (fun k_ hk_ => trivial)) bz); have n1_ := aS (below_step bb hb); clear HB; have HO134 := n0_; have HB := n1_; clear n0_ n1_; (try clear hb); (try clear hb2); (try clear hk); (try clear hi); (try clear ho0); obtain ⟨Ao15, co15, eo15⟩ := Kd.V_slice HO134.out; subst eo15) | ((with_reducible refine gate_callee (f := 12) rfl ?_); refine goesL_ (some 11) rfl rfl Tryd.func12 (by kernel_rfl) rfl #[.int .i64 2, .slice Ao15 t132.length co15] rfl (by (try simp only [List.map_toArray, List.map_cons, List.map_nil]); first | done | rfl | (simp only [List.length_drop, List.length_take]; rfl)) ?_; (with_reducible refine (sPlain.calls 2 _ _ t132 t136 _ ?side1 ?side2 A2.out).mono ?_); (case side1 => repeat (first | exact (Kd.V_reads' HO134.out).2.2 | (with_reducible refine Kd.C_alloc ?_ _) | (with_reducible refine Kd.C_drewN ?_ _) | (with_reducible refine Kd.C_drew ?_))); (case side2 => exact (Kd.V_reads' HO134.out).2.1); rintro e w16 ⟨v137, rfl, ho0, hb⟩; refine ⟨_, rfl, ?_⟩; have n0_ := aS (Kd.V_below (vv HO134.out) hb); have n1_ := aS (Kd.V_lower (Kd.V_mono (ok' := fun k_ => True) ho0 (fun k_ hk_ => trivial)) bz); have n2_ := aS (below_step bb hb); clear HO134; clear HB; have HO134 := n0_; have HO138 := n1_; have HB := n2_; clear n0_ n1_ n2_; (try clear hb); (try clear hb2); (try clear hk); (try clear hi); (try clear ho0)) | ((with_reducible refine gate_callee (f := 19) rfl ?_); refine goesL_ (some 13) rfl rfl Tryd.func19 (by kernel_rfl) rfl #[.string (⟨#[48, 120]⟩ : ByteArray)] rfl (by (try simp only [List.map_toArray, List.map_cons, List.map_nil]); first | done | rfl | (simp only [List.length_drop, List.length_take]; rfl)) ?_; (with_reducible refine (sParse.calls (⟨#[48, 120]⟩ : ByteArray) t139 t142 _ A3.out (hL.below bb)).mono ?_); rintro e w17 ⟨v140, rfl, ho0, hb⟩; refine ⟨_, rfl, ?_⟩; have n0_ := aS (Kd.V_below (vv HO134.out) hb); have n1_ := aS (Kd.V_below (vv HO138.out) hb); have n2_ := aS (Kd.V_lower (Kd.V_mono (ok' := fun k_ => True) ho0 (fun k_ hk_ => trivial)) bz); have n3_ := aS (below_step bb hb); clear HO134; clear HO138; clear HB; have HO134 := n0_; have HO138 := n1_; have HO141 := n2_; have HB := n3_; clear n0_ n1_ n2_ n3_; (try clear hb); (try clear hb2); (try clear hk); (try clear hi); (try clear ho0); obtain ⟨Ao18, co18, eo18⟩ := Kd.V_slice HO138.out; subst eo18) | (go_at_call 22; (with_reducible refine (sText.calls _ _ t136 t143 _ ?side1 ?side2 A7.out (hL.below bb)).mono ?_); (case side1 => repeat (first | exact (Kd.V_reads' HO138.out).2.2 | (with_reducible refine Kd.C_alloc ?_ _) | (with_reducible refine Kd.C_drewN ?_ _) | (with_reducible refine Kd.C_drew ?_))); (case side2 => exact (Kd.V_reads' HO138.out).2.1); rintro e w19 ⟨rfl, hb⟩; have n0_ := aS (Kd.V_below (vv HO134.out) hb); have n1_ := aS (Kd.V_below (vv HO138.out) hb); have n2_ := aS (Kd.V_below (vv HO141.out) hb); have n3_ := aS (below_step bb hb); clear HO134; clear HO138; clear HO141; clear HB; have HO134 := n0_; have HO138 := n1_; have HO141 := n2_; have HB := n3_; clear n0_ n1_ n2_ n3_; (try clear hb); (try clear hb2); (try clear hk); (try clear hi)) | (go_at_call 22; (with_reducible refine (sText.calls _ _ t132 t144 _ ?side1 ?side2 A9.out (hL.below bb)).mono ?_); (case side1 => repeat (first | exact (Kd.V_reads' HO134.out).2.2 | (with_reducible refine Kd.C_alloc ?_ _) | (with_reducible refine Kd.C_drewN ?_ _) | (with_reducible refine Kd.C_drew ?_))); (case side2 => exact (Kd.V_reads' HO134.out).2.1); rintro e w20 ⟨rfl, hb⟩; have n0_ := aS (Kd.V_below (vv HO134.out) hb); have n1_ := aS (Kd.V_below (vv HO138.out) hb); have n2_ := aS (Kd.V_below (vv HO141.out) hb); have n3_ := aS (below_step bb hb); clear HO134; clear HO138; clear HO141; clear HB; have HO134 := n0_; have HO138 := n1_; have HO141 := n2_; have HB := n3_; clear n0_ n1_ n2_ n3_; (try clear hb); (try clear hb2); (try clear hk); (try clear hi)) | ((with_reducible refine gate_dst (N := 38) rfl ?_); (try (refine gate_guard (by rfl) ?_; dsimp only)); refine Kd.R_lit Kd.bool _ 4 ?hg (N := 38) ?hd (xs := ([true, false, true] : List Bool)) (inner := [.bool true, .bool false, .bool true]) (ok := fun _ => True) (okp := fun _ => True) ?hr ?hp (fun _ hk => hk) trivial (Below.refl _ _) (Nat.le_refl _) (by simp) ?_; (case hd => rfl); (case hg => rfl); (case hr => first | (go_simp; done) | (go_simp; rfl)); (case hp => exact (Reps.one (show Kd.M Kd.bool _ _ _ true [.bool true] from rfl) (Reps.one (show Kd.M Kd.bool _ _ _ false [.bool false] from rfl) (Reps.one (show Kd.M Kd.bool _ _ _ true [.bool true] from rfl) (Reps.none _ _))))); intro v146 w21 ho22 hb hg_ hnew_; clear hg_ hnew_; (first | rw [← Ny145.out] at ho22 | (simp only [Int.reduceToNat] at ho22; rw [← Ny145.out] at ho22)); have n0_ := aS (Kd.V_elder' (vv HO134.out) (Kd.R_base ho22) hb); have n1_ := aS (Kd.V_elder' (vv HO138.out) (Kd.R_base ho22) hb); have n2_ := aS (Kd.V_elder' (vv HO141.out) (Kd.R_base ho22) hb); have n3_ := aS (Kd.R_lower ho22 bz); have n4_ := aS (below_step bb hb); clear HO134; clear HO138; clear HO141; clear HB; have HO134 := n0_; have HO138 := n1_; have HO141 := n2_; have HO147 := n3_; have HB := n4_; clear n0_ n1_ n2_ n3_ n4_; clear hb ho22; obtain ⟨Ao23, co23, eo23⟩ := Kd.R_slice HO147.out; subst eo23) | (go_at_call 13; (with_reducible refine (script_Next.calls k _ _ y145 2 t148 _ ?side1 ?side2 A11.out).mono ?_); (case side1 => repeat (first | exact (Kd.R_reads' HO147.out).2.2 | (with_reducible refine Kd.C_alloc ?_ _) | (with_reducible refine Kd.C_drewN ?_ _) | (with_reducible refine Kd.C_drew ?_))); (case side2 => exact (Kd.R_reads' HO147.out).2.1); rintro e w' ⟨rfl, ⟨nd, rfl⟩⟩) | ((with_reducible refine gate_dst (N := 43) rfl ?_); (try (refine gate_guard (by rfl) ?_; dsimp only)); refine Kd.R_lit Kd.bool _ 4 ?hg (N := 43) ?hd (xs := ([false] : List Bool)) (inner := [.bool false]) (ok := fun _ => True) (okp := fun _ => True) ?hr ?hp (fun _ hk => hk) trivial (Below.refl _ _) (Nat.le_refl _) (by simp) ?_; (case hd => rfl); (case hg => rfl); (case hr => first | (go_simp; done) | (go_simp; rfl)); (case hp => exact (Reps.one (show Kd.M Kd.bool _ _ _ false [.bool false] from rfl) (Reps.none _ _))); intro v150 w24 ho25 hb hg_ hnew_; clear hg_ hnew_; (first | rw [← Ny149.out] at ho25 | (simp only [Int.reduceToNat] at ho25; rw [← Ny149.out] at ho25)); have n0_ := aS (Kd.V_elder' (vv HO134.out) (Kd.R_base ho25) hb); have n1_ := aS (Kd.V_elder' (vv HO138.out) (Kd.R_base ho25) hb); have n2_ := aS (Kd.V_elder' (vv HO141.out) (Kd.R_base ho25) hb); have n3_ := aS (Kd.R_elder' (rr HO147.out) (Kd.R_base ho25) hb); have n4_ := aS (Kd.R_lower (Kd.R_new' ho25 (Kd.R_lt (rr HO147.out))) bz); have n5_ := aS (below_step bb hb); clear HO134; clear HO138; clear HO141; clear HO147; clear HB; have HO134 := n0_; have HO138 := n1_; have HO141 := n2_; have HO147 := n3_; have HO151 := n4_; have HB := n5_; clear n0_ n1_ n2_ n3_ n4_ n5_; clear hb ho25; obtain ⟨Ao26, co26, eo26⟩ := Kd.R_slice HO151.out; subst eo26) | (go_at_call 13; (with_reducible refine (script_Next.calls k _ _ y149 0 t152 _ ?side1 ?side2 A13.out).mono ?_); (case side1 => repeat (first | exact (Kd.R_reads' HO151.out).2.2 | (with_reducible refine Kd.C_alloc ?_ _) | (with_reducible refine Kd.C_drewN ?_ _) | (with_reducible refine Kd.C_drew ?_))); (case side2 => exact (Kd.R_reads' HO151.out).2.1); rintro e w' ⟨rfl, ⟨nd, rfl⟩⟩))
 go_ret
 exact ⟨by first | rfl | (simp [errW_none, errW_some] <;> rfl) | (simp [*, errW_none, errW_some] <;> rfl), by repeat (first | (with_reducible first | exact HB.out | apply below_alloc | apply pw_below_drewN | apply below_drew1) | exact HB.out)⟩ }
 {
 rw [if_neg c12] at H
 exact absurd H (by simp) } }
 {
 rw [if_neg c10] at H
 exact absurd H (by simp) } }
 {
 rw [if_neg c8] at H
 exact absurd H (by simp) } }
 {
 rw [if_neg c6] at H
 exact absurd H (by simp) } }
 {
 rw [if_neg c5] at H
 exact absurd H (by simp) } }
 {
 rw [if_neg c4] at H
 exact absurd H (by simp) }

end Go.Proofs.YtcnclgneldonfaaDoor.P
