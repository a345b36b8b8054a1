-- Written by pp.py (this session's program over the kit's printer): functions, contracts. Not trusted: Lean checks it.
import Derived.Test.YtfojpobblebigaaYM0
import Derived.Test.YtfojpobblebigaaYM3
namespace Go.Proofs.Ytfojpobblebigaa.P
open Go.RowKit Go.Proofs.YtfojpobblebigaaW.PrintWords Go.Proofs.YtfojpobblebigaaW.PrintLast Go.Proofs.YtfojpobblebigaaW.PrintMore
attribute [local go_sem] max2_int min2_int max_two min_two max_three min_three max_four min_four   -- for this text's walks alone
set_option linter.unusedVariables false
set_option linter.unusedSimpArgs false

/-! ### hallmootref13_Keep: function 24 -/
def hallmootref13_Keep.f (l0 : List (S62)) (a1_0 : Int) (a1_1 : Int) (a1_2 : Int) (l1_3 : List (S48)) (a1_4 : Int) : Option ((List (S62))) := if (l0.length : Int) = 0 then (some l0) else (if 0 ≤ (wrap64 ((l0.length : Int) - 1)) then (if (wrap64 ((l0.length : Int) - 1)) < (l0.length : Int) then ((some (([] : List (S50)) : List (S50))).bind fun y312 => (if y312.length + ((rd_T62 l0 (wrap64 ((l0.length : Int) - 1))).f2).length < 2513169434916 then ((some (y312 ++ ((rd_T62 l0 (wrap64 ((l0.length : Int) - 1))).f2) : List (S50))).bind fun y315 => ((some (([(⟨(⟨a1_0, a1_1, a1_2, l1_3⟩ : S48), a1_4⟩ : S50)] : List (S50)) : List (S50))).bind fun y318 => (if y315.length + y318.length < 2513169434916 then ((hallmootref13_with.f l0 ((rd_T62 l0 (wrap64 ((l0.length : Int) - 1))).f0) ((rd_T62 l0 (wrap64 ((l0.length : Int) - 1))).f1) (y315 ++ y318)).bind fun t324 => (some t324)) else (none)))) else (none))) else (none)) else (none))
def hallmootref13_Keep.T4 : Bool × List (List Nat × List Nat) := (true, [([], []), ([], []), ([1], [1]), ([0, 2], [0, 2]), ([], []), ([4], [4]), ([3, 5, 3], [3, 5]), ([0, 1, 2, 3, 4, 5, 6], []), ([7, 6, 6, 0, 1, 2, 3, 4, 5, 6], [6, 7])])
def hallmootref13_Keep.B4 : List Nat := [0, 0, 2, 7, 0, 16, 63, 127, 255]
theorem hallmootref13_Keep.tab4 : rtab .any (opsOf Try.f24 4) = hallmootref13_Keep.T4 := by kernel_rfl
theorem hallmootref13_Keep.bits4 : waitsOk hallmootref13_Keep.T4.2 hallmootref13_Keep.B4 = true := by kernel_rfl
set_option maxHeartbeats 8000000 in
set_option maxRecDepth 100000 in
theorem hallmootref13_Keep.calls (P0_ : Nat → Prop) (A0 : Option Addr) (c0 : Nat) (l0 : List (S62)) (a1_0 : Int) (a1_1 : Int) (a1_2 : Int) (P1_3_ : Nat → Prop) (A1_3 : Option Addr) (c1_3 : Nat) (l1_3 : List (S48)) (a1_4 : Int) (r : List (S62)) (w : World) (hs0 : Kd.V k62 62 w w.heap.size (fun k_ => P0_ k_) (.slice A0 l0.length c0) l0) (hs1_3 : Kd.V k48 48 w w.heap.size (fun k_ => P1_3_ k_) (.slice A1_3 l1_3.length c1_3) l1_3) (h : hallmootref13_Keep.f l0 a1_0 a1_1 a1_2 l1_3 a1_4 = some r) : Calls Try.prog 24 #[.slice A0 l0.length c0, .agg #[.int .i64 a1_0, .int .i64 a1_1, .int .i64 a1_2, .slice A1_3 l1_3.length c1_3, .int .i64 a1_4]] w fun e w' => ∃ v0_ : Value, e = .returned (v0_) ∧ Kd.V k62 62 w' w.heap.size (fun k_ => ((P0_ k_ ∨ P1_3_ k_) ∨ w.heap.size ≤ k_)) v0_ r ∧ Below w.heap.size w w' := by
 have hu50 := Try.underlying50
 have hu62 := Try.underlying62
 have HO0 := aS (show Kd.V k62 62 w w.heap.size (fun k_ => ((P0_ k_ ∨ P1_3_ k_) ∨ w.heap.size ≤ k_)) (.slice A0 l0.length c0) l0 from Kd.V_mono hs0 (fun k_ hk => .inl (.inl hk)))
 have HO1_3 := aS (show Kd.V k48 48 w w.heap.size (fun k_ => ((P0_ k_ ∨ P1_3_ k_) ∨ w.heap.size ≤ k_)) (.slice A1_3 l1_3.length c1_3) l1_3 from Kd.V_mono hs1_3 (fun k_ hk => .inl (.inr hk)))
 have HB := aS (Below.refl w.heap.size w)
 have H : (if (l0.length : Int) = 0 then (some l0) else (if 0 ≤ (wrap64 ((l0.length : Int) - 1)) then (if (wrap64 ((l0.length : Int) - 1)) < (l0.length : Int) then ((some (([] : List (S50)) : List (S50))).bind fun y312 => (if y312.length + ((rd_T62 l0 (wrap64 ((l0.length : Int) - 1))).f2).length < 2513169434916 then ((some (y312 ++ ((rd_T62 l0 (wrap64 ((l0.length : Int) - 1))).f2) : List (S50))).bind fun y315 => ((some (([(⟨(⟨a1_0, a1_1, a1_2, l1_3⟩ : S48), a1_4⟩ : S50)] : List (S50)) : List (S50))).bind fun y318 => (if y315.length + y318.length < 2513169434916 then ((hallmootref13_with.f l0 ((rd_T62 l0 (wrap64 ((l0.length : Int) - 1))).f0) ((rd_T62 l0 (wrap64 ((l0.length : Int) - 1))).f1) (y315 ++ y318)).bind fun t324 => (some t324)) else (none)))) else (none))) else (none)) else (none))) = some r := h
 clear h
 by_cases c3 : (l0.length : Int) = 0
 {
 rw [if_pos c3] at H
 have c3b0 : ((l0.length : Int) == 0) = true := beq_iff_eq.mpr c3
 have c3b1 : ((l0.length : Int) != 0) = false := bne_eq_false_iff_eq.mpr c3
 clear c3
 obtain rfl := Option.some.inj H
 go_enter Try.func24, Try.ntmps24
 go_wp2_with (first | ((with_reducible refine gate_dst (N := 3) rfl ?_); refine box_event ?hg (N := 3) ?hd (cs := #[.int .i64 a1_0, .int .i64 a1_1, .int .i64 a1_2, .slice A1_3 l1_3.length c1_3, .int .i64 a1_4]) (t := 50) ?hr ?_; (case hd => rfl); (case hg => rfl); (case hr => first | (go_simp; done) | (go_simp; rfl)); intro gb309 hg w4 hbox hb; have n0_ := aS (Kd.V_below (Kd.V_elderB (vv HO0.out) gb309 (Nat.le_of_eq hg.symm)) hb); have n1_ := aS (Kd.V_below (Kd.V_elderB (vv HO1_3.out) gb309 (Nat.le_of_eq hg.symm)) hb); have n2_ := aS (below_step bb hb); have n3_ := aS (hbox); have n4_ := aS ((by rw [hg]; exact bz : w.heap.size ≤ gb309)); have n5_ := aS ((by rw [hg]; exact bz : w.heap.size ≤ gb309)); clear HO0; clear HO1_3; clear HB; have HO0 := n0_; have HO1_3 := n1_; have HB := n2_; have BK309 := n3_; have GW309 := n4_; have GE309 := n5_; clear n0_ n1_ n2_ n3_ n4_ n5_; clear hb hbox hg))
 go_ret
 exact ⟨_, by first | rfl | (simp [errW_none, errW_some] <;> rfl) | (simp [*, errW_none, errW_some] <;> rfl), by (with_reducible repeat (first | apply Kd.V_alloc | apply Kd.V_drewN | apply Kd.V_drew)); exact Kd.V_mono HO0.out (fun _ hk => hk.1), by repeat (first | (with_reducible first | exact HB.out | apply below_alloc | apply pw_below_drewN | apply below_drew1 | refine below_set ?_ GE309.out) | exact HB.out)⟩ }
 {
 rw [if_neg c3] at H
 have c3b0 : ((l0.length : Int) == 0) = false := beq_eq_false_iff_ne.mpr c3
 have c3b1 : ((l0.length : Int) != 0) = true := bne_iff_ne.mpr c3
 have c3b2 : ¬ (l0 = []) := fun h_ => c3 (by rw [h_]; rfl)
 obtain ⟨ji5, hji5⟩ : ∃ j_ : Int, (wrap64 ((l0.length : Int) - 1)) = j_ := ⟨_, rfl⟩
 replace H : (if 0 ≤ (ji5) then (if (ji5) < (l0.length : Int) then ((some (([] : List (S50)) : List (S50))).bind fun y312 => (if y312.length + ((rd_T62 l0 (ji5)).f2).length < 2513169434916 then ((some (y312 ++ ((rd_T62 l0 (ji5)).f2) : List (S50))).bind fun y315 => ((some (([(⟨(⟨a1_0, a1_1, a1_2, l1_3⟩ : S48), a1_4⟩ : S50)] : List (S50)) : List (S50))).bind fun y318 => (if y315.length + y318.length < 2513169434916 then ((hallmootref13_with.f l0 ((rd_T62 l0 (ji5)).f0) ((rd_T62 l0 (ji5)).f1) (y315 ++ y318)).bind fun t324 => (some t324)) else (none)))) else (none))) else (none)) else (none)) = some r := by first | (rw [hji5] at H; exact H) | (simp only [hji5] at H ⊢; exact H)
 have hji5w : (IntKind.i64.wrap ((l0.length : Int) - 1)) = ji5 := (i64_w _).trans hji5
 by_cases c6 : 0 ≤ (ji5)
 {
 rw [if_pos c6] at H
 have c6b0 : decide (0 ≤ (ji5)) = true := decide_eq_true c6
 clear c6
 by_cases c7 : (ji5) < (l0.length : Int)
 {
 rw [if_pos c7] at H
 have c7b0 : decide ((ji5) < (l0.length : Int)) = true := decide_eq_true c7
 clear c7
 obtain ⟨y312, hy312⟩ : ∃ y_ : List (S50), y_ = (([] : List (S50))) := ⟨_, rfl⟩
 replace H : (if y312.length + ((rd_T62 l0 (ji5)).f2).length < 2513169434916 then ((some (y312 ++ ((rd_T62 l0 (ji5)).f2) : List (S50))).bind fun y315 => ((some (([(⟨(⟨a1_0, a1_1, a1_2, l1_3⟩ : S48), a1_4⟩ : S50)] : List (S50)) : List (S50))).bind fun y318 => (if y315.length + y318.length < 2513169434916 then ((hallmootref13_with.f l0 ((rd_T62 l0 (ji5)).f0) ((rd_T62 l0 (ji5)).f1) (y315 ++ y318)).bind fun t324 => (some t324)) else (none)))) else (none)) = some r := by first | (rw [hy312]; with_reducible exact H) | (have H2_ := (Option.bind_some _ _).symm.trans H; rw [hy312]; with_reducible exact H2_) | (have H2_ := (Option.bind_some _ _).symm.trans H; with_reducible exact H2_) | with_reducible exact H | (rw [hy312]; exact H) | exact H
 have Ny312 := aS hy312
 clear hy312
 by_cases c8 : y312.length + ((rd_T62 l0 (ji5)).f2).length < 2513169434916
 {
 rw [if_pos c8] at H
 have LMc8 := aS c8
 clear c8
 obtain ⟨y315, hy315⟩ : ∃ y_ : List (S50), y_ = (y312 ++ ((rd_T62 l0 (ji5)).f2)) := ⟨_, rfl⟩
 replace H : ((some (([(⟨(⟨a1_0, a1_1, a1_2, l1_3⟩ : S48), a1_4⟩ : S50)] : List (S50)) : List (S50))).bind fun y318 => (if y315.length + y318.length < 2513169434916 then ((hallmootref13_with.f l0 ((rd_T62 l0 (ji5)).f0) ((rd_T62 l0 (ji5)).f1) (y315 ++ y318)).bind fun t324 => (some t324)) else (none))) = some r := by first | (rw [hy315]; with_reducible exact H) | (have H2_ := (Option.bind_some _ _).symm.trans H; rw [hy315]; with_reducible exact H2_) | (have H2_ := (Option.bind_some _ _).symm.trans H; with_reducible exact H2_) | with_reducible exact H | (rw [hy315]; exact H) | exact H
 have Ny315 := aS hy315
 clear hy315
 obtain ⟨y318, hy318⟩ : ∃ y_ : List (S50), y_ = (([(⟨(⟨a1_0, a1_1, a1_2, l1_3⟩ : S48), a1_4⟩ : S50)] : List (S50))) := ⟨_, rfl⟩
 replace H : (if y315.length + y318.length < 2513169434916 then ((hallmootref13_with.f l0 ((rd_T62 l0 (ji5)).f0) ((rd_T62 l0 (ji5)).f1) (y315 ++ y318)).bind fun t324 => (some t324)) else (none)) = some r := by first | (rw [hy318]; with_reducible exact H) | (have H2_ := (Option.bind_some _ _).symm.trans H; rw [hy318]; with_reducible exact H2_) | (have H2_ := (Option.bind_some _ _).symm.trans H; with_reducible exact H2_) | with_reducible exact H | (rw [hy318]; exact H) | exact H
 have Ny318 := aS hy318
 clear hy318
 by_cases c9 : y315.length + y318.length < 2513169434916
 {
 rw [if_pos c9] at H
 have LMc9 := aS c9
 clear c9
 obtain ⟨y321, hy321⟩ : ∃ y_ : List (S50), y_ = (y315 ++ y318) := ⟨_, rfl⟩
 replace H : ((hallmootref13_with.f l0 ((rd_T62 l0 (ji5)).f0) ((rd_T62 l0 (ji5)).f1) y321).bind fun t324 => (some t324)) = some r := by first | (rw [hy321]; with_reducible exact H) | (have H2_ := (Option.bind_some _ _).symm.trans H; rw [hy321]; with_reducible exact H2_) | (have H2_ := (Option.bind_some _ _).symm.trans H; with_reducible exact H2_) | with_reducible exact H | (rw [hy321]; exact H) | exact H
 have Ny321 := aS hy321
 clear hy321
 replace H := Option.bind_eq_some_iff.mp H
 obtain ⟨t324, A100, H⟩ := H
 replace H : (some t324) = some r := H
 have A10 := aS A100
 clear A100
 obtain rfl := Option.some.inj H
 go_enter Try.func24, Try.ntmps24
 try go_wp2_with (first | ((with_reducible refine gate_dst (N := 3) rfl ?_); refine box_event ?hg (N := 3) ?hd (cs := #[.int .i64 a1_0, .int .i64 a1_1, .int .i64 a1_2, .slice A1_3 l1_3.length c1_3, .int .i64 a1_4]) (t := 50) ?hr ?_; (case hd => rfl); (case hg => rfl); (case hr => first | (go_simp; done) | (go_simp; rfl)); intro gb309 hg w11 hbox hb; have n0_ := aS (Kd.V_below (Kd.V_elderB (vv HO0.out) gb309 (Nat.le_of_eq hg.symm)) hb); have n1_ := aS (Kd.V_below (Kd.V_elderB (vv HO1_3.out) gb309 (Nat.le_of_eq hg.symm)) hb); have n2_ := aS (below_step bb hb); have n3_ := aS (hbox); have n4_ := aS ((by rw [hg]; exact bz : w.heap.size ≤ gb309)); have n5_ := aS ((by rw [hg]; exact bz : w.heap.size ≤ gb309)); clear HO0; clear HO1_3; clear HB; have HO0 := n0_; have HO1_3 := n1_; have HB := n2_; have BK309 := n3_; have GW309 := n4_; have GE309 := n5_; clear n0_ n1_ n2_ n3_ n4_ n5_; clear hb hbox hg; have p310 : 0 ≤ ((ji5) : Int) := dd; have q310 : (ji5) < (l0.length : Int) := dd; obtain ⟨ad310, A310_0, c310_0, A310_1, c310_1, A310_2, c310_2, e310, hx310_0, hx310_1, hx310_2, hl310_0, hi310_0, hl310_1, hi310_1, hl310_2, hi310_2⟩ := at_T62 (Kd.V_reads' HO0.out).2.2 (ji5) p310 q310; cases e310; obtain ⟨ce310, hce310, hMe310, hcc310⟩ := Kd.V_get HO0.out z62 (ji5) p310 (by first | exact q310 | exact dd | (have e_ := (Kd.V_reads' HO0.out).1; omega)); obtain ⟨ua310_0, uc310_0, ua310_1, uc310_1, ua310_2, uc310_2, rfl, ul310_0, ge310_0, ul310_1, ge310_1, ul310_2, ge310_2⟩ := k62_openF hMe310; have hv310_0 := hcc310 0 _ rfl; rw [Nat.add_zero] at hv310_0; replace hv310_0 := Option.some.inj (hv310_0.symm.trans hx310_0); injection hv310_0 with hva_ hvn_ hvc_; rw [hva_] at ge310_0; rw [hvc_] at ul310_0; have HL310_0 := aS (show Kd.V k30 30 _ w.heap.size _ _ ((rd_T62 l0 (ji5)).f0) from Kd.V_mk ul310_0 ge310_0); clear hva_ hvn_ hvc_ ge310_0 ul310_0; have hv310_1 := hcc310 1 _ rfl; rw [add_field _ _ 1 (by omega)] at hv310_1; replace hv310_1 := Option.some.inj (hv310_1.symm.trans hx310_1); injection hv310_1 with hva_ hvn_ hvc_; rw [hva_] at ge310_1; rw [hvc_] at ul310_1; have HL310_1 := aS (show Kd.V k33 33 _ w.heap.size _ _ ((rd_T62 l0 (ji5)).f1) from Kd.V_mk ul310_1 ge310_1); clear hva_ hvn_ hvc_ ge310_1 ul310_1; have hv310_2 := hcc310 2 _ rfl; rw [add_field _ _ 2 (by omega)] at hv310_2; replace hv310_2 := Option.some.inj (hv310_2.symm.trans hx310_2); injection hv310_2 with hva_ hvn_ hvc_; rw [hva_] at ge310_2; rw [hvc_] at ul310_2; have HL310_2 := aS (show Kd.V k50 50 _ w.heap.size _ _ ((rd_T62 l0 (ji5)).f2) from Kd.V_mk ul310_2 ge310_2); clear hva_ hvn_ hvc_ ge310_2 ul310_2; clear hcc310 hce310; have HR310_0 := aS hi310_0; have HC310_0 := aS hl310_0; clear hi310_0 hl310_0; have HR310_1 := aS hi310_1; have HC310_1 := aS hl310_1; clear hi310_1 hl310_1; have HR310_2 := aS hi310_2; have HC310_2 := aS hl310_2; clear hi310_2 hl310_2; replace p310 := eq_true p310; replace q310 := eq_true q310) | ((with_reducible refine gate_dst (N := 5) rfl ?_); refine box_event ?hg (N := 5) ?hd (cs := #[.slice none 0 0, .slice none 0 0, .slice none 0 0]) (t := 62) ?hr ?_; (case hd => rfl); (case hg => rfl); (case hr => first | (go_simp; done) | (go_simp; rfl)); intro gb311 hg w12 hbox hb; have n0_ := aS (Kd.V_below (Kd.V_elderB (vv HO0.out) gb311 (Nat.le_of_eq hg.symm)) hb); have n1_ := aS (Kd.V_below (Kd.V_elderB (vv HO1_3.out) gb311 (Nat.le_of_eq hg.symm)) hb); have n2_ := aS (Kd.V_below (Kd.V_elderB (vv HL310_0.out) gb311 (Nat.le_of_eq hg.symm)) hb); have n3_ := aS (Kd.V_below (Kd.V_elderB (vv HL310_1.out) gb311 (Nat.le_of_eq hg.symm)) hb); have n4_ := aS (Kd.V_below (Kd.V_elderB (vv HL310_2.out) gb311 (Nat.le_of_eq hg.symm)) hb); have n5_ := aS (blk_below (g := gb309) (o := .cells #[.int .i64 a1_0, .int .i64 a1_1, .int .i64 a1_2, .slice A1_3 l1_3.length c1_3, .int .i64 a1_4] 50 (0, 0)) (kk BK309.out) hb); have n6_ := aS (Kd.C_below (by repeat (first | (with_reducible exact HR310_0.out) | (with_reducible refine Kd.C_alloc ?_ _) | (with_reducible refine Kd.C_drewN ?_ _) | (with_reducible refine Kd.C_drew ?_) | exact HR310_0.out)) hb); have n7_ := aS (Kd.C_below (by repeat (first | (with_reducible exact HR310_1.out) | (with_reducible refine Kd.C_alloc ?_ _) | (with_reducible refine Kd.C_drewN ?_ _) | (with_reducible refine Kd.C_drew ?_) | exact HR310_1.out)) hb); have n8_ := aS (Kd.C_below (by repeat (first | (with_reducible exact HR310_2.out) | (with_reducible refine Kd.C_alloc ?_ _) | (with_reducible refine Kd.C_drewN ?_ _) | (with_reducible refine Kd.C_drew ?_) | exact HR310_2.out)) hb); have n9_ := aS (below_step bb hb); have n10_ := aS (hbox); have n11_ := aS ((by rw [hg]; exact bz : w.heap.size ≤ gb311)); have n12_ := aS ((by rw [hg]; exact bz : w.heap.size ≤ gb311)); have n13_ := aS ((by rw [hg]; exact Nat.ne_of_lt (blk_lt (g := gb309) (o := .cells #[.int .i64 a1_0, .int .i64 a1_1, .int .i64 a1_2, .slice A1_3 l1_3.length c1_3, .int .i64 a1_4] 50 (0, 0)) (kk BK309.out)) : gb309 ≠ gb311)); have n14_ := aS ((by rw [hg]; exact Nat.ne_of_gt (blk_lt (g := gb309) (o := .cells #[.int .i64 a1_0, .int .i64 a1_1, .int .i64 a1_2, .slice A1_3 l1_3.length c1_3, .int .i64 a1_4] 50 (0, 0)) (kk BK309.out)) : gb311 ≠ gb309)); clear HO0; clear HO1_3; clear HL310_0; clear HL310_1; clear HL310_2; clear BK309; clear HR310_0; clear HR310_1; clear HR310_2; clear HB; have HO0 := n0_; have HO1_3 := n1_; have HL310_0 := n2_; have HL310_1 := n3_; have HL310_2 := n4_; have BK309 := n5_; have HR310_0 := n6_; have HR310_1 := n7_; have HR310_2 := n8_; have HB := n9_; have BK311 := n10_; have GW311 := n11_; have GE311 := n12_; have NB309_311 := n13_; have NB311_309 := n14_; clear n0_ n1_ n2_ n3_ n4_ n5_ n6_ n7_ n8_ n9_ n10_ n11_ n12_ n13_ n14_; clear hb hbox hg; have hnb13 := NB311_309.out; have hnc13 := NB309_311.out; have hcz14_0 : w12.cell? ⟨gb311, 0, none⟩ = some (.slice none 0 0) := (blk_cell BK311.out 0).trans rfl; have hcz14_1 : w12.cell? ⟨gb311, 1, none⟩ = some (.slice none 0 0) := (blk_cell BK311.out 1).trans rfl; have hcz14_2 : w12.cell? ⟨gb311, 2, none⟩ = some (.slice none 0 0) := (blk_cell BK311.out 2).trans rfl; have hfz14_0 := blk_frozen BK311.out 0; have hfz14_1 := blk_frozen BK311.out 1; have hfz14_2 := blk_frozen BK311.out 2))
 have n0_ : Aside0 (Kd.V k62 62 (((w12.setCell ⟨gb311, 0, none⟩ (.slice A310_0 ((rd_T62 l0 (ji5)).f0).length c310_0)).setCell ⟨gb311, 1, none⟩ (.slice A310_1 ((rd_T62 l0 (ji5)).f1).length c310_1)).setCell ⟨gb311, 2, none⟩ (.slice A310_2 ((rd_T62 l0 (ji5)).f2).length c310_2)) w.heap.size (fun k_ => ((P0_ k_ ∨ P1_3_ k_) ∨ w.heap.size ≤ k_) ∧ k_ ≠ gb309 ∧ k_ ≠ gb311) (.slice (some ad310) l0.length c0) l0) := ⟨by (with_reducible repeat (first | apply Kd.V_alloc | apply Kd.V_drewN | apply Kd.V_drew)); exact Kd.V_mono (Kd.V_far (p := ⟨gb311, 2, none⟩) (Kd.V_far (p := ⟨gb311, 1, none⟩) (Kd.V_far (p := ⟨gb311, 0, none⟩) (Kd.V_mono HO0.out (fun k_ hk => (⟨hk, hk.2⟩ : _ ∧ k_ ≠ gb311))) (fun _ hk => hk.2) (.slice A310_0 ((rd_T62 l0 (ji5)).f0).length c310_0)) (fun _ hk => hk.2) (.slice A310_1 ((rd_T62 l0 (ji5)).f1).length c310_1)) (fun _ hk => hk.2) (.slice A310_2 ((rd_T62 l0 (ji5)).f2).length c310_2)) (fun _ hk => ⟨hk.1.1.1, ⟨hk.1.1.2, hk.1.2⟩⟩)⟩
 have n1_ : Aside0 (Kd.V k48 48 (((w12.setCell ⟨gb311, 0, none⟩ (.slice A310_0 ((rd_T62 l0 (ji5)).f0).length c310_0)).setCell ⟨gb311, 1, none⟩ (.slice A310_1 ((rd_T62 l0 (ji5)).f1).length c310_1)).setCell ⟨gb311, 2, none⟩ (.slice A310_2 ((rd_T62 l0 (ji5)).f2).length c310_2)) w.heap.size (fun k_ => ((P0_ k_ ∨ P1_3_ k_) ∨ w.heap.size ≤ k_) ∧ k_ ≠ gb309 ∧ k_ ≠ gb311) (.slice A1_3 l1_3.length c1_3) l1_3) := ⟨by (with_reducible repeat (first | apply Kd.V_alloc | apply Kd.V_drewN | apply Kd.V_drew)); exact Kd.V_mono (Kd.V_far (p := ⟨gb311, 2, none⟩) (Kd.V_far (p := ⟨gb311, 1, none⟩) (Kd.V_far (p := ⟨gb311, 0, none⟩) (Kd.V_mono HO1_3.out (fun k_ hk => (⟨hk, hk.2⟩ : _ ∧ k_ ≠ gb311))) (fun _ hk => hk.2) (.slice A310_0 ((rd_T62 l0 (ji5)).f0).length c310_0)) (fun _ hk => hk.2) (.slice A310_1 ((rd_T62 l0 (ji5)).f1).length c310_1)) (fun _ hk => hk.2) (.slice A310_2 ((rd_T62 l0 (ji5)).f2).length c310_2)) (fun _ hk => ⟨hk.1.1.1, ⟨hk.1.1.2, hk.1.2⟩⟩)⟩
 have n2_ : Aside0 (Kd.V k30 30 (((w12.setCell ⟨gb311, 0, none⟩ (.slice A310_0 ((rd_T62 l0 (ji5)).f0).length c310_0)).setCell ⟨gb311, 1, none⟩ (.slice A310_1 ((rd_T62 l0 (ji5)).f1).length c310_1)).setCell ⟨gb311, 2, none⟩ (.slice A310_2 ((rd_T62 l0 (ji5)).f2).length c310_2)) w.heap.size (fun k_ => ((P0_ k_ ∨ P1_3_ k_) ∨ w.heap.size ≤ k_) ∧ k_ ≠ gb309 ∧ k_ ≠ gb311) (.slice A310_0 ((rd_T62 l0 (ji5)).f0).length c310_0) ((rd_T62 l0 (ji5)).f0)) := ⟨by (with_reducible repeat (first | apply Kd.V_alloc | apply Kd.V_drewN | apply Kd.V_drew)); exact Kd.V_mono (Kd.V_far (p := ⟨gb311, 2, none⟩) (Kd.V_far (p := ⟨gb311, 1, none⟩) (Kd.V_far (p := ⟨gb311, 0, none⟩) (Kd.V_mono HL310_0.out (fun k_ hk => (⟨hk, hk.2⟩ : _ ∧ k_ ≠ gb311))) (fun _ hk => hk.2) (.slice A310_0 ((rd_T62 l0 (ji5)).f0).length c310_0)) (fun _ hk => hk.2) (.slice A310_1 ((rd_T62 l0 (ji5)).f1).length c310_1)) (fun _ hk => hk.2) (.slice A310_2 ((rd_T62 l0 (ji5)).f2).length c310_2)) (fun _ hk => ⟨hk.1.1.1, ⟨hk.1.1.2, hk.1.2⟩⟩)⟩
 have n3_ : Aside0 (Kd.V k33 33 (((w12.setCell ⟨gb311, 0, none⟩ (.slice A310_0 ((rd_T62 l0 (ji5)).f0).length c310_0)).setCell ⟨gb311, 1, none⟩ (.slice A310_1 ((rd_T62 l0 (ji5)).f1).length c310_1)).setCell ⟨gb311, 2, none⟩ (.slice A310_2 ((rd_T62 l0 (ji5)).f2).length c310_2)) w.heap.size (fun k_ => ((P0_ k_ ∨ P1_3_ k_) ∨ w.heap.size ≤ k_) ∧ k_ ≠ gb309 ∧ k_ ≠ gb311) (.slice A310_1 ((rd_T62 l0 (ji5)).f1).length c310_1) ((rd_T62 l0 (ji5)).f1)) := ⟨by (with_reducible repeat (first | apply Kd.V_alloc | apply Kd.V_drewN | apply Kd.V_drew)); exact Kd.V_mono (Kd.V_far (p := ⟨gb311, 2, none⟩) (Kd.V_far (p := ⟨gb311, 1, none⟩) (Kd.V_far (p := ⟨gb311, 0, none⟩) (Kd.V_mono HL310_1.out (fun k_ hk => (⟨hk, hk.2⟩ : _ ∧ k_ ≠ gb311))) (fun _ hk => hk.2) (.slice A310_0 ((rd_T62 l0 (ji5)).f0).length c310_0)) (fun _ hk => hk.2) (.slice A310_1 ((rd_T62 l0 (ji5)).f1).length c310_1)) (fun _ hk => hk.2) (.slice A310_2 ((rd_T62 l0 (ji5)).f2).length c310_2)) (fun _ hk => ⟨hk.1.1.1, ⟨hk.1.1.2, hk.1.2⟩⟩)⟩
 have n4_ : Aside0 (Kd.V k50 50 (((w12.setCell ⟨gb311, 0, none⟩ (.slice A310_0 ((rd_T62 l0 (ji5)).f0).length c310_0)).setCell ⟨gb311, 1, none⟩ (.slice A310_1 ((rd_T62 l0 (ji5)).f1).length c310_1)).setCell ⟨gb311, 2, none⟩ (.slice A310_2 ((rd_T62 l0 (ji5)).f2).length c310_2)) w.heap.size (fun k_ => ((P0_ k_ ∨ P1_3_ k_) ∨ w.heap.size ≤ k_) ∧ k_ ≠ gb309 ∧ k_ ≠ gb311) (.slice A310_2 ((rd_T62 l0 (ji5)).f2).length c310_2) ((rd_T62 l0 (ji5)).f2)) := ⟨by (with_reducible repeat (first | apply Kd.V_alloc | apply Kd.V_drewN | apply Kd.V_drew)); exact Kd.V_mono (Kd.V_far (p := ⟨gb311, 2, none⟩) (Kd.V_far (p := ⟨gb311, 1, none⟩) (Kd.V_far (p := ⟨gb311, 0, none⟩) (Kd.V_mono HL310_2.out (fun k_ hk => (⟨hk, hk.2⟩ : _ ∧ k_ ≠ gb311))) (fun _ hk => hk.2) (.slice A310_0 ((rd_T62 l0 (ji5)).f0).length c310_0)) (fun _ hk => hk.2) (.slice A310_1 ((rd_T62 l0 (ji5)).f1).length c310_1)) (fun _ hk => hk.2) (.slice A310_2 ((rd_T62 l0 (ji5)).f2).length c310_2)) (fun _ hk => ⟨hk.1.1.1, ⟨hk.1.1.2, hk.1.2⟩⟩)⟩
 have n5_ : Aside0 ((((w12.setCell ⟨gb311, 0, none⟩ (.slice A310_0 ((rd_T62 l0 (ji5)).f0).length c310_0)).setCell ⟨gb311, 1, none⟩ (.slice A310_1 ((rd_T62 l0 (ji5)).f1).length c310_1)).setCell ⟨gb311, 2, none⟩ (.slice A310_2 ((rd_T62 l0 (ji5)).f2).length c310_2)).heap[gb309]? = some (.cells #[.int .i64 a1_0, .int .i64 a1_1, .int .i64 a1_2, .slice A1_3 l1_3.length c1_3, .int .i64 a1_4] 50 (0, 0))) := ⟨by (with_reducible repeat (first | refine blk_drewN ?_ _ | refine blk_drew ?_ | refine blk_alloc ?_ _)); refine blk_far ?_ NB309_311.out _; (with_reducible repeat (first | refine blk_drewN ?_ _ | refine blk_drew ?_ | refine blk_alloc ?_ _)); refine blk_far ?_ NB309_311.out _; (with_reducible repeat (first | refine blk_drewN ?_ _ | refine blk_drew ?_ | refine blk_alloc ?_ _)); refine blk_far ?_ NB309_311.out _; (with_reducible repeat (first | refine blk_drewN ?_ _ | refine blk_drew ?_ | refine blk_alloc ?_ _)); exact BK309.out⟩
 have n6_ : Aside0 ((((w12.setCell ⟨gb311, 0, none⟩ (.slice A310_0 ((rd_T62 l0 (ji5)).f0).length c310_0)).setCell ⟨gb311, 1, none⟩ (.slice A310_1 ((rd_T62 l0 (ji5)).f1).length c310_1)).setCell ⟨gb311, 2, none⟩ (.slice A310_2 ((rd_T62 l0 (ji5)).f2).length c310_2)).heap[gb311]? = some (.cells #[.slice A310_0 ((rd_T62 l0 (ji5)).f0).length c310_0, .slice A310_1 ((rd_T62 l0 (ji5)).f1).length c310_1, .slice A310_2 ((rd_T62 l0 (ji5)).f2).length c310_2] 62 (0, 0))) := ⟨by (with_reducible repeat (first | refine blk_drewN ?_ _ | refine blk_drew ?_ | refine blk_alloc ?_ _)); refine blk_put (cs := #[.slice A310_0 ((rd_T62 l0 (ji5)).f0).length c310_0, .slice A310_1 ((rd_T62 l0 (ji5)).f1).length c310_1, .slice none 0 0]) ?_ 2 _ rfl; (with_reducible repeat (first | refine blk_drewN ?_ _ | refine blk_drew ?_ | refine blk_alloc ?_ _)); refine blk_put (cs := #[.slice A310_0 ((rd_T62 l0 (ji5)).f0).length c310_0, .slice none 0 0, .slice none 0 0]) ?_ 1 _ rfl; (with_reducible repeat (first | refine blk_drewN ?_ _ | refine blk_drew ?_ | refine blk_alloc ?_ _)); refine blk_put (cs := #[.slice none 0 0, .slice none 0 0, .slice none 0 0]) ?_ 0 _ rfl; (with_reducible repeat (first | refine blk_drewN ?_ _ | refine blk_drew ?_ | refine blk_alloc ?_ _)); exact BK311.out⟩
 have n7_ : Aside0 (Below w.heap.size w (((w12.setCell ⟨gb311, 0, none⟩ (.slice A310_0 ((rd_T62 l0 (ji5)).f0).length c310_0)).setCell ⟨gb311, 1, none⟩ (.slice A310_1 ((rd_T62 l0 (ji5)).f1).length c310_1)).setCell ⟨gb311, 2, none⟩ (.slice A310_2 ((rd_T62 l0 (ji5)).f2).length c310_2))) := ⟨by repeat (first | (with_reducible first | exact HB.out | apply below_alloc | apply pw_below_drewN | apply below_drew1 | refine below_set ?_ GE309.out | refine below_set ?_ GE311.out) | exact HB.out)⟩
 (try clear HO0)
 (try clear HO1_3)
 (try clear HL310_0)
 (try clear HL310_1)
 (try clear HL310_2)
 (try clear BK309)
 (try clear BK311)
 (try clear HB)
 generalize (((w12.setCell ⟨gb311, 0, none⟩ (.slice A310_0 ((rd_T62 l0 (ji5)).f0).length c310_0)).setCell ⟨gb311, 1, none⟩ (.slice A310_1 ((rd_T62 l0 (ji5)).f1).length c310_1)).setCell ⟨gb311, 2, none⟩ (.slice A310_2 ((rd_T62 l0 (ji5)).f2).length c310_2)) = w15 at n0_ n1_ n2_ n3_ n4_ n5_ n6_ n7_ ⊢
 have HO0 := n0_
 have HO1_3 := n1_
 have HL310_0 := n2_
 have HL310_1 := n3_
 have HL310_2 := n4_
 have BK309 := n5_
 have BK311 := n6_
 have HB := n7_
 clear n0_ n1_ n2_ n3_ n4_ n5_ n6_ n7_
 have n0_ := aS (Kd.V_drew HO0.out)
 have n1_ := aS (Kd.V_drew HO1_3.out)
 have n2_ := aS (Kd.V_drew HL310_0.out)
 have n3_ := aS (Kd.V_drew HL310_1.out)
 have n4_ := aS (Kd.V_drew HL310_2.out)
 have n5_ := aS (blk_drew BK309.out)
 have n6_ := aS (blk_drew BK311.out)
 have n7_ := aS (below_drew1 HB.out)
 clear HO0
 clear HO1_3
 clear HL310_0
 clear HL310_1
 clear HL310_2
 clear BK309
 clear BK311
 clear HB
 have HO0 := n0_
 have HO1_3 := n1_
 have HL310_0 := n2_
 have HL310_1 := n3_
 have HL310_2 := n4_
 have BK309 := n5_
 have BK311 := n6_
 have HB := n7_
 clear n0_ n1_ n2_ n3_ n4_ n5_ n6_ n7_
 refine start_ (n := 9) (S := fun w' => w'.cell? ⟨gb311, 0, none⟩ = some (.slice A310_0 ((rd_T62 l0 (ji5)).f0).length c310_0) ∧ w'.cell? ⟨gb311, 1, none⟩ = some (.slice A310_1 ((rd_T62 l0 (ji5)).f1).length c310_1) ∧ w'.cell? ⟨gb311, 2, none⟩ = some (.slice A310_2 ((rd_T62 l0 (ji5)).f2).length c310_2) ∧ w'.cell? ⟨gb309, 0, none⟩ = some (.int .i64 a1_0) ∧ w'.cell? ⟨gb309, 1, none⟩ = some (.int .i64 a1_1) ∧ w'.cell? ⟨gb309, 2, none⟩ = some (.int .i64 a1_2) ∧ w'.cell? ⟨gb309, 3, none⟩ = some (.slice A1_3 l1_3.length c1_3) ∧ w'.cell? ⟨gb309, 4, none⟩ = some (.int .i64 a1_4)) (ds := [8]) #[false, false, false, false, false, false, false, false, false] (by kernel_rfl) rfl rfl ⟨(blk_cell BK311.out 0).trans rfl, (blk_cell BK311.out 1).trans rfl, (blk_cell BK311.out 2).trans rfl, (blk_cell BK309.out 0).trans rfl, (blk_cell BK309.out 1).trans rfl, (blk_cell BK309.out 2).trans rfl, (blk_cell BK309.out 3).trans rfl, (blk_cell BK309.out 4).trans rfl⟩ (fun hHeld => ?_); refine with_tabW hallmootref13_Keep.tab4 hallmootref13_Keep.bits4 (fun HT_ HW_ => ?_)
 generalize w15.drew = w16 at HO0 HO1_3 HL310_0 HL310_1 HL310_2 BK309 BK311 HB hHeld ⊢
 refine pure_ (i := 1) (N := some 17) (v := ?_) (a' := ?_) #[false, true, false, false, false, false, false, false, false] rfl rfl (any_of HT_.out (by kernel_rfl)) (fun _ _ _ h => h) (Or.inl ⟨by rfl, ?_⟩) ?_ ?_
 rotate_left
 {
 intro w'
 go_simp
 with_reducible rfl }
 rotate_left
 {
 simp only [Act.put, sT, s0, s1, i64_w, i32_w]
 rfl }
 refine take_ (i := 2) (N := some 18) (v := ?_) (a' := ?_) #[false, true, true, false, false, false, false, false, false] rfl rfl (take_ofW HT_.out HW_.out (by kernel_rfl)) (fun _ _ _ h => h) (Or.inl ⟨by rfl, ?_⟩) hHeld ?_ ?_
 rotate_left
 {
 rintro w' ⟨s0, s1, s2, s3, s4, s5, s6, s7⟩
 go_simp
 with_reducible rfl }
 rotate_left
 {
 simp only [Act.put, sT, s0, s1, i64_w, i32_w]
 rfl }
 refine take_ (i := 4) (N := some 20) (v := ?_) (a' := ?_) #[false, true, true, false, true, false, false, false, false] rfl rfl (take_ofW HT_.out HW_.out (by kernel_rfl)) (fun _ _ _ h => h) (Or.inl ⟨by rfl, ?_⟩) hHeld ?_ ?_
 rotate_left
 {
 rintro w' ⟨s0, s1, s2, s3, s4, s5, s6, s7⟩
 go_simp
 with_reducible rfl }
 rotate_left
 {
 simp only [Act.put, sT, s0, s1, i64_w, i32_w]
 rfl }
 refine join_ (σ := Value × Value × Value) 3 #[true, true, true, true, true, true, false, false, false] (fun s_ => [(16, s_.1), (19, s_.2.1), (21, s_.2.2)]) (fun s_ w' => (w'.cell? ⟨gb311, 0, none⟩ = some (.slice A310_0 ((rd_T62 l0 (ji5)).f0).length c310_0) ∧ w'.cell? ⟨gb311, 1, none⟩ = some (.slice A310_1 ((rd_T62 l0 (ji5)).f1).length c310_1) ∧ w'.cell? ⟨gb311, 2, none⟩ = some (.slice A310_2 ((rd_T62 l0 (ji5)).f2).length c310_2) ∧ w'.cell? ⟨gb309, 0, none⟩ = some (.int .i64 a1_0) ∧ w'.cell? ⟨gb309, 1, none⟩ = some (.int .i64 a1_1) ∧ w'.cell? ⟨gb309, 2, none⟩ = some (.int .i64 a1_2) ∧ w'.cell? ⟨gb309, 3, none⟩ = some (.slice A1_3 l1_3.length c1_3) ∧ w'.cell? ⟨gb309, 4, none⟩ = some (.int .i64 a1_4)) ∧ (Kd.V k30 30 w' w.heap.size (fun k_ => ((P0_ k_ ∨ P1_3_ k_) ∨ w.heap.size ≤ k_) ∧ some k_ ≠ (s_.2.1 : Value).ownBlock ∧ some k_ ≠ (s_.2.2 : Value).ownBlock ∧ k_ ≠ gb309 ∧ k_ ≠ gb311) (.slice A310_0 ((rd_T62 l0 (ji5)).f0).length c310_0) ((rd_T62 l0 (ji5)).f0)) ∧ (Kd.V k33 33 w' w.heap.size (fun k_ => ((P0_ k_ ∨ P1_3_ k_) ∨ w.heap.size ≤ k_) ∧ some k_ ≠ (s_.2.1 : Value).ownBlock ∧ some k_ ≠ (s_.2.2 : Value).ownBlock ∧ k_ ≠ gb309 ∧ k_ ≠ gb311) (.slice A310_1 ((rd_T62 l0 (ji5)).f1).length c310_1) ((rd_T62 l0 (ji5)).f1)) ∧ (Kd.V k50 50 w' w.heap.size (fun k_ => ((P0_ k_ ∨ P1_3_ k_) ∨ w.heap.size ≤ k_) ∧ some k_ ≠ (s_.2.1 : Value).ownBlock ∧ some k_ ≠ (s_.2.2 : Value).ownBlock ∧ k_ ≠ gb309 ∧ k_ ≠ gb311) (.slice A310_2 ((rd_T62 l0 (ji5)).f2).length c310_2) ((rd_T62 l0 (ji5)).f2)) ∧ (Kd.V k62 62 w' w.heap.size (fun k_ => ((P0_ k_ ∨ P1_3_ k_) ∨ w.heap.size ≤ k_) ∧ some k_ ≠ (s_.2.1 : Value).ownBlock ∧ some k_ ≠ (s_.2.2 : Value).ownBlock ∧ k_ ≠ gb309 ∧ k_ ≠ gb311) (.slice (some ad310) l0.length c0) l0) ∧ (Kd.V k48 48 w' w.heap.size (fun k_ => ((P0_ k_ ∨ P1_3_ k_) ∨ w.heap.size ≤ k_) ∧ some k_ ≠ (s_.2.1 : Value).ownBlock ∧ some k_ ≠ (s_.2.2 : Value).ownBlock ∧ k_ ≠ gb309 ∧ k_ ≠ gb311) (.slice A1_3 l1_3.length c1_3) l1_3) ∧ (Kd.N k50 50 w' w.heap.size (fun k_ => ((P0_ k_ ∨ P1_3_ k_) ∨ w.heap.size ≤ k_) ∧ some k_ ≠ (s_.2.2 : Value).ownBlock ∧ k_ ≠ gb309 ∧ k_ ≠ gb311) s_.2.1 y315) ∧ (Kd.N k50 50 w' w.heap.size (fun k_ => ((P0_ k_ ∨ P1_3_ k_) ∨ w.heap.size ≤ k_) ∧ some k_ ≠ (s_.2.1 : Value).ownBlock ∧ k_ ≠ gb309 ∧ k_ ≠ gb311) s_.2.2 y318) ∧ (w'.heap[gb309]? = some (.cells #[.int .i64 a1_0, .int .i64 a1_1, .int .i64 a1_2, .slice A1_3 l1_3.length c1_3, .int .i64 a1_4] 50 (0, 0))) ∧ (w'.heap[gb311]? = some (.cells #[.slice A310_0 ((rd_T62 l0 (ji5)).f0).length c310_0, .slice A310_1 ((rd_T62 l0 (ji5)).f1).length c310_1, .slice A310_2 ((rd_T62 l0 (ji5)).f2).length c310_2] 62 (0, 0))) ∧ (Below w.heap.size w w')) ?_ ?_
 rotate_left
 {
 intro hCont
 refine two_ (i := 0) (j := 5) (Ni := some 16) (Nj := some 21) #[true, true, true, false, true, false, false, false, false] #[false, true, true, false, true, true, false, false, false] rfl rfl rfl rfl (two_of HT_.out (by kernel_rfl)) (by decide) (by decide) (fun K hK => ?_) (fun K hK => ?_)
 {
 skip
 refine Kd.N_lit_step k50 _ 50 ?hg (N' := 16) ?hd (xs := ([] : List (S50))) (inner := []) (ok := (fun k_ => ((P0_ k_ ∨ P1_3_ k_) ∨ w.heap.size ≤ k_) ∧ k_ ≠ gb309 ∧ k_ ≠ gb311)) (okp := (fun k_ => ((P0_ k_ ∨ P1_3_ k_) ∨ w.heap.size ≤ k_) ∧ k_ ≠ gb309 ∧ k_ ≠ gb311)) ?hr ?hp (fun _ hk => hk) ((show ∀ k_, w16.heap.size ≤ k_ → (fun k_ => ((P0_ k_ ∨ P1_3_ k_) ∨ w.heap.size ≤ k_) ∧ k_ ≠ gb309 ∧ k_ ≠ gb311) k_ from fun k_ hk => ⟨(.inr (Nat.le_trans bz hk)), Kd.freshB (g := gb309) (o := .cells #[.int .i64 a1_0, .int .i64 a1_1, .int .i64 a1_2, .slice A1_3 l1_3.length c1_3, .int .i64 a1_4] 50 (0, 0)) (kk BK309.out) k_ hk, Kd.freshB (g := gb311) (o := .cells #[.slice A310_0 ((rd_T62 l0 (ji5)).f0).length c310_0, .slice A310_1 ((rd_T62 l0 (ji5)).f1).length c310_1, .slice A310_2 ((rd_T62 l0 (ji5)).f2).length c310_2] 62 (0, 0)) (kk BK311.out) k_ hk⟩) _ (Nat.le_refl _)) (Below.refl _ _) (Nat.le_refl _) (by simp) ?_; (case hd => rfl); (case hg => rfl); (case hr => first | (go_simp; done) | (go_simp; rfl)); (case hp => exact (Reps.none _ _))
 intro v313 w17 ho18 hb hg_ hnew_
 clear hg_ hnew_
 (first | rw [← Ny312.out] at ho18 | (simp only [Int.reduceToNat] at ho18; rw [← Ny312.out] at ho18))
 have n0_ := aS (Kd.V_elder' (vv HO0.out) (Kd.N_base ho18) hb)
 have n1_ := aS (Kd.V_elder' (vv HO1_3.out) (Kd.N_base ho18) hb)
 have n2_ := aS (Kd.V_elder' (vv HL310_0.out) (Kd.N_base ho18) hb)
 have n3_ := aS (Kd.V_elder' (vv HL310_1.out) (Kd.N_base ho18) hb)
 have n4_ := aS (Kd.V_elder' (vv HL310_2.out) (Kd.N_base ho18) hb)
 have n5_ := aS (Kd.N_lower ho18 bz)
 have n6_ := aS (blk_below (g := gb309) (o := .cells #[.int .i64 a1_0, .int .i64 a1_1, .int .i64 a1_2, .slice A1_3 l1_3.length c1_3, .int .i64 a1_4] 50 (0, 0)) (kk BK309.out) hb)
 have n7_ := aS (blk_below (g := gb311) (o := .cells #[.slice A310_0 ((rd_T62 l0 (ji5)).f0).length c310_0, .slice A310_1 ((rd_T62 l0 (ji5)).f1).length c310_1, .slice A310_2 ((rd_T62 l0 (ji5)).f2).length c310_2] 62 (0, 0)) (kk BK311.out) hb)
 have n8_ := aS (below_step bb hb)
 clear HO0
 clear HO1_3
 clear HL310_0
 clear HL310_1
 clear HL310_2
 clear BK309
 clear BK311
 clear HB
 have HO0 := n0_
 have HO1_3 := n1_
 have HL310_0 := n2_
 have HL310_1 := n3_
 have HL310_2 := n4_
 have HO314 := n5_
 have BK309 := n6_
 have BK311 := n7_
 have HB := n8_
 clear n0_ n1_ n2_ n3_ n4_ n5_ n6_ n7_ n8_
 clear hb ho18
 refine hK.out _ _ ⟨(blk_cell BK311.out 0).trans rfl, (blk_cell BK311.out 1).trans rfl, (blk_cell BK311.out 2).trans rfl, (blk_cell BK309.out 0).trans rfl, (blk_cell BK309.out 1).trans rfl, (blk_cell BK309.out 2).trans rfl, (blk_cell BK309.out 3).trans rfl, (blk_cell BK309.out 4).trans rfl⟩ (fun hHeld => ?_)
 clear hK K
 refine norm_ (a' := ?_) ?_ ?_
 rotate_left
 {
 show Act.put _ (some 16) _ = _
 simp only [Act.put, sT, s0, s1, i64_w, i32_w]
 rfl }
 refine two_ (i := 3) (j := 5) (Ni := some 19) (Nj := some 21) #[true, true, true, true, true, false, false, false, false] #[true, true, true, false, true, true, false, false, false] rfl rfl rfl rfl (two_of HT_.out (by kernel_rfl)) (by decide) (by decide) (fun K hK => ?_) (fun K hK => ?_)
 {
 skip
 refine Kd.N_append_rows_step k50 (w0 := w) w.heap.size (by rfl) (.tmp 16) (.tmp 18) 34 50 (.agg #[(.int .i64 0), (.int .i64 0), (.int .i64 0), (.slice none 0 0), (.int .i64 0)]) 56 rfl Try.underlying34 info50 rfl (by decide) (by omega) v313 y312 ((rd_T62 l0 (ji5)).f2) _ _ _ (fun k_ => ((P0_ k_ ∨ P1_3_ k_) ∨ w.heap.size ≤ k_) ∧ k_ ≠ gb309 ∧ k_ ≠ gb311) (fun k_ => ((fun k_ => ((P0_ k_ ∨ P1_3_ k_) ∨ w.heap.size ≤ k_) ∧ k_ ≠ gb309 ∧ k_ ≠ gb311)) k_ ∧ some k_ ≠ (v313 : Value).ownBlock) rfl rfl ?aO ?aR (fun _ hk => hk) ?aF ?aB ?aS ?aL ?_
 (case aR => exact (by skip; exact Kd.V_F (Kd.V_mono (ok' := (fun k_ => ((fun k_ => ((P0_ k_ ∨ P1_3_ k_) ∨ w.heap.size ≤ k_) ∧ k_ ≠ gb309 ∧ k_ ≠ gb311)) k_ ∧ some k_ ≠ (v313 : Value).ownBlock)) (HL310_2.out) (fun k_ hk => ⟨⟨hk.1.1, ⟨hk.1.2.1, hk.1.2.2⟩⟩, hk.2⟩))))
 (case aB => exact bb)
 (case aF => exact (fun k_ hk => ⟨(.inr (Nat.le_trans bz hk)), Kd.freshB (g := gb309) (o := .cells #[.int .i64 a1_0, .int .i64 a1_1, .int .i64 a1_2, .slice A1_3 l1_3.length c1_3, .int .i64 a1_4] 50 (0, 0)) (kk BK309.out) k_ hk, Kd.freshB (g := gb311) (o := .cells #[.slice A310_0 ((rd_T62 l0 (ji5)).f0).length c310_0, .slice A310_1 ((rd_T62 l0 (ji5)).f1).length c310_1, .slice A310_2 ((rd_T62 l0 (ji5)).f2).length c310_2] 62 (0, 0)) (kk BK311.out) k_ hk⟩))
 (case aO => exact (by (with_reducible repeat (first | apply Kd.N_alloc | apply Kd.N_drewN | apply Kd.N_drew)); exact HO314.out))
 (case aS => exact bz)
 (case aL => have := LMc8.out; omega)
 intro v316 w19 ho hb hg hat
 rw [← Ny315.out] at ho
 have n0_ := aS (Kd.V_afterv (ok := (fun k_ => ((P0_ k_ ∨ P1_3_ k_) ∨ w.heap.size ≤ k_) ∧ k_ ≠ gb309 ∧ k_ ≠ gb311)) (vv HO0.out) hg hat)
 have n1_ := aS (Kd.V_afterv (ok := (fun k_ => ((P0_ k_ ∨ P1_3_ k_) ∨ w.heap.size ≤ k_) ∧ k_ ≠ gb309 ∧ k_ ≠ gb311)) (vv HO1_3.out) hg hat)
 have n2_ := aS (blk_grown (g := gb309) (o := .cells #[.int .i64 a1_0, .int .i64 a1_1, .int .i64 a1_2, .slice A1_3 l1_3.length c1_3, .int .i64 a1_4] 50 (0, 0)) (kk BK309.out) hg (Kd.N_away HO314.out (fun _ hk => hk.2.1)))
 have n3_ := aS (Kd.V_afterv (ok := (fun k_ => ((P0_ k_ ∨ P1_3_ k_) ∨ w.heap.size ≤ k_) ∧ k_ ≠ gb309 ∧ k_ ≠ gb311)) (vv HL310_0.out) hg hat)
 have n4_ := aS (Kd.V_afterv (ok := (fun k_ => ((P0_ k_ ∨ P1_3_ k_) ∨ w.heap.size ≤ k_) ∧ k_ ≠ gb309 ∧ k_ ≠ gb311)) (vv HL310_1.out) hg hat)
 have n5_ := aS (Kd.V_afterv (ok := (fun k_ => ((P0_ k_ ∨ P1_3_ k_) ∨ w.heap.size ≤ k_) ∧ k_ ≠ gb309 ∧ k_ ≠ gb311)) (vv HL310_2.out) hg hat)
 have n6_ := aS (blk_grown (g := gb311) (o := .cells #[.slice A310_0 ((rd_T62 l0 (ji5)).f0).length c310_0, .slice A310_1 ((rd_T62 l0 (ji5)).f1).length c310_1, .slice A310_2 ((rd_T62 l0 (ji5)).f2).length c310_2] 62 (0, 0)) (kk BK311.out) hg (Kd.N_ne HO314.out BK311.out (by decide)))
 have n7_ := aS (hb)
 have n8_ := aS (ho)
 clear HO0
 clear HO1_3
 clear BK309
 clear HL310_0
 clear HL310_1
 clear HL310_2
 clear BK311
 clear HB
 clear HO314
 have HO0 := n0_
 have HO1_3 := n1_
 have BK309 := n2_
 have HL310_0 := n3_
 have HL310_1 := n4_
 have HL310_2 := n5_
 have BK311 := n6_
 have HB := n7_
 have HO317 := n8_
 clear n0_ n1_ n2_ n3_ n4_ n5_ n6_ n7_ n8_
 clear ho hb hg hat
 refine hK.out _ _ ⟨(blk_cell BK311.out 0).trans rfl, (blk_cell BK311.out 1).trans rfl, (blk_cell BK311.out 2).trans rfl, (blk_cell BK309.out 0).trans rfl, (blk_cell BK309.out 1).trans rfl, (blk_cell BK309.out 2).trans rfl, (blk_cell BK309.out 3).trans rfl, (blk_cell BK309.out 4).trans rfl⟩ (fun hHeld => ?_)
 clear hK K
 refine norm_ (a' := ?_) ?_ ?_
 rotate_left
 {
 show Act.put _ (some 19) _ = _
 simp only [Act.put, sT, s0, s1, i64_w, i32_w]
 rfl }
 refine one_ (i := 5) (N := some 21) #[true, true, true, true, true, true, false, false, false] rfl rfl (one_of HT_.out (by kernel_rfl)) (by decide) (fun K hK => ?_)
 refine Kd.N_lit_step k50 _ 50 ?hg (N' := 21) ?hd (xs := ([(⟨(⟨a1_0, a1_1, a1_2, l1_3⟩ : S48), a1_4⟩ : S50)] : List (S50))) (inner := [.int .i64 a1_0, .int .i64 a1_1, .int .i64 a1_2, .slice A1_3 l1_3.length c1_3, .int .i64 a1_4]) (ok := (fun k_ => ((P0_ k_ ∨ P1_3_ k_) ∨ w.heap.size ≤ k_) ∧ some k_ ≠ (v316 : Value).ownBlock ∧ k_ ≠ gb309 ∧ k_ ≠ gb311)) (okp := (fun k_ => ((P0_ k_ ∨ P1_3_ k_) ∨ w.heap.size ≤ k_) ∧ some k_ ≠ (v316 : Value).ownBlock ∧ k_ ≠ gb309 ∧ k_ ≠ gb311)) ?hr ?hp (fun _ hk => hk) ((show ∀ k_, w19.heap.size ≤ k_ → (fun k_ => ((P0_ k_ ∨ P1_3_ k_) ∨ w.heap.size ≤ k_) ∧ some k_ ≠ (v316 : Value).ownBlock ∧ k_ ≠ gb309 ∧ k_ ≠ gb311) k_ from fun k_ hk => ⟨(.inr (Nat.le_trans bz hk)), Kd.fresh' (Kd.N_lt (by (with_reducible repeat (first | apply Kd.N_alloc | apply Kd.N_drewN | apply Kd.N_drew)); exact HO317.out)) k_ hk, Kd.freshB (g := gb309) (o := .cells #[.int .i64 a1_0, .int .i64 a1_1, .int .i64 a1_2, .slice A1_3 l1_3.length c1_3, .int .i64 a1_4] 50 (0, 0)) (kk BK309.out) k_ hk, Kd.freshB (g := gb311) (o := .cells #[.slice A310_0 ((rd_T62 l0 (ji5)).f0).length c310_0, .slice A310_1 ((rd_T62 l0 (ji5)).f1).length c310_1, .slice A310_2 ((rd_T62 l0 (ji5)).f2).length c310_2] 62 (0, 0)) (kk BK311.out) k_ hk⟩) _ (Nat.le_refl _)) (Below.refl _ _) (Nat.le_refl _) (by simp) ?_; (case hd => rfl); (case hg => rfl); (case hr => first | (go_simp; done) | (go_simp; rfl)); (case hp => exact (Reps.c5 (show Kd.FK k50 _ _ (⟨(⟨a1_0, a1_1, a1_2, l1_3⟩ : S48), a1_4⟩ : S50) [.int .i64 a1_0, .int .i64 a1_1, .int .i64 a1_2, .slice A1_3 l1_3.length c1_3, .int .i64 a1_4] from (k50_mkF _ _ (⟨(⟨a1_0, a1_1, a1_2, l1_3⟩ : S48), a1_4⟩ : S50) (Kd.V_reads' (Kd.V_mono (ok' := (fun k_ => ((P0_ k_ ∨ P1_3_ k_) ∨ w.heap.size ≤ k_) ∧ some k_ ≠ (v316 : Value).ownBlock ∧ k_ ≠ gb309 ∧ k_ ≠ gb311)) (HO1_3.out) (fun k_ hk => ⟨hk.1.1, ⟨hk.2, ⟨hk.1.2.1, hk.1.2.2⟩⟩⟩))).2.1 (Kd.V_F (Kd.V_mono (ok' := (fun k_ => ((P0_ k_ ∨ P1_3_ k_) ∨ w.heap.size ≤ k_) ∧ some k_ ≠ (v316 : Value).ownBlock ∧ k_ ≠ gb309 ∧ k_ ≠ gb311)) (HO1_3.out) (fun k_ hk => ⟨hk.1.1, ⟨hk.2, ⟨hk.1.2.1, hk.1.2.2⟩⟩⟩))))) (Reps.none _ _)))
 intro v319 w20 ho21 hb hg_ hnew_
 clear hg_ hnew_
 (first | rw [← Ny318.out] at ho21 | (simp only [Int.reduceToNat] at ho21; rw [← Ny318.out] at ho21))
 have n0_ := aS (Kd.V_elder' (vv HO0.out) (Kd.N_base ho21) hb)
 have n1_ := aS (Kd.V_elder' (vv HO1_3.out) (Kd.N_base ho21) hb)
 have n2_ := aS (Kd.V_elder' (vv HL310_0.out) (Kd.N_base ho21) hb)
 have n3_ := aS (Kd.V_elder' (vv HL310_1.out) (Kd.N_base ho21) hb)
 have n4_ := aS (Kd.V_elder' (vv HL310_2.out) (Kd.N_base ho21) hb)
 have n5_ := aS (Kd.N_elder' (by (with_reducible repeat (first | apply Kd.N_alloc | apply Kd.N_drewN | apply Kd.N_drew)); exact HO317.out) (Kd.N_base ho21) hb)
 have n6_ := aS (Kd.N_lower ho21 bz)
 have n7_ := aS (blk_below (g := gb309) (o := .cells #[.int .i64 a1_0, .int .i64 a1_1, .int .i64 a1_2, .slice A1_3 l1_3.length c1_3, .int .i64 a1_4] 50 (0, 0)) (kk BK309.out) hb)
 have n8_ := aS (blk_below (g := gb311) (o := .cells #[.slice A310_0 ((rd_T62 l0 (ji5)).f0).length c310_0, .slice A310_1 ((rd_T62 l0 (ji5)).f1).length c310_1, .slice A310_2 ((rd_T62 l0 (ji5)).f2).length c310_2] 62 (0, 0)) (kk BK311.out) hb)
 have n9_ := aS (below_step bb hb)
 clear HO0
 clear HO1_3
 clear HL310_0
 clear HL310_1
 clear HL310_2
 clear HO317
 clear BK309
 clear BK311
 clear HB
 have HO0 := n0_
 have HO1_3 := n1_
 have HL310_0 := n2_
 have HL310_1 := n3_
 have HL310_2 := n4_
 have HO317 := n5_
 have HO320 := n6_
 have BK309 := n7_
 have BK311 := n8_
 have HB := n9_
 clear n0_ n1_ n2_ n3_ n4_ n5_ n6_ n7_ n8_ n9_
 clear hb ho21
 refine hK.out _ _ ⟨(blk_cell BK311.out 0).trans rfl, (blk_cell BK311.out 1).trans rfl, (blk_cell BK311.out 2).trans rfl, (blk_cell BK309.out 0).trans rfl, (blk_cell BK309.out 1).trans rfl, (blk_cell BK309.out 2).trans rfl, (blk_cell BK309.out 3).trans rfl, (blk_cell BK309.out 4).trans rfl⟩ (fun hHeld => ?_)
 clear hK K
 refine norm_ (a' := ?_) ?_ ?_
 rotate_left
 {
 show Act.put _ (some 21) _ = _
 simp only [Act.put, sT, s0, s1, i64_w, i32_w]
 rfl }
 exact norm_ (by simp only [putAll, Act.put, List.setIfInBounds_toArray, List.set_cons_zero, List.set_cons_succ]) (hCont (v313, v316, v319) _ ⟨hHeld, (vv (Kd.V_mono HL310_0.out (fun _ hk => ⟨hk.1.1.1, ⟨hk.1.2, ⟨hk.2, ⟨hk.1.1.2.1, hk.1.1.2.2⟩⟩⟩⟩))), (vv (Kd.V_mono HL310_1.out (fun _ hk => ⟨hk.1.1.1, ⟨hk.1.2, ⟨hk.2, ⟨hk.1.1.2.1, hk.1.1.2.2⟩⟩⟩⟩))), (vv (Kd.V_mono HL310_2.out (fun _ hk => ⟨hk.1.1.1, ⟨hk.1.2, ⟨hk.2, ⟨hk.1.1.2.1, hk.1.1.2.2⟩⟩⟩⟩))), (vv (Kd.V_mono HO0.out (fun _ hk => ⟨hk.1.1.1, ⟨hk.1.2, ⟨hk.2, ⟨hk.1.1.2.1, hk.1.1.2.2⟩⟩⟩⟩))), (vv (Kd.V_mono HO1_3.out (fun _ hk => ⟨hk.1.1.1, ⟨hk.1.2, ⟨hk.2, ⟨hk.1.1.2.1, hk.1.1.2.2⟩⟩⟩⟩))), (by (with_reducible repeat (first | apply Kd.N_alloc | apply Kd.N_drewN | apply Kd.N_drew)); exact Kd.N_mono HO317.out (fun _ hk => ⟨hk.1.1, ⟨hk.2, ⟨hk.1.2.1, hk.1.2.2⟩⟩⟩)), (by (with_reducible repeat (first | apply Kd.N_alloc | apply Kd.N_drewN | apply Kd.N_drew)); exact HO320.out), (kk BK309.out), (kk BK311.out), bb⟩) }
 {
 skip
 refine Kd.N_lit_step k50 _ 50 ?hg (N' := 21) ?hd (xs := ([(⟨(⟨a1_0, a1_1, a1_2, l1_3⟩ : S48), a1_4⟩ : S50)] : List (S50))) (inner := [.int .i64 a1_0, .int .i64 a1_1, .int .i64 a1_2, .slice A1_3 l1_3.length c1_3, .int .i64 a1_4]) (ok := (fun k_ => ((P0_ k_ ∨ P1_3_ k_) ∨ w.heap.size ≤ k_) ∧ some k_ ≠ (v313 : Value).ownBlock ∧ k_ ≠ gb309 ∧ k_ ≠ gb311)) (okp := (fun k_ => ((P0_ k_ ∨ P1_3_ k_) ∨ w.heap.size ≤ k_) ∧ some k_ ≠ (v313 : Value).ownBlock ∧ k_ ≠ gb309 ∧ k_ ≠ gb311)) ?hr ?hp (fun _ hk => hk) ((show ∀ k_, w17.heap.size ≤ k_ → (fun k_ => ((P0_ k_ ∨ P1_3_ k_) ∨ w.heap.size ≤ k_) ∧ some k_ ≠ (v313 : Value).ownBlock ∧ k_ ≠ gb309 ∧ k_ ≠ gb311) k_ from fun k_ hk => ⟨(.inr (Nat.le_trans bz hk)), Kd.fresh' (Kd.N_lt (by (with_reducible repeat (first | apply Kd.N_alloc | apply Kd.N_drewN | apply Kd.N_drew)); exact HO314.out)) k_ hk, Kd.freshB (g := gb309) (o := .cells #[.int .i64 a1_0, .int .i64 a1_1, .int .i64 a1_2, .slice A1_3 l1_3.length c1_3, .int .i64 a1_4] 50 (0, 0)) (kk BK309.out) k_ hk, Kd.freshB (g := gb311) (o := .cells #[.slice A310_0 ((rd_T62 l0 (ji5)).f0).length c310_0, .slice A310_1 ((rd_T62 l0 (ji5)).f1).length c310_1, .slice A310_2 ((rd_T62 l0 (ji5)).f2).length c310_2] 62 (0, 0)) (kk BK311.out) k_ hk⟩) _ (Nat.le_refl _)) (Below.refl _ _) (Nat.le_refl _) (by simp) ?_; (case hd => rfl); (case hg => rfl); (case hr => first | (go_simp; done) | (go_simp; rfl)); (case hp => exact (Reps.c5 (show Kd.FK k50 _ _ (⟨(⟨a1_0, a1_1, a1_2, l1_3⟩ : S48), a1_4⟩ : S50) [.int .i64 a1_0, .int .i64 a1_1, .int .i64 a1_2, .slice A1_3 l1_3.length c1_3, .int .i64 a1_4] from (k50_mkF _ _ (⟨(⟨a1_0, a1_1, a1_2, l1_3⟩ : S48), a1_4⟩ : S50) (Kd.V_reads' (Kd.V_mono (ok' := (fun k_ => ((P0_ k_ ∨ P1_3_ k_) ∨ w.heap.size ≤ k_) ∧ some k_ ≠ (v313 : Value).ownBlock ∧ k_ ≠ gb309 ∧ k_ ≠ gb311)) (HO1_3.out) (fun k_ hk => ⟨hk.1.1, ⟨hk.2, ⟨hk.1.2.1, hk.1.2.2⟩⟩⟩))).2.1 (Kd.V_F (Kd.V_mono (ok' := (fun k_ => ((P0_ k_ ∨ P1_3_ k_) ∨ w.heap.size ≤ k_) ∧ some k_ ≠ (v313 : Value).ownBlock ∧ k_ ≠ gb309 ∧ k_ ≠ gb311)) (HO1_3.out) (fun k_ hk => ⟨hk.1.1, ⟨hk.2, ⟨hk.1.2.1, hk.1.2.2⟩⟩⟩))))) (Reps.none _ _)))
 intro v319 w19 ho20 hb hg_ hnew_
 clear hg_ hnew_
 (first | rw [← Ny318.out] at ho20 | (simp only [Int.reduceToNat] at ho20; rw [← Ny318.out] at ho20))
 have n0_ := aS (Kd.V_elder' (vv HO0.out) (Kd.N_base ho20) hb)
 have n1_ := aS (Kd.V_elder' (vv HO1_3.out) (Kd.N_base ho20) hb)
 have n2_ := aS (Kd.V_elder' (vv HL310_0.out) (Kd.N_base ho20) hb)
 have n3_ := aS (Kd.V_elder' (vv HL310_1.out) (Kd.N_base ho20) hb)
 have n4_ := aS (Kd.V_elder' (vv HL310_2.out) (Kd.N_base ho20) hb)
 have n5_ := aS (Kd.N_elder' (by (with_reducible repeat (first | apply Kd.N_alloc | apply Kd.N_drewN | apply Kd.N_drew)); exact HO314.out) (Kd.N_base ho20) hb)
 have n6_ := aS (Kd.N_lower ho20 bz)
 have n7_ := aS (blk_below (g := gb309) (o := .cells #[.int .i64 a1_0, .int .i64 a1_1, .int .i64 a1_2, .slice A1_3 l1_3.length c1_3, .int .i64 a1_4] 50 (0, 0)) (kk BK309.out) hb)
 have n8_ := aS (blk_below (g := gb311) (o := .cells #[.slice A310_0 ((rd_T62 l0 (ji5)).f0).length c310_0, .slice A310_1 ((rd_T62 l0 (ji5)).f1).length c310_1, .slice A310_2 ((rd_T62 l0 (ji5)).f2).length c310_2] 62 (0, 0)) (kk BK311.out) hb)
 have n9_ := aS (below_step bb hb)
 clear HO0
 clear HO1_3
 clear HL310_0
 clear HL310_1
 clear HL310_2
 clear HO314
 clear BK309
 clear BK311
 clear HB
 have HO0 := n0_
 have HO1_3 := n1_
 have HL310_0 := n2_
 have HL310_1 := n3_
 have HL310_2 := n4_
 have HO314 := n5_
 have HO320 := n6_
 have BK309 := n7_
 have BK311 := n8_
 have HB := n9_
 clear n0_ n1_ n2_ n3_ n4_ n5_ n6_ n7_ n8_ n9_
 clear hb ho20
 refine hK.out _ _ ⟨(blk_cell BK311.out 0).trans rfl, (blk_cell BK311.out 1).trans rfl, (blk_cell BK311.out 2).trans rfl, (blk_cell BK309.out 0).trans rfl, (blk_cell BK309.out 1).trans rfl, (blk_cell BK309.out 2).trans rfl, (blk_cell BK309.out 3).trans rfl, (blk_cell BK309.out 4).trans rfl⟩ (fun hHeld => ?_)
 clear hK K
 refine norm_ (a' := ?_) ?_ ?_
 rotate_left
 {
 show Act.put _ (some 21) _ = _
 simp only [Act.put, sT, s0, s1, i64_w, i32_w]
 rfl }
 refine one_ (i := 3) (N := some 19) #[true, true, true, true, true, true, false, false, false] rfl rfl (one_of HT_.out (by kernel_rfl)) (by decide) (fun K hK => ?_)
 refine Kd.N_append_rows_step k50 (w0 := w) w.heap.size (by rfl) (.tmp 16) (.tmp 18) 34 50 (.agg #[(.int .i64 0), (.int .i64 0), (.int .i64 0), (.slice none 0 0), (.int .i64 0)]) 56 rfl Try.underlying34 info50 rfl (by decide) (by omega) v313 y312 ((rd_T62 l0 (ji5)).f2) _ _ _ (fun k_ => ((P0_ k_ ∨ P1_3_ k_) ∨ w.heap.size ≤ k_) ∧ some k_ ≠ (v319 : Value).ownBlock ∧ k_ ≠ gb309 ∧ k_ ≠ gb311) (fun k_ => ((fun k_ => ((P0_ k_ ∨ P1_3_ k_) ∨ w.heap.size ≤ k_) ∧ some k_ ≠ (v319 : Value).ownBlock ∧ k_ ≠ gb309 ∧ k_ ≠ gb311)) k_ ∧ some k_ ≠ (v313 : Value).ownBlock) rfl rfl ?aO ?aR (fun _ hk => hk) ?aF ?aB ?aS ?aL ?_
 (case aR => exact (by skip; exact Kd.V_F (Kd.V_mono (ok' := (fun k_ => ((fun k_ => ((P0_ k_ ∨ P1_3_ k_) ∨ w.heap.size ≤ k_) ∧ some k_ ≠ (v319 : Value).ownBlock ∧ k_ ≠ gb309 ∧ k_ ≠ gb311)) k_ ∧ some k_ ≠ (v313 : Value).ownBlock)) (HL310_2.out) (fun k_ hk => ⟨⟨hk.1.1.1, ⟨hk.2, ⟨hk.1.1.2.1, hk.1.1.2.2⟩⟩⟩, hk.1.2⟩))))
 (case aB => exact bb)
 (case aF => exact (fun k_ hk => ⟨(.inr (Nat.le_trans bz hk)), Kd.fresh' (Kd.N_lt (by (with_reducible repeat (first | apply Kd.N_alloc | apply Kd.N_drewN | apply Kd.N_drew)); exact HO320.out)) k_ hk, Kd.freshB (g := gb309) (o := .cells #[.int .i64 a1_0, .int .i64 a1_1, .int .i64 a1_2, .slice A1_3 l1_3.length c1_3, .int .i64 a1_4] 50 (0, 0)) (kk BK309.out) k_ hk, Kd.freshB (g := gb311) (o := .cells #[.slice A310_0 ((rd_T62 l0 (ji5)).f0).length c310_0, .slice A310_1 ((rd_T62 l0 (ji5)).f1).length c310_1, .slice A310_2 ((rd_T62 l0 (ji5)).f2).length c310_2] 62 (0, 0)) (kk BK311.out) k_ hk⟩))
 (case aO => exact (by (with_reducible repeat (first | apply Kd.N_alloc | apply Kd.N_drewN | apply Kd.N_drew)); exact Kd.N_mono HO314.out (fun _ hk => ⟨hk.1.1, ⟨hk.2, ⟨hk.1.2.1, hk.1.2.2⟩⟩⟩)))
 (case aS => exact bz)
 (case aL => have := LMc8.out; omega)
 intro v316 w21 ho hb hg hat
 rw [← Ny315.out] at ho
 have n0_ := aS (Kd.V_afterv (ok := (fun k_ => ((P0_ k_ ∨ P1_3_ k_) ∨ w.heap.size ≤ k_) ∧ some k_ ≠ (v319 : Value).ownBlock ∧ k_ ≠ gb309 ∧ k_ ≠ gb311)) (vv (Kd.V_mono HO0.out (fun _ hk => ⟨⟨hk.1.1.1, ⟨hk.2, ⟨hk.1.1.2.1, hk.1.1.2.2⟩⟩⟩, hk.1.2⟩))) hg hat)
 have n1_ := aS (Kd.V_afterv (ok := (fun k_ => ((P0_ k_ ∨ P1_3_ k_) ∨ w.heap.size ≤ k_) ∧ some k_ ≠ (v319 : Value).ownBlock ∧ k_ ≠ gb309 ∧ k_ ≠ gb311)) (vv (Kd.V_mono HO1_3.out (fun _ hk => ⟨⟨hk.1.1.1, ⟨hk.2, ⟨hk.1.1.2.1, hk.1.1.2.2⟩⟩⟩, hk.1.2⟩))) hg hat)
 have n2_ := aS (blk_grown (g := gb309) (o := .cells #[.int .i64 a1_0, .int .i64 a1_1, .int .i64 a1_2, .slice A1_3 l1_3.length c1_3, .int .i64 a1_4] 50 (0, 0)) (kk BK309.out) hg (Kd.N_away HO314.out (fun _ hk => hk.1.2.1)))
 have n3_ := aS (Kd.V_afterv (ok := (fun k_ => ((P0_ k_ ∨ P1_3_ k_) ∨ w.heap.size ≤ k_) ∧ some k_ ≠ (v319 : Value).ownBlock ∧ k_ ≠ gb309 ∧ k_ ≠ gb311)) (vv (Kd.V_mono HL310_0.out (fun _ hk => ⟨⟨hk.1.1.1, ⟨hk.2, ⟨hk.1.1.2.1, hk.1.1.2.2⟩⟩⟩, hk.1.2⟩))) hg hat)
 have n4_ := aS (Kd.V_afterv (ok := (fun k_ => ((P0_ k_ ∨ P1_3_ k_) ∨ w.heap.size ≤ k_) ∧ some k_ ≠ (v319 : Value).ownBlock ∧ k_ ≠ gb309 ∧ k_ ≠ gb311)) (vv (Kd.V_mono HL310_1.out (fun _ hk => ⟨⟨hk.1.1.1, ⟨hk.2, ⟨hk.1.1.2.1, hk.1.1.2.2⟩⟩⟩, hk.1.2⟩))) hg hat)
 have n5_ := aS (Kd.V_afterv (ok := (fun k_ => ((P0_ k_ ∨ P1_3_ k_) ∨ w.heap.size ≤ k_) ∧ some k_ ≠ (v319 : Value).ownBlock ∧ k_ ≠ gb309 ∧ k_ ≠ gb311)) (vv (Kd.V_mono HL310_2.out (fun _ hk => ⟨⟨hk.1.1.1, ⟨hk.2, ⟨hk.1.1.2.1, hk.1.1.2.2⟩⟩⟩, hk.1.2⟩))) hg hat)
 have n6_ := aS (blk_grown (g := gb311) (o := .cells #[.slice A310_0 ((rd_T62 l0 (ji5)).f0).length c310_0, .slice A310_1 ((rd_T62 l0 (ji5)).f1).length c310_1, .slice A310_2 ((rd_T62 l0 (ji5)).f2).length c310_2] 62 (0, 0)) (kk BK311.out) hg (Kd.N_ne HO314.out BK311.out (by decide)))
 have n7_ := aS (Kd.N_afterv (ok := (fun k_ => ((P0_ k_ ∨ P1_3_ k_) ∨ w.heap.size ≤ k_) ∧ k_ ≠ gb309 ∧ k_ ≠ gb311)) (by (with_reducible repeat (first | apply Kd.N_alloc | apply Kd.N_drewN | apply Kd.N_drew)); exact Kd.N_mono HO320.out (fun _ hk => ⟨⟨hk.1, ⟨hk.2.2.1, hk.2.2.2⟩⟩, hk.2.1⟩)) hg hat)
 have n8_ := aS (hb)
 have n9_ := aS (ho)
 clear HO0
 clear HO1_3
 clear BK309
 clear HL310_0
 clear HL310_1
 clear HL310_2
 clear BK311
 clear HO320
 clear HB
 clear HO314
 have HO0 := n0_
 have HO1_3 := n1_
 have BK309 := n2_
 have HL310_0 := n3_
 have HL310_1 := n4_
 have HL310_2 := n5_
 have BK311 := n6_
 have HO320 := n7_
 have HB := n8_
 have HO317 := n9_
 clear n0_ n1_ n2_ n3_ n4_ n5_ n6_ n7_ n8_ n9_
 clear ho hb hg hat
 refine hK.out _ _ ⟨(blk_cell BK311.out 0).trans rfl, (blk_cell BK311.out 1).trans rfl, (blk_cell BK311.out 2).trans rfl, (blk_cell BK309.out 0).trans rfl, (blk_cell BK309.out 1).trans rfl, (blk_cell BK309.out 2).trans rfl, (blk_cell BK309.out 3).trans rfl, (blk_cell BK309.out 4).trans rfl⟩ (fun hHeld => ?_)
 clear hK K
 refine norm_ (a' := ?_) ?_ ?_
 rotate_left
 {
 show Act.put _ (some 19) _ = _
 simp only [Act.put, sT, s0, s1, i64_w, i32_w]
 rfl }
 exact norm_ (by simp only [putAll, Act.put, List.setIfInBounds_toArray, List.set_cons_zero, List.set_cons_succ]) (hCont (v313, v316, v319) _ ⟨hHeld, (vv (Kd.V_mono HL310_0.out (fun _ hk => ⟨hk.1.1, ⟨hk.2, ⟨hk.1.2.1, ⟨hk.1.2.2.1, hk.1.2.2.2⟩⟩⟩⟩))), (vv (Kd.V_mono HL310_1.out (fun _ hk => ⟨hk.1.1, ⟨hk.2, ⟨hk.1.2.1, ⟨hk.1.2.2.1, hk.1.2.2.2⟩⟩⟩⟩))), (vv (Kd.V_mono HL310_2.out (fun _ hk => ⟨hk.1.1, ⟨hk.2, ⟨hk.1.2.1, ⟨hk.1.2.2.1, hk.1.2.2.2⟩⟩⟩⟩))), (vv (Kd.V_mono HO0.out (fun _ hk => ⟨hk.1.1, ⟨hk.2, ⟨hk.1.2.1, ⟨hk.1.2.2.1, hk.1.2.2.2⟩⟩⟩⟩))), (vv (Kd.V_mono HO1_3.out (fun _ hk => ⟨hk.1.1, ⟨hk.2, ⟨hk.1.2.1, ⟨hk.1.2.2.1, hk.1.2.2.2⟩⟩⟩⟩))), (by (with_reducible repeat (first | apply Kd.N_alloc | apply Kd.N_drewN | apply Kd.N_drew)); exact HO317.out), (by (with_reducible repeat (first | apply Kd.N_alloc | apply Kd.N_drewN | apply Kd.N_drew)); exact Kd.N_mono HO320.out (fun _ hk => ⟨hk.1.1, ⟨hk.2, ⟨hk.1.2.1, hk.1.2.2⟩⟩⟩)), (kk BK309.out), (kk BK311.out), bb⟩) } }
 {
 skip
 refine Kd.N_lit_step k50 _ 50 ?hg (N' := 21) ?hd (xs := ([(⟨(⟨a1_0, a1_1, a1_2, l1_3⟩ : S48), a1_4⟩ : S50)] : List (S50))) (inner := [.int .i64 a1_0, .int .i64 a1_1, .int .i64 a1_2, .slice A1_3 l1_3.length c1_3, .int .i64 a1_4]) (ok := (fun k_ => ((P0_ k_ ∨ P1_3_ k_) ∨ w.heap.size ≤ k_) ∧ k_ ≠ gb309 ∧ k_ ≠ gb311)) (okp := (fun k_ => ((P0_ k_ ∨ P1_3_ k_) ∨ w.heap.size ≤ k_) ∧ k_ ≠ gb309 ∧ k_ ≠ gb311)) ?hr ?hp (fun _ hk => hk) ((show ∀ k_, w16.heap.size ≤ k_ → (fun k_ => ((P0_ k_ ∨ P1_3_ k_) ∨ w.heap.size ≤ k_) ∧ k_ ≠ gb309 ∧ k_ ≠ gb311) k_ from fun k_ hk => ⟨(.inr (Nat.le_trans bz hk)), Kd.freshB (g := gb309) (o := .cells #[.int .i64 a1_0, .int .i64 a1_1, .int .i64 a1_2, .slice A1_3 l1_3.length c1_3, .int .i64 a1_4] 50 (0, 0)) (kk BK309.out) k_ hk, Kd.freshB (g := gb311) (o := .cells #[.slice A310_0 ((rd_T62 l0 (ji5)).f0).length c310_0, .slice A310_1 ((rd_T62 l0 (ji5)).f1).length c310_1, .slice A310_2 ((rd_T62 l0 (ji5)).f2).length c310_2] 62 (0, 0)) (kk BK311.out) k_ hk⟩) _ (Nat.le_refl _)) (Below.refl _ _) (Nat.le_refl _) (by simp) ?_; (case hd => rfl); (case hg => rfl); (case hr => first | (go_simp; done) | (go_simp; rfl)); (case hp => exact (Reps.c5 (show Kd.FK k50 _ _ (⟨(⟨a1_0, a1_1, a1_2, l1_3⟩ : S48), a1_4⟩ : S50) [.int .i64 a1_0, .int .i64 a1_1, .int .i64 a1_2, .slice A1_3 l1_3.length c1_3, .int .i64 a1_4] from (k50_mkF _ _ (⟨(⟨a1_0, a1_1, a1_2, l1_3⟩ : S48), a1_4⟩ : S50) (Kd.V_reads' (Kd.V_mono (ok' := (fun k_ => ((P0_ k_ ∨ P1_3_ k_) ∨ w.heap.size ≤ k_) ∧ k_ ≠ gb309 ∧ k_ ≠ gb311)) (HO1_3.out) (fun k_ hk => ⟨hk.1, ⟨hk.2.1, hk.2.2⟩⟩))).2.1 (Kd.V_F (Kd.V_mono (ok' := (fun k_ => ((P0_ k_ ∨ P1_3_ k_) ∨ w.heap.size ≤ k_) ∧ k_ ≠ gb309 ∧ k_ ≠ gb311)) (HO1_3.out) (fun k_ hk => ⟨hk.1, ⟨hk.2.1, hk.2.2⟩⟩))))) (Reps.none _ _)))
 intro v319 w17 ho18 hb hg_ hnew_
 clear hg_ hnew_
 (first | rw [← Ny318.out] at ho18 | (simp only [Int.reduceToNat] at ho18; rw [← Ny318.out] at ho18))
 have n0_ := aS (Kd.V_elder' (vv HO0.out) (Kd.N_base ho18) hb)
 have n1_ := aS (Kd.V_elder' (vv HO1_3.out) (Kd.N_base ho18) hb)
 have n2_ := aS (Kd.V_elder' (vv HL310_0.out) (Kd.N_base ho18) hb)
 have n3_ := aS (Kd.V_elder' (vv HL310_1.out) (Kd.N_base ho18) hb)
 have n4_ := aS (Kd.V_elder' (vv HL310_2.out) (Kd.N_base ho18) hb)
 have n5_ := aS (Kd.N_lower ho18 bz)
 have n6_ := aS (blk_below (g := gb309) (o := .cells #[.int .i64 a1_0, .int .i64 a1_1, .int .i64 a1_2, .slice A1_3 l1_3.length c1_3, .int .i64 a1_4] 50 (0, 0)) (kk BK309.out) hb)
 have n7_ := aS (blk_below (g := gb311) (o := .cells #[.slice A310_0 ((rd_T62 l0 (ji5)).f0).length c310_0, .slice A310_1 ((rd_T62 l0 (ji5)).f1).length c310_1, .slice A310_2 ((rd_T62 l0 (ji5)).f2).length c310_2] 62 (0, 0)) (kk BK311.out) hb)
 have n8_ := aS (below_step bb hb)
 clear HO0
 clear HO1_3
 clear HL310_0
 clear HL310_1
 clear HL310_2
 clear BK309
 clear BK311
 clear HB
 have HO0 := n0_
 have HO1_3 := n1_
 have HL310_0 := n2_
 have HL310_1 := n3_
 have HL310_2 := n4_
 have HO320 := n5_
 have BK309 := n6_
 have BK311 := n7_
 have HB := n8_
 clear n0_ n1_ n2_ n3_ n4_ n5_ n6_ n7_ n8_
 clear hb ho18
 refine hK.out _ _ ⟨(blk_cell BK311.out 0).trans rfl, (blk_cell BK311.out 1).trans rfl, (blk_cell BK311.out 2).trans rfl, (blk_cell BK309.out 0).trans rfl, (blk_cell BK309.out 1).trans rfl, (blk_cell BK309.out 2).trans rfl, (blk_cell BK309.out 3).trans rfl, (blk_cell BK309.out 4).trans rfl⟩ (fun hHeld => ?_)
 clear hK K
 refine norm_ (a' := ?_) ?_ ?_
 rotate_left
 {
 show Act.put _ (some 21) _ = _
 simp only [Act.put, sT, s0, s1, i64_w, i32_w]
 rfl }
 refine one_ (i := 0) (N := some 16) #[true, true, true, false, true, true, false, false, false] rfl rfl (one_of HT_.out (by kernel_rfl)) (by decide) (fun K hK => ?_)
 refine Kd.N_lit_step k50 _ 50 ?hg (N' := 16) ?hd (xs := ([] : List (S50))) (inner := []) (ok := (fun k_ => ((P0_ k_ ∨ P1_3_ k_) ∨ w.heap.size ≤ k_) ∧ some k_ ≠ (v319 : Value).ownBlock ∧ k_ ≠ gb309 ∧ k_ ≠ gb311)) (okp := (fun k_ => ((P0_ k_ ∨ P1_3_ k_) ∨ w.heap.size ≤ k_) ∧ some k_ ≠ (v319 : Value).ownBlock ∧ k_ ≠ gb309 ∧ k_ ≠ gb311)) ?hr ?hp (fun _ hk => hk) ((show ∀ k_, w17.heap.size ≤ k_ → (fun k_ => ((P0_ k_ ∨ P1_3_ k_) ∨ w.heap.size ≤ k_) ∧ some k_ ≠ (v319 : Value).ownBlock ∧ k_ ≠ gb309 ∧ k_ ≠ gb311) k_ from fun k_ hk => ⟨(.inr (Nat.le_trans bz hk)), Kd.fresh' (Kd.N_lt (by (with_reducible repeat (first | apply Kd.N_alloc | apply Kd.N_drewN | apply Kd.N_drew)); exact HO320.out)) k_ hk, Kd.freshB (g := gb309) (o := .cells #[.int .i64 a1_0, .int .i64 a1_1, .int .i64 a1_2, .slice A1_3 l1_3.length c1_3, .int .i64 a1_4] 50 (0, 0)) (kk BK309.out) k_ hk, Kd.freshB (g := gb311) (o := .cells #[.slice A310_0 ((rd_T62 l0 (ji5)).f0).length c310_0, .slice A310_1 ((rd_T62 l0 (ji5)).f1).length c310_1, .slice A310_2 ((rd_T62 l0 (ji5)).f2).length c310_2] 62 (0, 0)) (kk BK311.out) k_ hk⟩) _ (Nat.le_refl _)) (Below.refl _ _) (Nat.le_refl _) (by simp) ?_; (case hd => rfl); (case hg => rfl); (case hr => first | (go_simp; done) | (go_simp; rfl)); (case hp => exact (Reps.none _ _))
 intro v313 w19 ho20 hb hg_ hnew_
 clear hg_ hnew_
 (first | rw [← Ny312.out] at ho20 | (simp only [Int.reduceToNat] at ho20; rw [← Ny312.out] at ho20))
 have n0_ := aS (Kd.V_elder' (vv HO0.out) (Kd.N_base ho20) hb)
 have n1_ := aS (Kd.V_elder' (vv HO1_3.out) (Kd.N_base ho20) hb)
 have n2_ := aS (Kd.V_elder' (vv HL310_0.out) (Kd.N_base ho20) hb)
 have n3_ := aS (Kd.V_elder' (vv HL310_1.out) (Kd.N_base ho20) hb)
 have n4_ := aS (Kd.V_elder' (vv HL310_2.out) (Kd.N_base ho20) hb)
 have n5_ := aS (Kd.N_elder' (by (with_reducible repeat (first | apply Kd.N_alloc | apply Kd.N_drewN | apply Kd.N_drew)); exact HO320.out) (Kd.N_base ho20) hb)
 have n6_ := aS (Kd.N_lower ho20 bz)
 have n7_ := aS (blk_below (g := gb309) (o := .cells #[.int .i64 a1_0, .int .i64 a1_1, .int .i64 a1_2, .slice A1_3 l1_3.length c1_3, .int .i64 a1_4] 50 (0, 0)) (kk BK309.out) hb)
 have n8_ := aS (blk_below (g := gb311) (o := .cells #[.slice A310_0 ((rd_T62 l0 (ji5)).f0).length c310_0, .slice A310_1 ((rd_T62 l0 (ji5)).f1).length c310_1, .slice A310_2 ((rd_T62 l0 (ji5)).f2).length c310_2] 62 (0, 0)) (kk BK311.out) hb)
 have n9_ := aS (below_step bb hb)
 clear HO0
 clear HO1_3
 clear HL310_0
 clear HL310_1
 clear HL310_2
 clear HO320
 clear BK309
 clear BK311
 clear HB
 have HO0 := n0_
 have HO1_3 := n1_
 have HL310_0 := n2_
 have HL310_1 := n3_
 have HL310_2 := n4_
 have HO320 := n5_
 have HO314 := n6_
 have BK309 := n7_
 have BK311 := n8_
 have HB := n9_
 clear n0_ n1_ n2_ n3_ n4_ n5_ n6_ n7_ n8_ n9_
 clear hb ho20
 refine hK.out _ _ ⟨(blk_cell BK311.out 0).trans rfl, (blk_cell BK311.out 1).trans rfl, (blk_cell BK311.out 2).trans rfl, (blk_cell BK309.out 0).trans rfl, (blk_cell BK309.out 1).trans rfl, (blk_cell BK309.out 2).trans rfl, (blk_cell BK309.out 3).trans rfl, (blk_cell BK309.out 4).trans rfl⟩ (fun hHeld => ?_)
 clear hK K
 refine norm_ (a' := ?_) ?_ ?_
 rotate_left
 {
 show Act.put _ (some 16) _ = _
 simp only [Act.put, sT, s0, s1, i64_w, i32_w]
 rfl }
 refine one_ (i := 3) (N := some 19) #[true, true, true, true, true, true, false, false, false] rfl rfl (one_of HT_.out (by kernel_rfl)) (by decide) (fun K hK => ?_)
 refine Kd.N_append_rows_step k50 (w0 := w) w.heap.size (by rfl) (.tmp 16) (.tmp 18) 34 50 (.agg #[(.int .i64 0), (.int .i64 0), (.int .i64 0), (.slice none 0 0), (.int .i64 0)]) 56 rfl Try.underlying34 info50 rfl (by decide) (by omega) v313 y312 ((rd_T62 l0 (ji5)).f2) _ _ _ (fun k_ => ((P0_ k_ ∨ P1_3_ k_) ∨ w.heap.size ≤ k_) ∧ some k_ ≠ (v319 : Value).ownBlock ∧ k_ ≠ gb309 ∧ k_ ≠ gb311) (fun k_ => ((fun k_ => ((P0_ k_ ∨ P1_3_ k_) ∨ w.heap.size ≤ k_) ∧ some k_ ≠ (v319 : Value).ownBlock ∧ k_ ≠ gb309 ∧ k_ ≠ gb311)) k_ ∧ some k_ ≠ (v313 : Value).ownBlock) rfl rfl ?aO ?aR (fun _ hk => hk) ?aF ?aB ?aS ?aL ?_
 (case aR => exact (by skip; exact Kd.V_F (Kd.V_mono (ok' := (fun k_ => ((fun k_ => ((P0_ k_ ∨ P1_3_ k_) ∨ w.heap.size ≤ k_) ∧ some k_ ≠ (v319 : Value).ownBlock ∧ k_ ≠ gb309 ∧ k_ ≠ gb311)) k_ ∧ some k_ ≠ (v313 : Value).ownBlock)) (HL310_2.out) (fun k_ hk => ⟨⟨hk.1.1.1, ⟨hk.1.2, ⟨hk.1.1.2.1, hk.1.1.2.2⟩⟩⟩, hk.2⟩))))
 (case aB => exact bb)
 (case aF => exact (fun k_ hk => ⟨(.inr (Nat.le_trans bz hk)), Kd.fresh' (Kd.N_lt (by (with_reducible repeat (first | apply Kd.N_alloc | apply Kd.N_drewN | apply Kd.N_drew)); exact HO320.out)) k_ hk, Kd.freshB (g := gb309) (o := .cells #[.int .i64 a1_0, .int .i64 a1_1, .int .i64 a1_2, .slice A1_3 l1_3.length c1_3, .int .i64 a1_4] 50 (0, 0)) (kk BK309.out) k_ hk, Kd.freshB (g := gb311) (o := .cells #[.slice A310_0 ((rd_T62 l0 (ji5)).f0).length c310_0, .slice A310_1 ((rd_T62 l0 (ji5)).f1).length c310_1, .slice A310_2 ((rd_T62 l0 (ji5)).f2).length c310_2] 62 (0, 0)) (kk BK311.out) k_ hk⟩))
 (case aO => exact (by (with_reducible repeat (first | apply Kd.N_alloc | apply Kd.N_drewN | apply Kd.N_drew)); exact HO314.out))
 (case aS => exact bz)
 (case aL => have := LMc8.out; omega)
 intro v316 w21 ho hb hg hat
 rw [← Ny315.out] at ho
 have n0_ := aS (Kd.V_afterv (ok := (fun k_ => ((P0_ k_ ∨ P1_3_ k_) ∨ w.heap.size ≤ k_) ∧ some k_ ≠ (v319 : Value).ownBlock ∧ k_ ≠ gb309 ∧ k_ ≠ gb311)) (vv (Kd.V_mono HO0.out (fun _ hk => ⟨⟨hk.1.1.1, ⟨hk.1.2, ⟨hk.1.1.2.1, hk.1.1.2.2⟩⟩⟩, hk.2⟩))) hg hat)
 have n1_ := aS (Kd.V_afterv (ok := (fun k_ => ((P0_ k_ ∨ P1_3_ k_) ∨ w.heap.size ≤ k_) ∧ some k_ ≠ (v319 : Value).ownBlock ∧ k_ ≠ gb309 ∧ k_ ≠ gb311)) (vv (Kd.V_mono HO1_3.out (fun _ hk => ⟨⟨hk.1.1.1, ⟨hk.1.2, ⟨hk.1.1.2.1, hk.1.1.2.2⟩⟩⟩, hk.2⟩))) hg hat)
 have n2_ := aS (blk_grown (g := gb309) (o := .cells #[.int .i64 a1_0, .int .i64 a1_1, .int .i64 a1_2, .slice A1_3 l1_3.length c1_3, .int .i64 a1_4] 50 (0, 0)) (kk BK309.out) hg (Kd.N_away HO314.out (fun _ hk => hk.2.2.1)))
 have n3_ := aS (Kd.V_afterv (ok := (fun k_ => ((P0_ k_ ∨ P1_3_ k_) ∨ w.heap.size ≤ k_) ∧ some k_ ≠ (v319 : Value).ownBlock ∧ k_ ≠ gb309 ∧ k_ ≠ gb311)) (vv (Kd.V_mono HL310_0.out (fun _ hk => ⟨⟨hk.1.1.1, ⟨hk.1.2, ⟨hk.1.1.2.1, hk.1.1.2.2⟩⟩⟩, hk.2⟩))) hg hat)
 have n4_ := aS (Kd.V_afterv (ok := (fun k_ => ((P0_ k_ ∨ P1_3_ k_) ∨ w.heap.size ≤ k_) ∧ some k_ ≠ (v319 : Value).ownBlock ∧ k_ ≠ gb309 ∧ k_ ≠ gb311)) (vv (Kd.V_mono HL310_1.out (fun _ hk => ⟨⟨hk.1.1.1, ⟨hk.1.2, ⟨hk.1.1.2.1, hk.1.1.2.2⟩⟩⟩, hk.2⟩))) hg hat)
 have n5_ := aS (Kd.V_afterv (ok := (fun k_ => ((P0_ k_ ∨ P1_3_ k_) ∨ w.heap.size ≤ k_) ∧ some k_ ≠ (v319 : Value).ownBlock ∧ k_ ≠ gb309 ∧ k_ ≠ gb311)) (vv (Kd.V_mono HL310_2.out (fun _ hk => ⟨⟨hk.1.1.1, ⟨hk.1.2, ⟨hk.1.1.2.1, hk.1.1.2.2⟩⟩⟩, hk.2⟩))) hg hat)
 have n6_ := aS (blk_grown (g := gb311) (o := .cells #[.slice A310_0 ((rd_T62 l0 (ji5)).f0).length c310_0, .slice A310_1 ((rd_T62 l0 (ji5)).f1).length c310_1, .slice A310_2 ((rd_T62 l0 (ji5)).f2).length c310_2] 62 (0, 0)) (kk BK311.out) hg (Kd.N_ne HO314.out BK311.out (by decide)))
 have n7_ := aS (Kd.N_afterv (ok := (fun k_ => ((P0_ k_ ∨ P1_3_ k_) ∨ w.heap.size ≤ k_) ∧ k_ ≠ gb309 ∧ k_ ≠ gb311)) (by (with_reducible repeat (first | apply Kd.N_alloc | apply Kd.N_drewN | apply Kd.N_drew)); exact HO320.out) hg hat)
 have n8_ := aS (hb)
 have n9_ := aS (ho)
 clear HO0
 clear HO1_3
 clear BK309
 clear HL310_0
 clear HL310_1
 clear HL310_2
 clear BK311
 clear HO320
 clear HB
 clear HO314
 have HO0 := n0_
 have HO1_3 := n1_
 have BK309 := n2_
 have HL310_0 := n3_
 have HL310_1 := n4_
 have HL310_2 := n5_
 have BK311 := n6_
 have HO320 := n7_
 have HB := n8_
 have HO317 := n9_
 clear n0_ n1_ n2_ n3_ n4_ n5_ n6_ n7_ n8_ n9_
 clear ho hb hg hat
 refine hK.out _ _ ⟨(blk_cell BK311.out 0).trans rfl, (blk_cell BK311.out 1).trans rfl, (blk_cell BK311.out 2).trans rfl, (blk_cell BK309.out 0).trans rfl, (blk_cell BK309.out 1).trans rfl, (blk_cell BK309.out 2).trans rfl, (blk_cell BK309.out 3).trans rfl, (blk_cell BK309.out 4).trans rfl⟩ (fun hHeld => ?_)
 clear hK K
 refine norm_ (a' := ?_) ?_ ?_
 rotate_left
 {
 show Act.put _ (some 19) _ = _
 simp only [Act.put, sT, s0, s1, i64_w, i32_w]
 rfl }
 exact norm_ (by simp only [putAll, Act.put, List.setIfInBounds_toArray, List.set_cons_zero, List.set_cons_succ]) (hCont (v313, v316, v319) _ ⟨hHeld, (vv (Kd.V_mono HL310_0.out (fun _ hk => ⟨hk.1.1, ⟨hk.2, ⟨hk.1.2.1, ⟨hk.1.2.2.1, hk.1.2.2.2⟩⟩⟩⟩))), (vv (Kd.V_mono HL310_1.out (fun _ hk => ⟨hk.1.1, ⟨hk.2, ⟨hk.1.2.1, ⟨hk.1.2.2.1, hk.1.2.2.2⟩⟩⟩⟩))), (vv (Kd.V_mono HL310_2.out (fun _ hk => ⟨hk.1.1, ⟨hk.2, ⟨hk.1.2.1, ⟨hk.1.2.2.1, hk.1.2.2.2⟩⟩⟩⟩))), (vv (Kd.V_mono HO0.out (fun _ hk => ⟨hk.1.1, ⟨hk.2, ⟨hk.1.2.1, ⟨hk.1.2.2.1, hk.1.2.2.2⟩⟩⟩⟩))), (vv (Kd.V_mono HO1_3.out (fun _ hk => ⟨hk.1.1, ⟨hk.2, ⟨hk.1.2.1, ⟨hk.1.2.2.1, hk.1.2.2.2⟩⟩⟩⟩))), (by (with_reducible repeat (first | apply Kd.N_alloc | apply Kd.N_drewN | apply Kd.N_drew)); exact HO317.out), (by (with_reducible repeat (first | apply Kd.N_alloc | apply Kd.N_drewN | apply Kd.N_drew)); exact Kd.N_mono HO320.out (fun _ hk => ⟨hk.1.1, ⟨hk.2, ⟨hk.1.2.1, hk.1.2.2⟩⟩⟩)), (kk BK309.out), (kk BK311.out), bb⟩) } }
 rintro ⟨v313, v316, v319⟩ w22 ⟨hS_, h0_, h1_, h2_, h3_, h4_, h5_, h6_, h7_, h8_, h9_⟩
 have n0_ : Aside0 (Kd.V k30 30 w22 w.heap.size (fun k_ => ((P0_ k_ ∨ P1_3_ k_) ∨ w.heap.size ≤ k_) ∧ some k_ ≠ (v316 : Value).ownBlock ∧ some k_ ≠ (v319 : Value).ownBlock ∧ k_ ≠ gb309 ∧ k_ ≠ gb311) (.slice A310_0 ((rd_T62 l0 (ji5)).f0).length c310_0) ((rd_T62 l0 (ji5)).f0)) := ⟨h0_⟩
 have n1_ : Aside0 (Kd.V k33 33 w22 w.heap.size (fun k_ => ((P0_ k_ ∨ P1_3_ k_) ∨ w.heap.size ≤ k_) ∧ some k_ ≠ (v316 : Value).ownBlock ∧ some k_ ≠ (v319 : Value).ownBlock ∧ k_ ≠ gb309 ∧ k_ ≠ gb311) (.slice A310_1 ((rd_T62 l0 (ji5)).f1).length c310_1) ((rd_T62 l0 (ji5)).f1)) := ⟨h1_⟩
 have n2_ : Aside0 (Kd.V k50 50 w22 w.heap.size (fun k_ => ((P0_ k_ ∨ P1_3_ k_) ∨ w.heap.size ≤ k_) ∧ some k_ ≠ (v316 : Value).ownBlock ∧ some k_ ≠ (v319 : Value).ownBlock ∧ k_ ≠ gb309 ∧ k_ ≠ gb311) (.slice A310_2 ((rd_T62 l0 (ji5)).f2).length c310_2) ((rd_T62 l0 (ji5)).f2)) := ⟨h2_⟩
 have n3_ : Aside0 (Kd.V k62 62 w22 w.heap.size (fun k_ => ((P0_ k_ ∨ P1_3_ k_) ∨ w.heap.size ≤ k_) ∧ some k_ ≠ (v316 : Value).ownBlock ∧ some k_ ≠ (v319 : Value).ownBlock ∧ k_ ≠ gb309 ∧ k_ ≠ gb311) (.slice (some ad310) l0.length c0) l0) := ⟨h3_⟩
 have n4_ : Aside0 (Kd.V k48 48 w22 w.heap.size (fun k_ => ((P0_ k_ ∨ P1_3_ k_) ∨ w.heap.size ≤ k_) ∧ some k_ ≠ (v316 : Value).ownBlock ∧ some k_ ≠ (v319 : Value).ownBlock ∧ k_ ≠ gb309 ∧ k_ ≠ gb311) (.slice A1_3 l1_3.length c1_3) l1_3) := ⟨h4_⟩
 have n5_ : Aside0 (Kd.N k50 50 w22 w.heap.size (fun k_ => ((P0_ k_ ∨ P1_3_ k_) ∨ w.heap.size ≤ k_) ∧ some k_ ≠ (v319 : Value).ownBlock ∧ k_ ≠ gb309 ∧ k_ ≠ gb311) v316 y315) := ⟨h5_⟩
 have n6_ : Aside0 (Kd.N k50 50 w22 w.heap.size (fun k_ => ((P0_ k_ ∨ P1_3_ k_) ∨ w.heap.size ≤ k_) ∧ some k_ ≠ (v316 : Value).ownBlock ∧ k_ ≠ gb309 ∧ k_ ≠ gb311) v319 y318) := ⟨h6_⟩
 have n7_ : Aside0 (w22.heap[gb309]? = some (.cells #[.int .i64 a1_0, .int .i64 a1_1, .int .i64 a1_2, .slice A1_3 l1_3.length c1_3, .int .i64 a1_4] 50 (0, 0))) := ⟨h7_⟩
 have n8_ : Aside0 (w22.heap[gb311]? = some (.cells #[.slice A310_0 ((rd_T62 l0 (ji5)).f0).length c310_0, .slice A310_1 ((rd_T62 l0 (ji5)).f1).length c310_1, .slice A310_2 ((rd_T62 l0 (ji5)).f2).length c310_2] 62 (0, 0))) := ⟨h8_⟩
 have n9_ : Aside0 (Below w.heap.size w w22) := ⟨h9_⟩
 clear HO0
 clear HO1_3
 clear HL310_0
 clear HL310_1
 clear HL310_2
 clear BK309
 clear BK311
 clear HB
 clear h0_ h1_ h2_ h3_ h4_ h5_ h6_ h7_ h8_ h9_
 have HL310_0 := n0_
 have HL310_1 := n1_
 have HL310_2 := n2_
 have HO0 := n3_
 have HO1_3 := n4_
 have HO317 := n5_
 have HO320 := n6_
 have BK309 := n7_
 have BK311 := n8_
 have HB := n9_
 clear n0_ n1_ n2_ n3_ n4_ n5_ n6_ n7_ n8_ n9_
 have hHeld : w22.cell? ⟨gb311, 0, none⟩ = some (.slice A310_0 ((rd_T62 l0 (ji5)).f0).length c310_0) ∧ w22.cell? ⟨gb311, 1, none⟩ = some (.slice A310_1 ((rd_T62 l0 (ji5)).f1).length c310_1) ∧ w22.cell? ⟨gb311, 2, none⟩ = some (.slice A310_2 ((rd_T62 l0 (ji5)).f2).length c310_2) ∧ w22.cell? ⟨gb309, 0, none⟩ = some (.int .i64 a1_0) ∧ w22.cell? ⟨gb309, 1, none⟩ = some (.int .i64 a1_1) ∧ w22.cell? ⟨gb309, 2, none⟩ = some (.int .i64 a1_2) ∧ w22.cell? ⟨gb309, 3, none⟩ = some (.slice A1_3 l1_3.length c1_3) ∧ w22.cell? ⟨gb309, 4, none⟩ = some (.int .i64 a1_4) := hS_
 obtain ⟨Ao24, co24, eo24⟩ := Kd.N_slice HO320.out
 (first | subst eo24 | (injection eo24 with f1_ f2_ f3_; have f4_ := f1_.symm; have f5_ := f3_.symm; clear f1_ f2_ f3_; subst f4_; subst f5_))
 refine norm_ (a' := ?_) ?_ ?_
 rotate_left
 {
 simp only [putAll, Act.put, List.setIfInBounds_toArray, List.set_cons_zero, List.set_cons_succ]
 rfl }
 refine one_ (i := 6) (N := some 22) #[true, true, true, true, true, true, true, false, false] rfl rfl (one_of HT_.out (by kernel_rfl)) (by decide) (fun K hK => ?_)
 refine Kd.N_append_rows_step k50 (w0 := w) w.heap.size (by rfl) (.tmp 19) (.tmp 21) 34 50 (.agg #[(.int .i64 0), (.int .i64 0), (.int .i64 0), (.slice none 0 0), (.int .i64 0)]) 56 rfl Try.underlying34 info50 rfl (by decide) (by omega) v316 y315 y318 _ _ _ (fun k_ => ((P0_ k_ ∨ P1_3_ k_) ∨ w.heap.size ≤ k_) ∧ k_ ≠ gb309 ∧ k_ ≠ gb311) (fun k_ => ((fun k_ => ((P0_ k_ ∨ P1_3_ k_) ∨ w.heap.size ≤ k_) ∧ k_ ≠ gb309 ∧ k_ ≠ gb311)) k_ ∧ some k_ ≠ (v316 : Value).ownBlock) rfl rfl ?aO ?aR (fun _ hk => hk) ?aF ?aB ?aS ?aL ?_
 (case aR => exact (by skip; exact Kd.N_F (Kd.N_mono (ok' := (fun k_ => ((fun k_ => ((P0_ k_ ∨ P1_3_ k_) ∨ w.heap.size ≤ k_) ∧ k_ ≠ gb309 ∧ k_ ≠ gb311)) k_ ∧ some k_ ≠ (v316 : Value).ownBlock)) (HO320.out) (fun k_ hk => ⟨⟨hk.1, ⟨hk.2.2.1, hk.2.2.2⟩⟩, hk.2.1⟩))))
 (case aB => exact bb)
 (case aF => exact (fun k_ hk => ⟨(.inr (Nat.le_trans bz hk)), Kd.freshB (g := gb309) (o := .cells #[.int .i64 a1_0, .int .i64 a1_1, .int .i64 a1_2, .slice A1_3 l1_3.length c1_3, .int .i64 a1_4] 50 (0, 0)) (kk BK309.out) k_ hk, Kd.freshB (g := gb311) (o := .cells #[.slice A310_0 ((rd_T62 l0 (ji5)).f0).length c310_0, .slice A310_1 ((rd_T62 l0 (ji5)).f1).length c310_1, .slice A310_2 ((rd_T62 l0 (ji5)).f2).length c310_2] 62 (0, 0)) (kk BK311.out) k_ hk⟩))
 (case aO => exact (by (with_reducible repeat (first | apply Kd.N_alloc | apply Kd.N_drewN | apply Kd.N_drew)); exact Kd.N_mono HO317.out (fun _ hk => ⟨hk.1, ⟨hk.2.2.1, hk.2.2.2⟩⟩)))
 (case aS => exact bz)
 (case aL => have := LMc9.out; omega)
 intro v322 w23 ho hb hg hat
 rw [← Ny321.out] at ho
 have n0_ := aS (Kd.V_afterv (ok := (fun k_ => ((P0_ k_ ∨ P1_3_ k_) ∨ w.heap.size ≤ k_) ∧ some k_ ≠ (.slice Ao24 y318.length co24 : Value).ownBlock ∧ k_ ≠ gb309 ∧ k_ ≠ gb311)) (vv (Kd.V_mono HO0.out (fun _ hk => ⟨⟨hk.1, ⟨hk.2.2.1, ⟨hk.2.2.2.1, hk.2.2.2.2⟩⟩⟩, hk.2.1⟩))) hg hat)
 have n1_ := aS (Kd.V_afterv (ok := (fun k_ => ((P0_ k_ ∨ P1_3_ k_) ∨ w.heap.size ≤ k_) ∧ some k_ ≠ (.slice Ao24 y318.length co24 : Value).ownBlock ∧ k_ ≠ gb309 ∧ k_ ≠ gb311)) (vv (Kd.V_mono HO1_3.out (fun _ hk => ⟨⟨hk.1, ⟨hk.2.2.1, ⟨hk.2.2.2.1, hk.2.2.2.2⟩⟩⟩, hk.2.1⟩))) hg hat)
 have n2_ := aS (blk_grown (g := gb309) (o := .cells #[.int .i64 a1_0, .int .i64 a1_1, .int .i64 a1_2, .slice A1_3 l1_3.length c1_3, .int .i64 a1_4] 50 (0, 0)) (kk BK309.out) hg (Kd.N_away HO317.out (fun _ hk => hk.2.2.1)))
 have n3_ := aS (Kd.V_afterv (ok := (fun k_ => ((P0_ k_ ∨ P1_3_ k_) ∨ w.heap.size ≤ k_) ∧ some k_ ≠ (.slice Ao24 y318.length co24 : Value).ownBlock ∧ k_ ≠ gb309 ∧ k_ ≠ gb311)) (vv (Kd.V_mono HL310_0.out (fun _ hk => ⟨⟨hk.1, ⟨hk.2.2.1, ⟨hk.2.2.2.1, hk.2.2.2.2⟩⟩⟩, hk.2.1⟩))) hg hat)
 have n4_ := aS (Kd.V_afterv (ok := (fun k_ => ((P0_ k_ ∨ P1_3_ k_) ∨ w.heap.size ≤ k_) ∧ some k_ ≠ (.slice Ao24 y318.length co24 : Value).ownBlock ∧ k_ ≠ gb309 ∧ k_ ≠ gb311)) (vv (Kd.V_mono HL310_1.out (fun _ hk => ⟨⟨hk.1, ⟨hk.2.2.1, ⟨hk.2.2.2.1, hk.2.2.2.2⟩⟩⟩, hk.2.1⟩))) hg hat)
 have n5_ := aS (Kd.V_afterv (ok := (fun k_ => ((P0_ k_ ∨ P1_3_ k_) ∨ w.heap.size ≤ k_) ∧ some k_ ≠ (.slice Ao24 y318.length co24 : Value).ownBlock ∧ k_ ≠ gb309 ∧ k_ ≠ gb311)) (vv (Kd.V_mono HL310_2.out (fun _ hk => ⟨⟨hk.1, ⟨hk.2.2.1, ⟨hk.2.2.2.1, hk.2.2.2.2⟩⟩⟩, hk.2.1⟩))) hg hat)
 have n6_ := aS (blk_grown (g := gb311) (o := .cells #[.slice A310_0 ((rd_T62 l0 (ji5)).f0).length c310_0, .slice A310_1 ((rd_T62 l0 (ji5)).f1).length c310_1, .slice A310_2 ((rd_T62 l0 (ji5)).f2).length c310_2] 62 (0, 0)) (kk BK311.out) hg (Kd.N_ne HO317.out BK311.out (by decide)))
 have n7_ := aS (Kd.N_afterv (ok := (fun k_ => ((P0_ k_ ∨ P1_3_ k_) ∨ w.heap.size ≤ k_) ∧ k_ ≠ gb309 ∧ k_ ≠ gb311)) (by (with_reducible repeat (first | apply Kd.N_alloc | apply Kd.N_drewN | apply Kd.N_drew)); exact Kd.N_mono HO320.out (fun _ hk => ⟨⟨hk.1, ⟨hk.2.2.1, hk.2.2.2⟩⟩, hk.2.1⟩)) hg hat)
 have n8_ := aS (hb)
 have n9_ := aS (ho)
 clear HO0
 clear HO1_3
 clear BK309
 clear HL310_0
 clear HL310_1
 clear HL310_2
 clear BK311
 clear HO320
 clear HB
 clear HO317
 have HO0 := n0_
 have HO1_3 := n1_
 have BK309 := n2_
 have HL310_0 := n3_
 have HL310_1 := n4_
 have HL310_2 := n5_
 have BK311 := n6_
 have HO320 := n7_
 have HB := n8_
 have HO323 := n9_
 clear n0_ n1_ n2_ n3_ n4_ n5_ n6_ n7_ n8_ n9_
 clear ho hb hg hat
 obtain ⟨Ao25, co25, eo25⟩ := Kd.N_slice HO323.out
 (first | subst eo25 | (injection eo25 with f1_ f2_ f3_; have f4_ := f1_.symm; have f5_ := f3_.symm; clear f1_ f2_ f3_; subst f4_; subst f5_))
 refine hK.out _ _ ⟨(blk_cell BK311.out 0).trans rfl, (blk_cell BK311.out 1).trans rfl, (blk_cell BK311.out 2).trans rfl, (blk_cell BK309.out 0).trans rfl, (blk_cell BK309.out 1).trans rfl, (blk_cell BK309.out 2).trans rfl, (blk_cell BK309.out 3).trans rfl, (blk_cell BK309.out 4).trans rfl⟩ (fun hHeld => ?_)
 clear hK K
 refine norm_ (a' := ?_) ?_ ?_
 rotate_left
 {
 show Act.put _ (some 22) _ = _
 simp only [Act.put, sT, s0, s1, i64_w, i32_w]
 rfl }
 refine pure_ (i := 7) (N := some 23) (v := ?_) (a' := ?_) #[true, true, true, true, true, true, true, true, false] rfl rfl (any_of HT_.out (by kernel_rfl)) (fun _ _ _ h => h) (Or.inl ⟨by rfl, ?_⟩) ?_ ?_
 rotate_left
 {
 intro w'
 go_simp
 with_reducible rfl }
 rotate_left
 {
 simp only [Act.put, sT, s0, s1, i64_w, i32_w]
 rfl }
 refine last_ (i := 8) (N := none) #[true, true, true, true, true, true, true, true, true] rfl rfl (one_of HT_.out (by kernel_rfl)) (by decide) (fun K hK => ?_)
 have hs26 : w23.cell? ⟨gb311, 2, none⟩ = some (.slice A310_2 ((rd_T62 l0 (ji5)).f2).length c310_2) := (blk_cell BK311.out 2).trans rfl
 have hfs26 := blk_frozen BK311.out 2
 have hns26_0 := NB309_311.out
 have hms26_0 := NB311_309.out
 refine skip_ (w1 := ?_) (by rfl) rfl ?_ ?_
 rotate_left
 {
 go_simp
 rfl }
 refine hK.out _ _ ?_
 clear hK K
 refine done_ (done_of HT_.out (by kernel_rfl)) ?_
 have n0_ : Aside0 (Kd.V k62 62 (w23.setCell ⟨gb311, 2, none⟩ (.slice Ao25 y321.length co25)) w.heap.size (fun k_ => ((P0_ k_ ∨ P1_3_ k_) ∨ w.heap.size ≤ k_) ∧ some k_ ≠ (.slice Ao24 y318.length co24 : Value).ownBlock ∧ some k_ ≠ (.slice Ao25 y321.length co25 : Value).ownBlock ∧ k_ ≠ gb309 ∧ k_ ≠ gb311) (.slice (some ad310) l0.length c0) l0) := ⟨by (with_reducible repeat (first | apply Kd.V_alloc | apply Kd.V_drewN | apply Kd.V_drew)); exact Kd.V_mono (Kd.V_far (p := ⟨gb311, 2, none⟩) (Kd.V_mono HO0.out (fun k_ hk => (⟨hk, hk.1.2.2.2⟩ : _ ∧ k_ ≠ gb311))) (fun _ hk => hk.2) (.slice Ao25 y321.length co25)) (fun _ hk => ⟨hk.1.1.1, ⟨hk.1.1.2.1, ⟨hk.1.2, ⟨hk.1.1.2.2.1, hk.1.1.2.2.2⟩⟩⟩⟩)⟩
 have n1_ : Aside0 (Kd.V k48 48 (w23.setCell ⟨gb311, 2, none⟩ (.slice Ao25 y321.length co25)) w.heap.size (fun k_ => ((P0_ k_ ∨ P1_3_ k_) ∨ w.heap.size ≤ k_) ∧ some k_ ≠ (.slice Ao24 y318.length co24 : Value).ownBlock ∧ some k_ ≠ (.slice Ao25 y321.length co25 : Value).ownBlock ∧ k_ ≠ gb309 ∧ k_ ≠ gb311) (.slice A1_3 l1_3.length c1_3) l1_3) := ⟨by (with_reducible repeat (first | apply Kd.V_alloc | apply Kd.V_drewN | apply Kd.V_drew)); exact Kd.V_mono (Kd.V_far (p := ⟨gb311, 2, none⟩) (Kd.V_mono HO1_3.out (fun k_ hk => (⟨hk, hk.1.2.2.2⟩ : _ ∧ k_ ≠ gb311))) (fun _ hk => hk.2) (.slice Ao25 y321.length co25)) (fun _ hk => ⟨hk.1.1.1, ⟨hk.1.1.2.1, ⟨hk.1.2, ⟨hk.1.1.2.2.1, hk.1.1.2.2.2⟩⟩⟩⟩)⟩
 have n2_ : Aside0 (Kd.V k30 30 (w23.setCell ⟨gb311, 2, none⟩ (.slice Ao25 y321.length co25)) w.heap.size (fun k_ => ((P0_ k_ ∨ P1_3_ k_) ∨ w.heap.size ≤ k_) ∧ some k_ ≠ (.slice Ao24 y318.length co24 : Value).ownBlock ∧ some k_ ≠ (.slice Ao25 y321.length co25 : Value).ownBlock ∧ k_ ≠ gb309 ∧ k_ ≠ gb311) (.slice A310_0 ((rd_T62 l0 (ji5)).f0).length c310_0) ((rd_T62 l0 (ji5)).f0)) := ⟨by (with_reducible repeat (first | apply Kd.V_alloc | apply Kd.V_drewN | apply Kd.V_drew)); exact Kd.V_mono (Kd.V_far (p := ⟨gb311, 2, none⟩) (Kd.V_mono HL310_0.out (fun k_ hk => (⟨hk, hk.1.2.2.2⟩ : _ ∧ k_ ≠ gb311))) (fun _ hk => hk.2) (.slice Ao25 y321.length co25)) (fun _ hk => ⟨hk.1.1.1, ⟨hk.1.1.2.1, ⟨hk.1.2, ⟨hk.1.1.2.2.1, hk.1.1.2.2.2⟩⟩⟩⟩)⟩
 have n3_ : Aside0 (Kd.V k33 33 (w23.setCell ⟨gb311, 2, none⟩ (.slice Ao25 y321.length co25)) w.heap.size (fun k_ => ((P0_ k_ ∨ P1_3_ k_) ∨ w.heap.size ≤ k_) ∧ some k_ ≠ (.slice Ao24 y318.length co24 : Value).ownBlock ∧ some k_ ≠ (.slice Ao25 y321.length co25 : Value).ownBlock ∧ k_ ≠ gb309 ∧ k_ ≠ gb311) (.slice A310_1 ((rd_T62 l0 (ji5)).f1).length c310_1) ((rd_T62 l0 (ji5)).f1)) := ⟨by (with_reducible repeat (first | apply Kd.V_alloc | apply Kd.V_drewN | apply Kd.V_drew)); exact Kd.V_mono (Kd.V_far (p := ⟨gb311, 2, none⟩) (Kd.V_mono HL310_1.out (fun k_ hk => (⟨hk, hk.1.2.2.2⟩ : _ ∧ k_ ≠ gb311))) (fun _ hk => hk.2) (.slice Ao25 y321.length co25)) (fun _ hk => ⟨hk.1.1.1, ⟨hk.1.1.2.1, ⟨hk.1.2, ⟨hk.1.1.2.2.1, hk.1.1.2.2.2⟩⟩⟩⟩)⟩
 have n4_ : Aside0 (Kd.V k50 50 (w23.setCell ⟨gb311, 2, none⟩ (.slice Ao25 y321.length co25)) w.heap.size (fun k_ => ((P0_ k_ ∨ P1_3_ k_) ∨ w.heap.size ≤ k_) ∧ some k_ ≠ (.slice Ao24 y318.length co24 : Value).ownBlock ∧ some k_ ≠ (.slice Ao25 y321.length co25 : Value).ownBlock ∧ k_ ≠ gb309 ∧ k_ ≠ gb311) (.slice A310_2 ((rd_T62 l0 (ji5)).f2).length c310_2) ((rd_T62 l0 (ji5)).f2)) := ⟨by (with_reducible repeat (first | apply Kd.V_alloc | apply Kd.V_drewN | apply Kd.V_drew)); exact Kd.V_mono (Kd.V_far (p := ⟨gb311, 2, none⟩) (Kd.V_mono HL310_2.out (fun k_ hk => (⟨hk, hk.1.2.2.2⟩ : _ ∧ k_ ≠ gb311))) (fun _ hk => hk.2) (.slice Ao25 y321.length co25)) (fun _ hk => ⟨hk.1.1.1, ⟨hk.1.1.2.1, ⟨hk.1.2, ⟨hk.1.1.2.2.1, hk.1.1.2.2.2⟩⟩⟩⟩)⟩
 have n5_ : Aside0 (Kd.N k50 50 (w23.setCell ⟨gb311, 2, none⟩ (.slice Ao25 y321.length co25)) w.heap.size (fun k_ => ((P0_ k_ ∨ P1_3_ k_) ∨ w.heap.size ≤ k_) ∧ some k_ ≠ (.slice Ao25 y321.length co25 : Value).ownBlock ∧ k_ ≠ gb309 ∧ k_ ≠ gb311) (.slice Ao24 y318.length co24) y318) := ⟨by (with_reducible repeat (first | apply Kd.N_alloc | apply Kd.N_drewN | apply Kd.N_drew)); exact Kd.N_mono (Kd.N_far (p := ⟨gb311, 2, none⟩) (Kd.N_mono HO320.out (fun k_ hk => (⟨hk, hk.1.2.2⟩ : _ ∧ k_ ≠ gb311))) (fun _ hk => hk.2) (.slice Ao25 y321.length co25)) (fun _ hk => ⟨hk.1.1.1, ⟨hk.1.2, ⟨hk.1.1.2.1, hk.1.1.2.2⟩⟩⟩)⟩
 have n6_ : Aside0 (Kd.N k50 50 (w23.setCell ⟨gb311, 2, none⟩ (.slice Ao25 y321.length co25)) w.heap.size (fun k_ => ((P0_ k_ ∨ P1_3_ k_) ∨ w.heap.size ≤ k_) ∧ k_ ≠ gb309 ∧ k_ ≠ gb311) (.slice Ao25 y321.length co25) y321) := ⟨by (with_reducible repeat (first | apply Kd.N_alloc | apply Kd.N_drewN | apply Kd.N_drew)); exact Kd.N_mono (Kd.N_far (p := ⟨gb311, 2, none⟩) (Kd.N_mono HO323.out (fun k_ hk => (⟨hk, hk.2.2⟩ : _ ∧ k_ ≠ gb311))) (fun _ hk => hk.2) (.slice Ao25 y321.length co25)) (fun _ hk => ⟨hk.1.1, ⟨hk.1.2.1, hk.1.2.2⟩⟩)⟩
 have n7_ : Aside0 ((w23.setCell ⟨gb311, 2, none⟩ (.slice Ao25 y321.length co25)).heap[gb309]? = some (.cells #[.int .i64 a1_0, .int .i64 a1_1, .int .i64 a1_2, .slice A1_3 l1_3.length c1_3, .int .i64 a1_4] 50 (0, 0))) := ⟨by (with_reducible repeat (first | refine blk_drewN ?_ _ | refine blk_drew ?_ | refine blk_alloc ?_ _)); refine blk_far ?_ NB309_311.out _; (with_reducible repeat (first | refine blk_drewN ?_ _ | refine blk_drew ?_ | refine blk_alloc ?_ _)); exact BK309.out⟩
 have n8_ : Aside0 ((w23.setCell ⟨gb311, 2, none⟩ (.slice Ao25 y321.length co25)).heap[gb311]? = some (.cells #[.slice A310_0 ((rd_T62 l0 (ji5)).f0).length c310_0, .slice A310_1 ((rd_T62 l0 (ji5)).f1).length c310_1, .slice Ao25 y321.length co25] 62 (0, 0))) := ⟨by (with_reducible repeat (first | refine blk_drewN ?_ _ | refine blk_drew ?_ | refine blk_alloc ?_ _)); refine blk_put (cs := #[.slice A310_0 ((rd_T62 l0 (ji5)).f0).length c310_0, .slice A310_1 ((rd_T62 l0 (ji5)).f1).length c310_1, .slice A310_2 ((rd_T62 l0 (ji5)).f2).length c310_2]) ?_ 2 _ rfl; (with_reducible repeat (first | refine blk_drewN ?_ _ | refine blk_drew ?_ | refine blk_alloc ?_ _)); exact BK311.out⟩
 have n9_ : Aside0 (Below w.heap.size w (w23.setCell ⟨gb311, 2, none⟩ (.slice Ao25 y321.length co25))) := ⟨by repeat (first | (with_reducible first | exact HB.out | apply below_alloc | apply pw_below_drewN | apply below_drew1 | refine below_set ?_ GE309.out | refine below_set ?_ GE311.out) | exact HB.out)⟩
 (try clear HO0)
 (try clear HO1_3)
 (try clear HL310_0)
 (try clear HL310_1)
 (try clear HL310_2)
 (try clear HO320)
 (try clear HO323)
 (try clear BK309)
 (try clear BK311)
 (try clear HB)
 generalize (w23.setCell ⟨gb311, 2, none⟩ (.slice Ao25 y321.length co25)) = w27 at n0_ n1_ n2_ n3_ n4_ n5_ n6_ n7_ n8_ n9_ ⊢
 have HO0 := n0_
 have HO1_3 := n1_
 have HL310_0 := n2_
 have HL310_1 := n3_
 have HL310_2 := n4_
 have HO320 := n5_
 have HO323 := n6_
 have BK309 := n7_
 have BK311 := n8_
 have HB := n9_
 clear n0_ n1_ n2_ n3_ n4_ n5_ n6_ n7_ n8_ n9_
 have hcz28_0 : w27.cell? ⟨gb311, 0, none⟩ = some (.slice A310_0 ((rd_T62 l0 (ji5)).f0).length c310_0) := (blk_cell BK311.out 0).trans rfl
 have hcz28_1 : w27.cell? ⟨gb311, 1, none⟩ = some (.slice A310_1 ((rd_T62 l0 (ji5)).f1).length c310_1) := (blk_cell BK311.out 1).trans rfl
 have hcz28_2 : w27.cell? ⟨gb311, 2, none⟩ = some (.slice Ao25 y321.length co25) := (blk_cell BK311.out 2).trans rfl
 have hfz28_0 := blk_frozen BK311.out 0
 have hfz28_1 := blk_frozen BK311.out 1
 have hfz28_2 := blk_frozen BK311.out 2
 try go_wp2_with (first | ((with_reducible refine gate_callee (f := 47) rfl ?_); refine goesL_ (some 26) rfl rfl Try.func47 (by kernel_rfl) rfl #[.slice (some ad310) l0.length c0, .agg #[.slice A310_0 ((rd_T62 l0 (ji5)).f0).length c310_0, .slice A310_1 ((rd_T62 l0 (ji5)).f1).length c310_1, .slice Ao25 y321.length co25]] rfl (by (try simp only [List.map_toArray, List.map_cons, List.map_nil]); first | done | (simp only [hji5]; rfl) | rfl | (simp only [List.length_drop, List.length_take]; rfl)) ?_; (with_reducible refine (hallmootref13_with.calls (fun k_ => (((P0_ k_ ∨ P1_3_ k_) ∨ w.heap.size ≤ k_) ∧ (some k_ ≠ (.slice Ao24 y318.length co24 : Value).ownBlock ∧ (some k_ ≠ (.slice Ao25 y321.length co25 : Value).ownBlock ∧ (k_ ≠ gb309 ∧ k_ ≠ gb311))))) _ _ l0 (fun k_ => (((P0_ k_ ∨ P1_3_ k_) ∨ w.heap.size ≤ k_) ∧ (some k_ ≠ (.slice Ao24 y318.length co24 : Value).ownBlock ∧ (some k_ ≠ (.slice Ao25 y321.length co25 : Value).ownBlock ∧ (k_ ≠ gb309 ∧ k_ ≠ gb311))))) _ _ ((rd_T62 l0 (ji5)).f0) (fun k_ => (((P0_ k_ ∨ P1_3_ k_) ∨ w.heap.size ≤ k_) ∧ (some k_ ≠ (.slice Ao24 y318.length co24 : Value).ownBlock ∧ (some k_ ≠ (.slice Ao25 y321.length co25 : Value).ownBlock ∧ (k_ ≠ gb309 ∧ k_ ≠ gb311))))) _ _ ((rd_T62 l0 (ji5)).f1) (fun k_ => (((P0_ k_ ∨ P1_3_ k_) ∨ w.heap.size ≤ k_) ∧ (k_ ≠ gb309 ∧ k_ ≠ gb311))) _ _ y321 t324 _ ?side1 ?side2 ?side3 ?side4 A10.out).mono ?_); (case side1 => exact HO0.out); (case side2 => exact HL310_0.out); (case side3 => exact HL310_1.out); (case side4 => exact Kd.N_V (HO323.out)); rintro e w29 ⟨v325, rfl, ho0, hb⟩; refine ⟨_, rfl, ?_⟩; have n0_ := aS (Kd.V_elder' (vv HO0.out) (Kd.N_base ho0) hb); have n1_ := aS (Kd.V_elder' (vv HO1_3.out) (Kd.N_base ho0) hb); have n2_ := aS (Kd.V_elder' (vv HL310_0.out) (Kd.N_base ho0) hb); have n3_ := aS (Kd.V_elder' (vv HL310_1.out) (Kd.N_base ho0) hb); have n4_ := aS (Kd.V_elder' (vv HL310_2.out) (Kd.N_base ho0) hb); have n5_ := aS (Kd.N_elder' (by (with_reducible repeat (first | apply Kd.N_alloc | apply Kd.N_drewN | apply Kd.N_drew)); exact HO320.out) (Kd.N_base ho0) hb); have n6_ := aS (Kd.N_elder' (by (with_reducible repeat (first | apply Kd.N_alloc | apply Kd.N_drewN | apply Kd.N_drew)); exact HO323.out) (Kd.N_base ho0) hb); have n7_ := aS (Kd.N_lower (Kd.N_mono (ok' := fun k_ => ((P0_ k_ ∨ P1_3_ k_) ∨ w.heap.size ≤ k_) ∧ k_ ≠ gb309 ∧ k_ ≠ gb311) ho0 (fun k_ hk_ => ⟨Or.elim hk_ (fun hs_ => Or.elim hs_ (fun hs_ => hs_.1) (fun hs_ => Or.elim hs_ (fun hs_ => hs_.1) (fun hs_ => Or.elim hs_ (fun hs_ => hs_.1) (fun hs_ => hs_.1)))) (fun hn_ => (.inr (Nat.le_trans bz hn_))), Or.elim hk_ (fun hs_ => Or.elim hs_ (fun hs_ => hs_.2.2.2.1) (fun hs_ => Or.elim hs_ (fun hs_ => hs_.2.2.2.1) (fun hs_ => Or.elim hs_ (fun hs_ => hs_.2.2.2.1) (fun hs_ => hs_.2.1)))) (fun hn_ => (Kd.freshB (g := gb309) (o := .cells #[.int .i64 a1_0, .int .i64 a1_1, .int .i64 a1_2, .slice A1_3 l1_3.length c1_3, .int .i64 a1_4] 50 (0, 0)) (kk BK309.out) k_ hn_)), Or.elim hk_ (fun hs_ => Or.elim hs_ (fun hs_ => hs_.2.2.2.2) (fun hs_ => Or.elim hs_ (fun hs_ => hs_.2.2.2.2) (fun hs_ => Or.elim hs_ (fun hs_ => hs_.2.2.2.2) (fun hs_ => hs_.2.2)))) (fun hn_ => (Kd.freshB (g := gb311) (o := .cells #[.slice A310_0 ((rd_T62 l0 (ji5)).f0).length c310_0, .slice A310_1 ((rd_T62 l0 (ji5)).f1).length c310_1, .slice Ao25 y321.length co25] 62 (0, 0)) (kk BK311.out) k_ hn_))⟩)) bz); have n8_ := aS (blk_below (g := gb309) (o := .cells #[.int .i64 a1_0, .int .i64 a1_1, .int .i64 a1_2, .slice A1_3 l1_3.length c1_3, .int .i64 a1_4] 50 (0, 0)) (kk BK309.out) hb); have n9_ := aS (blk_below (g := gb311) (o := .cells #[.slice A310_0 ((rd_T62 l0 (ji5)).f0).length c310_0, .slice A310_1 ((rd_T62 l0 (ji5)).f1).length c310_1, .slice Ao25 y321.length co25] 62 (0, 0)) (kk BK311.out) hb); have n10_ := aS (below_step bb hb); clear HO0; clear HO1_3; clear HL310_0; clear HL310_1; clear HL310_2; clear HO320; clear HO323; clear BK309; clear BK311; clear HB; have HO0 := n0_; have HO1_3 := n1_; have HL310_0 := n2_; have HL310_1 := n3_; have HL310_2 := n4_; have HO320 := n5_; have HO323 := n6_; have HO326 := n7_; have BK309 := n8_; have BK311 := n9_; have HB := n10_; clear n0_ n1_ n2_ n3_ n4_ n5_ n6_ n7_ n8_ n9_ n10_; (try clear hb); (try clear hb2); (try clear hk); (try clear hi); (try clear ho0)))
 go_ret
 exact ⟨_, by first | rfl | (simp [errW_none, errW_some] <;> rfl) | (simp only [← hji5]; first | rfl | (simp [errW_none, errW_some] <;> rfl)) | (simp [*, errW_none, errW_some] <;> rfl), Kd.N_V (by (with_reducible repeat (first | apply Kd.N_alloc | apply Kd.N_drewN | apply Kd.N_drew)); exact Kd.N_mono HO326.out (fun _ hk => hk.1)), by repeat (first | (with_reducible first | exact HB.out | apply below_alloc | apply pw_below_drewN | apply below_drew1 | refine below_set ?_ GE309.out | refine below_set ?_ GE311.out) | exact HB.out)⟩ }
 {
 rw [if_neg c9] at H
 exact absurd H (by simp) } }
 {
 rw [if_neg c8] at H
 exact absurd H (by simp) } }
 {
 rw [if_neg c7] at H
 exact absurd H (by simp) } }
 {
 rw [if_neg c6] at H
 exact absurd H (by simp) } }

end Go.Proofs.Ytfojpobblebigaa.P
