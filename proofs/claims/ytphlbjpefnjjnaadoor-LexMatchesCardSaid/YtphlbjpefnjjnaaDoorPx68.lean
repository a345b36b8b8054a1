-- Written by pp.py (this session's program over the kit's printer): functions, contracts. Not trusted: Lean checks it.
import Derived.Test.YtphlbjpefnjjnaaDoorPx0
import Derived.Test.YtphlbjpefnjjnaaDoorYZ
import Derived.Test.YtphlbjpefnjjnaaDoorPx54
import Derived.Test.YtphlbjpefnjjnaaDoorPx63
import Derived.Test.YtphlbjpefnjjnaaDoorPx67
import Derived.Test.YtphlbjpefnjjnaaDoorHb
import Derived.Test.YtphlbjpefnjjnaaDoorHf
namespace Go.Proofs.YtphlbjpefnjjnaaDoor.P
open Go.RowKit Go.Proofs.YtphlbjpefnjjnaaDoorW.PrintWords Go.Proofs.YtphlbjpefnjjnaaDoorW.PrintLast Go.Proofs.YtphlbjpefnjjnaaDoorW.PrintMore
attribute [local go_sem] max2_int min2_int max_two min_two max_three min_three max_four min_four   -- for this text's walks alone
set_option linter.unusedVariables false
set_option linter.unusedSimpArgs false

/-! ### hallmootlaw04_LexMatches: function 3 -/
def hallmootlaw04_LexMatches.f (k : Nat) (a0 : ByteArray) : Option (Bool) := (hallmootlaw04_sanity.f k).bind fun t176 => (if (a0.size : Int) > 600 then (some t176) else ((lex_Words.f a0).bind fun bt177 => ((hallmootref04_Words.f k a0).bind fun bt181 => (if t176 = true then (if bt177.2 = bt181.2 then ((hallmootref04_Same.f k bt177.1 bt181.1).bind fun t185 => (some t185)) else (none)) else (none)))))
theorem hallmootlaw04_LexMatches.mono : ∀ a0 k, LeO (hallmootlaw04_LexMatches.f k a0) (hallmootlaw04_LexMatches.f (k + 1) a0) := by
 intro a0 k
 unfold hallmootlaw04_LexMatches.f
 repeat' first | (with_reducible exact hallmootlaw04_sanity.mono _) | (with_reducible exact hallmootref04_Same.mono _ _ _) | (with_reducible exact hallmootref04_Words.mono _ _) | (with_reducible exact LeO.refl _) | (with_reducible exact LeO.none _) | (with_reducible refine LeO.ite ?_ ?_) | (with_reducible refine LeO.bind ?_ (fun _ => ?_)) | exact hallmootlaw04_sanity.mono _ | exact hallmootref04_Same.mono _ _ _ | exact hallmootref04_Words.mono _ _ | exact LeO.none _ | refine LeO.ite ?_ ?_ | refine LeO.bind ?_ (fun _ => ?_)
set_option maxHeartbeats 8000000 in
set_option maxRecDepth 100000 in
theorem hallmootlaw04_LexMatches.calls (k : Nat) (a0 : ByteArray) (r : Bool) (w : World) (h : hallmootlaw04_LexMatches.f k a0 = some r) (hL : Laid w) : Calls Tryd.prog 3 #[.string a0] w fun e w' => e = .returned (.bool r) ∧ Below w.heap.size w w' := by
 have HB := aS (Below.refl w.heap.size w)
 have H : ((hallmootlaw04_sanity.f k).bind fun t176 => (if (a0.size : Int) > 600 then (some t176) else ((lex_Words.f a0).bind fun bt177 => ((hallmootref04_Words.f k a0).bind fun bt181 => (if t176 = true then (if bt177.2 = bt181.2 then ((hallmootref04_Same.f k bt177.1 bt181.1).bind fun t185 => (some t185)) else (none)) else (none)))))) = some r := h
 clear h
 replace H := Option.bind_eq_some_iff.mp H
 obtain ⟨t176, A20, H⟩ := H
 replace H : (if (a0.size : Int) > 600 then (some t176) else ((lex_Words.f a0).bind fun bt177 => ((hallmootref04_Words.f k a0).bind fun bt181 => (if t176 = true then (if bt177.2 = bt181.2 then ((hallmootref04_Same.f k bt177.1 bt181.1).bind fun t185 => (some t185)) else (none)) else (none))))) = some r := H
 have A2 := aS A20
 clear A20
 by_cases c3 : (a0.size : Int) > 600
 {
 rw [if_pos c3] at H
 have c3b0 : decide (600 < (a0.size : Int)) = true := decide_eq_true c3
 have c3b1 : decide (600 < a0.size) = true := decide_eq_true (by omega)
 clear c3
 obtain rfl := Option.some.inj H
 go_enter Tryd.func3, Tryd.ntmps3
 go_wp2_with (first | ((with_reducible refine gate_callee (f := 9) rfl ?_); refine goesL_ (some 8) rfl rfl Tryd.func9 (by kernel_rfl) rfl #[] rfl (by (try simp only [List.map_toArray, List.map_cons, List.map_nil]); first | done | rfl | (simp only [List.length_drop, List.length_take]; rfl)) ?_; (with_reducible refine (hallmootlaw04_sanity.calls k  t176 _ A2.out (hL.below bb)).mono ?_); rintro e w4 ⟨rfl, hb⟩; refine ⟨_, rfl, ?_⟩; have n0_ := aS (below_step bb hb); clear HB; have HB := n0_; clear n0_; (try clear hb); (try clear hb2); (try clear hk); (try clear hi)))
 go_ret
 exact ⟨by first | rfl | (simp [errW_none, errW_some] <;> rfl) | (simp [*, errW_none, errW_some] <;> rfl), by repeat (first | (with_reducible first | exact HB.out | apply below_alloc | apply pw_below_drewN | apply below_drew1) | exact HB.out)⟩ }
 {
 rw [if_neg c3] at H
 have c3b0 : decide (600 < (a0.size : Int)) = false := decide_eq_false c3
 have c3b1 : decide (600 < a0.size) = false := decide_eq_false (by omega)
 clear c3
 replace H := Option.bind_eq_some_iff.mp H
 obtain ⟨⟨t177, t178⟩, A50, H⟩ := H
 replace H : ((hallmootref04_Words.f k a0).bind fun bt181 => (if t176 = true then (if t178 = bt181.2 then ((hallmootref04_Same.f k t177 bt181.1).bind fun t185 => (some t185)) else (none)) else (none))) = some r := H
 have A5 := aS A50
 clear A50
 replace H := Option.bind_eq_some_iff.mp H
 obtain ⟨⟨t181, t182⟩, A60, H⟩ := H
 replace H : (if t176 = true then (if t178 = t182 then ((hallmootref04_Same.f k t177 t181).bind fun t185 => (some t185)) else (none)) else (none)) = some r := H
 have A6 := aS A60
 clear A60
 by_cases c7 : t176 = true
 {
 subst c7
 have H1 : (if t178 = t182 then ((hallmootref04_Same.f k t177 t181).bind fun t185 => (some t185)) else (none)) = some r := by rw [if_pos rfl] at H; exact H
 clear H
 have H := H1
 clear H1
 by_cases c8 : t178 = t182
 {
 rw [if_pos c8] at H
 have c8b0 : (t178 == t182) = true := beq_iff_eq.mpr c8
 have c8b1 : (t178 != t182) = false := bne_eq_false_iff_eq.mpr c8
 clear c8
 replace H := Option.bind_eq_some_iff.mp H
 obtain ⟨t185, A90, H⟩ := H
 replace H : (some t185) = some r := H
 have A9 := aS A90
 clear A90
 obtain rfl := Option.some.inj H
 go_enter Tryd.func3, Tryd.ntmps3
 go_wp2_with (first | ((with_reducible refine gate_callee (f := 9) rfl ?_); refine goesL_ (some 8) rfl rfl Tryd.func9 (by kernel_rfl) rfl #[] rfl (by (try simp only [List.map_toArray, List.map_cons, List.map_nil]); first | done | rfl | (simp only [List.length_drop, List.length_take]; rfl)) ?_; (with_reducible refine (hallmootlaw04_sanity.calls k  true _ A2.out (hL.below bb)).mono ?_); rintro e w10 ⟨rfl, hb⟩; refine ⟨_, rfl, ?_⟩; have n0_ := aS (below_step bb hb); clear HB; have HB := n0_; clear n0_; (try clear hb); (try clear hb2); (try clear hk); (try clear hi)) | ((with_reducible refine gate_callee (f := 10) rfl ?_); refine goesL_ (some 15) rfl rfl Tryd.func10 (by kernel_rfl) rfl #[.string a0] rfl (by (try simp only [List.map_toArray, List.map_cons, List.map_nil]); first | done | rfl | (simp only [List.length_drop, List.length_take]; rfl)) ?_; (with_reducible refine (lex_Words.calls a0 t177 t178 _ A5.out (hL.below bb)).mono ?_); rintro e w11 ⟨v179, rfl, ho0, hb⟩; refine ⟨_, rfl, ?_⟩; have n0_ := aS (Kd.R_lower ho0 bz); have n1_ := aS (below_step bb hb); clear HB; have HO180 := n0_; have HB := n1_; clear n0_ n1_; (try clear hb); (try clear hb2); (try clear hk); (try clear hi); (try clear ho0)) | ((with_reducible refine gate_callee (f := 11) rfl ?_); refine goesL_ (some 20) rfl rfl Tryd.func11 (by kernel_rfl) rfl #[.string a0] rfl (by (try simp only [List.map_toArray, List.map_cons, List.map_nil]); first | done | rfl | (simp only [List.length_drop, List.length_take]; rfl)) ?_; (with_reducible refine (hallmootref04_Words.calls k a0 t181 t182 _ A6.out).mono ?_); rintro e w12 ⟨v183, rfl, ho0, hb⟩; refine ⟨_, rfl, ?_⟩; have n0_ := aS (Kd.R_elder' (rr HO180.out) (Kd.R_base ho0) hb); have n1_ := aS (Kd.R_lower (Kd.R_new' ho0 (Kd.R_lt (rr HO180.out))) bz); have n2_ := aS (below_step bb hb); clear HO180; clear HB; have HO180 := n0_; have HO184 := n1_; have HB := n2_; clear n0_ n1_ n2_; (try clear hb); (try clear hb2); (try clear hk); (try clear hi); (try clear ho0); obtain ⟨Ao13, co13, eo13⟩ := Kd.R_slice HO180.out; subst eo13; obtain ⟨Ao14, co14, eo14⟩ := Kd.R_slice HO184.out; subst eo14) | (go_at_call 12; (with_reducible refine (hallmootref04_Same.calls k _ _ t177 _ _ t181 t185 _ ?side1 ?side2 ?side3 ?side4 A9.out).mono ?_); (case side1 => repeat (first | exact (Kd.R_reads' HO180.out).2.2 | (with_reducible refine Kd.C_alloc ?_ _) | (with_reducible refine Kd.C_drewN ?_ _) | (with_reducible refine Kd.C_drew ?_))); (case side2 => exact (Kd.R_reads' HO180.out).2.1); (case side3 => repeat (first | exact (Kd.R_reads' HO184.out).2.2 | (with_reducible refine Kd.C_alloc ?_ _) | (with_reducible refine Kd.C_drewN ?_ _) | (with_reducible refine Kd.C_drew ?_))); (case side4 => exact (Kd.R_reads' HO184.out).2.1); rintro e w' ⟨rfl, ⟨nd, rfl⟩⟩))
 go_ret
 exact ⟨by first | rfl | (simp [errW_none, errW_some] <;> rfl) | (simp [*, errW_none, errW_some] <;> rfl), by repeat (first | (with_reducible first | exact HB.out | apply below_alloc | apply pw_below_drewN | apply below_drew1) | exact HB.out)⟩ }
 {
 rw [if_neg c8] at H
 exact absurd H (by simp) } }
 {
 replace c7 := Bool.eq_false_iff.mpr c7
 subst c7
 have H1 : (none) = some r := by rw [if_neg (show ¬ (false = true) by decide)] at H; exact H
 clear H
 have H := H1
 clear H1
 exact absurd H (by simp) } }

/-- THE ONE PURE STATEMENT of hallmootlaw04_LexMatches: yours. -/
def hallmootlaw04_LexMatches.Pure : Prop := ∀ (a0 : ByteArray), a0.size ≤ 140737488351232 → ∃ k, hallmootlaw04_LexMatches.f k a0 = some true
theorem hallmootlaw04_LexMatches.walk (P : hallmootlaw04_LexMatches.Pure) (a0 : ByteArray) (w : World) (w0 : a0.size ≤ 140737488351232) (hL : Laid w) : Calls Tryd.prog 3 #[.string a0] w fun e w' => e = .returned (.bool true) ∧ Below w.heap.size w w' := by
 obtain ⟨k, h⟩ := P a0 w0
 refine (hallmootlaw04_LexMatches.calls k a0 true w h hL).mono ?_
 rintro e w' ⟨rfl, hd⟩
 exact ⟨rfl, hd⟩

end Go.Proofs.YtphlbjpefnjjnaaDoor.P
