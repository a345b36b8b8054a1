-- Written by pp.py (this session's program over the kit's printer): functions, contracts. Not trusted: Lean checks it.
import Derived.Test.YtphlbjpefnjjnaaDoorPx0
import Derived.Test.YtphlbjpefnjjnaaDoorYZ
import Derived.Test.YtphlbjpefnjjnaaDoorPx63
import Derived.Test.YtphlbjpefnjjnaaDoorPx73
import Derived.Test.YtphlbjpefnjjnaaDoorHb
import Derived.Test.YtphlbjpefnjjnaaDoorHf
namespace Go.Proofs.YtphlbjpefnjjnaaDoor.P
open Go.RowKit Go.Proofs.YtphlbjpefnjjnaaDoorW.PrintWords Go.Proofs.YtphlbjpefnjjnaaDoorW.PrintLast Go.Proofs.YtphlbjpefnjjnaaDoorW.PrintMore
attribute [local go_sem] max2_int min2_int max_two min_two max_three min_three max_four min_four   -- for this text's walks alone
set_option linter.unusedVariables false
set_option linter.unusedSimpArgs false

/-! ### hallmootlaw04_LexRoundTrip: function 6 -/
def hallmootlaw04_LexRoundTrip.f (k : Nat) (a0 : ByteArray) : Option (Bool) := (hallmootlaw04_sanity.f k).bind fun t210 => (if (a0.size : Int) > 600 then (some t210) else ((lex_Words.f a0).bind fun bt211 => (if bt211.2 = 0 then ((lex_Show.f bt211.1).bind fun t215 => ((lex_Words.f t215).bind fun bt216 => (if t210 = true then (if bt216.2 = 0 then ((hallmootref04_Alike.f k bt211.1 bt216.1).bind fun t220 => (if t220 = true then ((lex_Show.f bt216.1).bind fun t221 => (some (t221.toList == t215.toList))) else (none))) else (none)) else (none)))) else (some t210))))
theorem hallmootlaw04_LexRoundTrip.mono : ∀ a0 k, LeO (hallmootlaw04_LexRoundTrip.f k a0) (hallmootlaw04_LexRoundTrip.f (k + 1) a0) := by
 intro a0 k
 unfold hallmootlaw04_LexRoundTrip.f
 repeat' first | (with_reducible exact hallmootlaw04_sanity.mono _) | (with_reducible exact hallmootref04_Alike.mono _ _ _) | (with_reducible exact LeO.refl _) | (with_reducible exact LeO.none _) | (with_reducible refine LeO.ite ?_ ?_) | (with_reducible refine LeO.bind ?_ (fun _ => ?_)) | exact hallmootlaw04_sanity.mono _ | exact hallmootref04_Alike.mono _ _ _ | exact LeO.none _ | refine LeO.ite ?_ ?_ | refine LeO.bind ?_ (fun _ => ?_)
set_option maxHeartbeats 8000000 in
set_option maxRecDepth 100000 in
theorem hallmootlaw04_LexRoundTrip.calls (k : Nat) (a0 : ByteArray) (r : Bool) (w : World) (h : hallmootlaw04_LexRoundTrip.f k a0 = some r) (hL : Laid w) : Calls Tryd.prog 6 #[.string a0] w fun e w' => e = .returned (.bool r) ∧ Below w.heap.size w w' := by
 have HB := aS (Below.refl w.heap.size w)
 have H : ((hallmootlaw04_sanity.f k).bind fun t210 => (if (a0.size : Int) > 600 then (some t210) else ((lex_Words.f a0).bind fun bt211 => (if bt211.2 = 0 then ((lex_Show.f bt211.1).bind fun t215 => ((lex_Words.f t215).bind fun bt216 => (if t210 = true then (if bt216.2 = 0 then ((hallmootref04_Alike.f k bt211.1 bt216.1).bind fun t220 => (if t220 = true then ((lex_Show.f bt216.1).bind fun t221 => (some (t221.toList == t215.toList))) else (none))) else (none)) else (none)))) else (some t210))))) = some r := h
 clear h
 replace H := Option.bind_eq_some_iff.mp H
 obtain ⟨t210, A20, H⟩ := H
 replace H : (if (a0.size : Int) > 600 then (some t210) else ((lex_Words.f a0).bind fun bt211 => (if bt211.2 = 0 then ((lex_Show.f bt211.1).bind fun t215 => ((lex_Words.f t215).bind fun bt216 => (if t210 = true then (if bt216.2 = 0 then ((hallmootref04_Alike.f k bt211.1 bt216.1).bind fun t220 => (if t220 = true then ((lex_Show.f bt216.1).bind fun t221 => (some (t221.toList == t215.toList))) else (none))) else (none)) else (none)))) else (some t210)))) = some r := H
 have A2 := aS A20
 clear A20
 by_cases c3 : (a0.size : Int) > 600
 {
 rw [if_pos c3] at H
 have c3b0 : decide (600 < (a0.size : Int)) = true := decide_eq_true c3
 have c3b1 : decide (600 < a0.size) = true := decide_eq_true (by omega)
 clear c3
 obtain rfl := Option.some.inj H
 go_enter Tryd.func6, Tryd.ntmps6
 go_wp2_with (first | ((with_reducible refine gate_callee (f := 9) rfl ?_); refine goesL_ (some 9) rfl rfl Tryd.func9 (by kernel_rfl) rfl #[] rfl (by (try simp only [List.map_toArray, List.map_cons, List.map_nil]); first | done | rfl | (simp only [List.length_drop, List.length_take]; rfl)) ?_; (with_reducible refine (hallmootlaw04_sanity.calls k  t210 _ A2.out (hL.below bb)).mono ?_); rintro e w4 ⟨rfl, hb⟩; refine ⟨_, rfl, ?_⟩; have n0_ := aS (below_step bb hb); clear HB; have HB := n0_; clear n0_; (try clear hb); (try clear hb2); (try clear hk); (try clear hi)))
 go_ret
 exact ⟨by first | rfl | (simp [errW_none, errW_some] <;> rfl) | (simp [*, errW_none, errW_some] <;> rfl), by repeat (first | (with_reducible first | exact HB.out | apply below_alloc | apply pw_below_drewN | apply below_drew1) | exact HB.out)⟩ }
 {
 rw [if_neg c3] at H
 have c3b0 : decide (600 < (a0.size : Int)) = false := decide_eq_false c3
 have c3b1 : decide (600 < a0.size) = false := decide_eq_false (by omega)
 clear c3
 replace H := Option.bind_eq_some_iff.mp H
 obtain ⟨⟨t211, t212⟩, A50, H⟩ := H
 replace H : (if t212 = 0 then ((lex_Show.f t211).bind fun t215 => ((lex_Words.f t215).bind fun bt216 => (if t210 = true then (if bt216.2 = 0 then ((hallmootref04_Alike.f k t211 bt216.1).bind fun t220 => (if t220 = true then ((lex_Show.f bt216.1).bind fun t221 => (some (t221.toList == t215.toList))) else (none))) else (none)) else (none)))) else (some t210)) = some r := H
 have A5 := aS A50
 clear A50
 by_cases c6 : t212 = 0
 {
 rw [if_pos c6] at H
 have c6b0 : (t212 == 0) = true := beq_iff_eq.mpr c6
 have c6b1 : (t212 != 0) = false := bne_eq_false_iff_eq.mpr c6
 clear c6
 replace H := Option.bind_eq_some_iff.mp H
 obtain ⟨t215, A70, H⟩ := H
 replace H : ((lex_Words.f t215).bind fun bt216 => (if t210 = true then (if bt216.2 = 0 then ((hallmootref04_Alike.f k t211 bt216.1).bind fun t220 => (if t220 = true then ((lex_Show.f bt216.1).bind fun t221 => (some (t221.toList == t215.toList))) else (none))) else (none)) else (none))) = some r := H
 have A7 := aS A70
 clear A70
 replace H := Option.bind_eq_some_iff.mp H
 obtain ⟨⟨t216, t217⟩, A80, H⟩ := H
 replace H : (if t210 = true then (if t217 = 0 then ((hallmootref04_Alike.f k t211 t216).bind fun t220 => (if t220 = true then ((lex_Show.f t216).bind fun t221 => (some (t221.toList == t215.toList))) else (none))) else (none)) else (none)) = some r := H
 have A8 := aS A80
 clear A80
 by_cases c9 : t210 = true
 {
 subst c9
 have H1 : (if t217 = 0 then ((hallmootref04_Alike.f k t211 t216).bind fun t220 => (if t220 = true then ((lex_Show.f t216).bind fun t221 => (some (t221.toList == t215.toList))) else (none))) else (none)) = some r := by rw [if_pos rfl] at H; exact H
 clear H
 have H := H1
 clear H1
 by_cases c10 : t217 = 0
 {
 rw [if_pos c10] at H
 have c10b0 : (t217 == 0) = true := beq_iff_eq.mpr c10
 have c10b1 : (t217 != 0) = false := bne_eq_false_iff_eq.mpr c10
 clear c10
 replace H := Option.bind_eq_some_iff.mp H
 obtain ⟨t220, A110, H⟩ := H
 replace H : (if t220 = true then ((lex_Show.f t216).bind fun t221 => (some (t221.toList == t215.toList))) else (none)) = some r := H
 have A11 := aS A110
 clear A110
 by_cases c12 : t220 = true
 {
 subst c12
 have H1 : ((lex_Show.f t216).bind fun t221 => (some (t221.toList == t215.toList))) = some r := by rw [if_pos rfl] at H; exact H
 clear H
 have H := H1
 clear H1
 replace H := Option.bind_eq_some_iff.mp H
 obtain ⟨t221, A130, H⟩ := H
 replace H : (some (t221.toList == t215.toList)) = some r := H
 have A13 := aS A130
 clear A130
 obtain rfl := Option.some.inj H
 go_enter Tryd.func6, Tryd.ntmps6
 go_wp2_with (first | ((with_reducible refine gate_callee (f := 9) rfl ?_); refine goesL_ (some 9) rfl rfl Tryd.func9 (by kernel_rfl) rfl #[] rfl (by (try simp only [List.map_toArray, List.map_cons, List.map_nil]); first | done | rfl | (simp only [List.length_drop, List.length_take]; rfl)) ?_; (with_reducible refine (hallmootlaw04_sanity.calls k  true _ A2.out (hL.below bb)).mono ?_); rintro e w14 ⟨rfl, hb⟩; refine ⟨_, rfl, ?_⟩; have n0_ := aS (below_step bb hb); clear HB; have HB := n0_; clear n0_; (try clear hb); (try clear hb2); (try clear hk); (try clear hi)) | ((with_reducible refine gate_callee (f := 10) rfl ?_); refine goesL_ (some 16) rfl rfl Tryd.func10 (by kernel_rfl) rfl #[.string a0] rfl (by (try simp only [List.map_toArray, List.map_cons, List.map_nil]); first | done | rfl | (simp only [List.length_drop, List.length_take]; rfl)) ?_; (with_reducible refine (lex_Words.calls a0 t211 t212 _ A5.out (hL.below bb)).mono ?_); rintro e w15 ⟨v213, rfl, ho0, hb⟩; refine ⟨_, rfl, ?_⟩; have n0_ := aS (Kd.R_lower ho0 bz); have n1_ := aS (below_step bb hb); clear HB; have HO214 := n0_; have HB := n1_; clear n0_ n1_; (try clear hb); (try clear hb2); (try clear hk); (try clear hi); (try clear ho0); obtain ⟨Ao16, co16, eo16⟩ := Kd.R_slice HO214.out; subst eo16) | ((with_reducible refine gate_callee (f := 13) rfl ?_); refine goesL_ (some 23) rfl rfl Tryd.func13 (by kernel_rfl) rfl #[.slice Ao16 t211.length co16] rfl (by (try simp only [List.map_toArray, List.map_cons, List.map_nil]); first | done | rfl | (simp only [List.length_drop, List.length_take]; rfl)) ?_; (with_reducible refine (lex_Show.calls _ _ t211 t215 _ ?side1 ?side2 A7.out).mono ?_); (case side1 => repeat (first | exact (Kd.R_reads' HO214.out).2.2 | (with_reducible refine Kd.C_alloc ?_ _) | (with_reducible refine Kd.C_drewN ?_ _) | (with_reducible refine Kd.C_drew ?_))); (case side2 => exact (Kd.R_reads' HO214.out).2.1); rintro e w17 ⟨rfl, hb⟩; refine ⟨_, rfl, ?_⟩; have n0_ := aS (Kd.R_below (rr HO214.out) hb); have n1_ := aS (below_step bb hb); clear HO214; clear HB; have HO214 := n0_; have HB := n1_; clear n0_ n1_; (try clear hb); (try clear hb2); (try clear hk); (try clear hi)) | ((with_reducible refine gate_callee (f := 10) rfl ?_); refine goesL_ (some 26) rfl rfl Tryd.func10 (by kernel_rfl) rfl #[.string t215] rfl (by (try simp only [List.map_toArray, List.map_cons, List.map_nil]); first | done | rfl | (simp only [List.length_drop, List.length_take]; rfl)) ?_; (with_reducible refine (lex_Words.calls t215 t216 t217 _ A8.out (hL.below bb)).mono ?_); rintro e w18 ⟨v218, rfl, ho0, hb⟩; refine ⟨_, rfl, ?_⟩; have n0_ := aS (Kd.R_elder' (rr HO214.out) (Kd.R_base ho0) hb); have n1_ := aS (Kd.R_lower (Kd.R_new' ho0 (Kd.R_lt (rr HO214.out))) bz); have n2_ := aS (below_step bb hb); clear HO214; clear HB; have HO214 := n0_; have HO219 := n1_; have HB := n2_; clear n0_ n1_ n2_; (try clear hb); (try clear hb2); (try clear hk); (try clear hi); (try clear ho0); obtain ⟨Ao19, co19, eo19⟩ := Kd.R_slice HO219.out; subst eo19) | (go_at_call 16; (with_reducible refine (hallmootref04_Alike.calls k _ _ t211 _ _ t216 true _ ?side1 ?side2 ?side3 ?side4 A11.out).mono ?_); (case side1 => repeat (first | exact (Kd.R_reads' HO214.out).2.2 | (with_reducible refine Kd.C_alloc ?_ _) | (with_reducible refine Kd.C_drewN ?_ _) | (with_reducible refine Kd.C_drew ?_))); (case side2 => exact (Kd.R_reads' HO214.out).2.1); (case side3 => repeat (first | exact (Kd.R_reads' HO219.out).2.2 | (with_reducible refine Kd.C_alloc ?_ _) | (with_reducible refine Kd.C_drewN ?_ _) | (with_reducible refine Kd.C_drew ?_))); (case side4 => exact (Kd.R_reads' HO219.out).2.1); rintro e w' ⟨rfl, ⟨nd, rfl⟩⟩) | (go_at_call 13; (with_reducible refine (lex_Show.calls _ _ t216 t221 _ ?side1 ?side2 A13.out).mono ?_); (case side1 => repeat (first | exact (Kd.R_reads' HO219.out).2.2 | (with_reducible refine Kd.C_alloc ?_ _) | (with_reducible refine Kd.C_drewN ?_ _) | (with_reducible refine Kd.C_drew ?_))); (case side2 => exact (Kd.R_reads' HO219.out).2.1); rintro e w20 ⟨rfl, hb⟩; have n0_ := aS (Kd.R_below (rr HO214.out) hb); have n1_ := aS (Kd.R_below (rr HO219.out) hb); have n2_ := aS (below_step bb hb); clear HO214; clear HO219; clear HB; have HO214 := n0_; have HO219 := n1_; have HB := n2_; clear n0_ n1_ n2_; (try clear hb); (try clear hb2); (try clear hk); (try clear hi)))
 go_ret
 exact ⟨by first | rfl | (simp [errW_none, errW_some] <;> rfl) | (simp [*, errW_none, errW_some] <;> rfl), by repeat (first | (with_reducible first | exact HB.out | apply below_alloc | apply pw_below_drewN | apply below_drew1) | exact HB.out)⟩ }
 {
 replace c12 := Bool.eq_false_iff.mpr c12
 subst c12
 have H1 : (none) = some r := by rw [if_neg (show ¬ (false = true) by decide)] at H; exact H
 clear H
 have H := H1
 clear H1
 exact absurd H (by simp) } }
 {
 rw [if_neg c10] at H
 exact absurd H (by simp) } }
 {
 replace c9 := Bool.eq_false_iff.mpr c9
 subst c9
 have H1 : (none) = some r := by rw [if_neg (show ¬ (false = true) by decide)] at H; exact H
 clear H
 have H := H1
 clear H1
 exact absurd H (by simp) } }
 {
 rw [if_neg c6] at H
 have c6b0 : (t212 == 0) = false := beq_eq_false_iff_ne.mpr c6
 have c6b1 : (t212 != 0) = true := bne_iff_ne.mpr c6
 obtain rfl := Option.some.inj H
 go_enter Tryd.func6, Tryd.ntmps6
 go_wp2_with (first | ((with_reducible refine gate_callee (f := 9) rfl ?_); refine goesL_ (some 9) rfl rfl Tryd.func9 (by kernel_rfl) rfl #[] rfl (by (try simp only [List.map_toArray, List.map_cons, List.map_nil]); first | done | rfl | (simp only [List.length_drop, List.length_take]; rfl)) ?_; (with_reducible refine (hallmootlaw04_sanity.calls k  t210 _ A2.out (hL.below bb)).mono ?_); rintro e w21 ⟨rfl, hb⟩; refine ⟨_, rfl, ?_⟩; have n0_ := aS (below_step bb hb); clear HB; have HB := n0_; clear n0_; (try clear hb); (try clear hb2); (try clear hk); (try clear hi)) | ((with_reducible refine gate_callee (f := 10) rfl ?_); refine goesL_ (some 16) rfl rfl Tryd.func10 (by kernel_rfl) rfl #[.string a0] rfl (by (try simp only [List.map_toArray, List.map_cons, List.map_nil]); first | done | rfl | (simp only [List.length_drop, List.length_take]; rfl)) ?_; (with_reducible refine (lex_Words.calls a0 t211 t212 _ A5.out (hL.below bb)).mono ?_); rintro e w22 ⟨v213, rfl, ho0, hb⟩; refine ⟨_, rfl, ?_⟩; have n0_ := aS (Kd.R_lower ho0 bz); have n1_ := aS (below_step bb hb); clear HB; have HO214 := n0_; have HB := n1_; clear n0_ n1_; (try clear hb); (try clear hb2); (try clear hk); (try clear hi); (try clear ho0)))
 go_ret
 exact ⟨by first | rfl | (simp [errW_none, errW_some] <;> rfl) | (simp [*, errW_none, errW_some] <;> rfl), by repeat (first | (with_reducible first | exact HB.out | apply below_alloc | apply pw_below_drewN | apply below_drew1) | exact HB.out)⟩ } }

/-- THE ONE PURE STATEMENT of hallmootlaw04_LexRoundTrip: yours. -/
def hallmootlaw04_LexRoundTrip.Pure : Prop := ∀ (a0 : ByteArray), a0.size ≤ 140737488351232 → ∃ k, hallmootlaw04_LexRoundTrip.f k a0 = some true
theorem hallmootlaw04_LexRoundTrip.walk (P : hallmootlaw04_LexRoundTrip.Pure) (a0 : ByteArray) (w : World) (w0 : a0.size ≤ 140737488351232) (hL : Laid w) : Calls Tryd.prog 6 #[.string a0] w fun e w' => e = .returned (.bool true) ∧ Below w.heap.size w w' := by
 obtain ⟨k, h⟩ := P a0 w0
 refine (hallmootlaw04_LexRoundTrip.calls k a0 true w h hL).mono ?_
 rintro e w' ⟨rfl, hd⟩
 exact ⟨rfl, hd⟩

end Go.Proofs.YtphlbjpefnjjnaaDoor.P
