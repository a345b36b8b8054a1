-- Written by pp.py (this session's program over the kit's printer): functions, contracts. Not trusted: Lean checks it.
import Derived.Test.YtphlbjpefnjjnaaDoorPx0
import Derived.Test.YtphlbjpefnjjnaaDoorYZ
import Derived.Test.YtphlbjpefnjjnaaDoorPx54
import Derived.Test.YtphlbjpefnjjnaaDoorHb
import Derived.Test.YtphlbjpefnjjnaaDoorHf
namespace Go.Proofs.YtphlbjpefnjjnaaDoor.P
open Go.RowKit Go.Proofs.YtphlbjpefnjjnaaDoorW.PrintWords Go.Proofs.YtphlbjpefnjjnaaDoorW.PrintLast Go.Proofs.YtphlbjpefnjjnaaDoorW.PrintMore
attribute [local go_sem] max2_int min2_int max_two min_two max_three min_three max_four min_four   -- for this text's walks alone
set_option linter.unusedVariables false
set_option linter.unusedSimpArgs false

/-! ### hallmootlaw04_sanity: function 9 -/
def hallmootlaw04_sanity.f (k : Nat)  : Option (Bool) := (lex_Words.f (⟨#[97, 58, 61, 33, 98, 45, 49, 59, 59]⟩ : ByteArray)).bind fun bt145 => ((lex_Words.f (⟨#[97, 58, 98]⟩ : ByteArray)).bind fun bt149 => (if bt145.2 = 0 then (if bt149.2 = 3 then ((hallmootref04_Same.f k bt145.1 (([(⟨1, (⟨#[97]⟩ : ByteArray), 0, 0⟩ : S30), (⟨3, (⟨#[58, 61]⟩ : ByteArray), 0, 1⟩ : S30), (⟨3, (⟨#[33]⟩ : ByteArray), 0, 3⟩ : S30), (⟨1, (⟨#[98]⟩ : ByteArray), 0, 4⟩ : S30), (⟨3, (⟨#[45]⟩ : ByteArray), 0, 5⟩ : S30), (⟨2, (⟨#[49]⟩ : ByteArray), 1, 6⟩ : S30), (⟨3, (⟨#[59, 59]⟩ : ByteArray), 0, 7⟩ : S30)] : List (S30)))).bind fun t156 => (if t156 = true then ((lex_Show.f bt145.1).bind fun t157 => (some (t157.toList == ([97, 32, 58, 61, 32, 33, 32, 98, 32, 45, 32, 49, 32, 59, 59] : List UInt8)))) else (none))) else (none)) else (none)))
theorem hallmootlaw04_sanity.mono : ∀ k, LeO (hallmootlaw04_sanity.f k ) (hallmootlaw04_sanity.f (k + 1) ) := by
 intro  k
 unfold hallmootlaw04_sanity.f
 repeat' first | (with_reducible exact hallmootref04_Same.mono _ _ _) | (with_reducible exact LeO.refl _) | (with_reducible exact LeO.none _) | (with_reducible refine LeO.ite ?_ ?_) | (with_reducible refine LeO.bind ?_ (fun _ => ?_)) | exact hallmootref04_Same.mono _ _ _ | exact LeO.none _ | refine LeO.ite ?_ ?_ | refine LeO.bind ?_ (fun _ => ?_)
set_option maxHeartbeats 8000000 in
set_option maxRecDepth 100000 in
theorem hallmootlaw04_sanity.calls (k : Nat)  (r : Bool) (w : World) (h : hallmootlaw04_sanity.f k  = some r) (hL : Laid w) : Calls Tryd.prog 9 #[] w fun e w' => e = .returned (.bool r) ∧ Below w.heap.size w w' := by
 have hu30 := Tryd.underlying30
 have HB := aS (Below.refl w.heap.size w)
 have H : ((lex_Words.f (⟨#[97, 58, 61, 33, 98, 45, 49, 59, 59]⟩ : ByteArray)).bind fun bt145 => ((lex_Words.f (⟨#[97, 58, 98]⟩ : ByteArray)).bind fun bt149 => (if bt145.2 = 0 then (if bt149.2 = 3 then ((hallmootref04_Same.f k bt145.1 (([(⟨1, (⟨#[97]⟩ : ByteArray), 0, 0⟩ : S30), (⟨3, (⟨#[58, 61]⟩ : ByteArray), 0, 1⟩ : S30), (⟨3, (⟨#[33]⟩ : ByteArray), 0, 3⟩ : S30), (⟨1, (⟨#[98]⟩ : ByteArray), 0, 4⟩ : S30), (⟨3, (⟨#[45]⟩ : ByteArray), 0, 5⟩ : S30), (⟨2, (⟨#[49]⟩ : ByteArray), 1, 6⟩ : S30), (⟨3, (⟨#[59, 59]⟩ : ByteArray), 0, 7⟩ : S30)] : List (S30)))).bind fun t156 => (if t156 = true then ((lex_Show.f bt145.1).bind fun t157 => (some (t157.toList == ([97, 32, 58, 61, 32, 33, 32, 98, 32, 45, 32, 49, 32, 59, 59] : List UInt8)))) else (none))) else (none)) else (none)))) = some r := h
 clear h
 replace H := Option.bind_eq_some_iff.mp H
 obtain ⟨⟨t145, t146⟩, A10, H⟩ := H
 replace H : ((lex_Words.f (⟨#[97, 58, 98]⟩ : ByteArray)).bind fun bt149 => (if t146 = 0 then (if bt149.2 = 3 then ((hallmootref04_Same.f k t145 (([(⟨1, (⟨#[97]⟩ : ByteArray), 0, 0⟩ : S30), (⟨3, (⟨#[58, 61]⟩ : ByteArray), 0, 1⟩ : S30), (⟨3, (⟨#[33]⟩ : ByteArray), 0, 3⟩ : S30), (⟨1, (⟨#[98]⟩ : ByteArray), 0, 4⟩ : S30), (⟨3, (⟨#[45]⟩ : ByteArray), 0, 5⟩ : S30), (⟨2, (⟨#[49]⟩ : ByteArray), 1, 6⟩ : S30), (⟨3, (⟨#[59, 59]⟩ : ByteArray), 0, 7⟩ : S30)] : List (S30)))).bind fun t156 => (if t156 = true then ((lex_Show.f t145).bind fun t157 => (some (t157.toList == ([97, 32, 58, 61, 32, 33, 32, 98, 32, 45, 32, 49, 32, 59, 59] : List UInt8)))) else (none))) else (none)) else (none))) = some r := H
 have A1 := aS A10
 clear A10
 replace H := Option.bind_eq_some_iff.mp H
 obtain ⟨⟨t149, t150⟩, A20, H⟩ := H
 replace H : (if t146 = 0 then (if t150 = 3 then ((hallmootref04_Same.f k t145 (([(⟨1, (⟨#[97]⟩ : ByteArray), 0, 0⟩ : S30), (⟨3, (⟨#[58, 61]⟩ : ByteArray), 0, 1⟩ : S30), (⟨3, (⟨#[33]⟩ : ByteArray), 0, 3⟩ : S30), (⟨1, (⟨#[98]⟩ : ByteArray), 0, 4⟩ : S30), (⟨3, (⟨#[45]⟩ : ByteArray), 0, 5⟩ : S30), (⟨2, (⟨#[49]⟩ : ByteArray), 1, 6⟩ : S30), (⟨3, (⟨#[59, 59]⟩ : ByteArray), 0, 7⟩ : S30)] : List (S30)))).bind fun t156 => (if t156 = true then ((lex_Show.f t145).bind fun t157 => (some (t157.toList == ([97, 32, 58, 61, 32, 33, 32, 98, 32, 45, 32, 49, 32, 59, 59] : List UInt8)))) else (none))) else (none)) else (none)) = some r := H
 have A2 := aS A20
 clear A20
 obtain ⟨y153, hy153⟩ : ∃ y_ : List (S30), y_ = (([(⟨1, (⟨#[97]⟩ : ByteArray), 0, 0⟩ : S30), (⟨3, (⟨#[58, 61]⟩ : ByteArray), 0, 1⟩ : S30), (⟨3, (⟨#[33]⟩ : ByteArray), 0, 3⟩ : S30), (⟨1, (⟨#[98]⟩ : ByteArray), 0, 4⟩ : S30), (⟨3, (⟨#[45]⟩ : ByteArray), 0, 5⟩ : S30), (⟨2, (⟨#[49]⟩ : ByteArray), 1, 6⟩ : S30), (⟨3, (⟨#[59, 59]⟩ : ByteArray), 0, 7⟩ : S30)] : List (S30))) := ⟨_, rfl⟩
 replace H : (if t146 = 0 then (if t150 = 3 then ((hallmootref04_Same.f k t145 y153).bind fun t156 => (if t156 = true then ((lex_Show.f t145).bind fun t157 => (some (t157.toList == ([97, 32, 58, 61, 32, 33, 32, 98, 32, 45, 32, 49, 32, 59, 59] : List UInt8)))) else (none))) else (none)) else (none)) = some r := by first | (rw [hy153]; with_reducible exact H) | (have H2_ := (Option.bind_some _ _).symm.trans H; rw [hy153]; with_reducible exact H2_) | (have H2_ := (Option.bind_some _ _).symm.trans H; with_reducible exact H2_) | with_reducible exact H | (rw [hy153]; exact H) | exact H
 have Ny153 := aS hy153
 clear hy153
 by_cases c3 : t146 = 0
 {
 rw [if_pos c3] at H
 have c3b0 : (t146 == 0) = true := beq_iff_eq.mpr c3
 have c3b1 : (t146 != 0) = false := bne_eq_false_iff_eq.mpr c3
 clear c3
 by_cases c4 : t150 = 3
 {
 rw [if_pos c4] at H
 have c4b0 : (t150 == 3) = true := beq_iff_eq.mpr c4
 have c4b1 : (t150 != 3) = false := bne_eq_false_iff_eq.mpr c4
 clear c4
 replace H := Option.bind_eq_some_iff.mp H
 obtain ⟨t156, A50, H⟩ := H
 replace H : (if t156 = true then ((lex_Show.f t145).bind fun t157 => (some (t157.toList == ([97, 32, 58, 61, 32, 33, 32, 98, 32, 45, 32, 49, 32, 59, 59] : List UInt8)))) else (none)) = some r := H
 have A5 := aS A50
 clear A50
 by_cases c6 : t156 = true
 {
 subst c6
 have H1 : ((lex_Show.f t145).bind fun t157 => (some (t157.toList == ([97, 32, 58, 61, 32, 33, 32, 98, 32, 45, 32, 49, 32, 59, 59] : List UInt8)))) = some r := by rw [if_pos rfl] at H; exact H
 clear H
 have H := H1
 clear H1
 replace H := Option.bind_eq_some_iff.mp H
 obtain ⟨t157, A70, H⟩ := H
 replace H : (some (t157.toList == ([97, 32, 58, 61, 32, 33, 32, 98, 32, 45, 32, 49, 32, 59, 59] : List UInt8))) = some r := H
 have A7 := aS A70
 clear A70
 obtain rfl := Option.some.inj H
 go_enter Tryd.func9, Tryd.ntmps9
 go_wp2_with (first | ((with_reducible refine gate_callee (f := 10) rfl ?_); refine goesL_ (some 7) rfl rfl Tryd.func10 (by kernel_rfl) rfl #[.string (⟨#[97, 58, 61, 33, 98, 45, 49, 59, 59]⟩ : ByteArray)] rfl (by (try simp only [List.map_toArray, List.map_cons, List.map_nil]); first | done | rfl | (simp only [List.length_drop, List.length_take]; rfl)) ?_; (with_reducible refine (lex_Words.calls (⟨#[97, 58, 61, 33, 98, 45, 49, 59, 59]⟩ : ByteArray) t145 t146 _ A1.out (hL.below bb)).mono ?_); rintro e w8 ⟨v147, rfl, ho0, hb⟩; refine ⟨_, rfl, ?_⟩; have n0_ := aS (Kd.R_lower ho0 bz); have n1_ := aS (below_step bb hb); clear HB; have HO148 := n0_; have HB := n1_; clear n0_ n1_; (try clear hb); (try clear hb2); (try clear hk); (try clear hi); (try clear ho0)) | ((with_reducible refine gate_callee (f := 10) rfl ?_); refine goesL_ (some 11) rfl rfl Tryd.func10 (by kernel_rfl) rfl #[.string (⟨#[97, 58, 98]⟩ : ByteArray)] rfl (by (try simp only [List.map_toArray, List.map_cons, List.map_nil]); first | done | rfl | (simp only [List.length_drop, List.length_take]; rfl)) ?_; (with_reducible refine (lex_Words.calls (⟨#[97, 58, 98]⟩ : ByteArray) t149 t150 _ A2.out (hL.below bb)).mono ?_); rintro e w9 ⟨v151, rfl, ho0, hb⟩; refine ⟨_, rfl, ?_⟩; have n0_ := aS (Kd.R_elder' (rr HO148.out) (Kd.R_base ho0) hb); have n1_ := aS (Kd.R_lower (Kd.R_new' ho0 (Kd.R_lt (rr HO148.out))) bz); have n2_ := aS (below_step bb hb); clear HO148; clear HB; have HO148 := n0_; have HO152 := n1_; have HB := n2_; clear n0_ n1_ n2_; (try clear hb); (try clear hb2); (try clear hk); (try clear hi); (try clear ho0)) | ((with_reducible refine gate_dst (N := 21) rfl ?_); refine Kd.R_lit k30 _ 30 ?hg (N := 21) ?hd (xs := ([(⟨1, (⟨#[97]⟩ : ByteArray), 0, 0⟩ : S30), (⟨3, (⟨#[58, 61]⟩ : ByteArray), 0, 1⟩ : S30), (⟨3, (⟨#[33]⟩ : ByteArray), 0, 3⟩ : S30), (⟨1, (⟨#[98]⟩ : ByteArray), 0, 4⟩ : S30), (⟨3, (⟨#[45]⟩ : ByteArray), 0, 5⟩ : S30), (⟨2, (⟨#[49]⟩ : ByteArray), 1, 6⟩ : S30), (⟨3, (⟨#[59, 59]⟩ : ByteArray), 0, 7⟩ : S30)] : List (S30))) (inner := [.int .i64 1, .string (⟨#[97]⟩ : ByteArray), .int .i64 0, .int .i64 0, .int .i64 3, .string (⟨#[58, 61]⟩ : ByteArray), .int .i64 0, .int .i64 1, .int .i64 3, .string (⟨#[33]⟩ : ByteArray), .int .i64 0, .int .i64 3, .int .i64 1, .string (⟨#[98]⟩ : ByteArray), .int .i64 0, .int .i64 4, .int .i64 3, .string (⟨#[45]⟩ : ByteArray), .int .i64 0, .int .i64 5, .int .i64 2, .string (⟨#[49]⟩ : ByteArray), .int .i64 1, .int .i64 6, .int .i64 3, .string (⟨#[59, 59]⟩ : ByteArray), .int .i64 0, .int .i64 7]) (ok := fun _ => True) (okp := fun _ => True) ?hr ?hp (fun _ hk => hk) trivial (Below.refl _ _) (Nat.le_refl _) (by simp) ?_; (case hd => rfl); (case hg => rfl); (case hr => first | (go_simp; done) | (go_simp; rfl)); (case hp => exact (Reps.c4 (show Kd.M k30 _ _ _ (⟨1, (⟨#[97]⟩ : ByteArray), 0, 0⟩ : S30) [.int .i64 1, .string (⟨#[97]⟩ : ByteArray), .int .i64 0, .int .i64 0] from (k30_mkM _ _ _ (⟨1, (⟨#[97]⟩ : ByteArray), 0, 0⟩ : S30) )) (Reps.c4 (show Kd.M k30 _ _ _ (⟨3, (⟨#[58, 61]⟩ : ByteArray), 0, 1⟩ : S30) [.int .i64 3, .string (⟨#[58, 61]⟩ : ByteArray), .int .i64 0, .int .i64 1] from (k30_mkM _ _ _ (⟨3, (⟨#[58, 61]⟩ : ByteArray), 0, 1⟩ : S30) )) (Reps.c4 (show Kd.M k30 _ _ _ (⟨3, (⟨#[33]⟩ : ByteArray), 0, 3⟩ : S30) [.int .i64 3, .string (⟨#[33]⟩ : ByteArray), .int .i64 0, .int .i64 3] from (k30_mkM _ _ _ (⟨3, (⟨#[33]⟩ : ByteArray), 0, 3⟩ : S30) )) (Reps.c4 (show Kd.M k30 _ _ _ (⟨1, (⟨#[98]⟩ : ByteArray), 0, 4⟩ : S30) [.int .i64 1, .string (⟨#[98]⟩ : ByteArray), .int .i64 0, .int .i64 4] from (k30_mkM _ _ _ (⟨1, (⟨#[98]⟩ : ByteArray), 0, 4⟩ : S30) )) (Reps.c4 (show Kd.M k30 _ _ _ (⟨3, (⟨#[45]⟩ : ByteArray), 0, 5⟩ : S30) [.int .i64 3, .string (⟨#[45]⟩ : ByteArray), .int .i64 0, .int .i64 5] from (k30_mkM _ _ _ (⟨3, (⟨#[45]⟩ : ByteArray), 0, 5⟩ : S30) )) (Reps.c4 (show Kd.M k30 _ _ _ (⟨2, (⟨#[49]⟩ : ByteArray), 1, 6⟩ : S30) [.int .i64 2, .string (⟨#[49]⟩ : ByteArray), .int .i64 1, .int .i64 6] from (k30_mkM _ _ _ (⟨2, (⟨#[49]⟩ : ByteArray), 1, 6⟩ : S30) )) (Reps.c4 (show Kd.M k30 _ _ _ (⟨3, (⟨#[59, 59]⟩ : ByteArray), 0, 7⟩ : S30) [.int .i64 3, .string (⟨#[59, 59]⟩ : ByteArray), .int .i64 0, .int .i64 7] from (k30_mkM _ _ _ (⟨3, (⟨#[59, 59]⟩ : ByteArray), 0, 7⟩ : S30) )) (Reps.none _ _))))))))); intro v154 w10 ho11 hb hg_ hnew_; clear hg_ hnew_; (first | rw [← Ny153.out] at ho11 | (simp only [Int.reduceToNat] at ho11; rw [← Ny153.out] at ho11)); have n0_ := aS (Kd.R_elder' (rr HO148.out) (Kd.R_base ho11) hb); have n1_ := aS (Kd.R_elder' (rr HO152.out) (Kd.R_base ho11) hb); have n2_ := aS (Kd.R_lower (Kd.R_new' (Kd.R_new' ho11 (Kd.R_lt (rr HO148.out))) (Kd.R_lt (rr HO152.out))) bz); have n3_ := aS (below_step bb hb); clear HO148; clear HO152; clear HB; have HO148 := n0_; have HO152 := n1_; have HO155 := n2_; have HB := n3_; clear n0_ n1_ n2_ n3_; clear hb ho11; obtain ⟨Ao12, co12, eo12⟩ := Kd.R_slice HO148.out; subst eo12; obtain ⟨Ao13, co13, eo13⟩ := Kd.R_slice HO155.out; subst eo13) | (go_at_call 12; (with_reducible refine (hallmootref04_Same.calls k _ _ t145 _ _ y153 true _ ?side1 ?side2 ?side3 ?side4 A5.out).mono ?_); (case side1 => repeat (first | exact (Kd.R_reads' HO148.out).2.2 | (with_reducible refine Kd.C_alloc ?_ _) | (with_reducible refine Kd.C_drewN ?_ _) | (with_reducible refine Kd.C_drew ?_))); (case side2 => exact (Kd.R_reads' HO148.out).2.1); (case side3 => repeat (first | exact (Kd.R_reads' HO155.out).2.2 | (with_reducible refine Kd.C_alloc ?_ _) | (with_reducible refine Kd.C_drewN ?_ _) | (with_reducible refine Kd.C_drew ?_))); (case side4 => exact (Kd.R_reads' HO155.out).2.1); rintro e w' ⟨rfl, ⟨nd, rfl⟩⟩) | (go_at_call 13; (with_reducible refine (lex_Show.calls _ _ t145 t157 _ ?side1 ?side2 A7.out).mono ?_); (case side1 => repeat (first | exact (Kd.R_reads' HO148.out).2.2 | (with_reducible refine Kd.C_alloc ?_ _) | (with_reducible refine Kd.C_drewN ?_ _) | (with_reducible refine Kd.C_drew ?_))); (case side2 => exact (Kd.R_reads' HO148.out).2.1); rintro e w14 ⟨rfl, hb⟩; have n0_ := aS (Kd.R_below (rr HO148.out) hb); have n1_ := aS (Kd.R_below (rr HO152.out) hb); have n2_ := aS (Kd.R_below (rr HO155.out) hb); have n3_ := aS (below_step bb hb); clear HO148; clear HO152; clear HO155; clear HB; have HO148 := n0_; have HO152 := n1_; have HO155 := n2_; have HB := n3_; clear n0_ n1_ n2_ n3_; (try clear hb); (try clear hb2); (try clear hk); (try clear hi)))
 go_ret
 exact ⟨by first | rfl | (simp [errW_none, errW_some] <;> rfl) | (simp [*, errW_none, errW_some] <;> rfl), by repeat (first | (with_reducible first | exact HB.out | apply below_alloc | apply pw_below_drewN | apply below_drew1) | exact HB.out)⟩ }
 {
 replace c6 := Bool.eq_false_iff.mpr c6
 subst c6
 have H1 : (none) = some r := by rw [if_neg (show ¬ (false = true) by decide)] at H; exact H
 clear H
 have H := H1
 clear H1
 exact absurd H (by simp) } }
 {
 rw [if_neg c4] at H
 exact absurd H (by simp) } }
 {
 rw [if_neg c3] at H
 exact absurd H (by simp) }

end Go.Proofs.YtphlbjpefnjjnaaDoor.P
