-- Written by pp.py (this session's program over the kit's printer): functions, contracts. Not trusted: Lean checks it.
import Derived.Test.YtphlbjpefnjjnaaDoorPx0
import Derived.Test.YtphlbjpefnjjnaaDoorYZ
import Derived.Test.YtphlbjpefnjjnaaDoorPx63
import Derived.Test.YtphlbjpefnjjnaaDoorPx69
import Derived.Test.YtphlbjpefnjjnaaDoorHb
import Derived.Test.YtphlbjpefnjjnaaDoorHf
namespace Go.Proofs.YtphlbjpefnjjnaaDoor.P
open Go.RowKit Go.Proofs.YtphlbjpefnjjnaaDoorW.PrintWords Go.Proofs.YtphlbjpefnjjnaaDoorW.PrintLast Go.Proofs.YtphlbjpefnjjnaaDoorW.PrintMore
attribute [local go_sem] max2_int min2_int max_two min_two max_three min_three max_four min_four   -- for this text's walks alone
set_option linter.unusedVariables false
set_option linter.unusedSimpArgs false

/-! ### hallmootlaw04_LexShow: function 4 -/
def hallmootlaw04_LexShow.l0 : Nat → List (S30) → Bool → Int → Option (Bool)
  | 0, _, _, _ => none
  | k + 1, x0, x3, x4 => if x4 < (x0.length : Int) then (if 0 ≤ x4 then (if (((rd_T30 x0 x4).f1).size : Int) > 100 then (some x3) else (hallmootlaw04_LexShow.l0 k x0 x3 (wrap64 (x4 + 1)))) else (none)) else (if x3 = true then ((lex_Show.f x0).bind fun t190 => ((hallmootref04_Show.f k x0).bind fun t191 => (some (t190.toList == t191.toList)))) else (none))
def hallmootlaw04_LexShow.f (k : Nat) (l0 : List (S30)) : Option (Bool) := (hallmootlaw04_sanity.f k).bind fun t188 => (if (l0.length : Int) > 100 then (some t188) else (hallmootlaw04_LexShow.l0 k l0 t188 0))
theorem hallmootlaw04_LexShow.mono_l : ∀ k, (∀ y0 y1 y2, LeO (hallmootlaw04_LexShow.l0 k y0 y1 y2) (hallmootlaw04_LexShow.l0 (k + 1) y0 y1 y2))
  | 0 => fun _ _ _ r h => by simp [hallmootlaw04_LexShow.l0] at h
  | k + 1 => by
    have ih0 := hallmootlaw04_LexShow.mono_l k
    · intro y0 y1 y2
      unfold hallmootlaw04_LexShow.l0
      repeat' first
      | (with_reducible exact ih0 _ _ _)
      | (with_reducible exact hallmootlaw04_sanity.mono _)
      | (with_reducible exact hallmootref04_Show.mono _ _)
      | (with_reducible exact LeO.refl _)
      | (with_reducible exact LeO.none _)
      | (with_reducible refine LeO.ite ?_ ?_)
      | (with_reducible refine LeO.bind ?_ (fun _ => ?_))
      | exact ih0 _ _ _
      | exact hallmootlaw04_sanity.mono _
      | exact hallmootref04_Show.mono _ _
      | exact LeO.none _
      | refine LeO.ite ?_ ?_
      | refine LeO.bind ?_ (fun _ => ?_)
theorem hallmootlaw04_LexShow.mono : ∀ a0 k, LeO (hallmootlaw04_LexShow.f k a0) (hallmootlaw04_LexShow.f (k + 1) a0) := by
 intro a0 k
 have ih0 := hallmootlaw04_LexShow.mono_l k
 unfold hallmootlaw04_LexShow.f
 repeat' first | (with_reducible exact ih0 _ _ _) | (with_reducible exact hallmootlaw04_sanity.mono _) | (with_reducible exact hallmootref04_Show.mono _ _) | (with_reducible exact LeO.refl _) | (with_reducible exact LeO.none _) | (with_reducible refine LeO.ite ?_ ?_) | (with_reducible refine LeO.bind ?_ (fun _ => ?_)) | exact ih0 _ _ _ | exact hallmootlaw04_sanity.mono _ | exact hallmootref04_Show.mono _ _ | exact LeO.none _ | refine LeO.ite ?_ ?_ | refine LeO.bind ?_ (fun _ => ?_)
set_option maxHeartbeats 8000000 in
set_option maxRecDepth 100000 in
theorem hallmootlaw04_LexShow.calls (k : Nat) (A0 : Option Addr) (c0 : Nat) (l0 : List (S30)) (r : Bool) (w : World) (hr0 : Kd.C k30 w A0 l0.length l0) (hc0 : l0.length ≤ c0) (h : hallmootlaw04_LexShow.f k l0 = some r) (hL : Laid w) : Calls Tryd.prog 4 #[.slice A0 l0.length c0] w fun e w' => e = .returned (.bool r) ∧ Below w.heap.size w w' := by
 have HR0 := aS hr0
 have HC0 := aS hc0
 clear hr0 hc0
 have HB := aS (Below.refl w.heap.size w)
 have H : ((hallmootlaw04_sanity.f k).bind fun t188 => (if (l0.length : Int) > 100 then (some t188) else (hallmootlaw04_LexShow.l0 k l0 t188 0))) = some r := h
 clear h
 replace H := Option.bind_eq_some_iff.mp H
 obtain ⟨t188, A20, H⟩ := H
 replace H : (if (l0.length : Int) > 100 then (some t188) else (hallmootlaw04_LexShow.l0 k l0 t188 0)) = some r := H
 have A2 := aS A20
 clear A20
 by_cases c3 : (l0.length : Int) > 100
 {
 rw [if_pos c3] at H
 have c3b0 : decide (100 < (l0.length : Int)) = true := decide_eq_true c3
 have c3b1 : decide (100 < l0.length) = true := decide_eq_true (by omega)
 clear c3
 obtain rfl := Option.some.inj H
 go_enter Tryd.func4, Tryd.ntmps4
 go_wp2_with (first | ((with_reducible refine gate_callee (f := 9) rfl ?_); refine goesL_ (some 5) rfl rfl Tryd.func9 (by kernel_rfl) rfl #[] rfl (by (try simp only [List.map_toArray, List.map_cons, List.map_nil]); first | done | rfl | (simp only [List.length_drop, List.length_take]; rfl)) ?_; (with_reducible refine (hallmootlaw04_sanity.calls k  t188 _ A2.out (hL.below bb)).mono ?_); rintro e w4 ⟨rfl, hb⟩; refine ⟨_, rfl, ?_⟩; have n0_ := aS (below_step bb hb); clear HB; have HB := n0_; clear n0_; (try clear hb); (try clear hb2); (try clear hk); (try clear hi)))
 go_ret
 exact ⟨by first | rfl | (simp [errW_none, errW_some] <;> rfl) | (simp [*, errW_none, errW_some] <;> rfl), by repeat (first | (with_reducible first | exact HB.out | apply below_alloc | apply pw_below_drewN | apply below_drew1) | exact HB.out)⟩ }
 {
 rw [if_neg c3] at H
 have c3b0 : decide (100 < (l0.length : Int)) = false := decide_eq_false c3
 have c3b1 : decide (100 < l0.length) = false := decide_eq_false (by omega)
 clear c3
 have H' := aS H
 clear H
 go_enter Tryd.func4, Tryd.ntmps4
 go_wp2_with (first | ((with_reducible refine gate_callee (f := 9) rfl ?_); refine goesL_ (some 5) rfl rfl Tryd.func9 (by kernel_rfl) rfl #[] rfl (by (try simp only [List.map_toArray, List.map_cons, List.map_nil]); first | done | rfl | (simp only [List.length_drop, List.length_take]; rfl)) ?_; (with_reducible refine (hallmootlaw04_sanity.calls k  t188 _ A2.out (hL.below bb)).mono ?_); rintro e w5 ⟨rfl, hb⟩; refine ⟨_, rfl, ?_⟩; have n0_ := aS (below_step bb hb); clear HB; have HB := n0_; clear n0_; (try clear hb); (try clear hb2); (try clear hk); (try clear hi)))
 go_loopg [4] k (fun kq v4 w' => ∃ (x4_1 : Int), v4 = .int .i64 x4_1 ∧ Aside0 (hallmootlaw04_LexShow.l0 kq l0 t188 x4_1 = some r) ∧ Aside0 (kq ≤ k) ∧ Aside0 (Below w.heap.size w w'))
 case atStart => exact ⟨(0), (by first | rfl | (simp; done) | (simp [*]; done)), H', ⟨Nat.le_refl _⟩, ⟨by repeat (first | (with_reducible first | exact HB.out | apply below_alloc | apply pw_below_drewN | apply below_drew1) | exact HB.out)⟩⟩
 case round =>
  clear H'
  try clear p2
  try clear c3
  try clear c3b0
  try clear c3b1
  try clear c4
  obtain ⟨x4_1, rfl, HA, HK1, HB⟩ := hrel
  cases gk with
  | zero => exact absurd HA.out (by simp [hallmootlaw04_LexShow.l0])
  | succ k1 => {
  have H := HA.out
  clear HA
  simp only [hallmootlaw04_LexShow.l0] at H
  by_cases c6 : x4_1 < (l0.length : Int)
  {
  rw [if_pos c6] at H
  have c6b0 : decide (x4_1 < (l0.length : Int)) = true := decide_eq_true c6
  clear c6
  by_cases c7 : 0 ≤ x4_1
  {
  rw [if_pos c7] at H
  have c7b0 : decide (0 ≤ x4_1) = true := decide_eq_true c7
  clear c7
  by_cases c8 : (((rd_T30 l0 x4_1).f1).size : Int) > 100
  {
  rw [if_pos c8] at H
  have c8b0 : decide (100 < (((rd_T30 l0 x4_1).f1).size : Int)) = true := decide_eq_true c8
  have c8b1 : decide (100 < ((rd_T30 l0 x4_1).f1).size) = true := decide_eq_true (by omega)
  clear c8
  obtain rfl := Option.some.inj H
  have p189 : 0 ≤ (x4_1 : Int) := dd
  have q189 : x4_1 < (l0.length : Int) := dd
  obtain ⟨ad189, e189, hx189_0, hx189_1, hx189_2, hx189_3⟩ := at_T30 HR0.out x4_1 p189 q189
  cases e189
  replace hx189_0 := cc HB.out hx189_0
  replace hx189_1 := cc HB.out hx189_1
  replace hx189_2 := cc HB.out hx189_2
  replace hx189_3 := cc HB.out hx189_3
  replace p189 := eq_true p189
  replace q189 := eq_true q189
  go_wp2
  go_ret
  exact ⟨by first | rfl | (simp [errW_none, errW_some] <;> rfl) | (simp [*, errW_none, errW_some] <;> rfl), by repeat (first | (with_reducible first | exact HB.out | apply below_alloc | apply pw_below_drewN | apply below_drew1) | exact HB.out)⟩ }
  {
  rw [if_neg c8] at H
  have c8b0 : decide (100 < (((rd_T30 l0 x4_1).f1).size : Int)) = false := decide_eq_false c8
  have c8b1 : decide (100 < ((rd_T30 l0 x4_1).f1).size) = false := decide_eq_false (by omega)
  clear c8
  have H' := aS H
  clear H
  have p189 : 0 ≤ (x4_1 : Int) := dd
  have q189 : x4_1 < (l0.length : Int) := dd
  obtain ⟨ad189, e189, hx189_0, hx189_1, hx189_2, hx189_3⟩ := at_T30 HR0.out x4_1 p189 q189
  cases e189
  replace hx189_0 := cc HB.out hx189_0
  replace hx189_1 := cc HB.out hx189_1
  replace hx189_2 := cc HB.out hx189_2
  replace hx189_3 := cc HB.out hx189_3
  replace p189 := eq_true p189
  replace q189 := eq_true q189
  go_wp2
  go_roundg k1
  case measure => have := HK1.out; omega
  case rel => exact ⟨(wrap64 (x4_1 + 1)), (by first | rfl | (simp; done) | (simp [*]; done)), H', ⟨by have := HK1.out; omega⟩, ⟨by repeat (first | (with_reducible first | exact HB.out | apply below_alloc | apply pw_below_drewN | apply below_drew1) | exact HB.out)⟩⟩ } }
  {
  rw [if_neg c7] at H
  exact absurd H (by simp) } }
  {
  rw [if_neg c6] at H
  have c6b0 : decide (x4_1 < (l0.length : Int)) = false := decide_eq_false c6
  clear c6
  by_cases c9 : t188 = true
  {
  subst c9
  have H1 : ((lex_Show.f l0).bind fun t190 => ((hallmootref04_Show.f k1 l0).bind fun t191 => (some (t190.toList == t191.toList)))) = some r := by rw [if_pos rfl] at H; exact H
  clear H
  have H := H1
  clear H1
  replace H := Option.bind_eq_some_iff.mp H
  obtain ⟨t190, A100, H⟩ := H
  replace H : ((hallmootref04_Show.f k1 l0).bind fun t191 => (some (t190.toList == t191.toList))) = some r := H
  have A10 := aS A100
  clear A100
  replace H := Option.bind_eq_some_iff.mp H
  obtain ⟨t191, A110, H⟩ := H
  replace H : (some (t190.toList == t191.toList)) = some r := H
  have A11 := aS A110
  clear A110
  obtain rfl := Option.some.inj H
  go_wp2_with (first | (go_at_call 13; (with_reducible refine (lex_Show.calls _ _ l0 t190 _ ?side1 ?side2 A10.out).mono ?_); (case side1 => exact Kd.C_below HR0.out bb); (case side2 => exact HC0.out); rintro e w12 ⟨rfl, hb⟩; have n0_ := aS (below_step bb hb); clear HB; have HB := n0_; clear n0_; (try clear hb); (try clear hb2); (try clear hk); (try clear hi)) | (go_at_call 14; (with_reducible refine (hallmootref04_Show.calls k1 _ _ l0 t191 _ ?side1 ?side2 A11.out).mono ?_); (case side1 => exact Kd.C_below HR0.out bb); (case side2 => exact HC0.out); rintro e w' ⟨rfl, ⟨nd, rfl⟩⟩))
  go_ret
  exact ⟨by first | rfl | (simp [errW_none, errW_some] <;> rfl) | (simp [*, errW_none, errW_some] <;> rfl), by repeat (first | (with_reducible first | exact HB.out | apply below_alloc | apply pw_below_drewN | apply below_drew1) | exact HB.out)⟩ }
  {
  replace c9 := Bool.eq_false_iff.mpr c9
  subst c9
  have H1 : (none) = some r := by rw [if_neg (show ¬ (false = true) by decide)] at H; exact H
  clear H
  have H := H1
  clear H1
  exact absurd H (by simp) } } } }

end Go.Proofs.YtphlbjpefnjjnaaDoor.P
