-- Written by pp.py (this session's program over the kit's printer): functions, contracts. Not trusted: Lean checks it.
import Derived.Test.YtphlbjpefnjjnaaDoorPx0
import Derived.Test.YtphlbjpefnjjnaaDoorYZ
import Derived.Test.YtphlbjpefnjjnaaDoorPx54
import Derived.Test.YtphlbjpefnjjnaaDoorPx63
import Derived.Test.YtphlbjpefnjjnaaDoorHb
import Derived.Test.YtphlbjpefnjjnaaDoorHf
namespace Go.Proofs.YtphlbjpefnjjnaaDoor.P
open Go.RowKit Go.Proofs.YtphlbjpefnjjnaaDoorW.PrintWords Go.Proofs.YtphlbjpefnjjnaaDoorW.PrintLast Go.Proofs.YtphlbjpefnjjnaaDoorW.PrintMore
attribute [local go_sem] max2_int min2_int max_two min_two max_three min_three max_four min_four   -- for this text's walks alone
set_option linter.unusedVariables false
set_option linter.unusedSimpArgs false

/-! ### hallmootlaw04_LexConcat: function 7 -/
mutual
def hallmootlaw04_LexConcat.j0 : Nat → ByteArray → ByteArray → Int → Bool → Bool → Option (Bool)
  | 0, _, _, _, _, _ => none
  | k + 1, x0, x1, x2, x7, x26 => if x26 = true then (some x7) else ((some (([(⟨#[32]⟩ : ByteArray), (⟨#[9]⟩ : ByteArray), (⟨#[10]⟩ : ByteArray)] : List ByteArray) : List ByteArray)).bind fun y223 => ((lex_Words.f x0).bind fun bt226 => ((lex_Words.f x1).bind fun bt230 => (if 0 ≤ (Int.tmod x2 3) then (if (Int.tmod x2 3) < (y223.length : Int) then (if x0.size + (rdOf ByteArray.empty y223 (Int.tmod x2 3)).size ≤ 9223372036854775807 then (if (x0 ++ (rdOf ByteArray.empty y223 (Int.tmod x2 3))).size + x1.size ≤ 9223372036854775807 then ((lex_Words.f ((x0 ++ (rdOf ByteArray.empty y223 (Int.tmod x2 3))) ++ x1)).bind fun bt235 => (if bt226.2 = 0 then (hallmootlaw04_LexConcat.j1 k x0 x7 bt226.1 bt230.1 bt235.1 bt235.2 (bt230.2 != 0)) else (hallmootlaw04_LexConcat.j1 k x0 x7 bt226.1 bt230.1 bt235.1 bt235.2 true))) else (none)) else (none)) else (none)) else (none)))))
def hallmootlaw04_LexConcat.j1 : Nat → ByteArray → Bool → List (S30) → List (S30) → List (S30) → Int → Bool → Option (Bool)
  | 0, _, _, _, _, _, _, _ => none
  | k + 1, x0, x7, x9, x11, x13, x14, x57 => if x57 = true then (if x7 = true then (if x14 = 3 then (some ((x13.length : Int) == 0)) else (none)) else (none)) else ((some (([] : List (S30)) : List (S30))).bind fun y239 => (if y239.length + x9.length < 3518437208883 then (hallmootlaw04_LexConcat.l0 k x0 x7 x11 x13 x14 (y239 ++ x9) 0) else (none)))
def hallmootlaw04_LexConcat.l0 : Nat → ByteArray → Bool → List (S30) → List (S30) → Int → List (S30) → Int → Option (Bool)
  | 0, _, _, _, _, _, _, _ => none
  | k + 1, x0, x7, x11, x13, x14, x15, x16 => if x16 < (x11.length : Int) then (if 0 ≤ x16 then (if x15.length < 3518437208883 then (hallmootlaw04_LexConcat.l0 k x0 x7 x11 x13 x14 (x15 ++ [(⟨(rd_T30 x11 x16).f0, (rd_T30 x11 x16).f1, (rd_T30 x11 x16).f2, wrap64 ((wrap64 (((rd_T30 x11 x16).f3) + (x0.size : Int))) + 1)⟩ : S30)]) (wrap64 (x16 + 1))) else (none)) else (none)) else (if x7 = true then (if x14 = 0 then ((hallmootref04_Same.f k x13 x15).bind fun t250 => (some t250)) else (none)) else (none))
end
def hallmootlaw04_LexConcat.f (k : Nat) (a0 : ByteArray) (a1 : ByteArray) (a2 : Int) : Option (Bool) := (hallmootlaw04_sanity.f k).bind fun t222 => (if (a0.size : Int) > 600 then (hallmootlaw04_LexConcat.j0 k a0 a1 a2 t222 true) else (hallmootlaw04_LexConcat.j0 k a0 a1 a2 t222 (decide ((a1.size : Int) > 600))))
theorem hallmootlaw04_LexConcat.mono_l : ∀ k, (∀ y0 y1 y2 y3 y4, LeO (hallmootlaw04_LexConcat.j0 k y0 y1 y2 y3 y4) (hallmootlaw04_LexConcat.j0 (k + 1) y0 y1 y2 y3 y4)) ∧ (∀ y0 y1 y2 y3 y4 y5 y6, LeO (hallmootlaw04_LexConcat.j1 k y0 y1 y2 y3 y4 y5 y6) (hallmootlaw04_LexConcat.j1 (k + 1) y0 y1 y2 y3 y4 y5 y6)) ∧ (∀ y0 y1 y2 y3 y4 y5 y6, LeO (hallmootlaw04_LexConcat.l0 k y0 y1 y2 y3 y4 y5 y6) (hallmootlaw04_LexConcat.l0 (k + 1) y0 y1 y2 y3 y4 y5 y6))
  | 0 => ⟨fun _ _ _ _ _ r h => by simp [hallmootlaw04_LexConcat.j0] at h, fun _ _ _ _ _ _ _ r h => by simp [hallmootlaw04_LexConcat.j1] at h, fun _ _ _ _ _ _ _ r h => by simp [hallmootlaw04_LexConcat.l0] at h⟩
  | k + 1 => by
    obtain ⟨ih0, ih1, ih2⟩ := hallmootlaw04_LexConcat.mono_l k
    refine ⟨?_, ?_, ?_⟩
    · intro y0 y1 y2 y3 y4
      unfold hallmootlaw04_LexConcat.j0
      repeat' first
      | (with_reducible exact ih0 _ _ _ _ _)
      | (with_reducible exact ih1 _ _ _ _ _ _ _)
      | (with_reducible exact ih2 _ _ _ _ _ _ _)
      | (with_reducible exact hallmootlaw04_sanity.mono _)
      | (with_reducible exact hallmootref04_Same.mono _ _ _)
      | (with_reducible exact LeO.refl _)
      | (with_reducible exact LeO.none _)
      | (with_reducible refine LeO.ite ?_ ?_)
      | (with_reducible refine LeO.bind ?_ (fun _ => ?_))
      | exact ih0 _ _ _ _ _
      | exact ih1 _ _ _ _ _ _ _
      | exact ih2 _ _ _ _ _ _ _
      | exact hallmootlaw04_sanity.mono _
      | exact hallmootref04_Same.mono _ _ _
      | exact LeO.none _
      | refine LeO.ite ?_ ?_
      | refine LeO.bind ?_ (fun _ => ?_)
    · intro y0 y1 y2 y3 y4 y5 y6
      unfold hallmootlaw04_LexConcat.j1
      repeat' first
      | (with_reducible exact ih0 _ _ _ _ _)
      | (with_reducible exact ih1 _ _ _ _ _ _ _)
      | (with_reducible exact ih2 _ _ _ _ _ _ _)
      | (with_reducible exact hallmootlaw04_sanity.mono _)
      | (with_reducible exact hallmootref04_Same.mono _ _ _)
      | (with_reducible exact LeO.refl _)
      | (with_reducible exact LeO.none _)
      | (with_reducible refine LeO.ite ?_ ?_)
      | (with_reducible refine LeO.bind ?_ (fun _ => ?_))
      | exact ih0 _ _ _ _ _
      | exact ih1 _ _ _ _ _ _ _
      | exact ih2 _ _ _ _ _ _ _
      | exact hallmootlaw04_sanity.mono _
      | exact hallmootref04_Same.mono _ _ _
      | exact LeO.none _
      | refine LeO.ite ?_ ?_
      | refine LeO.bind ?_ (fun _ => ?_)
    · intro y0 y1 y2 y3 y4 y5 y6
      unfold hallmootlaw04_LexConcat.l0
      repeat' first
      | (with_reducible exact ih0 _ _ _ _ _)
      | (with_reducible exact ih1 _ _ _ _ _ _ _)
      | (with_reducible exact ih2 _ _ _ _ _ _ _)
      | (with_reducible exact hallmootlaw04_sanity.mono _)
      | (with_reducible exact hallmootref04_Same.mono _ _ _)
      | (with_reducible exact LeO.refl _)
      | (with_reducible exact LeO.none _)
      | (with_reducible refine LeO.ite ?_ ?_)
      | (with_reducible refine LeO.bind ?_ (fun _ => ?_))
      | exact ih0 _ _ _ _ _
      | exact ih1 _ _ _ _ _ _ _
      | exact ih2 _ _ _ _ _ _ _
      | exact hallmootlaw04_sanity.mono _
      | exact hallmootref04_Same.mono _ _ _
      | exact LeO.none _
      | refine LeO.ite ?_ ?_
      | refine LeO.bind ?_ (fun _ => ?_)
theorem hallmootlaw04_LexConcat.mono : ∀ a0 a1 a2 k, LeO (hallmootlaw04_LexConcat.f k a0 a1 a2) (hallmootlaw04_LexConcat.f (k + 1) a0 a1 a2) := by
 intro a0 a1 a2 k
 obtain ⟨ih0, ih1, ih2⟩ := hallmootlaw04_LexConcat.mono_l k
 unfold hallmootlaw04_LexConcat.f
 repeat' first | (with_reducible exact ih0 _ _ _ _ _) | (with_reducible exact ih1 _ _ _ _ _ _ _) | (with_reducible exact ih2 _ _ _ _ _ _ _) | (with_reducible exact hallmootlaw04_sanity.mono _) | (with_reducible exact hallmootref04_Same.mono _ _ _) | (with_reducible exact LeO.refl _) | (with_reducible exact LeO.none _) | (with_reducible refine LeO.ite ?_ ?_) | (with_reducible refine LeO.bind ?_ (fun _ => ?_)) | exact ih0 _ _ _ _ _ | exact ih1 _ _ _ _ _ _ _ | exact ih2 _ _ _ _ _ _ _ | exact hallmootlaw04_sanity.mono _ | exact hallmootref04_Same.mono _ _ _ | exact LeO.none _ | refine LeO.ite ?_ ?_ | refine LeO.bind ?_ (fun _ => ?_)
set_option maxHeartbeats 8000000 in
set_option maxRecDepth 100000 in
theorem hallmootlaw04_LexConcat.calls (k : Nat) (a0 : ByteArray) (a1 : ByteArray) (a2 : Int) (r : Bool) (w : World) (h : hallmootlaw04_LexConcat.f k a0 a1 a2 = some r) (hL : Laid w) : Calls Tryd.prog 7 #[.string a0, .string a1, .int .u8 a2] w fun e w' => e = .returned (.bool r) ∧ Below w.heap.size w w' := by
 have hu30 := Tryd.underlying30
 have HB := aS (Below.refl w.heap.size w)
 have H : ((hallmootlaw04_sanity.f k).bind fun t222 => (if (a0.size : Int) > 600 then (hallmootlaw04_LexConcat.j0 k a0 a1 a2 t222 true) else (hallmootlaw04_LexConcat.j0 k a0 a1 a2 t222 (decide ((a1.size : Int) > 600))))) = some r := h
 clear h
 replace H := Option.bind_eq_some_iff.mp H
 obtain ⟨t222, A40, H⟩ := H
 replace H : (if (a0.size : Int) > 600 then (hallmootlaw04_LexConcat.j0 k a0 a1 a2 t222 true) else (hallmootlaw04_LexConcat.j0 k a0 a1 a2 t222 (decide ((a1.size : Int) > 600)))) = some r := H
 have A4 := aS A40
 clear A40
 have HC5 := aS H
 clear H
 go_enter Tryd.func7, Tryd.ntmps7
 go_upto_region 2 with (first | ((with_reducible refine gate_callee (f := 9) rfl ?_); refine goesL_ (some 18) rfl rfl Tryd.func9 (by kernel_rfl) rfl #[] rfl (by (try simp only [List.map_toArray, List.map_cons, List.map_nil]); first | done | rfl | (simp only [List.length_drop, List.length_take]; rfl)) ?_; (with_reducible refine (hallmootlaw04_sanity.calls k  t222 _ A4.out (hL.below bb)).mono ?_); rintro e w6 ⟨rfl, hb⟩; refine ⟨_, rfl, ?_⟩; have n0_ := aS (below_step bb hb); clear HB; have HB := n0_; clear n0_; (try clear hb); (try clear hb2); (try clear hk); (try clear hi)))
 (try simp only [Act.put, List.setIfInBounds_toArray, List.set_cons_zero, List.set_cons_succ])
 go_cut [26] (fun v26 wc => ∃ (kq : Nat) (x26_4 : Bool), v26 = .bool x26_4 ∧ Aside0 (hallmootlaw04_LexConcat.j0 kq a0 a1 a2 t222 x26_4 = some r) ∧ Aside0 (kq ≤ k) ∧ Aside0 (Below w.heap.size w wc))
 case first =>
  have H := HC5.out
  clear HC5
  by_cases c7 : (a0.size : Int) > 600
  {
  rw [if_pos c7] at H
  have c7b0 : decide (600 < (a0.size : Int)) = true := decide_eq_true c7
  have c7b1 : decide (600 < a0.size) = true := decide_eq_true (by omega)
  clear c7
  (first | rw [c7b0] | (simp only [i64_w, i32_w]; rw [c7b0]) | skip)
  have H' := aS H
  clear H
  go_wp2
  go_meet
  case rel => exact ⟨_, (true), (by first | rfl | (simp; done) | (simp [*]; done)), H', ⟨by first | omega | exact Nat.le_refl _⟩, ⟨by repeat (first | (with_reducible first | exact HB.out | apply below_alloc | apply pw_below_drewN | apply below_drew1) | exact HB.out)⟩⟩ }
  {
  rw [if_neg c7] at H
  have c7b0 : decide (600 < (a0.size : Int)) = false := decide_eq_false c7
  have c7b1 : decide (600 < a0.size) = false := decide_eq_false (by omega)
  clear c7
  (first | rw [c7b0] | (simp only [i64_w, i32_w]; rw [c7b0]) | skip)
  have H' := aS H
  clear H
  go_wp2
  go_meet
  case rel => exact ⟨_, (decide ((a1.size : Int) > 600)), (by first | rfl | (simp; done) | (simp [*]; done)), H', ⟨by first | omega | exact Nat.le_refl _⟩, ⟨by repeat (first | (with_reducible first | exact HB.out | apply below_alloc | apply pw_below_drewN | apply below_drew1) | exact HB.out)⟩⟩ }
 case rest =>
  clear HC5
  try clear p2
  try clear c7
  try clear c7b0
  try clear c7b1
  obtain ⟨kq, x26_4, rfl, HA, HJ4, HB⟩ := hcut
  cases kq with
  | zero => exact absurd HA.out (by simp [hallmootlaw04_LexConcat.j0])
  | succ kj4 => {
  have H := HA.out
  clear HA
  simp only [hallmootlaw04_LexConcat.j0] at H
  by_cases c8 : x26_4 = true
  {
  subst c8
  have H1 : (some t222) = some r := by rw [if_pos rfl] at H; exact H
  clear H
  have H := H1
  clear H1
  obtain rfl := Option.some.inj H
  go_wp2
  go_ret
  exact ⟨by first | rfl | (simp [errW_none, errW_some] <;> rfl) | (simp [*, errW_none, errW_some] <;> rfl), by repeat (first | (with_reducible first | exact HB.out | apply below_alloc | apply pw_below_drewN | apply below_drew1) | exact HB.out)⟩ }
  {
  replace c8 := Bool.eq_false_iff.mpr c8
  subst c8
  have H1 : ((some (([(⟨#[32]⟩ : ByteArray), (⟨#[9]⟩ : ByteArray), (⟨#[10]⟩ : ByteArray)] : List ByteArray) : List ByteArray)).bind fun y223 => ((lex_Words.f a0).bind fun bt226 => ((lex_Words.f a1).bind fun bt230 => (if 0 ≤ (Int.tmod a2 3) then (if (Int.tmod a2 3) < (y223.length : Int) then (if a0.size + (rdOf ByteArray.empty y223 (Int.tmod a2 3)).size ≤ 9223372036854775807 then (if (a0 ++ (rdOf ByteArray.empty y223 (Int.tmod a2 3))).size + a1.size ≤ 9223372036854775807 then ((lex_Words.f ((a0 ++ (rdOf ByteArray.empty y223 (Int.tmod a2 3))) ++ a1)).bind fun bt235 => (if bt226.2 = 0 then (hallmootlaw04_LexConcat.j1 kj4 a0 t222 bt226.1 bt230.1 bt235.1 bt235.2 (bt230.2 != 0)) else (hallmootlaw04_LexConcat.j1 kj4 a0 t222 bt226.1 bt230.1 bt235.1 bt235.2 true))) else (none)) else (none)) else (none)) else (none))))) = some r := by rw [if_neg (show ¬ (false = true) by decide)] at H; exact H
  clear H
  have H := H1
  clear H1
  obtain ⟨y223, hy223⟩ : ∃ y_ : List ByteArray, y_ = (([(⟨#[32]⟩ : ByteArray), (⟨#[9]⟩ : ByteArray), (⟨#[10]⟩ : ByteArray)] : List ByteArray)) := ⟨_, rfl⟩
  replace H : ((lex_Words.f a0).bind fun bt226 => ((lex_Words.f a1).bind fun bt230 => (if 0 ≤ (Int.tmod a2 3) then (if (Int.tmod a2 3) < (y223.length : Int) then (if a0.size + (rdOf ByteArray.empty y223 (Int.tmod a2 3)).size ≤ 9223372036854775807 then (if (a0 ++ (rdOf ByteArray.empty y223 (Int.tmod a2 3))).size + a1.size ≤ 9223372036854775807 then ((lex_Words.f ((a0 ++ (rdOf ByteArray.empty y223 (Int.tmod a2 3))) ++ a1)).bind fun bt235 => (if bt226.2 = 0 then (hallmootlaw04_LexConcat.j1 kj4 a0 t222 bt226.1 bt230.1 bt235.1 bt235.2 (bt230.2 != 0)) else (hallmootlaw04_LexConcat.j1 kj4 a0 t222 bt226.1 bt230.1 bt235.1 bt235.2 true))) else (none)) else (none)) else (none)) else (none)))) = some r := by first | (rw [hy223]; with_reducible exact H) | (have H2_ := (Option.bind_some _ _).symm.trans H; rw [hy223]; with_reducible exact H2_) | (have H2_ := (Option.bind_some _ _).symm.trans H; with_reducible exact H2_) | with_reducible exact H | (rw [hy223]; exact H) | exact H
  have Ny223 := aS hy223
  clear hy223
  replace H := Option.bind_eq_some_iff.mp H
  obtain ⟨⟨t226, t227⟩, A90, H⟩ := H
  replace H : ((lex_Words.f a1).bind fun bt230 => (if 0 ≤ (Int.tmod a2 3) then (if (Int.tmod a2 3) < (y223.length : Int) then (if a0.size + (rdOf ByteArray.empty y223 (Int.tmod a2 3)).size ≤ 9223372036854775807 then (if (a0 ++ (rdOf ByteArray.empty y223 (Int.tmod a2 3))).size + a1.size ≤ 9223372036854775807 then ((lex_Words.f ((a0 ++ (rdOf ByteArray.empty y223 (Int.tmod a2 3))) ++ a1)).bind fun bt235 => (if t227 = 0 then (hallmootlaw04_LexConcat.j1 kj4 a0 t222 t226 bt230.1 bt235.1 bt235.2 (bt230.2 != 0)) else (hallmootlaw04_LexConcat.j1 kj4 a0 t222 t226 bt230.1 bt235.1 bt235.2 true))) else (none)) else (none)) else (none)) else (none))) = some r := H
  have A9 := aS A90
  clear A90
  replace H := Option.bind_eq_some_iff.mp H
  obtain ⟨⟨t230, t231⟩, A100, H⟩ := H
  replace H : (if 0 ≤ (Int.tmod a2 3) then (if (Int.tmod a2 3) < (y223.length : Int) then (if a0.size + (rdOf ByteArray.empty y223 (Int.tmod a2 3)).size ≤ 9223372036854775807 then (if (a0 ++ (rdOf ByteArray.empty y223 (Int.tmod a2 3))).size + a1.size ≤ 9223372036854775807 then ((lex_Words.f ((a0 ++ (rdOf ByteArray.empty y223 (Int.tmod a2 3))) ++ a1)).bind fun bt235 => (if t227 = 0 then (hallmootlaw04_LexConcat.j1 kj4 a0 t222 t226 t230 bt235.1 bt235.2 (t231 != 0)) else (hallmootlaw04_LexConcat.j1 kj4 a0 t222 t226 t230 bt235.1 bt235.2 true))) else (none)) else (none)) else (none)) else (none)) = some r := H
  have A10 := aS A100
  clear A100
  obtain ⟨ji11, hji11⟩ : ∃ j_ : Int, (Int.tmod a2 3) = j_ := ⟨_, rfl⟩
  replace H : (if 0 ≤ (ji11) then (if (ji11) < (y223.length : Int) then (if a0.size + (rdOf ByteArray.empty y223 (ji11)).size ≤ 9223372036854775807 then (if (a0 ++ (rdOf ByteArray.empty y223 (ji11))).size + a1.size ≤ 9223372036854775807 then ((lex_Words.f ((a0 ++ (rdOf ByteArray.empty y223 (ji11))) ++ a1)).bind fun bt235 => (if t227 = 0 then (hallmootlaw04_LexConcat.j1 kj4 a0 t222 t226 t230 bt235.1 bt235.2 (t231 != 0)) else (hallmootlaw04_LexConcat.j1 kj4 a0 t222 t226 t230 bt235.1 bt235.2 true))) else (none)) else (none)) else (none)) else (none)) = some r := by first | (rw [hji11] at H; exact H) | (simp only [hji11] at H ⊢; exact H)
  (try rw [hji11] at A9)
  (try rw [hji11] at A10)
  by_cases c12 : 0 ≤ (ji11)
  {
  rw [if_pos c12] at H
  have c12b0 : decide (0 ≤ (ji11)) = true := decide_eq_true c12
  clear c12
  by_cases c13 : (ji11) < (y223.length : Int)
  {
  rw [if_pos c13] at H
  have c13b0 : decide ((ji11) < (y223.length : Int)) = true := decide_eq_true c13
  clear c13
  by_cases c14 : a0.size + (rdOf ByteArray.empty y223 (ji11)).size ≤ 9223372036854775807
  {
  rw [if_pos c14] at H
  have c14b0 := eq_true c14
  have c14b1 : decide (a0.size + (rdOf ByteArray.empty y223 (ji11)).size ≤ 9223372036854775807) = true := decide_eq_true c14
  try have c14b2 : (9223372036854775807 < a0.size + (rdOf ByteArray.empty y223 (ji11)).size) = False := eq_false (Nat.not_lt.2 c14)
  by_cases c15 : (a0 ++ (rdOf ByteArray.empty y223 (ji11))).size + a1.size ≤ 9223372036854775807
  {
  rw [if_pos c15] at H
  have c15b0 := eq_true c15
  have c15b1 : decide ((a0 ++ (rdOf ByteArray.empty y223 (ji11))).size + a1.size ≤ 9223372036854775807) = true := decide_eq_true c15
  try have c15b2 : (9223372036854775807 < (a0 ++ (rdOf ByteArray.empty y223 (ji11))).size + a1.size) = False := eq_false (Nat.not_lt.2 c15)
  replace H := Option.bind_eq_some_iff.mp H
  obtain ⟨⟨t235, t236⟩, A160, H⟩ := H
  replace H : (if t227 = 0 then (hallmootlaw04_LexConcat.j1 kj4 a0 t222 t226 t230 t235 t236 (t231 != 0)) else (hallmootlaw04_LexConcat.j1 kj4 a0 t222 t226 t230 t235 t236 true)) = some r := H
  have A16 := aS A160
  clear A160
  have HC17 := aS H
  clear H
  go_upto_region 8 with (first | ((with_reducible refine gate_dst (N := 28) rfl ?_); (try (refine gate_guard (by rfl) ?_; dsimp only)); refine Kd.R_lit Kd.string _ 9 ?hg (N := 28) ?hd (xs := ([(⟨#[32]⟩ : ByteArray), (⟨#[9]⟩ : ByteArray), (⟨#[10]⟩ : ByteArray)] : List ByteArray)) (inner := [.string (⟨#[32]⟩ : ByteArray), .string (⟨#[9]⟩ : ByteArray), .string (⟨#[10]⟩ : ByteArray)]) (ok := fun _ => True) (okp := fun _ => True) ?hr ?hp (fun _ hk => hk) trivial (Below.refl _ _) (Nat.le_refl _) (by simp) ?_; (case hd => rfl); (case hg => rfl); (case hr => first | (go_simp; done) | (go_simp; rfl)); (case hp => exact (Reps.one (show Kd.M Kd.string _ _ _ (⟨#[32]⟩ : ByteArray) [.string (⟨#[32]⟩ : ByteArray)] from rfl) (Reps.one (show Kd.M Kd.string _ _ _ (⟨#[9]⟩ : ByteArray) [.string (⟨#[9]⟩ : ByteArray)] from rfl) (Reps.one (show Kd.M Kd.string _ _ _ (⟨#[10]⟩ : ByteArray) [.string (⟨#[10]⟩ : ByteArray)] from rfl) (Reps.none _ _))))); intro v224 w18 ho19 hb hg_ hnew_; clear hg_ hnew_; (first | rw [← Ny223.out] at ho19 | (simp only [Int.reduceToNat] at ho19; rw [← Ny223.out] at ho19)); have n0_ := aS (Kd.R_lower ho19 bz); have n1_ := aS (below_step bb hb); clear HB; have HO225 := n0_; have HB := n1_; clear n0_ n1_; clear hb ho19) | ((with_reducible refine gate_callee (f := 10) rfl ?_); refine goesL_ (some 31) rfl rfl Tryd.func10 (by kernel_rfl) rfl #[.string a0] rfl (by (try simp only [List.map_toArray, List.map_cons, List.map_nil]); first | done | rfl | (simp only [List.length_drop, List.length_take]; rfl)) ?_; (with_reducible refine (lex_Words.calls a0 t226 t227 _ A9.out (hL.below bb)).mono ?_); rintro e w20 ⟨v228, rfl, ho0, hb⟩; refine ⟨_, rfl, ?_⟩; have n0_ := aS (Kd.R_below (rr HO225.out) hb); have n1_ := aS (Kd.R_lower ho0 bz); have n2_ := aS (below_step bb hb); clear HO225; clear HB; have HO225 := n0_; have HO229 := n1_; have HB := n2_; clear n0_ n1_ n2_; (try clear hb); (try clear hb2); (try clear hk); (try clear hi); (try clear ho0)) | ((with_reducible refine gate_callee (f := 10) rfl ?_); refine goesL_ (some 36) rfl rfl Tryd.func10 (by kernel_rfl) rfl #[.string a1] rfl (by (try simp only [List.map_toArray, List.map_cons, List.map_nil]); first | done | rfl | (simp only [List.length_drop, List.length_take]; rfl)) ?_; (with_reducible refine (lex_Words.calls a1 t230 t231 _ A10.out (hL.below bb)).mono ?_); rintro e w21 ⟨v232, rfl, ho0, hb⟩; refine ⟨_, rfl, ?_⟩; have n0_ := aS (Kd.R_below (rr HO225.out) hb); have n1_ := aS (Kd.R_elder' (rr HO229.out) (Kd.R_base ho0) hb); have n2_ := aS (Kd.R_lower (Kd.R_new' ho0 (Kd.R_lt (rr HO229.out))) bz); have n3_ := aS (below_step bb hb); clear HO225; clear HO229; clear HB; have HO225 := n0_; have HO229 := n1_; have HO233 := n2_; have HB := n3_; clear n0_ n1_ n2_ n3_; (try clear hb); (try clear hb2); (try clear hk); (try clear hi); (try clear ho0); obtain ⟨Ao22, co22, eo22⟩ := Kd.R_slice HO225.out; subst eo22; have p234 : 0 ≤ ((ji11) : Int) := dd; have q234 : (ji11) < (y223.length : Int) := dd; obtain ⟨ad234, e234, hx234_0⟩ := Kd.at_string (Kd.R_reads' HO225.out).2.2 (ji11) p234 q234; cases e234; replace p234 := eq_true p234; replace q234 := eq_true q234) | ((with_reducible refine gate_callee (f := 10) rfl ?_); refine goesL_ (some 49) rfl rfl Tryd.func10 (by kernel_rfl) rfl #[.string ((a0 ++ (rdOf ByteArray.empty y223 (ji11))) ++ a1)] rfl (by (try simp only [List.map_toArray, List.map_cons, List.map_nil]); first | done | (simp only [hji11]; rfl) | rfl | (simp only [List.length_drop, List.length_take]; rfl)) ?_; (with_reducible refine (lex_Words.calls ((a0 ++ (rdOf ByteArray.empty y223 (ji11))) ++ a1) t235 t236 _ A16.out (hL.below bb)).mono ?_); rintro e w23 ⟨v237, rfl, ho0, hb⟩; refine ⟨_, rfl, ?_⟩; have n0_ := aS (Kd.R_below (rr HO225.out) hb); have n1_ := aS (Kd.R_elder' (rr HO229.out) (Kd.R_base ho0) hb); have n2_ := aS (Kd.R_elder' (rr HO233.out) (Kd.R_base ho0) hb); have n3_ := aS (Kd.R_lower (Kd.R_new' (Kd.R_new' ho0 (Kd.R_lt (rr HO229.out))) (Kd.R_lt (rr HO233.out))) bz); have n4_ := aS (below_step bb hb); clear HO225; clear HO229; clear HO233; clear HB; have HO225 := n0_; have HO229 := n1_; have HO233 := n2_; have HO238 := n3_; have HB := n4_; clear n0_ n1_ n2_ n3_ n4_; (try clear hb); (try clear hb2); (try clear hk); (try clear hi); (try clear ho0)))
  (try simp only [Act.put, List.setIfInBounds_toArray, List.set_cons_zero, List.set_cons_succ])
  go_cut [57] (fun v57 wc => ∃ (kq : Nat) (x57_16 : Bool), v57 = .bool x57_16 ∧ Aside0 (hallmootlaw04_LexConcat.j1 kq a0 t222 t226 t230 t235 t236 x57_16 = some r) ∧ Aside0 (kq ≤ kj4) ∧ Aside0 (Kd.R k30 30 wc w.heap.size (fun k_ => some k_ ≠ (v232 : Value).ownBlock ∧ some k_ ≠ (v237 : Value).ownBlock) v228 t226) ∧ Aside0 (Kd.R k30 30 wc w.heap.size (fun k_ => some k_ ≠ (v228 : Value).ownBlock ∧ some k_ ≠ (v237 : Value).ownBlock) v232 t230) ∧ Aside0 (Kd.R k30 30 wc w.heap.size (fun k_ => some k_ ≠ (v228 : Value).ownBlock ∧ some k_ ≠ (v232 : Value).ownBlock) v237 t235) ∧ Aside0 (Below w.heap.size w wc))
  case first =>
   have H := HC17.out
   clear HC17
   by_cases c24 : t227 = 0
   {
   rw [if_pos c24] at H
   have c24b0 : (t227 == 0) = true := beq_iff_eq.mpr c24
   have c24b1 : (t227 != 0) = false := bne_eq_false_iff_eq.mpr c24
   clear c24
   (first | rw [c24b0] | (simp only [i64_w, i32_w]; rw [c24b0]) | skip)
   have H' := aS H
   clear H
   go_wp2
   go_meet
   case rel => exact ⟨_, ((t231 != 0)), (by first | rfl | (simp; done) | (simp [*]; done)), H', ⟨by have := HJ4.out; first | omega | exact Nat.le_refl _⟩, ⟨by (with_reducible repeat (first | apply Kd.R_alloc | apply Kd.R_drewN | apply Kd.R_drew)); exact Kd.R_mono HO229.out (fun _ hk => ⟨hk.1.2, hk.2⟩)⟩, ⟨by (with_reducible repeat (first | apply Kd.R_alloc | apply Kd.R_drewN | apply Kd.R_drew)); exact Kd.R_mono HO233.out (fun _ hk => ⟨hk.1.2, hk.2⟩)⟩, ⟨by (with_reducible repeat (first | apply Kd.R_alloc | apply Kd.R_drewN | apply Kd.R_drew)); exact Kd.R_mono HO238.out (fun _ hk => ⟨hk.1.2, hk.2⟩)⟩, ⟨by repeat (first | (with_reducible first | exact HB.out | apply below_alloc | apply pw_below_drewN | apply below_drew1) | exact HB.out)⟩⟩ }
   {
   rw [if_neg c24] at H
   have c24b0 : (t227 == 0) = false := beq_eq_false_iff_ne.mpr c24
   have c24b1 : (t227 != 0) = true := bne_iff_ne.mpr c24
   (first | rw [c24b0] | (simp only [i64_w, i32_w]; rw [c24b0]) | skip)
   have H' := aS H
   clear H
   go_wp2
   go_meet
   case rel => exact ⟨_, (true), (by first | rfl | (simp; done) | (simp [*]; done)), H', ⟨by have := HJ4.out; first | omega | exact Nat.le_refl _⟩, ⟨by (with_reducible repeat (first | apply Kd.R_alloc | apply Kd.R_drewN | apply Kd.R_drew)); exact Kd.R_mono HO229.out (fun _ hk => ⟨hk.1.2, hk.2⟩)⟩, ⟨by (with_reducible repeat (first | apply Kd.R_alloc | apply Kd.R_drewN | apply Kd.R_drew)); exact Kd.R_mono HO233.out (fun _ hk => ⟨hk.1.2, hk.2⟩)⟩, ⟨by (with_reducible repeat (first | apply Kd.R_alloc | apply Kd.R_drewN | apply Kd.R_drew)); exact Kd.R_mono HO238.out (fun _ hk => ⟨hk.1.2, hk.2⟩)⟩, ⟨by repeat (first | (with_reducible first | exact HB.out | apply below_alloc | apply pw_below_drewN | apply below_drew1) | exact HB.out)⟩⟩ }
  case rest =>
   clear HC17
   try clear c1
   try clear c2
   try clear p2
   try clear q2
   try clear hx2
   try clear c7
   try clear c7b0
   try clear c7b1
   try clear c8
   try clear c9
   try clear c10
   try clear c12
   try clear c12b0
   try clear c13
   try clear c13b0
   try clear c14
   try clear c14b0
   try clear c14b1
   try clear c14b2
   try clear c15
   try clear c15b0
   try clear c15b1
   try clear c15b2
   try clear p23
   try clear q23
   try clear hx23
   try clear c24
   try clear c24b0
   try clear c24b1
   try clear hx234_0
   try clear p2
   try clear p234
   try clear q234
   obtain ⟨kq, x57_16, rfl, HA, HJ16, HO_9, HO_11, HO_13, HB⟩ := hcut
   cases kq with
   | zero => exact absurd HA.out (by simp [hallmootlaw04_LexConcat.j1])
   | succ kj16 => {
   have H := HA.out
   clear HA
   simp only [hallmootlaw04_LexConcat.j1] at H
   by_cases c25 : x57_16 = true
   {
   subst c25
   have H1 : (if t222 = true then (if t236 = 3 then (some ((t235.length : Int) == 0)) else (none)) else (none)) = some r := by rw [if_pos rfl] at H; exact H
   clear H
   have H := H1
   clear H1
   by_cases c26 : t222 = true
   {
   subst c26
   have H1 : (if t236 = 3 then (some ((t235.length : Int) == 0)) else (none)) = some r := by rw [if_pos rfl] at H; exact H
   clear H
   have H := H1
   clear H1
   by_cases c27 : t236 = 3
   {
   rw [if_pos c27] at H
   have c27b0 : (t236 == 3) = true := beq_iff_eq.mpr c27
   have c27b1 : (t236 != 3) = false := bne_eq_false_iff_eq.mpr c27
   clear c27
   obtain rfl := Option.some.inj H
   obtain ⟨Ao28, co28, eo28⟩ := Kd.R_slice HO_13.out
   subst eo28
   go_wp2
   go_ret
   exact ⟨by first | rfl | (simp [errW_none, errW_some] <;> rfl) | (simp only [← hji11]; first | rfl | (simp [errW_none, errW_some] <;> rfl)) | (simp [*, errW_none, errW_some] <;> rfl), by repeat (first | (with_reducible first | exact HB.out | apply below_alloc | apply pw_below_drewN | apply below_drew1) | exact HB.out)⟩ }
   {
   rw [if_neg c27] at H
   exact absurd H (by simp) } }
   {
   replace c26 := Bool.eq_false_iff.mpr c26
   subst c26
   have H1 : (none) = some r := by rw [if_neg (show ¬ (false = true) by decide)] at H; exact H
   clear H
   have H := H1
   clear H1
   exact absurd H (by simp) } }
   {
   replace c25 := Bool.eq_false_iff.mpr c25
   subst c25
   have H1 : ((some (([] : List (S30)) : List (S30))).bind fun y239 => (if y239.length + t226.length < 3518437208883 then (hallmootlaw04_LexConcat.l0 kj16 a0 t222 t230 t235 t236 (y239 ++ t226) 0) else (none))) = some r := by rw [if_neg (show ¬ (false = true) by decide)] at H; exact H
   clear H
   have H := H1
   clear H1
   obtain ⟨y239, hy239⟩ : ∃ y_ : List (S30), y_ = (([] : List (S30))) := ⟨_, rfl⟩
   replace H : (if y239.length + t226.length < 3518437208883 then (hallmootlaw04_LexConcat.l0 kj16 a0 t222 t230 t235 t236 (y239 ++ t226) 0) else (none)) = some r := by first | (rw [hy239]; with_reducible exact H) | (have H2_ := (Option.bind_some _ _).symm.trans H; rw [hy239]; with_reducible exact H2_) | (have H2_ := (Option.bind_some _ _).symm.trans H; with_reducible exact H2_) | with_reducible exact H | (rw [hy239]; exact H) | exact H
   have Ny239 := aS hy239
   clear hy239
   by_cases c29 : y239.length + t226.length < 3518437208883
   {
   rw [if_pos c29] at H
   have LMc29 := aS c29
   clear c29
   obtain ⟨y242, hy242⟩ : ∃ y_ : List (S30), y_ = (y239 ++ t226) := ⟨_, rfl⟩
   replace H : (hallmootlaw04_LexConcat.l0 kj16 a0 t222 t230 t235 t236 y242 0) = some r := by first | (rw [hy242]; with_reducible exact H) | (have H2_ := (Option.bind_some _ _).symm.trans H; rw [hy242]; with_reducible exact H2_) | (have H2_ := (Option.bind_some _ _).symm.trans H; with_reducible exact H2_) | with_reducible exact H | (rw [hy242]; exact H) | exact H
   have Ny242 := aS hy242
   clear hy242
   have H' := aS H
   clear H
   go_wp2_with (first | ((with_reducible refine gate_dst (N := 68) rfl ?_); (try (refine gate_guard (by rfl) ?_; dsimp only)); refine Kd.R_lit k30 _ 30 ?hg (N := 68) ?hd (xs := ([] : List (S30))) (inner := []) (ok := fun _ => True) (okp := fun _ => True) ?hr ?hp (fun _ hk => hk) trivial (Below.refl _ _) (Nat.le_refl _) (by simp) ?_; (case hd => rfl); (case hg => rfl); (case hr => first | (go_simp; done) | (go_simp; rfl)); (case hp => exact (Reps.none _ _)); intro v240 w30 ho31 hb hg_ hnew_; clear hg_ hnew_; (first | rw [← Ny239.out] at ho31 | (simp only [Int.reduceToNat] at ho31; rw [← Ny239.out] at ho31)); have n0_ := aS (Kd.R_elder' (rr HO_9.out) (Kd.R_base ho31) hb); have n1_ := aS (Kd.R_elder' (rr HO_11.out) (Kd.R_base ho31) hb); have n2_ := aS (Kd.R_elder' (rr HO_13.out) (Kd.R_base ho31) hb); have n3_ := aS (Kd.R_lower (Kd.R_new' (Kd.R_new' (Kd.R_new' ho31 (Kd.R_lt (rr HO_9.out))) (Kd.R_lt (rr HO_11.out))) (Kd.R_lt (rr HO_13.out))) bz); have n4_ := aS (below_step bb hb); clear HO_9; clear HO_11; clear HO_13; clear HB; have HO_9 := n0_; have HO_11 := n1_; have HO_13 := n2_; have HO241 := n3_; have HB := n4_; clear n0_ n1_ n2_ n3_ n4_; clear hb ho31; obtain ⟨Ao33, co33, eo33⟩ := Kd.R_slice HO_9.out; subst eo33) | ((with_reducible refine gate_builtin (b := .append) (xs := #[.tmp 68, .tmp 69]) rfl ?_); (try (refine gate_guard (by rfl) ?_; dsimp only)); at_builtin; refine Kd.R_append_rows k30 (w0 := w) w.heap.size rfl (.tmp 68) (.tmp 69) 23 30 (.agg #[(.int .i64 0), (.string ⟨#[]⟩), (.int .i64 0), (.int .i64 0)]) 40 rfl Tryd.underlying23 info30 rfl (by decide) (by omega) v240 y239 t226 _ _ _ (fun k_ => some k_ ≠ (.slice Ao33 t226.length co33 : Value).ownBlock ∧ some k_ ≠ (v232 : Value).ownBlock ∧ some k_ ≠ (v237 : Value).ownBlock) (fun _ => False) rfl rfl ?aO ?aR (fun _ _ h => h) (fun _ h => h.elim) ?aF ?aB ?aS ?aL ?_; (case aR => repeat (first | exact (Kd.R_reads' HO_9.out).2.2 | (with_reducible refine Kd.C_alloc ?_ _) | (with_reducible refine Kd.C_drewN ?_ _) | (with_reducible refine Kd.C_drew ?_))); (case aB => exact bb); (case aF => exact (fun k_ hk => ⟨Kd.fresh' (Kd.R_lt (rr HO_9.out)) k_ hk, Kd.fresh' (Kd.R_lt (rr HO_11.out)) k_ hk, Kd.fresh' (Kd.R_lt (rr HO_13.out)) k_ hk⟩)); (case aO => exact (rr (Kd.R_mono HO241.out (fun _ hk => ⟨hk.1.1.2, ⟨hk.1.2, hk.2⟩⟩)))); (case aS => exact bz); (case aL => have := LMc29.out; omega); intro v243 w32 ho hb hg hat; rw [← Ny242.out] at ho; have n0_ := aS (Kd.R_after (ok := (fun k_ => some k_ ≠ (v232 : Value).ownBlock ∧ some k_ ≠ (v237 : Value).ownBlock)) (rr HO_9.out) hg hat); have n1_ := aS (Kd.R_after (ok := (fun k_ => some k_ ≠ (.slice Ao33 t226.length co33 : Value).ownBlock ∧ some k_ ≠ (v237 : Value).ownBlock)) (rr HO_11.out) hg hat); have n2_ := aS (Kd.R_after (ok := (fun k_ => some k_ ≠ (.slice Ao33 t226.length co33 : Value).ownBlock ∧ some k_ ≠ (v232 : Value).ownBlock)) (rr HO_13.out) hg hat); have n3_ := aS (hb); have n4_ := aS (ho); clear HO_9; clear HO_11; clear HO_13; clear HB; clear HO241; have HO_9 := n0_; have HO_11 := n1_; have HO_13 := n2_; have HB := n3_; have HO244 := n4_; clear n0_ n1_ n2_ n3_ n4_; clear ho hb hg hat))
   go_loopg [15, 16] kj16 (fun kq v15 v16 w' => ∃ (x15_3 : List (S30)) (x16_3 : Int), v16 = .int .i64 x16_3 ∧ Aside0 (hallmootlaw04_LexConcat.l0 kq a0 t222 t230 t235 t236 x15_3 x16_3 = some r) ∧ Aside0 (kq ≤ kj16) ∧ Aside0 (Kd.R k30 30 w' w.heap.size (fun k_ => some k_ ≠ (v237 : Value).ownBlock ∧ some k_ ≠ (v15 : Value).ownBlock) v232 t230) ∧ Aside0 (Kd.R k30 30 w' w.heap.size (fun k_ => some k_ ≠ (v232 : Value).ownBlock ∧ some k_ ≠ (v15 : Value).ownBlock) v237 t235) ∧ Aside0 (Kd.R k30 30 w' w.heap.size (fun k_ => some k_ ≠ (v232 : Value).ownBlock ∧ some k_ ≠ (v237 : Value).ownBlock) v15 x15_3) ∧ Aside0 (Below w.heap.size w w'))
   case atStart => exact ⟨(y242), (0), (by first | rfl | (simp; done) | (simp [*]; done)), H', ⟨Nat.le_refl _⟩, ⟨by (with_reducible repeat (first | apply Kd.R_alloc | apply Kd.R_drewN | apply Kd.R_drew)); exact Kd.R_mono HO_11.out (fun _ hk => ⟨hk.1.2, hk.2⟩)⟩, ⟨by (with_reducible repeat (first | apply Kd.R_alloc | apply Kd.R_drewN | apply Kd.R_drew)); exact Kd.R_mono HO_13.out (fun _ hk => ⟨hk.1.2, hk.2⟩)⟩, ⟨by (with_reducible repeat (first | apply Kd.R_alloc | apply Kd.R_drewN | apply Kd.R_drew)); exact Kd.R_mono HO244.out (fun _ hk => ⟨hk.2.1, hk.2.2⟩)⟩, ⟨by repeat (first | (with_reducible first | exact HB.out | apply below_alloc | apply pw_below_drewN | apply below_drew1) | exact HB.out)⟩⟩
   case round =>
    clear H'
    try clear c1
    try clear c2
    try clear p2
    try clear q2
    try clear hx2
    try clear c7
    try clear c7b0
    try clear c7b1
    try clear c8
    try clear c9
    try clear c10
    try clear c12
    try clear c12b0
    try clear c13
    try clear c13b0
    try clear c14
    try clear c14b0
    try clear c14b1
    try clear c14b2
    try clear c15
    try clear c15b0
    try clear c15b1
    try clear c15b2
    try clear p23
    try clear q23
    try clear hx23
    try clear c24
    try clear c24b0
    try clear c24b1
    try clear c25
    try clear c26
    try clear c27
    try clear c27b0
    try clear c27b1
    try clear c29
    try clear hx234_0
    try clear p2
    try clear p23
    try clear p234
    try clear q2
    try clear q23
    try clear q234
    obtain ⟨x15_3, x16_3, rfl, HA, HK3, HO_11, HO_13, HO_15, HB⟩ := hrel
    cases gk with
    | zero => exact absurd HA.out (by simp [hallmootlaw04_LexConcat.l0])
    | succ k3 => {
    have H := HA.out
    clear HA
    simp only [hallmootlaw04_LexConcat.l0] at H
    by_cases c34 : x16_3 < (t230.length : Int)
    {
    rw [if_pos c34] at H
    have c34b0 : decide (x16_3 < (t230.length : Int)) = true := decide_eq_true c34
    clear c34
    by_cases c35 : 0 ≤ x16_3
    {
    rw [if_pos c35] at H
    have c35b0 : decide (0 ≤ x16_3) = true := decide_eq_true c35
    clear c35
    by_cases c36 : x15_3.length < 3518437208883
    {
    rw [if_pos c36] at H
    have LMc36 := aS c36
    clear c36
    obtain ⟨y247, hy247⟩ : ∃ y_ : List (S30), y_ = (x15_3 ++ [(⟨(rd_T30 t230 x16_3).f0, (rd_T30 t230 x16_3).f1, (rd_T30 t230 x16_3).f2, wrap64 ((wrap64 (((rd_T30 t230 x16_3).f3) + (a0.size : Int))) + 1)⟩ : S30)]) := ⟨_, rfl⟩
    replace H : (hallmootlaw04_LexConcat.l0 k3 a0 t222 t230 t235 t236 y247 (wrap64 (x16_3 + 1))) = some r := by first | (rw [hy247]; with_reducible exact H) | (have H2_ := (Option.bind_some _ _).symm.trans H; rw [hy247]; with_reducible exact H2_) | (have H2_ := (Option.bind_some _ _).symm.trans H; with_reducible exact H2_) | with_reducible exact H | (rw [hy247]; exact H) | exact H
    have Ny247 := aS hy247
    clear hy247
    have H' := aS H
    clear H
    obtain ⟨Ao37, co37, eo37⟩ := Kd.R_slice HO_11.out
    subst eo37
    have p245 : 0 ≤ (x16_3 : Int) := dd
    have q245 : x16_3 < (t230.length : Int) := dd
    obtain ⟨ad245, e245, hx245_0, hx245_1, hx245_2, hx245_3⟩ := at_T30 (Kd.R_reads' HO_11.out).2.2 x16_3 p245 q245
    cases e245
    replace p245 := eq_true p245
    replace q245 := eq_true q245
    go_wp2_with (first | ((with_reducible refine gate_dst (N := 17) rfl ?_); (try (refine gate_guard (by rfl) ?_; dsimp only)); refine box_event ?hg (N := 17) ?hd (cs := #[.int .i64 0, .string (⟨#[]⟩ : ByteArray), .int .i64 0, .int .i64 0]) (t := 30) ?hr ?_; (case hd => rfl); (case hg => rfl); (case hr => first | (go_simp; done) | (go_simp; rfl)); intro gb246 hg w38 hbox hb; have n0_ := aS (Kd.R_below (Kd.R_elderB (rr HO_11.out) gb246 (Nat.le_of_eq hg.symm)) hb); have n1_ := aS (Kd.R_below (Kd.R_elderB (rr HO_13.out) gb246 (Nat.le_of_eq hg.symm)) hb); have n2_ := aS (Kd.R_below (Kd.R_elderB (rr HO_15.out) gb246 (Nat.le_of_eq hg.symm)) hb); have n3_ := aS (below_step bb hb); have n4_ := aS (hbox); have n5_ := aS ((by rw [hg]; exact bz : w.heap.size ≤ gb246)); have n6_ := aS ((by rw [hg]; exact bz : w.heap.size ≤ gb246)); clear HO_11; clear HO_13; clear HO_15; clear HB; have HO_11 := n0_; have HO_13 := n1_; have HO_15 := n2_; have HB := n3_; have BK246 := n4_; have GW246 := n5_; have GE246 := n6_; clear n0_ n1_ n2_ n3_ n4_ n5_ n6_; clear hb hbox hg; have hcz39_0 : w38.cell? ⟨gb246, 0, none⟩ = some (.int .i64 0) := (blk_cell BK246.out 0).trans rfl; have hcz39_1 : w38.cell? ⟨gb246, 1, none⟩ = some (.string (⟨#[]⟩ : ByteArray)) := (blk_cell BK246.out 1).trans rfl; have hcz39_2 : w38.cell? ⟨gb246, 2, none⟩ = some (.int .i64 0) := (blk_cell BK246.out 2).trans rfl; have hcz39_3 : w38.cell? ⟨gb246, 3, none⟩ = some (.int .i64 0) := (blk_cell BK246.out 3).trans rfl; have hfz39_0 := blk_frozen BK246.out 0; have hfz39_1 := blk_frozen BK246.out 1; have hfz39_2 := blk_frozen BK246.out 2; have hfz39_3 := blk_frozen BK246.out 3; have hset39 : ∀ (a b c d e : Value), (((((w38.setCell ⟨gb246, 0, none⟩ a).setCell ⟨gb246, 1, none⟩ b).setCell ⟨gb246, 2, none⟩ c).setCell ⟨gb246, 3, none⟩ d).setCell ⟨gb246, 3, none⟩ e).cell? ⟨gb246, 3, none⟩ = some e := fun a b c d e => (blk_cell (blk_put (blk_put (blk_put (blk_put (blk_put BK246.out 0 a rfl) 1 b rfl) 2 c rfl) 3 d rfl) 3 e rfl) 3).trans rfl) | ((with_reducible refine gate_builtin (b := .append) (xs := #[.tmp 88, .tmp 90]) rfl ?_); (try (refine gate_guard (by rfl) ?_; dsimp only)); at_builtin; refine Kd.R_append k30 (w0 := w) w.heap.size rfl (.tmp 88) (.tmp 90) 23 30 (.agg #[(.int .i64 0), (.string ⟨#[]⟩), (.int .i64 0), (.int .i64 0)]) 40 rfl Tryd.underlying23 info30 rfl (by decide) (by omega) u15 x15_3 (⟨(rd_T30 t230 x16_3).f0, (rd_T30 t230 x16_3).f1, (rd_T30 t230 x16_3).f2, wrap64 ((wrap64 (((rd_T30 t230 x16_3).f3) + (a0.size : Int))) + 1)⟩ : S30) [.int .i64 ((rd_T30 t230 x16_3).f0), .string ((rd_T30 t230 x16_3).f1), .int .i64 ((rd_T30 t230 x16_3).f2), .int .i64 (wrap64 ((wrap64 (((rd_T30 t230 x16_3).f3) + (a0.size : Int))) + 1))] (fun k_ => some k_ ≠ (.slice (some ad245) t230.length co37 : Value).ownBlock ∧ some k_ ≠ (v237 : Value).ownBlock ∧ k_ ≠ gb246) (fun _ => False) rfl (by first | (go_simp; done) | (go_simp; rfl)) ?aP (fun _ hk => hk.elim) ?aF ?aO ?aB ?aS ?aL ?_; (case aP => exact k30_mkM _ _ _ (⟨(rd_T30 t230 x16_3).f0, (rd_T30 t230 x16_3).f1, (rd_T30 t230 x16_3).f2, wrap64 ((wrap64 (((rd_T30 t230 x16_3).f3) + (a0.size : Int))) + 1)⟩ : S30)); (case aB => exact bb); (case aF => exact (fun k_ hk => ⟨Kd.fresh' (Kd.R_lt (rr ((Kd.R_mono (Kd.R_far (p := ⟨gb246, 3, none⟩) (Kd.R_far (p := ⟨gb246, 3, none⟩) (Kd.R_far (p := ⟨gb246, 2, none⟩) (Kd.R_far (p := ⟨gb246, 1, none⟩) (Kd.R_far (p := ⟨gb246, 0, none⟩) (Kd.R_mono HO_11.out (fun k_ hk => (⟨hk, hk.2⟩ : _ ∧ k_ ≠ gb246))) (fun _ hk => hk.2) (.int .i64 ((rd_T30 t230 x16_3).f0))) (fun _ hk => hk.2) (.string ((rd_T30 t230 x16_3).f1))) (fun _ hk => hk.2) (.int .i64 ((rd_T30 t230 x16_3).f2))) (fun _ hk => hk.2) (.int .i64 ((rd_T30 t230 x16_3).f3))) (fun _ hk => hk.2) (.int .i64 (wrap64 ((wrap64 (((rd_T30 t230 x16_3).f3) + (a0.size : Int))) + 1)))) (fun _ h_ => h_.1))))) k_ hk, Kd.fresh' (Kd.R_lt (rr ((Kd.R_mono (Kd.R_far (p := ⟨gb246, 3, none⟩) (Kd.R_far (p := ⟨gb246, 3, none⟩) (Kd.R_far (p := ⟨gb246, 2, none⟩) (Kd.R_far (p := ⟨gb246, 1, none⟩) (Kd.R_far (p := ⟨gb246, 0, none⟩) (Kd.R_mono HO_13.out (fun k_ hk => (⟨hk, hk.2⟩ : _ ∧ k_ ≠ gb246))) (fun _ hk => hk.2) (.int .i64 ((rd_T30 t230 x16_3).f0))) (fun _ hk => hk.2) (.string ((rd_T30 t230 x16_3).f1))) (fun _ hk => hk.2) (.int .i64 ((rd_T30 t230 x16_3).f2))) (fun _ hk => hk.2) (.int .i64 ((rd_T30 t230 x16_3).f3))) (fun _ hk => hk.2) (.int .i64 (wrap64 ((wrap64 (((rd_T30 t230 x16_3).f3) + (a0.size : Int))) + 1)))) (fun _ h_ => h_.1))))) k_ hk, Kd.freshB (g := gb246) (o := .cells #[.int .i64 ((rd_T30 t230 x16_3).f0), .string ((rd_T30 t230 x16_3).f1), .int .i64 ((rd_T30 t230 x16_3).f2), .int .i64 (wrap64 ((wrap64 (((rd_T30 t230 x16_3).f3) + (a0.size : Int))) + 1))] 30 (0, 0)) (by (with_reducible repeat (first | refine blk_drewN ?_ _ | refine blk_drew ?_ | refine blk_alloc ?_ _)); refine blk_put (cs := #[.int .i64 ((rd_T30 t230 x16_3).f0), .string ((rd_T30 t230 x16_3).f1), .int .i64 ((rd_T30 t230 x16_3).f2), .int .i64 ((rd_T30 t230 x16_3).f3)]) ?_ 3 _ rfl; (with_reducible repeat (first | refine blk_drewN ?_ _ | refine blk_drew ?_ | refine blk_alloc ?_ _)); refine blk_put (cs := #[.int .i64 ((rd_T30 t230 x16_3).f0), .string ((rd_T30 t230 x16_3).f1), .int .i64 ((rd_T30 t230 x16_3).f2), .int .i64 0]) ?_ 3 _ rfl; (with_reducible repeat (first | refine blk_drewN ?_ _ | refine blk_drew ?_ | refine blk_alloc ?_ _)); refine blk_put (cs := #[.int .i64 ((rd_T30 t230 x16_3).f0), .string ((rd_T30 t230 x16_3).f1), .int .i64 0, .int .i64 0]) ?_ 2 _ rfl; (with_reducible repeat (first | refine blk_drewN ?_ _ | refine blk_drew ?_ | refine blk_alloc ?_ _)); refine blk_put (cs := #[.int .i64 ((rd_T30 t230 x16_3).f0), .string (⟨#[]⟩ : ByteArray), .int .i64 0, .int .i64 0]) ?_ 1 _ rfl; (with_reducible repeat (first | refine blk_drewN ?_ _ | refine blk_drew ?_ | refine blk_alloc ?_ _)); refine blk_put (cs := #[.int .i64 0, .string (⟨#[]⟩ : ByteArray), .int .i64 0, .int .i64 0]) ?_ 0 _ rfl; (with_reducible repeat (first | refine blk_drewN ?_ _ | refine blk_drew ?_ | refine blk_alloc ?_ _)); exact BK246.out) k_ hk⟩)); (case aO => exact (rr (Kd.R_mono (Kd.R_far (p := ⟨gb246, 3, none⟩) (Kd.R_far (p := ⟨gb246, 3, none⟩) (Kd.R_far (p := ⟨gb246, 2, none⟩) (Kd.R_far (p := ⟨gb246, 1, none⟩) (Kd.R_far (p := ⟨gb246, 0, none⟩) (Kd.R_mono HO_15.out (fun k_ hk => (⟨hk, hk.2⟩ : _ ∧ k_ ≠ gb246))) (fun _ hk => hk.2) (.int .i64 ((rd_T30 t230 x16_3).f0))) (fun _ hk => hk.2) (.string ((rd_T30 t230 x16_3).f1))) (fun _ hk => hk.2) (.int .i64 ((rd_T30 t230 x16_3).f2))) (fun _ hk => hk.2) (.int .i64 ((rd_T30 t230 x16_3).f3))) (fun _ hk => hk.2) (.int .i64 (wrap64 ((wrap64 (((rd_T30 t230 x16_3).f3) + (a0.size : Int))) + 1)))) (fun _ hk => ⟨hk.1.1.1, ⟨hk.1.1.2, hk.1.2⟩⟩)))); (case aS => exact bz); (case aL => have := LMc36.out; omega); intro v248 w40 ho hb hg hat; rw [← Ny247.out] at ho; have n0_ := aS (Kd.R_after (ok := (fun k_ => some k_ ≠ (v237 : Value).ownBlock ∧ k_ ≠ gb246)) (rr (Kd.R_mono (Kd.R_far (p := ⟨gb246, 3, none⟩) (Kd.R_far (p := ⟨gb246, 3, none⟩) (Kd.R_far (p := ⟨gb246, 2, none⟩) (Kd.R_far (p := ⟨gb246, 1, none⟩) (Kd.R_far (p := ⟨gb246, 0, none⟩) (Kd.R_mono HO_11.out (fun k_ hk => (⟨hk, hk.2⟩ : _ ∧ k_ ≠ gb246))) (fun _ hk => hk.2) (.int .i64 ((rd_T30 t230 x16_3).f0))) (fun _ hk => hk.2) (.string ((rd_T30 t230 x16_3).f1))) (fun _ hk => hk.2) (.int .i64 ((rd_T30 t230 x16_3).f2))) (fun _ hk => hk.2) (.int .i64 ((rd_T30 t230 x16_3).f3))) (fun _ hk => hk.2) (.int .i64 (wrap64 ((wrap64 (((rd_T30 t230 x16_3).f3) + (a0.size : Int))) + 1)))) (fun _ hk => ⟨⟨hk.1.1.1, hk.1.2⟩, hk.1.1.2⟩))) hg hat); have n1_ := aS (Kd.R_after (ok := (fun k_ => some k_ ≠ (.slice (some ad245) t230.length co37 : Value).ownBlock ∧ k_ ≠ gb246)) (rr (Kd.R_mono (Kd.R_far (p := ⟨gb246, 3, none⟩) (Kd.R_far (p := ⟨gb246, 3, none⟩) (Kd.R_far (p := ⟨gb246, 2, none⟩) (Kd.R_far (p := ⟨gb246, 1, none⟩) (Kd.R_far (p := ⟨gb246, 0, none⟩) (Kd.R_mono HO_13.out (fun k_ hk => (⟨hk, hk.2⟩ : _ ∧ k_ ≠ gb246))) (fun _ hk => hk.2) (.int .i64 ((rd_T30 t230 x16_3).f0))) (fun _ hk => hk.2) (.string ((rd_T30 t230 x16_3).f1))) (fun _ hk => hk.2) (.int .i64 ((rd_T30 t230 x16_3).f2))) (fun _ hk => hk.2) (.int .i64 ((rd_T30 t230 x16_3).f3))) (fun _ hk => hk.2) (.int .i64 (wrap64 ((wrap64 (((rd_T30 t230 x16_3).f3) + (a0.size : Int))) + 1)))) (fun _ hk => ⟨⟨hk.1.1.1, hk.1.2⟩, hk.1.1.2⟩))) hg hat); have n2_ := aS (blk_grown (g := gb246) (o := .cells #[.int .i64 ((rd_T30 t230 x16_3).f0), .string ((rd_T30 t230 x16_3).f1), .int .i64 ((rd_T30 t230 x16_3).f2), .int .i64 (wrap64 ((wrap64 (((rd_T30 t230 x16_3).f3) + (a0.size : Int))) + 1))] 30 (0, 0)) (by (with_reducible repeat (first | refine blk_drewN ?_ _ | refine blk_drew ?_ | refine blk_alloc ?_ _)); refine blk_put (cs := #[.int .i64 ((rd_T30 t230 x16_3).f0), .string ((rd_T30 t230 x16_3).f1), .int .i64 ((rd_T30 t230 x16_3).f2), .int .i64 ((rd_T30 t230 x16_3).f3)]) ?_ 3 _ rfl; (with_reducible repeat (first | refine blk_drewN ?_ _ | refine blk_drew ?_ | refine blk_alloc ?_ _)); refine blk_put (cs := #[.int .i64 ((rd_T30 t230 x16_3).f0), .string ((rd_T30 t230 x16_3).f1), .int .i64 ((rd_T30 t230 x16_3).f2), .int .i64 0]) ?_ 3 _ rfl; (with_reducible repeat (first | refine blk_drewN ?_ _ | refine blk_drew ?_ | refine blk_alloc ?_ _)); refine blk_put (cs := #[.int .i64 ((rd_T30 t230 x16_3).f0), .string ((rd_T30 t230 x16_3).f1), .int .i64 0, .int .i64 0]) ?_ 2 _ rfl; (with_reducible repeat (first | refine blk_drewN ?_ _ | refine blk_drew ?_ | refine blk_alloc ?_ _)); refine blk_put (cs := #[.int .i64 ((rd_T30 t230 x16_3).f0), .string (⟨#[]⟩ : ByteArray), .int .i64 0, .int .i64 0]) ?_ 1 _ rfl; (with_reducible repeat (first | refine blk_drewN ?_ _ | refine blk_drew ?_ | refine blk_alloc ?_ _)); refine blk_put (cs := #[.int .i64 0, .string (⟨#[]⟩ : ByteArray), .int .i64 0, .int .i64 0]) ?_ 0 _ rfl; (with_reducible repeat (first | refine blk_drewN ?_ _ | refine blk_drew ?_ | refine blk_alloc ?_ _)); exact BK246.out) hg (Kd.R_away HO_15.out (fun _ hk => hk.2))); have n3_ := aS (hb); have n4_ := aS (ho); clear HO_11; clear HO_13; clear BK246; clear HB; clear HO_15; have HO_11 := n0_; have HO_13 := n1_; have BK246 := n2_; have HB := n3_; have HO249 := n4_; clear n0_ n1_ n2_ n3_ n4_; clear ho hb hg hat))
    go_roundg k3
    case measure => have := HJ4.out; have := HJ16.out; have := HK3.out; omega
    case rel => exact ⟨(y247), (wrap64 (x16_3 + 1)), (by first | rfl | (simp; done) | (simp [*]; done)), H', ⟨by have := HJ4.out; have := HJ16.out; have := HK3.out; omega⟩, ⟨by (with_reducible repeat (first | apply Kd.R_alloc | apply Kd.R_drewN | apply Kd.R_drew)); exact Kd.R_mono HO_11.out (fun _ hk => ⟨hk.1.1, hk.2⟩)⟩, ⟨by (with_reducible repeat (first | apply Kd.R_alloc | apply Kd.R_drewN | apply Kd.R_drew)); exact Kd.R_mono HO_13.out (fun _ hk => ⟨hk.1.1, hk.2⟩)⟩, ⟨by (with_reducible repeat (first | apply Kd.R_alloc | apply Kd.R_drewN | apply Kd.R_drew)); exact Kd.R_mono HO249.out (fun _ hk => ⟨hk.1, hk.2.1⟩)⟩, ⟨by repeat (first | (with_reducible first | exact HB.out | apply below_alloc | apply pw_below_drewN | apply below_drew1 | refine below_set ?_ GE246.out) | exact HB.out)⟩⟩ }
    {
    rw [if_neg c36] at H
    exact absurd H (by simp) } }
    {
    rw [if_neg c35] at H
    exact absurd H (by simp) } }
    {
    rw [if_neg c34] at H
    have c34b0 : decide (x16_3 < (t230.length : Int)) = false := decide_eq_false c34
    clear c34
    by_cases c41 : t222 = true
    {
    subst c41
    have H1 : (if t236 = 0 then ((hallmootref04_Same.f k3 t235 x15_3).bind fun t250 => (some t250)) else (none)) = some r := by rw [if_pos rfl] at H; exact H
    clear H
    have H := H1
    clear H1
    by_cases c42 : t236 = 0
    {
    rw [if_pos c42] at H
    have c42b0 : (t236 == 0) = true := beq_iff_eq.mpr c42
    have c42b1 : (t236 != 0) = false := bne_eq_false_iff_eq.mpr c42
    clear c42
    replace H := Option.bind_eq_some_iff.mp H
    obtain ⟨t250, A430, H⟩ := H
    replace H : (some t250) = some r := H
    have A43 := aS A430
    clear A430
    obtain rfl := Option.some.inj H
    obtain ⟨Ao44, co44, eo44⟩ := Kd.R_slice HO_11.out
    subst eo44
    obtain ⟨Ao45, co45, eo45⟩ := Kd.R_slice HO_13.out
    subst eo45
    obtain ⟨Ao46, co46, eo46⟩ := Kd.R_slice HO_15.out
    subst eo46
    go_wp2_with (first | (go_at_call 12; (with_reducible refine (hallmootref04_Same.calls k3 _ _ t235 _ _ x15_3 t250 _ ?side1 ?side2 ?side3 ?side4 A43.out).mono ?_); (case side1 => repeat (first | exact (Kd.R_reads' HO_13.out).2.2 | (with_reducible refine Kd.C_alloc ?_ _) | (with_reducible refine Kd.C_drewN ?_ _) | (with_reducible refine Kd.C_drew ?_))); (case side2 => exact (Kd.R_reads' HO_13.out).2.1); (case side3 => repeat (first | exact (Kd.R_reads' HO_15.out).2.2 | (with_reducible refine Kd.C_alloc ?_ _) | (with_reducible refine Kd.C_drewN ?_ _) | (with_reducible refine Kd.C_drew ?_))); (case side4 => exact (Kd.R_reads' HO_15.out).2.1); rintro e w' ⟨rfl, ⟨nd, rfl⟩⟩))
    go_ret
    exact ⟨by first | rfl | (simp [errW_none, errW_some] <;> rfl) | (simp only [← hji11]; first | rfl | (simp [errW_none, errW_some] <;> rfl)) | (simp [*, errW_none, errW_some] <;> rfl), by repeat (first | (with_reducible first | exact HB.out | apply below_alloc | apply pw_below_drewN | apply below_drew1) | exact HB.out)⟩ }
    {
    rw [if_neg c42] at H
    exact absurd H (by simp) } }
    {
    replace c41 := Bool.eq_false_iff.mpr c41
    subst c41
    have H1 : (none) = some r := by rw [if_neg (show ¬ (false = true) by decide)] at H; exact H
    clear H
    have H := H1
    clear H1
    exact absurd H (by simp) } } } }
   {
   rw [if_neg c29] at H
   exact absurd H (by simp) } } } }
  {
  rw [if_neg c15] at H
  exact absurd H (by simp) } }
  {
  rw [if_neg c14] at H
  exact absurd H (by simp) } }
  {
  rw [if_neg c13] at H
  exact absurd H (by simp) } }
  {
  rw [if_neg c12] at H
  exact absurd H (by simp) } } }

/-- THE ONE PURE STATEMENT of hallmootlaw04_LexConcat: yours. -/
def hallmootlaw04_LexConcat.Pure : Prop := ∀ (a0 : ByteArray) (a1 : ByteArray) (a2 : Int), a0.size ≤ 140737488351232 → a1.size ≤ 140737488351232 → (Lit.int .u8 a2).wf = true → ∃ k, hallmootlaw04_LexConcat.f k a0 a1 a2 = some true
theorem hallmootlaw04_LexConcat.walk (P : hallmootlaw04_LexConcat.Pure) (a0 : ByteArray) (a1 : ByteArray) (a2 : Int) (w : World) (w0 : a0.size ≤ 140737488351232) (w1 : a1.size ≤ 140737488351232) (w2 : (Lit.int .u8 a2).wf = true) (hL : Laid w) : Calls Tryd.prog 7 #[.string a0, .string a1, .int .u8 a2] w fun e w' => e = .returned (.bool true) ∧ Below w.heap.size w w' := by
 obtain ⟨k, h⟩ := P a0 a1 a2 w0 w1 w2
 refine (hallmootlaw04_LexConcat.calls k a0 a1 a2 true w h hL).mono ?_
 rintro e w' ⟨rfl, hd⟩
 exact ⟨rfl, hd⟩

end Go.Proofs.YtphlbjpefnjjnaaDoor.P
