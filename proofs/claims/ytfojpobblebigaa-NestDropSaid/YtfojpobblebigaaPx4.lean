-- Written by pp.py (this session's program over the kit's printer): functions, contracts. Not trusted: Lean checks it.
import Derived.Test.YtfojpobblebigaaPx0
namespace Go.Proofs.Ytfojpobblebigaa.P
open Go.RowKit Go.Proofs.YtfojpobblebigaaW.PrintWords Go.Proofs.YtfojpobblebigaaW.PrintLast Go.Proofs.YtfojpobblebigaaW.PrintMore
attribute [local go_sem] max2_int min2_int max_two min_two max_three min_three max_four min_four   -- for this text's walks alone
set_option linter.unusedVariables false
set_option linter.unusedSimpArgs false

/-! ### hallmootref13_Few: function 34 -/
def hallmootref13_Few.l0 : Nat → List (S62) → Int → Option (Bool)
  | 0, _, _ => none
  | k + 1, x0, x3 => if x3 < (x0.length : Int) then (if 0 ≤ x3 then (if (((rd_T62 x0 x3).f0).length : Int) > 20 then (some false) else (if (((rd_T62 x0 x3).f1).length : Int) > 20 then (some false) else (if (((rd_T62 x0 x3).f2).length : Int) > 20 then (some false) else (hallmootref13_Few.l0 k x0 (wrap64 (x3 + 1)))))) else (none)) else (some true)
def hallmootref13_Few.f (k : Nat) (l0 : List (S62)) : Option (Bool) := if (l0.length : Int) > 12 then (some false) else (hallmootref13_Few.l0 k l0 0)
theorem hallmootref13_Few.mono_l : ∀ k, (∀ y0 y1, LeO (hallmootref13_Few.l0 k y0 y1) (hallmootref13_Few.l0 (k + 1) y0 y1))
  | 0 => fun _ _ r h => by simp [hallmootref13_Few.l0] at h
  | k + 1 => by
    have ih0 := hallmootref13_Few.mono_l k
    · intro y0 y1
      unfold hallmootref13_Few.l0
      repeat' first
      | (with_reducible exact ih0 _ _)
      | (with_reducible exact LeO.refl _)
      | (with_reducible exact LeO.none _)
      | (with_reducible refine LeO.ite ?_ ?_)
      | (with_reducible refine LeO.bind ?_ (fun _ => ?_))
      | exact ih0 _ _
      | exact LeO.none _
      | refine LeO.ite ?_ ?_
      | refine LeO.bind ?_ (fun _ => ?_)
theorem hallmootref13_Few.mono : ∀ a0 k, LeO (hallmootref13_Few.f k a0) (hallmootref13_Few.f (k + 1) a0) := by
 intro a0 k
 have ih0 := hallmootref13_Few.mono_l k
 unfold hallmootref13_Few.f
 repeat' first | (with_reducible exact ih0 _ _) | (with_reducible exact LeO.refl _) | (with_reducible exact LeO.none _) | (with_reducible refine LeO.ite ?_ ?_) | (with_reducible refine LeO.bind ?_ (fun _ => ?_)) | exact ih0 _ _ | exact LeO.none _ | refine LeO.ite ?_ ?_ | refine LeO.bind ?_ (fun _ => ?_)
set_option maxHeartbeats 8000000 in
set_option maxRecDepth 100000 in
theorem hallmootref13_Few.calls (k : Nat) (A0 : Option Addr) (c0 : Nat) (l0 : List (S62)) (r : Bool) (w : World) (hr0 : Kd.C k62 w A0 l0.length l0) (hc0 : l0.length ≤ c0) (h : hallmootref13_Few.f k l0 = some r) : Calls Try.prog 34 #[.slice A0 l0.length c0] w fun e w' => e = .returned (.bool r) ∧ Drawn0 w w' := by
 have HR0 := Aside0.mk hr0
 have HC0 := Aside0.mk hc0
 clear hr0 hc0
 have H : (if (l0.length : Int) > 12 then (some false) else (hallmootref13_Few.l0 k l0 0)) = some r := h
 clear h
 by_cases c2 : (l0.length : Int) > 12
 {
 rw [if_pos c2] at H
 have c2b0 : decide (12 < (l0.length : Int)) = true := decide_eq_true c2
 have c2b1 : decide (12 < l0.length) = true := decide_eq_true (by omega)
 clear c2
 obtain rfl := Option.some.inj H
 go_enter Try.func34, Try.ntmps34
 go_wp2
 go_ret
 exact ⟨by first | rfl | (simp; done) | (simp [*]; done), by repeat (first | exact Drawn0.refl _ | apply Drawn0.step)⟩ }
 {
 rw [if_neg c2] at H
 have c2b0 : decide (12 < (l0.length : Int)) = false := decide_eq_false c2
 have c2b1 : decide (12 < l0.length) = false := decide_eq_false (by omega)
 clear c2
 have H' := Aside0.mk H
 clear H
 go_enter Try.func34, Try.ntmps34
 go_wp2
 go_loopg [3] k (fun kq v3 w' => ∃ (x3_1 : Int), v3 = .int .i64 x3_1 ∧ Aside0 (hallmootref13_Few.l0 kq l0 x3_1 = some r) ∧ Aside0 (kq ≤ k) ∧ Drawn0 w w')
 case atStart => exact ⟨(0), (by first | rfl | (simp; done) | (simp [*]; done)), H', ⟨Nat.le_refl _⟩, by repeat (first | exact Drawn0.refl _ | apply Drawn0.step)⟩
 case round =>
  clear H'
  try clear c2
  try clear c2b0
  try clear c2b1
  try clear p2
  obtain ⟨x3_1, rfl, HA, HK1, ⟨m1, rfl⟩⟩ := hrel
  cases gk with
  | zero => exact absurd HA.out (by simp [hallmootref13_Few.l0])
  | succ k1 => {
  have H := HA.out
  clear HA
  simp only [hallmootref13_Few.l0] at H
  by_cases c3 : x3_1 < (l0.length : Int)
  {
  rw [if_pos c3] at H
  have c3b0 : decide (x3_1 < (l0.length : Int)) = true := decide_eq_true c3
  clear c3
  by_cases c4 : 0 ≤ x3_1
  {
  rw [if_pos c4] at H
  have c4b0 : decide (0 ≤ x3_1) = true := decide_eq_true c4
  clear c4
  by_cases c5 : (((rd_T62 l0 x3_1).f0).length : Int) > 20
  {
  rw [if_pos c5] at H
  have c5b0 : decide (20 < (((rd_T62 l0 x3_1).f0).length : Int)) = true := decide_eq_true c5
  have c5b1 : decide (20 < ((rd_T62 l0 x3_1).f0).length) = true := decide_eq_true (by omega)
  clear c5
  obtain rfl := Option.some.inj H
  have p140 : 0 ≤ (x3_1 : Int) := of_decide_eq_true (by first | (with_reducible assumption) | assumption)
  have q140 : x3_1 < (l0.length : Int) := of_decide_eq_true (by first | (with_reducible assumption) | assumption)
  obtain ⟨ad140, A140_0, c140_0, A140_1, c140_1, A140_2, c140_2, e140, hx140_0, hx140_1, hx140_2, hl140_0, hi140_0, hl140_1, hi140_1, hl140_2, hi140_2⟩ := at_T62 HR0.out x3_1 p140 q140
  cases e140
  have HR140_0 := Aside0.mk hi140_0
  have HC140_0 := Aside0.mk hl140_0
  clear hi140_0 hl140_0
  have HR140_1 := Aside0.mk hi140_1
  have HC140_1 := Aside0.mk hl140_1
  clear hi140_1 hl140_1
  have HR140_2 := Aside0.mk hi140_2
  have HC140_2 := Aside0.mk hl140_2
  clear hi140_2 hl140_2
  replace p140 := eq_true p140
  replace q140 := eq_true q140
  go_wp2
  go_ret
  exact ⟨by first | rfl | (simp; done) | (simp [*]; done), by repeat (first | exact Drawn0.refl _ | apply Drawn0.step)⟩ }
  {
  rw [if_neg c5] at H
  have c5b0 : decide (20 < (((rd_T62 l0 x3_1).f0).length : Int)) = false := decide_eq_false c5
  have c5b1 : decide (20 < ((rd_T62 l0 x3_1).f0).length) = false := decide_eq_false (by omega)
  clear c5
  by_cases c6 : (((rd_T62 l0 x3_1).f1).length : Int) > 20
  {
  rw [if_pos c6] at H
  have c6b0 : decide (20 < (((rd_T62 l0 x3_1).f1).length : Int)) = true := decide_eq_true c6
  have c6b1 : decide (20 < ((rd_T62 l0 x3_1).f1).length) = true := decide_eq_true (by omega)
  clear c6
  obtain rfl := Option.some.inj H
  have p140 : 0 ≤ (x3_1 : Int) := of_decide_eq_true (by first | (with_reducible assumption) | assumption)
  have q140 : x3_1 < (l0.length : Int) := of_decide_eq_true (by first | (with_reducible assumption) | assumption)
  obtain ⟨ad140, A140_0, c140_0, A140_1, c140_1, A140_2, c140_2, e140, hx140_0, hx140_1, hx140_2, hl140_0, hi140_0, hl140_1, hi140_1, hl140_2, hi140_2⟩ := at_T62 HR0.out x3_1 p140 q140
  cases e140
  have HR140_0 := Aside0.mk hi140_0
  have HC140_0 := Aside0.mk hl140_0
  clear hi140_0 hl140_0
  have HR140_1 := Aside0.mk hi140_1
  have HC140_1 := Aside0.mk hl140_1
  clear hi140_1 hl140_1
  have HR140_2 := Aside0.mk hi140_2
  have HC140_2 := Aside0.mk hl140_2
  clear hi140_2 hl140_2
  replace p140 := eq_true p140
  replace q140 := eq_true q140
  have p141 : 0 ≤ (x3_1 : Int) := of_decide_eq_true (by first | (with_reducible assumption) | assumption)
  have q141 : x3_1 < (l0.length : Int) := of_decide_eq_true (by first | (with_reducible assumption) | assumption)
  obtain ⟨ad141, A141_0, c141_0, A141_1, c141_1, A141_2, c141_2, e141, hx141_0, hx141_1, hx141_2, hl141_0, hi141_0, hl141_1, hi141_1, hl141_2, hi141_2⟩ := at_T62 HR0.out x3_1 p141 q141
  obtain rfl : ad140 = ad141 := (by injection e141)
  have HR141_0 := Aside0.mk hi141_0
  have HC141_0 := Aside0.mk hl141_0
  clear hi141_0 hl141_0
  have HR141_1 := Aside0.mk hi141_1
  have HC141_1 := Aside0.mk hl141_1
  clear hi141_1 hl141_1
  have HR141_2 := Aside0.mk hi141_2
  have HC141_2 := Aside0.mk hl141_2
  clear hi141_2 hl141_2
  replace p141 := eq_true p141
  replace q141 := eq_true q141
  have ea_ := Option.some.inj (hx140_0.symm.trans hx141_0)
  injection ea_ with ea_ en_ ec_
  subst ea_
  subst ec_
  clear en_
  have ea_ := Option.some.inj (hx140_1.symm.trans hx141_1)
  injection ea_ with ea_ en_ ec_
  subst ea_
  subst ec_
  clear en_
  have ea_ := Option.some.inj (hx140_2.symm.trans hx141_2)
  injection ea_ with ea_ en_ ec_
  subst ea_
  subst ec_
  clear en_
  go_wp2
  go_ret
  exact ⟨by first | rfl | (simp; done) | (simp [*]; done), by repeat (first | exact Drawn0.refl _ | apply Drawn0.step)⟩ }
  {
  rw [if_neg c6] at H
  have c6b0 : decide (20 < (((rd_T62 l0 x3_1).f1).length : Int)) = false := decide_eq_false c6
  have c6b1 : decide (20 < ((rd_T62 l0 x3_1).f1).length) = false := decide_eq_false (by omega)
  clear c6
  by_cases c7 : (((rd_T62 l0 x3_1).f2).length : Int) > 20
  {
  rw [if_pos c7] at H
  have c7b0 : decide (20 < (((rd_T62 l0 x3_1).f2).length : Int)) = true := decide_eq_true c7
  have c7b1 : decide (20 < ((rd_T62 l0 x3_1).f2).length) = true := decide_eq_true (by omega)
  clear c7
  obtain rfl := Option.some.inj H
  have p140 : 0 ≤ (x3_1 : Int) := of_decide_eq_true (by first | (with_reducible assumption) | assumption)
  have q140 : x3_1 < (l0.length : Int) := of_decide_eq_true (by first | (with_reducible assumption) | assumption)
  obtain ⟨ad140, A140_0, c140_0, A140_1, c140_1, A140_2, c140_2, e140, hx140_0, hx140_1, hx140_2, hl140_0, hi140_0, hl140_1, hi140_1, hl140_2, hi140_2⟩ := at_T62 HR0.out x3_1 p140 q140
  cases e140
  have HR140_0 := Aside0.mk hi140_0
  have HC140_0 := Aside0.mk hl140_0
  clear hi140_0 hl140_0
  have HR140_1 := Aside0.mk hi140_1
  have HC140_1 := Aside0.mk hl140_1
  clear hi140_1 hl140_1
  have HR140_2 := Aside0.mk hi140_2
  have HC140_2 := Aside0.mk hl140_2
  clear hi140_2 hl140_2
  replace p140 := eq_true p140
  replace q140 := eq_true q140
  have p141 : 0 ≤ (x3_1 : Int) := of_decide_eq_true (by first | (with_reducible assumption) | assumption)
  have q141 : x3_1 < (l0.length : Int) := of_decide_eq_true (by first | (with_reducible assumption) | assumption)
  obtain ⟨ad141, A141_0, c141_0, A141_1, c141_1, A141_2, c141_2, e141, hx141_0, hx141_1, hx141_2, hl141_0, hi141_0, hl141_1, hi141_1, hl141_2, hi141_2⟩ := at_T62 HR0.out x3_1 p141 q141
  obtain rfl : ad140 = ad141 := (by injection e141)
  have HR141_0 := Aside0.mk hi141_0
  have HC141_0 := Aside0.mk hl141_0
  clear hi141_0 hl141_0
  have HR141_1 := Aside0.mk hi141_1
  have HC141_1 := Aside0.mk hl141_1
  clear hi141_1 hl141_1
  have HR141_2 := Aside0.mk hi141_2
  have HC141_2 := Aside0.mk hl141_2
  clear hi141_2 hl141_2
  replace p141 := eq_true p141
  replace q141 := eq_true q141
  have ea_ := Option.some.inj (hx140_0.symm.trans hx141_0)
  injection ea_ with ea_ en_ ec_
  subst ea_
  subst ec_
  clear en_
  have ea_ := Option.some.inj (hx140_1.symm.trans hx141_1)
  injection ea_ with ea_ en_ ec_
  subst ea_
  subst ec_
  clear en_
  have ea_ := Option.some.inj (hx140_2.symm.trans hx141_2)
  injection ea_ with ea_ en_ ec_
  subst ea_
  subst ec_
  clear en_
  have p142 : 0 ≤ (x3_1 : Int) := of_decide_eq_true (by first | (with_reducible assumption) | assumption)
  have q142 : x3_1 < (l0.length : Int) := of_decide_eq_true (by first | (with_reducible assumption) | assumption)
  obtain ⟨ad142, A142_0, c142_0, A142_1, c142_1, A142_2, c142_2, e142, hx142_0, hx142_1, hx142_2, hl142_0, hi142_0, hl142_1, hi142_1, hl142_2, hi142_2⟩ := at_T62 HR0.out x3_1 p142 q142
  obtain rfl : ad140 = ad142 := (by injection e142)
  have HR142_0 := Aside0.mk hi142_0
  have HC142_0 := Aside0.mk hl142_0
  clear hi142_0 hl142_0
  have HR142_1 := Aside0.mk hi142_1
  have HC142_1 := Aside0.mk hl142_1
  clear hi142_1 hl142_1
  have HR142_2 := Aside0.mk hi142_2
  have HC142_2 := Aside0.mk hl142_2
  clear hi142_2 hl142_2
  replace p142 := eq_true p142
  replace q142 := eq_true q142
  have ea_ := Option.some.inj (hx140_0.symm.trans hx142_0)
  injection ea_ with ea_ en_ ec_
  subst ea_
  subst ec_
  clear en_
  have ea_ := Option.some.inj (hx140_1.symm.trans hx142_1)
  injection ea_ with ea_ en_ ec_
  subst ea_
  subst ec_
  clear en_
  have ea_ := Option.some.inj (hx140_2.symm.trans hx142_2)
  injection ea_ with ea_ en_ ec_
  subst ea_
  subst ec_
  clear en_
  go_wp2
  go_ret
  exact ⟨by first | rfl | (simp; done) | (simp [*]; done), by repeat (first | exact Drawn0.refl _ | apply Drawn0.step)⟩ }
  {
  rw [if_neg c7] at H
  have c7b0 : decide (20 < (((rd_T62 l0 x3_1).f2).length : Int)) = false := decide_eq_false c7
  have c7b1 : decide (20 < ((rd_T62 l0 x3_1).f2).length) = false := decide_eq_false (by omega)
  clear c7
  have H' := Aside0.mk H
  clear H
  have p140 : 0 ≤ (x3_1 : Int) := of_decide_eq_true (by first | (with_reducible assumption) | assumption)
  have q140 : x3_1 < (l0.length : Int) := of_decide_eq_true (by first | (with_reducible assumption) | assumption)
  obtain ⟨ad140, A140_0, c140_0, A140_1, c140_1, A140_2, c140_2, e140, hx140_0, hx140_1, hx140_2, hl140_0, hi140_0, hl140_1, hi140_1, hl140_2, hi140_2⟩ := at_T62 HR0.out x3_1 p140 q140
  cases e140
  have HR140_0 := Aside0.mk hi140_0
  have HC140_0 := Aside0.mk hl140_0
  clear hi140_0 hl140_0
  have HR140_1 := Aside0.mk hi140_1
  have HC140_1 := Aside0.mk hl140_1
  clear hi140_1 hl140_1
  have HR140_2 := Aside0.mk hi140_2
  have HC140_2 := Aside0.mk hl140_2
  clear hi140_2 hl140_2
  replace p140 := eq_true p140
  replace q140 := eq_true q140
  have p141 : 0 ≤ (x3_1 : Int) := of_decide_eq_true (by first | (with_reducible assumption) | assumption)
  have q141 : x3_1 < (l0.length : Int) := of_decide_eq_true (by first | (with_reducible assumption) | assumption)
  obtain ⟨ad141, A141_0, c141_0, A141_1, c141_1, A141_2, c141_2, e141, hx141_0, hx141_1, hx141_2, hl141_0, hi141_0, hl141_1, hi141_1, hl141_2, hi141_2⟩ := at_T62 HR0.out x3_1 p141 q141
  obtain rfl : ad140 = ad141 := (by injection e141)
  have HR141_0 := Aside0.mk hi141_0
  have HC141_0 := Aside0.mk hl141_0
  clear hi141_0 hl141_0
  have HR141_1 := Aside0.mk hi141_1
  have HC141_1 := Aside0.mk hl141_1
  clear hi141_1 hl141_1
  have HR141_2 := Aside0.mk hi141_2
  have HC141_2 := Aside0.mk hl141_2
  clear hi141_2 hl141_2
  replace p141 := eq_true p141
  replace q141 := eq_true q141
  have ea_ := Option.some.inj (hx140_0.symm.trans hx141_0)
  injection ea_ with ea_ en_ ec_
  subst ea_
  subst ec_
  clear en_
  have ea_ := Option.some.inj (hx140_1.symm.trans hx141_1)
  injection ea_ with ea_ en_ ec_
  subst ea_
  subst ec_
  clear en_
  have ea_ := Option.some.inj (hx140_2.symm.trans hx141_2)
  injection ea_ with ea_ en_ ec_
  subst ea_
  subst ec_
  clear en_
  have p142 : 0 ≤ (x3_1 : Int) := of_decide_eq_true (by first | (with_reducible assumption) | assumption)
  have q142 : x3_1 < (l0.length : Int) := of_decide_eq_true (by first | (with_reducible assumption) | assumption)
  obtain ⟨ad142, A142_0, c142_0, A142_1, c142_1, A142_2, c142_2, e142, hx142_0, hx142_1, hx142_2, hl142_0, hi142_0, hl142_1, hi142_1, hl142_2, hi142_2⟩ := at_T62 HR0.out x3_1 p142 q142
  obtain rfl : ad140 = ad142 := (by injection e142)
  have HR142_0 := Aside0.mk hi142_0
  have HC142_0 := Aside0.mk hl142_0
  clear hi142_0 hl142_0
  have HR142_1 := Aside0.mk hi142_1
  have HC142_1 := Aside0.mk hl142_1
  clear hi142_1 hl142_1
  have HR142_2 := Aside0.mk hi142_2
  have HC142_2 := Aside0.mk hl142_2
  clear hi142_2 hl142_2
  replace p142 := eq_true p142
  replace q142 := eq_true q142
  have ea_ := Option.some.inj (hx140_0.symm.trans hx142_0)
  injection ea_ with ea_ en_ ec_
  subst ea_
  subst ec_
  clear en_
  have ea_ := Option.some.inj (hx140_1.symm.trans hx142_1)
  injection ea_ with ea_ en_ ec_
  subst ea_
  subst ec_
  clear en_
  have ea_ := Option.some.inj (hx140_2.symm.trans hx142_2)
  injection ea_ with ea_ en_ ec_
  subst ea_
  subst ec_
  clear en_
  go_wp2
  go_roundg k1
  case measure => have := HK1.out; omega
  case rel => exact ⟨(wrap64 (x3_1 + 1)), (by first | rfl | (simp; done) | (simp [*]; done)), H', ⟨by have := HK1.out; omega⟩, by repeat (first | exact Drawn0.refl _ | apply Drawn0.step)⟩ } } } }
  {
  rw [if_neg c4] at H
  exact absurd H (by simp) } }
  {
  rw [if_neg c3] at H
  have c3b0 : decide (x3_1 < (l0.length : Int)) = false := decide_eq_false c3
  clear c3
  obtain rfl := Option.some.inj H
  go_wp2
  go_ret
  exact ⟨by first | rfl | (simp; done) | (simp [*]; done), by repeat (first | exact Drawn0.refl _ | apply Drawn0.step)⟩ } } }

end Go.Proofs.Ytfojpobblebigaa.P
