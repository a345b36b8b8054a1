/- Merged: Same says true of a list of levels and itself. | Written by pp.py (this session's program over the kit's printer): functions, contracts. Not trusted: Lean checks it. | Written by pp.py (this session's program over the kit's printer): functions, contracts. Not trusted: Lean checks it. | The reference's Read, Put, Keep, Begin and Find compute what the program's do. | The reference's End (29): three loops of Read, Put, Keep. | The reference's Drop (26). -/
import Derived.Test.YtfojpobblebigaaYM3
import Derived.Test.YtfojpobblebigaaPx13
import Derived.Test.YtfojpobblebigaaPx10
import Derived.Test.YtfojpobblebigaaPx9
import Derived.Test.YtfojpobblebigaaYM0
import Derived.Test.YtfojpobblebigaaPx16
import Derived.Test.YtfojpobblebigaaPx18
import Derived.Test.YtfojpobblebigaaPx20
import Derived.Test.YtfojpobblebigaaYM1
namespace Go.Proofs.Ytfojpobblebigaa.Pure
open Go.RowKit Go.Proofs.Ytfojpobblebigaa.P Go.Proofs.YtfojpobblebigaaW.PrintWords
set_option linter.unusedVariables false

theorem wrapB {i n : Nat} (h : i < n) (hn : n ≤ 9223372036854775807) : wrap64 ((i : Int) + 1) = ((i + 1 : Nat) : Int) := by unfold wrap64; omega
theorem rd48 {l : List S48} {i : Nat} (h : i < l.length) : rd_T48 l (i : Int) = l[i] := by simp [rd_T48, List.getD_eq_getElem?_getD, h]
theorem rd50 {l : List S50} {i : Nat} (h : i < l.length) : rd_T50 l (i : Int) = l[i] := by simp [rd_T50, List.getD_eq_getElem?_getD, h]
theorem value_list (l : List S48) (hl : l.length ≤ 9223372036854775807) (a b c : Int) (hx : ∀ x ∈ l, Ev (fun k => hallmootref13_value.f k x.f0 x.f1 x.f2 x.f3 x.f0 x.f1 x.f2 x.f3) true) (d : Nat) : ∀ i : Nat, i + d = l.length →
    Ev (fun k => hallmootref13_value.l0 k (i : Int) a b c l a b c l) true := by
  induction d with
  | zero =>
    intro i hi
    refine Ev.step (f := fun _ => some true) (fun k => ?_) (Ev.now _)
    rw [hallmootref13_value.l0, if_neg (by omega)]
  | succ d ih =>
    intro i hi
    have hlt : i < l.length := by omega
    refine Ev.step (f := fun k => (hallmootref13_value.f k l[i].f0 l[i].f1 l[i].f2 l[i].f3 l[i].f0 l[i].f1 l[i].f2 l[i].f3).bind fun t => if t = true then hallmootref13_value.l0 k ((i + 1 : Nat) : Int) a b c l a b c l else some false) (fun k => ?_) (Ev.bind (hx _ (List.getElem_mem hlt)) ?_)
    · rw [hallmootref13_value.l0, if_pos (by omega), if_pos (by omega), if_pos (by omega), rd48 hlt, wrapB hlt hl]
    · simp only [if_true]
      exact ih (i + 1) (by omega)
theorem value_same : ∀ {v : S48}, Sm v → Ev (fun k => hallmootref13_value.f k v.f0 v.f1 v.f2 v.f3 v.f0 v.f1 v.f2 v.f3) true := by
  intro v h
  induction h with
  | mk v hl hx ih =>
    refine Ev.step (f := fun k => hallmootref13_value.j0 k false v.f0 v.f1 v.f2 v.f3 v.f0 v.f1 v.f2 v.f3) (fun k => ?_) ?_
    · rw [hallmootref13_value.f, if_pos rfl, if_pos rfl, if_pos rfl, show ((v.f3.length : Int) != (v.f3.length : Int)) = false by simp]
    · refine Ev.step (f := fun k => hallmootref13_value.l0 k ((0 : Nat) : Int) v.f0 v.f1 v.f2 v.f3 v.f0 v.f1 v.f2 v.f3) (fun k => ?_) (value_list v.f3 hl v.f0 v.f1 v.f2 ih v.f3.length 0 (by omega))
      rw [hallmootref13_value.j0, if_neg (by simp)]
      rfl
theorem undos_loop (l : List S50) (hl : l.length ≤ 9223372036854775807) (hs : ∀ u ∈ l, Sm u.f0) (d : Nat) : ∀ i : Nat, i + d = l.length → Ev (fun k => hallmootref13_Undos.l0 k l l (i : Int)) true := by
  induction d with
  | zero =>
    intro i hi
    refine Ev.step (f := fun _ => some true) (fun k => ?_) (Ev.now _)
    rw [hallmootref13_Undos.l0, if_neg (by omega)]
  | succ d ih =>
    intro i hi
    have hlt : i < l.length := by omega
    refine Ev.step (f := fun k => (hallmootref13_value.f k l[i].f0.f0 l[i].f0.f1 l[i].f0.f2 l[i].f0.f3 l[i].f0.f0 l[i].f0.f1 l[i].f0.f2 l[i].f0.f3).bind fun t => if t = true then (if l[i].f1 = l[i].f1 then hallmootref13_Undos.l0 k l l ((i + 1 : Nat) : Int) else some false) else some false) (fun k => ?_) (Ev.bind (value_same (hs _ (List.getElem_mem hlt))) ?_)
    · rw [hallmootref13_Undos.l0, if_pos (by omega), if_pos (by omega), if_pos (by omega), rd50 hlt, wrapB hlt hl]
    · simp only [if_true]
      exact ih (i + 1) (by omega)
theorem undos_ev (l : List S50) (hl : l.length ≤ 9223372036854775807) (hs : ∀ u ∈ l, Sm u.f0) : Ev (fun k => hallmootref13_Undos.f k l l) true := by
  refine Ev.congr (fun k => ?_) (undos_loop l hl hs l.length 0 (by omega))
  unfold hallmootref13_Undos.f
  rw [if_pos rfl]; rfl
theorem seens_loop (l : List S30) (hl : l.length ≤ 9223372036854775807) (d : Nat) : ∀ i : Nat, i + d = l.length → Ev (fun k => hallmootref13_Seens.l0 k l l (i : Int)) true := by
  induction d with
  | zero =>
    intro i hi
    refine Ev.step (f := fun _ => some true) (fun k => ?_) (Ev.now _)
    rw [hallmootref13_Seens.l0, if_neg (by omega)]
  | succ d ih =>
    intro i hi
    have hlt : i < l.length := by omega
    refine Ev.step (f := fun k => hallmootref13_Seens.l0 k l l ((i + 1 : Nat) : Int)) (fun k => ?_) (ih (i + 1) (by omega))
    rw [hallmootref13_Seens.l0, if_pos (by omega), if_pos (by omega), if_pos (by omega), rd30 hlt, if_neg (by simp), wrapB hlt hl]
theorem seens_ev (l : List S30) (hl : l.length ≤ 9223372036854775807) : Ev (fun k => hallmootref13_Seens.f k l l) true := by
  refine Ev.congr (fun k => ?_) (seens_loop l hl l.length 0 (by omega))
  unfold hallmootref13_Seens.f
  rw [if_pos rfl]; rfl
/-- A list of levels of lengths that fit. -/
def Fits (l : List S62) : Prop := l.length ≤ 100000 ∧ ∀ x ∈ l, x.f0.length ≤ 100000 ∧ x.f1.length ≤ 100000 ∧ x.f2.length ≤ 100000 ∧ ∀ u ∈ x.f2, Sm u.f0
theorem same_loop (l : List S62) (h : Fits l) (d : Nat) : ∀ i : Nat, i + d = l.length → Ev (fun k => hallmootref13_Same.l0 k l l (i : Int)) true := by
  induction d with
  | zero =>
    intro i hi
    refine Ev.step (f := fun _ => some true) (fun k => ?_) (Ev.now _)
    rw [hallmootref13_Same.l0, if_neg (by omega)]
  | succ d ih =>
    intro i hi
    have hlt : i < l.length := by omega
    obtain ⟨h0, h1, h2, h3⟩ := h.2 l[i] (List.getElem_mem hlt)
    have e1 := seens_ev l[i].f0 (by omega)
    have e2 := writes_ev l[i].f1 (by omega)
    have e3 := undos_ev l[i].f2 (by omega) h3
    refine Ev.step (f := fun k => (hallmootref13_Seens.f k l[i].f0 l[i].f0).bind fun a => (hallmootref13_Writes.f k l[i].f1 l[i].f1).bind fun b => (hallmootref13_Undos.f k l[i].f2 l[i].f2).bind fun c => if a = true then (if b = true then (if c = true then hallmootref13_Same.l0 k l l ((i + 1 : Nat) : Int) else some false) else some false) else some false) (fun k => ?_) (Ev.bind e1 (Ev.bind e2 (Ev.bind e3 ?_)))
    · rw [hallmootref13_Same.l0, if_pos (by omega), if_pos (by omega), if_pos (by omega), rd62 hlt, wrapB hlt (by have := h.1; omega)]
    · simp only [if_true]
      exact ih (i + 1) (by omega)
theorem same_ev (l : List S62) (h : Fits l) : Ev (fun k => hallmootref13_Same.f k l l) true := by
  refine Ev.congr (fun k => ?_) (same_loop l h l.length 0 (by omega))
  unfold hallmootref13_Same.f
  rw [if_pos rfl]; rfl
end Go.Proofs.Ytfojpobblebigaa.Pure
namespace Go.Proofs.Ytfojpobblebigaa.P
open Go.RowKit Go.Proofs.YtfojpobblebigaaW.PrintWords Go.Proofs.YtfojpobblebigaaW.PrintLast Go.Proofs.YtfojpobblebigaaW.PrintMore
attribute [local go_sem] max2_int min2_int max_two min_two max_three min_three max_four min_four   -- for this text's walks alone
set_option linter.unusedVariables false
set_option linter.unusedSimpArgs false

/-! ### hallmootref13_Read: function 21 -/
def hallmootref13_Read.f (k : Nat) (l0 : List (S62)) (a1_0 : Int) (a1_1 : Int) (a1_2 : Int) : Option ((List (S62))) := if (l0.length : Int) = 0 then (some l0) else (if 0 ≤ (wrap64 ((l0.length : Int) - 1)) then (if (wrap64 ((l0.length : Int) - 1)) < (l0.length : Int) then ((hallmootref13_reads.f k ((rd_T62 l0 (wrap64 ((l0.length : Int) - 1))).f0) ((rd_T62 l0 (wrap64 ((l0.length : Int) - 1))).f1) ((rd_T62 l0 (wrap64 ((l0.length : Int) - 1))).f2) a1_0 a1_1 a1_2).bind fun bt253 => ((hallmootref13_with.f l0 bt253.1 bt253.2.1 bt253.2.2).bind fun t262 => (some t262))) else (none)) else (none))
theorem hallmootref13_Read.mono : ∀ a0 a1 a2 a3 k, LeO (hallmootref13_Read.f k a0 a1 a2 a3) (hallmootref13_Read.f (k + 1) a0 a1 a2 a3) := by
 intro a0 a1 a2 a3 k
 unfold hallmootref13_Read.f
 repeat' first | (with_reducible exact hallmootref13_reads.mono _ _ _ _ _ _ _) | (with_reducible exact LeO.refl _) | (with_reducible exact LeO.none _) | (with_reducible refine LeO.ite ?_ ?_) | (with_reducible refine LeO.bind ?_ (fun _ => ?_)) | exact hallmootref13_reads.mono _ _ _ _ _ _ _ | exact LeO.none _ | refine LeO.ite ?_ ?_ | refine LeO.bind ?_ (fun _ => ?_)
def hallmootref13_Read.T3 : Bool × List (List Nat × List Nat) := (true, [([], []), ([], []), ([], []), ([2], [2]), ([3], [3]), ([1, 4], [1, 4]), ([5], [5]), ([], []), ([6, 7], [6, 7]), ([0, 8, 8], [0, 8]), ([9, 9, 0, 1, 2, 3, 4, 5, 6, 7, 8, 9], [9])])
def hallmootref13_Read.B3 : List Nat := [0, 0, 0, 4, 12, 30, 62, 0, 254, 511, 1023]
theorem hallmootref13_Read.tab3 : rtab .any (opsOf Try.f21 3) = hallmootref13_Read.T3 := by kernel_rfl
theorem hallmootref13_Read.bits3 : waitsOk hallmootref13_Read.T3.2 hallmootref13_Read.B3 = true := by kernel_rfl
set_option maxHeartbeats 8000000 in
set_option maxRecDepth 100000 in
theorem hallmootref13_Read.calls (k : Nat) (P0_ : Nat → Prop) (A0 : Option Addr) (c0 : Nat) (l0 : List (S62)) (a1_0 : Int) (a1_1 : Int) (a1_2 : Int) (r : List (S62)) (w : World) (hs0 : Kd.V k62 62 w w.heap.size (fun k_ => P0_ k_) (.slice A0 l0.length c0) l0) (h : hallmootref13_Read.f k l0 a1_0 a1_1 a1_2 = some r) : Calls Try.prog 21 #[.slice A0 l0.length c0, .agg #[.int .i64 a1_0, .int .i64 a1_1, .int .i64 a1_2]] w fun e w' => ∃ v0_ : Value, e = .returned (v0_) ∧ Kd.V k62 62 w' w.heap.size (fun k_ => (P0_ k_ ∨ w.heap.size ≤ k_)) v0_ r ∧ Below w.heap.size w w' := by
 have hu30 := Try.underlying30
 have hu62 := Try.underlying62
 have HO0 := aS (show Kd.V k62 62 w w.heap.size (fun k_ => (P0_ k_ ∨ w.heap.size ≤ k_)) (.slice A0 l0.length c0) l0 from Kd.V_mono hs0 (fun k_ hk => .inl hk))
 have HB := aS (Below.refl w.heap.size w)
 have H : (if (l0.length : Int) = 0 then (some l0) else (if 0 ≤ (wrap64 ((l0.length : Int) - 1)) then (if (wrap64 ((l0.length : Int) - 1)) < (l0.length : Int) then ((hallmootref13_reads.f k ((rd_T62 l0 (wrap64 ((l0.length : Int) - 1))).f0) ((rd_T62 l0 (wrap64 ((l0.length : Int) - 1))).f1) ((rd_T62 l0 (wrap64 ((l0.length : Int) - 1))).f2) a1_0 a1_1 a1_2).bind fun bt253 => ((hallmootref13_with.f l0 bt253.1 bt253.2.1 bt253.2.2).bind fun t262 => (some t262))) else (none)) else (none))) = some r := h
 clear h
 by_cases c3 : (l0.length : Int) = 0
 {
 rw [if_pos c3] at H
 have c3b0 : ((l0.length : Int) == 0) = true := beq_iff_eq.mpr c3
 have c3b1 : ((l0.length : Int) != 0) = false := bne_eq_false_iff_eq.mpr c3
 clear c3
 obtain rfl := Option.some.inj H
 go_enter Try.func21, Try.ntmps21
 go_wp2_with (first | ((with_reducible refine gate_dst (N := 3) rfl ?_); refine box_event ?hg (N := 3) ?hd (cs := #[.int .i64 a1_0, .int .i64 a1_1, .int .i64 a1_2]) (t := 30) ?hr ?_; (case hd => rfl); (case hg => rfl); (case hr => first | (go_simp; done) | (go_simp; rfl)); intro gb251 hg w4 hbox hb; have n0_ := aS (Kd.V_below (Kd.V_elderB (vv HO0.out) gb251 (Nat.le_of_eq hg.symm)) hb); have n1_ := aS (below_step bb hb); have n2_ := aS (hbox); have n3_ := aS ((by rw [hg]; exact bz : w.heap.size ≤ gb251)); have n4_ := aS ((by rw [hg]; exact bz : w.heap.size ≤ gb251)); clear HO0; clear HB; have HO0 := n0_; have HB := n1_; have BK251 := n2_; have GW251 := n3_; have GE251 := n4_; clear n0_ n1_ n2_ n3_ n4_; clear hb hbox hg))
 go_ret
 exact ⟨_, by first | rfl | (simp [errW_none, errW_some] <;> rfl) | (simp [*, errW_none, errW_some] <;> rfl), by (with_reducible repeat (first | apply Kd.V_alloc | apply Kd.V_drewN | apply Kd.V_drew)); exact Kd.V_mono HO0.out (fun _ hk => hk.1), by repeat (first | (with_reducible first | exact HB.out | apply below_alloc | apply pw_below_drewN | apply below_drew1 | refine below_set ?_ GE251.out) | exact HB.out)⟩ }
 {
 rw [if_neg c3] at H
 have c3b0 : ((l0.length : Int) == 0) = false := beq_eq_false_iff_ne.mpr c3
 have c3b1 : ((l0.length : Int) != 0) = true := bne_iff_ne.mpr c3
 have c3b2 : ¬ (l0 = []) := fun h_ => c3 (by rw [h_]; rfl)
 obtain ⟨ji5, hji5⟩ : ∃ j_ : Int, (wrap64 ((l0.length : Int) - 1)) = j_ := ⟨_, rfl⟩
 replace H : (if 0 ≤ (ji5) then (if (ji5) < (l0.length : Int) then ((hallmootref13_reads.f k ((rd_T62 l0 (ji5)).f0) ((rd_T62 l0 (ji5)).f1) ((rd_T62 l0 (ji5)).f2) a1_0 a1_1 a1_2).bind fun bt253 => ((hallmootref13_with.f l0 bt253.1 bt253.2.1 bt253.2.2).bind fun t262 => (some t262))) else (none)) else (none)) = some r := by first | (rw [hji5] at H; exact H) | (simp only [hji5] at H ⊢; exact H)
 have hji5w : (IntKind.i64.wrap ((l0.length : Int) - 1)) = ji5 := (i64_w _).trans hji5
 by_cases c6 : 0 ≤ (ji5)
 {
 rw [if_pos c6] at H
 have c6b0 : decide (0 ≤ (ji5)) = true := decide_eq_true c6
 clear c6
 by_cases c7 : (ji5) < (l0.length : Int)
 {
 rw [if_pos c7] at H
 have c7b0 : decide ((ji5) < (l0.length : Int)) = true := decide_eq_true c7
 clear c7
 replace H := Option.bind_eq_some_iff.mp H
 obtain ⟨⟨t253, t256, t259⟩, A80, H⟩ := H
 replace H : ((hallmootref13_with.f l0 t253 t256 t259).bind fun t262 => (some t262)) = some r := H
 have A8 := aS A80
 clear A80
 replace H := Option.bind_eq_some_iff.mp H
 obtain ⟨t262, A90, H⟩ := H
 replace H : (some t262) = some r := H
 have A9 := aS A90
 clear A90
 obtain rfl := Option.some.inj H
 go_enter Try.func21, Try.ntmps21
 try go_wp2_with (first | ((with_reducible refine gate_dst (N := 3) rfl ?_); refine box_event ?hg (N := 3) ?hd (cs := #[.int .i64 a1_0, .int .i64 a1_1, .int .i64 a1_2]) (t := 30) ?hr ?_; (case hd => rfl); (case hg => rfl); (case hr => first | (go_simp; done) | (go_simp; rfl)); intro gb251 hg w10 hbox hb; have n0_ := aS (Kd.V_below (Kd.V_elderB (vv HO0.out) gb251 (Nat.le_of_eq hg.symm)) hb); have n1_ := aS (below_step bb hb); have n2_ := aS (hbox); have n3_ := aS ((by rw [hg]; exact bz : w.heap.size ≤ gb251)); have n4_ := aS ((by rw [hg]; exact bz : w.heap.size ≤ gb251)); clear HO0; clear HB; have HO0 := n0_; have HB := n1_; have BK251 := n2_; have GW251 := n3_; have GE251 := n4_; clear n0_ n1_ n2_ n3_ n4_; clear hb hbox hg))
 have n0_ := aS (Kd.V_drew HO0.out)
 have n1_ := aS (blk_drew BK251.out)
 have n2_ := aS (below_drew1 HB.out)
 clear HO0
 clear BK251
 clear HB
 have HO0 := n0_
 have BK251 := n1_
 have HB := n2_
 clear n0_ n1_ n2_
 have p252 : 0 ≤ ((ji5) : Int) := dd
 have q252 : (ji5) < (l0.length : Int) := dd
 obtain ⟨ad252, A252_0, c252_0, A252_1, c252_1, A252_2, c252_2, e252, hx252_0, hx252_1, hx252_2, hl252_0, hi252_0, hl252_1, hi252_1, hl252_2, hi252_2⟩ := at_T62 (Kd.V_reads' HO0.out).2.2 (ji5) p252 q252
 cases e252
 obtain ⟨ce252, hce252, hMe252, hcc252⟩ := Kd.V_get HO0.out z62 (ji5) p252 (by first | exact q252 | exact dd | (have e_ := (Kd.V_reads' HO0.out).1; omega))
 obtain ⟨ua252_0, uc252_0, ua252_1, uc252_1, ua252_2, uc252_2, rfl, ul252_0, ge252_0, ul252_1, ge252_1, ul252_2, ge252_2⟩ := k62_openF hMe252
 have hv252_0 := hcc252 0 _ rfl
 rw [Nat.add_zero] at hv252_0
 replace hv252_0 := Option.some.inj (hv252_0.symm.trans hx252_0)
 injection hv252_0 with hva_ hvn_ hvc_
 rw [hva_] at ge252_0
 rw [hvc_] at ul252_0
 have HL252_0 := aS (show Kd.V k30 30 _ w.heap.size _ _ ((rd_T62 l0 (ji5)).f0) from Kd.V_mk ul252_0 ge252_0)
 clear hva_ hvn_ hvc_ ge252_0 ul252_0
 have hv252_1 := hcc252 1 _ rfl
 rw [add_field _ _ 1 (by omega)] at hv252_1
 replace hv252_1 := Option.some.inj (hv252_1.symm.trans hx252_1)
 injection hv252_1 with hva_ hvn_ hvc_
 rw [hva_] at ge252_1
 rw [hvc_] at ul252_1
 have HL252_1 := aS (show Kd.V k33 33 _ w.heap.size _ _ ((rd_T62 l0 (ji5)).f1) from Kd.V_mk ul252_1 ge252_1)
 clear hva_ hvn_ hvc_ ge252_1 ul252_1
 have hv252_2 := hcc252 2 _ rfl
 rw [add_field _ _ 2 (by omega)] at hv252_2
 replace hv252_2 := Option.some.inj (hv252_2.symm.trans hx252_2)
 injection hv252_2 with hva_ hvn_ hvc_
 rw [hva_] at ge252_2
 rw [hvc_] at ul252_2
 have HL252_2 := aS (show Kd.V k50 50 _ w.heap.size _ _ ((rd_T62 l0 (ji5)).f2) from Kd.V_mk ul252_2 ge252_2)
 clear hva_ hvn_ hvc_ ge252_2 ul252_2
 clear hcc252 hce252
 have HR252_0 := aS hi252_0
 have HC252_0 := aS hl252_0
 clear hi252_0 hl252_0
 have HR252_1 := aS hi252_1
 have HC252_1 := aS hl252_1
 clear hi252_1 hl252_1
 have HR252_2 := aS hi252_2
 have HC252_2 := aS hl252_2
 clear hi252_2 hl252_2
 replace p252 := eq_true p252
 replace q252 := eq_true q252
 refine start_ (n := 11) (S := fun w' => w'.cell? ⟨gb251, 0, none⟩ = some (.int .i64 a1_0) ∧ w'.cell? ⟨gb251, 1, none⟩ = some (.int .i64 a1_1) ∧ w'.cell? ⟨gb251, 2, none⟩ = some (.int .i64 a1_2) ∧ w'.cell? (ad252.add (((ji5)).toNat * 3)) = some (.slice A252_0 ((rd_T62 l0 (ji5)).f0).length c252_0) ∧ w'.cell? ⟨(ad252.add (((ji5)).toNat * 3)).block, (ad252.add (((ji5)).toNat * 3)).off + 1, none⟩ = some (.slice A252_1 ((rd_T62 l0 (ji5)).f1).length c252_1) ∧ w'.cell? ⟨(ad252.add (((ji5)).toNat * 3)).block, (ad252.add (((ji5)).toNat * 3)).off + 2, none⟩ = some (.slice A252_2 ((rd_T62 l0 (ji5)).f2).length c252_2)) (ds := []) #[false, false, false, false, false, false, false, false, false, false, false] (by kernel_rfl) rfl rfl ⟨(blk_cell BK251.out 0).trans rfl, (blk_cell BK251.out 1).trans rfl, (blk_cell BK251.out 2).trans rfl, hx252_0, hx252_1, hx252_2⟩ (fun hHeld => ?_); refine with_tabW hallmootref13_Read.tab3 hallmootref13_Read.bits3 (fun HT_ HW_ => ?_)
 generalize w10.drew = w11 at HO0 BK251 HB HL252_0 HL252_1 HL252_2 HR252_0 HR252_1 HR252_2 hx252_0 hx252_1 hx252_2 hHeld ⊢
 refine pure_ (i := 0) (N := some 9) (v := ?_) (a' := ?_) #[true, false, false, false, false, false, false, false, false, false, false] rfl rfl (any_of HT_.out (by kernel_rfl)) (fun _ _ _ h => h) (Or.inl ⟨by rfl, ?_⟩) ?_ ?_
 rotate_left
 {
 intro w'
 go_simp
 with_reducible rfl }
 rotate_left
 {
 simp only [Act.put, sT, s0, s1, i64_w, i32_w]
 rfl }
 refine pure_ (i := 1) (N := some 10) (v := ?_) (a' := ?_) #[true, true, false, false, false, false, false, false, false, false, false] rfl rfl (any_of HT_.out (by kernel_rfl)) (fun _ _ _ h => h) (Or.inl ⟨by rfl, ?_⟩) ?_ ?_
 rotate_left
 {
 intro w'
 go_simp
 with_reducible rfl }
 rotate_left
 {
 simp only [Act.put, sT, s0, s1, i64_w, i32_w]
 rfl }
 refine pure_ (i := 2) (N := some 11) (v := ?_) (a' := ?_) #[true, true, true, false, false, false, false, false, false, false, false] rfl rfl (any_of HT_.out (by kernel_rfl)) (fun _ _ _ h => h) (Or.inl ⟨by rfl, ?_⟩) ?_ ?_
 rotate_left
 {
 intro w'
 go_simp
 with_reducible rfl }
 rotate_left
 {
 simp only [Act.put, sT, s0, s1, i64_w, i32_w]
 rfl }
 refine pure_ (i := 3) (N := some 12) (v := ?_) (a' := ?_) #[true, true, true, true, false, false, false, false, false, false, false] rfl rfl (any_of HT_.out (by kernel_rfl)) (fun _ _ _ h => h) (Or.inl ⟨by rfl, ?_⟩) ?_ ?_
 rotate_left
 {
 intro w'
 go_simp
 with_reducible rfl }
 rotate_left
 {
 simp only [Act.put, sT, s0, s1, i64_w, i32_w]
 rfl }
 refine pure_ (i := 4) (N := some 13) (v := ?_) (a' := ?_) #[true, true, true, true, true, false, false, false, false, false, false] rfl rfl (any_of HT_.out (by kernel_rfl)) (fun _ _ _ h => h) (Or.inl ⟨by rfl, ?_⟩) ?_ ?_
 rotate_left
 {
 intro w'
 go_simp
 with_reducible rfl }
 rotate_left
 {
 simp only [Act.put, sT, s0, s1, i64_w, i32_w]
 rfl }
 refine pure_ (i := 5) (N := some 14) (v := ?_) (a' := ?_) #[true, true, true, true, true, true, false, false, false, false, false] rfl rfl (any_of HT_.out (by kernel_rfl)) (fun _ _ _ h => h) (Or.inl ⟨by rfl, ?_⟩) ?_ ?_
 rotate_left
 {
 intro w'
 go_simp
 with_reducible rfl }
 rotate_left
 {
 simp only [Act.put, sT, s0, s1, i64_w, i32_w]
 rfl }
 refine take_ (i := 6) (N := some 15) (v := ?_) (a' := ?_) #[true, true, true, true, true, true, true, false, false, false, false] rfl rfl (take_ofW HT_.out HW_.out (by kernel_rfl)) (fun _ _ _ h => h) (Or.inl ⟨by rfl, ?_⟩) hHeld ?_ ?_
 rotate_left
 {
 rintro w' ⟨s0, s1, s2, s3, s4, s5⟩
 go_simp
 with_reducible rfl }
 rotate_left
 {
 simp only [Act.put, sT, s0, s1, i64_w, i32_w]
 rfl }
 refine take_ (i := 7) (N := some 16) (v := ?_) (a' := ?_) #[true, true, true, true, true, true, true, true, false, false, false] rfl rfl (take_ofW HT_.out HW_.out (by kernel_rfl)) (fun _ _ _ h => h) (Or.inl ⟨by rfl, ?_⟩) hHeld ?_ ?_
 rotate_left
 {
 rintro w' ⟨s0, s1, s2, s3, s4, s5⟩
 go_simp
 with_reducible rfl }
 rotate_left
 {
 simp only [Act.put, sT, s0, s1, i64_w, i32_w]
 rfl }
 refine one_ (i := 8) (N := some 17) #[true, true, true, true, true, true, true, true, true, false, false] rfl rfl (one_of HT_.out (by kernel_rfl)) (by decide) (fun K hK => ?_)
 refine goes_ Try.func48 (by kernel_rfl) rfl #[.agg #[.slice A252_0 ((rd_T62 l0 (ji5)).f0).length c252_0, .slice A252_1 ((rd_T62 l0 (ji5)).f1).length c252_1, .slice A252_2 ((rd_T62 l0 (ji5)).f2).length c252_2], .agg #[.int .i64 a1_0, .int .i64 a1_1, .int .i64 a1_2]] (by rfl) rfl rfl (by (try simp only [List.map_toArray, List.map_cons, List.map_nil]); first | done | (simp only [hji5]; rfl) | rfl | (simp only [List.length_drop, List.length_take]; rfl)) ?_
 with_reducible refine (hallmootref13_reads.calls k (fun k_ => ((P0_ k_ ∨ w.heap.size ≤ k_) ∧ k_ ≠ gb251)) _ _ ((rd_T62 l0 (ji5)).f0) (fun k_ => ((P0_ k_ ∨ w.heap.size ≤ k_) ∧ k_ ≠ gb251)) _ _ ((rd_T62 l0 (ji5)).f1) (fun k_ => ((P0_ k_ ∨ w.heap.size ≤ k_) ∧ k_ ≠ gb251)) _ _ ((rd_T62 l0 (ji5)).f2) a1_0 a1_1 a1_2 t253 t256 t259 _ ?side1 ?side2 ?side3 A8.out).mono ?_
 (case side1 => exact HL252_0.out)
 (case side2 => exact HL252_1.out)
 (case side3 => exact HL252_2.out)
 rintro e w12 ⟨v254, v257, v260, rfl, ho0, ho1, ho2, hb⟩
 have HS3_ := (hb.cell (World.block_lt_of_cell? _ _ (hHeld.2.2.2.1))).trans (hHeld.2.2.2.1)
 have HS4_ := (hb.cell (World.block_lt_of_cell? _ _ (hHeld.2.2.2.2.1))).trans (hHeld.2.2.2.2.1)
 have HS5_ := (hb.cell (World.block_lt_of_cell? _ _ (hHeld.2.2.2.2.2))).trans (hHeld.2.2.2.2.2)
 refine ⟨_, rfl, ?_⟩
 have n0_ := aS (Kd.V_below (vv HO0.out) hb)
 have n1_ := aS (Kd.V_below (vv HL252_0.out) hb)
 have n2_ := aS (Kd.V_below (vv HL252_1.out) hb)
 have n3_ := aS (Kd.V_below (vv HL252_2.out) hb)
 have n4_ := aS (Kd.V_lower (Kd.V_mono (ok' := fun k_ => (P0_ k_ ∨ w.heap.size ≤ k_) ∧ k_ ≠ gb251) ho0 (fun k_ hk_ => ⟨Or.elim hk_ (fun hs_ => Or.elim hs_ (fun hs_ => hs_.1) (fun hs_ => Or.elim hs_ (fun hs_ => hs_.1) (fun hs_ => hs_.1))) (fun hn_ => (.inr (Nat.le_trans bz hn_))), Or.elim hk_ (fun hs_ => Or.elim hs_ (fun hs_ => hs_.2) (fun hs_ => Or.elim hs_ (fun hs_ => hs_.2) (fun hs_ => hs_.2))) (fun hn_ => (Kd.freshB (g := gb251) (o := .cells #[.int .i64 a1_0, .int .i64 a1_1, .int .i64 a1_2] 30 (0, 0)) (kk BK251.out) k_ hn_))⟩)) bz)
 have n5_ := aS (Kd.V_lower (Kd.V_mono (ok' := fun k_ => (P0_ k_ ∨ w.heap.size ≤ k_) ∧ k_ ≠ gb251) ho1 (fun k_ hk_ => ⟨Or.elim hk_ (fun hs_ => Or.elim hs_ (fun hs_ => hs_.1) (fun hs_ => Or.elim hs_ (fun hs_ => hs_.1) (fun hs_ => hs_.1))) (fun hn_ => (.inr (Nat.le_trans bz hn_))), Or.elim hk_ (fun hs_ => Or.elim hs_ (fun hs_ => hs_.2) (fun hs_ => Or.elim hs_ (fun hs_ => hs_.2) (fun hs_ => hs_.2))) (fun hn_ => (Kd.freshB (g := gb251) (o := .cells #[.int .i64 a1_0, .int .i64 a1_1, .int .i64 a1_2] 30 (0, 0)) (kk BK251.out) k_ hn_))⟩)) bz)
 have n6_ := aS (Kd.V_lower (Kd.V_mono (ok' := fun k_ => (P0_ k_ ∨ w.heap.size ≤ k_) ∧ k_ ≠ gb251) ho2 (fun k_ hk_ => ⟨Or.elim hk_ (fun hs_ => Or.elim hs_ (fun hs_ => hs_.1) (fun hs_ => Or.elim hs_ (fun hs_ => hs_.1) (fun hs_ => hs_.1))) (fun hn_ => (.inr (Nat.le_trans bz hn_))), Or.elim hk_ (fun hs_ => Or.elim hs_ (fun hs_ => hs_.2) (fun hs_ => Or.elim hs_ (fun hs_ => hs_.2) (fun hs_ => hs_.2))) (fun hn_ => (Kd.freshB (g := gb251) (o := .cells #[.int .i64 a1_0, .int .i64 a1_1, .int .i64 a1_2] 30 (0, 0)) (kk BK251.out) k_ hn_))⟩)) bz)
 have n7_ := aS (blk_below (g := gb251) (o := .cells #[.int .i64 a1_0, .int .i64 a1_1, .int .i64 a1_2] 30 (0, 0)) (kk BK251.out) hb)
 have n8_ := aS (Kd.C_below (by repeat (first | (with_reducible exact HR252_0.out) | (with_reducible refine Kd.C_alloc ?_ _) | (with_reducible refine Kd.C_drewN ?_ _) | (with_reducible refine Kd.C_drew ?_) | exact HR252_0.out)) hb)
 have n9_ := aS (Kd.C_below (by repeat (first | (with_reducible exact HR252_1.out) | (with_reducible refine Kd.C_alloc ?_ _) | (with_reducible refine Kd.C_drewN ?_ _) | (with_reducible refine Kd.C_drew ?_) | exact HR252_1.out)) hb)
 have n10_ := aS (Kd.C_below (by repeat (first | (with_reducible exact HR252_2.out) | (with_reducible refine Kd.C_alloc ?_ _) | (with_reducible refine Kd.C_drewN ?_ _) | (with_reducible refine Kd.C_drew ?_) | exact HR252_2.out)) hb)
 have n11_ := aS (below_step bb hb)
 clear HO0
 clear HL252_0
 clear HL252_1
 clear HL252_2
 clear BK251
 clear HR252_0
 clear HR252_1
 clear HR252_2
 clear HB
 have HO0 := n0_
 have HL252_0 := n1_
 have HL252_1 := n2_
 have HL252_2 := n3_
 have HO255 := n4_
 have HO258 := n5_
 have HO261 := n6_
 have BK251 := n7_
 have HR252_0 := n8_
 have HR252_1 := n9_
 have HR252_2 := n10_
 have HB := n11_
 clear n0_ n1_ n2_ n3_ n4_ n5_ n6_ n7_ n8_ n9_ n10_ n11_
 (try clear hb)
 (try clear hb2)
 (try clear hk)
 (try clear hi)
 (try clear ho0)
 (try clear ho1)
 (try clear ho2)
 obtain ⟨Ao13, co13, eo13⟩ := Kd.V_slice HO255.out
 (first | subst eo13 | (injection eo13 with f1_ f2_ f3_; have f4_ := f1_.symm; have f5_ := f3_.symm; clear f1_ f2_ f3_; subst f4_; subst f5_))
 obtain ⟨Ao14, co14, eo14⟩ := Kd.V_slice HO258.out
 (first | subst eo14 | (injection eo14 with f1_ f2_ f3_; have f4_ := f1_.symm; have f5_ := f3_.symm; clear f1_ f2_ f3_; subst f4_; subst f5_))
 obtain ⟨Ao15, co15, eo15⟩ := Kd.V_slice HO261.out
 (first | subst eo15 | (injection eo15 with f1_ f2_ f3_; have f4_ := f1_.symm; have f5_ := f3_.symm; clear f1_ f2_ f3_; subst f4_; subst f5_))
 refine hK.out _ _ ⟨(blk_cell BK251.out 0).trans rfl, (blk_cell BK251.out 1).trans rfl, (blk_cell BK251.out 2).trans rfl, HS3_, HS4_, HS5_⟩ (fun hHeld => ?_)
 clear hK K
 refine norm_ (a' := ?_) ?_ ?_
 rotate_left
 {
 show Act.put _ (some 17) _ = _
 simp only [Act.put, sT, s0, s1, i64_w, i32_w]
 rfl }
 refine one_ (i := 9) (N := some 18) #[true, true, true, true, true, true, true, true, true, true, false] rfl rfl (one_of HT_.out (by kernel_rfl)) (by decide) (fun K hK => ?_)
 refine goes_ Try.func47 (by kernel_rfl) rfl #[.slice (some ad252) l0.length c0, .agg #[.slice Ao13 t253.length co13, .slice Ao14 t256.length co14, .slice Ao15 t259.length co15]] (by rfl) rfl rfl (by (try simp only [List.map_toArray, List.map_cons, List.map_nil]); first | done | rfl | (simp only [List.length_drop, List.length_take]; rfl)) ?_
 with_reducible refine (hallmootref13_with.calls (fun k_ => ((P0_ k_ ∨ w.heap.size ≤ k_) ∧ k_ ≠ gb251)) _ _ l0 (fun k_ => ((P0_ k_ ∨ w.heap.size ≤ k_) ∧ k_ ≠ gb251)) _ _ t253 (fun k_ => ((P0_ k_ ∨ w.heap.size ≤ k_) ∧ k_ ≠ gb251)) _ _ t256 (fun k_ => ((P0_ k_ ∨ w.heap.size ≤ k_) ∧ k_ ≠ gb251)) _ _ t259 t262 _ ?side1 ?side2 ?side3 ?side4 A9.out).mono ?_
 (case side1 => exact HO0.out)
 (case side2 => exact HO255.out)
 (case side3 => exact HO258.out)
 (case side4 => exact HO261.out)
 rintro e w16 ⟨v263, rfl, ho0, hb⟩
 have HS3_ := (hb.cell (World.block_lt_of_cell? _ _ (hHeld.2.2.2.1))).trans (hHeld.2.2.2.1)
 have HS4_ := (hb.cell (World.block_lt_of_cell? _ _ (hHeld.2.2.2.2.1))).trans (hHeld.2.2.2.2.1)
 have HS5_ := (hb.cell (World.block_lt_of_cell? _ _ (hHeld.2.2.2.2.2))).trans (hHeld.2.2.2.2.2)
 refine ⟨_, rfl, ?_⟩
 have n0_ := aS (Kd.V_elder' (vv HO0.out) (Kd.N_base ho0) hb)
 have n1_ := aS (Kd.V_elder' (vv HL252_0.out) (Kd.N_base ho0) hb)
 have n2_ := aS (Kd.V_elder' (vv HL252_1.out) (Kd.N_base ho0) hb)
 have n3_ := aS (Kd.V_elder' (vv HL252_2.out) (Kd.N_base ho0) hb)
 have n4_ := aS (Kd.V_elder' (vv HO255.out) (Kd.N_base ho0) hb)
 have n5_ := aS (Kd.V_elder' (vv HO258.out) (Kd.N_base ho0) hb)
 have n6_ := aS (Kd.V_elder' (vv HO261.out) (Kd.N_base ho0) hb)
 have n7_ := aS (Kd.N_lower (Kd.N_mono (ok' := fun k_ => (P0_ k_ ∨ w.heap.size ≤ k_) ∧ k_ ≠ gb251) ho0 (fun k_ hk_ => ⟨Or.elim hk_ (fun hs_ => Or.elim hs_ (fun hs_ => hs_.1) (fun hs_ => Or.elim hs_ (fun hs_ => hs_.1) (fun hs_ => Or.elim hs_ (fun hs_ => hs_.1) (fun hs_ => hs_.1)))) (fun hn_ => (.inr (Nat.le_trans bz hn_))), Or.elim hk_ (fun hs_ => Or.elim hs_ (fun hs_ => hs_.2) (fun hs_ => Or.elim hs_ (fun hs_ => hs_.2) (fun hs_ => Or.elim hs_ (fun hs_ => hs_.2) (fun hs_ => hs_.2)))) (fun hn_ => (Kd.freshB (g := gb251) (o := .cells #[.int .i64 a1_0, .int .i64 a1_1, .int .i64 a1_2] 30 (0, 0)) (kk BK251.out) k_ hn_))⟩)) bz)
 have n8_ := aS (blk_below (g := gb251) (o := .cells #[.int .i64 a1_0, .int .i64 a1_1, .int .i64 a1_2] 30 (0, 0)) (kk BK251.out) hb)
 have n9_ := aS (Kd.C_below (by repeat (first | (with_reducible exact HR252_0.out) | (with_reducible refine Kd.C_alloc ?_ _) | (with_reducible refine Kd.C_drewN ?_ _) | (with_reducible refine Kd.C_drew ?_) | exact HR252_0.out)) hb)
 have n10_ := aS (Kd.C_below (by repeat (first | (with_reducible exact HR252_1.out) | (with_reducible refine Kd.C_alloc ?_ _) | (with_reducible refine Kd.C_drewN ?_ _) | (with_reducible refine Kd.C_drew ?_) | exact HR252_1.out)) hb)
 have n11_ := aS (Kd.C_below (by repeat (first | (with_reducible exact HR252_2.out) | (with_reducible refine Kd.C_alloc ?_ _) | (with_reducible refine Kd.C_drewN ?_ _) | (with_reducible refine Kd.C_drew ?_) | exact HR252_2.out)) hb)
 have n12_ := aS (below_step bb hb)
 clear HO0
 clear HL252_0
 clear HL252_1
 clear HL252_2
 clear HO255
 clear HO258
 clear HO261
 clear BK251
 clear HR252_0
 clear HR252_1
 clear HR252_2
 clear HB
 have HO0 := n0_
 have HL252_0 := n1_
 have HL252_1 := n2_
 have HL252_2 := n3_
 have HO255 := n4_
 have HO258 := n5_
 have HO261 := n6_
 have HO264 := n7_
 have BK251 := n8_
 have HR252_0 := n9_
 have HR252_1 := n10_
 have HR252_2 := n11_
 have HB := n12_
 clear n0_ n1_ n2_ n3_ n4_ n5_ n6_ n7_ n8_ n9_ n10_ n11_ n12_
 (try clear hb)
 (try clear hb2)
 (try clear hk)
 (try clear hi)
 (try clear ho0)
 refine hK.out _ _ ⟨(blk_cell BK251.out 0).trans rfl, (blk_cell BK251.out 1).trans rfl, (blk_cell BK251.out 2).trans rfl, HS3_, HS4_, HS5_⟩ (fun hHeld => ?_)
 clear hK K
 refine norm_ (a' := ?_) ?_ ?_
 rotate_left
 {
 show Act.put _ (some 18) _ = _
 simp only [Act.put, sT, s0, s1, i64_w, i32_w]
 rfl }
 refine pure_ (i := 10) (N := some 4) (v := ?_) (a' := ?_) #[true, true, true, true, true, true, true, true, true, true, true] rfl rfl (any_of HT_.out (by kernel_rfl)) (fun _ _ _ h => h) (Or.inl ⟨by rfl, ?_⟩) ?_ ?_
 rotate_left
 {
 intro w'
 go_simp
 with_reducible rfl }
 rotate_left
 {
 simp only [Act.put, sT, s0, s1, i64_w, i32_w]
 rfl }
 refine done_ (done_of HT_.out (by kernel_rfl)) ?_
 try go_wp2
 go_ret
 exact ⟨_, by first | rfl | (simp [errW_none, errW_some] <;> rfl) | (simp only [← hji5]; first | rfl | (simp [errW_none, errW_some] <;> rfl)) | (simp [*, errW_none, errW_some] <;> rfl), Kd.N_V (by (with_reducible repeat (first | apply Kd.N_alloc | apply Kd.N_drewN | apply Kd.N_drew)); exact Kd.N_mono HO264.out (fun _ hk => hk.1)), by repeat (first | (with_reducible first | exact HB.out | apply below_alloc | apply pw_below_drewN | apply below_drew1 | refine below_set ?_ GE251.out) | exact HB.out)⟩ }
 {
 rw [if_neg c7] at H
 exact absurd H (by simp) } }
 {
 rw [if_neg c6] at H
 exact absurd H (by simp) } }

end Go.Proofs.Ytfojpobblebigaa.P
namespace Go.Proofs.Ytfojpobblebigaa.P
open Go.RowKit Go.Proofs.YtfojpobblebigaaW.PrintWords Go.Proofs.YtfojpobblebigaaW.PrintLast Go.Proofs.YtfojpobblebigaaW.PrintMore
attribute [local go_sem] max2_int min2_int max_two min_two max_three min_three max_four min_four   -- for this text's walks alone
set_option linter.unusedVariables false
set_option linter.unusedSimpArgs false

/-! ### hallmootref13_Put: function 22 -/
def hallmootref13_Put.f (k : Nat) (l0 : List (S62)) (a1_0 : Int) (a1_1 : Int) : Option ((List (S62))) := if (l0.length : Int) = 0 then (some l0) else (if 0 ≤ (wrap64 ((l0.length : Int) - 1)) then (if (wrap64 ((l0.length : Int) - 1)) < (l0.length : Int) then ((hallmootref13_puts.f k ((rd_T62 l0 (wrap64 ((l0.length : Int) - 1))).f0) ((rd_T62 l0 (wrap64 ((l0.length : Int) - 1))).f1) ((rd_T62 l0 (wrap64 ((l0.length : Int) - 1))).f2) a1_0 a1_1).bind fun bt297 => ((hallmootref13_with.f l0 bt297.1 bt297.2.1 bt297.2.2).bind fun t306 => (some t306))) else (none)) else (none))
theorem hallmootref13_Put.mono : ∀ a0 a1 a2 k, LeO (hallmootref13_Put.f k a0 a1 a2) (hallmootref13_Put.f (k + 1) a0 a1 a2) := by
 intro a0 a1 a2 k
 unfold hallmootref13_Put.f
 repeat' first | (with_reducible exact hallmootref13_puts.mono _ _ _ _ _ _) | (with_reducible exact LeO.refl _) | (with_reducible exact LeO.none _) | (with_reducible refine LeO.ite ?_ ?_) | (with_reducible refine LeO.bind ?_ (fun _ => ?_)) | exact hallmootref13_puts.mono _ _ _ _ _ _ | exact LeO.none _ | refine LeO.ite ?_ ?_ | refine LeO.bind ?_ (fun _ => ?_)
def hallmootref13_Put.T3 : Bool × List (List Nat × List Nat) := (true, [([], []), ([], []), ([], []), ([2], [2]), ([3], [3]), ([1, 4], [1, 4]), ([5], [5]), ([], []), ([6, 7], [6, 7]), ([0, 8, 8], [0, 8]), ([9, 9, 0, 1, 2, 3, 4, 5, 6, 7, 8, 9], [9])])
def hallmootref13_Put.B3 : List Nat := [0, 0, 0, 4, 12, 30, 62, 0, 254, 511, 1023]
theorem hallmootref13_Put.tab3 : rtab .any (opsOf Try.f22 3) = hallmootref13_Put.T3 := by kernel_rfl
theorem hallmootref13_Put.bits3 : waitsOk hallmootref13_Put.T3.2 hallmootref13_Put.B3 = true := by kernel_rfl
set_option maxHeartbeats 8000000 in
set_option maxRecDepth 100000 in
theorem hallmootref13_Put.calls (k : Nat) (P0_ : Nat → Prop) (A0 : Option Addr) (c0 : Nat) (l0 : List (S62)) (a1_0 : Int) (a1_1 : Int) (r : List (S62)) (w : World) (hs0 : Kd.V k62 62 w w.heap.size (fun k_ => P0_ k_) (.slice A0 l0.length c0) l0) (h : hallmootref13_Put.f k l0 a1_0 a1_1 = some r) : Calls Try.prog 22 #[.slice A0 l0.length c0, .agg #[.int .i64 a1_0, .int .i64 a1_1]] w fun e w' => ∃ v0_ : Value, e = .returned (v0_) ∧ Kd.V k62 62 w' w.heap.size (fun k_ => (P0_ k_ ∨ w.heap.size ≤ k_)) v0_ r ∧ Below w.heap.size w w' := by
 have hu33 := Try.underlying33
 have hu62 := Try.underlying62
 have HO0 := aS (show Kd.V k62 62 w w.heap.size (fun k_ => (P0_ k_ ∨ w.heap.size ≤ k_)) (.slice A0 l0.length c0) l0 from Kd.V_mono hs0 (fun k_ hk => .inl hk))
 have HB := aS (Below.refl w.heap.size w)
 have H : (if (l0.length : Int) = 0 then (some l0) else (if 0 ≤ (wrap64 ((l0.length : Int) - 1)) then (if (wrap64 ((l0.length : Int) - 1)) < (l0.length : Int) then ((hallmootref13_puts.f k ((rd_T62 l0 (wrap64 ((l0.length : Int) - 1))).f0) ((rd_T62 l0 (wrap64 ((l0.length : Int) - 1))).f1) ((rd_T62 l0 (wrap64 ((l0.length : Int) - 1))).f2) a1_0 a1_1).bind fun bt297 => ((hallmootref13_with.f l0 bt297.1 bt297.2.1 bt297.2.2).bind fun t306 => (some t306))) else (none)) else (none))) = some r := h
 clear h
 by_cases c3 : (l0.length : Int) = 0
 {
 rw [if_pos c3] at H
 have c3b0 : ((l0.length : Int) == 0) = true := beq_iff_eq.mpr c3
 have c3b1 : ((l0.length : Int) != 0) = false := bne_eq_false_iff_eq.mpr c3
 clear c3
 obtain rfl := Option.some.inj H
 go_enter Try.func22, Try.ntmps22
 go_wp2_with (first | ((with_reducible refine gate_dst (N := 3) rfl ?_); refine box_event ?hg (N := 3) ?hd (cs := #[.int .i64 a1_0, .int .i64 a1_1]) (t := 33) ?hr ?_; (case hd => rfl); (case hg => rfl); (case hr => first | (go_simp; done) | (go_simp; rfl)); intro gb295 hg w4 hbox hb; have n0_ := aS (Kd.V_below (Kd.V_elderB (vv HO0.out) gb295 (Nat.le_of_eq hg.symm)) hb); have n1_ := aS (below_step bb hb); have n2_ := aS (hbox); have n3_ := aS ((by rw [hg]; exact bz : w.heap.size ≤ gb295)); have n4_ := aS ((by rw [hg]; exact bz : w.heap.size ≤ gb295)); clear HO0; clear HB; have HO0 := n0_; have HB := n1_; have BK295 := n2_; have GW295 := n3_; have GE295 := n4_; clear n0_ n1_ n2_ n3_ n4_; clear hb hbox hg))
 go_ret
 exact ⟨_, by first | rfl | (simp [errW_none, errW_some] <;> rfl) | (simp [*, errW_none, errW_some] <;> rfl), by (with_reducible repeat (first | apply Kd.V_alloc | apply Kd.V_drewN | apply Kd.V_drew)); exact Kd.V_mono HO0.out (fun _ hk => hk.1), by repeat (first | (with_reducible first | exact HB.out | apply below_alloc | apply pw_below_drewN | apply below_drew1 | refine below_set ?_ GE295.out) | exact HB.out)⟩ }
 {
 rw [if_neg c3] at H
 have c3b0 : ((l0.length : Int) == 0) = false := beq_eq_false_iff_ne.mpr c3
 have c3b1 : ((l0.length : Int) != 0) = true := bne_iff_ne.mpr c3
 have c3b2 : ¬ (l0 = []) := fun h_ => c3 (by rw [h_]; rfl)
 obtain ⟨ji5, hji5⟩ : ∃ j_ : Int, (wrap64 ((l0.length : Int) - 1)) = j_ := ⟨_, rfl⟩
 replace H : (if 0 ≤ (ji5) then (if (ji5) < (l0.length : Int) then ((hallmootref13_puts.f k ((rd_T62 l0 (ji5)).f0) ((rd_T62 l0 (ji5)).f1) ((rd_T62 l0 (ji5)).f2) a1_0 a1_1).bind fun bt297 => ((hallmootref13_with.f l0 bt297.1 bt297.2.1 bt297.2.2).bind fun t306 => (some t306))) else (none)) else (none)) = some r := by first | (rw [hji5] at H; exact H) | (simp only [hji5] at H ⊢; exact H)
 have hji5w : (IntKind.i64.wrap ((l0.length : Int) - 1)) = ji5 := (i64_w _).trans hji5
 by_cases c6 : 0 ≤ (ji5)
 {
 rw [if_pos c6] at H
 have c6b0 : decide (0 ≤ (ji5)) = true := decide_eq_true c6
 clear c6
 by_cases c7 : (ji5) < (l0.length : Int)
 {
 rw [if_pos c7] at H
 have c7b0 : decide ((ji5) < (l0.length : Int)) = true := decide_eq_true c7
 clear c7
 replace H := Option.bind_eq_some_iff.mp H
 obtain ⟨⟨t297, t300, t303⟩, A80, H⟩ := H
 replace H : ((hallmootref13_with.f l0 t297 t300 t303).bind fun t306 => (some t306)) = some r := H
 have A8 := aS A80
 clear A80
 replace H := Option.bind_eq_some_iff.mp H
 obtain ⟨t306, A90, H⟩ := H
 replace H : (some t306) = some r := H
 have A9 := aS A90
 clear A90
 obtain rfl := Option.some.inj H
 go_enter Try.func22, Try.ntmps22
 try go_wp2_with (first | ((with_reducible refine gate_dst (N := 3) rfl ?_); refine box_event ?hg (N := 3) ?hd (cs := #[.int .i64 a1_0, .int .i64 a1_1]) (t := 33) ?hr ?_; (case hd => rfl); (case hg => rfl); (case hr => first | (go_simp; done) | (go_simp; rfl)); intro gb295 hg w10 hbox hb; have n0_ := aS (Kd.V_below (Kd.V_elderB (vv HO0.out) gb295 (Nat.le_of_eq hg.symm)) hb); have n1_ := aS (below_step bb hb); have n2_ := aS (hbox); have n3_ := aS ((by rw [hg]; exact bz : w.heap.size ≤ gb295)); have n4_ := aS ((by rw [hg]; exact bz : w.heap.size ≤ gb295)); clear HO0; clear HB; have HO0 := n0_; have HB := n1_; have BK295 := n2_; have GW295 := n3_; have GE295 := n4_; clear n0_ n1_ n2_ n3_ n4_; clear hb hbox hg))
 have n0_ := aS (Kd.V_drew HO0.out)
 have n1_ := aS (blk_drew BK295.out)
 have n2_ := aS (below_drew1 HB.out)
 clear HO0
 clear BK295
 clear HB
 have HO0 := n0_
 have BK295 := n1_
 have HB := n2_
 clear n0_ n1_ n2_
 have p296 : 0 ≤ ((ji5) : Int) := dd
 have q296 : (ji5) < (l0.length : Int) := dd
 obtain ⟨ad296, A296_0, c296_0, A296_1, c296_1, A296_2, c296_2, e296, hx296_0, hx296_1, hx296_2, hl296_0, hi296_0, hl296_1, hi296_1, hl296_2, hi296_2⟩ := at_T62 (Kd.V_reads' HO0.out).2.2 (ji5) p296 q296
 cases e296
 obtain ⟨ce296, hce296, hMe296, hcc296⟩ := Kd.V_get HO0.out z62 (ji5) p296 (by first | exact q296 | exact dd | (have e_ := (Kd.V_reads' HO0.out).1; omega))
 obtain ⟨ua296_0, uc296_0, ua296_1, uc296_1, ua296_2, uc296_2, rfl, ul296_0, ge296_0, ul296_1, ge296_1, ul296_2, ge296_2⟩ := k62_openF hMe296
 have hv296_0 := hcc296 0 _ rfl
 rw [Nat.add_zero] at hv296_0
 replace hv296_0 := Option.some.inj (hv296_0.symm.trans hx296_0)
 injection hv296_0 with hva_ hvn_ hvc_
 rw [hva_] at ge296_0
 rw [hvc_] at ul296_0
 have HL296_0 := aS (show Kd.V k30 30 _ w.heap.size _ _ ((rd_T62 l0 (ji5)).f0) from Kd.V_mk ul296_0 ge296_0)
 clear hva_ hvn_ hvc_ ge296_0 ul296_0
 have hv296_1 := hcc296 1 _ rfl
 rw [add_field _ _ 1 (by omega)] at hv296_1
 replace hv296_1 := Option.some.inj (hv296_1.symm.trans hx296_1)
 injection hv296_1 with hva_ hvn_ hvc_
 rw [hva_] at ge296_1
 rw [hvc_] at ul296_1
 have HL296_1 := aS (show Kd.V k33 33 _ w.heap.size _ _ ((rd_T62 l0 (ji5)).f1) from Kd.V_mk ul296_1 ge296_1)
 clear hva_ hvn_ hvc_ ge296_1 ul296_1
 have hv296_2 := hcc296 2 _ rfl
 rw [add_field _ _ 2 (by omega)] at hv296_2
 replace hv296_2 := Option.some.inj (hv296_2.symm.trans hx296_2)
 injection hv296_2 with hva_ hvn_ hvc_
 rw [hva_] at ge296_2
 rw [hvc_] at ul296_2
 have HL296_2 := aS (show Kd.V k50 50 _ w.heap.size _ _ ((rd_T62 l0 (ji5)).f2) from Kd.V_mk ul296_2 ge296_2)
 clear hva_ hvn_ hvc_ ge296_2 ul296_2
 clear hcc296 hce296
 have HR296_0 := aS hi296_0
 have HC296_0 := aS hl296_0
 clear hi296_0 hl296_0
 have HR296_1 := aS hi296_1
 have HC296_1 := aS hl296_1
 clear hi296_1 hl296_1
 have HR296_2 := aS hi296_2
 have HC296_2 := aS hl296_2
 clear hi296_2 hl296_2
 replace p296 := eq_true p296
 replace q296 := eq_true q296
 refine start_ (n := 11) (S := fun w' => w'.cell? ⟨gb295, 0, none⟩ = some (.int .i64 a1_0) ∧ w'.cell? ⟨gb295, 1, none⟩ = some (.int .i64 a1_1) ∧ w'.cell? (ad296.add (((ji5)).toNat * 3)) = some (.slice A296_0 ((rd_T62 l0 (ji5)).f0).length c296_0) ∧ w'.cell? ⟨(ad296.add (((ji5)).toNat * 3)).block, (ad296.add (((ji5)).toNat * 3)).off + 1, none⟩ = some (.slice A296_1 ((rd_T62 l0 (ji5)).f1).length c296_1) ∧ w'.cell? ⟨(ad296.add (((ji5)).toNat * 3)).block, (ad296.add (((ji5)).toNat * 3)).off + 2, none⟩ = some (.slice A296_2 ((rd_T62 l0 (ji5)).f2).length c296_2)) (ds := []) #[false, false, false, false, false, false, false, false, false, false, false] (by kernel_rfl) rfl rfl ⟨(blk_cell BK295.out 0).trans rfl, (blk_cell BK295.out 1).trans rfl, hx296_0, hx296_1, hx296_2⟩ (fun hHeld => ?_); refine with_tabW hallmootref13_Put.tab3 hallmootref13_Put.bits3 (fun HT_ HW_ => ?_)
 generalize w10.drew = w11 at HO0 BK295 HB HL296_0 HL296_1 HL296_2 HR296_0 HR296_1 HR296_2 hx296_0 hx296_1 hx296_2 hHeld ⊢
 refine pure_ (i := 0) (N := some 9) (v := ?_) (a' := ?_) #[true, false, false, false, false, false, false, false, false, false, false] rfl rfl (any_of HT_.out (by kernel_rfl)) (fun _ _ _ h => h) (Or.inl ⟨by rfl, ?_⟩) ?_ ?_
 rotate_left
 {
 intro w'
 go_simp
 with_reducible rfl }
 rotate_left
 {
 simp only [Act.put, sT, s0, s1, i64_w, i32_w]
 rfl }
 refine pure_ (i := 1) (N := some 10) (v := ?_) (a' := ?_) #[true, true, false, false, false, false, false, false, false, false, false] rfl rfl (any_of HT_.out (by kernel_rfl)) (fun _ _ _ h => h) (Or.inl ⟨by rfl, ?_⟩) ?_ ?_
 rotate_left
 {
 intro w'
 go_simp
 with_reducible rfl }
 rotate_left
 {
 simp only [Act.put, sT, s0, s1, i64_w, i32_w]
 rfl }
 refine pure_ (i := 2) (N := some 11) (v := ?_) (a' := ?_) #[true, true, true, false, false, false, false, false, false, false, false] rfl rfl (any_of HT_.out (by kernel_rfl)) (fun _ _ _ h => h) (Or.inl ⟨by rfl, ?_⟩) ?_ ?_
 rotate_left
 {
 intro w'
 go_simp
 with_reducible rfl }
 rotate_left
 {
 simp only [Act.put, sT, s0, s1, i64_w, i32_w]
 rfl }
 refine pure_ (i := 3) (N := some 12) (v := ?_) (a' := ?_) #[true, true, true, true, false, false, false, false, false, false, false] rfl rfl (any_of HT_.out (by kernel_rfl)) (fun _ _ _ h => h) (Or.inl ⟨by rfl, ?_⟩) ?_ ?_
 rotate_left
 {
 intro w'
 go_simp
 with_reducible rfl }
 rotate_left
 {
 simp only [Act.put, sT, s0, s1, i64_w, i32_w]
 rfl }
 refine pure_ (i := 4) (N := some 13) (v := ?_) (a' := ?_) #[true, true, true, true, true, false, false, false, false, false, false] rfl rfl (any_of HT_.out (by kernel_rfl)) (fun _ _ _ h => h) (Or.inl ⟨by rfl, ?_⟩) ?_ ?_
 rotate_left
 {
 intro w'
 go_simp
 with_reducible rfl }
 rotate_left
 {
 simp only [Act.put, sT, s0, s1, i64_w, i32_w]
 rfl }
 refine pure_ (i := 5) (N := some 14) (v := ?_) (a' := ?_) #[true, true, true, true, true, true, false, false, false, false, false] rfl rfl (any_of HT_.out (by kernel_rfl)) (fun _ _ _ h => h) (Or.inl ⟨by rfl, ?_⟩) ?_ ?_
 rotate_left
 {
 intro w'
 go_simp
 with_reducible rfl }
 rotate_left
 {
 simp only [Act.put, sT, s0, s1, i64_w, i32_w]
 rfl }
 refine take_ (i := 6) (N := some 15) (v := ?_) (a' := ?_) #[true, true, true, true, true, true, true, false, false, false, false] rfl rfl (take_ofW HT_.out HW_.out (by kernel_rfl)) (fun _ _ _ h => h) (Or.inl ⟨by rfl, ?_⟩) hHeld ?_ ?_
 rotate_left
 {
 rintro w' ⟨s0, s1, s2, s3, s4⟩
 go_simp
 with_reducible rfl }
 rotate_left
 {
 simp only [Act.put, sT, s0, s1, i64_w, i32_w]
 rfl }
 refine take_ (i := 7) (N := some 16) (v := ?_) (a' := ?_) #[true, true, true, true, true, true, true, true, false, false, false] rfl rfl (take_ofW HT_.out HW_.out (by kernel_rfl)) (fun _ _ _ h => h) (Or.inl ⟨by rfl, ?_⟩) hHeld ?_ ?_
 rotate_left
 {
 rintro w' ⟨s0, s1, s2, s3, s4⟩
 go_simp
 with_reducible rfl }
 rotate_left
 {
 simp only [Act.put, sT, s0, s1, i64_w, i32_w]
 rfl }
 refine one_ (i := 8) (N := some 17) #[true, true, true, true, true, true, true, true, true, false, false] rfl rfl (one_of HT_.out (by kernel_rfl)) (by decide) (fun K hK => ?_)
 refine goes_ Try.func49 (by kernel_rfl) rfl #[.agg #[.slice A296_0 ((rd_T62 l0 (ji5)).f0).length c296_0, .slice A296_1 ((rd_T62 l0 (ji5)).f1).length c296_1, .slice A296_2 ((rd_T62 l0 (ji5)).f2).length c296_2], .agg #[.int .i64 a1_0, .int .i64 a1_1]] (by rfl) rfl rfl (by (try simp only [List.map_toArray, List.map_cons, List.map_nil]); first | done | (simp only [hji5]; rfl) | rfl | (simp only [List.length_drop, List.length_take]; rfl)) ?_
 with_reducible refine (hallmootref13_puts.calls k (fun k_ => ((P0_ k_ ∨ w.heap.size ≤ k_) ∧ k_ ≠ gb295)) _ _ ((rd_T62 l0 (ji5)).f0) (fun k_ => ((P0_ k_ ∨ w.heap.size ≤ k_) ∧ k_ ≠ gb295)) _ _ ((rd_T62 l0 (ji5)).f1) (fun k_ => ((P0_ k_ ∨ w.heap.size ≤ k_) ∧ k_ ≠ gb295)) _ _ ((rd_T62 l0 (ji5)).f2) a1_0 a1_1 t297 t300 t303 _ ?side1 ?side2 ?side3 A8.out).mono ?_
 (case side1 => exact HL296_0.out)
 (case side2 => exact HL296_1.out)
 (case side3 => exact HL296_2.out)
 rintro e w12 ⟨v298, v301, v304, rfl, ho0, ho1, ho2, hb⟩
 have HS2_ := (hb.cell (World.block_lt_of_cell? _ _ (hHeld.2.2.1))).trans (hHeld.2.2.1)
 have HS3_ := (hb.cell (World.block_lt_of_cell? _ _ (hHeld.2.2.2.1))).trans (hHeld.2.2.2.1)
 have HS4_ := (hb.cell (World.block_lt_of_cell? _ _ (hHeld.2.2.2.2))).trans (hHeld.2.2.2.2)
 refine ⟨_, rfl, ?_⟩
 have n0_ := aS (Kd.V_elder' (vv HO0.out) (Kd.R_base ho1) hb)
 have n1_ := aS (Kd.V_elder' (vv HL296_0.out) (Kd.R_base ho1) hb)
 have n2_ := aS (Kd.V_elder' (vv HL296_1.out) (Kd.R_base ho1) hb)
 have n3_ := aS (Kd.V_elder' (vv HL296_2.out) (Kd.R_base ho1) hb)
 have n4_ := aS (Kd.V_lower (Kd.V_mono (ok' := fun k_ => (P0_ k_ ∨ w.heap.size ≤ k_) ∧ some k_ ≠ (v301 : Value).ownBlock ∧ k_ ≠ gb295) ho0 (fun k_ hk_ => ⟨Or.elim hk_.1 (fun hs_ => Or.elim hs_ (fun hs_ => hs_.1) (fun hs_ => Or.elim hs_ (fun hs_ => hs_.1) (fun hs_ => hs_.1))) (fun hn_ => (.inr (Nat.le_trans bz hn_))), hk_.2, Or.elim hk_.1 (fun hs_ => Or.elim hs_ (fun hs_ => hs_.2) (fun hs_ => Or.elim hs_ (fun hs_ => hs_.2) (fun hs_ => hs_.2))) (fun hn_ => (Kd.freshB (g := gb295) (o := .cells #[.int .i64 a1_0, .int .i64 a1_1] 33 (0, 0)) (kk BK295.out) k_ hn_))⟩)) bz)
 have n5_ := aS (Kd.R_lower (Kd.R_newB (Kd.R_newM (M := fun k_ => (w.heap.size ≤ k_)) (Kd.R_mono (ok' := fun k_ => True) ho1 (fun _ hk_ => trivial)) bz (fun k_ h_ => h_)) (g := gb295) (o := .cells #[.int .i64 a1_0, .int .i64 a1_1] 33 (0, 0)) (kk BK295.out)) bz)
 have n6_ := aS (Kd.V_lower (Kd.V_mono (ok' := fun k_ => (P0_ k_ ∨ w.heap.size ≤ k_) ∧ some k_ ≠ (v301 : Value).ownBlock ∧ k_ ≠ gb295) ho2 (fun k_ hk_ => ⟨Or.elim hk_.1 (fun hs_ => Or.elim hs_ (fun hs_ => hs_.1) (fun hs_ => Or.elim hs_ (fun hs_ => hs_.1) (fun hs_ => hs_.1))) (fun hn_ => (.inr (Nat.le_trans bz hn_))), hk_.2, Or.elim hk_.1 (fun hs_ => Or.elim hs_ (fun hs_ => hs_.2) (fun hs_ => Or.elim hs_ (fun hs_ => hs_.2) (fun hs_ => hs_.2))) (fun hn_ => (Kd.freshB (g := gb295) (o := .cells #[.int .i64 a1_0, .int .i64 a1_1] 33 (0, 0)) (kk BK295.out) k_ hn_))⟩)) bz)
 have n7_ := aS (blk_below (g := gb295) (o := .cells #[.int .i64 a1_0, .int .i64 a1_1] 33 (0, 0)) (kk BK295.out) hb)
 have n8_ := aS (Kd.C_below (by repeat (first | (with_reducible exact HR296_0.out) | (with_reducible refine Kd.C_alloc ?_ _) | (with_reducible refine Kd.C_drewN ?_ _) | (with_reducible refine Kd.C_drew ?_) | exact HR296_0.out)) hb)
 have n9_ := aS (Kd.C_below (by repeat (first | (with_reducible exact HR296_1.out) | (with_reducible refine Kd.C_alloc ?_ _) | (with_reducible refine Kd.C_drewN ?_ _) | (with_reducible refine Kd.C_drew ?_) | exact HR296_1.out)) hb)
 have n10_ := aS (Kd.C_below (by repeat (first | (with_reducible exact HR296_2.out) | (with_reducible refine Kd.C_alloc ?_ _) | (with_reducible refine Kd.C_drewN ?_ _) | (with_reducible refine Kd.C_drew ?_) | exact HR296_2.out)) hb)
 have n11_ := aS (below_step bb hb)
 clear HO0
 clear HL296_0
 clear HL296_1
 clear HL296_2
 clear BK295
 clear HR296_0
 clear HR296_1
 clear HR296_2
 clear HB
 have HO0 := n0_
 have HL296_0 := n1_
 have HL296_1 := n2_
 have HL296_2 := n3_
 have HO299 := n4_
 have HO302 := n5_
 have HO305 := n6_
 have BK295 := n7_
 have HR296_0 := n8_
 have HR296_1 := n9_
 have HR296_2 := n10_
 have HB := n11_
 clear n0_ n1_ n2_ n3_ n4_ n5_ n6_ n7_ n8_ n9_ n10_ n11_
 (try clear hb)
 (try clear hb2)
 (try clear hk)
 (try clear hi)
 (try clear ho0)
 (try clear ho1)
 (try clear ho2)
 obtain ⟨Ao13, co13, eo13⟩ := Kd.V_slice HO299.out
 (first | subst eo13 | (injection eo13 with f1_ f2_ f3_; have f4_ := f1_.symm; have f5_ := f3_.symm; clear f1_ f2_ f3_; subst f4_; subst f5_))
 obtain ⟨Ao14, co14, eo14⟩ := Kd.R_slice HO302.out
 (first | subst eo14 | (injection eo14 with f1_ f2_ f3_; have f4_ := f1_.symm; have f5_ := f3_.symm; clear f1_ f2_ f3_; subst f4_; subst f5_))
 obtain ⟨Ao15, co15, eo15⟩ := Kd.V_slice HO305.out
 (first | subst eo15 | (injection eo15 with f1_ f2_ f3_; have f4_ := f1_.symm; have f5_ := f3_.symm; clear f1_ f2_ f3_; subst f4_; subst f5_))
 refine hK.out _ _ ⟨(blk_cell BK295.out 0).trans rfl, (blk_cell BK295.out 1).trans rfl, HS2_, HS3_, HS4_⟩ (fun hHeld => ?_)
 clear hK K
 refine norm_ (a' := ?_) ?_ ?_
 rotate_left
 {
 show Act.put _ (some 17) _ = _
 simp only [Act.put, sT, s0, s1, i64_w, i32_w]
 rfl }
 refine one_ (i := 9) (N := some 18) #[true, true, true, true, true, true, true, true, true, true, false] rfl rfl (one_of HT_.out (by kernel_rfl)) (by decide) (fun K hK => ?_)
 refine goes_ Try.func47 (by kernel_rfl) rfl #[.slice (some ad296) l0.length c0, .agg #[.slice Ao13 t297.length co13, .slice Ao14 t300.length co14, .slice Ao15 t303.length co15]] (by rfl) rfl rfl (by (try simp only [List.map_toArray, List.map_cons, List.map_nil]); first | done | rfl | (simp only [List.length_drop, List.length_take]; rfl)) ?_
 with_reducible refine (hallmootref13_with.calls (fun k_ => (((P0_ k_ ∨ w.heap.size ≤ k_) ∧ k_ ≠ gb295) ∧ some k_ ≠ (.slice Ao14 t300.length co14 : Value).ownBlock)) _ _ l0 (fun k_ => ((P0_ k_ ∨ w.heap.size ≤ k_) ∧ (some k_ ≠ (.slice Ao14 t300.length co14 : Value).ownBlock ∧ k_ ≠ gb295))) _ _ t297 (fun k_ => some k_ = (.slice Ao14 t300.length co14 : Value).ownBlock) _ _ t300 (fun k_ => ((P0_ k_ ∨ w.heap.size ≤ k_) ∧ (some k_ ≠ (.slice Ao14 t300.length co14 : Value).ownBlock ∧ k_ ≠ gb295))) _ _ t303 t306 _ ?side1 ?side2 ?side3 ?side4 A9.out).mono ?_
 (case side1 => exact HO0.out)
 (case side2 => exact HO299.out)
 (case side3 => exact Kd.R_V (Kd.R_tight rfl (HO302.out)))
 (case side4 => exact HO305.out)
 rintro e w16 ⟨v307, rfl, ho0, hb⟩
 have HS2_ := (hb.cell (World.block_lt_of_cell? _ _ (hHeld.2.2.1))).trans (hHeld.2.2.1)
 have HS3_ := (hb.cell (World.block_lt_of_cell? _ _ (hHeld.2.2.2.1))).trans (hHeld.2.2.2.1)
 have HS4_ := (hb.cell (World.block_lt_of_cell? _ _ (hHeld.2.2.2.2))).trans (hHeld.2.2.2.2)
 refine ⟨_, rfl, ?_⟩
 have n0_ := aS (Kd.V_elder' (vv HO0.out) (Kd.N_base ho0) hb)
 have n1_ := aS (Kd.V_elder' (vv HL296_0.out) (Kd.N_base ho0) hb)
 have n2_ := aS (Kd.V_elder' (vv HL296_1.out) (Kd.N_base ho0) hb)
 have n3_ := aS (Kd.V_elder' (vv HL296_2.out) (Kd.N_base ho0) hb)
 have n4_ := aS (Kd.V_elder' (vv HO299.out) (Kd.N_base ho0) hb)
 have n5_ := aS (Kd.R_below (rr HO302.out) hb)
 have n6_ := aS (Kd.V_elder' (vv HO305.out) (Kd.N_base ho0) hb)
 have n7_ := aS (Kd.N_lower (Kd.N_mono (ok' := fun k_ => (P0_ k_ ∨ w.heap.size ≤ k_) ∧ k_ ≠ gb295) ho0 (fun k_ hk_ => ⟨Or.elim hk_ (fun hs_ => Or.elim hs_ (fun hs_ => hs_.1.1) (fun hs_ => Or.elim hs_ (fun hs_ => hs_.1) (fun hs_ => Or.elim hs_ (fun hs_ => (.inr (((HO302.out).1 k_ hs_.symm).1.1))) (fun hs_ => hs_.1)))) (fun hn_ => (.inr (Nat.le_trans bz hn_))), Or.elim hk_ (fun hs_ => Or.elim hs_ (fun hs_ => hs_.1.2) (fun hs_ => Or.elim hs_ (fun hs_ => hs_.2.2) (fun hs_ => Or.elim hs_ (fun hs_ => ((HO302.out).1 k_ hs_.symm).2) (fun hs_ => hs_.2.2)))) (fun hn_ => (Kd.freshB (g := gb295) (o := .cells #[.int .i64 a1_0, .int .i64 a1_1] 33 (0, 0)) (kk BK295.out) k_ hn_))⟩)) bz)
 have n8_ := aS (blk_below (g := gb295) (o := .cells #[.int .i64 a1_0, .int .i64 a1_1] 33 (0, 0)) (kk BK295.out) hb)
 have n9_ := aS (Kd.C_below (by repeat (first | (with_reducible exact HR296_0.out) | (with_reducible refine Kd.C_alloc ?_ _) | (with_reducible refine Kd.C_drewN ?_ _) | (with_reducible refine Kd.C_drew ?_) | exact HR296_0.out)) hb)
 have n10_ := aS (Kd.C_below (by repeat (first | (with_reducible exact HR296_1.out) | (with_reducible refine Kd.C_alloc ?_ _) | (with_reducible refine Kd.C_drewN ?_ _) | (with_reducible refine Kd.C_drew ?_) | exact HR296_1.out)) hb)
 have n11_ := aS (Kd.C_below (by repeat (first | (with_reducible exact HR296_2.out) | (with_reducible refine Kd.C_alloc ?_ _) | (with_reducible refine Kd.C_drewN ?_ _) | (with_reducible refine Kd.C_drew ?_) | exact HR296_2.out)) hb)
 have n12_ := aS (below_step bb hb)
 clear HO0
 clear HL296_0
 clear HL296_1
 clear HL296_2
 clear HO299
 clear HO302
 clear HO305
 clear BK295
 clear HR296_0
 clear HR296_1
 clear HR296_2
 clear HB
 have HO0 := n0_
 have HL296_0 := n1_
 have HL296_1 := n2_
 have HL296_2 := n3_
 have HO299 := n4_
 have HO302 := n5_
 have HO305 := n6_
 have HO308 := n7_
 have BK295 := n8_
 have HR296_0 := n9_
 have HR296_1 := n10_
 have HR296_2 := n11_
 have HB := n12_
 clear n0_ n1_ n2_ n3_ n4_ n5_ n6_ n7_ n8_ n9_ n10_ n11_ n12_
 (try clear hb)
 (try clear hb2)
 (try clear hk)
 (try clear hi)
 (try clear ho0)
 refine hK.out _ _ ⟨(blk_cell BK295.out 0).trans rfl, (blk_cell BK295.out 1).trans rfl, HS2_, HS3_, HS4_⟩ (fun hHeld => ?_)
 clear hK K
 refine norm_ (a' := ?_) ?_ ?_
 rotate_left
 {
 show Act.put _ (some 18) _ = _
 simp only [Act.put, sT, s0, s1, i64_w, i32_w]
 rfl }
 refine pure_ (i := 10) (N := some 4) (v := ?_) (a' := ?_) #[true, true, true, true, true, true, true, true, true, true, true] rfl rfl (any_of HT_.out (by kernel_rfl)) (fun _ _ _ h => h) (Or.inl ⟨by rfl, ?_⟩) ?_ ?_
 rotate_left
 {
 intro w'
 go_simp
 with_reducible rfl }
 rotate_left
 {
 simp only [Act.put, sT, s0, s1, i64_w, i32_w]
 rfl }
 refine done_ (done_of HT_.out (by kernel_rfl)) ?_
 try go_wp2
 go_ret
 exact ⟨_, by first | rfl | (simp [errW_none, errW_some] <;> rfl) | (simp only [← hji5]; first | rfl | (simp [errW_none, errW_some] <;> rfl)) | (simp [*, errW_none, errW_some] <;> rfl), Kd.N_V (by (with_reducible repeat (first | apply Kd.N_alloc | apply Kd.N_drewN | apply Kd.N_drew)); exact Kd.N_mono HO308.out (fun _ hk => hk.1)), by repeat (first | (with_reducible first | exact HB.out | apply below_alloc | apply pw_below_drewN | apply below_drew1 | refine below_set ?_ GE295.out) | exact HB.out)⟩ }
 {
 rw [if_neg c7] at H
 exact absurd H (by simp) } }
 {
 rw [if_neg c6] at H
 exact absurd H (by simp) } }

end Go.Proofs.Ytfojpobblebigaa.P
namespace Go.Proofs.Ytfojpobblebigaa.Pure
open Go.RowKit Go.Proofs.Ytfojpobblebigaa.P Go.Proofs.YtfojpobblebigaaW.PrintWords
set_option linter.unusedVariables false

theorem with_of (m : List S62) (x : S62) (a : List S30) (b : List S33) (c : List S50) (hm : m.length ≤ 100000) : hallmootref13_with.f (m ++ [x]) a b c = some (m ++ [⟨a, b, c⟩]) := by
  unfold hallmootref13_with.f
  have hl : (m ++ [x]).length = m.length + 1 := by simp
  have hw : wrap64 (((m ++ [x]).length : Int) - 1) = (m.length : Int) := by rw [hl]; unfold wrap64; omega
  simp only [Option.bind_some, List.nil_append, List.length_nil]
  rw [if_pos (by omega), hw, if_pos (by omega), if_pos (by omega)]
  simp
theorem reads_loop' (x : S62) (s : S30) (hx : x.f0.length ≤ 100000) (d : Nat) : ∀ i : Nat, i + d = x.f0.length → (∀ j, j < i → ∀ h : j < x.f0.length, x.f0[j].f0 ≠ s.f0) →
    Ev (fun k => hallmootref13_reads.l0 k (i : Int) x.f0 x.f1 x.f2 s.f0 s.f1 s.f2) (readStep x.f0 s, x.f1, x.f2) := by
  induction d with
  | zero =>
    intro i hi hno
    refine Ev.step (f := fun _ => some (readStep x.f0 s, x.f1, x.f2)) (fun k => ?_) (Ev.now _)
    rw [hallmootref13_reads.l0, if_neg (by omega)]
    have h0 : ¬ (x.f0.any (fun y => y.f0 == s.f0) = true) := by
      rw [List.any_eq_true]
      rintro ⟨y, hy, he⟩
      obtain ⟨j, hj, rfl⟩ := List.getElem_of_mem hy
      exact hno j (by omega) hj (by simpa using he)
    simp only [Option.bind_some, List.nil_append, List.length_nil, List.length_cons]
    rw [if_pos (by omega), if_pos (by omega)]
    unfold readStep
    rw [if_neg h0]
  | succ d ih =>
    intro i hi hno
    have hlt : i < x.f0.length := by omega
    by_cases e : x.f0[i].f0 = s.f0
    · refine Ev.step (f := fun _ => some (readStep x.f0 s, x.f1, x.f2)) (fun k => ?_) (Ev.now _)
      rw [hallmootref13_reads.l0, if_pos (by omega), if_pos (by omega), rd30 hlt, if_pos e]
      unfold readStep
      rw [if_pos (List.any_eq_true.2 ⟨_, List.getElem_mem hlt, by simpa using e⟩)]
    · refine Ev.step (f := fun k => hallmootref13_reads.l0 k ((i + 1 : Nat) : Int) x.f0 x.f1 x.f2 s.f0 s.f1 s.f2) (fun k => ?_) (ih (i + 1) (by omega) (fun j hj hjl => ?_))
      · rw [hallmootref13_reads.l0, if_pos (by omega), if_pos (by omega), rd30 hlt, if_neg e, wrapB hlt (by omega)]
      · by_cases q : j = i
        · subst q; exact e
        · exact hno j (by omega) hjl
theorem reads_ev (x : S62) (s : S30) (hx : x.f0.length ≤ 100000) : Ev (fun k => hallmootref13_reads.f k x.f0 x.f1 x.f2 s.f0 s.f1 s.f2) (readStep x.f0 s, x.f1, x.f2) :=
  reads_loop' x s hx x.f0.length 0 (by omega) (fun j hj => absurd hj (Nat.not_lt_zero _))
theorem rlast (m : List S62) (x : S62) (hm : m.length ≤ 100000) : wrap64 (((m ++ [x]).length : Int) - 1) = (m.length : Int) ∧ rd_T62 (m ++ [x]) (m.length : Int) = x := by
  have hl : (m ++ [x]).length = m.length + 1 := by simp
  refine ⟨by rw [hl]; unfold wrap64; omega, ?_⟩
  rw [rd62 (by omega)]; simp
theorem read_ev (m : List S62) (x : S62) (s : S30) (hm : m.length ≤ 100000) (hx : x.f0.length ≤ 100000) : Ev (fun k => hallmootref13_Read.f k (m ++ [x]) s.f0 s.f1 s.f2) (m ++ [{ x with f0 := readStep x.f0 s }]) := by
  obtain ⟨e1, e2⟩ := rlast m x hm
  have hl : (m ++ [x]).length = m.length + 1 := by simp
  refine Ev.congr (f := fun k => (hallmootref13_reads.f k x.f0 x.f1 x.f2 s.f0 s.f1 s.f2).bind fun b => (hallmootref13_with.f (m ++ [x]) b.1 b.2.1 b.2.2).bind fun t => some t) (fun k => ?_) (Ev.bind (reads_ev x s hx) ?_)
  · unfold hallmootref13_Read.f
    rw [e1, e2, if_neg (by omega), if_pos (by omega), if_pos (by omega)]
  · rw [with_of m x _ _ _ hm]
    exact Ev.now _
theorem read_nil (s : S30) : Ev (fun k => hallmootref13_Read.f k [] s.f0 s.f1 s.f2) [] := Ev.congr (f := fun _ => some []) (fun k => rfl) (Ev.now _)

/-! ### Put -/
theorem puts_set (x : S62) (w : S33) (hx : x.f1.length ≤ 100000) (i : Nat) (hi : i < x.f1.length) (he : x.f1[i].f0 = w.f0) (hno : ∀ j, j < i → ∀ h : j < x.f1.length, x.f1[j].f0 ≠ w.f0) : putStep x.f1 w = x.f1.set i w := by
  unfold putStep
  rw [if_pos (List.any_eq_true.2 ⟨_, List.getElem_mem hi, by simpa using he⟩)]
  congr 1
  rw [List.findIdx_eq hi]
  exact ⟨by simpa using he, fun j hj => by have := hno j hj (by omega); simpa using this⟩
/-- The reference's second loop: what has been written when i entries are passed. -/
def put1 (l : List S33) (w : S33) (q i : Nat) : List S33 := if i ≤ q then l.take i else l.take q ++ w :: (l.take i).drop q
theorem take_snoc33 {R : List S33} {i : Nat} (h : i < R.length) : R.take (i + 1) = R.take i ++ [R[i]] := by rw [List.take_add_one, List.getElem?_eq_getElem h]; rfl
theorem put1_len (l : List S33) (w : S33) (q i : Nat) : (put1 l w q i).length ≤ l.length + 1 := by
  unfold put1
  split
  · simp; omega
  · simp; omega
theorem puts_loop1 (x : S62) (w : S33) (hx : x.f1.length ≤ 100000) (q : Nat) (hq : q = x.f1.findIdx (fun y => decide (w.f0 < y.f0))) (d : Nat) : ∀ i : Nat, i + d = x.f1.length →
    Ev (fun k => hallmootref13_puts.l1 k (put1 x.f1 w q i) (decide (q < i)) (i : Int) x.f0 x.f1 x.f2 w.f0 w.f1) (x.f0, ins x.f1 q w, x.f2) := by
  have hlen := put1_len x.f1 w q
  have hql : q ≤ x.f1.length := by rw [hq]; exact List.findIdx_le_length
  induction d with
  | zero =>
    intro i hi
    refine Ev.step (f := fun _ => some (x.f0, ins x.f1 q w, x.f2)) (fun k => ?_) (Ev.now _)
    rw [hallmootref13_puts.l1, if_neg (by omega)]
    by_cases h : q < i
    · rw [if_pos (decide_eq_true h)]
      unfold put1 ins
      rw [if_neg (by omega), List.take_of_length_le (i := i) (by omega)]
    · have := hlen i
      rw [if_neg (by rw [decide_eq_false h]; simp), if_pos (by omega)]
      unfold put1 ins
      rw [if_pos (by omega)]
      have : q = x.f1.length := by omega
      rw [this, List.take_of_length_le (by omega), List.take_of_length_le (Nat.le_refl _), List.drop_of_length_le (Nat.le_refl _)]
  | succ d ih =>
    intro i hi
    have hlt : i < x.f1.length := by omega
    have hl := hlen i
    refine Ev.step (f := fun k => hallmootref13_puts.l1 k (put1 x.f1 w q (i + 1)) (decide (q < i + 1)) ((i + 1 : Nat) : Int) x.f0 x.f1 x.f2 w.f0 w.f1) (fun k => ?_) (ih (i + 1) (by omega))
    rw [hallmootref13_puts.l1, if_pos (by omega), if_pos (by omega), rd33 hlt, wrapB hlt (by omega)]
    by_cases h1 : i < q
    · have hng : ¬ (x.f1[i].f0 > w.f0) := by
        have := List.not_of_lt_findIdx (p := fun y : S33 => decide (w.f0 < y.f0)) (xs := x.f1) (i := i) (by omega)
        simpa using this
      rw [if_neg hng, if_pos (by omega), decide_eq_false (by omega), decide_eq_false (by omega)]
      unfold put1
      rw [if_pos (by omega), if_pos (by omega), take_snoc33 hlt]
    · by_cases h2 : i = q
      · have hg : x.f1[i].f0 > w.f0 := by
          have := List.findIdx_getElem (p := fun y : S33 => decide (w.f0 < y.f0)) (xs := x.f1) (w := by omega)
          simp only [← hq, ← h2] at this
          simpa using this
        have e1 : put1 x.f1 w q i = x.f1.take q := by unfold put1; rw [if_pos (by omega), h2]
        have e2 : put1 x.f1 w q (i + 1) = x.f1.take q ++ [w] ++ [x.f1[i]] := by
          unfold put1
          rw [if_neg (by omega), take_snoc33 hlt, List.drop_append, List.drop_of_length_le (by simp; omega), show q - (x.f1.take i).length = 0 by simp; omega]
          simp
        rw [if_pos hg, decide_eq_false (by omega), if_neg (by simp), if_pos (by omega)]
        simp only [Option.bind_some]
        rw [if_pos (by rw [e1]; simp; omega), decide_eq_true (by omega), e2, e1]
      · have e2 : put1 x.f1 w q (i + 1) = put1 x.f1 w q i ++ [x.f1[i]] := by
          unfold put1
          rw [if_neg (by omega), if_neg (by omega), take_snoc33 hlt, List.drop_append, show q - (x.f1.take i).length = 0 by simp; omega]
          simp
        rw [decide_eq_true (by omega), decide_eq_true (by omega), e2]
        by_cases hg : x.f1[i].f0 > w.f0
        · rw [if_pos hg, if_pos rfl, if_pos (by omega)]
        · rw [if_neg hg, if_pos (by omega)]
theorem puts_loop0 (x : S62) (w : S33) (hx : x.f1.length ≤ 100000) (d : Nat) : ∀ i : Nat, i + d = x.f1.length → (∀ j, j < i → ∀ h : j < x.f1.length, x.f1[j].f0 ≠ w.f0) →
    Ev (fun k => hallmootref13_puts.l0 k (i : Int) x.f0 x.f1 x.f2 w.f0 w.f1) (x.f0, putStep x.f1 w, x.f2) := by
  induction d with
  | zero =>
    intro i hi hno
    have h0 : ¬ (x.f1.any (fun y => y.f0 == w.f0) = true) := by
      rw [List.any_eq_true]
      rintro ⟨y, hy, he⟩
      obtain ⟨j, hj, rfl⟩ := List.getElem_of_mem hy
      exact hno j (by omega) hj (by simpa using he)
    have h1 := puts_loop1 x w hx _ rfl x.f1.length 0 (by omega)
    unfold putStep
    rw [if_neg h0]
    refine Ev.step (fun k => ?_) h1
    rw [hallmootref13_puts.l0, if_neg (by omega)]
    unfold put1
    rw [if_pos (Nat.zero_le _), decide_eq_false (by omega)]
    rfl
  | succ d ih =>
    intro i hi hno
    have hlt : i < x.f1.length := by omega
    by_cases e : x.f1[i].f0 = w.f0
    · refine Ev.step (f := fun _ => some (x.f0, putStep x.f1 w, x.f2)) (fun k => ?_) (Ev.now _)
      rw [hallmootref13_puts.l0, if_pos (by omega), if_pos (by omega), rd33 hlt, if_pos e, puts_set x w hx i hlt e hno]
      simp only [Option.bind_some, List.nil_append, List.length_nil]
      rw [if_pos (by omega), if_pos (by omega)]
      simp
    · refine Ev.step (f := fun k => hallmootref13_puts.l0 k ((i + 1 : Nat) : Int) x.f0 x.f1 x.f2 w.f0 w.f1) (fun k => ?_) (ih (i + 1) (by omega) (fun j hj hjl => ?_))
      · rw [hallmootref13_puts.l0, if_pos (by omega), if_pos (by omega), rd33 hlt, if_neg e, wrapB hlt (by omega)]
      · by_cases q : j = i
        · subst q; exact e
        · exact hno j (by omega) hjl
theorem puts_ev (x : S62) (w : S33) (hx : x.f1.length ≤ 100000) : Ev (fun k => hallmootref13_puts.f k x.f0 x.f1 x.f2 w.f0 w.f1) (x.f0, putStep x.f1 w, x.f2) :=
  puts_loop0 x w hx x.f1.length 0 (by omega) (fun j hj => absurd hj (Nat.not_lt_zero _))
theorem put_ev (m : List S62) (x : S62) (w : S33) (hm : m.length ≤ 100000) (hx : x.f1.length ≤ 100000) : Ev (fun k => hallmootref13_Put.f k (m ++ [x]) w.f0 w.f1) (m ++ [{ x with f1 := putStep x.f1 w }]) := by
  obtain ⟨e1, e2⟩ := rlast m x hm
  have hl : (m ++ [x]).length = m.length + 1 := by simp
  refine Ev.congr (f := fun k => (hallmootref13_puts.f k x.f0 x.f1 x.f2 w.f0 w.f1).bind fun b => (hallmootref13_with.f (m ++ [x]) b.1 b.2.1 b.2.2).bind fun t => some t) (fun k => ?_) (Ev.bind (puts_ev x w hx) ?_)
  · unfold hallmootref13_Put.f
    rw [e1, e2, if_neg (by omega), if_pos (by omega), if_pos (by omega)]
  · rw [with_of m x _ _ _ hm]
    exact Ev.now _
theorem put_nil (w : S33) : Ev (fun k => hallmootref13_Put.f k [] w.f0 w.f1) [] := Ev.congr (f := fun _ => some []) (fun k => rfl) (Ev.now _)

/-! ### Keep, Begin -/
theorem keep_of (m : List S62) (x : S62) (a b c : Int) (v : List S48) (j : Int) (hm : m.length ≤ 100000) (hx : x.f2.length ≤ 100000) : hallmootref13_Keep.f (m ++ [x]) a b c v j = some (m ++ [{ x with f2 := x.f2 ++ [⟨⟨a, b, c, v⟩, j⟩] }]) := by
  obtain ⟨e1, e2⟩ := rlast m x hm
  have hl : (m ++ [x]).length = m.length + 1 := by simp
  unfold hallmootref13_Keep.f
  rw [e1, e2, if_neg (by omega), if_pos (by omega), if_pos (by omega)]
  simp only [Option.bind_some, List.nil_append, List.length_nil, List.length_cons]
  rw [if_pos (by omega), if_pos (by omega), with_of m x _ _ _ hm]
  rfl
theorem keep_nil (a b c : Int) (v : List S48) (j : Int) : hallmootref13_Keep.f [] a b c v j = some [] := rfl
theorem begin_of (l : List S62) (h : l.length ≤ 100000) : hallmootref13_Begin.f l = some (l ++ [z62]) := by
  unfold hallmootref13_Begin.f
  simp only [Option.bind_some, List.nil_append, List.length_nil]
  rw [if_pos (by omega), if_pos (by omega)]
  rfl

/-! ### Find -/
theorem drop_cons33 {l : List S33} {i : Nat} (h : i < l.length) : l.drop i = l[i] :: l.drop (i + 1) := List.drop_eq_getElem_cons h
theorem wrapD {i : Nat} (h : i ≤ 100000) : wrap64 ((i : Int) - 1) = (i : Int) - 1 := by unfold wrap64; omega
theorem findW_loop (l : List S62) (hl : l.length ≤ 100000) (loc : Int) (i : Nat) (hi : i < l.length) (hx : l[i].f1.length ≤ 100000) (r : Int × Int × Int) (hnext : Ev (fun k => hallmootref13_Find.l0 k l loc ((i : Int) - 1)) r) (d : Nat) : ∀ j : Nat, j + d = l[i].f1.length →
    Ev (fun k => hallmootref13_Find.l1 k l loc (i : Int) (j : Int)) (match fW loc (l[i].f1.drop j) with | some y => (y.f1, 0, 1) | none => r) := by
  induction d with
  | zero =>
    intro j hj
    rw [List.drop_of_length_le (by omega), fW_nil]
    refine Ev.step (fun k => ?_) hnext
    rw [hallmootref13_Find.l1, if_pos (by omega), if_pos (by omega), rd62 hi, if_neg (by omega), wrapD (by omega)]
  | succ d ih =>
    intro j hj
    have hlt : j < l[i].f1.length := by omega
    rw [List.drop_eq_getElem_cons hlt, fW_cons]
    by_cases e : l[i].f1[j].f0 = loc
    · rw [if_pos e]
      refine Ev.step (f := fun _ => some (l[i].f1[j].f1, 0, 1)) (fun k => ?_) (Ev.now _)
      rw [hallmootref13_Find.l1, if_pos (by omega), if_pos (by omega), rd62 hi, if_pos (by omega), if_pos (by omega), rd33 hlt, if_pos e]
    · rw [if_neg e]
      refine Ev.step (f := fun k => hallmootref13_Find.l1 k l loc (i : Int) ((j + 1 : Nat) : Int)) (fun k => ?_) (ih (j + 1) (by omega))
      rw [hallmootref13_Find.l1, if_pos (by omega), if_pos (by omega), rd62 hi, if_pos (by omega), if_pos (by omega), rd33 hlt, if_neg e, wrapB hlt (by omega)]
theorem findR_loop (l : List S62) (hl : l.length ≤ 100000) (loc : Int) (i : Nat) (hi : i < l.length) (hx : l[i].f0.length ≤ 100000) (r : Int × Int × Int) (hnext : Ev (fun k => hallmootref13_Find.l2 k l loc ((i : Int) - 1)) r) (d : Nat) : ∀ j : Nat, j + d = l[i].f0.length →
    Ev (fun k => hallmootref13_Find.l3 k l loc (i : Int) (j : Int)) (match fR loc (l[i].f0.drop j) with | some y => (y.f2, y.f1, 2) | none => r) := by
  induction d with
  | zero =>
    intro j hj
    rw [List.drop_of_length_le (by omega), fR_nil]
    refine Ev.step (fun k => ?_) hnext
    rw [hallmootref13_Find.l3, if_pos (by omega), if_pos (by omega), rd62 hi, if_neg (by omega), wrapD (by omega)]
  | succ d ih =>
    intro j hj
    have hlt : j < l[i].f0.length := by omega
    rw [List.drop_eq_getElem_cons hlt, fR_cons]
    by_cases e : l[i].f0[j].f0 = loc
    · rw [if_pos e]
      refine Ev.step (f := fun _ => some (l[i].f0[j].f2, l[i].f0[j].f1, 2)) (fun k => ?_) (Ev.now _)
      rw [hallmootref13_Find.l3, if_pos (by omega), if_pos (by omega), rd62 hi, if_pos (by omega), if_pos (by omega), rd30 hlt, if_pos e]
    · rw [if_neg e]
      refine Ev.step (f := fun k => hallmootref13_Find.l3 k l loc (i : Int) ((j + 1 : Nat) : Int)) (fun k => ?_) (ih (j + 1) (by omega))
      rw [hallmootref13_Find.l3, if_pos (by omega), if_pos (by omega), rd62 hi, if_pos (by omega), if_pos (by omega), rd30 hlt, if_neg e, wrapB hlt (by omega)]
theorem take_snoc62 {R : List S62} {i : Nat} (h : i < R.length) : R.take (i + 1) = R.take i ++ [R[i]] := by rw [List.take_add_one, List.getElem?_eq_getElem h]; rfl
theorem findR_out (l : List S62) (h : FewL l) (loc : Int) : ∀ k : Nat, k ≤ l.length → Ev (fun f => hallmootref13_Find.l2 f l loc ((k : Int) - 1)) (match rR loc (l.take k) with | some s => (s.f2, s.f1, 2) | none => (0, 0, 0))
  | 0, _ => by
    refine Ev.step (f := fun _ => some (0, 0, 0)) (fun f => ?_) (Ev.now _)
    rw [hallmootref13_Find.l2, if_neg (by omega)]
  | m + 1, hm => by
    have hlt : m < l.length := by omega
    have h1 := findR_loop l (by have := h.1; omega) loc m hlt (by have := (h.2 _ (List.getElem_mem hlt)).1; omega) _ (findR_out l h loc m (by omega)) l[m].f0.length 0 (by omega)
    rw [List.drop_zero] at h1
    rw [take_snoc62 hlt, rR_snoc]
    have h2 : Ev (fun f => hallmootref13_Find.l2 f l loc (((m + 1 : Nat) : Int) - 1)) (match fR loc l[m].f0 with | some y => (y.f2, y.f1, 2) | none => match rR loc (l.take m) with | some s => (s.f2, s.f1, 2) | none => (0, 0, 0)) := by
      refine Ev.step (fun f => ?_) h1
      rw [show ((m + 1 : Nat) : Int) - 1 = (m : Int) by omega, hallmootref13_Find.l2, if_pos (by omega)]
      rfl
    cases hq : fR loc l[m].f0 with
    | some y => rw [hq] at h2; exact h2
    | none => rw [hq] at h2; exact h2
theorem findW_out (l : List S62) (h : FewL l) (loc : Int) : ∀ k : Nat, k ≤ l.length → Ev (fun f => hallmootref13_Find.l0 f l loc ((k : Int) - 1)) (match rW loc (l.take k) with | some y => (y.f1, 0, 1) | none => match rR loc l with | some s => (s.f2, s.f1, 2) | none => (0, 0, 0))
  | 0, _ => by
    have h1 := findR_out l h loc l.length (Nat.le_refl _)
    rw [List.take_length] at h1
    refine Ev.step (fun f => ?_) h1
    rw [hallmootref13_Find.l0, if_neg (by omega), wrapD (by have := h.1; omega)]
  | m + 1, hm => by
    have hlt : m < l.length := by omega
    have h1 := findW_loop l (by have := h.1; omega) loc m hlt (by have := (h.2 _ (List.getElem_mem hlt)).2.1; omega) _ (findW_out l h loc m (by omega)) l[m].f1.length 0 (by omega)
    rw [List.drop_zero] at h1
    rw [take_snoc62 hlt, rW_snoc]
    have h2 : Ev (fun f => hallmootref13_Find.l0 f l loc (((m + 1 : Nat) : Int) - 1)) (match fW loc l[m].f1 with | some y => (y.f1, 0, 1) | none => match rW loc (l.take m) with | some y => (y.f1, 0, 1) | none => match rR loc l with | some s => (s.f2, s.f1, 2) | none => (0, 0, 0)) := by
      refine Ev.step (fun f => ?_) h1
      rw [show ((m + 1 : Nat) : Int) - 1 = (m : Int) by omega, hallmootref13_Find.l0, if_pos (by omega)]
      rfl
    cases hq : fW loc l[m].f1 with
    | some y => rw [hq] at h2; exact h2
    | none => rw [hq] at h2; exact h2
theorem find_ev (l : List S62) (h : FewL l) (loc : Int) : Ev (fun k => hallmootref13_Find.f k l loc) (findL l loc) := by
  have h1 := findW_out l h loc l.length (Nat.le_refl _)
  rw [List.take_length] at h1
  have h2 : Ev (fun k => hallmootref13_Find.f k l loc) (match rW loc l with | some y => (y.f1, 0, 1) | none => match rR loc l with | some s => (s.f2, s.f1, 2) | none => (0, 0, 0)) := by
    refine Ev.congr (fun k => ?_) h1
    unfold hallmootref13_Find.f
    rw [wrapD (by have := h.1; omega)]
  cases hq : rW loc l with
  | some y => rw [hq] at h2; rw [find_W hq]; exact h2
  | none =>
    rw [hq] at h2
    cases hr : rR loc l with
    | some s => rw [hr] at h2; rw [find_R hq hr]; exact h2
    | none => rw [hr] at h2; rw [find_0 hq hr]; exact h2
end Go.Proofs.Ytfojpobblebigaa.Pure
namespace Go.Proofs.Ytfojpobblebigaa.P
open Go.RowKit Go.Proofs.YtfojpobblebigaaW.PrintWords Go.Proofs.YtfojpobblebigaaW.PrintLast Go.Proofs.YtfojpobblebigaaW.PrintMore
set_option linter.unusedVariables false
set_option linter.unusedSimpArgs false

def st1 (l : List S62) (z : S62) (k : Nat) : List S62 := onLast l (fun x => { x with f0 := readL x.f0 (z.f0.take k) })
def st2 (l : List S62) (z : S62) (k : Nat) : List S62 := onLast l (fun x => { x with f0 := readL x.f0 z.f0, f1 := writeL x.f1 (z.f1.take k) })
def st3 (l : List S62) (z : S62) (k : Nat) : List S62 := onLast l (fun x => { x with f0 := readL x.f0 z.f0, f1 := writeL x.f1 z.f1, f2 := x.f2 ++ z.f2.take k })
theorem take_snoc' {α : Type} {R : List α} {i : Nat} (h : i < R.length) (d : α) : R.take (i + 1) = R.take i ++ [R.getD i d] := by
  rw [List.take_add_one, List.getElem?_eq_getElem h, List.getD_eq_getElem?_getD, List.getElem?_eq_getElem h]; rfl
theorem tot_take_len (l : List S62) (z : S62) : True := trivial
/-- What is asked of the levels: small enough. -/
def Small (l : List S62) (z : S62) : Prop := 0 < l.length ∧ l.length ≤ 50000 ∧ (∀ x ∈ l, x.f0.length + z.f0.length ≤ 50000 ∧ x.f1.length + z.f1.length ≤ 50000 ∧ x.f2.length + z.f2.length ≤ 50000)
theorem st1_step {l : List S62} {z : S62} (h : Small l z) {k : Nat} (hk : k < z.f0.length) : ∃ f, hallmootref13_Read.f f (st1 l z k) (z.f0.getD k z30).f0 (z.f0.getD k z30).f1 (z.f0.getD k z30).f2 = some (st1 l z (k + 1)) := by
  obtain ⟨h0, h1, h2⟩ := h
  obtain ⟨m, x, rfl⟩ := Pure.last1 (l := l) (by omega)
  have hx := h2 x (by simp)
  have hl := readL_len (z.f0.take k) x.f0
  have hlt : (z.f0.take k).length ≤ z.f0.length := by simp; omega
  have hm : m.length ≤ 50000 := by simp at h1; omega
  have := (Pure.read_ev m { x with f0 := readL x.f0 (z.f0.take k) } (z.f0.getD k z30) (by omega) (by show (readL _ _).length ≤ _; omega)).rounds
  obtain ⟨f, hf⟩ := this
  refine ⟨f, ?_⟩
  unfold st1
  rw [Pure.onLast_snoc, Pure.onLast_snoc, hf, take_snoc' hk z30]
  unfold readL
  rw [List.foldl_append]
  rfl
theorem st2_step {l : List S62} {z : S62} (h : Small l z) {k : Nat} (hk : k < z.f1.length) : ∃ f, hallmootref13_Put.f f (st2 l z k) (z.f1.getD k z33).f0 (z.f1.getD k z33).f1 = some (st2 l z (k + 1)) := by
  obtain ⟨h0, h1, h2⟩ := h
  obtain ⟨m, x, rfl⟩ := Pure.last1 (l := l) (by omega)
  have hx := h2 x (by simp)
  have hl := writeL_len (z.f1.take k) x.f1
  have hlt : (z.f1.take k).length ≤ z.f1.length := by simp; omega
  have hm : m.length ≤ 50000 := by simp at h1; omega
  have := (Pure.put_ev m { x with f0 := readL x.f0 z.f0, f1 := writeL x.f1 (z.f1.take k) } (z.f1.getD k z33) (by omega) (by show (writeL _ _).length ≤ _; omega)).rounds
  obtain ⟨f, hf⟩ := this
  refine ⟨f, ?_⟩
  unfold st2
  rw [Pure.onLast_snoc, Pure.onLast_snoc, hf, take_snoc' hk z33]
  unfold writeL
  rw [List.foldl_append]
  rfl
def z50' : S50 := z50
theorem st3_step {l : List S62} {z : S62} (h : Small l z) {k : Nat} (hk : k < z.f2.length) : hallmootref13_Keep.f (st3 l z k) (z.f2.getD k z50).f0.f0 (z.f2.getD k z50).f0.f1 (z.f2.getD k z50).f0.f2 (z.f2.getD k z50).f0.f3 (z.f2.getD k z50).f1 = some (st3 l z (k + 1)) := by
  obtain ⟨h0, h1, h2⟩ := h
  obtain ⟨m, x, rfl⟩ := Pure.last1 (l := l) (by omega)
  have hx := h2 x (by simp)
  have hm : m.length ≤ 50000 := by simp at h1; omega
  unfold st3
  rw [Pure.onLast_snoc, Pure.onLast_snoc, Pure.keep_of m _ _ _ _ _ _ (by omega) (by simp; omega), take_snoc' hk z50]
  simp only [List.append_assoc]
  generalize z.f2.getD k z50 = u
  obtain ⟨⟨a, b, c, d⟩, e⟩ := u
  rfl
theorem st1_0 (l : List S62) (z : S62) : st1 l z 0 = l := by
  unfold st1 onLast
  split
  · rfl
  · rw [List.take_zero]
    show l.set _ (l.getD _ z62) = l
    rw [List.getD_eq_getElem?_getD, List.getElem?_eq_getElem (by omega)]
    exact List.set_getElem_self _
theorem onLast_len (l : List S62) (f : S62 → S62) : (onLast l f).length = l.length := by unfold onLast; split <;> simp
theorem st12 (l : List S62) (z : S62) : st1 l z z.f0.length = st2 l z 0 := by
  unfold st1 st2; rw [List.take_length, List.take_zero]; rfl
theorem st23 (l : List S62) (z : S62) : st2 l z z.f1.length = st3 l z 0 := by
  unfold st2 st3; rw [List.take_length, List.take_zero]; simp
theorem st3_all (l : List S62) (z : S62) : st3 l z z.f2.length = onLast l (fun x => joinAM x z) := by
  unfold st3; rw [List.take_length]; rfl
/-- An element of a row of compensations. -/
theorem F50_at {W : World} {ok : Nat → Prop} {A : Option Addr} {l : List S50} (h : Kd.F k50 W ok A l.length l) (i : Nat) (hi : i < l.length) :
    ∃ ad A3 c3, A = some ad ∧ W.cell? (ad.add (i * 5)) = some (.int .i64 (l.getD i z50).f0.f0) ∧ W.cell? ⟨(ad.add (i * 5)).block, (ad.add (i * 5)).off + 1, none⟩ = some (.int .i64 (l.getD i z50).f0.f1) ∧ W.cell? ⟨(ad.add (i * 5)).block, (ad.add (i * 5)).off + 2, none⟩ = some (.int .i64 (l.getD i z50).f0.f2) ∧
      W.cell? ⟨(ad.add (i * 5)).block, (ad.add (i * 5)).off + 3, none⟩ = some (.slice A3 (l.getD i z50).f0.f3.length c3) ∧ W.cell? ⟨(ad.add (i * 5)).block, (ad.add (i * 5)).off + 4, none⟩ = some (.int .i64 (l.getD i z50).f1) ∧ (l.getD i z50).f0.f3.length ≤ c3 ∧ Kd.F k48 W ok A3 (l.getD i z50).f0.f3.length (l.getD i z50).f0.f3 := by
  obtain ⟨ad, c, e, _, hK, hc0, _⟩ := Kd.F_get h z50 (i : Int) (by omega) (by omega)
  rw [Int.toNat_natCast] at hK hc0
  have hc : ∀ j u, c[j]? = some u → W.cell? (ad.add (i * 5 + j)) = some u := hc0
  obtain ⟨A3, c3, rfl, l3, f3⟩ := k50_openF hK
  exact ⟨ad, A3, c3, e, hc 0 _ rfl, by rw [← add_field _ _ 1 (by omega)]; exact hc 1 _ rfl, by rw [← add_field _ _ 2 (by omega)]; exact hc 2 _ rfl, by rw [← add_field _ _ 3 (by omega)]; exact hc 3 _ rfl, by rw [← add_field _ _ 4 (by omega)]; exact hc 4 _ rfl, l3, f3⟩

/-! ### End: function 29 -/
def rEnd.f (l : List S62) : Option (List S62) := if 2 * tot l < 50000 then some (if l.length < 2 then l else foldAL l) else none
set_option maxHeartbeats 16000000 in
set_option maxRecDepth 100000 in
theorem rEnd.calls (P0 : Nat → Prop) (A0 : Option Addr) (c0 : Nat) (l0 : List S62) (r : List S62) (w : World) (hs0 : Kd.V k62 62 w w.heap.size (fun k_ => P0 k_) (.slice A0 l0.length c0) l0) (h : rEnd.f l0 = some r) :
    Calls Try.prog 29 #[.slice A0 l0.length c0] w fun e w' => ∃ v0_ : Value, e = .returned v0_ ∧ Kd.V k62 62 w' w.heap.size (fun k_ => P0 k_ ∨ w.heap.size ≤ k_) v0_ r ∧ Below w.heap.size w w' := by
  unfold rEnd.f at h
  split at h
  case isFalse => cases h
  case isTrue hT =>
  obtain rfl := Option.some.inj h
  clear h
  have hll := tot_len l0
  by_cases h2 : l0.length < 2
  · rw [if_pos h2]
    have h2' : (l0.length : Int) < 2 := by omega
    have HV := Aside0.mk hs0
    clear hs0
    go_enter Try.func29, Try.ntmps29
    go_wp2
    go_ret
    exact ⟨_, rfl, Kd.V_mono HV.out (fun k hk => .inl hk), Below.refl _ _⟩
  · rw [if_neg h2]
    have h2' : ¬ (l0.length : Int) < 2 := by omega
    obtain ⟨hn, hc, hF⟩ := Kd.V_at hs0
    obtain ⟨ad, B0, d0, B1, d1, B2, d2, rfl, e0, e1, e2, m0, f0, m1, f1, m2, f2⟩ := F62_at hF (l0.length - 1) (by omega)
    have hzm : l0.getD (l0.length - 1) z62 ∈ l0 := last_mem (by omega)
    generalize hz : l0.getD (l0.length - 1) z62 = z at *
    have hSm : Small (l0.take (l0.length - 1)) z := by
      refine ⟨by rw [List.length_take]; omega, by rw [List.length_take]; omega, fun x hx => ?_⟩
      have h1 := tot_mem (List.mem_of_mem_take hx)
      have h3 := tot_mem hzm
      omega
    have hlt : (l0.take (l0.length - 1)).length = l0.length - 1 := by rw [List.length_take]; omega
    have hres : foldAL l0 = st3 (l0.take (l0.length - 1)) z z.f2.length := by rw [st3_all, ← hz]; rfl
    have HR := Aside0.mk hres
    have HS := Aside0.mk hSm
    have HLT := Aside0.mk hlt
    have hi0 : (0 : Int) ≤ (l0.length : Int) - 1 := by omega
    have hi1 : (l0.length : Int) - 1 < (l0.length : Int) := by omega
    have hi2 : (l0.length : Int) - 1 ≤ (c0 : Int) := by omega
    have hi3 : (l0.length : Int) - 1 ≤ (l0.length : Int) := by omega
    have htn : ((l0.length : Int) - 1).toNat = l0.length - 1 := by omega
    have hw1 : IntKind.i64.wrap ((l0.length : Int) - 1) = (l0.length : Int) - 1 := by rw [IntKind.wrap_i64]; omega
    have hl63 : l0.length ≤ 9223372036854775807 := by omega
    have b0 : z.f0.length ≤ 50000 := by have := tot_mem hzm; omega
    have b1 : z.f1.length ≤ 50000 := by have := tot_mem hzm; omega
    have b2 : z.f2.length ≤ 50000 := by have := tot_mem hzm; omega
    have F0 := Aside0.mk f0
    have F1 := Aside0.mk f1
    have F2 := Aside0.mk f2
    have hB : Below w.heap.size w (w.alloc (.cells #[.slice B0 z.f0.length d0, .slice B1 z.f1.length d1, .slice B2 z.f2.length d2] 62)) := below_alloc (Below.refl _ _) _
    have HV := Aside0.mk (Kd.V_mk (d := k62) (e := 62) (base := w.heap.size) (c := c0) (by rw [hlt]; omega) (Kd.F_mono (Kd.F_below (Kd.F_take hF (m := l0.length - 1) (by omega)) hB) (fun k hk => .inl hk)) : Kd.V k62 62 (w.alloc (.cells #[.slice B0 z.f0.length d0, .slice B1 z.f1.length d1, .slice B2 z.f2.length d2] 62)) w.heap.size (fun k => P0 k ∨ w.heap.size ≤ k) (.slice (some ad) (l0.take (l0.length - 1)).length c0) (l0.take (l0.length - 1)))
    rw [hlt] at HV
    have HB := Aside0.mk hB
    have BX : Aside0 ((w.alloc (.cells #[.slice B0 z.f0.length d0, .slice B1 z.f1.length d1, .slice B2 z.f2.length d2] 62)).heap[w.heap.size]? = some (.cells #[.slice B0 z.f0.length d0, .slice B1 z.f1.length d1, .slice B2 z.f2.length d2] 62 (0, 0))) := ⟨heap_alloc_new w _⟩
    clear hF f0 f1 f2 hs0 hB hSm hlt hres hzm hz hT hll
    have e3 := Aside0.mk (And.intro e0 (And.intro e1 e2))
    go_enter Try.func29, Try.ntmps29
    go_wp2_with fail
    clear e0 e1 e2
    obtain ⟨g, hg⟩ : ∃ g, g = w.heap.size := ⟨_, rfl⟩
    rw [← hg] at BX ⊢
    have HG := Aside0.mk hg
    clear hg
    generalize w.alloc (.cells #[.slice B0 z.f0.length d0, .slice B1 z.f1.length d1, .slice B2 z.f2.length d2] 62) = W1 at HV HB BX ⊢
    have hout0 : st1 (l0.take (l0.length - 1)) z 0 = l0.take (l0.length - 1) := st1_0 _ _
    rw [← hout0] at HV
    have LEN1 : ∀ k, (st1 (l0.take (l0.length - 1)) z k).length = l0.length - 1 := fun k => by unfold st1; rw [onLast_len]; exact HLT.out
    have LEN2 : ∀ k, (st2 (l0.take (l0.length - 1)) z k).length = l0.length - 1 := fun k => by unfold st2; rw [onLast_len]; exact HLT.out
    have LEN3 : ∀ k, (st3 (l0.take (l0.length - 1)) z k).length = l0.length - 1 := fun k => by unfold st3; rw [onLast_len]; exact HLT.out
    have LN := Aside0.mk (And.intro LEN1 (And.intro LEN2 LEN3))
    clear hout0 LEN1 LEN2 LEN3
    go_loopg [4, 5] z.f0.length (fun gg s4 s5 wr => ∃ (kk : Nat) (A : Option Addr) (c : Nat), kk ≤ z.f0.length ∧ z.f0.length - kk ≤ gg ∧ s4 = .slice A (l0.length - 1) c ∧ s5 = .int .i64 kk ∧ Aside0 (Kd.V k62 62 wr wr.heap.size (fun k => P0 k ∨ w.heap.size ≤ k) (.slice A (l0.length - 1) c) (st1 (l0.take (l0.length - 1)) z kk)) ∧ Aside0 (Below W1.heap.size W1 wr))
    case atStart => exact ⟨0, _, _, Nat.zero_le _, by omega, rfl, rfl, ⟨HV.out⟩, ⟨Below.refl _ _⟩⟩
    case round =>
      clear HV
      obtain ⟨kk, A4, c4, hkk, hgg, rfl, rfl, HV, BW⟩ := hrel
      have hcx : wr.cell? ⟨g, 0, none⟩ = some (.slice B0 z.f0.length d0) := (blk_cell (blk_below BX.out BW.out) 0).trans rfl
      by_cases hlt : kk < z.f0.length
      · have hlt' : (kk : Int) < (z.f0.length : Int) := by omega
        have BWw := Aside0.mk (HB.out.trans (BW.out.mono HB.out.size))
        obtain ⟨ad2, rfl, q0, q1, q2⟩ := at_T30 (Kd.C_below (Kd.F_now F0.out) BWw.out) (kk : Int) (by omega) hlt'
        rw [show rd_T30 z.f0 (kk : Int) = z.f0.getD kk z30 from rfl, Int.toNat_natCast] at q0 q1 q2
        obtain ⟨ff, hff⟩ := st1_step HS.out hlt
        have hV1 : Kd.V k62 62 wr wr.heap.size (fun k_ => P0 k_ ∨ w.heap.size ≤ k_) (.slice A4 (st1 (l0.take (l0.length - 1)) z kk).length c4) (st1 (l0.take (l0.length - 1)) z kk) := by rw [LN.out.1 kk]; exact HV.out
        have HC := Aside0.mk (hallmootref13_Read.calls ff (fun k => P0 k ∨ w.heap.size ≤ k) A4 c4 _ _ _ _ _ wr hV1 hff)
        rw [LN.out.1 kk] at HC
        clear hV1 hff
        generalize z.f0.getD kk z30 = s at q0 q1 q2 HC
        go_wp2_with fail
        refine HC.out.mono ?_
        rintro e w4 ⟨v, rfl, hV, hb⟩
        obtain ⟨A5, c5, rfl⟩ := Kd.V_slice hV
        rw [LN.out.1 (kk + 1)] at hV
        have hV2 := Aside0.mk (Kd.V_map (base' := w4.heap.size) (ok' := fun k => P0 k ∨ w.heap.size ≤ k) hV (fun A hf => Kd.F_mono hf (fun k hk => hk.elim id (fun h => .inr (Nat.le_trans BWw.out.size h)))))
        have H2 := Aside0.mk hb
        clear hV hb
        rw [LN.out.1 (kk + 1)]
        go_wp2_with fail
        go_roundg (z.f0.length - (kk + 1))
        case measure => omega
        case rel => exact ⟨kk + 1, A5, c5, by omega, by omega, rfl, by go_num, hV2, ⟨BW.out.trans (H2.out.mono BW.out.size)⟩⟩
      · have hk2 : kk = z.f0.length := by omega
        subst hk2
        have hlt' : ¬ (z.f0.length : Int) < (z.f0.length : Int) := by omega
        rw [st12] at HV
        go_wp2_with fail
        clear hcx
        go_loopg [4, 6] z.f1.length (fun gg s4 s5 wr => ∃ (kk : Nat) (A : Option Addr) (c : Nat), kk ≤ z.f1.length ∧ z.f1.length - kk ≤ gg ∧ s4 = .slice A (l0.length - 1) c ∧ s5 = .int .i64 kk ∧ Aside0 (Kd.V k62 62 wr wr.heap.size (fun k => P0 k ∨ w.heap.size ≤ k) (.slice A (l0.length - 1) c) (st2 (l0.take (l0.length - 1)) z kk)) ∧ Aside0 (Below W1.heap.size W1 wr))
        case atStart => exact ⟨0, _, _, Nat.zero_le _, by omega, rfl, rfl, ⟨HV.out⟩, ⟨BW.out⟩⟩
        case round =>
          clear HV BW
          obtain ⟨kk, A4, c4, hkk, hgg, rfl, rfl, HV, BW⟩ := hrel
          have hcx : wr.cell? ⟨g, 1, none⟩ = some (.slice B1 z.f1.length d1) := (blk_cell (blk_below BX.out BW.out) 1).trans rfl
          by_cases hlt : kk < z.f1.length
          · have hlt' : (kk : Int) < (z.f1.length : Int) := by omega
            have BWw := Aside0.mk (HB.out.trans (BW.out.mono HB.out.size))
            obtain ⟨ad2, rfl, q0, q1⟩ := at_T33 (Kd.C_below (Kd.F_now F1.out) BWw.out) (kk : Int) (by omega) hlt'
            rw [show rd_T33 z.f1 (kk : Int) = z.f1.getD kk z33 from rfl, Int.toNat_natCast] at q0 q1
            obtain ⟨ff, hff⟩ := st2_step HS.out hlt
            have hV1 : Kd.V k62 62 wr wr.heap.size (fun k_ => P0 k_ ∨ w.heap.size ≤ k_) (.slice A4 (st2 (l0.take (l0.length - 1)) z kk).length c4) (st2 (l0.take (l0.length - 1)) z kk) := by rw [LN.out.2.1 kk]; exact HV.out
            have HC := Aside0.mk (hallmootref13_Put.calls ff (fun k => P0 k ∨ w.heap.size ≤ k) A4 c4 _ _ _ _ wr hV1 hff)
            rw [LN.out.2.1 kk] at HC
            clear hV1 hff
            generalize z.f1.getD kk z33 = s at q0 q1 HC
            go_wp2_with fail
            refine HC.out.mono ?_
            rintro e w4 ⟨v, rfl, hV, hb⟩
            obtain ⟨A5, c5, rfl⟩ := Kd.V_slice hV
            rw [LN.out.2.1 (kk + 1)] at hV
            have hV2 := Aside0.mk (Kd.V_map (base' := w4.heap.size) (ok' := fun k => P0 k ∨ w.heap.size ≤ k) hV (fun A hf => Kd.F_mono hf (fun k hk => hk.elim id (fun h => .inr (Nat.le_trans BWw.out.size h)))))
            have H2 := Aside0.mk hb
            clear hV hb
            rw [LN.out.2.1 (kk + 1)]
            go_wp2_with fail
            go_roundg (z.f1.length - (kk + 1))
            case measure => omega
            case rel => exact ⟨kk + 1, A5, c5, by omega, by omega, rfl, by go_num, hV2, ⟨BW.out.trans (H2.out.mono BW.out.size)⟩⟩
          · have hk2 : kk = z.f1.length := by omega
            subst hk2
            have hlt' : ¬ (z.f1.length : Int) < (z.f1.length : Int) := by omega
            rw [st23] at HV
            go_wp2_with fail
            clear hcx
            go_loopg [4, 7] z.f2.length (fun gg s4 s5 wr => ∃ (kk : Nat) (A : Option Addr) (c : Nat), kk ≤ z.f2.length ∧ z.f2.length - kk ≤ gg ∧ s4 = .slice A (l0.length - 1) c ∧ s5 = .int .i64 kk ∧ Aside0 (Kd.V k62 62 wr wr.heap.size (fun k => P0 k ∨ w.heap.size ≤ k) (.slice A (l0.length - 1) c) (st3 (l0.take (l0.length - 1)) z kk)) ∧ Aside0 (Below W1.heap.size W1 wr))
            case atStart => exact ⟨0, _, _, Nat.zero_le _, by omega, rfl, rfl, ⟨HV.out⟩, ⟨BW.out⟩⟩
            case round =>
              clear HV BW
              obtain ⟨kk, A4, c4, hkk, hgg, rfl, rfl, HV, BW⟩ := hrel
              have hl50 : ∀ j, j < z.f2.length → True := fun _ _ => trivial
              have hcx : wr.cell? ⟨g, 2, none⟩ = some (.slice B2 z.f2.length d2) := (blk_cell (blk_below BX.out BW.out) 2).trans rfl
              by_cases hlt : kk < z.f2.length
              · have hlt' : (kk : Int) < (z.f2.length : Int) := by omega
                have BWw := Aside0.mk (HB.out.trans (BW.out.mono HB.out.size))
                obtain ⟨ad2, B3, d3, rfl, q0, q1, q2, q3, q4, q5, q6⟩ := F50_at (Kd.F_below F2.out BWw.out) kk hlt
                have hff := st3_step HS.out hlt
                have HV3 : Kd.V k48 48 wr wr.heap.size (fun k_ => P0 k_) (.slice B3 (z.f2.getD kk z50).f0.f3.length d3) (z.f2.getD kk z50).f0.f3 := Kd.V_mk q5 q6
                have hV1 : Kd.V k62 62 wr wr.heap.size (fun k_ => P0 k_ ∨ w.heap.size ≤ k_) (.slice A4 (st3 (l0.take (l0.length - 1)) z kk).length c4) (st3 (l0.take (l0.length - 1)) z kk) := by rw [LN.out.2.2 kk]; exact HV.out
                have HC := Aside0.mk (hallmootref13_Keep.calls (fun k => P0 k ∨ w.heap.size ≤ k) A4 c4 _ _ _ _ (fun k_ => P0 k_) B3 d3 _ _ _ wr hV1 HV3 hff)
                rw [LN.out.2.2 kk] at HC
                clear hV1 hff HV3 q5 q6
                generalize z.f2.getD kk z50 = s at q0 q1 q2 q3 q4 HC
                go_wp2_with fail
                refine HC.out.mono ?_
                rintro e w4 ⟨v, rfl, hV, hb⟩
                obtain ⟨A5, c5, rfl⟩ := Kd.V_slice hV
                rw [LN.out.2.2 (kk + 1)] at hV
                have hV2 := Aside0.mk (Kd.V_map (base' := w4.heap.size) (ok' := fun k => P0 k ∨ w.heap.size ≤ k) hV (fun A hf => Kd.F_mono hf (fun k hk => hk.elim (fun h => h.elim id .inl) (fun h => .inr (Nat.le_trans BWw.out.size h)))))
                have H2 := Aside0.mk hb
                clear hV hb
                rw [LN.out.2.2 (kk + 1)]
                go_wp2_with fail
                go_roundg (z.f2.length - (kk + 1))
                case measure => omega
                case rel => exact ⟨kk + 1, A5, c5, by omega, by omega, rfl, by go_num, hV2, ⟨BW.out.trans (H2.out.mono BW.out.size)⟩⟩
              · have hk2 : kk = z.f2.length := by omega
                subst hk2
                have hlt' : ¬ (z.f2.length : Int) < (z.f2.length : Int) := by omega
                go_wp2_with fail
                go_ret
                refine ⟨_, rfl, ?_, HB.out.trans (BW.out.mono HB.out.size)⟩
                rw [HR.out]
                exact Kd.V_map HV.out (fun A hf => hf)
end Go.Proofs.Ytfojpobblebigaa.P
namespace Go.Proofs.Ytfojpobblebigaa.P
open Go.RowKit Go.Proofs.YtfojpobblebigaaW.PrintWords Go.Proofs.YtfojpobblebigaaW.PrintLast Go.Proofs.YtfojpobblebigaaW.PrintMore
set_option linter.unusedVariables false
set_option linter.unusedSimpArgs false

theorem F50_at2 {W : World} {ok : Nat → Prop} {A : Option Addr} {l : List S50} (h : Kd.F k50 W ok A l.length l) (i : Nat) (hi : i < l.length) :
    ∃ ad A3 c3, A = some ad ∧ W.cell? (ad.add (i * 5)) = some (.int .i64 (l.getD i z50).f0.f0) ∧ W.cell? ⟨(ad.add (i * 5)).block, (ad.add (i * 5)).off + 1, none⟩ = some (.int .i64 (l.getD i z50).f0.f1) ∧ W.cell? ⟨(ad.add (i * 5)).block, (ad.add (i * 5)).off + 2, none⟩ = some (.int .i64 (l.getD i z50).f0.f2) ∧
      W.cell? ⟨(ad.add (i * 5)).block, (ad.add (i * 5)).off + 3, none⟩ = some (.slice A3 (l.getD i z50).f0.f3.length c3) ∧ W.cell? ⟨(ad.add (i * 5)).block, (ad.add (i * 5)).off + 4, none⟩ = some (.int .i64 (l.getD i z50).f1) ∧
      Kd.FK k50 W ok (l.getD i z50) [.int .i64 (l.getD i z50).f0.f0, .int .i64 (l.getD i z50).f0.f1, .int .i64 (l.getD i z50).f0.f2, .slice A3 (l.getD i z50).f0.f3.length c3, .int .i64 (l.getD i z50).f1] := by
  obtain ⟨ad, A3, c3, e, q0, q1, q2, q3, q4, q5, q6⟩ := F50_at h i hi
  exact ⟨ad, A3, c3, e, q0, q1, q2, q3, q4, k50_mkF _ _ _ q5 q6⟩
theorem rev_snoc {α : Type} (l : List α) (m : Nat) (h : m < l.length) (d : α) : (l.drop m).reverse = (l.drop (m + 1)).reverse ++ [l.getD m d] := by
  rw [List.drop_eq_getElem_cons h, List.reverse_cons, List.getD_eq_getElem?_getD, List.getElem?_eq_getElem h]; rfl

/-! ### Drop: function 26 -/
def rDrop.f (l : List S62) : Option (List S62 × List S50) := if 2 * tot l < 50000 then some (dropL l) else none
set_option maxHeartbeats 16000000 in
set_option maxRecDepth 100000 in
theorem rDrop.calls (P0 : Nat → Prop) (A0 : Option Addr) (c0 : Nat) (l0 : List S62) (r1 : List S62) (r2 : List S50) (w : World) (hs0 : Kd.V k62 62 w w.heap.size (fun k_ => P0 k_) (.slice A0 l0.length c0) l0) (h : rDrop.f l0 = some (r1, r2)) :
    Calls Try.prog 26 #[.slice A0 l0.length c0] w fun e w' => ∃ v0_ v1_ : Value, e = .returned (.tuple #[v0_, v1_]) ∧ Kd.V k62 62 w' w.heap.size (fun k_ => P0 k_ ∨ w.heap.size ≤ k_) v0_ r1 ∧ Kd.V k50 50 w' w.heap.size (fun k_ => P0 k_ ∨ w.heap.size ≤ k_) v1_ r2 ∧ Below w.heap.size w w' := by
  unfold rDrop.f at h
  split at h
  case isFalse => cases h
  case isTrue hT =>
  have hd := Option.some.inj h
  clear h
  have hll := tot_len l0
  by_cases h0 : l0.length = 0
  · unfold dropL at hd
    rw [if_pos h0] at hd
    obtain ⟨rfl, rfl⟩ := Prod.mk.inj hd
    have : l0 = [] := List.eq_nil_of_length_eq_zero h0
    subst this
    have HV := Aside0.mk hs0
    clear hs0 hd h0 hT hll
    go_enter Try.func26, Try.ntmps26
    go_wp2
    refine bodyPost_ret (results_tmp2 rfl _ _ _) rfl ?_
    exact ⟨_, _, rfl, Kd.V_mono HV.out (fun k hk => .inl hk), Kd.V_nil _ _ _ _ _, Below.refl _ _⟩
  · obtain ⟨hn, hc, hF⟩ := Kd.V_at hs0
    obtain ⟨ad, B0, d0, B1, d1, B2, d2, rfl, e0, e1, e2, m0, f0, m1, f1, m2, f2⟩ := F62_at hF (l0.length - 1) (by omega)
    have hzm : l0.getD (l0.length - 1) z62 ∈ l0 := last_mem (by omega)
    have hres : dropL l0 = (if l0.length = 1 then [{ z62 with f0 := (l0.getD (l0.length - 1) z62).f0 }] else st1 (l0.take (l0.length - 1)) (l0.getD (l0.length - 1) z62) (l0.getD (l0.length - 1) z62).f0.length, (l0.getD (l0.length - 1) z62).f2.reverse) := by
      unfold dropL
      rw [if_neg h0]
      unfold foldRL st1 joinRM
      rw [List.take_length]
    rw [hres] at hd
    clear hres
    generalize hz : l0.getD (l0.length - 1) z62 = z at *
    obtain ⟨rfl, rfl⟩ := Prod.mk.inj hd
    have hSm : l0.length ≠ 1 → Small (l0.take (l0.length - 1)) z := by
      intro h1
      refine ⟨by rw [List.length_take]; omega, by rw [List.length_take]; omega, fun x hx => ?_⟩
      have h1 := tot_mem (List.mem_of_mem_take hx)
      have h3 := tot_mem hzm
      omega
    have hlt : (l0.take (l0.length - 1)).length = l0.length - 1 := by rw [List.length_take]; omega
    have HS := Aside0.mk hSm
    have HLT := Aside0.mk hlt
    have h0' : ¬ ((l0.length : Int) = 0) := by omega
    have hi0 : (0 : Int) ≤ (l0.length : Int) - 1 := by omega
    have hi1 : (l0.length : Int) - 1 < (l0.length : Int) := by omega
    have hi2 : (l0.length : Int) - 1 ≤ (c0 : Int) := by omega
    have hi3 : (l0.length : Int) - 1 ≤ (l0.length : Int) := by omega
    have htn : ((l0.length : Int) - 1).toNat = l0.length - 1 := by omega
    have hw1 : IntKind.i64.wrap ((l0.length : Int) - 1) = (l0.length : Int) - 1 := by rw [IntKind.wrap_i64]; omega
    have hl63 : l0.length ≤ 9223372036854775807 := by omega
    have b0 : z.f0.length ≤ 50000 := by have := tot_mem hzm; omega
    have b2 : z.f2.length ≤ 50000 := by have := tot_mem hzm; omega
    have F0 := Aside0.mk f0
    have F2 := Aside0.mk (Kd.F_bound f2)
    have hB : Below w.heap.size w (w.alloc (.cells #[.slice B0 z.f0.length d0, .slice B1 z.f1.length d1, .slice B2 z.f2.length d2] 62)) := below_alloc (Below.refl _ _) _
    have HV := Aside0.mk (Kd.V_mk (d := k62) (e := 62) (base := w.heap.size) (c := c0) (by rw [hlt]; omega) (Kd.F_mono (Kd.F_below (Kd.F_take hF (m := l0.length - 1) (by omega)) hB) (fun k hk => .inl hk)) : Kd.V k62 62 (w.alloc (.cells #[.slice B0 z.f0.length d0, .slice B1 z.f1.length d1, .slice B2 z.f2.length d2] 62)) w.heap.size (fun k => P0 k ∨ w.heap.size ≤ k) (.slice (some ad) (l0.take (l0.length - 1)).length c0) (l0.take (l0.length - 1)))
    rw [hlt] at HV
    have HB := Aside0.mk hB
    have HM := Aside0.mk m0
    have BX : Aside0 ((w.alloc (.cells #[.slice B0 z.f0.length d0, .slice B1 z.f1.length d1, .slice B2 z.f2.length d2] 62)).heap[w.heap.size]? = some (.cells #[.slice B0 z.f0.length d0, .slice B1 z.f1.length d1, .slice B2 z.f2.length d2] 62 (0, 0))) := ⟨heap_alloc_new w _⟩
    have SZ : Aside0 ((w.alloc (.cells #[.slice B0 z.f0.length d0, .slice B1 z.f1.length d1, .slice B2 z.f2.length d2] 62)).heap.size = w.heap.size + 1) := ⟨by simp⟩
    clear hF f0 f1 f2 hs0 hB hSm hlt hzm hz hT hll m0 m1 m2 hd
    go_enter Try.func26, Try.ntmps26
    go_wp2_with fail
    clear e0 e1 e2
    obtain ⟨g, hg⟩ : ∃ g, g = w.heap.size := ⟨_, rfl⟩
    rw [← hg] at BX ⊢
    have HG := Aside0.mk hg
    clear hg
    generalize w.alloc (.cells #[.slice B0 z.f0.length d0, .slice B1 z.f1.length d1, .slice B2 z.f2.length d2] 62) = W1 at HV HB BX SZ ⊢
    have hout0 : st1 (l0.take (l0.length - 1)) z 0 = l0.take (l0.length - 1) := st1_0 _ _
    rw [← hout0] at HV
    have LEN1 : ∀ k, (st1 (l0.take (l0.length - 1)) z k).length = l0.length - 1 := fun k => by unfold st1; rw [onLast_len]; exact HLT.out
    have LN := Aside0.mk LEN1
    clear hout0 LEN1
    have hcx2 : W1.cell? ⟨g, 2, none⟩ = some (.slice B2 z.f2.length d2) := (blk_cell BX.out 2).trans rfl
    go_wp2_with fail
    clear hcx2
    go_loopg [5, 6] z.f2.length (fun gg s5 s6 wr => ∃ (kk : Nat) (v : Int) (A : Option Addr) (c : Nat), kk ≤ z.f2.length ∧ kk ≤ gg ∧ v = (kk : Int) - 1 ∧ s5 = .slice A (z.f2.drop kk).reverse.length c ∧ s6 = .int .i64 v ∧ Aside0 (Kd.N k50 50 wr W1.heap.size (fun k => P0 k ∨ W1.heap.size ≤ k) (.slice A (z.f2.drop kk).reverse.length c) (z.f2.drop kk).reverse) ∧ Aside0 (Below W1.heap.size W1 wr))
    case atStart =>
      have e : (z.f2.drop z.f2.length).reverse = [] := by rw [List.drop_of_length_le (Nat.le_refl _)]; rfl
      exact ⟨z.f2.length, _, none, 0, Nat.le_refl _, Nat.le_refl _, rfl, by rw [e]; rfl, rfl, ⟨by rw [e]; exact Kd.N_nil _ _ _ _ _⟩, ⟨Below.refl _ _⟩⟩
    case round =>
      obtain ⟨kk, v, A5, c5, hkk, hgg, hv, rfl, rfl, HN, BW⟩ := hrel
      have hcx0 : wr.cell? ⟨g, 0, none⟩ = some (.slice B0 z.f0.length d0) := (blk_cell (blk_below BX.out BW.out) 0).trans rfl
      have hcx2 : wr.cell? ⟨g, 2, none⟩ = some (.slice B2 z.f2.length d2) := (blk_cell (blk_below BX.out BW.out) 2).trans rfl
      have BWw := Aside0.mk (HB.out.trans (BW.out.mono HB.out.size))
      cases kk with
      | succ m =>
        obtain rfl : v = (m : Int) := by omega
        clear hv
        have hlt : m < z.f2.length := by omega
        have hlt' : (m : Int) < (z.f2.length : Int) := by omega
        obtain ⟨ad2, B3, d3, rfl, q0, q1, q2, q3, q4, q5⟩ := F50_at2 (Kd.F_below F2.out BWw.out) m hlt
        have hne : ∀ k, k < w.heap.size → some k ≠ (Value.slice A5 (z.f2.drop (m + 1)).reverse.length c5).ownBlock := fun k hk e => by
          have h1 := Kd.N_base HN.out k e.symm
          have := SZ.out
          omega
        have hby : ((z.f2.drop (m + 1)).reverse.length + 1) * 56 ≤ 140737488355328 := by simp; omega
        have hre := rev_snoc z.f2 m hlt z50
        generalize z.f2.getD m z50 = s at q0 q1 q2 q3 q4 q5 hre
        have HRE := Aside0.mk hre
        have HFK := Aside0.mk q5
        have HNE := Aside0.mk hne
        have HBY := Aside0.mk hby
        clear hre q5 hne hby hcx0
        generalize hpl : (z.f2.drop (m + 1)).reverse = pl at *
        have HPL := Aside0.mk hpl
        clear hpl
        go_wp2_with ((with_reducible refine gate_builtin (b := .append) (xs := #[.tmp 27, .tmp 33]) rfl ?_); at_builtin; refine Kd.N_append k50 (w0 := W1) W1.heap.size rfl (.tmp 27) (.tmp 33) 34 50 _ 56 rfl Try.underlying34 info50 rfl (by decide) (by decide) (.slice A5 pl.length c5) pl s [.int .i64 s.f0.f0, .int .i64 s.f0.f1, .int .i64 s.f0.f2, .slice B3 s.f0.f3.length d3, .int .i64 s.f1] (fun k => P0 k ∨ W1.heap.size ≤ k) (fun k => P0 k ∧ k < w.heap.size) rfl rfl HFK.out (fun k hk => ⟨.inl hk.1, HNE.out k hk.2⟩) (fun k hk => .inr (Nat.le_trans BW.out.size hk)) HN.out BW.out BW.out.size HBY.out ?_; intro v1 w5 hN1 hB1 hG1 hat; obtain ⟨A6, c6, rfl⟩ := Kd.N_slice hN1; have H1 := Aside0.mk hN1; have H2 := Aside0.mk hB1; clear hN1 hB1 hG1 hat)
        go_roundg m
        case measure => omega
        case rel =>
          refine ⟨m, _, A6, c6, by omega, Nat.le_refl _, rfl, ?_, by go_num, ⟨?_⟩, H2⟩
          · rw [HRE.out, List.length_append]; rfl
          · rw [HRE.out]; exact H1.out
      | zero =>
        obtain rfl : v = -1 := by omega
        clear hv hcx2
        rw [List.drop_zero, List.length_reverse] at HN ⊢
        by_cases h1 : l0.length = 1
        · have h1' : (l0.length : Int) = 1 := by omega
          go_wp2_with fail
          have hal : Below wr.heap.size wr (wr.alloc (.cells #[.slice B0 z.f0.length d0, .slice none 0 0, .slice none 0 0] 62)) := below_alloc (Below.refl _ _) _
          refine bodyPost_ret (results_tmp2 rfl _ _ _) rfl ?_
          have hF4 := F_new62 wr (fun k => P0 k ∨ w.heap.size ≤ k) z.f0 B0 d0 HM.out (Kd.F_mono (Kd.F_below F0.out BWw.out) (fun k hk => .inl hk)) (.inr BWw.out.size)
          have hV4 : Kd.V k62 62 _ w.heap.size (fun k => P0 k ∨ w.heap.size ≤ k) (.slice (some ⟨wr.heap.size, 0, none⟩) [({ z62 with f0 := z.f0 } : S62)].length 1) [{ z62 with f0 := z.f0 }] := Kd.V_mk (by simp) hF4
          have hV5 : Kd.V k50 50 wr w.heap.size (fun k => P0 k ∨ w.heap.size ≤ k) (.slice A5 z.f2.length c5) z.f2.reverse := Kd.V_mono (Kd.N_V HN.out) (fun k hk => hk.imp id (fun h => by have := SZ.out; omega))
          refine ⟨_, _, rfl, hV4, ?_, BWw.out.trans (hal.mono BWw.out.size)⟩
          exact Kd.V_below hV5 hal
        · have h1' : ¬ ((l0.length : Int) = 1) := by omega
          have h1b : ((l0.length : Int) == 1) = false := by simpa using h1'
          have HV2 := Aside0.mk (Kd.V_below HV.out BW.out)
          clear HV
          go_wp2_with fail
          clear hcx0
          go_loopg [7, 8] z.f0.length (fun gg s4 s5 wr => ∃ (kk : Nat) (A : Option Addr) (c : Nat), kk ≤ z.f0.length ∧ z.f0.length - kk ≤ gg ∧ s4 = .slice A (l0.length - 1) c ∧ s5 = .int .i64 kk ∧ Aside0 (Kd.V k62 62 wr wr.heap.size (fun k => P0 k ∨ w.heap.size ≤ k) (.slice A (l0.length - 1) c) (st1 (l0.take (l0.length - 1)) z kk)) ∧ Aside0 (Below W1.heap.size W1 wr) ∧ Aside0 (Kd.N k50 50 wr W1.heap.size (fun k => P0 k ∨ W1.heap.size ≤ k) (.slice A5 z.f2.length c5) z.f2.reverse))
          case atStart => exact ⟨0, _, _, Nat.zero_le _, by omega, rfl, rfl, ⟨Kd.V_map HV2.out (fun A hf => hf)⟩, BW, HN⟩
          case round =>
            clear HV2 BW BWw HN
            obtain ⟨kk, A4, c4, hkk, hgg, rfl, rfl, HV, BW, HN⟩ := hrel
            have hcx : wr.cell? ⟨g, 0, none⟩ = some (.slice B0 z.f0.length d0) := (blk_cell (blk_below BX.out BW.out) 0).trans rfl
            by_cases hlt : kk < z.f0.length
            · have hlt' : (kk : Int) < (z.f0.length : Int) := by omega
              have BWw := Aside0.mk (HB.out.trans (BW.out.mono HB.out.size))
              obtain ⟨ad2, rfl, q0, q1, q2⟩ := at_T30 (Kd.C_below (Kd.F_now F0.out) BWw.out) (kk : Int) (by omega) hlt'
              rw [show rd_T30 z.f0 (kk : Int) = z.f0.getD kk z30 from rfl, Int.toNat_natCast] at q0 q1 q2
              obtain ⟨ff, hff⟩ := st1_step (HS.out h1) hlt
              have hV1 : Kd.V k62 62 wr wr.heap.size (fun k_ => P0 k_ ∨ w.heap.size ≤ k_) (.slice A4 (st1 (l0.take (l0.length - 1)) z kk).length c4) (st1 (l0.take (l0.length - 1)) z kk) := by rw [LN.out kk]; exact HV.out
              have HC := Aside0.mk (hallmootref13_Read.calls ff (fun k => P0 k ∨ w.heap.size ≤ k) A4 c4 _ _ _ _ _ wr hV1 hff)
              rw [LN.out kk] at HC
              clear hV1 hff
              generalize z.f0.getD kk z30 = s at q0 q1 q2 HC
              go_wp2_with fail
              refine HC.out.mono ?_
              rintro e w4 ⟨v, rfl, hV, hb⟩
              obtain ⟨A6, c6, rfl⟩ := Kd.V_slice hV
              rw [LN.out (kk + 1)] at hV
              have hV2 := Aside0.mk (Kd.V_map (base' := w4.heap.size) (ok' := fun k => P0 k ∨ w.heap.size ≤ k) hV (fun A hf => Kd.F_mono hf (fun k hk => hk.elim id (fun h => .inr (Nat.le_trans BWw.out.size h)))))
              have H2 := Aside0.mk hb
              clear hV hb
              rw [LN.out (kk + 1)]
              go_wp2_with fail
              go_roundg (z.f0.length - (kk + 1))
              case measure => omega
              case rel => exact ⟨kk + 1, A6, c6, by omega, by omega, rfl, by go_num, hV2, ⟨BW.out.trans (H2.out.mono BW.out.size)⟩, ⟨Kd.N_below HN.out H2.out⟩⟩
            · have hk2 : kk = z.f0.length := by omega
              subst hk2
              have hlt' : ¬ (z.f0.length : Int) < (z.f0.length : Int) := by omega
              go_wp2_with fail
              refine bodyPost_ret (results_tmp2 rfl _ _ _) rfl ?_
              have hV5 : Kd.V k50 50 wr w.heap.size (fun k => P0 k ∨ w.heap.size ≤ k) (.slice A5 z.f2.length c5) z.f2.reverse := Kd.V_mono (Kd.N_V HN.out) (fun k hk => hk.imp id (fun h => by have := SZ.out; omega))
              refine ⟨_, _, rfl, Kd.V_map HV.out (fun A hf => hf), ?_, HB.out.trans (BW.out.mono HB.out.size)⟩
              exact hV5
end Go.Proofs.Ytfojpobblebigaa.P
