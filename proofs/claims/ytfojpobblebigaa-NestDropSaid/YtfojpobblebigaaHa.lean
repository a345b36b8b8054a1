/- Contracts, proved by hand: slices.Clone at []api.Level, []api.Undo (their elements' rows are shared), []api.Seen, []api.Write. -/
import Derived.Test.YtfojpobblebigaaPx0
import Derived.WalkSpells
import Derived.Outline
namespace Go.Proofs.Ytfojpobblebigaa.P
open Go.RowKit Go.Proofs.YtfojpobblebigaaW.PrintWords Go.Proofs.YtfojpobblebigaaW.PrintLast Go.Proofs.YtfojpobblebigaaW.PrintMore
set_option linter.unusedVariables false
set_option linter.unusedSimpArgs false

/-- The greatest count that these contracts speak of. -/
def LIM : Nat := 1099511627776

set_option maxHeartbeats 4000000 in
set_option maxRecDepth 100000 in
theorem cloneL (P : Nat → Prop) (A : Option Addr) (n c : Nat) (l : List S62) (w : World) (hr : Kd.F k62 w P A n l) (hcc : n ≤ c) (hlim : l.length ≤ LIM) :
    Calls Try.prog 35 #[.slice A n c] w fun e w' => ∃ v : Value, e = .returned v ∧ Kd.N k62 62 w' w.heap.size (fun k => P k ∨ w.heap.size ≤ k) v l ∧ Below w.heap.size w w' := by
  have HR0 := Aside0.mk hr
  have LM := Aside0.mk hlim
  obtain rfl : l.length = n := Kd.F_len hr
  clear hr hlim
  have HB := Aside0.mk (Below.refl w.heap.size w)
  cases A with
  | none =>
    have hl0 : l = [] := by
      have := (Kd.F_now HR0.out).2.2
      rcases l with _ | ⟨a, l⟩
      · rfl
      · obtain ⟨ad, he, _⟩ := this (by simp)
        simp at he
    subst hl0
    have hnil := fun (w : World) => Lib.run_eql_slice_nil (P := Try.prog) w 22 62 none 0 c 0 0 Try.underlying22
    go_enter Try.func35, Try.ntmps35
    go_wp2
    go_ret
    exact ⟨_, rfl, Kd.N_nil _ _ _ _ _, Below.refl _ _⟩
  | some ad =>
    have hnil := fun (w : World) => Lib.run_eql_slice_nil (P := Try.prog) w 22 62 (some ad) l.length c 0 0 Try.underlying22
    go_enter Try.func35, Try.ntmps35
    go_wp2_with (first | ((with_reducible refine gate_dst (N := 5) rfl ?_); refine Kd.N_lit k62 _ 62 ?hg (N' := 5) ?hd (xs := ([] : List S62)) (inner := []) (ok := fun k => P k ∨ w.heap.size ≤ k) (okp := fun _ => False) ?hr ?hp (fun _ hk => hk.elim) (Or.inr (Nat.le_refl _)) (Below.refl _ _) (Nat.le_refl _) (by simp) ?_; (case hd => rfl); (case hg => rfl); (case hr => first | (go_simp; done) | (go_simp; rfl)); (case hp => exact (Reps.none _ _)); intro v184 w5 ho6 hb hg_ hnew_; have HN := Aside0.mk hnew_; have HO := Aside0.mk ho6; have HB5 := Aside0.mk hb; clear ho6 hb hg_ hnew_) | ((with_reducible refine gate_builtin (b := .append) (xs := #[.tmp 5, .tmp 6]) rfl ?_); at_builtin; refine Kd.N_append_rows k62 (w0 := w) w.heap.size rfl (.tmp 5) (.tmp 6) 22 62 _ 72 rfl Try.underlying22 info62 rfl (by decide) (by omega) v184 [] l (some ad) l.length c (fun k => P k ∨ w.heap.size ≤ k) (fun k => P k ∧ k < w.heap.size) rfl rfl HO.out (Kd.F_old HR0.out HB5.out) ?ha (fun k hk => Or.inr (Nat.le_trans HB5.out.size hk)) HB5.out HB5.out.size (by have := LM.out; unfold LIM at this; simp; omega) ?_; (case ha => exact fun k hk => ⟨Or.inl hk.1, fun he => (by obtain ⟨b, hb1, hb2⟩ := HN.out; have h1 := he.trans hb1; injection h1 with h1; have := hk.2; omega)⟩); intro v187 w9 ho hb hg hat; have HO2 := Aside0.mk ho; have HB2 := Aside0.mk hb; clear ho hb hg hat))
    go_ret
    exact ⟨_, rfl, HO2.out, HB2.out⟩

set_option maxHeartbeats 4000000 in
set_option maxRecDepth 100000 in
theorem cloneU (P : Nat → Prop) (A : Option Addr) (n c : Nat) (l : List S50) (w : World) (hr : Kd.F k50 w P A n l) (hcc : n ≤ c) (hlim : l.length ≤ LIM) :
    Calls Try.prog 43 #[.slice A n c] w fun e w' => ∃ v : Value, e = .returned v ∧ Kd.N k50 50 w' w.heap.size (fun k => P k ∨ w.heap.size ≤ k) v l ∧ Below w.heap.size w w' := by
  have HR0 := Aside0.mk hr
  have LM := Aside0.mk hlim
  obtain rfl : l.length = n := Kd.F_len hr
  clear hr hlim
  have HB := Aside0.mk (Below.refl w.heap.size w)
  cases A with
  | none =>
    have hl0 : l = [] := by
      have := (Kd.F_now HR0.out).2.2
      rcases l with _ | ⟨a, l⟩
      · rfl
      · obtain ⟨ad, he, _⟩ := this (by simp)
        simp at he
    subst hl0
    have hnil := fun (w : World) => Lib.run_eql_slice_nil (P := Try.prog) w 34 50 none 0 c 0 0 Try.underlying34
    go_enter Try.func43, Try.ntmps43
    go_wp2
    go_ret
    exact ⟨_, rfl, Kd.N_nil _ _ _ _ _, Below.refl _ _⟩
  | some ad =>
    have hnil := fun (w : World) => Lib.run_eql_slice_nil (P := Try.prog) w 34 50 (some ad) l.length c 0 0 Try.underlying34
    go_enter Try.func43, Try.ntmps43
    go_wp2_with (first | ((with_reducible refine gate_dst (N := 5) rfl ?_); refine Kd.N_lit k50 _ 50 ?hg (N' := 5) ?hd (xs := ([] : List S50)) (inner := []) (ok := fun k => P k ∨ w.heap.size ≤ k) (okp := fun _ => False) ?hr ?hp (fun _ hk => hk.elim) (Or.inr (Nat.le_refl _)) (Below.refl _ _) (Nat.le_refl _) (by simp) ?_; (case hd => rfl); (case hg => rfl); (case hr => first | (go_simp; done) | (go_simp; rfl)); (case hp => exact (Reps.none _ _)); intro v184 w5 ho6 hb hg_ hnew_; have HN := Aside0.mk hnew_; have HO := Aside0.mk ho6; have HB5 := Aside0.mk hb; clear ho6 hb hg_ hnew_) | ((with_reducible refine gate_builtin (b := .append) (xs := #[.tmp 5, .tmp 6]) rfl ?_); at_builtin; refine Kd.N_append_rows k50 (w0 := w) w.heap.size rfl (.tmp 5) (.tmp 6) 34 50 _ 56 rfl Try.underlying34 info50 rfl (by decide) (by omega) v184 [] l (some ad) l.length c (fun k => P k ∨ w.heap.size ≤ k) (fun k => P k ∧ k < w.heap.size) rfl rfl HO.out (Kd.F_old HR0.out HB5.out) ?ha (fun k hk => Or.inr (Nat.le_trans HB5.out.size hk)) HB5.out HB5.out.size (by have := LM.out; unfold LIM at this; simp; omega) ?_; (case ha => exact fun k hk => ⟨Or.inl hk.1, fun he => (by obtain ⟨b, hb1, hb2⟩ := HN.out; have h1 := he.trans hb1; injection h1 with h1; have := hk.2; omega)⟩); intro v187 w9 ho hb hg hat; have HO2 := Aside0.mk ho; have HB2 := Aside0.mk hb; clear ho hb hg hat))
    go_ret
    exact ⟨_, rfl, HO2.out, HB2.out⟩

set_option maxHeartbeats 4000000 in
set_option maxRecDepth 100000 in
theorem cloneR (P : Nat → Prop) (A : Option Addr) (n c : Nat) (l : List S30) (w : World) (hr : Kd.F k30 w P A n l) (hcc : n ≤ c) (hlim : l.length ≤ LIM) :
    Calls Try.prog 45 #[.slice A n c] w fun e w' => ∃ v : Value, e = .returned v ∧ Kd.N k30 30 w' w.heap.size (fun k => P k ∨ w.heap.size ≤ k) v l ∧ Below w.heap.size w w' := by
  have HR0 := Aside0.mk hr
  have LM := Aside0.mk hlim
  obtain rfl : l.length = n := Kd.F_len hr
  clear hr hlim
  have HB := Aside0.mk (Below.refl w.heap.size w)
  cases A with
  | none =>
    have hl0 : l = [] := by
      have := (Kd.F_now HR0.out).2.2
      rcases l with _ | ⟨a, l⟩
      · rfl
      · obtain ⟨ad, he, _⟩ := this (by simp)
        simp at he
    subst hl0
    have hnil := fun (w : World) => Lib.run_eql_slice_nil (P := Try.prog) w 23 30 none 0 c 0 0 Try.underlying23
    go_enter Try.func45, Try.ntmps45
    go_wp2
    go_ret
    exact ⟨_, rfl, Kd.N_nil _ _ _ _ _, Below.refl _ _⟩
  | some ad =>
    have hnil := fun (w : World) => Lib.run_eql_slice_nil (P := Try.prog) w 23 30 (some ad) l.length c 0 0 Try.underlying23
    go_enter Try.func45, Try.ntmps45
    go_wp2_with (first | ((with_reducible refine gate_dst (N := 5) rfl ?_); refine Kd.N_lit k30 _ 30 ?hg (N' := 5) ?hd (xs := ([] : List S30)) (inner := []) (ok := fun k => P k ∨ w.heap.size ≤ k) (okp := fun _ => False) ?hr ?hp (fun _ hk => hk.elim) (Or.inr (Nat.le_refl _)) (Below.refl _ _) (Nat.le_refl _) (by simp) ?_; (case hd => rfl); (case hg => rfl); (case hr => first | (go_simp; done) | (go_simp; rfl)); (case hp => exact (Reps.none _ _)); intro v184 w5 ho6 hb hg_ hnew_; have HN := Aside0.mk hnew_; have HO := Aside0.mk ho6; have HB5 := Aside0.mk hb; clear ho6 hb hg_ hnew_) | ((with_reducible refine gate_builtin (b := .append) (xs := #[.tmp 5, .tmp 6]) rfl ?_); at_builtin; refine Kd.N_append_rows k30 (w0 := w) w.heap.size rfl (.tmp 5) (.tmp 6) 23 30 _ 24 rfl Try.underlying23 info30 rfl (by decide) (by omega) v184 [] l (some ad) l.length c (fun k => P k ∨ w.heap.size ≤ k) (fun k => P k ∧ k < w.heap.size) rfl rfl HO.out (Kd.F_old HR0.out HB5.out) ?ha (fun k hk => Or.inr (Nat.le_trans HB5.out.size hk)) HB5.out HB5.out.size (by have := LM.out; unfold LIM at this; simp; omega) ?_; (case ha => exact fun k hk => ⟨Or.inl hk.1, fun he => (by obtain ⟨b, hb1, hb2⟩ := HN.out; have h1 := he.trans hb1; injection h1 with h1; have := hk.2; omega)⟩); intro v187 w9 ho hb hg hat; have HO2 := Aside0.mk ho; have HB2 := Aside0.mk hb; clear ho hb hg hat))
    go_ret
    exact ⟨_, rfl, HO2.out, HB2.out⟩

set_option maxHeartbeats 4000000 in
set_option maxRecDepth 100000 in
theorem cloneT (P : Nat → Prop) (A : Option Addr) (n c : Nat) (l : List S33) (w : World) (hr : Kd.F k33 w P A n l) (hcc : n ≤ c) (hlim : l.length ≤ LIM) :
    Calls Try.prog 56 #[.slice A n c] w fun e w' => ∃ v : Value, e = .returned v ∧ Kd.N k33 33 w' w.heap.size (fun k => P k ∨ w.heap.size ≤ k) v l ∧ Below w.heap.size w w' := by
  have HR0 := Aside0.mk hr
  have LM := Aside0.mk hlim
  obtain rfl : l.length = n := Kd.F_len hr
  clear hr hlim
  have HB := Aside0.mk (Below.refl w.heap.size w)
  cases A with
  | none =>
    have hl0 : l = [] := by
      have := (Kd.F_now HR0.out).2.2
      rcases l with _ | ⟨a, l⟩
      · rfl
      · obtain ⟨ad, he, _⟩ := this (by simp)
        simp at he
    subst hl0
    have hnil := fun (w : World) => Lib.run_eql_slice_nil (P := Try.prog) w 24 33 none 0 c 0 0 Try.underlying24
    go_enter Try.func56, Try.ntmps56
    go_wp2
    go_ret
    exact ⟨_, rfl, Kd.N_nil _ _ _ _ _, Below.refl _ _⟩
  | some ad =>
    have hnil := fun (w : World) => Lib.run_eql_slice_nil (P := Try.prog) w 24 33 (some ad) l.length c 0 0 Try.underlying24
    go_enter Try.func56, Try.ntmps56
    go_wp2_with (first | ((with_reducible refine gate_dst (N := 5) rfl ?_); refine Kd.N_lit k33 _ 33 ?hg (N' := 5) ?hd (xs := ([] : List S33)) (inner := []) (ok := fun k => P k ∨ w.heap.size ≤ k) (okp := fun _ => False) ?hr ?hp (fun _ hk => hk.elim) (Or.inr (Nat.le_refl _)) (Below.refl _ _) (Nat.le_refl _) (by simp) ?_; (case hd => rfl); (case hg => rfl); (case hr => first | (go_simp; done) | (go_simp; rfl)); (case hp => exact (Reps.none _ _)); intro v184 w5 ho6 hb hg_ hnew_; have HN := Aside0.mk hnew_; have HO := Aside0.mk ho6; have HB5 := Aside0.mk hb; clear ho6 hb hg_ hnew_) | ((with_reducible refine gate_builtin (b := .append) (xs := #[.tmp 5, .tmp 6]) rfl ?_); at_builtin; refine Kd.N_append_rows k33 (w0 := w) w.heap.size rfl (.tmp 5) (.tmp 6) 24 33 _ 16 rfl Try.underlying24 info33 rfl (by decide) (by omega) v184 [] l (some ad) l.length c (fun k => P k ∨ w.heap.size ≤ k) (fun k => P k ∧ k < w.heap.size) rfl rfl HO.out (Kd.F_old HR0.out HB5.out) ?ha (fun k hk => Or.inr (Nat.le_trans HB5.out.size hk)) HB5.out HB5.out.size (by have := LM.out; unfold LIM at this; simp; omega) ?_; (case ha => exact fun k hk => ⟨Or.inl hk.1, fun he => (by obtain ⟨b, hb1, hb2⟩ := HN.out; have h1 := he.trans hb1; injection h1 with h1; have := hk.2; omega)⟩); intro v187 w9 ho hb hg hat; have HO2 := Aside0.mk ho; have HB2 := Aside0.mk hb; clear ho hb hg hat))
    go_ret
    exact ⟨_, rfl, HO2.out, HB2.out⟩
end Go.Proofs.Ytfojpobblebigaa.P
