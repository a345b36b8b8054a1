/- nest.last at every change; nest.Begin, Read, Put, Keep. -/
import Derived.Test.YtfojpobblebigaaHf
namespace Go.Proofs.Ytfojpobblebigaa.P
open Go.RowKit Go.Proofs.YtfojpobblebigaaW.PrintWords Go.Proofs.YtfojpobblebigaaW.PrintLast Go.Proofs.YtfojpobblebigaaW.PrintMore
set_option linter.unusedVariables false
set_option linter.unusedSimpArgs false

theorem below_of_keep {w W w' : World} {g : Nat} (hb : Below w.heap.size w W) (hk : KeepBut W w' g none) (hz : Below 0 W w') (hg : w.heap.size ≤ g) : Below w.heap.size w w' :=
  ⟨hz.os.trans hb.os, hz.tape.trans hb.tape, hz.output.trans hb.output, Nat.le_trans hb.size hk.1, fun k hk' => (hk.2 k (Nat.lt_of_lt_of_le hk' hb.size) (by omega) (by simp)).trans (hb.block k hk')⟩

set_option maxHeartbeats 8000000 in
set_option maxRecDepth 100000 in
theorem last_walk (P : Nat → Prop) (A : Option Addr) (n c : Nat) (l : List S62) (gf : Nat) (lb : Array Value) (eg : ∀ args w, (callFunc gf args).run Try.prog w = .ok (.enter gf args) w) (y : S62) (w : World)
    (hr : Kd.F k62 w P A n l) (hc : n ≤ c) (hlim : l.length ≤ LIM) (hne : 0 < l.length)
    (hf : ∀ W g off cs, Below w.heap.size w W → w.heap.size ≤ g → Lvl W g off (fun k => P k ∨ w.heap.size ≤ k) (l.getD (l.length - 1) z62) cs → Calls Try.prog gf (#[.pointer (some ⟨g, off, none⟩)] ++ lb) W fun e w' => e = .returned (.tuple #[]) ∧ LvlTo W g off (fun k => P k ∨ w.heap.size ≤ k) cs y w') :
    Calls Try.prog 36 #[.slice A n c, .func (.func gf) #[] lb] w fun e w' => ∃ v : Value, e = .returned v ∧ Kd.N k62 62 w' w.heap.size (fun k => P k ∨ w.heap.size ≤ k) v (l.set (l.length - 1) y) ∧ Below w.heap.size w w' := by
  have HCL := Aside0.mk (cloneL P A n c l w hr hc hlim)
  have HF := Aside0.mk hf
  obtain rfl : l.length = n := Kd.F_len hr
  have hl63 : l.length ≤ 9223372036854775807 := by unfold LIM at hlim; omega
  have hn0 : ¬ ((l.length : Int) = 0) := by omega
  have hi0 : (0 : Int) ≤ (l.length : Int) - 1 := by omega
  have hi1 : (l.length : Int) - 1 < (l.length : Int) := by omega
  have hw1 : IntKind.i64.wrap ((l.length : Int) - 1) = (l.length : Int) - 1 := by rw [IntKind.wrap_i64]; omega
  have htn : ((l.length : Int) - 1).toNat = l.length - 1 := by omega
  clear hr hf
  go_enter Try.func36, Try.ntmps36
  go_wp2_with (go_at_call 35; refine HCL.out.mono ?_; rintro e w1 ⟨v, rfl, hN, hB1⟩; obtain ⟨g, cap, rfl, hg, hg1, cells, hb⟩ := Kd.N_form hN hne)
  obtain ⟨cl, hcl, hfk, hcc, _⟩ := Kd.N_elem hN z62 ((l.length : Int) - 1) hi0 hi1
  rw [htn] at hfk hcc
  have hcl3 : cl.length = 3 := hcl
  have hlv : Lvl w1 g ((l.length - 1) * 3) (fun k => P k ∨ w.heap.size ≤ k) (l.getD (l.length - 1) z62) cells := by
    refine ⟨hb, cl, fun j hj => ?_, hfk⟩
    have h1 := hcc j (cl[j]'(by omega)) (List.getElem?_eq_getElem (by omega))
    rw [← blk_cell hb, List.getElem?_eq_getElem (by omega)]
    exact h1
  refine (HF.out w1 g _ cells hB1 hg hlv).mono ?_
  rintro e w2 ⟨rfl, cs', hlv2, hnear, hK, hZ⟩
  have HN := Aside0.mk (N62_upd hN hb (by omega) hK hnear hlv2 (fun k hk => hk))
  have HB := Aside0.mk (below_of_keep hB1 hK hZ hg)
  clear hcc hfk hlv hlv2 hnear hK hZ hN hB1 hb
  go_wp2
  go_ret
  refine ⟨_, rfl, ?_, HB.out⟩
  have := HN.out
  exact this

/-- How many levels and entries there are. -/
def tot (l : List S62) : Nat := l.length + (l.map fun x => x.f0.length + x.f1.length + x.f2.length).sum
theorem tot_len (l : List S62) : l.length ≤ tot l := Nat.le_add_right _ _
theorem sum_mem : ∀ {l : List Nat} {x : Nat}, x ∈ l → x ≤ l.sum
  | y :: l, x, h => by
    rw [List.sum_cons]
    rcases List.mem_cons.1 h with rfl | h
    · omega
    · have := sum_mem h; omega
theorem tot_mem {l : List S62} {x : S62} (h : x ∈ l) : l.length + (x.f0.length + x.f1.length + x.f2.length) ≤ tot l := by
  have h2 := sum_mem (List.mem_map_of_mem (f := fun x : S62 => x.f0.length + x.f1.length + x.f2.length) h)
  unfold tot
  exact Nat.add_le_add_left h2 _
theorem last_mem {l : List S62} (h : 0 < l.length) : l.getD (l.length - 1) z62 ∈ l := by
  rw [List.getD_eq_getElem?_getD, List.getElem?_eq_getElem (by omega)]
  exact List.getElem_mem _
/-- A change of the innermost level. -/
def onLast (l : List S62) (f : S62 → S62) : List S62 := if l.length = 0 then l else l.set (l.length - 1) (f (l.getD (l.length - 1) z62))

theorem last_nil (P : Nat → Prop) (A : Option Addr) (n c : Nat) (gf : Nat) (lb : Array Value) (w : World) (hr : Kd.F k62 w P A n []) :
    Calls Try.prog 36 #[.slice A n c, .func (.func gf) #[] lb] w fun e w' => e = .returned (.slice A n c) ∧ Drawn0 w w' := by
  obtain rfl : 0 = n := Kd.F_len hr
  go_enter Try.func36, Try.ntmps36
  go_wp2
  go_ret
  exact ⟨rfl, Drawn0.refl _⟩

/-- In the printed form: what the change of the innermost level leaves. -/
theorem last_v (P : Nat → Prop) (A : Option Addr) (c : Nat) (l : List S62) (gf : Nat) (lb : Array Value) (eg : ∀ args w, (callFunc gf args).run Try.prog w = .ok (.enter gf args) w) (f : S62 → S62) (w : World)
    (hr : Kd.F k62 w P A l.length l) (hc : l.length ≤ c) (hlim : l.length ≤ LIM)
    (hf : 0 < l.length → ∀ W g off cs, Below w.heap.size w W → w.heap.size ≤ g → Lvl W g off (fun k => P k ∨ w.heap.size ≤ k) (l.getD (l.length - 1) z62) cs → Calls Try.prog gf (#[.pointer (some ⟨g, off, none⟩)] ++ lb) W fun e w' => e = .returned (.tuple #[]) ∧ LvlTo W g off (fun k => P k ∨ w.heap.size ≤ k) cs (f (l.getD (l.length - 1) z62)) w') :
    Calls Try.prog 36 #[.slice A l.length c, .func (.func gf) #[] lb] w fun e w' => ∃ v : Value, e = .returned v ∧ Kd.V k62 62 w' w.heap.size (fun k => P k ∨ w.heap.size ≤ k) v (onLast l f) ∧ Below w.heap.size w w' := by
  unfold onLast
  split
  · next h =>
    have : l = [] := List.eq_nil_of_length_eq_zero h
    subst this
    refine (last_nil P A _ c gf lb w hr).mono ?_
    rintro e w' ⟨rfl, hd⟩
    exact ⟨_, rfl, Kd.V_below (Kd.V_mono (Kd.V_mk hc hr) (fun k hk => .inl hk)) hd.below, hd.below⟩
  · next h =>
    refine (last_walk P A _ c l gf lb eg (f (l.getD (l.length - 1) z62)) w hr hc hlim (by omega) (hf (by omega))).mono ?_
    rintro e w' ⟨v, rfl, hN, hB⟩
    exact ⟨v, rfl, Kd.N_V hN, hB⟩

theorem lvl_below {W W1 : World} {g off : Nat} {ok : Nat → Prop} {x : S62} {cs : Array Value} (h : Lvl W g off ok x cs) (hb : Below W.heap.size W W1) : Lvl W1 g off ok x cs := by
  obtain ⟨h1, c, hc, hf⟩ := h
  exact ⟨blk_below h1 hb, c, hc, Kd.FK_below hf hb⟩
theorem LvlTo.of_below {W W1 w' : World} {g off : Nat} {ok : Nat → Prop} {cs : Array Value} {y : S62} (hb : Below W.heap.size W W1) (h : LvlTo W1 g off ok cs y w') : LvlTo W g off ok cs y w' :=
  LvlTo.trans (Near.refl _ _) (KeepBut.of_below hb g none) (hb.mono (Nat.zero_le _)) h
/-- A slice of one element, freshly laid. -/
theorem F_new30 (W : World) (ok : Nat → Prop) (s : S30) (hok : ok W.heap.size) : Kd.F k30 (W.alloc (.cells #[.int .i64 s.f0, .int .i64 s.f1, .int .i64 s.f2] 30)) ok (some ⟨W.heap.size, 0, none⟩) 1 [s] := fun W' hW => by
  have hb : W'.heap[W.heap.size]? = some (.cells #[.int .i64 s.f0, .int .i64 s.f1, .int .i64 s.f2] 30 (0, 0)) := (hW _ hok (by simp)).trans (heap_alloc_new W _)
  refine ⟨rfl, by omega, fun _ => ⟨_, rfl, fun j p hj => ?_⟩⟩
  rcases j with _ | j
  · obtain rfl : s = p := by simpa using hj
    refine ⟨[.int .i64 s.f0, .int .i64 s.f1, .int .i64 s.f2], rfl, k30_mk _ _, fun i u hi => ?_⟩
    rw [Addr.add_lit, blk_cell hb]
    show #[Value.int .i64 s.f0, .int .i64 s.f1, .int .i64 s.f2][0 + (0 * 3 + i)]? = _
    rw [Nat.zero_mul, Nat.zero_add, Nat.zero_add]
    simpa using hi
  · simp at hj
set_option maxHeartbeats 8000000 in
set_option maxRecDepth 100000 in
theorem readC (W : World) (g off : Nat) (ok : Nat → Prop) (x : S62) (cs : Array Value) (b : Nat) (s : S30) (h : Lvl W g off ok x cs)
    (hc0 : W.cell? ⟨b, 0, none⟩ = some (.int .i64 s.f0)) (hc1 : W.cell? ⟨b, 1, none⟩ = some (.int .i64 s.f1)) (hc2 : W.cell? ⟨b, 2, none⟩ = some (.int .i64 s.f2)) (hl : x.f0.length + 1 ≤ LIM) (hok : ∀ k, W.heap.size ≤ k → ok k) :
    Calls Try.prog 37 (#[.pointer (some ⟨g, off, none⟩)] ++ #[.pointer (some ⟨b, 0, none⟩)]) W fun e w' => e = .returned (.tuple #[]) ∧ LvlTo W g off ok cs { x with f0 := readL x.f0 [s] } w' := by
  have hgl := blk_lt h.1
  have hB : Below W.heap.size W (W.alloc (.cells #[.int .i64 s.f0, .int .i64 s.f1, .int .i64 s.f2] 30)) := below_alloc (Below.refl _ _) _
  have HC := Aside0.mk (read_lvl _ g off ok x cs _ 1 1 [s] (lvl_below h hB) (F_new30 W (fun k => ok k ∧ k ≠ g) s ⟨hok _ (Nat.le_refl _), by omega⟩) hl (fun k hk => hok k (by simp at hk; omega)))
  have HB := Aside0.mk hB
  clear h hB
  show Calls Try.prog 37 #[.pointer (some ⟨g, off, none⟩), .pointer (some ⟨b, 0, none⟩)] W _
  go_enter Try.func37, Try.ntmps37
  go_wp2_with (go_at_call 38; refine HC.out.mono ?_; rintro e w' ⟨rfl, hq⟩)
  exact bodyPost_end (results_none rfl _ _ _) rfl ⟨rfl, LvlTo.of_below HB.out hq⟩

/-! ### nest.Read: function 13 -/
def nRead.f (l : List S62) (a b c : Int) : Option (List S62) := if tot l < LIM then some (onLast l (fun x => { x with f0 := readL x.f0 [⟨a, b, c⟩] })) else none
set_option maxHeartbeats 8000000 in
set_option maxRecDepth 100000 in
theorem nRead.calls (P0 : Nat → Prop) (A0 : Option Addr) (c0 : Nat) (l0 : List S62) (a1_0 a1_1 a1_2 : Int) (r : List S62) (w : World) (hs0 : Kd.V k62 62 w w.heap.size (fun k_ => P0 k_) (.slice A0 l0.length c0) l0) (h : nRead.f l0 a1_0 a1_1 a1_2 = some r) :
    Calls Try.prog 13 #[.slice A0 l0.length c0, .agg #[.int .i64 a1_0, .int .i64 a1_1, .int .i64 a1_2]] w fun e w' => ∃ v0_ : Value, e = .returned v0_ ∧ Kd.V k62 62 w' w.heap.size (fun k_ => P0 k_ ∨ w.heap.size ≤ k_) v0_ r ∧ Below w.heap.size w w' := by
  unfold nRead.f at h
  split at h
  case isFalse => cases h
  case isTrue hT =>
  obtain rfl := Option.some.inj h
  clear h
  obtain ⟨hn, hc, hF⟩ := Kd.V_at hs0
  have eg37 := enters_of Try.func37 (by kernel_rfl) rfl
  have hll := tot_len l0
  have hB : Below w.heap.size w (w.alloc (.cells #[.int .i64 a1_0, .int .i64 a1_1, .int .i64 a1_2] 30)) := below_alloc (Below.refl _ _) _
  have HC := Aside0.mk (last_v P0 A0 c0 l0 37 #[.pointer (some ⟨w.heap.size, 0, none⟩)] eg37 (fun x => { x with f0 := readL x.f0 [⟨a1_0, a1_1, a1_2⟩] }) (w.alloc (.cells #[.int .i64 a1_0, .int .i64 a1_1, .int .i64 a1_2] 30)) (Kd.F_below hF hB) hc (by omega) (fun hne W g off cs hW hg hL => by
    have hm := tot_mem (last_mem hne)
    have hlt : w.heap.size < (w.alloc (.cells #[.int .i64 a1_0, .int .i64 a1_1, .int .i64 a1_2] 30)).heap.size := by simp
    refine readC W g off _ _ cs w.heap.size ⟨a1_0, a1_1, a1_2⟩ hL ?_ ?_ ?_ (by omega) (fun k hk => .inr (Nat.le_trans hW.size hk))
    · exact (hW.cell (p := ⟨w.heap.size, 0, none⟩) hlt).trans (by simp)
    · exact (hW.cell (p := ⟨w.heap.size, 1, none⟩) hlt).trans (by simp)
    · exact (hW.cell (p := ⟨w.heap.size, 2, none⟩) hlt).trans (by simp)))
  have HB := Aside0.mk hB
  have hsz : w.heap.size ≤ (w.alloc (.cells #[.int .i64 a1_0, .int .i64 a1_1, .int .i64 a1_2] 30)).heap.size := by simp
  clear hF hs0 hB
  go_enter Try.func13, Try.ntmps13
  go_wp2_with (go_at_call 36; refine HC.out.mono ?_; rintro e w' ⟨v, rfl, hV, hb⟩; obtain ⟨A9, c9, rfl⟩ := Kd.V_slice hV; have H1 := Aside0.mk hV; have H2 := Aside0.mk hb; clear hV hb)
  go_ret
  exact ⟨_, rfl, Kd.V_mono (Kd.V_lower H1.out hsz) (fun k hk => hk.imp id (fun h => Nat.le_trans hsz h)), HB.out.trans (H2.out.mono hsz)⟩
end Go.Proofs.Ytfojpobblebigaa.P
