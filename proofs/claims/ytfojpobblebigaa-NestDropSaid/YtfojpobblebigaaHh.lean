/- nest.Put and nest.Keep. -/
import Derived.Test.YtfojpobblebigaaHg
namespace Go.Proofs.Ytfojpobblebigaa.P
open Go.RowKit Go.Proofs.YtfojpobblebigaaW.PrintWords Go.Proofs.YtfojpobblebigaaW.PrintLast Go.Proofs.YtfojpobblebigaaW.PrintMore
set_option linter.unusedVariables false
set_option linter.unusedSimpArgs false

/-- A slice of one element, freshly laid. -/
theorem F_new33 (W : World) (ok : Nat → Prop) (s : S33) (hok : ok W.heap.size) : Kd.F k33 (W.alloc (.cells #[.int .i64 s.f0, .int .i64 s.f1] 33)) ok (some ⟨W.heap.size, 0, none⟩) 1 [s] := fun W' hW => by
  have hb : W'.heap[W.heap.size]? = some (.cells #[.int .i64 s.f0, .int .i64 s.f1] 33 (0, 0)) := (hW _ hok (by simp)).trans (heap_alloc_new W _)
  refine ⟨rfl, by omega, fun _ => ⟨_, rfl, fun j p hj => ?_⟩⟩
  rcases j with _ | j
  · obtain rfl : s = p := by simpa using hj
    refine ⟨[.int .i64 s.f0, .int .i64 s.f1], rfl, k33_mk _ _, fun i u hi => ?_⟩
    rw [Addr.add_lit, blk_cell hb]
    show #[Value.int .i64 s.f0, .int .i64 s.f1][0 + (0 * 2 + i)]? = _
    rw [Nat.zero_mul, Nat.zero_add, Nat.zero_add]
    simpa using hi
  · simp at hj
set_option maxHeartbeats 8000000 in
set_option maxRecDepth 100000 in
theorem writeC (W : World) (g off : Nat) (ok : Nat → Prop) (x : S62) (cs : Array Value) (b : Nat) (s : S33) (h : Lvl W g off ok x cs)
    (hc0 : W.cell? ⟨b, 0, none⟩ = some (.int .i64 s.f0)) (hc1 : W.cell? ⟨b, 1, none⟩ = some (.int .i64 s.f1)) (hl : x.f1.length + 1 ≤ LIM) (hok : ∀ k, W.heap.size ≤ k → ok k) :
    Calls Try.prog 39 (#[.pointer (some ⟨g, off, none⟩)] ++ #[.pointer (some ⟨b, 0, none⟩)]) W fun e w' => e = .returned (.tuple #[]) ∧ LvlTo W g off ok cs { x with f1 := writeL x.f1 [s] } w' := by
  have hgl := blk_lt h.1
  have hB : Below W.heap.size W (W.alloc (.cells #[.int .i64 s.f0, .int .i64 s.f1] 33)) := below_alloc (Below.refl _ _) _
  have HC := Aside0.mk (write_lvl _ g off ok x cs _ 1 1 [s] (lvl_below h hB) (F_new33 W (fun k => ok k ∧ k ≠ g) s ⟨hok _ (Nat.le_refl _), by omega⟩) hl (fun k hk => hok k (by simp at hk; omega)))
  have HB := Aside0.mk hB
  clear h hB
  show Calls Try.prog 39 #[.pointer (some ⟨g, off, none⟩), .pointer (some ⟨b, 0, none⟩)] W _
  go_enter Try.func39, Try.ntmps39
  go_wp2_with (go_at_call 40; refine HC.out.mono ?_; rintro e w' ⟨rfl, hq⟩)
  exact bodyPost_end (results_none rfl _ _ _) rfl ⟨rfl, LvlTo.of_below HB.out hq⟩

/-! ### nest.Put: function 14 -/
def nPut.f (l : List S62) (a b : Int) : Option (List S62) := if tot l < LIM then some (onLast l (fun x => { x with f1 := writeL x.f1 [⟨a, b⟩] })) else none
set_option maxHeartbeats 8000000 in
set_option maxRecDepth 100000 in
theorem nPut.calls (P0 : Nat → Prop) (A0 : Option Addr) (c0 : Nat) (l0 : List S62) (a1_0 a1_1 : Int) (r : List S62) (w : World) (hs0 : Kd.V k62 62 w w.heap.size (fun k_ => P0 k_) (.slice A0 l0.length c0) l0) (h : nPut.f l0 a1_0 a1_1 = some r) :
    Calls Try.prog 14 #[.slice A0 l0.length c0, .agg #[.int .i64 a1_0, .int .i64 a1_1]] w fun e w' => ∃ v0_ : Value, e = .returned v0_ ∧ Kd.V k62 62 w' w.heap.size (fun k_ => P0 k_ ∨ w.heap.size ≤ k_) v0_ r ∧ Below w.heap.size w w' := by
  unfold nPut.f at h
  split at h
  case isFalse => cases h
  case isTrue hT =>
  obtain rfl := Option.some.inj h
  clear h
  obtain ⟨hn, hc, hF⟩ := Kd.V_at hs0
  have eg39 := enters_of Try.func39 (by kernel_rfl) rfl
  have hll := tot_len l0
  have hB : Below w.heap.size w (w.alloc (.cells #[.int .i64 a1_0, .int .i64 a1_1] 33)) := below_alloc (Below.refl _ _) _
  have HC := Aside0.mk (last_v P0 A0 c0 l0 39 #[.pointer (some ⟨w.heap.size, 0, none⟩)] eg39 (fun x => { x with f1 := writeL x.f1 [⟨a1_0, a1_1⟩] }) (w.alloc (.cells #[.int .i64 a1_0, .int .i64 a1_1] 33)) (Kd.F_below hF hB) hc (by omega) (fun hne W g off cs hW hg hL => by
    have hm := tot_mem (last_mem hne)
    have hlt : w.heap.size < (w.alloc (.cells #[.int .i64 a1_0, .int .i64 a1_1] 33)).heap.size := by simp
    refine writeC W g off _ _ cs w.heap.size ⟨a1_0, a1_1⟩ hL ?_ ?_ (by omega) (fun k hk => .inr (Nat.le_trans hW.size hk))
    · exact (hW.cell (p := ⟨w.heap.size, 0, none⟩) hlt).trans (by simp)
    · exact (hW.cell (p := ⟨w.heap.size, 1, none⟩) hlt).trans (by simp)))
  have HB := Aside0.mk hB
  have hsz : w.heap.size ≤ (w.alloc (.cells #[.int .i64 a1_0, .int .i64 a1_1] 33)).heap.size := by simp
  clear hF hs0 hB
  go_enter Try.func14, Try.ntmps14
  go_wp2_with (go_at_call 36; refine HC.out.mono ?_; rintro e w' ⟨v, rfl, hV, hb⟩; obtain ⟨A9, c9, rfl⟩ := Kd.V_slice hV; have H1 := Aside0.mk hV; have H2 := Aside0.mk hb; clear hV hb)
  go_ret
  exact ⟨_, rfl, Kd.V_mono (Kd.V_lower H1.out hsz) (fun k hk => hk.imp id (fun h => Nat.le_trans hsz h)), HB.out.trans (H2.out.mono hsz)⟩

theorem F_new50 (W : World) (ok : Nat → Prop) (u : S50) (A3 : Option Addr) (c3 : Nat) (l3 : u.f0.f3.length ≤ c3) (hf : Kd.F k48 W ok A3 u.f0.f3.length u.f0.f3) (hok : ok W.heap.size) : Kd.F k50 (W.alloc (.cells #[.int .i64 u.f0.f0, .int .i64 u.f0.f1, .int .i64 u.f0.f2, .slice A3 u.f0.f3.length c3, .int .i64 u.f1] 50)) ok (some ⟨W.heap.size, 0, none⟩) 1 [u] := fun W' hW => by
  have hb : W'.heap[W.heap.size]? = some (.cells #[.int .i64 u.f0.f0, .int .i64 u.f0.f1, .int .i64 u.f0.f2, .slice A3 u.f0.f3.length c3, .int .i64 u.f1] 50 (0, 0)) := (hW _ hok (by simp)).trans (heap_alloc_new W _)
  have h3 := hf W' (fun k hk hlt => (hW k hk (by simp; omega)).trans (Below.heap_alloc W _ k hlt))
  refine ⟨rfl, by omega, fun _ => ⟨_, rfl, fun j p hj => ?_⟩⟩
  rcases j with _ | j
  · obtain rfl : u = p := by simpa using hj
    refine ⟨[.int .i64 u.f0.f0, .int .i64 u.f0.f1, .int .i64 u.f0.f2, .slice A3 u.f0.f3.length c3, .int .i64 u.f1], rfl, k50_mk _ _ l3 h3, fun i v hi => ?_⟩
    rw [Addr.add_lit, blk_cell hb]
    show (#[.int .i64 u.f0.f0, .int .i64 u.f0.f1, .int .i64 u.f0.f2, .slice A3 u.f0.f3.length c3, .int .i64 u.f1] : Array Value)[0 + (0 * 5 + i)]? = _
    rw [Nat.zero_mul, Nat.zero_add, Nat.zero_add]
    simpa using hi
  · simp at hj
set_option maxHeartbeats 8000000 in
set_option maxRecDepth 100000 in
theorem keepC (W : World) (g off : Nat) (ok : Nat → Prop) (x : S62) (cs : Array Value) (b : Nat) (u : S50) (A3 : Option Addr) (c3 : Nat) (h : Lvl W g off ok x cs) (l3 : u.f0.f3.length ≤ c3) (hf : Kd.F k48 W (fun k => ok k ∧ k ≠ g) A3 u.f0.f3.length u.f0.f3)
    (hc0 : W.cell? ⟨b, 0, none⟩ = some (.int .i64 u.f0.f0)) (hc1 : W.cell? ⟨b, 1, none⟩ = some (.int .i64 u.f0.f1)) (hc2 : W.cell? ⟨b, 2, none⟩ = some (.int .i64 u.f0.f2)) (hc3 : W.cell? ⟨b, 3, none⟩ = some (.slice A3 u.f0.f3.length c3)) (hc4 : W.cell? ⟨b, 4, none⟩ = some (.int .i64 u.f1)) (hl : x.f2.length + 1 ≤ LIM) (hok : ∀ k, W.heap.size ≤ k → ok k) :
    Calls Try.prog 50 (#[.pointer (some ⟨g, off, none⟩)] ++ #[.pointer (some ⟨b, 0, none⟩)]) W fun e w' => e = .returned (.tuple #[]) ∧ LvlTo W g off ok cs { x with f2 := x.f2 ++ [u] } w' := by
  have hgl := blk_lt h.1
  have hB : Below W.heap.size W (W.alloc (.cells #[.int .i64 u.f0.f0, .int .i64 u.f0.f1, .int .i64 u.f0.f2, .slice A3 u.f0.f3.length c3, .int .i64 u.f1] 50)) := below_alloc (Below.refl _ _) _
  have HC := Aside0.mk (keep_lvl _ g off ok x cs _ 1 1 [u] (lvl_below h hB) (F_new50 W (fun k => ok k ∧ k ≠ g) u A3 c3 l3 hf ⟨hok _ (Nat.le_refl _), by omega⟩) hl (fun k hk => hok k (by simp at hk; omega)))
  have HB := Aside0.mk hB
  clear h hB hf
  show Calls Try.prog 50 #[.pointer (some ⟨g, off, none⟩), .pointer (some ⟨b, 0, none⟩)] W _
  go_enter Try.func50, Try.ntmps50
  go_wp2_with (go_at_call 51; refine HC.out.mono ?_; rintro e w' ⟨rfl, hq⟩)
  exact bodyPost_end (results_none rfl _ _ _) rfl ⟨rfl, LvlTo.of_below HB.out hq⟩

/-! ### nest.Keep: function 23 -/
def nKeep.f (l : List S62) (a b c : Int) (d : List S48) (e : Int) : Option (List S62) := if tot l < LIM then some (onLast l (fun x => { x with f2 := x.f2 ++ [⟨⟨a, b, c, d⟩, e⟩] })) else none
set_option maxHeartbeats 8000000 in
set_option maxRecDepth 100000 in
theorem nKeep.calls (P0 : Nat → Prop) (A0 : Option Addr) (c0 : Nat) (l0 : List S62) (a1_0 a1_1 a1_2 : Int) (P1 : Nat → Prop) (A1_3 : Option Addr) (c1_3 : Nat) (l1_3 : List S48) (a1_4 : Int) (r : List S62) (w : World) (hs0 : Kd.V k62 62 w w.heap.size (fun k_ => P0 k_) (.slice A0 l0.length c0) l0) (hs1 : Kd.V k48 48 w w.heap.size (fun k_ => P1 k_) (.slice A1_3 l1_3.length c1_3) l1_3) (h : nKeep.f l0 a1_0 a1_1 a1_2 l1_3 a1_4 = some r) :
    Calls Try.prog 23 #[.slice A0 l0.length c0, .agg #[.int .i64 a1_0, .int .i64 a1_1, .int .i64 a1_2, .slice A1_3 l1_3.length c1_3, .int .i64 a1_4]] w fun e w' => ∃ v0_ : Value, e = .returned v0_ ∧ Kd.V k62 62 w' w.heap.size (fun k_ => (P0 k_ ∨ P1 k_) ∨ w.heap.size ≤ k_) v0_ r ∧ Below w.heap.size w w' := by
  unfold nKeep.f at h
  split at h
  case isFalse => cases h
  case isTrue hT =>
  obtain rfl := Option.some.inj h
  clear h
  obtain ⟨hn, hc, hF⟩ := Kd.V_at hs0
  obtain ⟨hn3, hc3, hF3⟩ := Kd.V_at hs1
  have eg50 := enters_of Try.func50 (by kernel_rfl) rfl
  have hll := tot_len l0
  have hB : Below w.heap.size w (w.alloc (.cells #[.int .i64 a1_0, .int .i64 a1_1, .int .i64 a1_2, .slice A1_3 l1_3.length c1_3, .int .i64 a1_4] 50)) := below_alloc (Below.refl _ _) _
  have HC := Aside0.mk (last_v (fun k => P0 k ∨ (P1 k ∧ k < w.heap.size)) A0 c0 l0 50 #[.pointer (some ⟨w.heap.size, 0, none⟩)] eg50 (fun x => { x with f2 := x.f2 ++ [⟨⟨a1_0, a1_1, a1_2, l1_3⟩, a1_4⟩] }) (w.alloc (.cells #[.int .i64 a1_0, .int .i64 a1_1, .int .i64 a1_2, .slice A1_3 l1_3.length c1_3, .int .i64 a1_4] 50)) (Kd.F_mono (Kd.F_below hF hB) (fun k hk => .inl hk)) hc (by omega) (fun hne W g off cs hW hg hL => by
    have hm := tot_mem (last_mem hne)
    have hlt : w.heap.size < (w.alloc (.cells #[.int .i64 a1_0, .int .i64 a1_1, .int .i64 a1_2, .slice A1_3 l1_3.length c1_3, .int .i64 a1_4] 50)).heap.size := by simp
    have hf3 := Kd.F_mono (Kd.F_below (Kd.F_old hF3 hB) hW) (ok' := fun k => ((P0 k ∨ (P1 k ∧ k < w.heap.size)) ∨ (w.alloc (.cells #[.int .i64 a1_0, .int .i64 a1_1, .int .i64 a1_2, .slice A1_3 l1_3.length c1_3, .int .i64 a1_4] 50)).heap.size ≤ k) ∧ k ≠ g) (fun k hk => ⟨.inl (.inr hk), by have := hk.2; omega⟩)
    refine keepC W g off _ _ cs w.heap.size ⟨⟨a1_0, a1_1, a1_2, l1_3⟩, a1_4⟩ A1_3 c1_3 hL hc3 hf3 ?_ ?_ ?_ ?_ ?_ (by omega) (fun k hk => .inr (Nat.le_trans hW.size hk))
    · exact (hW.cell (p := ⟨w.heap.size, 0, none⟩) hlt).trans (by simp)
    · exact (hW.cell (p := ⟨w.heap.size, 1, none⟩) hlt).trans (by simp)
    · exact (hW.cell (p := ⟨w.heap.size, 2, none⟩) hlt).trans (by simp)
    · exact (hW.cell (p := ⟨w.heap.size, 3, none⟩) hlt).trans (by simp)
    · exact (hW.cell (p := ⟨w.heap.size, 4, none⟩) hlt).trans (by simp)))
  have HB := Aside0.mk hB
  have hsz : w.heap.size ≤ (w.alloc (.cells #[.int .i64 a1_0, .int .i64 a1_1, .int .i64 a1_2, .slice A1_3 l1_3.length c1_3, .int .i64 a1_4] 50)).heap.size := by simp
  clear hF hs0 hB hF3 hs1
  go_enter Try.func23, Try.ntmps23
  go_wp2_with (go_at_call 36; refine HC.out.mono ?_; rintro e w' ⟨v, rfl, hV, hb⟩; obtain ⟨A9, c9, rfl⟩ := Kd.V_slice hV; have H1 := Aside0.mk hV; have H2 := Aside0.mk hb; clear hV hb)
  go_ret
  exact ⟨_, rfl, Kd.V_mono (Kd.V_lower H1.out hsz) (fun k hk => hk.imp (fun h => h.imp id (fun h => h.1)) (fun h => Nat.le_trans hsz h)), HB.out.trans (H2.out.mono hsz)⟩
end Go.Proofs.Ytfojpobblebigaa.P
