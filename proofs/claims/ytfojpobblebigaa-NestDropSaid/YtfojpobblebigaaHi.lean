/- nest.Begin; merging one level into another; nest.fold, End. -/
import Derived.Test.YtfojpobblebigaaHh
namespace Go.Proofs.Ytfojpobblebigaa.P
open Go.RowKit Go.Proofs.YtfojpobblebigaaW.PrintWords Go.Proofs.YtfojpobblebigaaW.PrintLast Go.Proofs.YtfojpobblebigaaW.PrintMore
set_option linter.unusedVariables false
set_option linter.unusedSimpArgs false

/-! ### nest.Begin: function 12 -/
def nBegin.f (l : List S62) : Option (List S62) := if tot l < LIM then some (l ++ [z62]) else none
theorem z62_F (W : World) (ok : Nat → Prop) : Kd.FK k62 W ok z62 [.slice none 0 0, .slice none 0 0, .slice none 0 0] :=
  k62_mkF W ok z62 (A0 := none) (c0 := 0) (Nat.le_refl _) (Kd.F_nil _ _ _) (A1 := none) (c1 := 0) (Nat.le_refl _) (Kd.F_nil _ _ _) (A2 := none) (c2 := 0) (Nat.le_refl _) (Kd.F_nil _ _ _)
set_option maxHeartbeats 8000000 in
set_option maxRecDepth 100000 in
theorem nBegin.calls (P0 : Nat → Prop) (A0 : Option Addr) (c0 : Nat) (l0 : List S62) (r : List S62) (w : World) (hs0 : Kd.V k62 62 w w.heap.size (fun k_ => P0 k_) (.slice A0 l0.length c0) l0) (h : nBegin.f l0 = some r) :
    Calls Try.prog 12 #[.slice A0 l0.length c0] w fun e w' => ∃ v0_ : Value, e = .returned v0_ ∧ Kd.V k62 62 w' w.heap.size (fun k_ => P0 k_ ∨ w.heap.size ≤ k_) v0_ r ∧ Below w.heap.size w w' := by
  unfold nBegin.f at h
  split at h
  case isFalse => cases h
  case isTrue hT =>
  obtain rfl := Option.some.inj h
  clear h
  obtain ⟨hn, hc, hF⟩ := Kd.V_at hs0
  have hll := tot_len l0
  have HL := Aside0.mk (show l0.length < LIM by omega)
  have HCL := Aside0.mk (cloneL P0 A0 l0.length c0 l0 w hF hc (by omega))
  clear hF hs0
  go_enter Try.func12, Try.ntmps12
  go_wp2_with (first | (go_at_call 35; refine HCL.out.mono ?_; rintro e w1 ⟨v, rfl, hN, hB1⟩; obtain ⟨A1, c1, rfl⟩ := Kd.N_slice hN; have HN := Aside0.mk hN; have HB1 := Aside0.mk hB1; clear hN hB1) | ((with_reducible refine gate_builtin (b := .append) (xs := #[.tmp 4, .tmp 6]) rfl ?_); at_builtin; refine Kd.N_append k62 (w0 := w) w.heap.size rfl (.tmp 4) (.tmp 6) 22 62 _ 72 rfl Try.underlying22 info62 rfl (by decide) (by decide) (.slice A1 l0.length c1) l0 z62 [.slice none 0 0, .slice none 0 0, .slice none 0 0] (fun k => P0 k ∨ w.heap.size ≤ k) (fun _ => False) rfl rfl (z62_F _ _) (fun _ hk => hk.elim) (fun k hk => .inr (Nat.le_trans HB1.out.size hk)) HN.out HB1.out HB1.out.size (by have h9 := HL.out; unfold LIM at h9; omega) ?_; intro v2 w2 hN2 hB2 hG2 hat; obtain ⟨A2, c2, rfl⟩ := Kd.N_slice hN2; have H1 := Aside0.mk hN2; have H2 := Aside0.mk hB2; clear hN2 hB2 hG2 hat))
  go_ret
  have h1 := Kd.N_V (base' := w.heap.size) H1.out
  have hll2 : (l0 ++ [z62]).length = l0.length + 1 := by simp
  rw [hll2] at h1
  exact ⟨_, rfl, h1, H2.out⟩
/-- Merging one level into another. -/
def joinAM (x z : S62) : S62 := { x with f0 := readL x.f0 z.f0, f1 := writeL x.f1 z.f1, f2 := x.f2 ++ z.f2 }
set_option maxHeartbeats 8000000 in
set_option maxRecDepth 100000 in
theorem joinA (W : World) (g off : Nat) (ok : Nat → Prop) (x z : S62) (cs : Array Value) (B0 B1 B2 : Option Addr) (d0 d1 d2 : Nat) (h : Lvl W g off ok x cs)
    (m0 : Kd.F k30 W (fun k => ok k ∧ k ≠ g) B0 z.f0.length z.f0) (m1 : Kd.F k33 W (fun k => ok k ∧ k ≠ g) B1 z.f1.length z.f1) (m2 : Kd.F k50 W (fun k => ok k ∧ k ≠ g) B2 z.f2.length z.f2)
    (l0 : x.f0.length + z.f0.length ≤ LIM) (l1 : x.f1.length + z.f1.length ≤ LIM) (l2 : x.f2.length + z.f2.length ≤ LIM) (hok : ∀ k, W.heap.size ≤ k → ok k) :
    Calls Try.prog 53 #[.agg #[(.func (.func 38) #[] #[]), (.func (.func 40) #[] #[]), (.func (.func 51) #[] #[])], .pointer (some ⟨g, off, none⟩), .agg #[.slice B0 z.f0.length d0, .slice B1 z.f1.length d1, .slice B2 z.f2.length d2]] W fun e w' => e = .returned (.tuple #[]) ∧ LvlTo W g off ok cs (joinAM x z) w' := by
  have hgl := blk_lt h.1
  have eg38 := enters_of Try.func38 (by kernel_rfl) rfl
  have eg40 := enters_of Try.func40 (by kernel_rfl) rfl
  have eg51 := enters_of Try.func51 (by kernel_rfl) rfl
  obtain ⟨W1, hW1⟩ : ∃ W1, W1 = ((W.alloc (.cells #[(.func (.func 38) #[] #[]), (.func (.func 40) #[] #[]), (.func (.func 51) #[] #[])] 73)).alloc (.cells #[.slice B0 z.f0.length d0, .slice B1 z.f1.length d1, .slice B2 z.f2.length d2] 62)) := ⟨_, rfl⟩
  have HW1 : Below W.heap.size W W1 := by rw [hW1]; exact below_alloc (below_alloc (Below.refl _ _) _) _
  obtain ⟨T, hT⟩ : ∃ T, T = W.heap.size := ⟨_, rfl⟩
  have t0 : W1.heap[T]? = some (.cells #[(.func (.func 38) #[] #[]), (.func (.func 40) #[] #[]), (.func (.func 51) #[] #[])] 73 (0, 0)) := by rw [hW1, hT]; exact blk_alloc (heap_alloc_new _ _) _
  have s0 : W1.heap[T + 1]? = some (.cells #[.slice B0 z.f0.length d0, .slice B1 z.f1.length d1, .slice B2 z.f2.length d2] 62 (0, 0)) := by rw [hW1, hT]; exact (congrArg (fun k => (World.heap _)[k]?) (by simp)).trans (heap_alloc_new (W.alloc _) _)
  have hTg : T ≠ g := by omega
  have hSg : T + 1 ≠ g := by omega
  have hok1 : ∀ k, W1.heap.size ≤ k → ok k := fun k hk => hok k (Nat.le_trans HW1.size hk)
  have HC0 := Aside0.mk (read_lvl W1 g off ok x cs B0 z.f0.length d0 z.f0 (lvl_below h HW1) (Kd.F_below m0 HW1) l0 hok1)
  have HM1 := Aside0.mk (Kd.F_below m1 HW1)
  have HM2 := Aside0.mk (Kd.F_below m2 HW1)
  have HB := Aside0.mk HW1
  have HBT := Aside0.mk (And.intro t0 s0)
  have a0 := (blk_cell t0 0).trans rfl
  have a1 := (blk_cell t0 1).trans rfl
  have a2 := (blk_cell t0 2).trans rfl
  have b0 := (blk_cell s0 0).trans rfl
  have b1 := (blk_cell s0 1).trans rfl
  have b2 := (blk_cell s0 2).trans rfl
  have HWE := Aside0.mk hW1
  have HTE := Aside0.mk hT
  have HOK := Aside0.mk hok1
  clear h m0 m1 m2 hok hok1 t0 s0 hW1 hT HW1 hgl
  have hq1 : ∀ w, Sem.run Try.prog (binOp BinOp.neq 69 (.func (.func 40) #[] #[]) Value.nilFunc) w = .ok (.bool true) w := fun w => by kernel_rfl
  have hq2 : ∀ w, Sem.run Try.prog (binOp BinOp.neq 71 (.func (.func 51) #[] #[]) Value.nilFunc) w = .ok (.bool true) w := fun w => by kernel_rfl
  go_enter Try.func53, Try.ntmps53
  go_wp2_with fail
  rw [← HWE.out, ← HTE.out]
  refine HC0.out.mono ?_
  clear HC0 a0 a1 a2 b0 b1 b2
  rintro e w2 ⟨rfl, cs2, hL2, hn2, hK2, hZ2⟩
  have HBT2 := Aside0.mk (And.intro (hK2.blk HBT.out.1 hTg (by simp)) (hK2.blk HBT.out.2 hSg (by simp)))
  have a0 := (blk_cell HBT2.out.1 0).trans rfl
  have a1 := (blk_cell HBT2.out.1 1).trans rfl
  have a2 := (blk_cell HBT2.out.1 2).trans rfl
  have b0 := (blk_cell HBT2.out.2 0).trans rfl
  have b1 := (blk_cell HBT2.out.2 1).trans rfl
  have b2 := (blk_cell HBT2.out.2 2).trans rfl
  have HH2 := Aside0.mk (And.intro hL2 (And.intro hn2 (And.intro hK2 hZ2)))
  have HA2 := Aside0.mk (And.intro hn2 (And.intro hK2 hZ2))
  have HC1 := Aside0.mk (write_lvl w2 g off ok { x with f0 := readL x.f0 z.f0 } cs2 B1 z.f1.length d1 z.f1 hL2 (Kd.F_keep HM1.out HA2.out.2.1 (fun k hk => hk.2)) l1 (fun k hk => HOK.out k (Nat.le_trans HA2.out.2.1.1 hk)))
  clear hL2 hn2 hK2 hZ2
  go_wp2_with fail
  refine HC1.out.mono ?_
  clear HC1 a0 a1 a2 b0 b1 b2
  rintro e w3 ⟨rfl, cs3, hL3, hn3, hK3, hZ3⟩
  have HBT3 := Aside0.mk (And.intro (hK3.blk HBT2.out.1 hTg (by simp)) (hK3.blk HBT2.out.2 hSg (by simp)))
  have a0 := (blk_cell HBT3.out.1 0).trans rfl
  have a1 := (blk_cell HBT3.out.1 1).trans rfl
  have a2 := (blk_cell HBT3.out.1 2).trans rfl
  have b0 := (blk_cell HBT3.out.2 0).trans rfl
  have b1 := (blk_cell HBT3.out.2 1).trans rfl
  have b2 := (blk_cell HBT3.out.2 2).trans rfl
  have HH3 := Aside0.mk (And.intro hL3 (And.intro hn3 (And.intro hK3 hZ3)))
  have HA3 := Aside0.mk (And.intro (HA2.out.1.trans hn3) (And.intro (HA2.out.2.1.trans hK3 (.inl rfl)) (HA2.out.2.2.trans hZ3)))
  have HC2 := Aside0.mk (keep_lvl w3 g off ok { x with f0 := readL x.f0 z.f0, f1 := writeL x.f1 z.f1 } cs3 B2 z.f2.length d2 z.f2 hL3 (Kd.F_keep HM2.out HA3.out.2.1 (fun k hk => hk.2)) l2 (fun k hk => HOK.out k (Nat.le_trans HA3.out.2.1.1 hk)))
  clear hL3 hn3 hK3 hZ3
  go_wp2_with fail
  refine HC2.out.mono ?_
  clear HC2 a0 a1 a2 b0 b1 b2
  rintro e w4 ⟨rfl, cs4, hL4, hn4, hK4, hZ4⟩
  have HBT4 := Aside0.mk (And.intro (hK4.blk HBT3.out.1 hTg (by simp)) (hK4.blk HBT3.out.2 hSg (by simp)))
  have a0 := (blk_cell HBT4.out.1 0).trans rfl
  have a1 := (blk_cell HBT4.out.1 1).trans rfl
  have a2 := (blk_cell HBT4.out.1 2).trans rfl
  have b0 := (blk_cell HBT4.out.2 0).trans rfl
  have b1 := (blk_cell HBT4.out.2 1).trans rfl
  have b2 := (blk_cell HBT4.out.2 2).trans rfl
  have HH4 := Aside0.mk (And.intro hL4 (And.intro hn4 (And.intro hK4 hZ4)))
  have HA4 := Aside0.mk (And.intro (HA3.out.1.trans hn4) (And.intro (HA3.out.2.1.trans hK4 (.inl rfl)) (HA3.out.2.2.trans hZ4)))
  clear hL4 hn4 hK4 hZ4
  go_wp2_with fail
  exact bodyPost_end (results_none rfl _ _ _) rfl ⟨rfl, LvlTo.of_below HB.out ⟨_, HH4.out.1, HA4.out.1, HA4.out.2.1, HA4.out.2.2⟩⟩
def joinRM (x z : S62) : S62 := { x with f0 := readL x.f0 z.f0 }
set_option maxHeartbeats 8000000 in
set_option maxRecDepth 100000 in
theorem joinR (W : World) (g off : Nat) (ok : Nat → Prop) (x z : S62) (cs : Array Value) (B0 B1 B2 : Option Addr) (d0 d1 d2 : Nat) (h : Lvl W g off ok x cs)
    (m0 : Kd.F k30 W (fun k => ok k ∧ k ≠ g) B0 z.f0.length z.f0) (m1 : Kd.F k33 W (fun k => ok k ∧ k ≠ g) B1 z.f1.length z.f1) (m2 : Kd.F k50 W (fun k => ok k ∧ k ≠ g) B2 z.f2.length z.f2)
    (l0 : x.f0.length + z.f0.length ≤ LIM) (l1 : x.f1.length + z.f1.length ≤ LIM) (l2 : x.f2.length + z.f2.length ≤ LIM) (hok : ∀ k, W.heap.size ≤ k → ok k) :
    Calls Try.prog 53 #[.agg #[(.func (.func 38) #[] #[]), .nilFunc, .nilFunc], .pointer (some ⟨g, off, none⟩), .agg #[.slice B0 z.f0.length d0, .slice B1 z.f1.length d1, .slice B2 z.f2.length d2]] W fun e w' => e = .returned (.tuple #[]) ∧ LvlTo W g off ok cs (joinRM x z) w' := by
  have hgl := blk_lt h.1
  have eg38 := enters_of Try.func38 (by kernel_rfl) rfl
  have eg40 := enters_of Try.func40 (by kernel_rfl) rfl
  have eg51 := enters_of Try.func51 (by kernel_rfl) rfl
  obtain ⟨W1, hW1⟩ : ∃ W1, W1 = ((W.alloc (.cells #[(.func (.func 38) #[] #[]), .nilFunc, .nilFunc] 73)).alloc (.cells #[.slice B0 z.f0.length d0, .slice B1 z.f1.length d1, .slice B2 z.f2.length d2] 62)) := ⟨_, rfl⟩
  have HW1 : Below W.heap.size W W1 := by rw [hW1]; exact below_alloc (below_alloc (Below.refl _ _) _) _
  obtain ⟨T, hT⟩ : ∃ T, T = W.heap.size := ⟨_, rfl⟩
  have t0 : W1.heap[T]? = some (.cells #[(.func (.func 38) #[] #[]), .nilFunc, .nilFunc] 73 (0, 0)) := by rw [hW1, hT]; exact blk_alloc (heap_alloc_new _ _) _
  have s0 : W1.heap[T + 1]? = some (.cells #[.slice B0 z.f0.length d0, .slice B1 z.f1.length d1, .slice B2 z.f2.length d2] 62 (0, 0)) := by rw [hW1, hT]; exact (congrArg (fun k => (World.heap _)[k]?) (by simp)).trans (heap_alloc_new (W.alloc _) _)
  have hTg : T ≠ g := by omega
  have hSg : T + 1 ≠ g := by omega
  have hok1 : ∀ k, W1.heap.size ≤ k → ok k := fun k hk => hok k (Nat.le_trans HW1.size hk)
  have HC0 := Aside0.mk (read_lvl W1 g off ok x cs B0 z.f0.length d0 z.f0 (lvl_below h HW1) (Kd.F_below m0 HW1) l0 hok1)
  have HM1 := Aside0.mk (Kd.F_below m1 HW1)
  have HM2 := Aside0.mk (Kd.F_below m2 HW1)
  have HB := Aside0.mk HW1
  have HBT := Aside0.mk (And.intro t0 s0)
  have a0 := (blk_cell t0 0).trans rfl
  have a1 := (blk_cell t0 1).trans rfl
  have a2 := (blk_cell t0 2).trans rfl
  have b0 := (blk_cell s0 0).trans rfl
  have b1 := (blk_cell s0 1).trans rfl
  have b2 := (blk_cell s0 2).trans rfl
  have HWE := Aside0.mk hW1
  have HTE := Aside0.mk hT
  have HOK := Aside0.mk hok1
  clear h m0 m1 m2 hok hok1 t0 s0 hW1 hT HW1 hgl
  have hq1 : ∀ w, Sem.run Try.prog (binOp BinOp.neq 69 Value.nilFunc Value.nilFunc) w = .ok (.bool false) w := fun w => by kernel_rfl
  have hq2 : ∀ w, Sem.run Try.prog (binOp BinOp.neq 71 Value.nilFunc Value.nilFunc) w = .ok (.bool false) w := fun w => by kernel_rfl
  go_enter Try.func53, Try.ntmps53
  go_wp2_with fail
  rw [← HWE.out, ← HTE.out]
  refine HC0.out.mono ?_
  clear HC0 a0 a1 a2 b0 b1 b2
  rintro e w2 ⟨rfl, cs2, hL2, hn2, hK2, hZ2⟩
  have HBT2 := Aside0.mk (And.intro (hK2.blk HBT.out.1 hTg (by simp)) (hK2.blk HBT.out.2 hSg (by simp)))
  have a0 := (blk_cell HBT2.out.1 0).trans rfl
  have a1 := (blk_cell HBT2.out.1 1).trans rfl
  have a2 := (blk_cell HBT2.out.1 2).trans rfl
  have b0 := (blk_cell HBT2.out.2 0).trans rfl
  have b1 := (blk_cell HBT2.out.2 1).trans rfl
  have b2 := (blk_cell HBT2.out.2 2).trans rfl
  have HH2 := Aside0.mk (And.intro hL2 (And.intro hn2 (And.intro hK2 hZ2)))
  have HA2 := Aside0.mk (And.intro hn2 (And.intro hK2 hZ2))
  clear hL2 hn2 hK2 hZ2
  go_wp2_with fail
  exact bodyPost_end (results_none rfl _ _ _) rfl ⟨rfl, LvlTo.of_below HB.out ⟨_, HH2.out.1, HA2.out.1, HA2.out.2.1, HA2.out.2.2⟩⟩
def joinWM (x z : S62) : S62 := { x with f0 := readL x.f0 z.f0, f1 := writeL x.f1 z.f1 }
set_option maxHeartbeats 8000000 in
set_option maxRecDepth 100000 in
theorem joinW (W : World) (g off : Nat) (ok : Nat → Prop) (x z : S62) (cs : Array Value) (B0 B1 B2 : Option Addr) (d0 d1 d2 : Nat) (h : Lvl W g off ok x cs)
    (m0 : Kd.F k30 W (fun k => ok k ∧ k ≠ g) B0 z.f0.length z.f0) (m1 : Kd.F k33 W (fun k => ok k ∧ k ≠ g) B1 z.f1.length z.f1) (m2 : Kd.F k50 W (fun k => ok k ∧ k ≠ g) B2 z.f2.length z.f2)
    (l0 : x.f0.length + z.f0.length ≤ LIM) (l1 : x.f1.length + z.f1.length ≤ LIM) (l2 : x.f2.length + z.f2.length ≤ LIM) (hok : ∀ k, W.heap.size ≤ k → ok k) :
    Calls Try.prog 53 #[.agg #[(.func (.func 38) #[] #[]), (.func (.func 40) #[] #[]), .nilFunc], .pointer (some ⟨g, off, none⟩), .agg #[.slice B0 z.f0.length d0, .slice B1 z.f1.length d1, .slice B2 z.f2.length d2]] W fun e w' => e = .returned (.tuple #[]) ∧ LvlTo W g off ok cs (joinWM x z) w' := by
  have hgl := blk_lt h.1
  have eg38 := enters_of Try.func38 (by kernel_rfl) rfl
  have eg40 := enters_of Try.func40 (by kernel_rfl) rfl
  have eg51 := enters_of Try.func51 (by kernel_rfl) rfl
  obtain ⟨W1, hW1⟩ : ∃ W1, W1 = ((W.alloc (.cells #[(.func (.func 38) #[] #[]), (.func (.func 40) #[] #[]), .nilFunc] 73)).alloc (.cells #[.slice B0 z.f0.length d0, .slice B1 z.f1.length d1, .slice B2 z.f2.length d2] 62)) := ⟨_, rfl⟩
  have HW1 : Below W.heap.size W W1 := by rw [hW1]; exact below_alloc (below_alloc (Below.refl _ _) _) _
  obtain ⟨T, hT⟩ : ∃ T, T = W.heap.size := ⟨_, rfl⟩
  have t0 : W1.heap[T]? = some (.cells #[(.func (.func 38) #[] #[]), (.func (.func 40) #[] #[]), .nilFunc] 73 (0, 0)) := by rw [hW1, hT]; exact blk_alloc (heap_alloc_new _ _) _
  have s0 : W1.heap[T + 1]? = some (.cells #[.slice B0 z.f0.length d0, .slice B1 z.f1.length d1, .slice B2 z.f2.length d2] 62 (0, 0)) := by rw [hW1, hT]; exact (congrArg (fun k => (World.heap _)[k]?) (by simp)).trans (heap_alloc_new (W.alloc _) _)
  have hTg : T ≠ g := by omega
  have hSg : T + 1 ≠ g := by omega
  have hok1 : ∀ k, W1.heap.size ≤ k → ok k := fun k hk => hok k (Nat.le_trans HW1.size hk)
  have HC0 := Aside0.mk (read_lvl W1 g off ok x cs B0 z.f0.length d0 z.f0 (lvl_below h HW1) (Kd.F_below m0 HW1) l0 hok1)
  have HM1 := Aside0.mk (Kd.F_below m1 HW1)
  have HM2 := Aside0.mk (Kd.F_below m2 HW1)
  have HB := Aside0.mk HW1
  have HBT := Aside0.mk (And.intro t0 s0)
  have a0 := (blk_cell t0 0).trans rfl
  have a1 := (blk_cell t0 1).trans rfl
  have a2 := (blk_cell t0 2).trans rfl
  have b0 := (blk_cell s0 0).trans rfl
  have b1 := (blk_cell s0 1).trans rfl
  have b2 := (blk_cell s0 2).trans rfl
  have HWE := Aside0.mk hW1
  have HTE := Aside0.mk hT
  have HOK := Aside0.mk hok1
  clear h m0 m1 m2 hok hok1 t0 s0 hW1 hT HW1 hgl
  have hq1 : ∀ w, Sem.run Try.prog (binOp BinOp.neq 69 (.func (.func 40) #[] #[]) Value.nilFunc) w = .ok (.bool true) w := fun w => by kernel_rfl
  have hq2 : ∀ w, Sem.run Try.prog (binOp BinOp.neq 71 Value.nilFunc Value.nilFunc) w = .ok (.bool false) w := fun w => by kernel_rfl
  go_enter Try.func53, Try.ntmps53
  go_wp2_with fail
  rw [← HWE.out, ← HTE.out]
  refine HC0.out.mono ?_
  clear HC0 a0 a1 a2 b0 b1 b2
  rintro e w2 ⟨rfl, cs2, hL2, hn2, hK2, hZ2⟩
  have HBT2 := Aside0.mk (And.intro (hK2.blk HBT.out.1 hTg (by simp)) (hK2.blk HBT.out.2 hSg (by simp)))
  have a0 := (blk_cell HBT2.out.1 0).trans rfl
  have a1 := (blk_cell HBT2.out.1 1).trans rfl
  have a2 := (blk_cell HBT2.out.1 2).trans rfl
  have b0 := (blk_cell HBT2.out.2 0).trans rfl
  have b1 := (blk_cell HBT2.out.2 1).trans rfl
  have b2 := (blk_cell HBT2.out.2 2).trans rfl
  have HH2 := Aside0.mk (And.intro hL2 (And.intro hn2 (And.intro hK2 hZ2)))
  have HA2 := Aside0.mk (And.intro hn2 (And.intro hK2 hZ2))
  have HC1 := Aside0.mk (write_lvl w2 g off ok { x with f0 := readL x.f0 z.f0 } cs2 B1 z.f1.length d1 z.f1 hL2 (Kd.F_keep HM1.out HA2.out.2.1 (fun k hk => hk.2)) l1 (fun k hk => HOK.out k (Nat.le_trans HA2.out.2.1.1 hk)))
  clear hL2 hn2 hK2 hZ2
  go_wp2_with fail
  refine HC1.out.mono ?_
  clear HC1 a0 a1 a2 b0 b1 b2
  rintro e w3 ⟨rfl, cs3, hL3, hn3, hK3, hZ3⟩
  have HBT3 := Aside0.mk (And.intro (hK3.blk HBT2.out.1 hTg (by simp)) (hK3.blk HBT2.out.2 hSg (by simp)))
  have a0 := (blk_cell HBT3.out.1 0).trans rfl
  have a1 := (blk_cell HBT3.out.1 1).trans rfl
  have a2 := (blk_cell HBT3.out.1 2).trans rfl
  have b0 := (blk_cell HBT3.out.2 0).trans rfl
  have b1 := (blk_cell HBT3.out.2 1).trans rfl
  have b2 := (blk_cell HBT3.out.2 2).trans rfl
  have HH3 := Aside0.mk (And.intro hL3 (And.intro hn3 (And.intro hK3 hZ3)))
  have HA3 := Aside0.mk (And.intro (HA2.out.1.trans hn3) (And.intro (HA2.out.2.1.trans hK3 (.inl rfl)) (HA2.out.2.2.trans hZ3)))
  clear hL3 hn3 hK3 hZ3
  go_wp2_with fail
  exact bodyPost_end (results_none rfl _ _ _) rfl ⟨rfl, LvlTo.of_below HB.out ⟨_, HH3.out.1, HA3.out.1, HA3.out.2.1, HA3.out.2.2⟩⟩
end Go.Proofs.Ytfojpobblebigaa.P
