/- nest.fold, nest.End. -/
import Derived.Test.YtfojpobblebigaaHj
namespace Go.Proofs.Ytfojpobblebigaa.P
open Go.RowKit Go.Proofs.YtfojpobblebigaaW.PrintWords Go.Proofs.YtfojpobblebigaaW.PrintLast Go.Proofs.YtfojpobblebigaaW.PrintMore
set_option linter.unusedVariables false
set_option linter.unusedSimpArgs false

theorem tot_take (l : List S62) (x : S62) (n : Nat) (h : x ∈ l.take n) : x.f0.length + x.f1.length + x.f2.length ≤ tot l := by
  have := tot_mem (List.mem_of_mem_take h)
  omega

def foldAL (l : List S62) : List S62 := onLast (l.take (l.length - 1)) (fun x => joinAM x (l.getD (l.length - 1) z62))
set_option maxHeartbeats 8000000 in
set_option maxRecDepth 100000 in
theorem foldA (P : Nat → Prop) (A : Option Addr) (c : Nat) (l : List S62) (w : World) (hF : Kd.F k62 w P A l.length l) (hc : l.length ≤ c) (hne : 0 < l.length) (hlim : 2 * tot l < LIM) :
    Calls Try.prog 41 #[.slice A l.length c, .agg #[(.func (.func 38) #[] #[]), (.func (.func 40) #[] #[]), (.func (.func 51) #[] #[])]] w fun e w' => ∃ v : Value, e = .returned v ∧ Kd.V k62 62 w' w.heap.size (fun k => P k ∨ w.heap.size ≤ k) v (foldAL l) ∧ Below w.heap.size w w' := by
  have hll := tot_len l
  have hl63 : l.length ≤ 9223372036854775807 := (Kd.F_now hF).2.1
  have eg61 := enters_of Try.func61 (by kernel_rfl) rfl
  obtain ⟨W3, hW3⟩ : ∃ W3, W3 = (((w.alloc (.cells #[.slice A l.length c] 22)).alloc (.cells #[(.func (.func 38) #[] #[]), (.func (.func 40) #[] #[]), (.func (.func 51) #[] #[])] 73)).alloc (.cells #[.int .i64 ((l.length : Int) - 1)] 3)) := ⟨_, rfl⟩
  have hB : Below w.heap.size w W3 := by rw [hW3]; exact below_alloc (below_alloc (below_alloc (Below.refl _ _) _) _) _
  obtain ⟨B, hBe⟩ : ∃ B, B = w.heap.size := ⟨_, rfl⟩
  have hcast : ((l.length - 1 : Nat) : Int) = (l.length : Int) - 1 := by omega
  have g0 : W3.heap[B]? = some (.cells #[.slice A l.length c] 22 (0, 0)) := by rw [hW3, hBe]; exact blk_alloc (blk_alloc (heap_alloc_new _ _) _) _
  have g1 : W3.heap[B + 1]? = some (.cells #[(.func (.func 38) #[] #[]), (.func (.func 40) #[] #[]), (.func (.func 51) #[] #[])] 73 (0, 0)) := by rw [hW3, hBe]; exact blk_alloc ((congrArg (fun k => (World.heap _)[k]?) (by simp)).trans (heap_alloc_new (w.alloc _) _)) _
  have g2 : W3.heap[B + 2]? = some (.cells #[.int .i64 ((l.length - 1 : Nat) : Int)] 3 (0, 0)) := by rw [hW3, hBe, hcast]; exact (congrArg (fun k => (World.heap _)[k]?) (by simp)).trans (heap_alloc_new ((w.alloc _).alloc _) _)
  have hF3 := Kd.F_old hF hB
  have hF3' : Kd.F k62 W3 P A l.length l := Kd.F_mono hF3 (fun k hk => hk.1)
  have hsz : w.heap.size ≤ W3.heap.size := hB.size
  have HC := Aside0.mk (last_v P A c (l.take (l.length - 1)) 61 #[.pointer (some ⟨B + 1, 0, none⟩), .pointer (some ⟨B, 0, none⟩), .pointer (some ⟨B + 1 + 1, 0, none⟩)] eg61 (fun x => joinAM x (l.getD (l.length - 1) z62)) W3 (Kd.F_take hF3' (by omega)) (by rw [List.length_take]; omega) (by rw [List.length_take]; omega) (fun hne2 W g off cs hW hg hL =>
    foldAC W g off _ _ cs (B + 1) B (B + 2) A c l hL ((blk_cell (blk_below g1 hW) 0).trans rfl) ((blk_cell (blk_below g1 hW) 1).trans rfl) ((blk_cell (blk_below g1 hW) 2).trans rfl) ((blk_cell (blk_below g0 hW) 0).trans rfl) ((blk_cell (blk_below g2 hW) 0).trans rfl)
      (Kd.F_mono (Kd.F_below hF3 hW) (fun k hk => ⟨.inl hk.1, by have := hk.2; omega⟩)) hne (tot_take l _ _ (last_mem hne2)) hlim (fun k hk => .inr (Nat.le_trans hW.size hk))))
  have hlt : (l.take (l.length - 1)).length = l.length - 1 := by rw [List.length_take]; omega
  rw [hlt] at HC
  have HB := Aside0.mk hB
  have HWE := Aside0.mk hW3
  have HBE := Aside0.mk hBe
  have hi0 : (0 : Int) ≤ (l.length : Int) - 1 := by omega
  have hi1 : (l.length : Int) - 1 ≤ (c : Int) := by omega
  have hi2 : (l.length : Int) - 1 ≤ (l.length : Int) := by omega
  have htn : ((l.length : Int) - 1).toNat = l.length - 1 := by omega
  have hw1 : IntKind.i64.wrap ((l.length : Int) - 1) = (l.length : Int) - 1 := by rw [IntKind.wrap_i64]; omega
  have HG := Aside0.mk (And.intro ((blk_cell g0 0).trans rfl : W3.cell? ⟨B, 0, none⟩ = some (.slice A l.length c)) ((blk_cell g2 0).trans (by rw [hcast]; rfl) : W3.cell? ⟨B + 2, 0, none⟩ = some (.int .i64 ((l.length : Int) - 1))))
  clear hF g0 g1 g2 hF3 hF3' hB hW3 hBe hcast hlt
  go_enter Try.func41, Try.ntmps41
  go_wp2_with fail
  rw [← HWE.out, ← HBE.out]
  refine HC.out.mono ?_
  rintro e w' ⟨v, rfl, hV, hb⟩
  obtain ⟨A9, c9, rfl⟩ := Kd.V_slice hV
  have H1 := Aside0.mk hV
  have H2 := Aside0.mk hb
  clear hV hb
  go_wp2_with fail
  go_ret
  exact ⟨_, rfl, Kd.V_mono (Kd.V_lower H1.out hsz) (fun k hk => hk.imp id (fun h => Nat.le_trans hsz h)), HB.out.trans (H2.out.mono hsz)⟩

def foldRL (l : List S62) : List S62 := onLast (l.take (l.length - 1)) (fun x => joinRM x (l.getD (l.length - 1) z62))
set_option maxHeartbeats 8000000 in
set_option maxRecDepth 100000 in
theorem foldR (P : Nat → Prop) (A : Option Addr) (c : Nat) (l : List S62) (w : World) (hF : Kd.F k62 w P A l.length l) (hc : l.length ≤ c) (hne : 0 < l.length) (hlim : 2 * tot l < LIM) :
    Calls Try.prog 41 #[.slice A l.length c, .agg #[(.func (.func 38) #[] #[]), .nilFunc, .nilFunc]] w fun e w' => ∃ v : Value, e = .returned v ∧ Kd.V k62 62 w' w.heap.size (fun k => P k ∨ w.heap.size ≤ k) v (foldRL l) ∧ Below w.heap.size w w' := by
  have hll := tot_len l
  have hl63 : l.length ≤ 9223372036854775807 := (Kd.F_now hF).2.1
  have eg61 := enters_of Try.func61 (by kernel_rfl) rfl
  obtain ⟨W3, hW3⟩ : ∃ W3, W3 = (((w.alloc (.cells #[.slice A l.length c] 22)).alloc (.cells #[(.func (.func 38) #[] #[]), .nilFunc, .nilFunc] 73)).alloc (.cells #[.int .i64 ((l.length : Int) - 1)] 3)) := ⟨_, rfl⟩
  have hB : Below w.heap.size w W3 := by rw [hW3]; exact below_alloc (below_alloc (below_alloc (Below.refl _ _) _) _) _
  obtain ⟨B, hBe⟩ : ∃ B, B = w.heap.size := ⟨_, rfl⟩
  have hcast : ((l.length - 1 : Nat) : Int) = (l.length : Int) - 1 := by omega
  have g0 : W3.heap[B]? = some (.cells #[.slice A l.length c] 22 (0, 0)) := by rw [hW3, hBe]; exact blk_alloc (blk_alloc (heap_alloc_new _ _) _) _
  have g1 : W3.heap[B + 1]? = some (.cells #[(.func (.func 38) #[] #[]), .nilFunc, .nilFunc] 73 (0, 0)) := by rw [hW3, hBe]; exact blk_alloc ((congrArg (fun k => (World.heap _)[k]?) (by simp)).trans (heap_alloc_new (w.alloc _) _)) _
  have g2 : W3.heap[B + 2]? = some (.cells #[.int .i64 ((l.length - 1 : Nat) : Int)] 3 (0, 0)) := by rw [hW3, hBe, hcast]; exact (congrArg (fun k => (World.heap _)[k]?) (by simp)).trans (heap_alloc_new ((w.alloc _).alloc _) _)
  have hF3 := Kd.F_old hF hB
  have hF3' : Kd.F k62 W3 P A l.length l := Kd.F_mono hF3 (fun k hk => hk.1)
  have hsz : w.heap.size ≤ W3.heap.size := hB.size
  have HC := Aside0.mk (last_v P A c (l.take (l.length - 1)) 61 #[.pointer (some ⟨B + 1, 0, none⟩), .pointer (some ⟨B, 0, none⟩), .pointer (some ⟨B + 1 + 1, 0, none⟩)] eg61 (fun x => joinRM x (l.getD (l.length - 1) z62)) W3 (Kd.F_take hF3' (by omega)) (by rw [List.length_take]; omega) (by rw [List.length_take]; omega) (fun hne2 W g off cs hW hg hL =>
    foldRC W g off _ _ cs (B + 1) B (B + 2) A c l hL ((blk_cell (blk_below g1 hW) 0).trans rfl) ((blk_cell (blk_below g1 hW) 1).trans rfl) ((blk_cell (blk_below g1 hW) 2).trans rfl) ((blk_cell (blk_below g0 hW) 0).trans rfl) ((blk_cell (blk_below g2 hW) 0).trans rfl)
      (Kd.F_mono (Kd.F_below hF3 hW) (fun k hk => ⟨.inl hk.1, by have := hk.2; omega⟩)) hne (tot_take l _ _ (last_mem hne2)) hlim (fun k hk => .inr (Nat.le_trans hW.size hk))))
  have hlt : (l.take (l.length - 1)).length = l.length - 1 := by rw [List.length_take]; omega
  rw [hlt] at HC
  have HB := Aside0.mk hB
  have HWE := Aside0.mk hW3
  have HBE := Aside0.mk hBe
  have hi0 : (0 : Int) ≤ (l.length : Int) - 1 := by omega
  have hi1 : (l.length : Int) - 1 ≤ (c : Int) := by omega
  have hi2 : (l.length : Int) - 1 ≤ (l.length : Int) := by omega
  have htn : ((l.length : Int) - 1).toNat = l.length - 1 := by omega
  have hw1 : IntKind.i64.wrap ((l.length : Int) - 1) = (l.length : Int) - 1 := by rw [IntKind.wrap_i64]; omega
  have HG := Aside0.mk (And.intro ((blk_cell g0 0).trans rfl : W3.cell? ⟨B, 0, none⟩ = some (.slice A l.length c)) ((blk_cell g2 0).trans (by rw [hcast]; rfl) : W3.cell? ⟨B + 2, 0, none⟩ = some (.int .i64 ((l.length : Int) - 1))))
  clear hF g0 g1 g2 hF3 hF3' hB hW3 hBe hcast hlt
  go_enter Try.func41, Try.ntmps41
  go_wp2_with fail
  rw [← HWE.out, ← HBE.out]
  refine HC.out.mono ?_
  rintro e w' ⟨v, rfl, hV, hb⟩
  obtain ⟨A9, c9, rfl⟩ := Kd.V_slice hV
  have H1 := Aside0.mk hV
  have H2 := Aside0.mk hb
  clear hV hb
  go_wp2_with fail
  go_ret
  exact ⟨_, rfl, Kd.V_mono (Kd.V_lower H1.out hsz) (fun k hk => hk.imp id (fun h => Nat.le_trans hsz h)), HB.out.trans (H2.out.mono hsz)⟩

/-! ### nest.End: function 15 -/
def nEnd.f (l : List S62) : Option (List S62) := if 2 * tot l < LIM then some (if l.length < 2 then l else foldAL l) else none
theorem run_store_func_ {P : Program} {w : World} {a : Addr} {f : Nat} {m : Mode} : (store a (.func (.func f) #[] #[]) m).run P w = stored P w a (.func (.func f) #[] #[]) m := run_store P w a _ m rfl
attribute [local go_sem] run_store_func_
set_option maxHeartbeats 8000000 in
set_option maxRecDepth 100000 in
theorem whole_c (w : World) : Calls Try.prog 42 #[] w fun e w' => e = .returned (.agg #[(.func (.func 38) #[] #[]), (.func (.func 40) #[] #[]), (.func (.func 51) #[] #[])]) ∧ Below w.heap.size w w' := by
  go_enter Try.func42, Try.ntmps42
  go_wp2
  refine bodyPost_ret (v := .agg #[(.func (.func 38) #[] #[]), (.func (.func 40) #[] #[]), (.func (.func 51) #[] #[])]) (by simp [results, Try.results42, go_sem]) rfl ⟨rfl, ?_⟩
  first | exact below_alloc (Below.refl _ _) _ | exact ((below_alloc (Below.refl _ _) _).setCell (Nat.le_refl _) _)
set_option maxHeartbeats 8000000 in
set_option maxRecDepth 100000 in
theorem nEnd.calls (P0 : Nat → Prop) (A0 : Option Addr) (c0 : Nat) (l0 : List S62) (r : List S62) (w : World) (hs0 : Kd.V k62 62 w w.heap.size (fun k_ => P0 k_) (.slice A0 l0.length c0) l0) (h : nEnd.f l0 = some r) :
    Calls Try.prog 15 #[.slice A0 l0.length c0] w fun e w' => ∃ v0_ : Value, e = .returned v0_ ∧ Kd.V k62 62 w' w.heap.size (fun k_ => P0 k_ ∨ w.heap.size ≤ k_) v0_ r ∧ Below w.heap.size w w' := by
  unfold nEnd.f at h
  split at h
  case isFalse => cases h
  case isTrue hT =>
  obtain ⟨hn, hc, hF⟩ := Kd.V_at hs0
  by_cases h2 : l0.length < 2
  · rw [if_pos h2] at h
    obtain rfl := Option.some.inj h
    have h3 : (l0.length : Int) < 2 := by omega
    have H := Aside0.mk hs0
    clear h hF hs0 h2
    go_enter Try.func15, Try.ntmps15
    go_wp2
    go_ret
    exact ⟨_, rfl, Kd.V_mono H.out (fun k hk => .inl hk), Below.refl _ _⟩
  · rw [if_neg h2] at h
    obtain rfl := Option.some.inj h
    have h3 : ¬ (l0.length : Int) < 2 := by omega
    have hl63 : l0.length ≤ 9223372036854775807 := (Kd.F_now hF).2.1
    have HC := Aside0.mk (fun W (hb : Below w.heap.size w W) => foldA P0 A0 c0 l0 W (Kd.F_below hF hb) hc (by omega) hT)
    clear h hF hs0 h2 hT
    go_enter Try.func15, Try.ntmps15
    go_wp2_with (first | (go_at_call 42; refine (whole_c w).mono ?_; rintro e w1 ⟨rfl, hb1⟩; have HB1 := Aside0.mk hb1; clear hb1) | (go_at_call 41; refine (HC.out _ HB1.out).mono ?_; rintro e w2 ⟨v, rfl, hV, hb⟩; obtain ⟨A9, c9, rfl⟩ := Kd.V_slice hV; have H1 := Aside0.mk hV; have H2 := Aside0.mk hb; clear hV hb))
    go_ret
    exact ⟨_, rfl, Kd.V_mono (Kd.V_lower H1.out HB1.out.size) (fun k hk => hk.imp id (fun h => Nat.le_trans HB1.out.size h)), HB1.out.trans (H2.out.mono HB1.out.size)⟩
end Go.Proofs.Ytfojpobblebigaa.P
