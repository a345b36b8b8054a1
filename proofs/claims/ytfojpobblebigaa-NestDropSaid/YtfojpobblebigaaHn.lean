/- nest.Drop: function 16. -/
import Derived.Test.YtfojpobblebigaaHm
namespace Go.Proofs.Ytfojpobblebigaa.P
open Go.RowKit Go.Proofs.YtfojpobblebigaaW.PrintWords Go.Proofs.YtfojpobblebigaaW.PrintLast Go.Proofs.YtfojpobblebigaaW.PrintMore
set_option linter.unusedVariables false
set_option linter.unusedSimpArgs false

set_option maxHeartbeats 8000000 in
set_option maxRecDepth 100000 in
theorem rev_empty (A : Option Addr) (c : Nat) (w : World) : Calls Try.prog 44 #[.slice A 0 c] w fun e w' => e = .returned (.tuple #[]) ∧ w' = w := by
  have mixed : Try.prog.follows Departure.mixedOrders = true := by kernel_rfl
  go_enter Try.func44, Try.ntmps44
  go_wp2
  go_loopg [2, 3] 0 (fun _ s2 s3 wr => s2 = .int .i64 0 ∧ s3 = .int .i64 (-1) ∧ wr = w)
  case atStart => exact ⟨rfl, rfl, rfl⟩
  case round =>
    obtain ⟨rfl, rfl, rfl⟩ := hrel
    go_wp2
    exact bodyPost_end (results_none rfl _ _ _) rfl ⟨rfl, rfl⟩
theorem rev_c (W : World) (base : Nat) (ok : Nat → Prop) (v : Value) (us : List S50) (h : Kd.N k50 50 W base ok v us) (hl : us.length ≤ LIM) :
    Calls Try.prog 44 #[v] W fun e w' => e = .returned (.tuple #[]) ∧ Kd.N k50 50 w' base ok v us.reverse ∧ Below base W w' := by
  rcases Nat.eq_zero_or_pos us.length with h0 | hp
  · have : us = [] := List.eq_nil_of_length_eq_zero h0
    subst this
    obtain ⟨A, c, rfl⟩ := Kd.N_slice h
    refine (rev_empty A c W).mono ?_
    rintro e w' ⟨rfl, rfl⟩
    exact ⟨rfl, h, Below.refl _ _⟩
  · obtain ⟨g, cap, rfl, hg, hg1, _⟩ := Kd.N_form h hp
    obtain ⟨D, hf, hR, _, hn, hc⟩ := N50_D h
    refine (reverse_walk g cap us.length D W hR hn hp hl).mono ?_
    rintro e w' ⟨rfl, ⟨i, hi, hin, hR2⟩, hK, hZ⟩
    exact ⟨rfl, N50_rev (h.1 g rfl) hf hg hn hc hR2 hi hin hK, ⟨hZ.os, hZ.tape, hZ.output, hZ.size, fun k hk => hK.2 k (by omega) (by omega) (by simp)⟩⟩

theorem F_new62 (W : World) (ok : Nat → Prop) (r : List S30) (A : Option Addr) (c : Nat) (hl : r.length ≤ c) (hf : Kd.F k30 W ok A r.length r) (hok : ok W.heap.size) : Kd.F k62 (W.alloc (.cells #[.slice A r.length c, .slice none 0 0, .slice none 0 0] 62)) ok (some ⟨W.heap.size, 0, none⟩) 1 [{ z62 with f0 := r }] := fun W' hW => by
  have hb : W'.heap[W.heap.size]? = some (.cells #[.slice A r.length c, .slice none 0 0, .slice none 0 0] 62 (0, 0)) := (hW _ hok (by simp)).trans (heap_alloc_new W _)
  have h3 := hf W' (fun k hk hlt => (hW k hk (by simp; omega)).trans (Below.heap_alloc W _ k hlt))
  refine ⟨rfl, by omega, fun _ => ⟨_, rfl, fun j p hj => ?_⟩⟩
  rcases j with _ | j
  · obtain rfl : ({ z62 with f0 := r } : S62) = p := by simpa using hj
    refine ⟨[.slice A r.length c, .slice none 0 0, .slice none 0 0], rfl, k62_mk W' { z62 with f0 := r } hl h3 (A1 := none) (c1 := 0) (Nat.le_refl _) (Kd.C_nil _ _) (A2 := none) (c2 := 0) (Nat.le_refl _) (Kd.C_nil _ _), fun i v hi => ?_⟩
    rw [Addr.add_lit, blk_cell hb]
    show (#[.slice A r.length c, .slice none 0 0, .slice none 0 0] : Array Value)[0 + (0 * 3 + i)]? = _
    rw [Nat.zero_mul, Nat.zero_add, Nat.zero_add]
    simpa using hi
  · simp at hj
def dropL (l : List S62) : List S62 × List S50 :=
  if l.length = 0 then (l, []) else (if l.length = 1 then [{ z62 with f0 := (l.getD (l.length - 1) z62).f0 }] else foldRL l, (l.getD (l.length - 1) z62).f2.reverse)
def nDrop.f (l : List S62) : Option (List S62 × List S50) := if 2 * tot l < LIM then some (dropL l) else none
set_option maxHeartbeats 16000000 in
set_option maxRecDepth 100000 in
theorem nDrop.calls (P0 : Nat → Prop) (A0 : Option Addr) (c0 : Nat) (l0 : List S62) (r1 : List S62) (r2 : List S50) (w : World) (hs0 : Kd.V k62 62 w w.heap.size (fun k_ => P0 k_) (.slice A0 l0.length c0) l0) (h : nDrop.f l0 = some (r1, r2)) :
    Calls Try.prog 16 #[.slice A0 l0.length c0] w fun e w' => ∃ v0_ v1_ : Value, e = .returned (.tuple #[v0_, v1_]) ∧ Kd.V k62 62 w' w.heap.size (fun k_ => P0 k_ ∨ w.heap.size ≤ k_) v0_ r1 ∧ Kd.V k50 50 w' w.heap.size (fun k_ => P0 k_ ∨ w.heap.size ≤ k_) v1_ r2 ∧ Below w.heap.size w w' := by
  unfold nDrop.f at h
  split at h
  case isFalse => cases h
  case isTrue hT =>
  have h2 := Option.some.inj h
  clear h
  obtain ⟨hn, hc, hF⟩ := Kd.V_at hs0
  have mixed : Try.prog.follows Departure.mixedOrders = true := by kernel_rfl
  by_cases h0 : l0.length = 0
  · unfold dropL at h2
    rw [if_pos h0] at h2
    obtain ⟨rfl, rfl⟩ := Prod.mk.inj h2
    have : l0 = [] := List.eq_nil_of_length_eq_zero h0
    subst this
    have H := Aside0.mk hs0
    clear h2 hF hs0 h0 hT
    go_enter Try.func16, Try.ntmps16
    go_wp2
    refine bodyPost_ret (results_tmp2 rfl _ _ _) rfl ?_
    exact ⟨_, _, rfl, Kd.V_mono H.out (fun k hk => .inl hk), Kd.V_nil _ _ _ _ _, Below.refl _ _⟩
  · have hne : 0 < l0.length := by omega
    obtain ⟨ad, B0, d0, B1, d1, B2, d2, rfl, e0, e1, e2, m0, f0, m1, f1, m2, f2⟩ := F62_at hF (l0.length - 1) (by omega)
    have hm := tot_mem (last_mem hne)
    have hl63 : l0.length ≤ 9223372036854775807 := (Kd.F_now hF).2.1
    have HD := Aside0.mk h2
    generalize hz : l0.getD (l0.length - 1) z62 = z at *
    have hB : Below w.heap.size w (w.alloc (.cells #[.slice B0 z.f0.length d0, .slice B1 z.f1.length d1, .slice B2 z.f2.length d2] 62)) := below_alloc (Below.refl _ _) _
    have hsz : w.heap.size + 1 = (w.alloc (.cells #[.slice B0 z.f0.length d0, .slice B1 z.f1.length d1, .slice B2 z.f2.length d2] 62)).heap.size := by simp
    have HCU := Aside0.mk (cloneU P0 B2 z.f2.length d2 z.f2 _ (Kd.F_below f2 hB) m2 (by omega))
    have HCR := Aside0.mk (fun W (hb : Below w.heap.size w W) => cloneR P0 B0 z.f0.length d0 z.f0 W (Kd.F_below f0 hb) m0 (by omega))
    have HCF := Aside0.mk (fun W (hb : Below w.heap.size w W) => foldR P0 (some ad) c0 l0 W (Kd.F_below hF hb) hc hne hT)
    have HCV := Aside0.mk (fun W base ok v (hN : Kd.N k50 50 W base ok v z.f2) => rev_c W base ok v z.f2 hN (by omega))
    have HB := Aside0.mk hB
    have HSZ := Aside0.mk hsz
    have hn0 : ¬ ((l0.length : Int) = 0) := by omega
    have hi0 : (0 : Int) ≤ (l0.length : Int) - 1 := by omega
    have hi1 : (l0.length : Int) - 1 < (l0.length : Int) := by omega
    have hw1 : IntKind.i64.wrap ((l0.length : Int) - 1) = (l0.length : Int) - 1 := by rw [IntKind.wrap_i64]; omega
    have htn : ((l0.length : Int) - 1).toNat = l0.length - 1 := by omega
    clear hF hs0 h2 f0 f1 f2 hB hsz
    go_enter Try.func16, Try.ntmps16
    go_wp2_with fail
    refine HCU.out.mono ?_
    rintro e w2 ⟨v, rfl, hN, hB2⟩
    obtain ⟨A9, c9, rfl⟩ := Kd.N_slice hN
    have b0 : w2.cell? ⟨w.heap.size, 0, none⟩ = some (.slice B0 z.f0.length d0) := (hB2.cell (p := ⟨w.heap.size, 0, none⟩) (by simp)).trans (by simp)
    have HN2 := Aside0.mk hN
    have HB2 := Aside0.mk (HB.out.trans (hB2.mono (by simp)))
    have HS2 := Aside0.mk hB2.size
    clear hN hB2
    go_wp2_with fail
    refine (HCV.out _ _ _ _ HN2.out).mono ?_
    rintro e w3 ⟨rfl, hN3, hB3⟩
    have b0' := (hB3.cell (p := ⟨w.heap.size, 0, none⟩) (by simp)).trans b0
    have HN3 := Aside0.mk (Kd.N_V (base' := w.heap.size) hN3)
    have HB3 := Aside0.mk (HB2.out.trans (hB3.mono (by simp)))
    clear hN3 hB3 b0 HN2
    by_cases h1 : l0.length = 1
    · have h1' : (l0.length : Int) = 1 := by omega
      have hd := HD.out
      unfold dropL at hd
      rw [if_neg h0, if_pos h1, hz] at hd
      obtain ⟨rfl, rfl⟩ := Prod.mk.inj hd
      clear hd
      go_wp2_with (go_at_call 45; refine (HCR.out w3 HB3.out).mono ?_; rintro e w4 ⟨v4, rfl, hN4, hb4⟩; obtain ⟨A8, c8, rfl⟩ := Kd.N_slice hN4; have H1 := Aside0.mk hN4; have H2 := Aside0.mk hb4; clear hN4 hb4)
      refine bodyPost_ret (results_tmp2 rfl _ _ _) rfl ?_
      have hs3 := HB3.out.size
      have hs4 := H2.out.size
      have hal : Below w4.heap.size w4 (w4.alloc (.cells #[.slice A8 z.f0.length c8, .slice none 0 0, .slice none 0 0] 62)) := below_alloc (Below.refl _ _) _
      have hF4 := F_new62 w4 (fun k => P0 k ∨ w3.heap.size ≤ k) z.f0 A8 c8 (Kd.N_reads' H1.out).2.1 (Kd.N_F H1.out) (.inr hs4)
      have hV4 : Kd.V k62 62 _ w.heap.size (fun k => P0 k ∨ w3.heap.size ≤ k) (.slice (some ⟨w4.heap.size, 0, none⟩) [({ z62 with f0 := z.f0 } : S62)].length 1) [{ z62 with f0 := z.f0 }] := Kd.V_mk (by simp) hF4
      refine ⟨_, _, rfl, Kd.V_mono hV4 (fun k hk => hk.imp id (fun h => Nat.le_trans hs3 h)), Kd.V_mono (Kd.V_below (Kd.V_below HN3.out H2.out) hal) (fun k hk => hk.imp id (fun h => ?_)), HB3.out.trans ((H2.out.mono hs3).trans (hal.mono (Nat.le_trans hs3 hs4)))⟩
      have := HSZ.out
      omega
    · have h1' : ¬ ((l0.length : Int) = 1) := by omega
      have hd := HD.out
      unfold dropL at hd
      rw [if_neg h0, if_neg h1, hz] at hd
      obtain ⟨rfl, rfl⟩ := Prod.mk.inj hd
      clear hd
      go_wp2_with fail
      refine (HCF.out w3 HB3.out).mono ?_
      rintro e w4 ⟨v4, rfl, hV, hb4⟩
      obtain ⟨A8, c8, rfl⟩ := Kd.V_slice hV
      have H1 := Aside0.mk hV
      have H2 := Aside0.mk hb4
      clear hV hb4
      go_wp2
      refine bodyPost_ret (results_tmp2 rfl _ _ _) rfl ?_
      have hs3 := HB3.out.size
      refine ⟨_, _, rfl, Kd.V_mono (Kd.V_lower H1.out hs3) (fun k hk => hk.imp id (fun h => Nat.le_trans hs3 h)), Kd.V_mono (Kd.V_below HN3.out H2.out) (fun k hk => hk.imp id (fun h => ?_)), HB3.out.trans (H2.out.mono hs3)⟩
      have := HSZ.out
      omega
end Go.Proofs.Ytfojpobblebigaa.P
