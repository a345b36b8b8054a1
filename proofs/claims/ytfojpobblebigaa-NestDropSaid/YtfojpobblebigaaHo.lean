/- nest.All: function 27. -/
import Derived.Test.YtfojpobblebigaaHn
namespace Go.Proofs.Ytfojpobblebigaa.P
open Go.RowKit Go.Proofs.YtfojpobblebigaaW.PrintWords Go.Proofs.YtfojpobblebigaaW.PrintLast Go.Proofs.YtfojpobblebigaaW.PrintMore
set_option linter.unusedVariables false
set_option linter.unusedSimpArgs false

def sz62 (x : S62) : Nat := x.f0.length + x.f1.length + x.f2.length
def allL (l : List S62) : S62 := l.foldl joinWM z62
theorem readL_len : ∀ (b a : List S30), (readL a b).length ≤ a.length + b.length
  | [], a => Nat.le_refl _
  | s :: b, a => by
    have h1 := readL_len b (readStep a s)
    have h2 := readStep_len a s
    show (readL (readStep a s) b).length ≤ _
    rw [List.length_cons]; omega
theorem writeL_len : ∀ (b a : List S33), (writeL a b).length ≤ a.length + b.length
  | [], a => Nat.le_refl _
  | s :: b, a => by
    have h1 := writeL_len b (putStep a s)
    have h2 := putStep_len a s
    show (writeL (putStep a s) b).length ≤ _
    rw [List.length_cons]; omega
theorem allL_len (l : List S62) : ∀ k, k ≤ l.length → sz62 (allL (l.take k)) ≤ ((l.take k).map sz62).sum
  | 0, _ => by simp [allL, sz62, z62]
  | k + 1, hk => by
    have ih := allL_len l k (by omega)
    have e : l.take (k + 1) = l.take k ++ [l.getD k z62] := by
      rw [List.take_add_one, List.getD_eq_getElem?_getD, List.getElem?_eq_getElem (by omega)]; rfl
    have e2 : allL (l.take (k + 1)) = joinWM (allL (l.take k)) (l.getD k z62) := by rw [e]; unfold allL; rw [List.foldl_append]; rfl
    rw [e2, e, List.map_append, List.sum_append]
    have h1 := readL_len (l.getD k z62).f0 (allL (l.take k)).f0
    have h2 := writeL_len (l.getD k z62).f1 (allL (l.take k)).f1
    simp only [List.map_cons, List.map_nil, List.sum_cons, List.sum_nil]
    unfold joinWM sz62 at *
    simp only at *
    omega
theorem allL_tot (l : List S62) (k : Nat) (hk : k ≤ l.length) : sz62 (allL (l.take k)) ≤ tot l := by
  have h := allL_len l k hk
  have h2 : ((l.take k).map sz62).sum ≤ (l.map sz62).sum := by
    conv => rhs; rw [← List.take_append_drop k l]
    rw [List.map_append, List.sum_append]; omega
  unfold tot
  have e : (l.map fun x => x.f0.length + x.f1.length + x.f2.length).sum = (l.map sz62).sum := rfl
  omega
def nAll.f (l : List S62) : Option (List S30 × List S33) := if 2 * tot l < LIM then some ((allL l).f0, (allL l).f1) else none
set_option maxHeartbeats 16000000 in
set_option maxRecDepth 100000 in
theorem nAll.calls (P0 : Nat → Prop) (A0 : Option Addr) (c0 : Nat) (l0 : List S62) (r1 : List S30) (r2 : List S33) (w : World) (hs0 : Kd.V k62 62 w w.heap.size (fun k_ => P0 k_) (.slice A0 l0.length c0) l0) (h : nAll.f l0 = some (r1, r2)) :
    Calls Try.prog 27 #[.slice A0 l0.length c0] w fun e w' => ∃ v0_ v1_ : Value, e = .returned (.tuple #[v0_, v1_]) ∧ Kd.V k30 30 w' w.heap.size (fun k_ => P0 k_ ∨ w.heap.size ≤ k_) v0_ r1 ∧ Kd.V k33 33 w' w.heap.size (fun k_ => P0 k_ ∨ w.heap.size ≤ k_) v1_ r2 ∧ Below w.heap.size w w' := by
  unfold nAll.f at h
  split at h
  case isFalse => cases h
  case isTrue hT =>
  obtain ⟨rfl, rfl⟩ := Prod.mk.inj (Option.some.inj h)
  obtain ⟨hn, hc, hF⟩ := Kd.V_at hs0
  have mixed : Try.prog.follows Departure.mixedOrders = true := by kernel_rfl
  have hl63 : l0.length ≤ 9223372036854775807 := (Kd.F_now hF).2.1
  have HT := Aside0.mk hT
  have hB : Below w.heap.size w (w.alloc (.cells #[.slice none 0 0, .slice none 0 0, .slice none 0 0] 62)) := below_alloc (Below.refl _ _) _
  have HF := Aside0.mk (Kd.F_old hF hB)
  have HL0 := Aside0.mk (lvl_mk (W := w.alloc (.cells #[.slice none 0 0, .slice none 0 0, .slice none 0 0] 62)) (g := w.heap.size) (off := 0) (ok := fun k => P0 k ∨ w.heap.size ≤ k) (x := z62) (cs := #[.slice none 0 0, .slice none 0 0, .slice none 0 0]) (heap_alloc_new w _) rfl rfl rfl (Nat.le_refl _) (Kd.F_nil _ _ _) (Nat.le_refl _) (Kd.F_nil _ _ _) (Nat.le_refl _) (Kd.F_nil _ _ _))
  have HB := Aside0.mk hB
  have hs1 : (w.alloc (.cells #[.slice none 0 0, .slice none 0 0, .slice none 0 0] 62)).heap.size = w.heap.size + 1 := by simp
  have HS1 := Aside0.mk hs1
  clear h hs0 hF hT hB hs1
  obtain ⟨g, hg⟩ : ∃ g, g = w.heap.size := ⟨_, rfl⟩
  go_enter Try.func27, Try.ntmps27
  go_wp2_with fail
  rw [← hg] at HL0 ⊢
  generalize w.alloc (.cells #[.slice none 0 0, .slice none 0 0, .slice none 0 0] 62) = W1 at HF HL0 HB HS1 ⊢
  have HL1 := Aside0.mk (Eq.mp (congrArg (fun t => Lvl W1 g 0 (fun k => P0 k ∨ t ≤ k) z62 #[.slice none 0 0, .slice none 0 0, .slice none 0 0]) hg) HL0.out)
  have HGE := Aside0.mk hg
  clear hg HL0
  go_loopg [6, 9] l0.length (fun gg _ s9 wr => ∃ kk : Nat, kk ≤ l0.length ∧ l0.length - kk ≤ gg ∧ s9 = .int .i64 kk ∧ ∃ cs, Aside0 (Lvl wr g 0 (fun k => P0 k ∨ w.heap.size ≤ k) (allL (l0.take kk)) cs) ∧ Aside0 (KeepBut W1 wr g none) ∧ Aside0 (Below 0 W1 wr))
  case atStart => exact ⟨0, Nat.zero_le _, by omega, rfl, _, HL1, ⟨KeepBut.refl _ _ _⟩, ⟨Below.refl _ _⟩⟩
  case round =>
    clear HL1
    obtain ⟨kk, hkk, hgg, rfl, cs, HL, HK, HZ⟩ := hrel
    by_cases hlt : kk < l0.length
    · have hlt' : (kk : Int) < (l0.length : Int) := by omega
      have hk0 : (0 : Int) ≤ (kk : Int) := by omega
      have hFr := Kd.F_keep HF.out HK.out (fun k hk => by have := hk.2; have := HGE.out; omega)
      obtain ⟨ad, B0, d0, B1, d1, B2, d2, rfl, e0, e1, e2, m0, f0, m1, f1, m2, f2⟩ := F62_at hFr kk hlt
      have hm := tot_mem (x := l0.getD kk z62) (by rw [List.getD_eq_getElem?_getD, List.getElem?_eq_getElem hlt]; exact List.getElem_mem _)
      have ht := allL_tot l0 kk (by omega)
      have hT := HT.out
      have hst : allL (l0.take (kk + 1)) = joinWM (allL (l0.take kk)) (l0.getD kk z62) := by
        rw [List.take_add_one, List.getElem?_eq_getElem hlt, List.getD_eq_getElem?_getD, List.getElem?_eq_getElem hlt]
        unfold allL
        rw [Option.toList_some, List.foldl_append]
        rfl
      have HST := Aside0.mk hst
      clear hst hFr
      generalize l0.getD kk z62 = z at *
      generalize allL (l0.take kk) = x at *
      unfold sz62 at ht
      have hB1 : Below wr.heap.size wr (wr.alloc (.cells #[.slice B0 z.f0.length d0, .slice B1 z.f1.length d1, .slice B2 z.f2.length d2] 62)) := below_alloc (Below.refl _ _) _
      have hgs := blk_lt HL.out.1
      have hmo : ∀ k, P0 k ∧ k < w.heap.size → (P0 k ∨ w.heap.size ≤ k) ∧ k ≠ g := fun k hk => ⟨.inl hk.1, by have := HGE.out; omega⟩
      have HC := Aside0.mk (joinW _ g 0 (fun k => P0 k ∨ w.heap.size ≤ k) x z cs B0 B1 B2 d0 d1 d2 (lvl_below HL.out hB1) (Kd.F_mono (Kd.F_below f0 hB1) hmo) (Kd.F_mono (Kd.F_below f1 hB1) hmo) (Kd.F_mono (Kd.F_below f2 hB1) hmo) (by omega) (by omega) (by omega) (fun k hk => .inr (by have := hB1.size; have := HK.out.1; have := HS1.out; omega)))
      have HB1 := Aside0.mk hB1
      clear f0 f1 f2 hB1 hm ht hT hmo hgs
      go_wp2_with fail
      refine HC.out.mono ?_
      rintro e w4 ⟨rfl, hq⟩
      obtain ⟨cs4, q1, q2, q3, q4⟩ := LvlTo.of_below HB1.out hq
      have HQ := Aside0.mk (And.intro q1 (And.intro q3 q4))
      clear hq q1 q2 q3 q4
      go_wp2
      go_roundg (l0.length - (kk + 1))
      case measure => omega
      case rel =>
        refine ⟨kk + 1, by omega, by omega, by go_num, cs4, ⟨?_⟩, ⟨HK.out.trans HQ.out.2.1 (.inl rfl)⟩, ⟨HZ.out.trans HQ.out.2.2⟩⟩
        rw [HST.out]; exact HQ.out.1
    · have hk2 : kk = l0.length := by omega
      subst hk2
      have hlt' : ¬ (l0.length : Int) < (l0.length : Int) := by omega
      rw [List.take_length] at HL
      obtain ⟨A1, c1, A2, c2, A3, c3, hb, h0, h1, h2, l1, f1, l2, f2, l3, f3⟩ := lvl_parts HL.out
      obtain ⟨q0, q0'⟩ := lp_cell hb h0
      obtain ⟨q1, q1'⟩ := lp_cell hb h1
      have H1 := Aside0.mk (Kd.V_mk (d := k30) (e := 30) (base := w.heap.size) l1 (Kd.F_mono f1 (fun k hk => hk.1)))
      have H2 := Aside0.mk (Kd.V_mk (d := k33) (e := 33) (base := w.heap.size) l2 (Kd.F_mono f2 (fun k hk => hk.1)))
      have HBW := Aside0.mk (below_of_keep HB.out HK.out HZ.out (by have := HGE.out; omega))
      clear hb h0 h1 h2 f1 f2 f3
      go_wp2
      go_region
      all_goals go_wp2
      all_goals refine bodyPost_ret (results_tmp2 rfl _ _ _) rfl ?_
      all_goals exact ⟨_, _, rfl, Kd.V_drew H1.out, Kd.V_drew H2.out, HBW.out.drew⟩
end Go.Proofs.Ytfojpobblebigaa.P
