/- script.Plain. -/
import Derived.Test.YtcnclgneldonfaaDoorHa
import Derived.Maps.Own
import Derived.Maps.OwnOps
import Derived.Maps.Views
import Derived.Maps.OwnSet
namespace Go.Proofs.YtcnclgneldonfaaDoor.P
open Go.RowKit Go.Maps Go.Proofs.YtcnclgneldonfaaDoorW.PrintWords Go.Proofs.YtcnclgneldonfaaDoorW.PrintLast Go.Proofs.YtcnclgneldonfaaDoorW.PrintMore
set_option linter.unusedVariables false
set_option linter.unusedSimpArgs false
def rightP (t : Int) (p : S26) : Bool := rightB t p.f0 p.f1 p.f2 p.f3
def untilP (u : Int → Int) (a : Int) (p : S26) : Int → Int := fun k => if k = p.f1 then (if u p.f1 < a + p.f2 then a + p.f2 else u p.f1) else u k
/-- What Plain does with the picks that are left: how many valid ones came, until when each thread stands still, what came out. -/
def plS (t : Int) : List S26 → Nat → (Int → Int) → List S26 → List S26
  | [], _, _, acc => acc
  | p :: r, a, u, acc => if rightP t p then (if p.f0 = 2 then plS t r (a + 1) (untilP u ((a : Int) + 1) p) acc else if p.f0 = 1 then (if (a : Int) + 1 > u p.f1 then plS t r (a + 1) u (acc ++ [p]) else plS t r (a + 1) u acc) else acc ++ [p]) else plS t r a u acc
theorem plS_cons (t : Int) (p : S26) (r : List S26) (a : Nat) (u : Int → Int) (acc : List S26) : plS t (p :: r) a u acc = if rightP t p then (if p.f0 = 2 then plS t r (a + 1) (untilP u ((a : Int) + 1) p) acc else if p.f0 = 1 then (if (a : Int) + 1 > u p.f1 then plS t r (a + 1) u (acc ++ [p]) else plS t r (a + 1) u acc) else acc ++ [p]) else plS t r a u acc := rfl
theorem mapLaw3 : Keyed Tryd.prog 3 := int_keyed Tryd.underlying3
theorem zeroI (w : World) : (zeroValue 3).run Tryd.prog w = .ok (.int .i64 0) w := by kernel_rfl
theorem right_cases {t : Int} {p : S26} (h : rightP t p = true) : (p.f0 = 1 ∨ p.f0 = 2 ∨ p.f0 = 3) ∧ (p.f0 ≠ 3 → 0 ≤ p.f1 ∧ p.f1 < t) ∧ 0 ≤ p.f2 ∧ p.f2 ≤ 1048576 := by
  unfold rightP rightB at h
  by_cases h1 : p.f0 = 1
  · rw [if_pos h1, Bool.and_eq_true] at h
    have := of_decide_eq_true h.1
    exact ⟨.inl h1, fun _ => by omega, by omega, by omega⟩
  · rw [if_neg h1] at h
    by_cases h2 : p.f0 = 2
    · rw [if_pos h2, Bool.and_eq_true] at h
      have := of_decide_eq_true h.1
      exact ⟨.inr (.inl h2), fun _ => by omega, by omega, by omega⟩
    · rw [if_neg h2] at h
      by_cases h3 : p.f0 = 3
      · rw [if_pos h3, Bool.and_eq_true] at h
        have := of_decide_eq_true h.1
        exact ⟨.inr (.inr h3), fun h => absurd h3 h, by omega, by omega⟩
      · rw [if_neg h3] at h; cases h
theorem own_below' {w w' : World} {b n : Nat} {D : DataW Unit} (h : w.ownsMap Tryd.prog 3 (plainElem Tryd.prog 3) b n D) (hb : Below w.heap.size w w') : w'.ownsMap Tryd.prog 3 (plainElem Tryd.prog 3) b n D := by
  have hlt := h.lt
  obtain ⟨es, clock, hb0, r⟩ := h
  exact ⟨es, clock, (hb.block b hlt).trans hb0, r⟩
theorem put_until {u : Int → Int} {D : DataW Unit} (hD : IsMap D) (hA : ∀ k : Int, D.atKey (.int .i64 k) (.lit (.int .i64 0)) = .lit (.int .i64 (u k))) (a : Int) (p : S26) (k : Int) :
    (D.put (.int .i64 p.f1) (.lit (.int .i64 (if u p.f1 < a + p.f2 then a + p.f2 else u p.f1)))).atKey (.int .i64 k) (.lit (.int .i64 0)) = .lit (.int .i64 (untilP u a p k)) := by
  unfold untilP
  by_cases h : k = p.f1
  · subst h
    rw [if_pos rfl, atKey_put_same hD (show WideAt.IsKeyLit (.int .i64 p.f1) from trivial)]
  · rw [if_neg h, atKey_put_other (fun e => h (by injection e)), hA]
theorem until_range {u : Int → Int} (hu : ∀ k, 0 ≤ u k ∧ u k ≤ 3000000) {a : Int} (h0 : 0 ≤ a) (h1 : a ≤ 1000000) {p : S26} (h2 : 0 ≤ p.f2) (h3 : p.f2 ≤ 1048576) (k : Int) : 0 ≤ untilP u a p k ∧ untilP u a p k ≤ 3000000 := by
  unfold untilP
  have := hu k
  have := hu p.f1
  split
  · split <;> omega
  · omega
theorem cell_lt {w : World} {a : Addr} {v : Value} (h : w.cell? a = some v) : a.block < w.heap.size := World.block_lt_of_cell? w _ h
set_option maxHeartbeats 4000000 in
set_option maxRecDepth 1000000 in
theorem plain_walk (t : Int) (ht : t ≤ 9223372036854775807) (A1 : Option Addr) (c1 : Nat) (l : List S26) (w : World) (hr : Kd.C k26 w A1 l.length l) (hc : l.length ≤ c1) (hl : l.length ≤ 1000000) :
    Calls Tryd.prog 12 #[.int .i64 t, .slice A1 l.length c1] w fun e w' => ∃ v0_ : Value, e = .returned v0_ ∧ Kd.V k26 26 w' w.heap.size (fun _ => True) v0_ (plS t l 0 (fun _ => 0) []) ∧ Below w.heap.size w w' := by
  have HR0 := Aside0.mk hr
  clear hr
  have hmm := @run_makeMap Tryd.prog
  go_enter Tryd.func12, Tryd.ntmps12
  go_wp2
  go_loopg [5, 7, 13] l.length (fun gg v5 v7 v13 wr => ∃ (i at_ : Nat) (u : Int → Int) (acc : List S26) (D : DataW Unit), i ≤ l.length ∧ l.length - i ≤ gg ∧ v13 = .int .i64 i ∧ v7 = .int .i64 at_ ∧ at_ ≤ i ∧ acc.length ≤ i ∧ Aside0 (∀ k, 0 ≤ u k ∧ u k ≤ 3000000) ∧ Aside0 (plS t (l.drop i) at_ u acc = plS t l 0 (fun _ => 0) []) ∧ Aside0 (Kd.N k26 26 wr w.heap.size (fun k => k ≠ w.heap.size) v5 acc) ∧ wr.ownsMap Tryd.prog 3 (plainElem Tryd.prog 3) w.heap.size i D ∧ Aside0 (∀ k : Int, D.atKey (.int .i64 k) (.lit (.int .i64 0)) = .lit (.int .i64 (u k))) ∧ Aside0 (Below w.heap.size w wr))
  case atStart => exact ⟨0, 0, fun _ => 0, [], .map [], Nat.zero_le _, by omega, rfl, rfl, Nat.le_refl _, by simp, ⟨fun k => show (0 : Int) ≤ 0 ∧ (0 : Int) ≤ 3000000 by decide⟩, ⟨rfl⟩, ⟨Kd.N_nil _ _ _ _ _⟩, World.ownsMap_made _ _ _ _, ⟨fun k => rfl⟩, ⟨(Below.refl _ _).alloc (Nat.le_refl _) _⟩⟩
  case round =>
    obtain ⟨i, at_, u, acc, D, hi, hg, rfl, rfl, hat, hac, HU, HPL, HN, hown, HA, HB⟩ := hrel
    by_cases hlt : i < l.length
    · have hlti : (i : Int) < (l.length : Int) := by omega
      obtain ⟨ad, A3, c3, rfl, k0', k1', k2', k3', l3, g3⟩ := at_T26 HR0.out (i : Int) (by omega) hlti
      have k0 := (HB.out.cell (cell_lt k0')).trans k0'
      have k1 := (HB.out.cell (cell_lt k1')).trans k1'
      have k2 := (HB.out.cell (cell_lt k2')).trans k2'
      have k3 := (HB.out.cell (cell_lt k3')).trans k3'
      clear k0' k1' k2' k3'
      rw [rd26 l i hlt, Int.toNat_natCast] at k0 k1 k2 k3
      rw [rd26 l i hlt] at l3 g3
      have HPC := Aside0.mk HPL.out
      have hd := List.drop_eq_getElem_cons hlt
      have HD := Aside0.mk hd
      clear hd HPL
      have HPC2 : Aside0 (plS t (l[i] :: l.drop (i + 1)) at_ u acc = plS t l 0 (fun _ => 0) []) := ⟨by rw [← HD.out]; exact HPC.out⟩
      clear HPC HD
      generalize l[i] = p at *
      have HF3 := Aside0.mk (Kd.C_F (Kd.heap_int .i64) g3)
      have HG3 := Aside0.mk (Kd.C_below g3 HB.out)
      have HL3 := Aside0.mk l3
      clear g3 l3
      have hnr : (Kd.int .i64).C wr A3 p.f3.length p.f3 := HG3.out
      go_wp2_with fail
      refine (right_walk t p.f0 p.f1 p.f2 A3 c3 p.f3 _ (Kd.C_alloc HG3.out _) HL3.out).mono ?_
      rintro e w2 ⟨rfl, hb2⟩
      have hb0 : Below wr.heap.size wr w2 := ((Below.refl wr.heap.size wr).alloc (Nat.le_refl _) _).trans (hb2.mono (by simp))
      have HB2 := Aside0.mk (HB.out.trans (hb0.mono HB.out.size))
      have BK := Aside0.mk (blk_below (blk_new wr (Obj.cells #[.int .i64 p.f0, .int .i64 p.f1, .int .i64 p.f2, .slice A3 p.f3.length c3] 26 (0, 0))) hb2)
      have HN2 := Aside0.mk (Kd.N_below HN.out hb0)
      have hown2 := own_below' hown hb0
      have HFK := Aside0.mk (k26_mkF w2 (fun k => k < w.heap.size) p HL3.out (Kd.F_below HF3.out HB2.out))
      have HSZ := Aside0.mk hb0.size
      have HAW : Aside0 (∀ k, k < w.heap.size → k ≠ w.heap.size ∧ some k ≠ u5.ownBlock) := ⟨fun k hk => ⟨by omega, fun e => by have := Kd.N_base HN2.out k e.symm; omega⟩⟩
      have HNB : Aside0 (some w.heap.size ≠ u5.ownBlock) := ⟨Kd.N_away HN2.out (fun k hk => hk)⟩
      have HLT := Aside0.mk hown2.lt
      clear hb2 hb0 hown HN HG3 hnr HF3 k0 k1 k2 k3
      cases hR : rightB t p.f0 p.f1 p.f2 p.f3 with
      | false =>
        have HPC3 : Aside0 (plS t (l.drop (i + 1)) at_ u acc = plS t l 0 (fun _ => 0) []) := ⟨by have := HPC2.out; rw [plS_cons, show rightP t p = false from hR, if_neg (by simp)] at this; exact this⟩
        clear HPC2
        go_wp2
        go_roundg (l.length - (i + 1))
        case measure => omega
        case rel => exact ⟨i + 1, at_, u, acc, D, by omega, by omega, by go_num, rfl, by omega, by omega, HU, HPC3, HN2, hown2.mono (Nat.le_succ _), HA, HB2⟩
      | true =>
        obtain ⟨hf, hf1, hf2, hf3⟩ := right_cases (t := t) (p := p) hR
        obtain ⟨⟨q0, q1, q2, q3⟩, z0, z1, z2, z3⟩ := blk4 BK.out
        have hup := HPC2.out
        rw [plS_cons, show rightP t p = true from hR, if_pos rfl] at hup
        have hr1 : ¬ (l.length ≤ i) := by omega
        rcases hf with h0 | h0 | h0
        · rw [h0] at q0
          rw [if_neg (by rw [h0]; decide), if_pos h0] at hup
          have hb1 := hf1 (by rw [h0]; decide)
          have hkey : keyOf Tryd.prog 3 (.int .i64 p.f1) = some (.int .i64 p.f1) := keyOf_int_mk Tryd.underlying3 (WalkArith.wf_i64 (by omega))
          by_cases hgt : (at_ : Int) + 1 > u p.f1
          · rw [if_pos hgt] at hup
            have HUP := Aside0.mk hup
            clear hup HPC2
            go_wp2_with (first
              | (at_lookup; refine wpList_lookup_own_int _ rfl _ _ 45 rfl 3 3 .i64 mapLaw3 Tryd.underlying45 Tryd.underlying3 (zeroI _) w.heap.size i _ rfl hown2 _ _ rfl hkey ?_; intro c hat2 hwc; have hcu : c = u p.f1 := by (have h9 := HA.out p.f1; rw [h9] at hat2; injection hat2 with h8; injection h8 with _ h7; exact h7.symm))
              | ((with_reducible refine gate_builtin (b := .append) (xs := #[.tmp 47, .tmp 49]) rfl ?_); at_builtin; refine Kd.N_append k26 (w0 := w) w.heap.size rfl (.tmp 47) (.tmp 49) 27 26 (.agg #[(.int .i64 0), (.int .i64 0), (.int .i64 0), (.slice none 0 0)]) 48 rfl Tryd.underlying27 info26 rfl (by decide) (by omega) u5 acc p [.int .i64 1, .int .i64 p.f1, .int .i64 p.f2, .slice A3 p.f3.length c3] (fun k => k ≠ w.heap.size) (fun k => k < w.heap.size) (by first | rfl | (go_simp; done) | (go_simp; rfl)) (by first | rfl | (go_simp; done) | (go_simp; rfl)) (by rw [← h0]; exact HFK.out) HAW.out (fun k hk => by have := HLT.out; omega) HN2.out HB2.out HB2.out.size (by omega) ?_; intro v1 w3 ho hb hg3 hat3))
            have hown3 := hown2.kept hg3 HNB.out
            go_roundg (l.length - (i + 1))
            case measure => omega
            case rel => exact ⟨i + 1, at_ + 1, u, acc ++ [p], D, by omega, by omega, by go_num, by go_num, by omega, by simp; omega, HU, HUP, ⟨ho⟩, hown3.mono (Nat.le_succ _), HA, ⟨hb⟩⟩
          · rw [if_neg hgt] at hup
            have HUP := Aside0.mk hup
            clear hup HPC2
            go_wp2_with (first
              | (at_lookup; refine wpList_lookup_own_int _ rfl _ _ 45 rfl 3 3 .i64 mapLaw3 Tryd.underlying45 Tryd.underlying3 (zeroI _) w.heap.size i _ rfl hown2 _ _ rfl hkey ?_; intro c hat2 hwc; have hcu : c = u p.f1 := by (have h9 := HA.out p.f1; rw [h9] at hat2; injection hat2 with h8; injection h8 with _ h7; exact h7.symm)))
            go_roundg (l.length - (i + 1))
            case measure => omega
            case rel => exact ⟨i + 1, at_ + 1, u, acc, D, by omega, by omega, by go_num, by go_num, by omega, by omega, HU, HUP, HN2, hown2.mono (Nat.le_succ _), HA, HB2⟩
        · rw [h0] at q0
          rw [if_pos h0] at hup
          have hb1 := hf1 (by rw [h0]; decide)
          have hkey : keyOf Tryd.prog 3 (.int .i64 p.f1) = some (.int .i64 p.f1) := keyOf_int_mk Tryd.underlying3 (WalkArith.wf_i64 (by omega))
          have HUP := Aside0.mk hup
          clear hup HPC2
          have HNU := Aside0.mk (fun k => until_range HU.out (a := (at_ : Int) + 1) (by omega) (by omega) hf2 hf3 k)
          have HNA := Aside0.mk (fun k => put_until hown2.isMap HA.out ((at_ : Int) + 1) p k)
          go_wp2_with (first
            | (at_lookup; refine wpList_lookup_own_int _ rfl _ _ 45 rfl 3 3 .i64 mapLaw3 Tryd.underlying45 Tryd.underlying3 (zeroI _) w.heap.size i _ rfl hown2 _ _ rfl hkey ?_; intro c hat2 hwc; have hcu : c = u p.f1 := by (have h9 := HA.out p.f1; rw [h9] at hat2; injection hat2 with h8; injection h8 with _ h7; exact h7.symm))
            | (at_mapUpdate; refine wpList_mapUpdate_own _ rfl _ _ _ 45 rfl 3 3 mapLaw3 Tryd.underlying45 _ w.heap.size i _ rfl hown2 (by unfold maxLen; omega) _ _ _ rfl rfl hkey _ [] (plainElem_int Tryd.underlying3 (WalkArith.wf_i64 (by have hub := HU.out p.f1; omega))) ?_; intro w3 hown3 hg3))
          all_goals
            have HB3 := Aside0.mk (HB2.out.grown hg3 HB2.out.size (fun j hj => by cases hj; exact Nat.le_refl _))
            have HN3 := Aside0.mk (Kd.N_grown HN2.out hg3 (fun k hk e => hk (by injection e)))
            go_roundg (l.length - (i + 1))
            case measure => omega
            case rel => exact ⟨i + 1, at_ + 1, untilP u ((at_ : Int) + 1) p, acc, _, by omega, by omega, by go_num, by go_num, by omega, by omega, HNU, HUP, HN3, hown3, HNA, HB3⟩
        · rw [h0] at q0
          rw [if_neg (by rw [h0]; decide), if_neg (by rw [h0]; decide)] at hup
          have HUP := Aside0.mk hup
          clear hup HPC2
          go_wp2_with ((with_reducible refine gate_builtin (b := .append) (xs := #[.tmp 53, .tmp 55]) rfl ?_); at_builtin; refine Kd.N_append k26 (w0 := w) w.heap.size rfl (.tmp 53) (.tmp 55) 27 26 (.agg #[(.int .i64 0), (.int .i64 0), (.int .i64 0), (.slice none 0 0)]) 48 rfl Tryd.underlying27 info26 rfl (by decide) (by omega) u5 acc p [.int .i64 3, .int .i64 p.f1, .int .i64 p.f2, .slice A3 p.f3.length c3] (fun k => k ≠ w.heap.size) (fun k => k < w.heap.size) (by first | rfl | (go_simp; done) | (go_simp; rfl)) (by first | rfl | (go_simp; done) | (go_simp; rfl)) (by rw [← h0]; exact HFK.out) HAW.out (fun k hk => by have := HLT.out; omega) HN2.out HB2.out HB2.out.size (by omega) ?_; intro v1 w3 ho hb hg3 hat3)
          go_ret
          refine ⟨_, rfl, ?_, hb⟩
          rw [← HUP.out]
          exact Kd.V_mono (Kd.N_V ho) (fun _ _ => trivial)
    · obtain rfl : i = l.length := by omega
      have hup := HPL.out
      rw [List.drop_length] at hup
      have HUP := Aside0.mk hup
      clear hup HPL
      go_wp2
      go_ret
      refine ⟨_, rfl, ?_, HB.out⟩
      rw [← HUP.out]
      exact Kd.V_mono (Kd.N_V HN.out) (fun _ _ => trivial)
def sPlain.f (t : Int) (l : List S26) : Option (List S26) := if l.length ≤ 1000000 ∧ t ≤ 9223372036854775807 then some (plS t l 0 (fun _ => 0) []) else none
theorem sPlain.calls (a0 : Int) (A1 : Option Addr) (c1 : Nat) (l1 : List S26) (r : List S26) (w : World) (hr1 : Kd.C k26 w A1 l1.length l1) (hc1 : l1.length ≤ c1) (h : sPlain.f a0 l1 = some r) :
    Calls Tryd.prog 12 #[.int .i64 a0, .slice A1 l1.length c1] w fun e w' => ∃ v0_ : Value, e = .returned v0_ ∧ Kd.V k26 26 w' w.heap.size (fun _ => True) v0_ r ∧ Below w.heap.size w w' := by
  unfold sPlain.f at h
  by_cases hs : l1.length ≤ 1000000 ∧ a0 ≤ 9223372036854775807
  · rw [if_pos hs] at h
    rw [← Option.some.inj h]
    exact plain_walk a0 hs.2 A1 c1 l1 w hr1 hc1 hs.1
  · rw [if_neg hs] at h
    cases h
end Go.Proofs.YtcnclgneldonfaaDoor.P
