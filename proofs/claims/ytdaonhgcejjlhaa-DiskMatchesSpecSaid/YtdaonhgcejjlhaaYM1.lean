/- Merged: Contract, proved by hand: disk.undone (the sectors at the last sync and the data of each write). | Contract, proved by hand: disk.Crash. | Plain law: what 'full' makes. | Written by pp.py (this session's program over the kit's printer): functions, contracts. Not trusted: Lean checks it. | Written by pp.py (this session's program over the kit's printer): functions, contracts. Not trusted: Lean checks it. | Written by pp.py (this session's program over the kit's printer): functions, contracts. Not trusted: Lean checks it. | Written by pp.py (this session's program over the kit's printer): functions, contracts. Not trusted: Lean checks it. -/
import Derived.Test.YtdaonhgcejjlhaaYM0
import Derived.WalkSpells
import Derived.Outline
import Derived.Deep.RegionHeld3
import Derived.Deep.DeepMust
import Derived.RegionTactic
import Derived.BigRegion
import Derived.Shelf.Abstract
namespace Go.Proofs.Ytdaonhgcejjlhaa.P
open Go.RowKit Go.Proofs.YtdaonhgcejjlhaaW.PrintWords Go.Proofs.YtdaonhgcejjlhaaW.PrintLast Go.Proofs.YtdaonhgcejjlhaaW.PrintMore
set_option linter.unusedVariables false
set_option linter.unusedSimpArgs false

def undoS (ws : List S46) : Nat → List ByteArray → List ByteArray → List ByteArray × List ByteArray
  | 0, s, p => (s, p)
  | i + 1, s, p => undoS ws i (s.set (ws.getD i z46).f0.toNat (ws.getD i z46).f1) (p.set i (rdOf ByteArray.empty s (ws.getD i z46).f0))
def okW (n : Nat) (ws : List S46) : Prop := ∀ i, i < ws.length → 0 ≤ (ws.getD i z46).f0 ∧ (ws.getD i z46).f0 < n

theorem undoS_len (ws : List S46) : ∀ i s p, (undoS ws i s p).1.length = s.length ∧ (undoS ws i s p).2.length = p.length
  | 0, s, p => ⟨rfl, rfl⟩
  | i + 1, s, p => by
    have h := undoS_len ws i (s.set (ws.getD i z46).f0.toNat (ws.getD i z46).f1) (p.set i (rdOf ByteArray.empty s (ws.getD i z46).f0))
    unfold undoS
    simpa using h
theorem R_form {α : Type} {d : Kd α} {e base : Nat} {ok : Nat → Prop} {w : World} {v : Value} {xs : List α} (h : d.R e w base ok v xs) {n : Nat} (hl : xs.length = n) (hn : 0 < n) : ∃ g c, v = .slice (some ⟨g, 0, none⟩) n c ∧ base ≤ g ∧ g < w.heap.size := by
  subst hl
  obtain ⟨h0, inner, ho, hr⟩ := h
  obtain ⟨g, cap, rfl, _, _⟩ := ho.form hn
  exact ⟨g, cap, rfl, own_base ho g (by simp [Value.ownBlock]), own_lt ho g (by simp [Value.ownBlock])⟩

set_option maxHeartbeats 8000000 in
set_option maxRecDepth 100000 in
theorem undone_walk (A0 : Option Addr) (c0 : Nat) (l0 : List ByteArray) (A1 : Option Addr) (c1 : Nat) (l1 : List S46) (w : World) (hr0 : Kd.C Kd.string w A0 l0.length l0) (hc0 : l0.length ≤ c0) (hr1 : Kd.C k46 w A1 l1.length l1) (hc1 : l1.length ≤ c1)
    (hlim : l0.length < 8796093022208) (hlim1 : l1.length ≤ 1000) (hok : okW l0.length l1) :
    Calls Try.prog 36 #[.agg #[.slice A0 l0.length c0, .slice A1 l1.length c1]] w fun e w' => ∃ v0 v1 : Value, e = .returned (.tuple #[v0, v1]) ∧
      Kd.R Kd.string 9 w' w.heap.size (fun k => some k ≠ v1.ownBlock) v0 (undoS l1 l1.length l0 (List.replicate l1.length ByteArray.empty)).1 ∧
      Kd.R Kd.string 9 w' w.heap.size (fun k => some k ≠ v0.ownBlock) v1 (undoS l1 l1.length l0 (List.replicate l1.length ByteArray.empty)).2 ∧ Below w.heap.size w w' := by
  have HR0 := Aside0.mk hr0
  have HC0 := Aside0.mk hc0
  have HR1 := Aside0.mk hr1
  have HOK := Aside0.mk hok
  have HL := Aside0.mk hlim
  clear hr0 hc0 hr1 hlim hok
  have HCL := Aside0.mk (show cloneS.f l0 = some l0 by unfold cloneS.f; rw [if_pos HL.out])
  have hu25 := Try.underlying25
  have hu46 := Try.underlying46
  have hl64 : l1.length ≤ 9223372036854775807 := by omega
  go_enter Try.func36, Try.ntmps36
  go_wp2_with (first | (go_at_call 34; refine (cloneS.calls A0 c0 l0 l0 _ (Kd.C_below HR0.out ((Below.refl w.heap.size w).alloc (Nat.le_refl _) _)) HC0.out HCL.out).mono ?_; rintro e w2 ⟨v0, rfl, hR, hB⟩; have HRv := Aside0.mk hR; have HB2 := Aside0.mk hB; have hcA : w2.cell? ⟨w.heap.size, 0, none⟩ = some (.slice A0 l0.length c0) := (hB.cell (p := ⟨w.heap.size, 0, none⟩) (by simp)).trans (by simp); have hcB : w2.cell? ⟨w.heap.size, 1, none⟩ = some (.slice A1 l1.length c1) := (hB.cell (p := ⟨w.heap.size, 1, none⟩) (by simp)).trans (by simp); clear hR hB) | ((with_reducible refine gate_dst (N := 12) rfl ?_); refine Kd.R_make Kd.string (w0 := w2) w2.heap.size 9 rfl (N := 12) rfl 22 _ _ rfl (l1.length : Int) rfl rfl Try.underlying22 (.string ⟨#[]⟩) 16 info9 rfl (by decide) (by omega) ByteArray.empty (ok := fun _ => True) (okp := fun _ => True) rfl (fun _ h => h) trivial (by omega) (by omega) (Below.refl _ _) (Nat.le_refl _) ?_; intro v1 w3 hR hB hG hN; have HRp := Aside0.mk hR; have HB3 := Aside0.mk hB; have HN := Aside0.mk hN; have hcA3 : w3.cell? ⟨w.heap.size, 0, none⟩ = some (.slice A0 l0.length c0) := (hB.cell (p := ⟨w.heap.size, 0, none⟩) (World.block_lt_of_cell? w2 _ hcA)).trans hcA; have hcB3 : w3.cell? ⟨w.heap.size, 1, none⟩ = some (.slice A1 l1.length c1) := (hB.cell (p := ⟨w.heap.size, 1, none⟩) (World.block_lt_of_cell? w2 _ hcB)).trans hcB; clear hR hB hG hN))
  have HB3w := Aside0.mk ((((Below.refl w.heap.size w).alloc (Nat.le_refl _) _).trans (HB2.out.mono (by simp))).trans (HB3.out.mono (Nat.le_trans (Nat.le_add_right _ 1) (by have := HB2.out.size; simpa using this))))
  have HV := Aside0.mk (Kd.R_below HRv.out HB3.out)
  have hvlt : ∀ k, v0.ownBlock = some k → k < w2.heap.size := fun k hk => own_lt (Kd.R_own HRv.out).choose_spec k hk
  have HR2 : Aside0 (Kd.R Kd.string 9 w3 w.heap.size (fun k => some k ≠ v1.ownBlock) v0 l0) := ⟨by
    obtain ⟨b, hb1, hb2⟩ := HN.out
    refine Kd.R_lower (Kd.R_mono (Kd.R_below (Kd.R_bound HRv.out) HB3.out) (fun k hk => ?_)) (by simp)
    rw [hb1]
    intro he
    injection he with he
    have := hk.2.2.1
    omega⟩
  have HP2 : Aside0 (Kd.R Kd.string 9 w3 w.heap.size (fun k => some k ≠ v0.ownBlock) v1 (List.replicate l1.length ByteArray.empty)) := ⟨by
    have h1 := HB2.out.size
    refine Kd.R_lower (Kd.R_mono (Kd.R_bound HRp.out) (fun k hk he => ?_)) (by simp at h1; omega)
    have h2 := hvlt k he.symm
    have := hk.2.1
    omega⟩
  clear HV HRv HRp HN HB2 HB3 hvlt hcA hcB hcA3 hcB3 HCL
  by_cases hn : l1.length = 0
  · have hn' : l1 = [] := List.eq_nil_of_length_eq_zero hn
    subst hn'
    go_loopg [4, 5] 1 (fun gg s4 _ wr => s4 = .slice A1 0 c1 ∧ wr = w3)
    case atStart => exact ⟨rfl, rfl⟩
    case round =>
      obtain ⟨rfl, rfl⟩ := hrel
      go_wp2
      go_ret2
      exact ⟨_, _, rfl, HR2.out, HP2.out, HB3w.out⟩
  · have hn0 : 0 < l1.length := by omega
    have hl0 : 0 < l0.length := by have := HOK.out 0 hn0; omega
    obtain ⟨g0, cc0, rfl, hg0, hg0'⟩ := R_form HR2.out rfl hl0
    obtain ⟨g1, cc1, rfl, hg1, hg1'⟩ := R_form HP2.out (by simp) hn0
    have hne : g0 ≠ g1 := by
      intro e
      have := HR2.out.1 g0 rfl
      simp [Value.ownBlock, e] at this
    have HG := Aside0.mk (And.intro hg0 (And.intro hg0' (And.intro hg1 (And.intro hg1' hne))))
    clear hg0 hg0' hg1 hg1'
    go_loopg [4, 5] l1.length (fun gg s4 _ wr => ∃ (i c : Nat) (s p : List ByteArray), i ≤ l1.length ∧ i ≤ c ∧ i ≤ gg ∧ s4 = .slice A1 i c ∧ Aside0 (s.length = l0.length) ∧ Aside0 (p.length = l1.length) ∧ Aside0 (undoS l1 i s p = undoS l1 l1.length l0 (List.replicate l1.length ByteArray.empty)) ∧ Aside0 (Kd.R Kd.string 9 wr w.heap.size (fun k => some k ≠ some g1) (.slice (some ⟨g0, 0, none⟩) l0.length cc0) s) ∧ Aside0 (Kd.R Kd.string 9 wr w.heap.size (fun k => some k ≠ some g0) (.slice (some ⟨g1, 0, none⟩) l1.length cc1) p) ∧ Aside0 (Below w.heap.size w wr))
    case atStart => exact ⟨l1.length, c1, l0, List.replicate l1.length ByteArray.empty, Nat.le_refl _, hc1, Nat.le_refl _, rfl, ⟨rfl⟩, ⟨by simp⟩, ⟨rfl⟩, HR2, HP2, HB3w⟩
    case round =>
      obtain ⟨i, c, s, p, hi1, hi2, hi3, rfl, HS, HP, HU, HRs, HRp, HB⟩ := hrel
      clear HR2 HP2 HB3w
      cases i with
      | zero =>
        go_wp2
        go_ret2
        refine ⟨.slice (some ⟨g0, 0, none⟩) l0.length cc0, .slice (some ⟨g1, 0, none⟩) l1.length cc1, rfl, ?_, ?_, HB.out⟩
        · rw [← HU.out]; exact HRs.out
        · rw [← HU.out]; exact HRp.out
      | succ i =>
        have hii : (i : Int) + 1 - 1 = (i : Int) := by omega
        obtain ⟨ad, hA1, hc0, hc1'⟩ := at_T46 (Kd.C_below HR1.out HB.out) (i : Int) (by omega) (by omega)
        subst hA1
        have hof := HOK.out i (by omega)
        rw [show rd_T46 l1 (i : Int) = l1.getD i z46 from rfl, Int.toNat_natCast] at hc0 hc1'
        generalize hx : l1.getD i z46 = x at hc0 hc1' hof
        have HX := Aside0.mk hx
        clear hx
        obtain ⟨f0, f1⟩ := x
        simp only at hc0 hc1' hof
        have hcs := Kd.R_celln (enc := Value.string) ByteArray.empty HRs.out f0 hof.1 (by omega)
        have hcp := Kd.R_celln (enc := Value.string) ByteArray.empty HRp.out (i : Int) (by omega) (by omega)
        simp only [Int.toNat_natCast] at hcp
        obtain ⟨hcs1, hcs2⟩ := hcs
        obtain ⟨hcp1, hcp2⟩ := hcp
        obtain ⟨hg0, hg0', hg1, hg1', hne⟩ := HG.out
        have hgw := HB.out.size
        have hlw0 := World.block_lt_of_cell? wr _ hcs1
        have hlw1 := World.block_lt_of_cell? wr _ hcp1
        simp only at hlw0 hlw1
        have hnw0 : g0 ≠ wr.heap.size := by omega
        have hnw1 : g1 ≠ wr.heap.size := by omega
        have hne' : g1 ≠ g0 := fun e => hne e.symm
        generalize hy : rdOf ByteArray.empty s f0 = y at hcs1
        have HY := Aside0.mk hy
        clear hy
        generalize hz : rdOf ByteArray.empty p (i : Int) = z at hcp1
        clear hz
        have hi0 : (0 : Int) ≤ (i : Int) := by omega
        have hi4 : (i : Int) < (l1.length : Int) := by omega
        have hf4 : f0 < (l0.length : Int) := by omega
        have hf5 : (0 : Int) ≤ f0 := hof.1
        go_wp2
        obtain ⟨W, hW⟩ : ∃ W, W = wr.alloc (Obj.cells #[Value.int .i64 f0, Value.string f1] 46) := ⟨_, rfl⟩
        obtain ⟨b5, hb5⟩ : ∃ b5, b5 = wr.heap.size := ⟨_, rfl⟩
        have e1 : W.cell? ⟨b5, 0, none⟩ = some (.int .i64 f0) := by rw [hW, hb5]; simp
        have e2 : W.cell? ⟨b5, 1, none⟩ = some (.string f1) := by rw [hW, hb5]; simp
        have e3 : W.cell? ⟨g0, f0.toNat, none⟩ = some (.string y) := by rw [hW, World.cell?_alloc_old _ _ _ hnw0]; exact hcs1
        have e4 : W.cell? ⟨g1, i, none⟩ = some (.string z) := by rw [hW, World.cell?_alloc_old _ _ _ hnw1]; exact hcp1
        have e5 : W.frozen? ⟨g0, f0.toNat, none⟩ = false := by
          have h1 : Below wr.heap.size wr W := by rw [hW]; exact below_alloc (Below.refl _ _) _
          exact (h1.frozen (p := ⟨g0, f0.toNat, none⟩) hlw0).trans hcs2
        have e6 : W.frozen? ⟨g1, i, none⟩ = false := by
          have h1 : Below wr.heap.size wr W := by rw [hW]; exact below_alloc (Below.refl _ _) _
          exact (h1.frozen (p := ⟨g1, i, none⟩) hlw1).trans hcp2
        have HWB := Aside0.mk (show Below wr.heap.size wr W by rw [hW]; exact below_alloc (Below.refl _ _) _)
        have n0 : g0 ≠ b5 := by rw [hb5]; exact hnw0
        have n1 : g1 ≠ b5 := by rw [hb5]; exact hnw1
        have n0' : b5 ≠ g0 := fun e => n0 e.symm
        have n1' : b5 ≠ g1 := fun e => n1 e.symm
        rw [← hW, ← hb5]
        clear hcs1 hcs2 hcp1 hcp2 hnw0 hnw1 hlw0 hlw1 hc0 hc1' hg0 hg0' hg1 hg1' hgw
        have HW := Aside0.mk hW
        clear hW hb5
        have hw1 : IntKind.i64.wrap ((i : Int) + 1 - 1) = (i : Int) := by rw [IntKind.wrap_i64]; omega
        have hw2 : IntKind.i64.wrap (i : Int) = (i : Int) := by rw [IntKind.wrap_i64]; omega
        go_region
        go_wp2
        go_roundg i
        case measure => omega
        case rel =>
          obtain ⟨hg0, hg0', hg1, hg1', _⟩ := HG.out
          have hWw := HB.out.trans (HWB.out.mono HB.out.size)
          have q1 := Kd.R_below HRs.out HWB.out
          have q2 := Kd.R_far (p := ⟨g1, i, none⟩) q1 (fun k hk e => hk (by rw [e])) (Value.string y)
          have q3 := Kd.R_putn (enc := Value.string) q2 f0 f1
          have p1 := Kd.R_below HRp.out HWB.out
          have p2 := Kd.R_putn (enc := Value.string) p1 (i : Int) y
          simp only [Int.toNat_natCast] at p2
          have p3 := Kd.R_far (p := ⟨g0, f0.toNat, none⟩) p2 (fun k hk e => hk (by rw [e])) (Value.string f1)
          refine ⟨i, i, s.set f0.toNat f1, p.set i y, by omega, Nat.le_refl _, Nat.le_refl _, rfl, ⟨by simpa using HS.out⟩, ⟨by simpa using HP.out⟩, ⟨?_⟩, ⟨Kd.R_drew q3⟩, ⟨Kd.R_drew p3⟩, ⟨below_drew ((hWw.setCell hg1 _).setCell hg0 _)⟩⟩
          rw [← HU.out]
          conv => rhs; unfold undoS
          rw [HX.out, HY.out]
end Go.Proofs.Ytdaonhgcejjlhaa.P
namespace Go.Proofs.Ytdaonhgcejjlhaa.P
open Go.RowKit Go.Proofs.YtdaonhgcejjlhaaW.PrintWords Go.Proofs.YtdaonhgcejjlhaaW.PrintLast Go.Proofs.YtdaonhgcejjlhaaW.PrintMore
set_option linter.unusedVariables false
set_option linter.unusedSimpArgs false

def cutF (cuts : List Int) (i : Nat) : Nat := if cuts.length ≤ i then 32 else ((Int.tmod (Int.tmod (cuts.getD i 0) 33 + 32 + 1) 33)).toNat
theorem tmod33 (x : Int) : -32 ≤ Int.tmod x 33 ∧ Int.tmod x 33 ≤ 32 := by
  by_cases h : 0 ≤ x
  · rw [Int.tmod_eq_emod_of_nonneg h]; omega
  · have e : x.tmod 33 = -((-x).tmod 33) := by rw [Int.neg_tmod, Int.neg_neg]
    rw [e, Int.tmod_eq_emod_of_nonneg (by omega)]
    omega
theorem cutF_le (cuts : List Int) (i : Nat) : cutF cuts i ≤ 32 := by
  unfold cutF
  split
  · omega
  · have h0 : 0 ≤ Int.tmod (cuts.getD i 0) 33 + 32 + 1 := by
      have := tmod33 (cuts.getD i 0)
      omega
    have h1 : Int.tmod (Int.tmod (cuts.getD i 0) 33 + 32 + 1) 33 = (Int.tmod (cuts.getD i 0) 33 + 32 + 1) % 33 := Int.tmod_eq_emod_of_nonneg h0
    omega
def glue (a : ByteArray) (n : Nat) (b : ByteArray) : ByteArray := a.extract 0 n ++ b.extract n b.size
def crS (ws : List S46) (put : List ByteArray) (cuts : List Int) : Nat → List ByteArray → List ByteArray
  | 0, s => s
  | i + 1, s => (crS ws put cuts i s).set (ws.getD i z46).f0.toNat (glue (rdOf ByteArray.empty put i) (cutF cuts i) (rdOf ByteArray.empty (crS ws put cuts i s) (ws.getD i z46).f0))

set_option maxHeartbeats 4000000 in
set_option maxRecDepth 100000 in
theorem cut_calls (i : Nat) (b : Nat) (A2 : Option Addr) (c2 : Nat) (l2 : List Int) (W : World) (hi : i ≤ 1000) (hc : W.cell? ⟨b, 0, none⟩ = some (.slice A2 l2.length c2)) (hr : Kd.C (Kd.int .i64) W A2 l2.length l2) :
    Calls Try.prog 37 #[.int .i64 i, .pointer (some ⟨b, 0, none⟩)] W fun e w' => e = .returned (.int .i64 (cutF l2 i)) ∧ Drawn0 W w' := by
  have HR := Aside0.mk hr
  clear hr
  have hlm : l2.length ≤ 9223372036854775807 := HR.out.2.1
  by_cases h : l2.length ≤ i
  · have h1 : (l2.length : Int) ≤ (i : Int) := by omega
    go_enter Try.func37, Try.ntmps37
    go_wp2
    go_ret
    exact ⟨by unfold cutF; rw [if_pos h]; rfl, Drawn0.refl _⟩
  · have h1 : ¬ (l2.length : Int) ≤ (i : Int) := by omega
    have h2 : (i : Int) < (l2.length : Int) := by omega
    have h3 : (0 : Int) ≤ (i : Int) := by omega
    obtain ⟨ad, c, rfl, _, hK, hcell⟩ := Kd.C_get HR.out 0 (i : Int) h3 h2
    obtain rfl : c = [.int .i64 (l2.getD i 0)] := hK
    have hc0 := hcell 0 _ rfl
    have e : ((i : Int).toNat * (Kd.int .i64).sz + 0) = i := by show (i : Int).toNat * 1 + 0 = i; simp
    rw [e] at hc0
    clear hcell e
    have HE := Aside0.mk (show cutF l2 i = ((Int.tmod (Int.tmod (l2.getD i 0) 33 + 32 + 1) 33)).toNat by unfold cutF; rw [if_neg h])
    have HLE := Aside0.mk (cutF_le l2 i)
    generalize l2.getD i 0 = x at hc0 HE
    have hx0 : 0 ≤ Int.tmod x 33 + 32 + 1 := by
      have := tmod33 x
      omega
    have hx1 : Int.tmod x 33 ≤ 32 := by
      have := tmod33 x
      omega
    go_enter Try.func37, Try.ntmps37
    go_wp2
    go_ret
    refine ⟨?_, Drawn0.refl _⟩
    rw [HE.out]
    have hx2 := Int.tmod_eq_emod_of_nonneg (b := 33) hx0
    show Ending.returned (Value.int .i64 ((x.tmod 33 + 32 + 1) % 33)) = _
    rw [hx2, Int.toNat_of_nonneg (by omega)]

theorem fin_crash {w W3 wr : World} {B : Nat} {ok : Nat → Prop} {v : Value} {xs : List ByteArray} (hB3 : Below w.heap.size w W3) (hsz : W3.heap.size = B + 3) (hBw : B = w.heap.size) (h : Kd.R Kd.string 9 wr W3.heap.size ok v xs) (hb : Below W3.heap.size W3 wr) (u0 u1 : Value) :
    Kd.R Kd.string 9 ((wr.setCell ⟨B + 1 + 1, 0, none⟩ u0).setCell ⟨B + 1 + 1, 1, none⟩ u1) w.heap.size (fun _ => True) v xs ∧ Below w.heap.size w ((wr.setCell ⟨B + 1 + 1, 0, none⟩ u0).setCell ⟨B + 1 + 1, 1, none⟩ u1) := by
  have h1 := Kd.R_bound h
  have h2 := Kd.R_far (p := ⟨B + 1 + 1, 0, none⟩) h1 (fun k hk e => by have := hk.2.1; simp only at e; omega) u0
  have h3 := Kd.R_far (p := ⟨B + 1 + 1, 1, none⟩) h2 (fun k hk e => by have := hk.2.1; simp only at e; omega) u1
  have hq := hB3.trans (hb.mono hB3.size)
  exact ⟨Kd.R_mono (Kd.R_lower h3 hB3.size) (fun _ _ => trivial), (hq.setCell (by simp only; omega) _).setCell (by simp only; omega) _⟩

set_option maxHeartbeats 8000000 in
set_option maxRecDepth 100000 in
theorem crash_walk (A0 : Option Addr) (c0 : Nat) (l0 : List ByteArray) (A1 : Option Addr) (c1 : Nat) (l1 : List S46) (A2 : Option Addr) (c2 : Nat) (l2 : List Int) (w : World) (hr0 : Kd.C Kd.string w A0 l0.length l0) (hc0 : l0.length ≤ c0) (hr1 : Kd.C k46 w A1 l1.length l1) (hc1 : l1.length ≤ c1)
    (hr2 : Kd.C (Kd.int .i64) w A2 l2.length l2)
    (hlim : l0.length < 8796093022208) (hlim1 : l1.length ≤ 1000) (hok : okW l0.length l1)
    (p s0 : List ByteArray) (hu : undoS l1 l1.length l0 (List.replicate l1.length ByteArray.empty) = (s0, p)) (hp : ∀ i, i < l1.length → (p.getD i ByteArray.empty).size = 32) (hs : ∀ i j, i < l1.length → j < l0.length → ((crS l1 p l2 i s0).getD j ByteArray.empty).size = 32) :
    Calls Try.prog 21 #[.agg #[.slice A0 l0.length c0, .slice A1 l1.length c1], .slice A2 l2.length c2] w fun e w' => ∃ v0 : Value, e = .returned (.agg #[v0, .slice none 0 0]) ∧
      Kd.R Kd.string 9 w' w.heap.size (fun _ => True) v0 (crS l1 p l2 l1.length s0) ∧ Below w.heap.size w w' := by
  have HR0 := Aside0.mk hr0
  have HC0 := Aside0.mk hc0
  have HR1 := Aside0.mk hr1
  have HC1 := Aside0.mk hc1
  have HR2 := Aside0.mk hr2
  have HOK := Aside0.mk hok
  have HL := Aside0.mk hlim
  have HU := Aside0.mk hu
  have HP := Aside0.mk hp
  have HS := Aside0.mk hs
  have hsl := (undoS_len l1 l1.length l0 (List.replicate l1.length ByteArray.empty))
  rw [hu] at hsl
  simp only [List.length_replicate] at hsl
  have HSL := Aside0.mk hsl
  clear hr0 hc0 hr1 hc1 hr2 hlim hok hu hp hs hsl
  have hu25 := Try.underlying25
  have hu46 := Try.underlying46
  have eg37 := enters_of Try.func37 (by kernel_rfl) rfl
  have hl64 : l1.length ≤ 9223372036854775807 := by omega
  obtain ⟨W3, hW3⟩ : ∃ W3, W3 = ((w.alloc (Obj.cells #[.slice A0 l0.length c0, .slice A1 l1.length c1] 25)).alloc (Obj.cells #[.slice A2 l2.length c2] 26)).alloc (Obj.cells #[.slice none 0 0, .slice none 0 0] 25) := ⟨_, rfl⟩
  have HB3 := Aside0.mk (show Below w.heap.size w W3 by rw [hW3]; exact below_alloc (below_alloc (below_alloc (Below.refl _ _) _) _) _)
  obtain ⟨B, hB⟩ : ∃ B, B = w.heap.size := ⟨_, rfl⟩
  have b0 : W3.heap[B]? = some (.cells #[.slice A0 l0.length c0, .slice A1 l1.length c1] 25 (0, 0)) := by rw [hW3, hB]; exact blk_alloc (blk_alloc (heap_alloc_new _ _) _) _
  have b1 : W3.heap[B + 1]? = some (.cells #[.slice A2 l2.length c2] 26 (0, 0)) := by rw [hW3, hB]; exact blk_alloc ((congrArg (fun k => (World.heap _)[k]?) (by simp)).trans (heap_alloc_new (w.alloc _) _)) _
  have b2 : W3.heap[B + 2]? = some (.cells #[.slice none 0 0, .slice none 0 0] 25 (0, 0)) := by rw [hW3, hB]; exact (congrArg (fun k => (World.heap _)[k]?) (by simp)).trans (heap_alloc_new ((w.alloc _).alloc _) _)
  have f0 : W3.cell? ⟨B, 0, none⟩ = some (.slice A0 l0.length c0) := (blk_cell b0 0).trans rfl
  have f1 : W3.cell? ⟨B, 1, none⟩ = some (.slice A1 l1.length c1) := (blk_cell b0 1).trans rfl
  have f2 : W3.cell? ⟨B + 1, 0, none⟩ = some (.slice A2 l2.length c2) := (blk_cell b1 0).trans rfl
  have f3 : W3.cell? ⟨B + 2, 0, none⟩ = some (.slice none 0 0) := (blk_cell b2 0).trans rfl
  have f4 : W3.cell? ⟨B + 2, 1, none⟩ = some (.slice none 0 0) := (blk_cell b2 1).trans rfl
  have f5 : W3.frozen? ⟨B + 2, 0, none⟩ = false := blk_frozen b2 0
  have f6 : W3.frozen? ⟨B + 2, 1, none⟩ = false := blk_frozen b2 1
  have f7 : W3.heap.size = B + 3 := by rw [hW3, hB]; simp only [World.alloc, Array.size_push]
  clear b0 b1 b2
  have HF := Aside0.mk (And.intro f0 (And.intro f1 (And.intro f2 (And.intro f3 (And.intro f4 (And.intro f5 (And.intro f6 f7)))))))
  have HWE := Aside0.mk hW3
  have HBE := Aside0.mk hB
  clear f0 f1 f2 f3 f4 f5 f6 f7 hW3 hB
  go_enter Try.func21, Try.ntmps21
  go_wp2_with fail
  rw [← HWE.out, ← HBE.out]
  obtain ⟨f0, f1, f2, f3, f4, f5, f6, f7⟩ := HF.out
  refine (undone_walk A0 c0 l0 A1 c1 l1 W3 (Kd.C_below HR0.out HB3.out) HC0.out (Kd.C_below HR1.out HB3.out) HC1.out HL.out hlim1 HOK.out).mono ?_
  rw [HU.out]
  rintro e w4 ⟨v0, v1, rfl, hRs, hRp, hB4⟩
  have g1 := (hB4.cell (p := ⟨B, 1, none⟩) (World.block_lt_of_cell? W3 _ f1)).trans f1
  have g0 := (hB4.cell (p := ⟨B, 0, none⟩) (World.block_lt_of_cell? W3 _ f0)).trans f0
  have HRs := Aside0.mk hRs
  have HRp := Aside0.mk hRp
  have HB4 := Aside0.mk hB4
  clear f0 f1 f2 f3 f4 f5 f6 f7 hRs hRp hB4
  go_wp2
  have HG := Aside0.mk (And.intro g0 g1)
  clear g0 g1
  by_cases hn : l1.length = 0
  · have hn' : l1 = [] := List.eq_nil_of_length_eq_zero hn
    subst hn'
    go_loopg [20] 1 (fun gg s20 wr => s20 = .int .i64 0 ∧ wr = w4)
    case atStart => exact ⟨rfl, rfl⟩
    case round =>
      obtain ⟨rfl, rfl⟩ := hrel
      obtain ⟨f0, f1, f2, f3, f4, f5, f6, f7⟩ := HF.out
      have k3 := (HB4.out.cell (p := ⟨B + 2, 0, none⟩) (World.block_lt_of_cell? W3 _ f3)).trans f3
      have k4 := (HB4.out.cell (p := ⟨B + 2, 1, none⟩) (World.block_lt_of_cell? W3 _ f4)).trans f4
      have k5 := (HB4.out.frozen (p := ⟨B + 2, 0, none⟩) (World.block_lt_of_cell? W3 _ f3)).trans f5
      have k6 := (HB4.out.frozen (p := ⟨B + 2, 1, none⟩) (World.block_lt_of_cell? W3 _ f4)).trans f6
      clear f0 f1 f2 f3 f4 f5 f6 f7
      obtain ⟨A9, c9, rfl⟩ := Kd.R_slice HRs.out
      go_wp2
      exact bodyPost_ret (v := .agg #[.slice A9 s0.length c9, .slice none 0 0]) (by simp [results, Try.results21, go_sem, k3, k4]) rfl ⟨_, rfl, fin_crash HB3.out HF.out.2.2.2.2.2.2.2 HBE.out HRs.out HB4.out _ _⟩
  · have hn0 : 0 < l1.length := by omega
    have hl0 : 0 < l0.length := by have := HOK.out 0 hn0; omega
    obtain ⟨g0, cc0, rfl, hg0, hg0'⟩ := R_form HRs.out HSL.out.1 hl0
    obtain ⟨g1, cc1, rfl, hg1, hg1'⟩ := R_form HRp.out HSL.out.2 hn0
    have hne : g0 ≠ g1 := by
      intro e
      have := HRs.out.1 g0 rfl
      simp [Value.ownBlock, e] at this
    have HQ := Aside0.mk (And.intro hg0 (And.intro hg0' (And.intro hg1 (And.intro hg1' hne))))
    clear hg0 hg0' hg1 hg1'
    go_loopg [20] l1.length (fun gg s20 wr => ∃ i : Nat, i ≤ l1.length ∧ l1.length - i ≤ gg ∧ s20 = .int .i64 i ∧ Aside0 (Kd.R Kd.string 9 wr W3.heap.size (fun k => some k ≠ some g1) (.slice (some ⟨g0, 0, none⟩) l0.length cc0) (crS l1 p l2 i s0)) ∧ Aside0 (Kd.R Kd.string 9 wr W3.heap.size (fun k => some k ≠ some g0) (.slice (some ⟨g1, 0, none⟩) l1.length cc1) p) ∧ Aside0 (Below W3.heap.size W3 wr))
    case atStart => exact ⟨0, Nat.zero_le _, by omega, rfl, HRs, HRp, HB4⟩
    case round =>
      obtain ⟨i, hi1, hi2, rfl, HRs, HRp, HB⟩ := hrel
      by_cases hlt : i < l1.length
      · have hlt' : (i : Int) < (l1.length : Int) := by omega
        have hi0 : (0 : Int) ≤ (i : Int) := by omega
        have hwB : Below w.heap.size w wr := HB3.out.trans (HB.out.mono HB3.out.size)
        obtain ⟨ad, hA1, hc0, hc1'⟩ := at_T46 (Kd.C_below HR1.out hwB) (i : Int) (by omega) (by omega)
        subst hA1
        have hof := HOK.out i hlt
        rw [show rd_T46 l1 (i : Int) = l1.getD i z46 from rfl, Int.toNat_natCast] at hc0 hc1'
        generalize hx : l1.getD i z46 = x at hc0 hc1' hof
        have HX := Aside0.mk hx
        clear hx
        obtain ⟨f0, f1⟩ := x
        simp only at hc0 hc1' hof
        have HCUT := Aside0.mk (fun W (hb : Below wr.heap.size wr W) => cut_calls i (B + 1) A2 c2 l2 W (by omega) ((hb.cell (p := ⟨B + 1, 0, none⟩) (World.block_lt_of_cell? wr _ ((HB.out.cell (p := ⟨B + 1, 0, none⟩) (World.block_lt_of_cell? W3 _ HF.out.2.2.1)).trans HF.out.2.2.1))).trans ((HB.out.cell (p := ⟨B + 1, 0, none⟩) (World.block_lt_of_cell? W3 _ HF.out.2.2.1)).trans HF.out.2.2.1)) (Kd.C_below (Kd.C_below HR2.out hwB) hb))
        clear hwB
        have HN32 := Aside0.mk (cutF_le l2 i)
        obtain ⟨n, hn⟩ : ∃ n, n = cutF l2 i := ⟨_, rfl⟩
        simp only [← hn] at HCUT HN32
        have HNE := Aside0.mk hn
        clear hn
        go_wp2_with (go_at_call 37; refine (HCUT.out _ (below_alloc (Below.refl _ _) _)).mono ?_; rintro e w' ⟨rfl, ⟨nd, rfl⟩⟩)
        obtain ⟨W, hW⟩ : ∃ W, W = (wr.alloc (Obj.cells #[Value.int .i64 f0, Value.string f1] 46)).drewN nd := ⟨_, rfl⟩
        have hWB : Below wr.heap.size wr W := by rw [hW]; exact pw_below_drewN (below_alloc (Below.refl _ _) _) _
        obtain ⟨b5, hb5⟩ : ∃ b5, b5 = wr.heap.size := ⟨_, rfl⟩
        have e1 : W.cell? ⟨b5, 0, none⟩ = some (.int .i64 f0) := by rw [hW, hb5]; simp
        have e2 : W.cell? ⟨b5, 1, none⟩ = some (.string f1) := by rw [hW, hb5]; simp
        have HRs2 := Kd.R_below HRs.out hWB
        have HRp2 := Kd.R_below HRp.out hWB
        have hlc : (crS l1 p l2 i s0).length = l0.length := (Kd.R_reads' HRs.out).1.symm
        obtain ⟨e3, e5⟩ := Kd.R_celln (enc := Value.string) ByteArray.empty HRs2 f0 hof.1 (by omega)
        obtain ⟨e4, _⟩ := Kd.R_celln (enc := Value.string) ByteArray.empty HRp2 (i : Int) (by omega) (by omega)
        simp only [Int.toNat_natCast] at e4
        have hps : (rdOf ByteArray.empty p (i : Int)).size = 32 := HP.out i hlt
        have hss : (rdOf ByteArray.empty (crS l1 p l2 i s0) f0).size = 32 := HS.out i f0.toNat hlt (by omega)
        generalize hy : rdOf ByteArray.empty p (i : Int) = y at e4 hps
        generalize hz : rdOf ByteArray.empty (crS l1 p l2 i s0) f0 = z at e3 hss
        have HY := Aside0.mk hy
        have HZ := Aside0.mk hz
        have HR2' := Aside0.mk (And.intro HRs2 HRp2)
        have hf4 : f0 < (l0.length : Int) := by omega
        have hf5 : (0 : Int) ≤ f0 := hof.1
        have hn32 := HN32.out
        have hn1 : (0 : Int) ≤ (n : Int) := by omega
        have hn2 : (n : Int) ≤ 32 := by omega
        have hgg := HQ.out
        have hne' : g1 ≠ g0 := fun e => hne e.symm
        have hbg0 : b5 ≠ g0 := by rw [hb5]; have := (World.block_lt_of_cell? wr _ (Kd.R_celln (enc := Value.string) ByteArray.empty HRs.out f0 hof.1 (by omega)).1); simp only at this; omega
        have hbg0' : g0 ≠ b5 := fun e => hbg0 e.symm
        clear hy hz HRs2 HRp2 hof
        rw [← hW, ← hb5]
        have HW := Aside0.mk hWB
        clear hWB hW hb5 hgg
        go_region
        go_wp2
        go_roundg (l1.length - (i + 1))
        case measure => omega
        case rel =>
          have q1 := Kd.R_putn (enc := Value.string) HR2'.out.1 f0 (y.extract 0 n ++ z.extract n 32)
          have p1 := Kd.R_far (p := ⟨g0, f0.toNat, none⟩) HR2'.out.2 (fun k hk e => hk (by rw [e])) (Value.string (y.extract 0 n ++ z.extract n 32))
          have hgl : crS l1 p l2 (i + 1) s0 = (crS l1 p l2 i s0).set f0.toNat (y.extract 0 n ++ z.extract n 32) := by
            conv => lhs; unfold crS
            rw [HX.out, ← HNE.out]
            show (crS l1 p l2 i s0).set f0.toNat (glue (rdOf ByteArray.empty p (i : Int)) n (rdOf ByteArray.empty (crS l1 p l2 i s0) f0)) = _
            rw [HY.out, HZ.out]
            unfold glue
            rw [hss]
          refine ⟨i + 1, by omega, by omega, by simp, ⟨?_⟩, ⟨Kd.R_drew p1⟩, ⟨below_drew ((HB.out.trans (HW.out.mono HB.out.size)).setCell HQ.out.1 _)⟩⟩
          rw [hgl]
          exact Kd.R_drew q1
      · have hi4 : i = l1.length := by omega
        subst hi4
        have hlt' : ¬ (l1.length : Int) < (l1.length : Int) := by omega
        obtain ⟨f0, f1, f2, f3, f4, f5, f6, f7⟩ := HF.out
        have k3 := (HB.out.cell (p := ⟨B + 2, 0, none⟩) (World.block_lt_of_cell? W3 _ f3)).trans f3
        have k4 := (HB.out.cell (p := ⟨B + 2, 1, none⟩) (World.block_lt_of_cell? W3 _ f4)).trans f4
        have k5 := (HB.out.frozen (p := ⟨B + 2, 0, none⟩) (World.block_lt_of_cell? W3 _ f3)).trans f5
        have k6 := (HB.out.frozen (p := ⟨B + 2, 1, none⟩) (World.block_lt_of_cell? W3 _ f4)).trans f6
        clear f0 f1 f2 f3 f4 f5 f6 f7
        go_wp2
        exact bodyPost_ret (v := .agg #[.slice (some ⟨g0, 0, none⟩) l0.length cc0, .slice none 0 0]) (by simp [results, Try.results21, go_sem, k3, k4]) rfl ⟨_, rfl, fin_crash HB3.out HF.out.2.2.2.2.2.2.2 HBE.out HRs.out HB.out _ _⟩

/-! ### disk.Crash: function 21 -/
/-- The pure crash: undo, then each write's first bytes again. -/
def crashV (l0_0 : List ByteArray) (l0_1 : List S46) (l1 : List Int) : List ByteArray :=
  crS l0_1 (undoS l0_1 l0_1.length l0_0 (List.replicate l0_1.length ByteArray.empty)).2 l1 l0_1.length (undoS l0_1 l0_1.length l0_0 (List.replicate l0_1.length ByteArray.empty)).1
def crashOk (l0_0 : List ByteArray) (l0_1 : List S46) : Prop := l0_0.length ≤ 1000 ∧ l0_1.length ≤ 1000 ∧ (∀ x ∈ l0_0, x.size = 32) ∧ ∀ x ∈ l0_1, 0 ≤ x.f0 ∧ x.f0 < (l0_0.length : Int) ∧ x.f1.size = 32
instance (a : List ByteArray) (b : List S46) : Decidable (crashOk a b) := by unfold crashOk; exact inferInstance
def dCrash.f (l0_0 : List ByteArray) (l0_1 : List S46) (l1 : List Int) : Option (List ByteArray × List S46) := if crashOk l0_0 l0_1 then some (crashV l0_0 l0_1 l1, []) else none
def all32 (l : List ByteArray) : Prop := ∀ x ∈ l, x.size = 32
theorem all32_set {l : List ByteArray} (h : all32 l) (i : Nat) {b : ByteArray} (hb : b.size = 32) : all32 (l.set i b) := fun x hx => by
  rcases List.mem_or_eq_of_mem_set hx with hx | rfl
  · exact h x hx
  · exact hb
theorem all32_get {l : List ByteArray} (h : all32 l) {i : Nat} (hi : i < l.length) : (l.getD i ByteArray.empty).size = 32 := by
  rw [List.getD_eq_getElem?_getD, List.getElem?_eq_getElem hi]
  exact h _ (List.getElem_mem _)
theorem ws_get {n : Nat} {ws : List S46} (h : ∀ x ∈ ws, 0 ≤ x.f0 ∧ x.f0 < (n : Int) ∧ x.f1.size = 32) {i : Nat} (hi : i < ws.length) : 0 ≤ (ws.getD i z46).f0 ∧ (ws.getD i z46).f0 < n ∧ (ws.getD i z46).f1.size = 32 := by
  rw [List.getD_eq_getElem?_getD, List.getElem?_eq_getElem hi]
  exact h _ (List.getElem_mem _)
theorem undoS_32 {n : Nat} (ws : List S46) (h : ∀ x ∈ ws, 0 ≤ x.f0 ∧ x.f0 < (n : Int) ∧ x.f1.size = 32) : ∀ i s p, i ≤ ws.length → s.length = n → p.length = ws.length → all32 s → (∀ j, i ≤ j → j < ws.length → (p.getD j ByteArray.empty).size = 32) →
    all32 (undoS ws i s p).1 ∧ ∀ j, j < ws.length → ((undoS ws i s p).2.getD j ByteArray.empty).size = 32
  | 0, s, p, _, _, _, hs, hp => ⟨hs, fun j hj => hp j (Nat.zero_le _) hj⟩
  | i + 1, s, p, hi, hsl, hpl, hs, hp => by
    have hw := ws_get h (i := i) (by omega)
    unfold undoS
    refine undoS_32 ws h i _ _ (by omega) (by simpa using hsl) (by simpa using hpl) (all32_set hs _ hw.2.2) (fun j hij hj => ?_)
    by_cases e : j = i
    · subst e
      rw [List.getD_eq_getElem?_getD, List.getElem?_set_self (by omega)]
      exact all32_get hs (by omega)
    · rw [List.getD_eq_getElem?_getD, List.getElem?_set_ne (fun h => e h.symm), ← List.getD_eq_getElem?_getD]
      exact hp j (by omega) hj
theorem glue_size {a b : ByteArray} {n : Nat} (ha : a.size = 32) (hb : b.size = 32) (hn : n ≤ 32) : (glue a n b).size = 32 := by
  unfold glue
  rw [ByteArray.size_append, ByteArray.size_extract, ByteArray.size_extract, ha, hb]
  omega
theorem crS_len (ws : List S46) (p : List ByteArray) (cuts : List Int) : ∀ i s, (crS ws p cuts i s).length = s.length
  | 0, s => rfl
  | i + 1, s => by unfold crS; rw [List.length_set]; exact crS_len ws p cuts i s
theorem crS_32 {n : Nat} (ws : List S46) (h : ∀ x ∈ ws, 0 ≤ x.f0 ∧ x.f0 < (n : Int) ∧ x.f1.size = 32) (p : List ByteArray) (hp : ∀ j, j < ws.length → (p.getD j ByteArray.empty).size = 32) (cuts : List Int) (s : List ByteArray) (hsl : s.length = n) (hs : all32 s) : ∀ i, i ≤ ws.length → all32 (crS ws p cuts i s)
  | 0, _ => hs
  | i + 1, hi => by
    have ih := crS_32 ws h p hp cuts s hsl hs i (by omega)
    have hw := ws_get h (i := i) (by omega)
    unfold crS
    exact all32_set ih _ (glue_size (hp i (by omega)) (all32_get ih (by rw [crS_len]; omega)) (cutF_le _ _))

theorem dCrash.calls (A0_0 : Option Addr) (c0_0 : Nat) (l0_0 : List ByteArray) (A0_1 : Option Addr) (c0_1 : Nat) (l0_1 : List (S46)) (A1 : Option Addr) (c1 : Nat) (l1 : List Int) (r1 : List ByteArray) (r2 : List (S46)) (w : World) (hr0_0 : Kd.C Kd.string w A0_0 l0_0.length l0_0) (hc0_0 : l0_0.length ≤ c0_0) (hr0_1 : Kd.C k46 w A0_1 l0_1.length l0_1) (hc0_1 : l0_1.length ≤ c0_1) (hr1 : Kd.C (Kd.int .i64) w A1 l1.length l1) (hc1 : l1.length ≤ c1) (h : dCrash.f l0_0 l0_1 l1 = some (r1, r2)) :
    Calls Try.prog 21 #[.agg #[.slice A0_0 l0_0.length c0_0, .slice A0_1 l0_1.length c0_1], .slice A1 l1.length c1] w fun e w' => ∃ v0_ v1_ : Value, e = .returned (.agg #[v0_, v1_]) ∧ Kd.R Kd.string 9 w' w.heap.size (fun _ => True) v0_ r1 ∧ Kd.R k46 46 w' w.heap.size (fun _ => True) v1_ r2 ∧ Below w.heap.size w w' := by
  unfold dCrash.f at h
  by_cases hv : crashOk l0_0 l0_1
  · rw [if_pos hv] at h
    simp only [Option.some.injEq, Prod.mk.injEq] at h
    obtain ⟨rfl, rfl⟩ := h
    obtain ⟨h1, h2, h3, h4⟩ := hv
    have hk := undoS_32 l0_1 h4 l0_1.length l0_0 (List.replicate l0_1.length ByteArray.empty) (Nat.le_refl _) rfl (by simp) h3 (fun j a b => by omega)
    have hl := undoS_len l0_1 l0_1.length l0_0 (List.replicate l0_1.length ByteArray.empty)
    refine (crash_walk A0_0 c0_0 l0_0 A0_1 c0_1 l0_1 A1 c1 l1 w hr0_0 hc0_0 hr0_1 hc0_1 hr1 (by omega) h2 (fun i hi => ⟨(ws_get h4 hi).1, (ws_get h4 hi).2.1⟩) _ _ rfl hk.2 (fun i j hi hj => ?_)).mono ?_
    · exact all32_get (crS_32 l0_1 h4 _ hk.2 l1 _ hl.1 hk.1 i (by omega)) (by rw [crS_len, hl.1]; exact hj)
    · rintro e w' ⟨v0, rfl, hR, hB⟩
      exact ⟨_, _, rfl, hR, Kd.R_nil _ _ _ _ _, hB⟩
  · rw [if_neg hv] at h
    exact absurd h (by simp)
end Go.Proofs.Ytdaonhgcejjlhaa.P
namespace Go.Proofs.Ytdaonhgcejjlhaa.P
open Go.RowKit Go.Proofs.YtdaonhgcejjlhaaW.PrintWords Go.Proofs.YtdaonhgcejjlhaaW.PrintLast Go.Proofs.YtdaonhgcejjlhaaW.PrintMore
set_option linter.unusedVariables false
set_option linter.unusedSimpArgs false
def full32 (c : Int) : ByteArray := strOfNums (List.replicate 32 c)
theorem full_loop (c : Int) (d : Nat) : ∀ (k i : Nat) (xs : List Int), i + d = 32 → xs = List.replicate i c ++ List.replicate d 0 → d < k → hallmootlaw22_full.l0 k c xs i = some (full32 c) := by
  induction d with
  | zero =>
    intro k i xs hi hx hk
    obtain ⟨k, rfl⟩ : ∃ m, k = m + 1 := ⟨k - 1, by omega⟩
    subst hx
    obtain rfl : i = 32 := by omega
    rfl
  | succ d ih =>
    intro k i xs hi hx hk
    obtain ⟨k, rfl⟩ : ∃ m, k = m + 1 := ⟨k - 1, by omega⟩
    have hl : xs.length = 32 := by rw [hx]; simp; omega
    simp only [hallmootlaw22_full.l0]
    rw [if_pos (by omega), if_pos (by omega)]
    have hw : wrap64 ((i : Int) + 1) = ((i + 1 : Nat) : Int) := by unfold wrap64; omega
    rw [hw]
    refine ih k (i + 1) _ (by omega) ?_ (by omega)
    rw [hx, Int.toNat_natCast, List.set_append]
    simp [List.replicate_succ']
    rw [show List.replicate d (0 : Int) ++ [0] = 0 :: List.replicate d 0 by rw [← List.replicate_succ', List.replicate_succ], List.set_cons_zero]
theorem full_eq (c : Int) : hallmootlaw22_full.f 40 c = some (full32 c) := by
  unfold hallmootlaw22_full.f
  rw [if_pos (by omega)]
  exact full_loop c 32 40 0 _ rfl (by simp) (by omega)
theorem full_det {k : Nat} {c : Int} {r : ByteArray} (h : hallmootlaw22_full.f k c = some r) : r = full32 c := by
  have h1 := at_rounds (g := fun k => hallmootlaw22_full.f k c) (fun k => hallmootlaw22_full.mono c k) (Nat.le_max_left k 40) h
  have h2 := at_rounds (g := fun k => hallmootlaw22_full.f k c) (fun k => hallmootlaw22_full.mono c k) (Nat.le_max_right k 40) (full_eq c)
  exact Option.some.inj (h1.symm.trans h2)
theorem full_at {k : Nat} (c : Int) (hk : 40 ≤ k) : hallmootlaw22_full.f k c = some (full32 c) := at_rounds (g := fun k => hallmootlaw22_full.f k c) (fun k => hallmootlaw22_full.mono c k) hk (full_eq c)
theorem full32_size (c : Int) : (full32 c).size = 32 := by
  unfold full32
  rw [strOfNums_size]
  simp
theorem full_sz {k : Nat} {c : Int} {r : ByteArray} (h : hallmootlaw22_full.f k c = some r) : r.size = 32 := by rw [full_det h]; exact full32_size c
end Go.Proofs.Ytdaonhgcejjlhaa.P
namespace Go.Proofs.Ytdaonhgcejjlhaa.P
open Go.RowKit Go.Proofs.YtdaonhgcejjlhaaW.PrintWords Go.Proofs.YtdaonhgcejjlhaaW.PrintLast Go.Proofs.YtdaonhgcejjlhaaW.PrintMore
attribute [local go_sem] max2_int min2_int max_two min_two max_three min_three max_four min_four   -- for this text's walks alone
set_option linter.unusedVariables false
set_option linter.unusedSimpArgs false

/-! ### hallmootref22_Few: function 8 -/
mutual
def hallmootref22_Few.j0 : Nat → Bool → List ByteArray → List (S46) → Option (Bool)
  | 0, _, _, _ => none
  | k + 1, x14, x218000, x218001 => if x14 = true then (some false) else (hallmootref22_Few.l0 k 0 x218000 x218001)
def hallmootref22_Few.l0 : Nat → Int → List ByteArray → List (S46) → Option (Bool)
  | 0, _, _, _ => none
  | k + 1, x3, x218000, x218001 => if x3 < (x218000.length : Int) then (if 0 ≤ x3 then (if ((rdOf ByteArray.empty x218000 x3).size : Int) > 60 then (some false) else (hallmootref22_Few.l0 k (wrap64 (x3 + 1)) x218000 x218001)) else (none)) else (hallmootref22_Few.l1 k 0 x218000 x218001)
def hallmootref22_Few.l1 : Nat → Int → List ByteArray → List (S46) → Option (Bool)
  | 0, _, _, _ => none
  | k + 1, x4, x218000, x218001 => if x4 < (x218001.length : Int) then (if 0 ≤ x4 then (if (((rd_T46 x218001 x4).f1).size : Int) > 60 then (some false) else (hallmootref22_Few.l1 k (wrap64 (x4 + 1)) x218000 x218001)) else (none)) else (some true)
end
def hallmootref22_Few.f (k : Nat) (l0_0 : List ByteArray) (l0_1 : List (S46)) : Option (Bool) := if (l0_0.length : Int) > 600 then (hallmootref22_Few.j0 k true l0_0 l0_1) else (hallmootref22_Few.j0 k (decide ((l0_1.length : Int) > 60)) l0_0 l0_1)
theorem hallmootref22_Few.mono_l : ∀ k, (∀ y0 y1 y2, LeO (hallmootref22_Few.j0 k y0 y1 y2) (hallmootref22_Few.j0 (k + 1) y0 y1 y2)) ∧ (∀ y0 y1 y2, LeO (hallmootref22_Few.l0 k y0 y1 y2) (hallmootref22_Few.l0 (k + 1) y0 y1 y2)) ∧ (∀ y0 y1 y2, LeO (hallmootref22_Few.l1 k y0 y1 y2) (hallmootref22_Few.l1 (k + 1) y0 y1 y2))
  | 0 => ⟨fun _ _ _ r h => by simp [hallmootref22_Few.j0] at h, fun _ _ _ r h => by simp [hallmootref22_Few.l0] at h, fun _ _ _ r h => by simp [hallmootref22_Few.l1] at h⟩
  | k + 1 => by
    obtain ⟨ih0, ih1, ih2⟩ := hallmootref22_Few.mono_l k
    refine ⟨?_, ?_, ?_⟩
    · intro y0 y1 y2
      unfold hallmootref22_Few.j0
      repeat' first
      | (with_reducible exact ih0 _ _ _)
      | (with_reducible exact ih1 _ _ _)
      | (with_reducible exact ih2 _ _ _)
      | (with_reducible exact LeO.refl _)
      | (with_reducible exact LeO.none _)
      | (with_reducible refine LeO.ite ?_ ?_)
      | (with_reducible refine LeO.bind ?_ (fun _ => ?_))
      | exact ih0 _ _ _
      | exact ih1 _ _ _
      | exact ih2 _ _ _
      | exact LeO.none _
      | refine LeO.ite ?_ ?_
      | refine LeO.bind ?_ (fun _ => ?_)
    · intro y0 y1 y2
      unfold hallmootref22_Few.l0
      repeat' first
      | (with_reducible exact ih0 _ _ _)
      | (with_reducible exact ih1 _ _ _)
      | (with_reducible exact ih2 _ _ _)
      | (with_reducible exact LeO.refl _)
      | (with_reducible exact LeO.none _)
      | (with_reducible refine LeO.ite ?_ ?_)
      | (with_reducible refine LeO.bind ?_ (fun _ => ?_))
      | exact ih0 _ _ _
      | exact ih1 _ _ _
      | exact ih2 _ _ _
      | exact LeO.none _
      | refine LeO.ite ?_ ?_
      | refine LeO.bind ?_ (fun _ => ?_)
    · intro y0 y1 y2
      unfold hallmootref22_Few.l1
      repeat' first
      | (with_reducible exact ih0 _ _ _)
      | (with_reducible exact ih1 _ _ _)
      | (with_reducible exact ih2 _ _ _)
      | (with_reducible exact LeO.refl _)
      | (with_reducible exact LeO.none _)
      | (with_reducible refine LeO.ite ?_ ?_)
      | (with_reducible refine LeO.bind ?_ (fun _ => ?_))
      | exact ih0 _ _ _
      | exact ih1 _ _ _
      | exact ih2 _ _ _
      | exact LeO.none _
      | refine LeO.ite ?_ ?_
      | refine LeO.bind ?_ (fun _ => ?_)
theorem hallmootref22_Few.mono : ∀ a0 a1 k, LeO (hallmootref22_Few.f k a0 a1) (hallmootref22_Few.f (k + 1) a0 a1) := by
 intro a0 a1 k
 obtain ⟨ih0, ih1, ih2⟩ := hallmootref22_Few.mono_l k
 unfold hallmootref22_Few.f
 repeat' first | (with_reducible exact ih0 _ _ _) | (with_reducible exact ih1 _ _ _) | (with_reducible exact ih2 _ _ _) | (with_reducible exact LeO.refl _) | (with_reducible exact LeO.none _) | (with_reducible refine LeO.ite ?_ ?_) | (with_reducible refine LeO.bind ?_ (fun _ => ?_)) | exact ih0 _ _ _ | exact ih1 _ _ _ | exact ih2 _ _ _ | exact LeO.none _ | refine LeO.ite ?_ ?_ | refine LeO.bind ?_ (fun _ => ?_)
set_option maxHeartbeats 8000000 in
set_option maxRecDepth 100000 in
theorem hallmootref22_Few.calls (k : Nat) (A0_0 : Option Addr) (c0_0 : Nat) (l0_0 : List ByteArray) (A0_1 : Option Addr) (c0_1 : Nat) (l0_1 : List (S46)) (r : Bool) (w : World) (hr0_0 : Kd.C Kd.string w A0_0 l0_0.length l0_0) (hc0_0 : l0_0.length ≤ c0_0) (hr0_1 : Kd.C k46 w A0_1 l0_1.length l0_1) (hc0_1 : l0_1.length ≤ c0_1) (h : hallmootref22_Few.f k l0_0 l0_1 = some r) : Calls Try.prog 8 #[.agg #[.slice A0_0 l0_0.length c0_0, .slice A0_1 l0_1.length c0_1]] w fun e w' => e = .returned (.bool r) ∧ Below w.heap.size w w' := by
 have hu25 := Try.underlying25
 have HR0_0 := aS hr0_0
 have HC0_0 := aS hc0_0
 clear hr0_0 hc0_0
 have HR0_1 := aS hr0_1
 have HC0_1 := aS hc0_1
 clear hr0_1 hc0_1
 have HB := aS (Below.refl w.heap.size w)
 have H : (if (l0_0.length : Int) > 600 then (hallmootref22_Few.j0 k true l0_0 l0_1) else (hallmootref22_Few.j0 k (decide ((l0_1.length : Int) > 60)) l0_0 l0_1)) = some r := h
 clear h
 have HC2 := aS H
 clear H
 go_enter Try.func8, Try.ntmps8
 go_upto_region 1 with (first | ((with_reducible refine gate_dst (N := 1) rfl ?_); (try (refine gate_guard (by rfl) ?_; dsimp only)); refine box_event ?hg (N := 1) ?hd (cs := #[.slice A0_0 l0_0.length c0_0, .slice A0_1 l0_1.length c0_1]) (t := 25) ?hr ?_; (case hd => rfl); (case hg => rfl); (case hr => first | (go_simp; done) | (go_simp; rfl)); intro gb217 hg w3 hbox hb; have n0_ := aS (below_step bb hb); have n1_ := aS (hbox); have n2_ := aS ((by rw [hg]; exact bz : w.heap.size ≤ gb217)); have n3_ := aS ((by rw [hg]; exact bz : w.heap.size ≤ gb217)); clear HB; have HB := n0_; have BK217 := n1_; have GW217 := n2_; have GE217 := n3_; clear n0_ n1_ n2_ n3_; clear hb hbox hg))
 (try simp only [Act.put, List.setIfInBounds_toArray, List.set_cons_zero, List.set_cons_succ])
 go_cut [14] (fun v14 wc => ∃ (kq : Nat) (x14_1 : Bool), v14 = .bool x14_1 ∧ Aside0 (hallmootref22_Few.j0 kq x14_1 l0_0 l0_1 = some r) ∧ Aside0 (kq ≤ k) ∧ Aside0 (wc.heap[gb217]? = some (.cells #[(.slice A0_0 l0_0.length c0_0), (.slice A0_1 l0_1.length c0_1)] 25 (0, 0))) ∧ Aside0 (Below w.heap.size w wc))
 case first =>
  have H := HC2.out
  clear HC2
  by_cases c4 : (l0_0.length : Int) > 600
  {
  rw [if_pos c4] at H
  have c4b0 : decide (600 < (l0_0.length : Int)) = true := decide_eq_true c4
  have c4b1 : decide (600 < l0_0.length) = true := decide_eq_true (by omega)
  clear c4
  (first | rw [c4b0] | (simp only [i64_w, i32_w]; rw [c4b0]) | skip)
  have H' := aS H
  clear H
  have hcz5_0 : w3.cell? ⟨gb217, 0, none⟩ = some (.slice A0_0 l0_0.length c0_0) := (blk_cell BK217.out 0).trans rfl
  have hcz5_1 : w3.cell? ⟨gb217, 1, none⟩ = some (.slice A0_1 l0_1.length c0_1) := (blk_cell BK217.out 1).trans rfl
  have hfz5_0 := blk_frozen BK217.out 0
  have hfz5_1 := blk_frozen BK217.out 1
  go_wp2
  go_meet
  case rel => exact ⟨_, (true), (by first | rfl | (simp; done) | (simp [*]; done)), H', ⟨by first | omega | exact Nat.le_refl _⟩, ⟨kk BK217.out⟩, ⟨by repeat (first | (with_reducible first | exact HB.out | apply below_alloc | apply pw_below_drewN | apply below_drew1 | refine below_set ?_ GE217.out) | exact HB.out)⟩⟩ }
  {
  rw [if_neg c4] at H
  have c4b0 : decide (600 < (l0_0.length : Int)) = false := decide_eq_false c4
  have c4b1 : decide (600 < l0_0.length) = false := decide_eq_false (by omega)
  clear c4
  (first | rw [c4b0] | (simp only [i64_w, i32_w]; rw [c4b0]) | skip)
  have H' := aS H
  clear H
  have hcz6_0 : w3.cell? ⟨gb217, 0, none⟩ = some (.slice A0_0 l0_0.length c0_0) := (blk_cell BK217.out 0).trans rfl
  have hcz6_1 : w3.cell? ⟨gb217, 1, none⟩ = some (.slice A0_1 l0_1.length c0_1) := (blk_cell BK217.out 1).trans rfl
  have hfz6_0 := blk_frozen BK217.out 0
  have hfz6_1 := blk_frozen BK217.out 1
  go_wp2
  go_meet
  case rel => exact ⟨_, (decide ((l0_1.length : Int) > 60)), (by first | rfl | (simp; done) | (simp [*]; done)), H', ⟨by first | omega | exact Nat.le_refl _⟩, ⟨kk BK217.out⟩, ⟨by repeat (first | (with_reducible first | exact HB.out | apply below_alloc | apply pw_below_drewN | apply below_drew1 | refine below_set ?_ GE217.out) | exact HB.out)⟩⟩ }
 case rest =>
  clear HC2
  try clear p2
  try clear c4
  try clear c4b0
  try clear c4b1
  try clear hcz5_0
  try clear hcz5_1
  try clear hcz6_0
  try clear hcz6_1
  try clear hfz5_0
  try clear hfz5_1
  try clear hfz6_0
  try clear hfz6_1
  obtain ⟨kq, x14_1, rfl, HA, HJ1, BK217, HB⟩ := hcut
  cases kq with
  | zero => exact absurd HA.out (by simp [hallmootref22_Few.j0])
  | succ kj1 => {
  have H := HA.out
  clear HA
  simp only [hallmootref22_Few.j0] at H
  by_cases c7 : x14_1 = true
  {
  subst c7
  have H1 : (some false) = some r := by rw [if_pos rfl] at H; exact H
  clear H
  have H := H1
  clear H1
  obtain rfl := Option.some.inj H
  go_wp2
  go_ret
  exact ⟨by first | rfl | (simp [errW_none, errW_some] <;> rfl) | (simp [*, errW_none, errW_some] <;> rfl), by repeat (first | (with_reducible first | exact HB.out | apply below_alloc | apply pw_below_drewN | apply below_drew1 | refine below_set ?_ GE217.out) | exact HB.out)⟩ }
  {
  replace c7 := Bool.eq_false_iff.mpr c7
  subst c7
  have H1 : (hallmootref22_Few.l0 kj1 0 l0_0 l0_1) = some r := by rw [if_neg (show ¬ (false = true) by decide)] at H; exact H
  clear H
  have H := H1
  clear H1
  have H' := aS H
  clear H
  go_wp2
  go_loopg [3] kj1 (fun kq v3 w' => ∃ (x3_2 : Int), v3 = .int .i64 x3_2 ∧ Aside0 (hallmootref22_Few.l0 kq x3_2 l0_0 l0_1 = some r) ∧ Aside0 (kq ≤ kj1) ∧ Aside0 (w'.heap[gb217]? = some (.cells #[(.slice A0_0 l0_0.length c0_0), (.slice A0_1 l0_1.length c0_1)] 25 (0, 0))) ∧ Aside0 (Below w.heap.size w w'))
  case atStart => exact ⟨(0), (by first | rfl | (simp; done) | (simp [*]; done)), H', ⟨Nat.le_refl _⟩, ⟨kk BK217.out⟩, ⟨by repeat (first | (with_reducible first | exact HB.out | apply below_alloc | apply pw_below_drewN | apply below_drew1 | refine below_set ?_ GE217.out) | exact HB.out)⟩⟩
  case round =>
   clear H'
   try clear p2
   try clear c4
   try clear c4b0
   try clear c4b1
   try clear c7
   try clear hcz5_0
   try clear hcz5_1
   try clear hcz6_0
   try clear hcz6_1
   try clear hfz5_0
   try clear hfz5_1
   try clear hfz6_0
   try clear hfz6_1
   try clear p2
   obtain ⟨x3_2, rfl, HA, HK2, BK217, HB⟩ := hrel
   cases gk with
   | zero => exact absurd HA.out (by simp [hallmootref22_Few.l0])
   | succ k2 => {
   have H := HA.out
   clear HA
   simp only [hallmootref22_Few.l0] at H
   by_cases c8 : x3_2 < (l0_0.length : Int)
   {
   rw [if_pos c8] at H
   have c8b0 : decide (x3_2 < (l0_0.length : Int)) = true := decide_eq_true c8
   clear c8
   by_cases c9 : 0 ≤ x3_2
   {
   rw [if_pos c9] at H
   have c9b0 : decide (0 ≤ x3_2) = true := decide_eq_true c9
   clear c9
   by_cases c10 : ((rdOf ByteArray.empty l0_0 x3_2).size : Int) > 60
   {
   rw [if_pos c10] at H
   have c10b0 : decide (60 < ((rdOf ByteArray.empty l0_0 x3_2).size : Int)) = true := decide_eq_true c10
   have c10b1 : decide (60 < (rdOf ByteArray.empty l0_0 x3_2).size) = true := decide_eq_true (by omega)
   clear c10
   obtain rfl := Option.some.inj H
   have hcz11_0 : wr.cell? ⟨gb217, 0, none⟩ = some (.slice A0_0 l0_0.length c0_0) := (blk_cell BK217.out 0).trans rfl
   have hcz11_1 : wr.cell? ⟨gb217, 1, none⟩ = some (.slice A0_1 l0_1.length c0_1) := (blk_cell BK217.out 1).trans rfl
   have hfz11_0 := blk_frozen BK217.out 0
   have hfz11_1 := blk_frozen BK217.out 1
   have p218 : 0 ≤ (x3_2 : Int) := dd
   have q218 : x3_2 < (l0_0.length : Int) := dd
   obtain ⟨ad218, e218, hx218_0⟩ := Kd.at_string HR0_0.out x3_2 p218 q218
   cases e218
   replace hx218_0 := cc HB.out hx218_0
   replace p218 := eq_true p218
   replace q218 := eq_true q218
   go_wp2
   go_ret
   exact ⟨by first | rfl | (simp [errW_none, errW_some] <;> rfl) | (simp [*, errW_none, errW_some] <;> rfl), by repeat (first | (with_reducible first | exact HB.out | apply below_alloc | apply pw_below_drewN | apply below_drew1 | refine below_set ?_ GE217.out) | exact HB.out)⟩ }
   {
   rw [if_neg c10] at H
   have c10b0 : decide (60 < ((rdOf ByteArray.empty l0_0 x3_2).size : Int)) = false := decide_eq_false c10
   have c10b1 : decide (60 < (rdOf ByteArray.empty l0_0 x3_2).size) = false := decide_eq_false (by omega)
   clear c10
   have H' := aS H
   clear H
   have hcz12_0 : wr.cell? ⟨gb217, 0, none⟩ = some (.slice A0_0 l0_0.length c0_0) := (blk_cell BK217.out 0).trans rfl
   have hcz12_1 : wr.cell? ⟨gb217, 1, none⟩ = some (.slice A0_1 l0_1.length c0_1) := (blk_cell BK217.out 1).trans rfl
   have hfz12_0 := blk_frozen BK217.out 0
   have hfz12_1 := blk_frozen BK217.out 1
   have p218 : 0 ≤ (x3_2 : Int) := dd
   have q218 : x3_2 < (l0_0.length : Int) := dd
   obtain ⟨ad218, e218, hx218_0⟩ := Kd.at_string HR0_0.out x3_2 p218 q218
   cases e218
   replace hx218_0 := cc HB.out hx218_0
   replace p218 := eq_true p218
   replace q218 := eq_true q218
   go_wp2
   go_roundg k2
   case measure => have := HJ1.out; have := HK2.out; omega
   case rel => exact ⟨(wrap64 (x3_2 + 1)), (by first | rfl | (simp; done) | (simp [*]; done)), H', ⟨by have := HJ1.out; have := HK2.out; omega⟩, ⟨kk BK217.out⟩, ⟨by repeat (first | (with_reducible first | exact HB.out | apply below_alloc | apply pw_below_drewN | apply below_drew1 | refine below_set ?_ GE217.out) | exact HB.out)⟩⟩ } }
   {
   rw [if_neg c9] at H
   exact absurd H (by simp) } }
   {
   rw [if_neg c8] at H
   have c8b0 : decide (x3_2 < (l0_0.length : Int)) = false := decide_eq_false c8
   clear c8
   have H' := aS H
   clear H
   have hcz13_0 : wr.cell? ⟨gb217, 0, none⟩ = some (.slice A0_0 l0_0.length c0_0) := (blk_cell BK217.out 0).trans rfl
   have hcz13_1 : wr.cell? ⟨gb217, 1, none⟩ = some (.slice A0_1 l0_1.length c0_1) := (blk_cell BK217.out 1).trans rfl
   have hfz13_0 := blk_frozen BK217.out 0
   have hfz13_1 := blk_frozen BK217.out 1
   go_wp2
   go_loopg [4] k2 (fun kq v4 w' => ∃ (x4_3 : Int), v4 = .int .i64 x4_3 ∧ Aside0 (hallmootref22_Few.l1 kq x4_3 l0_0 l0_1 = some r) ∧ Aside0 (kq ≤ k2) ∧ Aside0 (w'.heap[gb217]? = some (.cells #[(.slice A0_0 l0_0.length c0_0), (.slice A0_1 l0_1.length c0_1)] 25 (0, 0))) ∧ Aside0 (Below w.heap.size w w'))
   case atStart => exact ⟨(0), (by first | rfl | (simp; done) | (simp [*]; done)), H', ⟨Nat.le_refl _⟩, ⟨kk BK217.out⟩, ⟨by repeat (first | (with_reducible first | exact HB.out | apply below_alloc | apply pw_below_drewN | apply below_drew1 | refine below_set ?_ GE217.out) | exact HB.out)⟩⟩
   case round =>
    clear H'
    try clear c1
    try clear p2
    try clear q2
    try clear hx2
    try clear c4
    try clear c4b0
    try clear c4b1
    try clear p6
    try clear c7
    try clear c8
    try clear c8b0
    try clear c9
    try clear c9b0
    try clear c10
    try clear c10b0
    try clear c10b1
    try clear hcz11_0
    try clear hcz11_1
    try clear hcz12_0
    try clear hcz12_1
    try clear hcz13_0
    try clear hcz13_1
    try clear hcz5_0
    try clear hcz5_1
    try clear hcz6_0
    try clear hcz6_1
    try clear hfz11_0
    try clear hfz11_1
    try clear hfz12_0
    try clear hfz12_1
    try clear hfz13_0
    try clear hfz13_1
    try clear hfz5_0
    try clear hfz5_1
    try clear hfz6_0
    try clear hfz6_1
    try clear hx218_0
    try clear p2
    try clear p218
    try clear q218
    obtain ⟨x4_3, rfl, HA, HK3, BK217, HB⟩ := hrel
    cases gk with
    | zero => exact absurd HA.out (by simp [hallmootref22_Few.l1])
    | succ k3 => {
    have H := HA.out
    clear HA
    simp only [hallmootref22_Few.l1] at H
    by_cases c14 : x4_3 < (l0_1.length : Int)
    {
    rw [if_pos c14] at H
    have c14b0 : decide (x4_3 < (l0_1.length : Int)) = true := decide_eq_true c14
    clear c14
    by_cases c15 : 0 ≤ x4_3
    {
    rw [if_pos c15] at H
    have c15b0 : decide (0 ≤ x4_3) = true := decide_eq_true c15
    clear c15
    by_cases c16 : (((rd_T46 l0_1 x4_3).f1).size : Int) > 60
    {
    rw [if_pos c16] at H
    have c16b0 : decide (60 < (((rd_T46 l0_1 x4_3).f1).size : Int)) = true := decide_eq_true c16
    have c16b1 : decide (60 < ((rd_T46 l0_1 x4_3).f1).size) = true := decide_eq_true (by omega)
    clear c16
    obtain rfl := Option.some.inj H
    have hcz17_0 : wr.cell? ⟨gb217, 0, none⟩ = some (.slice A0_0 l0_0.length c0_0) := (blk_cell BK217.out 0).trans rfl
    have hcz17_1 : wr.cell? ⟨gb217, 1, none⟩ = some (.slice A0_1 l0_1.length c0_1) := (blk_cell BK217.out 1).trans rfl
    have hfz17_0 := blk_frozen BK217.out 0
    have hfz17_1 := blk_frozen BK217.out 1
    have p219 : 0 ≤ (x4_3 : Int) := dd
    have q219 : x4_3 < (l0_1.length : Int) := dd
    obtain ⟨ad219, e219, hx219_0, hx219_1⟩ := at_T46 HR0_1.out x4_3 p219 q219
    cases e219
    replace hx219_0 := cc HB.out hx219_0
    replace hx219_1 := cc HB.out hx219_1
    replace p219 := eq_true p219
    replace q219 := eq_true q219
    go_wp2
    go_ret
    exact ⟨by first | rfl | (simp [errW_none, errW_some] <;> rfl) | (simp [*, errW_none, errW_some] <;> rfl), by repeat (first | (with_reducible first | exact HB.out | apply below_alloc | apply pw_below_drewN | apply below_drew1 | refine below_set ?_ GE217.out) | exact HB.out)⟩ }
    {
    rw [if_neg c16] at H
    have c16b0 : decide (60 < (((rd_T46 l0_1 x4_3).f1).size : Int)) = false := decide_eq_false c16
    have c16b1 : decide (60 < ((rd_T46 l0_1 x4_3).f1).size) = false := decide_eq_false (by omega)
    clear c16
    have H' := aS H
    clear H
    have hcz18_0 : wr.cell? ⟨gb217, 0, none⟩ = some (.slice A0_0 l0_0.length c0_0) := (blk_cell BK217.out 0).trans rfl
    have hcz18_1 : wr.cell? ⟨gb217, 1, none⟩ = some (.slice A0_1 l0_1.length c0_1) := (blk_cell BK217.out 1).trans rfl
    have hfz18_0 := blk_frozen BK217.out 0
    have hfz18_1 := blk_frozen BK217.out 1
    have p219 : 0 ≤ (x4_3 : Int) := dd
    have q219 : x4_3 < (l0_1.length : Int) := dd
    obtain ⟨ad219, e219, hx219_0, hx219_1⟩ := at_T46 HR0_1.out x4_3 p219 q219
    cases e219
    replace hx219_0 := cc HB.out hx219_0
    replace hx219_1 := cc HB.out hx219_1
    replace p219 := eq_true p219
    replace q219 := eq_true q219
    go_wp2
    go_roundg k3
    case measure => have := HJ1.out; have := HK2.out; have := HK3.out; omega
    case rel => exact ⟨(wrap64 (x4_3 + 1)), (by first | rfl | (simp; done) | (simp [*]; done)), H', ⟨by have := HJ1.out; have := HK2.out; have := HK3.out; omega⟩, ⟨kk BK217.out⟩, ⟨by repeat (first | (with_reducible first | exact HB.out | apply below_alloc | apply pw_below_drewN | apply below_drew1 | refine below_set ?_ GE217.out) | exact HB.out)⟩⟩ } }
    {
    rw [if_neg c15] at H
    exact absurd H (by simp) } }
    {
    rw [if_neg c14] at H
    have c14b0 : decide (x4_3 < (l0_1.length : Int)) = false := decide_eq_false c14
    clear c14
    obtain rfl := Option.some.inj H
    have hcz19_0 : wr.cell? ⟨gb217, 0, none⟩ = some (.slice A0_0 l0_0.length c0_0) := (blk_cell BK217.out 0).trans rfl
    have hcz19_1 : wr.cell? ⟨gb217, 1, none⟩ = some (.slice A0_1 l0_1.length c0_1) := (blk_cell BK217.out 1).trans rfl
    have hfz19_0 := blk_frozen BK217.out 0
    have hfz19_1 := blk_frozen BK217.out 1
    go_wp2
    go_ret
    exact ⟨by first | rfl | (simp [errW_none, errW_some] <;> rfl) | (simp [*, errW_none, errW_some] <;> rfl), by repeat (first | (with_reducible first | exact HB.out | apply below_alloc | apply pw_below_drewN | apply below_drew1 | refine below_set ?_ GE217.out) | exact HB.out)⟩ } } } } } }

end Go.Proofs.Ytdaonhgcejjlhaa.P
namespace Go.Proofs.Ytdaonhgcejjlhaa.P
open Go.RowKit Go.Proofs.YtdaonhgcejjlhaaW.PrintWords Go.Proofs.YtdaonhgcejjlhaaW.PrintLast Go.Proofs.YtdaonhgcejjlhaaW.PrintMore
attribute [local go_sem] max2_int min2_int max_two min_two max_three min_three max_four min_four   -- for this text's walks alone
set_option linter.unusedVariables false
set_option linter.unusedSimpArgs false

/-! ### hallmootref22_noughts: function 26 -/
def hallmootref22_noughts.f (a0 : Int) : Option (ByteArray) := if 0 ≤ a0 then (if (a0 : Int).toNat ≤ 281474976710656 then (some (strOfNums (List.replicate (a0 : Int).toNat 0))) else (none)) else (none)
set_option maxHeartbeats 8000000 in
set_option maxRecDepth 100000 in
theorem hallmootref22_noughts.calls (a0 : Int) (r : ByteArray) (w : World) (h : hallmootref22_noughts.f a0 = some r) : Calls Try.prog 26 #[.int .i64 a0] w fun e w' => e = .returned (.string r) ∧ Below w.heap.size w w' := by
 have HB := aS (Below.refl w.heap.size w)
 have H : (if 0 ≤ a0 then (if (a0 : Int).toNat ≤ 281474976710656 then (some (strOfNums (List.replicate (a0 : Int).toNat 0))) else (none)) else (none)) = some r := h
 clear h
 by_cases c2 : 0 ≤ a0
 {
 rw [if_pos c2] at H
 have c2b0 := eq_true c2
 have c2b1 : decide (0 ≤ a0) = true := decide_eq_true c2
 clear c2
 by_cases c3 : (a0 : Int).toNat ≤ 281474976710656
 {
 rw [if_pos c3] at H
 have c3b0 := eq_true c3
 have c3b1 : decide ((a0 : Int).toNat ≤ 281474976710656) = true := decide_eq_true c3
 clear c3
 obtain ⟨y220, hy220⟩ : ∃ y_ : List Int, y_ = (List.replicate (a0 : Int).toNat 0) := ⟨_, rfl⟩
 replace H : (some (strOfNums y220)) = some r := by first | (rw [hy220]; with_reducible exact H) | (have H2_ := (Option.bind_some _ _).symm.trans H; rw [hy220]; with_reducible exact H2_) | (have H2_ := (Option.bind_some _ _).symm.trans H; with_reducible exact H2_) | with_reducible exact H | (rw [hy220]; exact H) | exact H
 have Ny220 := aS hy220
 clear hy220
 obtain rfl := Option.some.inj H
 go_enter Try.func26, Try.ntmps26
 go_wp2_with (first | ((with_reducible refine gate_dst (N := 4) rfl ?_); refine Kd.R_make (Kd.int .u8) _ 5 rfl (N := 4) rfl 41 _ _ rfl a0 rfl rfl Try.underlying41 (.int .u8 0) 1 info5 rfl (by decide) (by omega) 0 (ok := fun _ => True) (okp := fun _ => True) rfl (fun _ hk => hk) trivial (dd) (Nat.le_trans (Nat.mul_le_mul_right _ (dd : a0.toNat ≤ 281474976710656)) (by omega)) (Below.refl _ _) (Nat.le_refl _) ?_; intro v221 w4 ho5 hb hg_ hnew_; clear hg_ hnew_; (first | rw [← Ny220.out] at ho5 | (simp only [Int.reduceToNat] at ho5; rw [← Ny220.out] at ho5)); have n0_ := aS (Kd.R_lower ho5 bz); have n1_ := aS (below_step bb hb); clear HB; have HO222 := n0_; have HB := n1_; clear n0_ n1_; clear hb ho5; have hcv6 := own_string (P := Try.prog) Try.underlying41 Try.underlying5 Try.underlying9 (Kd.own_of_R HO222.out)))
 go_ret
 exact ⟨by first | rfl | (simp [errW_none, errW_some] <;> rfl) | (simp [*, errW_none, errW_some] <;> rfl), by repeat (first | (with_reducible first | exact HB.out | apply below_alloc | apply pw_below_drewN | apply below_drew1) | exact HB.out)⟩ }
 {
 rw [if_neg c3] at H
 exact absurd H (by simp) } }
 {
 rw [if_neg c2] at H
 exact absurd H (by simp) }

end Go.Proofs.Ytdaonhgcejjlhaa.P
namespace Go.Proofs.Ytdaonhgcejjlhaa.P
open Go.RowKit Go.Proofs.YtdaonhgcejjlhaaW.PrintWords Go.Proofs.YtdaonhgcejjlhaaW.PrintLast Go.Proofs.YtdaonhgcejjlhaaW.PrintMore
attribute [local go_sem] max2_int min2_int max_two min_two max_three min_three max_four min_four   -- for this text's walks alone
set_option linter.unusedVariables false
set_option linter.unusedSimpArgs false

/-! ### hallmootref22_New: function 10 -/
mutual
def hallmootref22_New.j0 : Nat → Int → Bool → Option (List ByteArray × (List (S46)) × Int)
  | 0, _, _ => none
  | k + 1, x0, x11 => if x11 = true then (some (([] : List ByteArray), ([] : List (S46)), 1)) else (hallmootref22_New.l0 k x0 0 ([] : List ByteArray))
def hallmootref22_New.l0 : Nat → Int → Int → List ByteArray → Option (List ByteArray × (List (S46)) × Int)
  | 0, _, _, _ => none
  | k + 1, x0, x5, x225000 => if x5 < x0 then ((hallmootref22_noughts.f 32).bind fun t225 => (if x225000.length < 8796093022208 then (hallmootref22_New.l0 k x0 (wrap64 (x5 + 1)) (x225000 ++ [t225])) else (none))) else (some (x225000, ([] : List (S46)), 0))
end
def hallmootref22_New.f (k : Nat) (a0 : Int) : Option (List ByteArray × (List (S46)) × Int) := if a0 < 0 then (hallmootref22_New.j0 k a0 true) else (hallmootref22_New.j0 k a0 (decide (a0 > 512)))
theorem hallmootref22_New.mono_l : ∀ k, (∀ y0 y1, LeO (hallmootref22_New.j0 k y0 y1) (hallmootref22_New.j0 (k + 1) y0 y1)) ∧ (∀ y0 y1 y2, LeO (hallmootref22_New.l0 k y0 y1 y2) (hallmootref22_New.l0 (k + 1) y0 y1 y2))
  | 0 => ⟨fun _ _ r h => by simp [hallmootref22_New.j0] at h, fun _ _ _ r h => by simp [hallmootref22_New.l0] at h⟩
  | k + 1 => by
    obtain ⟨ih0, ih1⟩ := hallmootref22_New.mono_l k
    refine ⟨?_, ?_⟩
    · intro y0 y1
      unfold hallmootref22_New.j0
      repeat' first
      | (with_reducible exact ih0 _ _)
      | (with_reducible exact ih1 _ _ _)
      | (with_reducible exact LeO.refl _)
      | (with_reducible exact LeO.none _)
      | (with_reducible refine LeO.ite ?_ ?_)
      | (with_reducible refine LeO.bind ?_ (fun _ => ?_))
      | exact ih0 _ _
      | exact ih1 _ _ _
      | exact LeO.none _
      | refine LeO.ite ?_ ?_
      | refine LeO.bind ?_ (fun _ => ?_)
    · intro y0 y1 y2
      unfold hallmootref22_New.l0
      repeat' first
      | (with_reducible exact ih0 _ _)
      | (with_reducible exact ih1 _ _ _)
      | (with_reducible exact LeO.refl _)
      | (with_reducible exact LeO.none _)
      | (with_reducible refine LeO.ite ?_ ?_)
      | (with_reducible refine LeO.bind ?_ (fun _ => ?_))
      | exact ih0 _ _
      | exact ih1 _ _ _
      | exact LeO.none _
      | refine LeO.ite ?_ ?_
      | refine LeO.bind ?_ (fun _ => ?_)
theorem hallmootref22_New.mono : ∀ a0 k, LeO (hallmootref22_New.f k a0) (hallmootref22_New.f (k + 1) a0) := by
 intro a0 k
 obtain ⟨ih0, ih1⟩ := hallmootref22_New.mono_l k
 unfold hallmootref22_New.f
 repeat' first | (with_reducible exact ih0 _ _) | (with_reducible exact ih1 _ _ _) | (with_reducible exact LeO.refl _) | (with_reducible exact LeO.none _) | (with_reducible refine LeO.ite ?_ ?_) | (with_reducible refine LeO.bind ?_ (fun _ => ?_)) | exact ih0 _ _ | exact ih1 _ _ _ | exact LeO.none _ | refine LeO.ite ?_ ?_ | refine LeO.bind ?_ (fun _ => ?_)
set_option maxHeartbeats 8000000 in
set_option maxRecDepth 100000 in
theorem hallmootref22_New.calls (k : Nat) (a0 : Int) (r1 : List ByteArray) (r2 : List (S46)) (r3 : Int) (w : World) (h : hallmootref22_New.f k a0 = some (r1, r2, r3)) : Calls Try.prog 10 #[.int .i64 a0] w fun e w' => ∃ v0_ v1_ : Value, e = .returned (.tuple #[.agg #[v0_, v1_], .int .i64 r3]) ∧ Kd.R Kd.string 9 w' w.heap.size (fun _ => True) v0_ r1 ∧ Kd.R k46 46 w' w.heap.size (fun _ => True) v1_ r2 ∧ Below w.heap.size w w' := by
 have hu25 := Try.underlying25
 have HB := aS (Below.refl w.heap.size w)
 have H : (if a0 < 0 then (hallmootref22_New.j0 k a0 true) else (hallmootref22_New.j0 k a0 (decide (a0 > 512)))) = some (r1, r2, r3) := h
 clear h
 have HC2 := aS H
 clear H
 go_enter Try.func10, Try.ntmps10
 go_upto_region 1 with (first | ((with_reducible refine gate_dst (N := 2) rfl ?_); refine box_event ?hg (N := 2) ?hd (cs := #[.slice none 0 0, .slice none 0 0]) (t := 25) ?hr ?_; (case hd => rfl); (case hg => rfl); (case hr => first | (go_simp; done) | (go_simp; rfl)); intro gb223 hg w3 hbox hb; have n0_ := aS (below_step bb hb); have n1_ := aS (hbox); have n2_ := aS ((by rw [hg]; exact bz : w.heap.size ≤ gb223)); have n3_ := aS ((by rw [hg]; exact bz : w.heap.size ≤ gb223)); clear HB; have HB := n0_; have BK223 := n1_; have GW223 := n2_; have GE223 := n3_; clear n0_ n1_ n2_ n3_; clear hb hbox hg))
 (try simp only [Act.put, List.setIfInBounds_toArray, List.set_cons_zero, List.set_cons_succ])
 go_cut [11] (fun v11 wc => ∃ (kq : Nat) (x11_1 : Bool), v11 = .bool x11_1 ∧ Aside0 (hallmootref22_New.j0 kq a0 x11_1 = some (r1, r2, r3)) ∧ Aside0 (kq ≤ k) ∧ Aside0 (wc.heap[gb223]? = some (.cells #[(.slice none 0 0), (.slice none 0 0)] 25 (0, 0))) ∧ Aside0 (Below w.heap.size w wc))
 case first =>
  have H := HC2.out
  clear HC2
  by_cases c4 : a0 < 0
  {
  rw [if_pos c4] at H
  have c4b0 : decide (a0 < 0) = true := decide_eq_true c4
  clear c4
  (first | rw [c4b0] | (simp only [i64_w, i32_w]; rw [c4b0]) | skip)
  have H' := aS H
  clear H
  go_wp2
  go_meet
  case rel => exact ⟨_, (true), (by first | rfl | (simp; done) | (simp [*]; done)), H', ⟨by first | omega | exact Nat.le_refl _⟩, ⟨kk BK223.out⟩, ⟨by repeat (first | (with_reducible first | exact HB.out | apply below_alloc | apply pw_below_drewN | apply below_drew1 | refine below_set ?_ GE223.out) | exact HB.out)⟩⟩ }
  {
  rw [if_neg c4] at H
  have c4b0 : decide (a0 < 0) = false := decide_eq_false c4
  clear c4
  (first | rw [c4b0] | (simp only [i64_w, i32_w]; rw [c4b0]) | skip)
  have H' := aS H
  clear H
  go_wp2
  go_meet
  case rel => exact ⟨_, (decide (a0 > 512)), (by first | rfl | (simp; done) | (simp [*]; done)), H', ⟨by first | omega | exact Nat.le_refl _⟩, ⟨kk BK223.out⟩, ⟨by repeat (first | (with_reducible first | exact HB.out | apply below_alloc | apply pw_below_drewN | apply below_drew1 | refine below_set ?_ GE223.out) | exact HB.out)⟩⟩ }
 case rest =>
  clear HC2
  try clear c1
  try clear p2
  try clear c4
  try clear c4b0
  obtain ⟨kq, x11_1, rfl, HA, HJ1, BK223, HB⟩ := hcut
  cases kq with
  | zero => exact absurd HA.out (by simp [hallmootref22_New.j0])
  | succ kj1 => {
  have H := HA.out
  clear HA
  simp only [hallmootref22_New.j0] at H
  by_cases c5 : x11_1 = true
  {
  subst c5
  have H1 : (some (([] : List ByteArray), ([] : List (S46)), 1)) = some (r1, r2, r3) := by rw [if_pos rfl] at H; exact H
  clear H
  have H := H1
  clear H1
  simp only [Option.some.injEq, Prod.mk.injEq] at H
  obtain ⟨rfl, rfl, rfl⟩ := H
  have hcz6_0 : wc.cell? ⟨gb223, 0, none⟩ = some (.slice none 0 0) := (blk_cell BK223.out 0).trans rfl
  have hcz6_1 : wc.cell? ⟨gb223, 1, none⟩ = some (.slice none 0 0) := (blk_cell BK223.out 1).trans rfl
  have hfz6_0 := blk_frozen BK223.out 0
  have hfz6_1 := blk_frozen BK223.out 1
  go_wp2
  refine bodyPost_ret (results_ct rfl _ _ gb223 25 #[.slice none 0 0, .slice none 0 0] (0, 0) _ rfl (by (with_reducible repeat (first | refine blk_drewN ?_ _ | refine blk_drew ?_ | refine blk_alloc ?_ _)); refine blk_put (cs := #[.slice none 0 0, .slice none 0 0]) ?_ 1 _ rfl; (with_reducible repeat (first | refine blk_drewN ?_ _ | refine blk_drew ?_ | refine blk_alloc ?_ _)); refine blk_put (cs := #[.slice none 0 0, .slice none 0 0]) ?_ 0 _ rfl; (with_reducible repeat (first | refine blk_drewN ?_ _ | refine blk_drew ?_ | refine blk_alloc ?_ _)); exact BK223.out) Try.underlying25 rfl (by kernel_rfl)) rfl ?_
  exact ⟨_, _, by first | rfl | (simp [errW_none, errW_some] <;> rfl) | (simp [*, errW_none, errW_some] <;> rfl), by first | exact Kd.R_nil _ _ _ _ _ | exact Kd.N_nil _ _ _ _ _ | exact Kd.V_nil _ _ _ _ _ | exact Kd.Q_nil _ _ _ _ _ | exact Kd.S_nil _ _ _ _ _, by first | exact Kd.R_nil _ _ _ _ _ | exact Kd.N_nil _ _ _ _ _ | exact Kd.V_nil _ _ _ _ _ | exact Kd.Q_nil _ _ _ _ _ | exact Kd.S_nil _ _ _ _ _, by repeat (first | (with_reducible first | exact HB.out | apply below_alloc | apply pw_below_drewN | apply below_drew1 | refine below_set ?_ GE223.out) | exact HB.out)⟩ }
  {
  replace c5 := Bool.eq_false_iff.mpr c5
  subst c5
  have H1 : (hallmootref22_New.l0 kj1 a0 0 ([] : List ByteArray)) = some (r1, r2, r3) := by rw [if_neg (show ¬ (false = true) by decide)] at H; exact H
  clear H
  have H := H1
  clear H1
  have H' := aS H
  clear H
  go_wp2_with (first | ((with_reducible refine gate_dst (N := 4) rfl ?_); refine box_event ?hg (N := 4) ?hd (cs := #[.slice none 0 0, .slice none 0 0]) (t := 25) ?hr ?_; (case hd => rfl); (case hg => rfl); (case hr => first | (go_simp; done) | (go_simp; rfl)); intro gb224 hg w7 hbox hb; have n0_ := aS (kb BK223.out hb); have n1_ := aS (below_step bb hb); have n2_ := aS (hbox); have n3_ := aS ((by rw [hg]; exact bz : w.heap.size ≤ gb224)); have n4_ := aS ((by rw [hg]; exact bz : w.heap.size ≤ gb224)); have n5_ := aS ((by rw [hg]; exact Nat.ne_of_lt (blk_lt (g := gb223) (o := .cells #[.slice none 0 0, .slice none 0 0] 25 (0, 0)) (kk BK223.out)) : gb223 ≠ gb224)); have n6_ := aS ((by rw [hg]; exact Nat.ne_of_gt (blk_lt (g := gb223) (o := .cells #[.slice none 0 0, .slice none 0 0] 25 (0, 0)) (kk BK223.out)) : gb224 ≠ gb223)); clear BK223; clear HB; have BK223 := n0_; have HB := n1_; have BK224 := n2_; have GW224 := n3_; have GE224 := n4_; have NB223_224 := n5_; have NB224_223 := n6_; clear n0_ n1_ n2_ n3_ n4_ n5_ n6_; clear hb hbox hg; have hnb8 := NB224_223.out; have hnc8 := NB223_224.out; have hcz9_0 : w7.cell? ⟨gb224, 0, none⟩ = some (.slice none 0 0) := (blk_cell BK224.out 0).trans rfl; have hcz9_1 : w7.cell? ⟨gb224, 1, none⟩ = some (.slice none 0 0) := (blk_cell BK224.out 1).trans rfl; have hfz9_0 := blk_frozen BK224.out 0; have hfz9_1 := blk_frozen BK224.out 1))
  go_loopg [5] kj1 (fun kq v5 w' => ∃ (x5_2 : Int) (x225000_2 : List ByteArray) (u225000 : Value), v5 = .int .i64 x5_2 ∧ Aside0 (hallmootref22_New.l0 kq a0 x5_2 x225000_2 = some (r1, r2, r3)) ∧ Aside0 (kq ≤ kj1) ∧ Aside0 (Kd.R Kd.string 9 w' w.heap.size (fun _ => True) u225000 x225000_2) ∧ Aside0 (w'.heap[gb223]? = some (.cells #[(.slice none 0 0), (.slice none 0 0)] 25 (0, 0))) ∧ Aside0 (w'.heap[gb224]? = some (.cells #[u225000, (.slice none 0 0)] 25 (0, 0))) ∧ Aside0 (Below w.heap.size w w'))
  case atStart => exact ⟨(0), (([] : List ByteArray)), (.slice none 0 0), (by first | rfl | (simp; done) | (simp [*]; done)), H', ⟨Nat.le_refl _⟩, ⟨by first | exact Kd.R_nil _ _ _ _ _ | exact Kd.N_nil _ _ _ _ _ | exact Kd.V_nil _ _ _ _ _ | exact Kd.Q_nil _ _ _ _ _ | exact Kd.S_nil _ _ _ _ _⟩, ⟨by (with_reducible repeat (first | refine blk_drewN ?_ _ | refine blk_drew ?_ | refine blk_alloc ?_ _)); refine blk_far ?_ NB223_224.out _; (with_reducible repeat (first | refine blk_drewN ?_ _ | refine blk_drew ?_ | refine blk_alloc ?_ _)); refine blk_far ?_ NB223_224.out _; (with_reducible repeat (first | refine blk_drewN ?_ _ | refine blk_drew ?_ | refine blk_alloc ?_ _)); exact BK223.out⟩, ⟨by (with_reducible repeat (first | refine blk_drewN ?_ _ | refine blk_drew ?_ | refine blk_alloc ?_ _)); refine blk_put (cs := #[.slice none 0 0, .slice none 0 0]) ?_ 1 _ rfl; (with_reducible repeat (first | refine blk_drewN ?_ _ | refine blk_drew ?_ | refine blk_alloc ?_ _)); refine blk_put (cs := #[.slice none 0 0, .slice none 0 0]) ?_ 0 _ rfl; (with_reducible repeat (first | refine blk_drewN ?_ _ | refine blk_drew ?_ | refine blk_alloc ?_ _)); exact BK224.out⟩, ⟨by repeat (first | (with_reducible first | exact HB.out | apply below_alloc | apply pw_below_drewN | apply below_drew1 | refine below_set ?_ GE223.out | refine below_set ?_ GE224.out) | exact HB.out)⟩⟩
  case round =>
   clear H'
   try clear c1
   try clear p2
   try clear c4
   try clear c4b0
   try clear c5
   try clear c8
   try clear hcz6_0
   try clear hcz6_1
   try clear hcz9_0
   try clear hcz9_1
   try clear hfz6_0
   try clear hfz6_1
   try clear hfz9_0
   try clear hfz9_1
   try clear p2
   obtain ⟨x5_2, x225000_2, u225000, rfl, HA, HK2, HO_225000, BK223, BK224, HB⟩ := hrel
   cases gk with
   | zero => exact absurd HA.out (by simp [hallmootref22_New.l0])
   | succ k2 => {
   have H := HA.out
   clear HA
   simp only [hallmootref22_New.l0] at H
   by_cases c10 : x5_2 < a0
   {
   rw [if_pos c10] at H
   have c10b0 : decide (x5_2 < a0) = true := decide_eq_true c10
   clear c10
   replace H := Option.bind_eq_some_iff.mp H
   obtain ⟨t225, A110, H⟩ := H
   replace H : (if x225000_2.length < 8796093022208 then (hallmootref22_New.l0 k2 a0 (wrap64 (x5_2 + 1)) (x225000_2 ++ [t225])) else (none)) = some (r1, r2, r3) := H
   have A11 := aS A110
   clear A110
   by_cases c12 : x225000_2.length < 8796093022208
   {
   rw [if_pos c12] at H
   have LMc12 := aS c12
   clear c12
   obtain ⟨y226, hy226⟩ : ∃ y_ : List ByteArray, y_ = (x225000_2 ++ [t225]) := ⟨_, rfl⟩
   replace H : (hallmootref22_New.l0 k2 a0 (wrap64 (x5_2 + 1)) y226) = some (r1, r2, r3) := by first | (rw [hy226]; with_reducible exact H) | (have H2_ := (Option.bind_some _ _).symm.trans H; rw [hy226]; with_reducible exact H2_) | (have H2_ := (Option.bind_some _ _).symm.trans H; with_reducible exact H2_) | with_reducible exact H | (rw [hy226]; exact H) | exact H
   have Ny226 := aS hy226
   clear hy226
   have H' := aS H
   clear H
   try go_wp2
   have n0_ := aS (Kd.R_drew HO_225000.out)
   have n1_ := aS (blk_drew BK223.out)
   have n2_ := aS (blk_drew BK224.out)
   have n3_ := aS (below_drew1 HB.out)
   clear HO_225000
   clear BK223
   clear BK224
   clear HB
   have HO_225000 := n0_
   have BK223 := n1_
   have BK224 := n2_
   have HB := n3_
   clear n0_ n1_ n2_ n3_
   refine start_ (n := 7) (S := fun w' => w'.cell? ⟨gb224, 0, none⟩ = some (u225000) ∧ w'.cell? ⟨gb224, 1, none⟩ = some (.slice none 0 0)) (ds := [6]) #[false, false, false, false, false, false, false] (by kernel_rfl) rfl rfl ⟨(blk_cell BK224.out 0).trans rfl, (blk_cell BK224.out 1).trans rfl⟩ (fun hHeld => ?_)
   generalize wr.drew = w13 at HO_225000 BK223 BK224 HB hHeld ⊢
   refine pure_ (i := 0) (N := some 19) (v := ?_) (a' := ?_) #[true, false, false, false, false, false, false] rfl rfl (by kernel_rfl) (fun _ _ _ h => h) (Or.inl ⟨by rfl, ?_⟩) ?_ ?_
   rotate_left
   {
   intro w'
   go_simp
   with_reducible rfl }
   rotate_left
   {
   simp only [Act.put, sT, s0, s1, i64_w, i32_w]
   rfl }
   refine take_ (i := 1) (N := some 20) (v := ?_) (a' := ?_) #[true, true, false, false, false, false, false] rfl rfl (by kernel_rfl) (fun _ _ _ h => h) (Or.inl ⟨by rfl, ?_⟩) hHeld ?_ ?_
   rotate_left
   {
   rintro w' ⟨s0, s1⟩
   go_simp
   with_reducible rfl }
   rotate_left
   {
   simp only [Act.put, sT, s0, s1, i64_w, i32_w]
   rfl }
   refine one_ (i := 2) (N := some 21) #[true, true, true, false, false, false, false] rfl rfl (by kernel_rfl) (by decide) (fun K hK => ?_)
   refine goes_ Try.func26 (by kernel_rfl) rfl #[.int .i64 32] (by rfl) rfl rfl (by (try simp only [List.map_toArray, List.map_cons, List.map_nil]); first | done | rfl | (simp only [List.length_drop, List.length_take]; rfl)) ?_
   with_reducible refine (hallmootref22_noughts.calls 32 t225 _ A11.out).mono ?_
   rintro e w14 ⟨rfl, hb⟩
   refine ⟨_, rfl, ?_⟩
   have n0_ := aS (Kd.R_below (rr HO_225000.out) hb)
   have n1_ := aS (kb BK223.out hb)
   have n2_ := aS (kb BK224.out hb)
   have n3_ := aS (below_step bb hb)
   clear HO_225000
   clear BK223
   clear BK224
   clear HB
   have HO_225000 := n0_
   have BK223 := n1_
   have BK224 := n2_
   have HB := n3_
   clear n0_ n1_ n2_ n3_
   (try clear hb)
   (try clear hb2)
   (try clear hk)
   (try clear hi)
   refine hK.out _ _ ⟨(blk_cell BK224.out 0).trans rfl, (blk_cell BK224.out 1).trans rfl⟩ (fun hHeld => ?_)
   clear hK K
   refine norm_ (a' := ?_) ?_ ?_
   rotate_left
   {
   show Act.put _ (some 21) _ = _
   simp only [Act.put, sT, s0, s1, i64_w, i32_w]
   rfl }
   refine one_ (i := 3) (N := some 22) #[true, true, true, true, false, false, false] rfl rfl (by kernel_rfl) (by decide) (fun K hK => ?_)
   refine value_ (w1 := ?_) (v := ?_) (by rfl) rfl ?_ ?_
   rotate_left 2
   {
   go_simp
   constructor
   { rfl }
   { rfl } }
   refine hK.out _ _ ⟨(blk_cell (blk_alloc BK224.out _) 0).trans rfl, (blk_cell (blk_alloc BK224.out _) 1).trans rfl⟩ (fun hHeld => ?_)
   clear hK K
   refine norm_ (a' := ?_) ?_ ?_
   rotate_left
   {
   show Act.put _ (some 22) _ = _
   simp only [Act.put, sT, s0, s1, i64_w, i32_w]
   rfl }
   refine one_ (i := 4) (N := some 23) #[true, true, true, true, true, false, false] rfl rfl (by kernel_rfl) (by decide) (fun K hK => ?_)
   refine Kd.R_append_step Kd.string (w0 := w) w.heap.size (by rfl) (.tmp 20) (.tmp 22) 22 9 (.string ⟨#[]⟩) 16 rfl Try.underlying22 info9 rfl (by decide) (by omega) u225000 x225000_2 t225 [.string t225] (fun _ => True) (fun _ => False) rfl rfl ?aP (fun _ hk => hk.elim) ?aF ?aO ?aB ?aS ?aL ?_
   (case aP => exact rfl)
   (case aB => exact bb)
   (case aF => exact (fun _ _ => trivial))
   (case aO => exact (rr HO_225000.out))
   (case aS => exact bz)
   (case aL => have := LMc12.out; omega)
   intro v227 w15 ho hb hg hat
   rw [← Ny226.out] at ho
   have n0_ := aS (blk_grown (g := gb223) (o := .cells #[.slice none 0 0, .slice none 0 0] 25 (0, 0)) (kk BK223.out) hg (Kd.R_ne HO_225000.out BK223.out (by decide)))
   have n1_ := aS (blk_grown (g := gb224) (o := .cells #[u225000, .slice none 0 0] 25 (0, 0)) (kk BK224.out) hg (Kd.R_ne HO_225000.out BK224.out (by decide)))
   have n2_ := aS (hb)
   have n3_ := aS (ho)
   clear BK223
   clear BK224
   clear HB
   clear HO_225000
   have BK223 := n0_
   have BK224 := n1_
   have HB := n2_
   have HO228 := n3_
   clear n0_ n1_ n2_ n3_
   clear ho hb hg hat
   obtain ⟨Ao16, co16, eo16⟩ := Kd.R_slice HO228.out
   (first | subst eo16 | (injection eo16 with f1_ f2_ f3_; have f4_ := f1_.symm; have f5_ := f3_.symm; clear f1_ f2_ f3_; subst f4_; subst f5_))
   refine hK.out _ _ ⟨(blk_cell BK224.out 0).trans rfl, (blk_cell BK224.out 1).trans rfl⟩ (fun hHeld => ?_)
   clear hK K
   refine norm_ (a' := ?_) ?_ ?_
   rotate_left
   {
   show Act.put _ (some 23) _ = _
   simp only [Act.put, sT, s0, s1, i64_w, i32_w]
   rfl }
   refine pure_ (i := 5) (N := some 24) (v := ?_) (a' := ?_) #[true, true, true, true, true, true, false] rfl rfl (by kernel_rfl) (fun _ _ _ h => h) (Or.inl ⟨by rfl, ?_⟩) ?_ ?_
   rotate_left
   {
   intro w'
   go_simp
   with_reducible rfl }
   rotate_left
   {
   simp only [Act.put, sT, s0, s1, i64_w, i32_w]
   rfl }
   refine last_ (i := 6) (N := none) #[true, true, true, true, true, true, true] rfl rfl (by kernel_rfl) (by decide) (fun K hK => ?_)
   have hs17 : w15.cell? ⟨gb224, 0, none⟩ = some (u225000) := (blk_cell BK224.out 0).trans rfl
   have hfs17 := blk_frozen BK224.out 0
   have hns17_0 := NB223_224.out
   have hms17_0 := NB224_223.out
   refine skip_ (w1 := ?_) (by rfl) rfl ?_ ?_
   rotate_left
   {
   go_simp
   rfl }
   refine hK.out _ _ ?_
   clear hK K
   refine done_ (by kernel_rfl) ?_
   try go_wp2
   go_roundg k2
   case measure => have := HJ1.out; have := HK2.out; omega
   case rel => exact ⟨(wrap64 (x5_2 + 1)), (y226), (.slice Ao16 y226.length co16), (by first | rfl | (simp; done) | (simp [*]; done)), H', ⟨by have := HJ1.out; have := HK2.out; omega⟩, ⟨by (with_reducible repeat (first | apply Kd.R_alloc | apply Kd.R_drewN | apply Kd.R_drew)); exact Kd.R_mono (Kd.R_far (p := ⟨gb224, 0, none⟩) (Kd.R_types HO228.out BK224.out (by decide)) (fun _ hk => hk.2) (.slice Ao16 y226.length co16)) (fun _ hk => trivial)⟩, ⟨by (with_reducible repeat (first | refine blk_drewN ?_ _ | refine blk_drew ?_ | refine blk_alloc ?_ _)); refine blk_far ?_ NB223_224.out _; (with_reducible repeat (first | refine blk_drewN ?_ _ | refine blk_drew ?_ | refine blk_alloc ?_ _)); exact BK223.out⟩, ⟨by (with_reducible repeat (first | refine blk_drewN ?_ _ | refine blk_drew ?_ | refine blk_alloc ?_ _)); refine blk_put (cs := #[u225000, .slice none 0 0]) ?_ 0 _ rfl; (with_reducible repeat (first | refine blk_drewN ?_ _ | refine blk_drew ?_ | refine blk_alloc ?_ _)); exact BK224.out⟩, ⟨by repeat (first | (with_reducible first | exact HB.out | apply below_alloc | apply pw_below_drewN | apply below_drew1 | refine below_set ?_ GE223.out | refine below_set ?_ GE224.out) | exact HB.out)⟩⟩ }
   {
   rw [if_neg c12] at H
   exact absurd H (by simp) } }
   {
   rw [if_neg c10] at H
   have c10b0 : decide (x5_2 < a0) = false := decide_eq_false c10
   clear c10
   simp only [Option.some.injEq, Prod.mk.injEq] at H
   obtain ⟨rfl, rfl, rfl⟩ := H
   have hnb18 := NB224_223.out
   have hnc18 := NB223_224.out
   have hcz19_0 : wr.cell? ⟨gb224, 0, none⟩ = some (u225000) := (blk_cell BK224.out 0).trans rfl
   have hcz19_1 : wr.cell? ⟨gb224, 1, none⟩ = some (.slice none 0 0) := (blk_cell BK224.out 1).trans rfl
   have hfz19_0 := blk_frozen BK224.out 0
   have hfz19_1 := blk_frozen BK224.out 1
   obtain ⟨Ao20, co20, eo20⟩ := Kd.R_slice HO_225000.out
   subst eo20
   have hcz21_0 : wr.cell? ⟨gb223, 0, none⟩ = some (.slice none 0 0) := (blk_cell BK223.out 0).trans rfl
   have hcz21_1 : wr.cell? ⟨gb223, 1, none⟩ = some (.slice none 0 0) := (blk_cell BK223.out 1).trans rfl
   have hfz21_0 := blk_frozen BK223.out 0
   have hfz21_1 := blk_frozen BK223.out 1
   go_wp2
   refine bodyPost_ret (results_ct rfl _ _ gb223 25 #[.slice Ao20 x225000_2.length co20, .slice none 0 0] (0, 0) _ rfl (by (with_reducible repeat (first | refine blk_drewN ?_ _ | refine blk_drew ?_ | refine blk_alloc ?_ _)); refine blk_put (cs := #[.slice Ao20 x225000_2.length co20, .slice none 0 0]) ?_ 1 _ rfl; (with_reducible repeat (first | refine blk_drewN ?_ _ | refine blk_drew ?_ | refine blk_alloc ?_ _)); refine blk_put (cs := #[.slice none 0 0, .slice none 0 0]) ?_ 0 _ rfl; (with_reducible repeat (first | refine blk_drewN ?_ _ | refine blk_drew ?_ | refine blk_alloc ?_ _)); exact BK223.out) Try.underlying25 rfl (by kernel_rfl)) rfl ?_
   exact ⟨_, _, by first | rfl | (simp [errW_none, errW_some] <;> rfl) | (simp [*, errW_none, errW_some] <;> rfl), by (with_reducible repeat (first | apply Kd.R_alloc | apply Kd.R_drewN | apply Kd.R_drew)); exact Kd.R_mono (Kd.R_far (p := ⟨gb223, 1, none⟩) (Kd.R_far (p := ⟨gb223, 0, none⟩) (Kd.R_types HO_225000.out BK223.out (by decide)) (fun _ hk => hk.2) (.slice Ao20 x225000_2.length co20)) (fun _ hk => hk.2) (.slice none 0 0)) (fun _ hk => trivial), by first | exact Kd.R_nil _ _ _ _ _ | exact Kd.N_nil _ _ _ _ _ | exact Kd.V_nil _ _ _ _ _ | exact Kd.Q_nil _ _ _ _ _ | exact Kd.S_nil _ _ _ _ _, by repeat (first | (with_reducible first | exact HB.out | apply below_alloc | apply pw_below_drewN | apply below_drew1 | refine below_set ?_ GE223.out | refine below_set ?_ GE224.out) | exact HB.out)⟩ } } } }

end Go.Proofs.Ytdaonhgcejjlhaa.P
namespace Go.Proofs.Ytdaonhgcejjlhaa.P
open Go.RowKit Go.Proofs.YtdaonhgcejjlhaaW.PrintWords Go.Proofs.YtdaonhgcejjlhaaW.PrintLast Go.Proofs.YtdaonhgcejjlhaaW.PrintMore
attribute [local go_sem] max2_int min2_int max_two min_two max_three min_three max_four min_four   -- for this text's walks alone
set_option linter.unusedVariables false
set_option linter.unusedSimpArgs false

/-! ### hallmootref22_Right: function 11 -/
mutual
def hallmootref22_Right.l0 : Nat → Int → List ByteArray → List (S46) → Option (Bool)
  | 0, _, _, _ => none
  | k + 1, x3, x230000, x230001 => if x3 < (x230000.length : Int) then (if 0 ≤ x3 then (if ((rdOf ByteArray.empty x230000 x3).size : Int) = 32 then (hallmootref22_Right.l0 k (wrap64 (x3 + 1)) x230000 x230001) else (some false)) else (none)) else (hallmootref22_Right.l1 k 0 x230000 x230001)
def hallmootref22_Right.l1 : Nat → Int → List ByteArray → List (S46) → Option (Bool)
  | 0, _, _, _ => none
  | k + 1, x4, x230000, x230001 => if x4 < (x230001.length : Int) then (if 0 ≤ x4 then (if ((rd_T46 x230001 x4).f0) < 0 then (some false) else (if ((rd_T46 x230001 x4).f0) ≥ (x230000.length : Int) then (some false) else (if (((rd_T46 x230001 x4).f1).size : Int) = 32 then (hallmootref22_Right.l1 k (wrap64 (x4 + 1)) x230000 x230001) else (some false)))) else (none)) else (some true)
end
def hallmootref22_Right.f (k : Nat) (l0_0 : List ByteArray) (l0_1 : List (S46)) : Option (Bool) := if (l0_0.length : Int) > 512 then (some false) else (hallmootref22_Right.l0 k 0 l0_0 l0_1)
theorem hallmootref22_Right.mono_l : ∀ k, (∀ y0 y1 y2, LeO (hallmootref22_Right.l0 k y0 y1 y2) (hallmootref22_Right.l0 (k + 1) y0 y1 y2)) ∧ (∀ y0 y1 y2, LeO (hallmootref22_Right.l1 k y0 y1 y2) (hallmootref22_Right.l1 (k + 1) y0 y1 y2))
  | 0 => ⟨fun _ _ _ r h => by simp [hallmootref22_Right.l0] at h, fun _ _ _ r h => by simp [hallmootref22_Right.l1] at h⟩
  | k + 1 => by
    obtain ⟨ih0, ih1⟩ := hallmootref22_Right.mono_l k
    refine ⟨?_, ?_⟩
    · intro y0 y1 y2
      unfold hallmootref22_Right.l0
      repeat' first
      | (with_reducible exact ih0 _ _ _)
      | (with_reducible exact ih1 _ _ _)
      | (with_reducible exact LeO.refl _)
      | (with_reducible exact LeO.none _)
      | (with_reducible refine LeO.ite ?_ ?_)
      | (with_reducible refine LeO.bind ?_ (fun _ => ?_))
      | exact ih0 _ _ _
      | exact ih1 _ _ _
      | exact LeO.none _
      | refine LeO.ite ?_ ?_
      | refine LeO.bind ?_ (fun _ => ?_)
    · intro y0 y1 y2
      unfold hallmootref22_Right.l1
      repeat' first
      | (with_reducible exact ih0 _ _ _)
      | (with_reducible exact ih1 _ _ _)
      | (with_reducible exact LeO.refl _)
      | (with_reducible exact LeO.none _)
      | (with_reducible refine LeO.ite ?_ ?_)
      | (with_reducible refine LeO.bind ?_ (fun _ => ?_))
      | exact ih0 _ _ _
      | exact ih1 _ _ _
      | exact LeO.none _
      | refine LeO.ite ?_ ?_
      | refine LeO.bind ?_ (fun _ => ?_)
theorem hallmootref22_Right.mono : ∀ a0 a1 k, LeO (hallmootref22_Right.f k a0 a1) (hallmootref22_Right.f (k + 1) a0 a1) := by
 intro a0 a1 k
 obtain ⟨ih0, ih1⟩ := hallmootref22_Right.mono_l k
 unfold hallmootref22_Right.f
 repeat' first | (with_reducible exact ih0 _ _ _) | (with_reducible exact ih1 _ _ _) | (with_reducible exact LeO.refl _) | (with_reducible exact LeO.none _) | (with_reducible refine LeO.ite ?_ ?_) | (with_reducible refine LeO.bind ?_ (fun _ => ?_)) | exact ih0 _ _ _ | exact ih1 _ _ _ | exact LeO.none _ | refine LeO.ite ?_ ?_ | refine LeO.bind ?_ (fun _ => ?_)
set_option maxHeartbeats 8000000 in
set_option maxRecDepth 100000 in
theorem hallmootref22_Right.calls (k : Nat) (A0_0 : Option Addr) (c0_0 : Nat) (l0_0 : List ByteArray) (A0_1 : Option Addr) (c0_1 : Nat) (l0_1 : List (S46)) (r : Bool) (w : World) (hr0_0 : Kd.C Kd.string w A0_0 l0_0.length l0_0) (hc0_0 : l0_0.length ≤ c0_0) (hr0_1 : Kd.C k46 w A0_1 l0_1.length l0_1) (hc0_1 : l0_1.length ≤ c0_1) (h : hallmootref22_Right.f k l0_0 l0_1 = some r) : Calls Try.prog 11 #[.agg #[.slice A0_0 l0_0.length c0_0, .slice A0_1 l0_1.length c0_1]] w fun e w' => e = .returned (.bool r) ∧ Below w.heap.size w w' := by
 have hu25 := Try.underlying25
 have HR0_0 := aS hr0_0
 have HC0_0 := aS hc0_0
 clear hr0_0 hc0_0
 have HR0_1 := aS hr0_1
 have HC0_1 := aS hc0_1
 clear hr0_1 hc0_1
 have HB := aS (Below.refl w.heap.size w)
 have H : (if (l0_0.length : Int) > 512 then (some false) else (hallmootref22_Right.l0 k 0 l0_0 l0_1)) = some r := h
 clear h
 by_cases c2 : (l0_0.length : Int) > 512
 {
 rw [if_pos c2] at H
 have c2b0 : decide (512 < (l0_0.length : Int)) = true := decide_eq_true c2
 have c2b1 : decide (512 < l0_0.length) = true := decide_eq_true (by omega)
 clear c2
 obtain rfl := Option.some.inj H
 go_enter Try.func11, Try.ntmps11
 go_wp2_with (first | ((with_reducible refine gate_dst (N := 1) rfl ?_); (try (refine gate_guard (by rfl) ?_; dsimp only)); refine box_event ?hg (N := 1) ?hd (cs := #[.slice A0_0 l0_0.length c0_0, .slice A0_1 l0_1.length c0_1]) (t := 25) ?hr ?_; (case hd => rfl); (case hg => rfl); (case hr => first | (go_simp; done) | (go_simp; rfl)); intro gb229 hg w3 hbox hb; have n0_ := aS (below_step bb hb); have n1_ := aS (hbox); have n2_ := aS ((by rw [hg]; exact bz : w.heap.size ≤ gb229)); have n3_ := aS ((by rw [hg]; exact bz : w.heap.size ≤ gb229)); clear HB; have HB := n0_; have BK229 := n1_; have GW229 := n2_; have GE229 := n3_; clear n0_ n1_ n2_ n3_; clear hb hbox hg; have hcz4_0 : w3.cell? ⟨gb229, 0, none⟩ = some (.slice A0_0 l0_0.length c0_0) := (blk_cell BK229.out 0).trans rfl; have hcz4_1 : w3.cell? ⟨gb229, 1, none⟩ = some (.slice A0_1 l0_1.length c0_1) := (blk_cell BK229.out 1).trans rfl; have hfz4_0 := blk_frozen BK229.out 0; have hfz4_1 := blk_frozen BK229.out 1))
 repeat (go_quiet (first | ((with_reducible refine gate_dst (N := 1) rfl ?_); (try (refine gate_guard (by rfl) ?_; dsimp only)); refine box_event ?hg (N := 1) ?hd (cs := #[.slice A0_0 l0_0.length c0_0, .slice A0_1 l0_1.length c0_1]) (t := 25) ?hr ?_; (case hd => rfl); (case hg => rfl); (case hr => first | (go_simp; done) | (go_simp; rfl)); intro gb229 hg w3 hbox hb; have n0_ := aS (below_step bb hb); have n1_ := aS (hbox); have n2_ := aS ((by rw [hg]; exact bz : w.heap.size ≤ gb229)); have n3_ := aS ((by rw [hg]; exact bz : w.heap.size ≤ gb229)); clear HB; have HB := n0_; have BK229 := n1_; have GW229 := n2_; have GE229 := n3_; clear n0_ n1_ n2_ n3_; clear hb hbox hg; have hcz4_0 : w3.cell? ⟨gb229, 0, none⟩ = some (.slice A0_0 l0_0.length c0_0) := (blk_cell BK229.out 0).trans rfl; have hcz4_1 : w3.cell? ⟨gb229, 1, none⟩ = some (.slice A0_1 l0_1.length c0_1) := (blk_cell BK229.out 1).trans rfl; have hfz4_0 := blk_frozen BK229.out 0; have hfz4_1 := blk_frozen BK229.out 1)); try go_wp2_with (first | ((with_reducible refine gate_dst (N := 1) rfl ?_); (try (refine gate_guard (by rfl) ?_; dsimp only)); refine box_event ?hg (N := 1) ?hd (cs := #[.slice A0_0 l0_0.length c0_0, .slice A0_1 l0_1.length c0_1]) (t := 25) ?hr ?_; (case hd => rfl); (case hg => rfl); (case hr => first | (go_simp; done) | (go_simp; rfl)); intro gb229 hg w3 hbox hb; have n0_ := aS (below_step bb hb); have n1_ := aS (hbox); have n2_ := aS ((by rw [hg]; exact bz : w.heap.size ≤ gb229)); have n3_ := aS ((by rw [hg]; exact bz : w.heap.size ≤ gb229)); clear HB; have HB := n0_; have BK229 := n1_; have GW229 := n2_; have GE229 := n3_; clear n0_ n1_ n2_ n3_; clear hb hbox hg; have hcz4_0 : w3.cell? ⟨gb229, 0, none⟩ = some (.slice A0_0 l0_0.length c0_0) := (blk_cell BK229.out 0).trans rfl; have hcz4_1 : w3.cell? ⟨gb229, 1, none⟩ = some (.slice A0_1 l0_1.length c0_1) := (blk_cell BK229.out 1).trans rfl; have hfz4_0 := blk_frozen BK229.out 0; have hfz4_1 := blk_frozen BK229.out 1)))
 go_ret
 exact ⟨by first | rfl | (simp [errW_none, errW_some] <;> rfl) | (simp [*, errW_none, errW_some] <;> rfl), by repeat (first | (with_reducible first | exact HB.out | apply below_alloc | apply pw_below_drewN | apply below_drew1 | refine below_set ?_ GE229.out) | exact HB.out)⟩ }
 {
 rw [if_neg c2] at H
 have c2b0 : decide (512 < (l0_0.length : Int)) = false := decide_eq_false c2
 have c2b1 : decide (512 < l0_0.length) = false := decide_eq_false (by omega)
 clear c2
 have H' := aS H
 clear H
 go_enter Try.func11, Try.ntmps11
 go_wp2_with (first | ((with_reducible refine gate_dst (N := 1) rfl ?_); (try (refine gate_guard (by rfl) ?_; dsimp only)); refine box_event ?hg (N := 1) ?hd (cs := #[.slice A0_0 l0_0.length c0_0, .slice A0_1 l0_1.length c0_1]) (t := 25) ?hr ?_; (case hd => rfl); (case hg => rfl); (case hr => first | (go_simp; done) | (go_simp; rfl)); intro gb229 hg w5 hbox hb; have n0_ := aS (below_step bb hb); have n1_ := aS (hbox); have n2_ := aS ((by rw [hg]; exact bz : w.heap.size ≤ gb229)); have n3_ := aS ((by rw [hg]; exact bz : w.heap.size ≤ gb229)); clear HB; have HB := n0_; have BK229 := n1_; have GW229 := n2_; have GE229 := n3_; clear n0_ n1_ n2_ n3_; clear hb hbox hg; have hcz6_0 : w5.cell? ⟨gb229, 0, none⟩ = some (.slice A0_0 l0_0.length c0_0) := (blk_cell BK229.out 0).trans rfl; have hcz6_1 : w5.cell? ⟨gb229, 1, none⟩ = some (.slice A0_1 l0_1.length c0_1) := (blk_cell BK229.out 1).trans rfl; have hfz6_0 := blk_frozen BK229.out 0; have hfz6_1 := blk_frozen BK229.out 1))
 repeat (go_quiet (first | ((with_reducible refine gate_dst (N := 1) rfl ?_); (try (refine gate_guard (by rfl) ?_; dsimp only)); refine box_event ?hg (N := 1) ?hd (cs := #[.slice A0_0 l0_0.length c0_0, .slice A0_1 l0_1.length c0_1]) (t := 25) ?hr ?_; (case hd => rfl); (case hg => rfl); (case hr => first | (go_simp; done) | (go_simp; rfl)); intro gb229 hg w5 hbox hb; have n0_ := aS (below_step bb hb); have n1_ := aS (hbox); have n2_ := aS ((by rw [hg]; exact bz : w.heap.size ≤ gb229)); have n3_ := aS ((by rw [hg]; exact bz : w.heap.size ≤ gb229)); clear HB; have HB := n0_; have BK229 := n1_; have GW229 := n2_; have GE229 := n3_; clear n0_ n1_ n2_ n3_; clear hb hbox hg; have hcz6_0 : w5.cell? ⟨gb229, 0, none⟩ = some (.slice A0_0 l0_0.length c0_0) := (blk_cell BK229.out 0).trans rfl; have hcz6_1 : w5.cell? ⟨gb229, 1, none⟩ = some (.slice A0_1 l0_1.length c0_1) := (blk_cell BK229.out 1).trans rfl; have hfz6_0 := blk_frozen BK229.out 0; have hfz6_1 := blk_frozen BK229.out 1)); try go_wp2_with (first | ((with_reducible refine gate_dst (N := 1) rfl ?_); (try (refine gate_guard (by rfl) ?_; dsimp only)); refine box_event ?hg (N := 1) ?hd (cs := #[.slice A0_0 l0_0.length c0_0, .slice A0_1 l0_1.length c0_1]) (t := 25) ?hr ?_; (case hd => rfl); (case hg => rfl); (case hr => first | (go_simp; done) | (go_simp; rfl)); intro gb229 hg w5 hbox hb; have n0_ := aS (below_step bb hb); have n1_ := aS (hbox); have n2_ := aS ((by rw [hg]; exact bz : w.heap.size ≤ gb229)); have n3_ := aS ((by rw [hg]; exact bz : w.heap.size ≤ gb229)); clear HB; have HB := n0_; have BK229 := n1_; have GW229 := n2_; have GE229 := n3_; clear n0_ n1_ n2_ n3_; clear hb hbox hg; have hcz6_0 : w5.cell? ⟨gb229, 0, none⟩ = some (.slice A0_0 l0_0.length c0_0) := (blk_cell BK229.out 0).trans rfl; have hcz6_1 : w5.cell? ⟨gb229, 1, none⟩ = some (.slice A0_1 l0_1.length c0_1) := (blk_cell BK229.out 1).trans rfl; have hfz6_0 := blk_frozen BK229.out 0; have hfz6_1 := blk_frozen BK229.out 1)))
 go_loopg [3] k (fun kq v3 w' => ∃ (x3_1 : Int), v3 = .int .i64 x3_1 ∧ Aside0 (hallmootref22_Right.l0 kq x3_1 l0_0 l0_1 = some r) ∧ Aside0 (kq ≤ k) ∧ Aside0 (w'.heap[gb229]? = some (.cells #[(.slice A0_0 l0_0.length c0_0), (.slice A0_1 l0_1.length c0_1)] 25 (0, 0))) ∧ Aside0 (Below w.heap.size w w'))
 case atStart => exact ⟨(0), (by first | rfl | (simp; done) | (simp [*]; done)), H', ⟨Nat.le_refl _⟩, ⟨kk BK229.out⟩, ⟨by repeat (first | (with_reducible first | exact HB.out | apply below_alloc | apply pw_below_drewN | apply below_drew1 | refine below_set ?_ GE229.out) | exact HB.out)⟩⟩
 case round =>
  clear H'
  try clear c1
  try clear c2
  try clear c2b0
  try clear c2b1
  try clear p2
  try clear hcz4_0
  try clear hcz4_1
  try clear hcz6_0
  try clear hcz6_1
  try clear hfz4_0
  try clear hfz4_1
  try clear hfz6_0
  try clear hfz6_1
  obtain ⟨x3_1, rfl, HA, HK1, BK229, HB⟩ := hrel
  cases gk with
  | zero => exact absurd HA.out (by simp [hallmootref22_Right.l0])
  | succ k1 => {
  have H := HA.out
  clear HA
  simp only [hallmootref22_Right.l0] at H
  by_cases c7 : x3_1 < (l0_0.length : Int)
  {
  rw [if_pos c7] at H
  have c7b0 : decide (x3_1 < (l0_0.length : Int)) = true := decide_eq_true c7
  clear c7
  by_cases c8 : 0 ≤ x3_1
  {
  rw [if_pos c8] at H
  have c8b0 : decide (0 ≤ x3_1) = true := decide_eq_true c8
  clear c8
  by_cases c9 : ((rdOf ByteArray.empty l0_0 x3_1).size : Int) = 32
  {
  rw [if_pos c9] at H
  have c9b0 : (((rdOf ByteArray.empty l0_0 x3_1).size : Int) == 32) = true := beq_iff_eq.mpr c9
  have c9b1 : (((rdOf ByteArray.empty l0_0 x3_1).size : Int) != 32) = false := bne_eq_false_iff_eq.mpr c9
  clear c9
  have H' := aS H
  clear H
  have hcz10_0 : wr.cell? ⟨gb229, 0, none⟩ = some (.slice A0_0 l0_0.length c0_0) := (blk_cell BK229.out 0).trans rfl
  have hcz10_1 : wr.cell? ⟨gb229, 1, none⟩ = some (.slice A0_1 l0_1.length c0_1) := (blk_cell BK229.out 1).trans rfl
  have hfz10_0 := blk_frozen BK229.out 0
  have hfz10_1 := blk_frozen BK229.out 1
  have p230 : 0 ≤ (x3_1 : Int) := dd
  have q230 : x3_1 < (l0_0.length : Int) := dd
  obtain ⟨ad230, e230, hx230_0⟩ := Kd.at_string HR0_0.out x3_1 p230 q230
  cases e230
  replace hx230_0 := cc HB.out hx230_0
  replace p230 := eq_true p230
  replace q230 := eq_true q230
  go_wp2
  repeat (go_quiet (fail); try go_wp2)
  go_roundg k1
  case measure => have := HK1.out; omega
  case rel => exact ⟨(wrap64 (x3_1 + 1)), (by first | rfl | (simp; done) | (simp [*]; done)), H', ⟨by have := HK1.out; omega⟩, ⟨kk BK229.out⟩, ⟨by repeat (first | (with_reducible first | exact HB.out | apply below_alloc | apply pw_below_drewN | apply below_drew1 | refine below_set ?_ GE229.out) | exact HB.out)⟩⟩ }
  {
  rw [if_neg c9] at H
  have c9b0 : (((rdOf ByteArray.empty l0_0 x3_1).size : Int) == 32) = false := beq_eq_false_iff_ne.mpr c9
  have c9b1 : (((rdOf ByteArray.empty l0_0 x3_1).size : Int) != 32) = true := bne_iff_ne.mpr c9
  obtain rfl := Option.some.inj H
  have hcz11_0 : wr.cell? ⟨gb229, 0, none⟩ = some (.slice A0_0 l0_0.length c0_0) := (blk_cell BK229.out 0).trans rfl
  have hcz11_1 : wr.cell? ⟨gb229, 1, none⟩ = some (.slice A0_1 l0_1.length c0_1) := (blk_cell BK229.out 1).trans rfl
  have hfz11_0 := blk_frozen BK229.out 0
  have hfz11_1 := blk_frozen BK229.out 1
  have p230 : 0 ≤ (x3_1 : Int) := dd
  have q230 : x3_1 < (l0_0.length : Int) := dd
  obtain ⟨ad230, e230, hx230_0⟩ := Kd.at_string HR0_0.out x3_1 p230 q230
  cases e230
  replace hx230_0 := cc HB.out hx230_0
  replace p230 := eq_true p230
  replace q230 := eq_true q230
  go_wp2
  repeat (go_quiet (fail); try go_wp2)
  go_ret
  exact ⟨by first | rfl | (simp [errW_none, errW_some] <;> rfl) | (simp [*, errW_none, errW_some] <;> rfl), by repeat (first | (with_reducible first | exact HB.out | apply below_alloc | apply pw_below_drewN | apply below_drew1 | refine below_set ?_ GE229.out) | exact HB.out)⟩ } }
  {
  rw [if_neg c8] at H
  exact absurd H (by simp) } }
  {
  rw [if_neg c7] at H
  have c7b0 : decide (x3_1 < (l0_0.length : Int)) = false := decide_eq_false c7
  clear c7
  have H' := aS H
  clear H
  have hcz12_0 : wr.cell? ⟨gb229, 0, none⟩ = some (.slice A0_0 l0_0.length c0_0) := (blk_cell BK229.out 0).trans rfl
  have hcz12_1 : wr.cell? ⟨gb229, 1, none⟩ = some (.slice A0_1 l0_1.length c0_1) := (blk_cell BK229.out 1).trans rfl
  have hfz12_0 := blk_frozen BK229.out 0
  have hfz12_1 := blk_frozen BK229.out 1
  go_wp2
  repeat (go_quiet (fail); try go_wp2)
  go_loopg [4] k1 (fun kq v4 w' => ∃ (x4_2 : Int), v4 = .int .i64 x4_2 ∧ Aside0 (hallmootref22_Right.l1 kq x4_2 l0_0 l0_1 = some r) ∧ Aside0 (kq ≤ k1) ∧ Aside0 (w'.heap[gb229]? = some (.cells #[(.slice A0_0 l0_0.length c0_0), (.slice A0_1 l0_1.length c0_1)] 25 (0, 0))) ∧ Aside0 (Below w.heap.size w w'))
  case atStart => exact ⟨(0), (by first | rfl | (simp; done) | (simp [*]; done)), H', ⟨Nat.le_refl _⟩, ⟨kk BK229.out⟩, ⟨by repeat (first | (with_reducible first | exact HB.out | apply below_alloc | apply pw_below_drewN | apply below_drew1 | refine below_set ?_ GE229.out) | exact HB.out)⟩⟩
  case round =>
   clear H'
   try clear c1
   try clear c2
   try clear c2b0
   try clear c2b1
   try clear p2
   try clear q2
   try clear hx2
   try clear p6
   try clear c7
   try clear c7b0
   try clear c8
   try clear c8b0
   try clear c9
   try clear c9b0
   try clear c9b1
   try clear c11
   try clear hcz10_0
   try clear hcz10_1
   try clear hcz11_0
   try clear hcz11_1
   try clear hcz12_0
   try clear hcz12_1
   try clear hcz4_0
   try clear hcz4_1
   try clear hcz6_0
   try clear hcz6_1
   try clear hfz10_0
   try clear hfz10_1
   try clear hfz11_0
   try clear hfz11_1
   try clear hfz12_0
   try clear hfz12_1
   try clear hfz4_0
   try clear hfz4_1
   try clear hfz6_0
   try clear hfz6_1
   try clear hx230_0
   try clear p2
   try clear p230
   try clear q230
   obtain ⟨x4_2, rfl, HA, HK2, BK229, HB⟩ := hrel
   cases gk with
   | zero => exact absurd HA.out (by simp [hallmootref22_Right.l1])
   | succ k2 => {
   have H := HA.out
   clear HA
   simp only [hallmootref22_Right.l1] at H
   by_cases c13 : x4_2 < (l0_1.length : Int)
   {
   rw [if_pos c13] at H
   have c13b0 : decide (x4_2 < (l0_1.length : Int)) = true := decide_eq_true c13
   clear c13
   by_cases c14 : 0 ≤ x4_2
   {
   rw [if_pos c14] at H
   have c14b0 : decide (0 ≤ x4_2) = true := decide_eq_true c14
   clear c14
   by_cases c15 : ((rd_T46 l0_1 x4_2).f0) < 0
   {
   rw [if_pos c15] at H
   have c15b0 : decide (((rd_T46 l0_1 x4_2).f0) < 0) = true := decide_eq_true c15
   clear c15
   obtain rfl := Option.some.inj H
   have hcz16_0 : wr.cell? ⟨gb229, 0, none⟩ = some (.slice A0_0 l0_0.length c0_0) := (blk_cell BK229.out 0).trans rfl
   have hcz16_1 : wr.cell? ⟨gb229, 1, none⟩ = some (.slice A0_1 l0_1.length c0_1) := (blk_cell BK229.out 1).trans rfl
   have hfz16_0 := blk_frozen BK229.out 0
   have hfz16_1 := blk_frozen BK229.out 1
   have p231 : 0 ≤ (x4_2 : Int) := dd
   have q231 : x4_2 < (l0_1.length : Int) := dd
   obtain ⟨ad231, e231, hx231_0, hx231_1⟩ := at_T46 HR0_1.out x4_2 p231 q231
   cases e231
   replace hx231_0 := cc HB.out hx231_0
   replace hx231_1 := cc HB.out hx231_1
   replace p231 := eq_true p231
   replace q231 := eq_true q231
   go_wp2
   repeat (go_quiet (fail); try go_wp2)
   go_ret
   exact ⟨by first | rfl | (simp [errW_none, errW_some] <;> rfl) | (simp [*, errW_none, errW_some] <;> rfl), by repeat (first | (with_reducible first | exact HB.out | apply below_alloc | apply pw_below_drewN | apply below_drew1 | refine below_set ?_ GE229.out) | exact HB.out)⟩ }
   {
   rw [if_neg c15] at H
   have c15b0 : decide (((rd_T46 l0_1 x4_2).f0) < 0) = false := decide_eq_false c15
   clear c15
   by_cases c17 : ((rd_T46 l0_1 x4_2).f0) ≥ (l0_0.length : Int)
   {
   rw [if_pos c17] at H
   have c17b0 : decide ((l0_0.length : Int) ≤ ((rd_T46 l0_1 x4_2).f0)) = true := decide_eq_true c17
   clear c17
   obtain rfl := Option.some.inj H
   have hcz18_0 : wr.cell? ⟨gb229, 0, none⟩ = some (.slice A0_0 l0_0.length c0_0) := (blk_cell BK229.out 0).trans rfl
   have hcz18_1 : wr.cell? ⟨gb229, 1, none⟩ = some (.slice A0_1 l0_1.length c0_1) := (blk_cell BK229.out 1).trans rfl
   have hfz18_0 := blk_frozen BK229.out 0
   have hfz18_1 := blk_frozen BK229.out 1
   have p231 : 0 ≤ (x4_2 : Int) := dd
   have q231 : x4_2 < (l0_1.length : Int) := dd
   obtain ⟨ad231, e231, hx231_0, hx231_1⟩ := at_T46 HR0_1.out x4_2 p231 q231
   cases e231
   replace hx231_0 := cc HB.out hx231_0
   replace hx231_1 := cc HB.out hx231_1
   replace p231 := eq_true p231
   replace q231 := eq_true q231
   have p232 : 0 ≤ (x4_2 : Int) := dd
   have q232 : x4_2 < (l0_1.length : Int) := dd
   obtain ⟨ad232, e232, hx232_0, hx232_1⟩ := at_T46 HR0_1.out x4_2 p232 q232
   obtain rfl : ad231 = ad232 := (by injection e232)
   replace hx232_0 := cc HB.out hx232_0
   replace hx232_1 := cc HB.out hx232_1
   replace p232 := eq_true p232
   replace q232 := eq_true q232
   go_wp2
   repeat (go_quiet (fail); try go_wp2)
   go_ret
   exact ⟨by first | rfl | (simp [errW_none, errW_some] <;> rfl) | (simp [*, errW_none, errW_some] <;> rfl), by repeat (first | (with_reducible first | exact HB.out | apply below_alloc | apply pw_below_drewN | apply below_drew1 | refine below_set ?_ GE229.out) | exact HB.out)⟩ }
   {
   rw [if_neg c17] at H
   have c17b0 : decide ((l0_0.length : Int) ≤ ((rd_T46 l0_1 x4_2).f0)) = false := decide_eq_false c17
   clear c17
   by_cases c19 : (((rd_T46 l0_1 x4_2).f1).size : Int) = 32
   {
   rw [if_pos c19] at H
   have c19b0 : ((((rd_T46 l0_1 x4_2).f1).size : Int) == 32) = true := beq_iff_eq.mpr c19
   have c19b1 : ((((rd_T46 l0_1 x4_2).f1).size : Int) != 32) = false := bne_eq_false_iff_eq.mpr c19
   clear c19
   have H' := aS H
   clear H
   have hcz20_0 : wr.cell? ⟨gb229, 0, none⟩ = some (.slice A0_0 l0_0.length c0_0) := (blk_cell BK229.out 0).trans rfl
   have hcz20_1 : wr.cell? ⟨gb229, 1, none⟩ = some (.slice A0_1 l0_1.length c0_1) := (blk_cell BK229.out 1).trans rfl
   have hfz20_0 := blk_frozen BK229.out 0
   have hfz20_1 := blk_frozen BK229.out 1
   have p231 : 0 ≤ (x4_2 : Int) := dd
   have q231 : x4_2 < (l0_1.length : Int) := dd
   obtain ⟨ad231, e231, hx231_0, hx231_1⟩ := at_T46 HR0_1.out x4_2 p231 q231
   cases e231
   replace hx231_0 := cc HB.out hx231_0
   replace hx231_1 := cc HB.out hx231_1
   replace p231 := eq_true p231
   replace q231 := eq_true q231
   have p232 : 0 ≤ (x4_2 : Int) := dd
   have q232 : x4_2 < (l0_1.length : Int) := dd
   obtain ⟨ad232, e232, hx232_0, hx232_1⟩ := at_T46 HR0_1.out x4_2 p232 q232
   obtain rfl : ad231 = ad232 := (by injection e232)
   replace hx232_0 := cc HB.out hx232_0
   replace hx232_1 := cc HB.out hx232_1
   replace p232 := eq_true p232
   replace q232 := eq_true q232
   have p233 : 0 ≤ (x4_2 : Int) := dd
   have q233 : x4_2 < (l0_1.length : Int) := dd
   obtain ⟨ad233, e233, hx233_0, hx233_1⟩ := at_T46 HR0_1.out x4_2 p233 q233
   obtain rfl : ad231 = ad233 := (by injection e233)
   replace hx233_0 := cc HB.out hx233_0
   replace hx233_1 := cc HB.out hx233_1
   replace p233 := eq_true p233
   replace q233 := eq_true q233
   go_wp2
   repeat (go_quiet (fail); try go_wp2)
   go_roundg k2
   case measure => have := HK1.out; have := HK2.out; omega
   case rel => exact ⟨(wrap64 (x4_2 + 1)), (by first | rfl | (simp; done) | (simp [*]; done)), H', ⟨by have := HK1.out; have := HK2.out; omega⟩, ⟨kk BK229.out⟩, ⟨by repeat (first | (with_reducible first | exact HB.out | apply below_alloc | apply pw_below_drewN | apply below_drew1 | refine below_set ?_ GE229.out) | exact HB.out)⟩⟩ }
   {
   rw [if_neg c19] at H
   have c19b0 : ((((rd_T46 l0_1 x4_2).f1).size : Int) == 32) = false := beq_eq_false_iff_ne.mpr c19
   have c19b1 : ((((rd_T46 l0_1 x4_2).f1).size : Int) != 32) = true := bne_iff_ne.mpr c19
   obtain rfl := Option.some.inj H
   have hcz21_0 : wr.cell? ⟨gb229, 0, none⟩ = some (.slice A0_0 l0_0.length c0_0) := (blk_cell BK229.out 0).trans rfl
   have hcz21_1 : wr.cell? ⟨gb229, 1, none⟩ = some (.slice A0_1 l0_1.length c0_1) := (blk_cell BK229.out 1).trans rfl
   have hfz21_0 := blk_frozen BK229.out 0
   have hfz21_1 := blk_frozen BK229.out 1
   have p231 : 0 ≤ (x4_2 : Int) := dd
   have q231 : x4_2 < (l0_1.length : Int) := dd
   obtain ⟨ad231, e231, hx231_0, hx231_1⟩ := at_T46 HR0_1.out x4_2 p231 q231
   cases e231
   replace hx231_0 := cc HB.out hx231_0
   replace hx231_1 := cc HB.out hx231_1
   replace p231 := eq_true p231
   replace q231 := eq_true q231
   have p232 : 0 ≤ (x4_2 : Int) := dd
   have q232 : x4_2 < (l0_1.length : Int) := dd
   obtain ⟨ad232, e232, hx232_0, hx232_1⟩ := at_T46 HR0_1.out x4_2 p232 q232
   obtain rfl : ad231 = ad232 := (by injection e232)
   replace hx232_0 := cc HB.out hx232_0
   replace hx232_1 := cc HB.out hx232_1
   replace p232 := eq_true p232
   replace q232 := eq_true q232
   have p233 : 0 ≤ (x4_2 : Int) := dd
   have q233 : x4_2 < (l0_1.length : Int) := dd
   obtain ⟨ad233, e233, hx233_0, hx233_1⟩ := at_T46 HR0_1.out x4_2 p233 q233
   obtain rfl : ad231 = ad233 := (by injection e233)
   replace hx233_0 := cc HB.out hx233_0
   replace hx233_1 := cc HB.out hx233_1
   replace p233 := eq_true p233
   replace q233 := eq_true q233
   go_wp2
   repeat (go_quiet (fail); try go_wp2)
   go_ret
   exact ⟨by first | rfl | (simp [errW_none, errW_some] <;> rfl) | (simp [*, errW_none, errW_some] <;> rfl), by repeat (first | (with_reducible first | exact HB.out | apply below_alloc | apply pw_below_drewN | apply below_drew1 | refine below_set ?_ GE229.out) | exact HB.out)⟩ } } } }
   {
   rw [if_neg c14] at H
   exact absurd H (by simp) } }
   {
   rw [if_neg c13] at H
   have c13b0 : decide (x4_2 < (l0_1.length : Int)) = false := decide_eq_false c13
   clear c13
   obtain rfl := Option.some.inj H
   have hcz22_0 : wr.cell? ⟨gb229, 0, none⟩ = some (.slice A0_0 l0_0.length c0_0) := (blk_cell BK229.out 0).trans rfl
   have hcz22_1 : wr.cell? ⟨gb229, 1, none⟩ = some (.slice A0_1 l0_1.length c0_1) := (blk_cell BK229.out 1).trans rfl
   have hfz22_0 := blk_frozen BK229.out 0
   have hfz22_1 := blk_frozen BK229.out 1
   go_wp2
   repeat (go_quiet (fail); try go_wp2)
   go_ret
   exact ⟨by first | rfl | (simp [errW_none, errW_some] <;> rfl) | (simp [*, errW_none, errW_some] <;> rfl), by repeat (first | (with_reducible first | exact HB.out | apply below_alloc | apply pw_below_drewN | apply below_drew1 | refine below_set ?_ GE229.out) | exact HB.out)⟩ } } } } }

end Go.Proofs.Ytdaonhgcejjlhaa.P
