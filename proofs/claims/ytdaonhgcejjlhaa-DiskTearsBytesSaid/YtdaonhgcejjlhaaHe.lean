/- Contract, proved by hand: disk.undone (the sectors at the last sync and the data of each write). -/
import Derived.Test.YtdaonhgcejjlhaaHa
import Derived.WalkSpells
import Derived.Outline
import Derived.Deep.RegionHeld3
import Derived.Deep.DeepMust
import Derived.RegionTactic
import Derived.BigRegion
namespace Go.Proofs.Ytdaonhgcejjlhaa.P
open Go.RowKit Go.Proofs.YtdaonhgcejjlhaaW.PrintWords Go.Proofs.YtdaonhgcejjlhaaW.PrintLast Go.Proofs.YtdaonhgcejjlhaaW.PrintMore
set_option linter.unusedVariables false
set_option linter.unusedSimpArgs false

def undoS (ws : List S46) : Nat → List ByteArray → List ByteArray → List ByteArray × List ByteArray
  | 0, s, p => (s, p)
  | i + 1, s, p => undoS ws i (s.set (ws.getD i z46).f0.toNat (ws.getD i z46).f1) (p.set i (rdOf ByteArray.empty s (ws.getD i z46).f0))
def okW (n : Nat) (ws : List S46) : Prop := ∀ i, i < ws.length → 0 ≤ (ws.getD i z46).f0 ∧ (ws.getD i z46).f0 < n

theorem undoS_len (ws : List S46) : ∀ i s p, (undoS ws i s p).1.length = s.length ∧ (undoS ws i s p).2.length = p.length
  | 0, s, p => ⟨rfl, rfl⟩
  | i + 1, s, p => by
    have h := undoS_len ws i (s.set (ws.getD i z46).f0.toNat (ws.getD i z46).f1) (p.set i (rdOf ByteArray.empty s (ws.getD i z46).f0))
    unfold undoS
    simpa using h
theorem R_form {α : Type} {d : Kd α} {e base : Nat} {ok : Nat → Prop} {w : World} {v : Value} {xs : List α} (h : d.R e w base ok v xs) {n : Nat} (hl : xs.length = n) (hn : 0 < n) : ∃ g c, v = .slice (some ⟨g, 0, none⟩) n c ∧ base ≤ g ∧ g < w.heap.size := by
  subst hl
  obtain ⟨h0, inner, ho, hr⟩ := h
  obtain ⟨g, cap, rfl, _, _⟩ := ho.form hn
  exact ⟨g, cap, rfl, own_base ho g (by simp [Value.ownBlock]), own_lt ho g (by simp [Value.ownBlock])⟩

set_option maxHeartbeats 8000000 in
set_option maxRecDepth 100000 in
theorem undone_walk (A0 : Option Addr) (c0 : Nat) (l0 : List ByteArray) (A1 : Option Addr) (c1 : Nat) (l1 : List S46) (w : World) (hr0 : Kd.C Kd.string w A0 l0.length l0) (hc0 : l0.length ≤ c0) (hr1 : Kd.C k46 w A1 l1.length l1) (hc1 : l1.length ≤ c1)
    (hlim : l0.length < 8796093022208) (hlim1 : l1.length ≤ 1000) (hok : okW l0.length l1) :
    Calls Try.prog 36 #[.agg #[.slice A0 l0.length c0, .slice A1 l1.length c1]] w fun e w' => ∃ v0 v1 : Value, e = .returned (.tuple #[v0, v1]) ∧
      Kd.R Kd.string 9 w' w.heap.size (fun k => some k ≠ v1.ownBlock) v0 (undoS l1 l1.length l0 (List.replicate l1.length ByteArray.empty)).1 ∧
      Kd.R Kd.string 9 w' w.heap.size (fun k => some k ≠ v0.ownBlock) v1 (undoS l1 l1.length l0 (List.replicate l1.length ByteArray.empty)).2 ∧ Below w.heap.size w w' := by
  have HR0 := Aside0.mk hr0
  have HC0 := Aside0.mk hc0
  have HR1 := Aside0.mk hr1
  have HOK := Aside0.mk hok
  have HL := Aside0.mk hlim
  clear hr0 hc0 hr1 hlim hok
  have HCL := Aside0.mk (show cloneS.f l0 = some l0 by unfold cloneS.f; rw [if_pos HL.out])
  have hu25 := Try.underlying25
  have hu46 := Try.underlying46
  have hl64 : l1.length ≤ 9223372036854775807 := by omega
  go_enter Try.func36, Try.ntmps36
  go_wp2_with (first | (go_at_call 34; refine (cloneS.calls A0 c0 l0 l0 _ (Kd.C_below HR0.out ((Below.refl w.heap.size w).alloc (Nat.le_refl _) _)) HC0.out HCL.out).mono ?_; rintro e w2 ⟨v0, rfl, hR, hB⟩; have HRv := Aside0.mk hR; have HB2 := Aside0.mk hB; have hcA : w2.cell? ⟨w.heap.size, 0, none⟩ = some (.slice A0 l0.length c0) := (hB.cell (p := ⟨w.heap.size, 0, none⟩) (by simp)).trans (by simp); have hcB : w2.cell? ⟨w.heap.size, 1, none⟩ = some (.slice A1 l1.length c1) := (hB.cell (p := ⟨w.heap.size, 1, none⟩) (by simp)).trans (by simp); clear hR hB) | ((with_reducible refine gate_dst (N := 12) rfl ?_); refine Kd.R_make Kd.string (w0 := w2) w2.heap.size 9 rfl (N := 12) rfl 22 _ _ rfl (l1.length : Int) rfl rfl Try.underlying22 (.string ⟨#[]⟩) 16 info9 rfl (by decide) (by omega) ByteArray.empty (ok := fun _ => True) (okp := fun _ => True) rfl (fun _ h => h) trivial (by omega) (by omega) (Below.refl _ _) (Nat.le_refl _) ?_; intro v1 w3 hR hB hG hN; have HRp := Aside0.mk hR; have HB3 := Aside0.mk hB; have HN := Aside0.mk hN; have hcA3 : w3.cell? ⟨w.heap.size, 0, none⟩ = some (.slice A0 l0.length c0) := (hB.cell (p := ⟨w.heap.size, 0, none⟩) (World.block_lt_of_cell? w2 _ hcA)).trans hcA; have hcB3 : w3.cell? ⟨w.heap.size, 1, none⟩ = some (.slice A1 l1.length c1) := (hB.cell (p := ⟨w.heap.size, 1, none⟩) (World.block_lt_of_cell? w2 _ hcB)).trans hcB; clear hR hB hG hN))
  have HB3w := Aside0.mk ((((Below.refl w.heap.size w).alloc (Nat.le_refl _) _).trans (HB2.out.mono (by simp))).trans (HB3.out.mono (Nat.le_trans (Nat.le_add_right _ 1) (by have := HB2.out.size; simpa using this))))
  have HV := Aside0.mk (Kd.R_below HRv.out HB3.out)
  have hvlt : ∀ k, v0.ownBlock = some k → k < w2.heap.size := fun k hk => own_lt (Kd.R_own HRv.out).choose_spec k hk
  have HR2 : Aside0 (Kd.R Kd.string 9 w3 w.heap.size (fun k => some k ≠ v1.ownBlock) v0 l0) := ⟨by
    obtain ⟨b, hb1, hb2⟩ := HN.out
    refine Kd.R_lower (Kd.R_mono (Kd.R_below (Kd.R_bound HRv.out) HB3.out) (fun k hk => ?_)) (by simp)
    rw [hb1]
    intro he
    injection he with he
    have := hk.2.2.1
    omega⟩
  have HP2 : Aside0 (Kd.R Kd.string 9 w3 w.heap.size (fun k => some k ≠ v0.ownBlock) v1 (List.replicate l1.length ByteArray.empty)) := ⟨by
    have h1 := HB2.out.size
    refine Kd.R_lower (Kd.R_mono (Kd.R_bound HRp.out) (fun k hk he => ?_)) (by simp at h1; omega)
    have h2 := hvlt k he.symm
    have := hk.2.1
    omega⟩
  clear HV HRv HRp HN HB2 HB3 hvlt hcA hcB hcA3 hcB3 HCL
  by_cases hn : l1.length = 0
  · have hn' : l1 = [] := List.eq_nil_of_length_eq_zero hn
    subst hn'
    go_loopg [4, 5] 1 (fun gg s4 _ wr => s4 = .slice A1 0 c1 ∧ wr = w3)
    case atStart => exact ⟨rfl, rfl⟩
    case round =>
      obtain ⟨rfl, rfl⟩ := hrel
      go_wp2
      go_ret2
      exact ⟨_, _, rfl, HR2.out, HP2.out, HB3w.out⟩
  · have hn0 : 0 < l1.length := by omega
    have hl0 : 0 < l0.length := by have := HOK.out 0 hn0; omega
    obtain ⟨g0, cc0, rfl, hg0, hg0'⟩ := R_form HR2.out rfl hl0
    obtain ⟨g1, cc1, rfl, hg1, hg1'⟩ := R_form HP2.out (by simp) hn0
    have hne : g0 ≠ g1 := by
      intro e
      have := HR2.out.1 g0 rfl
      simp [Value.ownBlock, e] at this
    have HG := Aside0.mk (And.intro hg0 (And.intro hg0' (And.intro hg1 (And.intro hg1' hne))))
    clear hg0 hg0' hg1 hg1'
    go_loopg [4, 5] l1.length (fun gg s4 _ wr => ∃ (i c : Nat) (s p : List ByteArray), i ≤ l1.length ∧ i ≤ c ∧ i ≤ gg ∧ s4 = .slice A1 i c ∧ Aside0 (s.length = l0.length) ∧ Aside0 (p.length = l1.length) ∧ Aside0 (undoS l1 i s p = undoS l1 l1.length l0 (List.replicate l1.length ByteArray.empty)) ∧ Aside0 (Kd.R Kd.string 9 wr w.heap.size (fun k => some k ≠ some g1) (.slice (some ⟨g0, 0, none⟩) l0.length cc0) s) ∧ Aside0 (Kd.R Kd.string 9 wr w.heap.size (fun k => some k ≠ some g0) (.slice (some ⟨g1, 0, none⟩) l1.length cc1) p) ∧ Aside0 (Below w.heap.size w wr))
    case atStart => exact ⟨l1.length, c1, l0, List.replicate l1.length ByteArray.empty, Nat.le_refl _, hc1, Nat.le_refl _, rfl, ⟨rfl⟩, ⟨by simp⟩, ⟨rfl⟩, HR2, HP2, HB3w⟩
    case round =>
      obtain ⟨i, c, s, p, hi1, hi2, hi3, rfl, HS, HP, HU, HRs, HRp, HB⟩ := hrel
      clear HR2 HP2 HB3w
      cases i with
      | zero =>
        go_wp2
        go_ret2
        refine ⟨.slice (some ⟨g0, 0, none⟩) l0.length cc0, .slice (some ⟨g1, 0, none⟩) l1.length cc1, rfl, ?_, ?_, HB.out⟩
        · rw [← HU.out]; exact HRs.out
        · rw [← HU.out]; exact HRp.out
      | succ i =>
        have hii : (i : Int) + 1 - 1 = (i : Int) := by omega
        obtain ⟨ad, hA1, hc0, hc1'⟩ := at_T46 (Kd.C_below HR1.out HB.out) (i : Int) (by omega) (by omega)
        subst hA1
        have hof := HOK.out i (by omega)
        rw [show rd_T46 l1 (i : Int) = l1.getD i z46 from rfl, Int.toNat_natCast] at hc0 hc1'
        generalize hx : l1.getD i z46 = x at hc0 hc1' hof
        have HX := Aside0.mk hx
        clear hx
        obtain ⟨f0, f1⟩ := x
        simp only at hc0 hc1' hof
        have hcs := Kd.R_celln (enc := Value.string) ByteArray.empty HRs.out f0 hof.1 (by omega)
        have hcp := Kd.R_celln (enc := Value.string) ByteArray.empty HRp.out (i : Int) (by omega) (by omega)
        simp only [Int.toNat_natCast] at hcp
        obtain ⟨hcs1, hcs2⟩ := hcs
        obtain ⟨hcp1, hcp2⟩ := hcp
        obtain ⟨hg0, hg0', hg1, hg1', hne⟩ := HG.out
        have hgw := HB.out.size
        have hlw0 := World.block_lt_of_cell? wr _ hcs1
        have hlw1 := World.block_lt_of_cell? wr _ hcp1
        simp only at hlw0 hlw1
        have hnw0 : g0 ≠ wr.heap.size := by omega
        have hnw1 : g1 ≠ wr.heap.size := by omega
        have hne' : g1 ≠ g0 := fun e => hne e.symm
        generalize hy : rdOf ByteArray.empty s f0 = y at hcs1
        have HY := Aside0.mk hy
        clear hy
        generalize hz : rdOf ByteArray.empty p (i : Int) = z at hcp1
        clear hz
        have hi0 : (0 : Int) ≤ (i : Int) := by omega
        have hi4 : (i : Int) < (l1.length : Int) := by omega
        have hf4 : f0 < (l0.length : Int) := by omega
        have hf5 : (0 : Int) ≤ f0 := hof.1
        go_wp2
        obtain ⟨W, hW⟩ : ∃ W, W = wr.alloc (Obj.cells #[Value.int .i64 f0, Value.string f1] 46) := ⟨_, rfl⟩
        obtain ⟨b5, hb5⟩ : ∃ b5, b5 = wr.heap.size := ⟨_, rfl⟩
        have e1 : W.cell? ⟨b5, 0, none⟩ = some (.int .i64 f0) := by rw [hW, hb5]; simp
        have e2 : W.cell? ⟨b5, 1, none⟩ = some (.string f1) := by rw [hW, hb5]; simp
        have e3 : W.cell? ⟨g0, f0.toNat, none⟩ = some (.string y) := by rw [hW, World.cell?_alloc_old _ _ _ hnw0]; exact hcs1
        have e4 : W.cell? ⟨g1, i, none⟩ = some (.string z) := by rw [hW, World.cell?_alloc_old _ _ _ hnw1]; exact hcp1
        have e5 : W.frozen? ⟨g0, f0.toNat, none⟩ = false := by
          have h1 : Below wr.heap.size wr W := by rw [hW]; exact below_alloc (Below.refl _ _) _
          exact (h1.frozen (p := ⟨g0, f0.toNat, none⟩) hlw0).trans hcs2
        have e6 : W.frozen? ⟨g1, i, none⟩ = false := by
          have h1 : Below wr.heap.size wr W := by rw [hW]; exact below_alloc (Below.refl _ _) _
          exact (h1.frozen (p := ⟨g1, i, none⟩) hlw1).trans hcp2
        have HWB := Aside0.mk (show Below wr.heap.size wr W by rw [hW]; exact below_alloc (Below.refl _ _) _)
        have n0 : g0 ≠ b5 := by rw [hb5]; exact hnw0
        have n1 : g1 ≠ b5 := by rw [hb5]; exact hnw1
        have n0' : b5 ≠ g0 := fun e => n0 e.symm
        have n1' : b5 ≠ g1 := fun e => n1 e.symm
        rw [← hW, ← hb5]
        clear hcs1 hcs2 hcp1 hcp2 hnw0 hnw1 hlw0 hlw1 hc0 hc1' hg0 hg0' hg1 hg1' hgw
        have HW := Aside0.mk hW
        clear hW hb5
        have hw1 : IntKind.i64.wrap ((i : Int) + 1 - 1) = (i : Int) := by rw [IntKind.wrap_i64]; omega
        have hw2 : IntKind.i64.wrap (i : Int) = (i : Int) := by rw [IntKind.wrap_i64]; omega
        go_region
        go_wp2
        go_roundg i
        case measure => omega
        case rel =>
          obtain ⟨hg0, hg0', hg1, hg1', _⟩ := HG.out
          have hWw := HB.out.trans (HWB.out.mono HB.out.size)
          have q1 := Kd.R_below HRs.out HWB.out
          have q2 := Kd.R_far (p := ⟨g1, i, none⟩) q1 (fun k hk e => hk (by rw [e])) (Value.string y)
          have q3 := Kd.R_putn (enc := Value.string) q2 f0 f1
          have p1 := Kd.R_below HRp.out HWB.out
          have p2 := Kd.R_putn (enc := Value.string) p1 (i : Int) y
          simp only [Int.toNat_natCast] at p2
          have p3 := Kd.R_far (p := ⟨g0, f0.toNat, none⟩) p2 (fun k hk e => hk (by rw [e])) (Value.string f1)
          refine ⟨i, i, s.set f0.toNat f1, p.set i y, by omega, Nat.le_refl _, Nat.le_refl _, rfl, ⟨by simpa using HS.out⟩, ⟨by simpa using HP.out⟩, ⟨?_⟩, ⟨Kd.R_drew q3⟩, ⟨Kd.R_drew p3⟩, ⟨below_drew ((hWw.setCell hg1 _).setCell hg0 _)⟩⟩
          rw [← HU.out]
          conv => rhs; unfold undoS
          rw [HX.out, HY.out]
end Go.Proofs.Ytdaonhgcejjlhaa.P
