/- Contract, proved by hand: disk.Crash. -/
import Derived.Test.YtdaonhgcejjlhaaHe
import Derived.WalkSpells
import Derived.Outline
import Derived.RegionTactic
import Derived.BigRegion
import Derived.Shelf.Abstract
namespace Go.Proofs.Ytdaonhgcejjlhaa.P
open Go.RowKit Go.Proofs.YtdaonhgcejjlhaaW.PrintWords Go.Proofs.YtdaonhgcejjlhaaW.PrintLast Go.Proofs.YtdaonhgcejjlhaaW.PrintMore
set_option linter.unusedVariables false
set_option linter.unusedSimpArgs false

def cutF (cuts : List Int) (i : Nat) : Nat := if cuts.length ≤ i then 32 else ((Int.tmod (Int.tmod (cuts.getD i 0) 33 + 32 + 1) 33)).toNat
theorem tmod33 (x : Int) : -32 ≤ Int.tmod x 33 ∧ Int.tmod x 33 ≤ 32 := by
  by_cases h : 0 ≤ x
  · rw [Int.tmod_eq_emod_of_nonneg h]; omega
  · have e : x.tmod 33 = -((-x).tmod 33) := by rw [Int.neg_tmod, Int.neg_neg]
    rw [e, Int.tmod_eq_emod_of_nonneg (by omega)]
    omega
theorem cutF_le (cuts : List Int) (i : Nat) : cutF cuts i ≤ 32 := by
  unfold cutF
  split
  · omega
  · have h0 : 0 ≤ Int.tmod (cuts.getD i 0) 33 + 32 + 1 := by
      have := tmod33 (cuts.getD i 0)
      omega
    have h1 : Int.tmod (Int.tmod (cuts.getD i 0) 33 + 32 + 1) 33 = (Int.tmod (cuts.getD i 0) 33 + 32 + 1) % 33 := Int.tmod_eq_emod_of_nonneg h0
    omega
def glue (a : ByteArray) (n : Nat) (b : ByteArray) : ByteArray := a.extract 0 n ++ b.extract n b.size
def crS (ws : List S46) (put : List ByteArray) (cuts : List Int) : Nat → List ByteArray → List ByteArray
  | 0, s => s
  | i + 1, s => (crS ws put cuts i s).set (ws.getD i z46).f0.toNat (glue (rdOf ByteArray.empty put i) (cutF cuts i) (rdOf ByteArray.empty (crS ws put cuts i s) (ws.getD i z46).f0))

set_option maxHeartbeats 4000000 in
set_option maxRecDepth 100000 in
theorem cut_calls (i : Nat) (b : Nat) (A2 : Option Addr) (c2 : Nat) (l2 : List Int) (W : World) (hi : i ≤ 1000) (hc : W.cell? ⟨b, 0, none⟩ = some (.slice A2 l2.length c2)) (hr : Kd.C (Kd.int .i64) W A2 l2.length l2) :
    Calls Try.prog 37 #[.int .i64 i, .pointer (some ⟨b, 0, none⟩)] W fun e w' => e = .returned (.int .i64 (cutF l2 i)) ∧ Drawn0 W w' := by
  have HR := Aside0.mk hr
  clear hr
  have hlm : l2.length ≤ 9223372036854775807 := HR.out.2.1
  by_cases h : l2.length ≤ i
  · have h1 : (l2.length : Int) ≤ (i : Int) := by omega
    go_enter Try.func37, Try.ntmps37
    go_wp2
    go_ret
    exact ⟨by unfold cutF; rw [if_pos h]; rfl, Drawn0.refl _⟩
  · have h1 : ¬ (l2.length : Int) ≤ (i : Int) := by omega
    have h2 : (i : Int) < (l2.length : Int) := by omega
    have h3 : (0 : Int) ≤ (i : Int) := by omega
    obtain ⟨ad, c, rfl, _, hK, hcell⟩ := Kd.C_get HR.out 0 (i : Int) h3 h2
    obtain rfl : c = [.int .i64 (l2.getD i 0)] := hK
    have hc0 := hcell 0 _ rfl
    have e : ((i : Int).toNat * (Kd.int .i64).sz + 0) = i := by show (i : Int).toNat * 1 + 0 = i; simp
    rw [e] at hc0
    clear hcell e
    have HE := Aside0.mk (show cutF l2 i = ((Int.tmod (Int.tmod (l2.getD i 0) 33 + 32 + 1) 33)).toNat by unfold cutF; rw [if_neg h])
    have HLE := Aside0.mk (cutF_le l2 i)
    generalize l2.getD i 0 = x at hc0 HE
    have hx0 : 0 ≤ Int.tmod x 33 + 32 + 1 := by
      have := tmod33 x
      omega
    have hx1 : Int.tmod x 33 ≤ 32 := by
      have := tmod33 x
      omega
    go_enter Try.func37, Try.ntmps37
    go_wp2
    go_ret
    refine ⟨?_, Drawn0.refl _⟩
    rw [HE.out]
    have hx2 := Int.tmod_eq_emod_of_nonneg (b := 33) hx0
    show Ending.returned (Value.int .i64 ((x.tmod 33 + 32 + 1) % 33)) = _
    rw [hx2, Int.toNat_of_nonneg (by omega)]

theorem fin_crash {w W3 wr : World} {B : Nat} {ok : Nat → Prop} {v : Value} {xs : List ByteArray} (hB3 : Below w.heap.size w W3) (hsz : W3.heap.size = B + 3) (hBw : B = w.heap.size) (h : Kd.R Kd.string 9 wr W3.heap.size ok v xs) (hb : Below W3.heap.size W3 wr) (u0 u1 : Value) :
    Kd.R Kd.string 9 ((wr.setCell ⟨B + 1 + 1, 0, none⟩ u0).setCell ⟨B + 1 + 1, 1, none⟩ u1) w.heap.size (fun _ => True) v xs ∧ Below w.heap.size w ((wr.setCell ⟨B + 1 + 1, 0, none⟩ u0).setCell ⟨B + 1 + 1, 1, none⟩ u1) := by
  have h1 := Kd.R_bound h
  have h2 := Kd.R_far (p := ⟨B + 1 + 1, 0, none⟩) h1 (fun k hk e => by have := hk.2.1; simp only at e; omega) u0
  have h3 := Kd.R_far (p := ⟨B + 1 + 1, 1, none⟩) h2 (fun k hk e => by have := hk.2.1; simp only at e; omega) u1
  have hq := hB3.trans (hb.mono hB3.size)
  exact ⟨Kd.R_mono (Kd.R_lower h3 hB3.size) (fun _ _ => trivial), (hq.setCell (by simp only; omega) _).setCell (by simp only; omega) _⟩

set_option maxHeartbeats 8000000 in
set_option maxRecDepth 100000 in
theorem crash_walk (A0 : Option Addr) (c0 : Nat) (l0 : List ByteArray) (A1 : Option Addr) (c1 : Nat) (l1 : List S46) (A2 : Option Addr) (c2 : Nat) (l2 : List Int) (w : World) (hr0 : Kd.C Kd.string w A0 l0.length l0) (hc0 : l0.length ≤ c0) (hr1 : Kd.C k46 w A1 l1.length l1) (hc1 : l1.length ≤ c1)
    (hr2 : Kd.C (Kd.int .i64) w A2 l2.length l2)
    (hlim : l0.length < 8796093022208) (hlim1 : l1.length ≤ 1000) (hok : okW l0.length l1)
    (p s0 : List ByteArray) (hu : undoS l1 l1.length l0 (List.replicate l1.length ByteArray.empty) = (s0, p)) (hp : ∀ i, i < l1.length → (p.getD i ByteArray.empty).size = 32) (hs : ∀ i j, i < l1.length → j < l0.length → ((crS l1 p l2 i s0).getD j ByteArray.empty).size = 32) :
    Calls Try.prog 21 #[.agg #[.slice A0 l0.length c0, .slice A1 l1.length c1], .slice A2 l2.length c2] w fun e w' => ∃ v0 : Value, e = .returned (.agg #[v0, .slice none 0 0]) ∧
      Kd.R Kd.string 9 w' w.heap.size (fun _ => True) v0 (crS l1 p l2 l1.length s0) ∧ Below w.heap.size w w' := by
  have HR0 := Aside0.mk hr0
  have HC0 := Aside0.mk hc0
  have HR1 := Aside0.mk hr1
  have HC1 := Aside0.mk hc1
  have HR2 := Aside0.mk hr2
  have HOK := Aside0.mk hok
  have HL := Aside0.mk hlim
  have HU := Aside0.mk hu
  have HP := Aside0.mk hp
  have HS := Aside0.mk hs
  have hsl := (undoS_len l1 l1.length l0 (List.replicate l1.length ByteArray.empty))
  rw [hu] at hsl
  simp only [List.length_replicate] at hsl
  have HSL := Aside0.mk hsl
  clear hr0 hc0 hr1 hc1 hr2 hlim hok hu hp hs hsl
  have hu25 := Try.underlying25
  have hu46 := Try.underlying46
  have eg37 := enters_of Try.func37 (by kernel_rfl) rfl
  have hl64 : l1.length ≤ 9223372036854775807 := by omega
  obtain ⟨W3, hW3⟩ : ∃ W3, W3 = ((w.alloc (Obj.cells #[.slice A0 l0.length c0, .slice A1 l1.length c1] 25)).alloc (Obj.cells #[.slice A2 l2.length c2] 26)).alloc (Obj.cells #[.slice none 0 0, .slice none 0 0] 25) := ⟨_, rfl⟩
  have HB3 := Aside0.mk (show Below w.heap.size w W3 by rw [hW3]; exact below_alloc (below_alloc (below_alloc (Below.refl _ _) _) _) _)
  obtain ⟨B, hB⟩ : ∃ B, B = w.heap.size := ⟨_, rfl⟩
  have b0 : W3.heap[B]? = some (.cells #[.slice A0 l0.length c0, .slice A1 l1.length c1] 25 (0, 0)) := by rw [hW3, hB]; exact blk_alloc (blk_alloc (heap_alloc_new _ _) _) _
  have b1 : W3.heap[B + 1]? = some (.cells #[.slice A2 l2.length c2] 26 (0, 0)) := by rw [hW3, hB]; exact blk_alloc ((congrArg (fun k => (World.heap _)[k]?) (by simp)).trans (heap_alloc_new (w.alloc _) _)) _
  have b2 : W3.heap[B + 2]? = some (.cells #[.slice none 0 0, .slice none 0 0] 25 (0, 0)) := by rw [hW3, hB]; exact (congrArg (fun k => (World.heap _)[k]?) (by simp)).trans (heap_alloc_new ((w.alloc _).alloc _) _)
  have f0 : W3.cell? ⟨B, 0, none⟩ = some (.slice A0 l0.length c0) := (blk_cell b0 0).trans rfl
  have f1 : W3.cell? ⟨B, 1, none⟩ = some (.slice A1 l1.length c1) := (blk_cell b0 1).trans rfl
  have f2 : W3.cell? ⟨B + 1, 0, none⟩ = some (.slice A2 l2.length c2) := (blk_cell b1 0).trans rfl
  have f3 : W3.cell? ⟨B + 2, 0, none⟩ = some (.slice none 0 0) := (blk_cell b2 0).trans rfl
  have f4 : W3.cell? ⟨B + 2, 1, none⟩ = some (.slice none 0 0) := (blk_cell b2 1).trans rfl
  have f5 : W3.frozen? ⟨B + 2, 0, none⟩ = false := blk_frozen b2 0
  have f6 : W3.frozen? ⟨B + 2, 1, none⟩ = false := blk_frozen b2 1
  have f7 : W3.heap.size = B + 3 := by rw [hW3, hB]; simp only [World.alloc, Array.size_push]
  clear b0 b1 b2
  have HF := Aside0.mk (And.intro f0 (And.intro f1 (And.intro f2 (And.intro f3 (And.intro f4 (And.intro f5 (And.intro f6 f7)))))))
  have HWE := Aside0.mk hW3
  have HBE := Aside0.mk hB
  clear f0 f1 f2 f3 f4 f5 f6 f7 hW3 hB
  go_enter Try.func21, Try.ntmps21
  go_wp2_with fail
  rw [← HWE.out, ← HBE.out]
  obtain ⟨f0, f1, f2, f3, f4, f5, f6, f7⟩ := HF.out
  refine (undone_walk A0 c0 l0 A1 c1 l1 W3 (Kd.C_below HR0.out HB3.out) HC0.out (Kd.C_below HR1.out HB3.out) HC1.out HL.out hlim1 HOK.out).mono ?_
  rw [HU.out]
  rintro e w4 ⟨v0, v1, rfl, hRs, hRp, hB4⟩
  have g1 := (hB4.cell (p := ⟨B, 1, none⟩) (World.block_lt_of_cell? W3 _ f1)).trans f1
  have g0 := (hB4.cell (p := ⟨B, 0, none⟩) (World.block_lt_of_cell? W3 _ f0)).trans f0
  have HRs := Aside0.mk hRs
  have HRp := Aside0.mk hRp
  have HB4 := Aside0.mk hB4
  clear f0 f1 f2 f3 f4 f5 f6 f7 hRs hRp hB4
  go_wp2
  have HG := Aside0.mk (And.intro g0 g1)
  clear g0 g1
  by_cases hn : l1.length = 0
  · have hn' : l1 = [] := List.eq_nil_of_length_eq_zero hn
    subst hn'
    go_loopg [20] 1 (fun gg s20 wr => s20 = .int .i64 0 ∧ wr = w4)
    case atStart => exact ⟨rfl, rfl⟩
    case round =>
      obtain ⟨rfl, rfl⟩ := hrel
      obtain ⟨f0, f1, f2, f3, f4, f5, f6, f7⟩ := HF.out
      have k3 := (HB4.out.cell (p := ⟨B + 2, 0, none⟩) (World.block_lt_of_cell? W3 _ f3)).trans f3
      have k4 := (HB4.out.cell (p := ⟨B + 2, 1, none⟩) (World.block_lt_of_cell? W3 _ f4)).trans f4
      have k5 := (HB4.out.frozen (p := ⟨B + 2, 0, none⟩) (World.block_lt_of_cell? W3 _ f3)).trans f5
      have k6 := (HB4.out.frozen (p := ⟨B + 2, 1, none⟩) (World.block_lt_of_cell? W3 _ f4)).trans f6
      clear f0 f1 f2 f3 f4 f5 f6 f7
      obtain ⟨A9, c9, rfl⟩ := Kd.R_slice HRs.out
      go_wp2
      exact bodyPost_ret (v := .agg #[.slice A9 s0.length c9, .slice none 0 0]) (by simp [results, Try.results21, go_sem, k3, k4]) rfl ⟨_, rfl, fin_crash HB3.out HF.out.2.2.2.2.2.2.2 HBE.out HRs.out HB4.out _ _⟩
  · have hn0 : 0 < l1.length := by omega
    have hl0 : 0 < l0.length := by have := HOK.out 0 hn0; omega
    obtain ⟨g0, cc0, rfl, hg0, hg0'⟩ := R_form HRs.out HSL.out.1 hl0
    obtain ⟨g1, cc1, rfl, hg1, hg1'⟩ := R_form HRp.out HSL.out.2 hn0
    have hne : g0 ≠ g1 := by
      intro e
      have := HRs.out.1 g0 rfl
      simp [Value.ownBlock, e] at this
    have HQ := Aside0.mk (And.intro hg0 (And.intro hg0' (And.intro hg1 (And.intro hg1' hne))))
    clear hg0 hg0' hg1 hg1'
    go_loopg [20] l1.length (fun gg s20 wr => ∃ i : Nat, i ≤ l1.length ∧ l1.length - i ≤ gg ∧ s20 = .int .i64 i ∧ Aside0 (Kd.R Kd.string 9 wr W3.heap.size (fun k => some k ≠ some g1) (.slice (some ⟨g0, 0, none⟩) l0.length cc0) (crS l1 p l2 i s0)) ∧ Aside0 (Kd.R Kd.string 9 wr W3.heap.size (fun k => some k ≠ some g0) (.slice (some ⟨g1, 0, none⟩) l1.length cc1) p) ∧ Aside0 (Below W3.heap.size W3 wr))
    case atStart => exact ⟨0, Nat.zero_le _, by omega, rfl, HRs, HRp, HB4⟩
    case round =>
      obtain ⟨i, hi1, hi2, rfl, HRs, HRp, HB⟩ := hrel
      by_cases hlt : i < l1.length
      · have hlt' : (i : Int) < (l1.length : Int) := by omega
        have hi0 : (0 : Int) ≤ (i : Int) := by omega
        have hwB : Below w.heap.size w wr := HB3.out.trans (HB.out.mono HB3.out.size)
        obtain ⟨ad, hA1, hc0, hc1'⟩ := at_T46 (Kd.C_below HR1.out hwB) (i : Int) (by omega) (by omega)
        subst hA1
        have hof := HOK.out i hlt
        rw [show rd_T46 l1 (i : Int) = l1.getD i z46 from rfl, Int.toNat_natCast] at hc0 hc1'
        generalize hx : l1.getD i z46 = x at hc0 hc1' hof
        have HX := Aside0.mk hx
        clear hx
        obtain ⟨f0, f1⟩ := x
        simp only at hc0 hc1' hof
        have HCUT := Aside0.mk (fun W (hb : Below wr.heap.size wr W) => cut_calls i (B + 1) A2 c2 l2 W (by omega) ((hb.cell (p := ⟨B + 1, 0, none⟩) (World.block_lt_of_cell? wr _ ((HB.out.cell (p := ⟨B + 1, 0, none⟩) (World.block_lt_of_cell? W3 _ HF.out.2.2.1)).trans HF.out.2.2.1))).trans ((HB.out.cell (p := ⟨B + 1, 0, none⟩) (World.block_lt_of_cell? W3 _ HF.out.2.2.1)).trans HF.out.2.2.1)) (Kd.C_below (Kd.C_below HR2.out hwB) hb))
        clear hwB
        have HN32 := Aside0.mk (cutF_le l2 i)
        obtain ⟨n, hn⟩ : ∃ n, n = cutF l2 i := ⟨_, rfl⟩
        simp only [← hn] at HCUT HN32
        have HNE := Aside0.mk hn
        clear hn
        go_wp2_with (go_at_call 37; refine (HCUT.out _ (below_alloc (Below.refl _ _) _)).mono ?_; rintro e w' ⟨rfl, ⟨nd, rfl⟩⟩)
        obtain ⟨W, hW⟩ : ∃ W, W = (wr.alloc (Obj.cells #[Value.int .i64 f0, Value.string f1] 46)).drewN nd := ⟨_, rfl⟩
        have hWB : Below wr.heap.size wr W := by rw [hW]; exact pw_below_drewN (below_alloc (Below.refl _ _) _) _
        obtain ⟨b5, hb5⟩ : ∃ b5, b5 = wr.heap.size := ⟨_, rfl⟩
        have e1 : W.cell? ⟨b5, 0, none⟩ = some (.int .i64 f0) := by rw [hW, hb5]; simp
        have e2 : W.cell? ⟨b5, 1, none⟩ = some (.string f1) := by rw [hW, hb5]; simp
        have HRs2 := Kd.R_below HRs.out hWB
        have HRp2 := Kd.R_below HRp.out hWB
        have hlc : (crS l1 p l2 i s0).length = l0.length := (Kd.R_reads' HRs.out).1.symm
        obtain ⟨e3, e5⟩ := Kd.R_celln (enc := Value.string) ByteArray.empty HRs2 f0 hof.1 (by omega)
        obtain ⟨e4, _⟩ := Kd.R_celln (enc := Value.string) ByteArray.empty HRp2 (i : Int) (by omega) (by omega)
        simp only [Int.toNat_natCast] at e4
        have hps : (rdOf ByteArray.empty p (i : Int)).size = 32 := HP.out i hlt
        have hss : (rdOf ByteArray.empty (crS l1 p l2 i s0) f0).size = 32 := HS.out i f0.toNat hlt (by omega)
        generalize hy : rdOf ByteArray.empty p (i : Int) = y at e4 hps
        generalize hz : rdOf ByteArray.empty (crS l1 p l2 i s0) f0 = z at e3 hss
        have HY := Aside0.mk hy
        have HZ := Aside0.mk hz
        have HR2' := Aside0.mk (And.intro HRs2 HRp2)
        have hf4 : f0 < (l0.length : Int) := by omega
        have hf5 : (0 : Int) ≤ f0 := hof.1
        have hn32 := HN32.out
        have hn1 : (0 : Int) ≤ (n : Int) := by omega
        have hn2 : (n : Int) ≤ 32 := by omega
        have hgg := HQ.out
        have hne' : g1 ≠ g0 := fun e => hne e.symm
        have hbg0 : b5 ≠ g0 := by rw [hb5]; have := (World.block_lt_of_cell? wr _ (Kd.R_celln (enc := Value.string) ByteArray.empty HRs.out f0 hof.1 (by omega)).1); simp only at this; omega
        have hbg0' : g0 ≠ b5 := fun e => hbg0 e.symm
        clear hy hz HRs2 HRp2 hof
        rw [← hW, ← hb5]
        have HW := Aside0.mk hWB
        clear hWB hW hb5 hgg
        go_region
        go_wp2
        go_roundg (l1.length - (i + 1))
        case measure => omega
        case rel =>
          have q1 := Kd.R_putn (enc := Value.string) HR2'.out.1 f0 (y.extract 0 n ++ z.extract n 32)
          have p1 := Kd.R_far (p := ⟨g0, f0.toNat, none⟩) HR2'.out.2 (fun k hk e => hk (by rw [e])) (Value.string (y.extract 0 n ++ z.extract n 32))
          have hgl : crS l1 p l2 (i + 1) s0 = (crS l1 p l2 i s0).set f0.toNat (y.extract 0 n ++ z.extract n 32) := by
            conv => lhs; unfold crS
            rw [HX.out, ← HNE.out]
            show (crS l1 p l2 i s0).set f0.toNat (glue (rdOf ByteArray.empty p (i : Int)) n (rdOf ByteArray.empty (crS l1 p l2 i s0) f0)) = _
            rw [HY.out, HZ.out]
            unfold glue
            rw [hss]
          refine ⟨i + 1, by omega, by omega, by simp, ⟨?_⟩, ⟨Kd.R_drew p1⟩, ⟨below_drew ((HB.out.trans (HW.out.mono HB.out.size)).setCell HQ.out.1 _)⟩⟩
          rw [hgl]
          exact Kd.R_drew q1
      · have hi4 : i = l1.length := by omega
        subst hi4
        have hlt' : ¬ (l1.length : Int) < (l1.length : Int) := by omega
        obtain ⟨f0, f1, f2, f3, f4, f5, f6, f7⟩ := HF.out
        have k3 := (HB.out.cell (p := ⟨B + 2, 0, none⟩) (World.block_lt_of_cell? W3 _ f3)).trans f3
        have k4 := (HB.out.cell (p := ⟨B + 2, 1, none⟩) (World.block_lt_of_cell? W3 _ f4)).trans f4
        have k5 := (HB.out.frozen (p := ⟨B + 2, 0, none⟩) (World.block_lt_of_cell? W3 _ f3)).trans f5
        have k6 := (HB.out.frozen (p := ⟨B + 2, 1, none⟩) (World.block_lt_of_cell? W3 _ f4)).trans f6
        clear f0 f1 f2 f3 f4 f5 f6 f7
        go_wp2
        exact bodyPost_ret (v := .agg #[.slice (some ⟨g0, 0, none⟩) l0.length cc0, .slice none 0 0]) (by simp [results, Try.results21, go_sem, k3, k4]) rfl ⟨_, rfl, fin_crash HB3.out HF.out.2.2.2.2.2.2.2 HBE.out HRs.out HB.out _ _⟩

/-! ### disk.Crash: function 21 -/
/-- The pure crash: undo, then each write's first bytes again. -/
def crashV (l0_0 : List ByteArray) (l0_1 : List S46) (l1 : List Int) : List ByteArray :=
  crS l0_1 (undoS l0_1 l0_1.length l0_0 (List.replicate l0_1.length ByteArray.empty)).2 l1 l0_1.length (undoS l0_1 l0_1.length l0_0 (List.replicate l0_1.length ByteArray.empty)).1
def crashOk (l0_0 : List ByteArray) (l0_1 : List S46) : Prop := l0_0.length ≤ 1000 ∧ l0_1.length ≤ 1000 ∧ (∀ x ∈ l0_0, x.size = 32) ∧ ∀ x ∈ l0_1, 0 ≤ x.f0 ∧ x.f0 < (l0_0.length : Int) ∧ x.f1.size = 32
instance (a : List ByteArray) (b : List S46) : Decidable (crashOk a b) := by unfold crashOk; exact inferInstance
def dCrash.f (l0_0 : List ByteArray) (l0_1 : List S46) (l1 : List Int) : Option (List ByteArray × List S46) := if crashOk l0_0 l0_1 then some (crashV l0_0 l0_1 l1, []) else none
def all32 (l : List ByteArray) : Prop := ∀ x ∈ l, x.size = 32
theorem all32_set {l : List ByteArray} (h : all32 l) (i : Nat) {b : ByteArray} (hb : b.size = 32) : all32 (l.set i b) := fun x hx => by
  rcases List.mem_or_eq_of_mem_set hx with hx | rfl
  · exact h x hx
  · exact hb
theorem all32_get {l : List ByteArray} (h : all32 l) {i : Nat} (hi : i < l.length) : (l.getD i ByteArray.empty).size = 32 := by
  rw [List.getD_eq_getElem?_getD, List.getElem?_eq_getElem hi]
  exact h _ (List.getElem_mem _)
theorem ws_get {n : Nat} {ws : List S46} (h : ∀ x ∈ ws, 0 ≤ x.f0 ∧ x.f0 < (n : Int) ∧ x.f1.size = 32) {i : Nat} (hi : i < ws.length) : 0 ≤ (ws.getD i z46).f0 ∧ (ws.getD i z46).f0 < n ∧ (ws.getD i z46).f1.size = 32 := by
  rw [List.getD_eq_getElem?_getD, List.getElem?_eq_getElem hi]
  exact h _ (List.getElem_mem _)
theorem undoS_32 {n : Nat} (ws : List S46) (h : ∀ x ∈ ws, 0 ≤ x.f0 ∧ x.f0 < (n : Int) ∧ x.f1.size = 32) : ∀ i s p, i ≤ ws.length → s.length = n → p.length = ws.length → all32 s → (∀ j, i ≤ j → j < ws.length → (p.getD j ByteArray.empty).size = 32) →
    all32 (undoS ws i s p).1 ∧ ∀ j, j < ws.length → ((undoS ws i s p).2.getD j ByteArray.empty).size = 32
  | 0, s, p, _, _, _, hs, hp => ⟨hs, fun j hj => hp j (Nat.zero_le _) hj⟩
  | i + 1, s, p, hi, hsl, hpl, hs, hp => by
    have hw := ws_get h (i := i) (by omega)
    unfold undoS
    refine undoS_32 ws h i _ _ (by omega) (by simpa using hsl) (by simpa using hpl) (all32_set hs _ hw.2.2) (fun j hij hj => ?_)
    by_cases e : j = i
    · subst e
      rw [List.getD_eq_getElem?_getD, List.getElem?_set_self (by omega)]
      exact all32_get hs (by omega)
    · rw [List.getD_eq_getElem?_getD, List.getElem?_set_ne (fun h => e h.symm), ← List.getD_eq_getElem?_getD]
      exact hp j (by omega) hj
theorem glue_size {a b : ByteArray} {n : Nat} (ha : a.size = 32) (hb : b.size = 32) (hn : n ≤ 32) : (glue a n b).size = 32 := by
  unfold glue
  rw [ByteArray.size_append, ByteArray.size_extract, ByteArray.size_extract, ha, hb]
  omega
theorem crS_len (ws : List S46) (p : List ByteArray) (cuts : List Int) : ∀ i s, (crS ws p cuts i s).length = s.length
  | 0, s => rfl
  | i + 1, s => by unfold crS; rw [List.length_set]; exact crS_len ws p cuts i s
theorem crS_32 {n : Nat} (ws : List S46) (h : ∀ x ∈ ws, 0 ≤ x.f0 ∧ x.f0 < (n : Int) ∧ x.f1.size = 32) (p : List ByteArray) (hp : ∀ j, j < ws.length → (p.getD j ByteArray.empty).size = 32) (cuts : List Int) (s : List ByteArray) (hsl : s.length = n) (hs : all32 s) : ∀ i, i ≤ ws.length → all32 (crS ws p cuts i s)
  | 0, _ => hs
  | i + 1, hi => by
    have ih := crS_32 ws h p hp cuts s hsl hs i (by omega)
    have hw := ws_get h (i := i) (by omega)
    unfold crS
    exact all32_set ih _ (glue_size (hp i (by omega)) (all32_get ih (by rw [crS_len]; omega)) (cutF_le _ _))

theorem dCrash.calls (A0_0 : Option Addr) (c0_0 : Nat) (l0_0 : List ByteArray) (A0_1 : Option Addr) (c0_1 : Nat) (l0_1 : List (S46)) (A1 : Option Addr) (c1 : Nat) (l1 : List Int) (r1 : List ByteArray) (r2 : List (S46)) (w : World) (hr0_0 : Kd.C Kd.string w A0_0 l0_0.length l0_0) (hc0_0 : l0_0.length ≤ c0_0) (hr0_1 : Kd.C k46 w A0_1 l0_1.length l0_1) (hc0_1 : l0_1.length ≤ c0_1) (hr1 : Kd.C (Kd.int .i64) w A1 l1.length l1) (hc1 : l1.length ≤ c1) (h : dCrash.f l0_0 l0_1 l1 = some (r1, r2)) :
    Calls Try.prog 21 #[.agg #[.slice A0_0 l0_0.length c0_0, .slice A0_1 l0_1.length c0_1], .slice A1 l1.length c1] w fun e w' => ∃ v0_ v1_ : Value, e = .returned (.agg #[v0_, v1_]) ∧ Kd.R Kd.string 9 w' w.heap.size (fun _ => True) v0_ r1 ∧ Kd.R k46 46 w' w.heap.size (fun _ => True) v1_ r2 ∧ Below w.heap.size w w' := by
  unfold dCrash.f at h
  by_cases hv : crashOk l0_0 l0_1
  · rw [if_pos hv] at h
    simp only [Option.some.injEq, Prod.mk.injEq] at h
    obtain ⟨rfl, rfl⟩ := h
    obtain ⟨h1, h2, h3, h4⟩ := hv
    have hk := undoS_32 l0_1 h4 l0_1.length l0_0 (List.replicate l0_1.length ByteArray.empty) (Nat.le_refl _) rfl (by simp) h3 (fun j a b => by omega)
    have hl := undoS_len l0_1 l0_1.length l0_0 (List.replicate l0_1.length ByteArray.empty)
    refine (crash_walk A0_0 c0_0 l0_0 A0_1 c0_1 l0_1 A1 c1 l1 w hr0_0 hc0_0 hr0_1 hc0_1 hr1 (by omega) h2 (fun i hi => ⟨(ws_get h4 hi).1, (ws_get h4 hi).2.1⟩) _ _ rfl hk.2 (fun i j hi hj => ?_)).mono ?_
    · exact all32_get (crS_32 l0_1 h4 _ hk.2 l1 _ hl.1 hk.1 i (by omega)) (by rw [crS_len, hl.1]; exact hj)
    · rintro e w' ⟨v0, rfl, hR, hB⟩
      exact ⟨_, _, rfl, hR, Kd.R_nil _ _ _ _ _, hB⟩
  · rw [if_neg hv] at h
    exact absurd h (by simp)
end Go.Proofs.Ytdaonhgcejjlhaa.P
