/- Merged: Walk, by hand: nest.write through a pointer to a level. | A level behind a pointer: nest.read, write, keep in one form; nest.last at every change. | nest.last at every change; nest.Begin, Read, Put, Keep. | nest.Put and nest.Keep. | nest.Begin; merging one level into another; nest.fold, End. | nest.fold, its closure, nest.End. | nest.fold, nest.End. | slices.Reverse at []api.Undo. | A row of compensations, reversed. | nest.Drop: function 16. | nest.All: function 27. | slices.Backward at []api.Level (functions 46, 62): its closure hands every level on, the innermost first. -/
import Derived.Test.YtfojpobblebigaaYM0
import Derived.Deep.RegionWith
import Derived.RangeFuncNested
import Derived.RangeFuncBound
import Derived.RangeFuncCalls
import Derived.RangeFuncLeaves
import Derived.Shelf.Abstract
import Derived.Shelf.RegionOpen
import Derived.OwnWalkIn
import Derived.TacticsInMore
import Derived.LoopNIn
import Derived.LoopIn
namespace Go.Proofs.Ytfojpobblebigaa.P
open Go.RowKit Go.Proofs.YtfojpobblebigaaW.PrintWords Go.Proofs.YtfojpobblebigaaW.PrintLast Go.Proofs.YtfojpobblebigaaW.PrintMore
set_option linter.unusedVariables false
set_option linter.unusedSimpArgs false

/-- One write: in the place of an earlier one of the location, or ahead of the first greater location. -/
def putStep (l : List S33) (x : S33) : List S33 := if l.any (fun y => y.f0 == x.f0) then l.set (l.findIdx (fun y => y.f0 == x.f0)) x else ins l (l.findIdx (fun y => decide (x.f0 < y.f0))) x
def writeL (l more : List S33) : List S33 := more.foldl putStep l
theorem putStep_len (l : List S33) (x : S33) : (putStep l x).length ≤ l.length + 1 := by
  unfold putStep
  split
  · simp
  · rw [ins_len _ _ _ List.findIdx_le_length]; exact Nat.le_refl _
theorem writeL_take (l more : List S33) (k : Nat) (hk : k < more.length) : writeL l (more.take (k + 1)) = putStep (writeL l (more.take k)) (more.getD k z33) := by
  unfold writeL
  rw [List.take_add_one, List.foldl_append, List.getD_eq_getElem?_getD, List.getElem?_eq_getElem hk]
  rfl
theorem wc_set : ∀ (l : List S33) (k : Nat) (x : S33), k < l.length → ((wc l).set (k * 2) (.int .i64 x.f0)).set (k * 2 + 1) (.int .i64 x.f1) = wc (l.set k x)
  | [], k, x, h => by simp at h
  | y :: l, 0, x, h => rfl
  | y :: l, k + 1, x, h => by
    rw [wc_cons, List.set_cons_succ, wc_cons, ← wc_set l k x (by simpa using h), show (k + 1) * 2 = k * 2 + 2 by omega]
    rfl
theorem own_set33 {W : World} {base g c : Nat} {l : List S33} (h : W.ownsRow base 33 2 (.slice (some ⟨g, 0, none⟩) l.length c) l.length (wc l)) (k : Nat) (hk : k < l.length) (x : S33) :
    ((W.setCell ⟨g, k * 2, none⟩ (.int .i64 x.f0)).setCell ⟨g, k * 2 + 1, none⟩ (.int .i64 x.f1)).ownsRow base 33 2 (.slice (some ⟨g, 0, none⟩) (l.set k x).length c) (l.set k x).length (wc (l.set k x)) := by
  obtain ⟨h1, h2⟩ := h
  rcases h2 with ⟨h2, _⟩ | ⟨g', c', cur, hv, hg, hh, hn, hc, hs, ht⟩
  · cases h2
  · injection hv with ha hn' hc'
    injection ha with ha
    injection ha with ha
    subst ha; subst hc'
    refine ⟨wc_len _, .inr ⟨g, c, _, rfl, hg, blk_set (blk_set hh (k * 2) _) (k * 2 + 1) _, by simpa using hn, hc, by simpa using hs, ?_⟩⟩
    rw [List.length_set, ← wc_set l k x hk, ← ht]
    simp only [Array.toList_setIfInBounds, List.take_set]
theorem own_cells33 {W : World} {base c : Nat} {A : Option Addr} {l : List S33} (h : W.ownsRow base 33 2 (.slice A l.length c) l.length (wc l)) (k : Nat) (hk : k < l.length) :
    ∃ g, A = some ⟨g, 0, none⟩ ∧ base ≤ g ∧ g < W.heap.size ∧ W.cell? ⟨g, k * 2, none⟩ = some (.int .i64 (l.getD k z33).f0) ∧ W.cell? ⟨g, k * 2 + 1, none⟩ = some (.int .i64 (l.getD k z33).f1) ∧ W.frozen? ⟨g, k * 2, none⟩ = false ∧ W.frozen? ⟨g, k * 2 + 1, none⟩ = false := by
  obtain ⟨h1, h2⟩ := h
  rcases h2 with ⟨h2, h3⟩ | ⟨g', c', cur, hv, hg, hh, hn, hc, hs, ht⟩
  · omega
  · injection hv with ha hn' hc'
    subst ha
    have hj : ∀ j, j < 2 → cur[k * 2 + j]? = (w2 (l.getD k z33))[j]? := fun j hj => by
      have e1 : (wc l)[k * 2 + j]? = cur[k * 2 + j]? := by rw [← ht, List.getElem?_take, if_pos (by omega), Array.getElem?_toList]
      rw [← e1, ← List.getElem?_drop, wc_drop, List.drop_eq_getElem_cons hk, wc_cons, List.getElem?_append_left (by rw [w2_len]; exact hj), List.getD_eq_getElem?_getD, List.getElem?_eq_getElem hk]
      rfl
    exact ⟨g', rfl, hg, blk_lt hh, (blk_cell hh _).trans (hj 0 (by omega)), (blk_cell hh _).trans (hj 1 (by omega)), blk_frozen hh _, blk_frozen hh _⟩
theorem own_reads33 {W : World} {base n c : Nat} {A : Option Addr} {l : List S33} (h : W.ownsRow base 33 2 (.slice A n c) l.length (wc l)) : n = l.length ∧ n ≤ c ∧ Kd.C k33 W A l.length l := Kd.N_reads' (N33_of_own h)
theorem idx_len {l : List S33} {p : S33 → Bool} (h : l.any p = true) : l.findIdx p < l.length := by
  obtain ⟨x, hx, hp⟩ := List.any_eq_true.1 h
  exact List.findIdx_lt_length_of_exists ⟨x, hx, hp⟩

set_option maxHeartbeats 16000000 in
set_option maxRecDepth 100000 in
theorem write_walk (w : World) (g off : Nat) (cs : Array Value) (A : Option Addr) (n c : Nat) (wr0 : List S33) (Am : Option Addr) (nm cm : Nat) (more : List S33)
    (hb : w.heap[g]? = some (.cells cs 62 (0, 0))) (ho : cs[off + 1]? = some (.slice A n c)) (hr : Kd.C k33 w A n wr0) (hc : n ≤ c)
    (hm : ∀ W', KeepBut w W' g none → Kd.C k33 W' Am nm more) (hl : wr0.length + more.length ≤ LIM) :
    Calls Try.prog 40 #[.pointer (some ⟨g, off, none⟩), .slice Am nm cm] w fun e w' => e = .returned (.tuple #[]) ∧ ∃ v : Value,
      w'.heap[g]? = some (.cells (cs.setIfInBounds (off + 1) v) 62 (0, 0)) ∧ Kd.N k33 33 w' w.heap.size (fun k => w.heap.size ≤ k) v (writeL wr0 more) ∧ KeepBut w w' g none ∧ Below 0 w w' := by
  have HBK := Aside0.mk hb
  have HO := Aside0.mk ho
  have HM := Aside0.mk hm
  have HL := Aside0.mk hl
  have hg := blk_lt hb
  have HG := Aside0.mk hg
  obtain ⟨f1, f2⟩ := lp_cell hb ho
  have HCL := Aside0.mk (cloneT (fun _ => True) A n c wr0 w (fun W' h => Kd.Heap.C k33_heap (fun k hk => h k trivial hk) hr) hc (by omega))
  have hnm : more.length = nm := (HM.out w (KeepBut.refl w g none)).1
  have hnm2 : nm ≤ 9223372036854775807 := (HM.out w (KeepBut.refl w g none)).2.1
  subst hnm
  clear hb ho hm hl hr hg
  have eg58 := enters_of Try.func58 (by kernel_rfl) rfl
  have eg59 := enters_of Try.func59 (by kernel_rfl) rfl
  go_enter Try.func40, Try.ntmps40
  go_wp2_with (go_at_call 56; refine HCL.out.mono ?_; rintro e w1 ⟨v, rfl, hN, hB1⟩; obtain ⟨A1, c1, rfl⟩ := Kd.N_slice hN; have h1 := pw_cell_below hB1 f1; have h2 := (hB1.frozen (p := ⟨g, off + 1, none⟩) HG.out).trans f2)
  have hbk1 := blk_set (blk_below HBK.out hB1) (off + 1) (.slice A1 wr0.length c1)
  have hN2 := own_of_N33 (Kd.N_far (p := ⟨g, off + 1, none⟩) (N33_of_own (own_of_N33 hN)) (fun k hk e => by have := HG.out; simp only at e; omega) (.slice A1 wr0.length c1))
  have hK2 := (KeepBut.of_below hB1 g none).set_ (off + 1) (.slice A1 wr0.length c1)
  have HZ2 := Aside0.mk ((hB1.mono (Nat.zero_le _)).setCell (p := ⟨g, off + 1, none⟩) (Nat.zero_le _) (.slice A1 wr0.length c1))
  have HN2 := Aside0.mk hN2
  have HK2 := Aside0.mk hK2
  have HB2 := Aside0.mk hbk1
  clear hN hB1 h1 h2 hbk1 hN2 hK2 f1 f2 HCL
  generalize w1.setCell ⟨g, off + 1, none⟩ (.slice A1 wr0.length c1) = w2_ at HN2 HK2 HB2 HZ2 ⊢
  go_loopg [5, 6, 7, 18] more.length (fun gg _ _ _ s18 wr => ∃ kk : Nat, kk ≤ more.length ∧ more.length - kk ≤ gg ∧ s18 = .int .i64 kk ∧ ∃ A3 c3, Aside0 (wr.heap[g]? = some (.cells (cs.setIfInBounds (off + 1) (.slice A3 (writeL wr0 (more.take kk)).length c3)) 62 (0, 0))) ∧ Aside0 (wr.ownsRow w.heap.size 33 2 (.slice A3 (writeL wr0 (more.take kk)).length c3) (writeL wr0 (more.take kk)).length (wc (writeL wr0 (more.take kk)))) ∧ Aside0 (KeepBut w wr g none) ∧ Aside0 ((writeL wr0 (more.take kk)).length ≤ wr0.length + kk) ∧ Aside0 (Below 0 w wr))
  case atStart => exact ⟨0, Nat.zero_le _, by omega, rfl, A1, c1, HB2, HN2, HK2, ⟨Nat.le_refl _⟩, HZ2⟩
  case round =>
    clear HN2 HK2 HB2 HZ2
    obtain ⟨kk, hkk, hgg, rfl, A3, c3, HB3, HN3, HK3, HL3, HZ3⟩ := hrel
    by_cases hlt : kk < more.length
    · have hlt' : (kk : Int) < (more.length : Int) := by omega
      obtain ⟨ad, rfl, q0, q1⟩ := at_T33 (HM.out wr HK3.out) (kk : Int) (by omega) hlt'
      rw [show rd_T33 more (kk : Int) = more.getD kk z33 from rfl, Int.toNat_natCast] at q0 q1
      have HS := Aside0.mk (writeL_take wr0 more kk hlt)
      generalize more.getD kk z33 = s at q0 q1 HS
      obtain ⟨f1, f2⟩ := lp_cell HB3.out (lp_get HO.out)
      have hgl := blk_lt HB3.out
      generalize hacc : writeL wr0 (more.take kk) = acc at *
      obtain ⟨p0, p1, p2⟩ := own_reads33 HN3.out
      have hal : acc.length ≤ 9223372036854775807 := p2.2.1
      obtain ⟨B, hB⟩ : ∃ B, B = wr.heap.size := ⟨_, rfl⟩
      have HIX := Aside0.mk (fun W (hb : Below wr.heap.size wr W) (hc : W.cell? ⟨wr.heap.size, 0, none⟩ = some (.int .i64 s.f0)) => idxT (fun x => x.f0 == s.f0) 58 #[.pointer (some ⟨wr.heap.size, 0, none⟩)] eg58 A3 acc.length c3 acc W (Kd.C_below p2 hb) (fun W' x hbW => (eqT W' x wr.heap.size s.f0 ((hbW.cell (p := ⟨wr.heap.size, 0, none⟩) (World.block_lt_of_cell? W _ hc)).trans hc)).mono (fun _ _ hq => ⟨hq.1, hbW.trans (hq.2.mono hbW.size)⟩)))
      have HIY := Aside0.mk (fun W (hb : Below wr.heap.size wr W) (hc : W.cell? ⟨wr.heap.size, 0, none⟩ = some (.int .i64 s.f0)) => idxT (fun x => decide (s.f0 < x.f0)) 59 #[.pointer (some ⟨wr.heap.size, 0, none⟩)] eg59 A3 acc.length c3 acc W (Kd.C_below p2 hb) (fun W' x hbW => (gtT W' x wr.heap.size s.f0 ((hbW.cell (p := ⟨wr.heap.size, 0, none⟩) (World.block_lt_of_cell? W _ hc)).trans hc)).mono (fun _ _ hq => ⟨hq.1, hbW.trans (hq.2.mono hbW.size)⟩)))
      clear p0 p1 p2
      obtain ⟨s0, s1⟩ := s
      simp only at q0 q1 HIX HIY
      cases hq : acc.any (fun x => x.f0 == s0) with
      | true =>
        have hk := idx_len hq
        have hix : idxI (fun x => x.f0 == s0) acc = ((acc.findIdx (fun x => x.f0 == s0) : Nat) : Int) := by unfold idxI; rw [if_pos hq]
        rw [hix] at HIX
        have hps : putStep acc ⟨s0, s1⟩ = acc.set (acc.findIdx (fun x => x.f0 == s0)) ⟨s0, s1⟩ := by unfold putStep; rw [if_pos hq]
        rw [hps] at HS
        generalize acc.findIdx (fun x => x.f0 == s0) = k at hk HIX HS
        clear hq hix hps HIY
        have hk0 : (0 : Int) ≤ (k : Int) := by omega
        go_wp2_with (go_at_call 57; refine (HIX.out _ (below_alloc (Below.refl _ _) _) (by simp)).mono ?_; rintro e w4 ⟨rfl, hb4⟩)
        have hW : Below wr.heap.size wr w4 := (below_alloc (Below.refl _ _) _).trans (hb4.mono (by simp))
        have e1 := pw_cell_below hW f1
        have e2 := (hW.frozen (p := ⟨g, off + 1, none⟩) hgl).trans f2
        have e3 : w4.cell? ⟨B, 0, none⟩ = some (.int .i64 s0) := by rw [hB]; exact (hb4.cell (p := ⟨wr.heap.size, 0, none⟩) (by simp)).trans (by simp)
        have e4 : w4.cell? ⟨B, 1, none⟩ = some (.int .i64 s1) := by rw [hB]; exact (hb4.cell (p := ⟨wr.heap.size, 1, none⟩) (by simp)).trans (by simp)
        have HB4 := Aside0.mk (blk_below HB3.out hW)
        have HN4 := Aside0.mk (own_of_N33 (Kd.N_below (N33_of_own HN3.out) hW))
        have HZ4 := Aside0.mk (HZ3.out.trans (hW.mono (Nat.zero_le _)))
        have HK4 := Aside0.mk (HK3.out.trans (KeepBut.of_below hW g none) (.inl rfl))
        have hg4 : g < w4.heap.size := blk_lt HB4.out
        have hB4 : B < w4.heap.size := World.block_lt_of_cell? w4 _ e3
        obtain ⟨g2, rfl, hg2, hg2', c0, c1', z0, z1⟩ := own_cells33 HN4.out k hk
        have hgne : g ≠ g2 := fun e => by have := HG.out; omega
        have HQ2 := Aside0.mk (And.intro hg2 hgne)
        have hki : (k : Int) < (acc.length : Int) := by omega
        rw [← hB]
        clear hW hb4 f1 f2 q0 q1 HIX hB hg2 hgne HN3 HB3
        go_region
        all_goals go_wp2
        all_goals
          go_roundg (more.length - (kk + 1))
          case measure => omega
          case rel =>
            refine ⟨kk + 1, by omega, by omega, by go_num, some ⟨g2, 0, none⟩, c3, ?_⟩
            have hown := own_set33 HN4.out k hk ⟨s0, s1⟩
            rw [HS.out]
            rw [List.length_set] at hown ⊢
            exact ⟨⟨blk_drew (blk_far (blk_far HB4.out (p := ⟨g2, k * 2, none⟩) HQ2.out.2 _) (p := ⟨g2, k * 2 + 1, none⟩) HQ2.out.2 _)⟩, ⟨hown⟩, ⟨keep_drew (keep_far (keep_far HK4.out (p := ⟨g2, k * 2, none⟩) HQ2.out.1 _) (p := ⟨g2, k * 2 + 1, none⟩) HQ2.out.1 _)⟩, ⟨by have := HL3.out; omega⟩, ⟨((HZ4.out.setCell (p := ⟨g2, k * 2, none⟩) (Nat.zero_le _) _).setCell (p := ⟨g2, k * 2 + 1, none⟩) (Nat.zero_le _) _).drew⟩⟩
      | false =>
        have hix : idxI (fun x => x.f0 == s0) acc = -1 := by unfold idxI; rw [if_neg (by rw [hq]; simp)]
        rw [hix] at HIX
        have hps : putStep acc ⟨s0, s1⟩ = ins acc (acc.findIdx (fun y => decide (s0 < y.f0))) ⟨s0, s1⟩ := by unfold putStep; rw [if_neg (by rw [hq]; simp)]
        rw [hps] at HS
        have hk : acc.findIdx (fun y => decide (s0 < y.f0)) ≤ acc.length := List.findIdx_le_length
        have hiy : idxI (fun y => decide (s0 < y.f0)) acc = ((acc.findIdx (fun y => decide (s0 < y.f0)) : Nat) : Int) ∨ (idxI (fun y => decide (s0 < y.f0)) acc = -1 ∧ acc.findIdx (fun y => decide (s0 < y.f0)) = acc.length) := by
          unfold idxI
          cases h9 : acc.any (fun y => decide (s0 < y.f0)) with
          | true => left; rfl
          | false =>
            right
            refine ⟨by simp, ?_⟩
            rw [List.findIdx_eq_length]
            intro y hy
            have := List.any_eq_false.1 h9 y hy
            simpa using this
        generalize acc.findIdx (fun y => decide (s0 < y.f0)) = k at hk HS hiy
        generalize idxI (fun y => decide (s0 < y.f0)) acc = ki at HIY hiy
        clear hq hix hps
        have HK := Aside0.mk hk
        go_wp2_with (first | (go_at_call 57; refine (HIX.out _ (below_alloc (Below.refl _ _) _) (by simp)).mono ?_; clear HIX; rintro e w4 ⟨rfl, hb4⟩; have hW4 : Below wr.heap.size wr w4 := (below_alloc (Below.refl _ _) _).trans (hb4.mono (by simp)); have e1 := pw_cell_below hW4 f1; have e3 : w4.cell? ⟨wr.heap.size, 0, none⟩ = some (.int .i64 s0) := (hb4.cell (p := ⟨wr.heap.size, 0, none⟩) (by simp)).trans (by simp); have e4 : w4.cell? ⟨wr.heap.size, 1, none⟩ = some (.int .i64 s1) := (hb4.cell (p := ⟨wr.heap.size, 1, none⟩) (by simp)).trans (by simp)) | (go_at_call 57; refine (HIY.out _ hW4 e3).mono ?_; clear HIY; rintro e w5 ⟨rfl, hb5⟩; have hW5 := hW4.trans (hb5.mono hW4.size); have e1' := pw_cell_below hb5 e1; have e3' := pw_cell_below hb5 e3; have e4' := pw_cell_below hb5 e4))
        · obtain rfl : k = acc.length := by omega
          clear hiy
          have HB5 := Aside0.mk (blk_below HB3.out hW5)
          have HN5 := Aside0.mk (own_of_N33 (Kd.N_below (N33_of_own HN3.out) hW5))
          have HZ5 := Aside0.mk (HZ3.out.trans (hW5.mono (Nat.zero_le _)))
          have HK5 := Aside0.mk (HK3.out.trans (KeepBut.of_below hW5 g none) (.inl rfl))
          have hg5 : g < w5.heap.size := blk_lt HB5.out
          have hB5 : wr.heap.size < w5.heap.size := World.block_lt_of_cell? w5 _ e3'
          have hin : Calls Try.prog 60 #[.slice A3 acc.length c3, .int .i64 acc.length, .slice (some ⟨w5.heap.size, 0, none⟩) 1 1] (w5.drew.alloc (.cells #[.int .i64 s0, .int .i64 s1] 33)) (fun e w' => ∃ v', e = .returned v' ∧ w'.ownsRow w.heap.size 33 2 v' (ins acc acc.length ⟨s0, s1⟩).length (wc (ins acc acc.length ⟨s0, s1⟩)) ∧ Below 0 w5.drew w' ∧ w5.heap.size ≤ w'.heap.size ∧ ∀ j, j < w5.heap.size → some j ≠ (Value.slice A3 acc.length c3).ownBlock → w'.heap[j]? = w5.heap[j]?) :=
            insert_walk w.heap.size acc.length (.slice A3 acc.length c3) acc ⟨s0, s1⟩ w5.drew HK.out (by have h8 := HL3.out; have h9 := HL.out; omega) (by have := HK5.out.1; simpa using this) HN5.out
          have HIN := Aside0.mk hin
          have HNE := Aside0.mk (fun j (hj : j < w.heap.size) => show some j ≠ (Value.slice A3 acc.length c3).ownBlock from fun he => by have h9 := own_base HN5.out j he.symm; omega)
          rw [← hB] at e3' e4' hB5 ⊢
          clear hin hW4 hW5 hb4 hb5 e1 e3 e4 q0 q1 f1 f2 hB hk
          go_region_with (go_at_call 60; refine HIN.out.mono ?_; rintro e w6 ⟨v6, rfl, ho6, hz6, hs6, hk6⟩; obtain ⟨A6, c6, rfl⟩ := Kd.N_slice (N33_of_own ho6); have hb6 := (hk6 g hg5 (HNE.out g HG.out)).trans HB5.out; obtain ⟨e6, e7⟩ := lp_cell hb6 (lp_get HO.out))
          all_goals go_wp2
          all_goals
            clear e6 e7
            go_roundg (more.length - (kk + 1))
            case measure => omega
            case rel =>
              refine ⟨kk + 1, by omega, by omega, by go_num, A6, c6, ?_⟩
              rw [HS.out]
              have hbk := blk_set hb6 (off + 1) (.slice A6 (ins acc acc.length ⟨s0, s1⟩).length c6)
              rw [Array.setIfInBounds_setIfInBounds] at hbk
              have hk7 : KeepBut w w6 g none := ⟨Nat.le_trans HK5.out.1 hs6, fun i hi hne _ => (hk6 i (Nat.lt_of_lt_of_le hi HK5.out.1) (HNE.out i hi)).trans (HK5.out.2 i hi hne (by simp))⟩
              have hn7 := own_of_N33 (Kd.N_far (p := ⟨g, off + 1, none⟩) (N33_of_own ho6) (fun k hk e => by have := HG.out; simp only at e; omega) (.slice A6 (ins acc acc.length ⟨s0, s1⟩).length c6))
              exact ⟨⟨blk_drew hbk⟩, ⟨hn7⟩, ⟨keep_drew (hk7.set_ (off + 1) _)⟩, ⟨by rw [ins_len _ _ _ HK.out]; have := HL3.out; omega⟩, ⟨by first | exact (HZ5.out.drew.trans hz6).setCell (p := ⟨g, off + 1, none⟩) (Nat.zero_le _) _ | exact ((HZ5.out.drew.trans hz6).setCell (p := ⟨g, off + 1, none⟩) (Nat.zero_le _) _).drew⟩⟩
        · obtain rfl : ki = (k : Int) := by omega
          clear hiy
          have HB5 := Aside0.mk (blk_below HB3.out hW5)
          have HN5 := Aside0.mk (own_of_N33 (Kd.N_below (N33_of_own HN3.out) hW5))
          have HZ5 := Aside0.mk (HZ3.out.trans (hW5.mono (Nat.zero_le _)))
          have HK5 := Aside0.mk (HK3.out.trans (KeepBut.of_below hW5 g none) (.inl rfl))
          have hg5 : g < w5.heap.size := blk_lt HB5.out
          have hB5 : wr.heap.size < w5.heap.size := World.block_lt_of_cell? w5 _ e3'
          have hin : Calls Try.prog 60 #[.slice A3 acc.length c3, .int .i64 k, .slice (some ⟨w5.heap.size, 0, none⟩) 1 1] (w5.drew.alloc (.cells #[.int .i64 s0, .int .i64 s1] 33)) (fun e w' => ∃ v', e = .returned v' ∧ w'.ownsRow w.heap.size 33 2 v' (ins acc k ⟨s0, s1⟩).length (wc (ins acc k ⟨s0, s1⟩)) ∧ Below 0 w5.drew w' ∧ w5.heap.size ≤ w'.heap.size ∧ ∀ j, j < w5.heap.size → some j ≠ (Value.slice A3 acc.length c3).ownBlock → w'.heap[j]? = w5.heap[j]?) :=
            insert_walk w.heap.size k (.slice A3 acc.length c3) acc ⟨s0, s1⟩ w5.drew HK.out (by have h8 := HL3.out; have h9 := HL.out; omega) (by have := HK5.out.1; simpa using this) HN5.out
          have HIN := Aside0.mk hin
          have HNE := Aside0.mk (fun j (hj : j < w.heap.size) => show some j ≠ (Value.slice A3 acc.length c3).ownBlock from fun he => by have h9 := own_base HN5.out j he.symm; omega)
          rw [← hB] at e3' e4' hB5 ⊢
          clear hin hW4 hW5 hb4 hb5 e1 e3 e4 q0 q1 f1 f2 hB hk
          go_region_with (go_at_call 60; refine HIN.out.mono ?_; rintro e w6 ⟨v6, rfl, ho6, hz6, hs6, hk6⟩; obtain ⟨A6, c6, rfl⟩ := Kd.N_slice (N33_of_own ho6); have hb6 := (hk6 g hg5 (HNE.out g HG.out)).trans HB5.out; obtain ⟨e6, e7⟩ := lp_cell hb6 (lp_get HO.out))
          all_goals go_wp2
          all_goals
            clear e6 e7
            go_roundg (more.length - (kk + 1))
            case measure => omega
            case rel =>
              refine ⟨kk + 1, by omega, by omega, by go_num, A6, c6, ?_⟩
              rw [HS.out]
              have hbk := blk_set hb6 (off + 1) (.slice A6 (ins acc k ⟨s0, s1⟩).length c6)
              rw [Array.setIfInBounds_setIfInBounds] at hbk
              have hk7 : KeepBut w w6 g none := ⟨Nat.le_trans HK5.out.1 hs6, fun i hi hne _ => (hk6 i (Nat.lt_of_lt_of_le hi HK5.out.1) (HNE.out i hi)).trans (HK5.out.2 i hi hne (by simp))⟩
              have hn7 := own_of_N33 (Kd.N_far (p := ⟨g, off + 1, none⟩) (N33_of_own ho6) (fun k hk e => by have := HG.out; simp only at e; omega) (.slice A6 (ins acc k ⟨s0, s1⟩).length c6))
              exact ⟨⟨blk_drew hbk⟩, ⟨hn7⟩, ⟨keep_drew (hk7.set_ (off + 1) _)⟩, ⟨by rw [ins_len _ _ _ HK.out]; have := HL3.out; omega⟩, ⟨by first | exact (HZ5.out.drew.trans hz6).setCell (p := ⟨g, off + 1, none⟩) (Nat.zero_le _) _ | exact ((HZ5.out.drew.trans hz6).setCell (p := ⟨g, off + 1, none⟩) (Nat.zero_le _) _).drew⟩⟩
    · have hk2 : kk = more.length := by omega
      subst hk2
      have hlt' : ¬ (more.length : Int) < (more.length : Int) := by omega
      go_wp2
      rw [List.take_length] at HB3 HN3
      exact bodyPost_end (results_none rfl _ _ _) rfl ⟨rfl, _, HB3.out, N33_of_own HN3.out, HK3.out, HZ3.out⟩
end Go.Proofs.Ytfojpobblebigaa.P
namespace Go.Proofs.Ytfojpobblebigaa.P
open Go.RowKit Go.Proofs.YtfojpobblebigaaW.PrintWords Go.Proofs.YtfojpobblebigaaW.PrintLast Go.Proofs.YtfojpobblebigaaW.PrintMore
set_option linter.unusedVariables false
set_option linter.unusedSimpArgs false

/-- Block g holds levels; the one at off is x. -/
def Lvl (W : World) (g off : Nat) (ok : Nat → Prop) (x : S62) (cs : Array Value) : Prop :=
  W.heap[g]? = some (.cells cs 62 (0, 0)) ∧ ∃ c : List Value, (∀ j, j < 3 → cs[off + j]? = c[j]?) ∧ Kd.FK k62 W (fun k => ok k ∧ k ≠ g) x c
/-- The level at off alone has changed. -/
def Near (off : Nat) (cs cs' : Array Value) : Prop := cs'.size = cs.size ∧ ∀ j, (j < off ∨ off + 3 ≤ j) → cs'[j]? = cs[j]?
theorem Near.refl (off : Nat) (cs : Array Value) : Near off cs cs := ⟨rfl, fun _ _ => rfl⟩
theorem Near.trans {off : Nat} {a b c : Array Value} (h : Near off a b) (k : Near off b c) : Near off a c := ⟨k.1.trans h.1, fun j hj => (k.2 j hj).trans (h.2 j hj)⟩
theorem Near.set (off : Nat) (cs : Array Value) (i : Nat) (hi : i < 3) (v : Value) : Near off cs (cs.setIfInBounds (off + i) v) :=
  ⟨by simp, fun j hj => by rw [Array.getElem?_setIfInBounds_ne (by omega)]⟩

theorem lvl_parts {W : World} {g off : Nat} {ok : Nat → Prop} {x : S62} {cs : Array Value} (h : Lvl W g off ok x cs) :
    ∃ A0 c0 A1 c1 A2 c2, W.heap[g]? = some (.cells cs 62 (0, 0)) ∧ cs[off]? = some (.slice A0 x.f0.length c0) ∧ cs[off + 1]? = some (.slice A1 x.f1.length c1) ∧ cs[off + 2]? = some (.slice A2 x.f2.length c2) ∧
      x.f0.length ≤ c0 ∧ Kd.F k30 W (fun k => ok k ∧ k ≠ g) A0 x.f0.length x.f0 ∧ x.f1.length ≤ c1 ∧ Kd.F k33 W (fun k => ok k ∧ k ≠ g) A1 x.f1.length x.f1 ∧ x.f2.length ≤ c2 ∧ Kd.F k50 W (fun k => ok k ∧ k ≠ g) A2 x.f2.length x.f2 := by
  obtain ⟨hb, c, hc, hf⟩ := h
  obtain ⟨A0, c0, A1, c1, A2, c2, rfl, r⟩ := k62_openF hf
  exact ⟨A0, c0, A1, c1, A2, c2, hb, hc 0 (by omega), hc 1 (by omega), hc 2 (by omega), r⟩
theorem lvl_mk {W : World} {g off : Nat} {ok : Nat → Prop} {x : S62} {cs : Array Value} {A0 A1 A2 : Option Addr} {c0 c1 c2 : Nat} (hb : W.heap[g]? = some (.cells cs 62 (0, 0)))
    (h0 : cs[off]? = some (.slice A0 x.f0.length c0)) (h1 : cs[off + 1]? = some (.slice A1 x.f1.length c1)) (h2 : cs[off + 2]? = some (.slice A2 x.f2.length c2))
    (l0 : x.f0.length ≤ c0) (f0 : Kd.F k30 W (fun k => ok k ∧ k ≠ g) A0 x.f0.length x.f0) (l1 : x.f1.length ≤ c1) (f1 : Kd.F k33 W (fun k => ok k ∧ k ≠ g) A1 x.f1.length x.f1) (l2 : x.f2.length ≤ c2) (f2 : Kd.F k50 W (fun k => ok k ∧ k ≠ g) A2 x.f2.length x.f2) : Lvl W g off ok x cs := by
  refine ⟨hb, _, fun j hj => ?_, k62_mkF W _ x l0 f0 l1 f1 l2 f2⟩
  rcases j with _ | _ | _ | j
  · exact h0
  · exact h1
  · exact h2
  · omega

/-- What a step on a level leaves. -/
def LvlTo (W : World) (g off : Nat) (ok : Nat → Prop) (cs : Array Value) (y : S62) (w' : World) : Prop := ∃ cs', Lvl w' g off ok y cs' ∧ Near off cs cs' ∧ KeepBut W w' g none ∧ Below 0 W w'
theorem LvlTo.trans {W w1 w2 : World} {g off : Nat} {ok : Nat → Prop} {cs cs1 : Array Value} {y : S62} (hn : Near off cs cs1) (hk : KeepBut W w1 g none) (hz : Below 0 W w1) (h : LvlTo w1 g off ok cs1 y w2) : LvlTo W g off ok cs y w2 := by
  obtain ⟨cs', h1, h2, h3, h4⟩ := h
  exact ⟨cs', h1, hn.trans h2, hk.trans h3 (.inl rfl), hz.trans h4⟩

theorem read_lvl (W : World) (g off : Nat) (ok : Nat → Prop) (x : S62) (cs : Array Value) (Am : Option Addr) (nm cm : Nat) (more : List S30) (h : Lvl W g off ok x cs)
    (hm : Kd.F k30 W (fun k => ok k ∧ k ≠ g) Am nm more) (hl : x.f0.length + more.length ≤ LIM) (hok : ∀ k, W.heap.size ≤ k → ok k) :
    Calls Try.prog 38 #[.pointer (some ⟨g, off, none⟩), .slice Am nm cm] W fun e w' => e = .returned (.tuple #[]) ∧ LvlTo W g off ok cs { x with f0 := readL x.f0 more } w' := by
  obtain ⟨A0, c0, A1, c1, A2, c2, hb, h0, h1, h2, l0, f0, l1, f1, l2, f2⟩ := lvl_parts h
  have hg := blk_lt hb
  refine (read_walk W g off cs A0 x.f0.length c0 x.f0 Am nm cm more hb h0 (Kd.F_now f0) l0 (fun W' hk => Kd.F_now (Kd.F_keep hm hk (fun k hk => hk.2))) hl).mono ?_
  rintro e w' ⟨rfl, v, hb', hN, hK, hZ⟩
  obtain ⟨A9, c9, rfl⟩ := Kd.N_slice hN
  have hs : off < cs.size := (Array.getElem?_eq_some_iff.1 h0).1
  refine ⟨rfl, _, lvl_mk hb' (lp_get h0) ((Array.getElem?_setIfInBounds_ne (by omega)).trans h1) ((Array.getElem?_setIfInBounds_ne (by omega)).trans h2) (Kd.N_reads' hN).2.1 (Kd.F_mono (Kd.N_F hN) (fun k hk => ⟨hok k hk, by omega⟩)) l1 (Kd.F_keep f1 hK (fun k hk => hk.2)) l2 (Kd.F_keep f2 hK (fun k hk => hk.2)), Near.set off cs 0 (by omega) _, hK, hZ⟩
theorem write_lvl (W : World) (g off : Nat) (ok : Nat → Prop) (x : S62) (cs : Array Value) (Am : Option Addr) (nm cm : Nat) (more : List S33) (h : Lvl W g off ok x cs)
    (hm : Kd.F k33 W (fun k => ok k ∧ k ≠ g) Am nm more) (hl : x.f1.length + more.length ≤ LIM) (hok : ∀ k, W.heap.size ≤ k → ok k) :
    Calls Try.prog 40 #[.pointer (some ⟨g, off, none⟩), .slice Am nm cm] W fun e w' => e = .returned (.tuple #[]) ∧ LvlTo W g off ok cs { x with f1 := writeL x.f1 more } w' := by
  obtain ⟨A0, c0, A1, c1, A2, c2, hb, h0, h1, h2, l0, f0, l1, f1, l2, f2⟩ := lvl_parts h
  have hg := blk_lt hb
  refine (write_walk W g off cs A1 x.f1.length c1 x.f1 Am nm cm more hb h1 (Kd.F_now f1) l1 (fun W' hk => Kd.F_now (Kd.F_keep hm hk (fun k hk => hk.2))) hl).mono ?_
  rintro e w' ⟨rfl, v, hb', hN, hK, hZ⟩
  obtain ⟨A9, c9, rfl⟩ := Kd.N_slice hN
  refine ⟨rfl, _, lvl_mk hb' ((Array.getElem?_setIfInBounds_ne (by omega)).trans h0) (lp_get h1) ((Array.getElem?_setIfInBounds_ne (by omega)).trans h2) l0 (Kd.F_keep f0 hK (fun k hk => hk.2)) (Kd.N_reads' hN).2.1 (Kd.F_mono (Kd.N_F hN) (fun k hk => ⟨hok k hk, by omega⟩)) l2 (Kd.F_keep f2 hK (fun k hk => hk.2)), Near.set off cs 1 (by omega) _, hK, hZ⟩
theorem keep_lvl (W : World) (g off : Nat) (ok : Nat → Prop) (x : S62) (cs : Array Value) (Am : Option Addr) (nm cm : Nat) (more : List S50) (h : Lvl W g off ok x cs)
    (hm : Kd.F k50 W (fun k => ok k ∧ k ≠ g) Am nm more) (hl : x.f2.length + more.length ≤ LIM) (hok : ∀ k, W.heap.size ≤ k → ok k) :
    Calls Try.prog 51 #[.pointer (some ⟨g, off, none⟩), .slice Am nm cm] W fun e w' => e = .returned (.tuple #[]) ∧ LvlTo W g off ok cs { x with f2 := x.f2 ++ more } w' := by
  obtain ⟨A0, c0, A1, c1, A2, c2, hb, h0, h1, h2, l0, f0, l1, f1, l2, f2⟩ := lvl_parts h
  have hg := blk_lt hb
  refine (keep_walk W g off cs (fun k => ok k ∧ k ≠ g) (fun k => ok k ∧ k ≠ g) A2 x.f2.length c2 x.f2 Am nm cm more hb h2 f2 l2 hm (fun k hk => hk.2) (fun k hk => hk.2) hl).mono ?_
  rintro e w' ⟨rfl, v, hb', hN, hK, hZ⟩
  obtain ⟨A9, c9, rfl⟩ := Kd.N_slice hN
  refine ⟨rfl, _, lvl_mk hb' ((Array.getElem?_setIfInBounds_ne (by omega)).trans h0) ((Array.getElem?_setIfInBounds_ne (by omega)).trans h1) (lp_get h2) l0 (Kd.F_keep f0 hK (fun k hk => hk.2)) l1 (Kd.F_keep f1 hK (fun k hk => hk.2)) (Kd.N_reads' hN).2.1 (Kd.F_mono (Kd.N_F hN) (fun k hk => ?_)), Near.set off cs 2 (by omega) _, hK, hZ⟩
  rcases hk with (hk | hk) | hk
  · exact hk
  · exact hk
  · exact ⟨hok k hk, by omega⟩

theorem chunk_eq {L : Array Value} {n j : Nat} {p : List Value} (hp : p.length = 3) (hj : j < n) (h : ∀ q, q < 3 → L[j * 3 + q]? = p[q]?) : ((L.toList.take (n * 3)).drop (j * 3)).take 3 = p := by
  refine List.ext_getElem? fun q => ?_
  by_cases hq : q < 3
  · rw [List.getElem?_take, if_pos hq, List.getElem?_drop, List.getElem?_take, if_pos (by omega), Array.getElem?_toList]
    exact h q hq
  · rw [List.getElem?_take, if_neg hq, List.getElem?_eq_none (by omega)]
theorem N62_upd {W w2 : World} {base g cap : Nat} {ok ok' : Nat → Prop} {xs : List S62} {cells cells' : Array Value} {i : Nat} {y : S62}
    (h : Kd.N k62 62 W base ok (.slice (some ⟨g, 0, none⟩) xs.length cap) xs) (hb : W.heap[g]? = some (.cells cells 62 (0, 0))) (hi : i < xs.length) (hK : KeepBut W w2 g none)
    (hn : Near (i * 3) cells cells') (hy : Lvl w2 g (i * 3) ok' y cells') (hok : ∀ k, ok k → ok' k) :
    Kd.N k62 62 w2 base ok' (.slice (some ⟨g, 0, none⟩) xs.length cap) (xs.set i y) := by
  obtain ⟨h0, rows, hl, ⟨_, inner, ho, hr⟩, hf⟩ := h
  obtain ⟨hb2, c, hc, hfk⟩ := hy
  have hcl : c.length = 3 := k62.K_len (Kd.FK_now hfk)
  have hc1 := k62.K_one (Kd.FK_now hfk)
  obtain ⟨h1, h2⟩ := ho
  rcases h2 with ⟨hv, _⟩ | ⟨g', c', cur, hv, hg, hh, hn', hc', hs, ht⟩
  · cases hv
  · injection hv with ha _ hcc
    injection ha with ha
    injection ha with ha
    subst ha; subst hcc
    rw [hb] at hh
    injection hh with hh
    injection hh with hh
    subst hh
    have hs3 : cells.size = cap * 3 := hs
    have ht3 : cells.toList.take (rows.length * 3) = inner := ht
    have hir : i < rows.length := by omega
    have hc'i : rows.length ≤ cap := hn'
    have hlen : (cells'.toList.take (rows.length * 3)).length = rows.length * 3 := by
      rw [List.length_take, (Array.length_toList (xs := cells')).trans (hn.1.trans hs3)]
      exact Nat.min_eq_left (Nat.mul_le_mul_right _ hc'i)
    refine ⟨fun k hk => hok k (h0 k hk), rows.set i c, by simp [hl], ⟨fun k hk => hk.symm, cells'.toList.take (rows.length * 3), ⟨?_, .inr ⟨g, cap, cells', by simp [hl], hg, hb2, by simpa using hn', hc', ?_, by simp; rfl⟩⟩, ⟨?_, ?_⟩⟩, ?_⟩
    · rw [List.length_set]; exact hlen
    · rw [hn.1]; exact hs
    · rw [List.length_set]; exact hlen
    · intro j p hj
      by_cases e : j = i
      · subst e
        rw [List.getElem?_set_self hir] at hj
        obtain rfl := Option.some.inj hj
        have e := chunk_eq hcl hir hc
        exact ⟨e, by rw [show (Kd.raw k62.sz).sz = 3 from rfl, e]; exact hcl, by rw [show (Kd.raw k62.sz).sz = 3 from rfl, e]; exact hc1⟩
      · rw [List.getElem?_set_ne (fun h => e h.symm)] at hj
        have hjl := (List.getElem?_eq_some_iff.1 hj).1
        obtain ⟨q1, q2, q3⟩ := hr.2 j p hj
        have q1' : ((inner.drop (j * 3)).take 3) = p := q1
        have q2' : p.length = 3 := by rw [← q1']; exact q2
        have q3' : ∀ u ∈ p, u.oneCell' = true := by rw [← q1']; exact q3
        have e := chunk_eq (L := cells') q2' hjl (fun q hq => ?_)
        · exact ⟨e, by rw [show (Kd.raw k62.sz).sz = 3 from rfl, e]; exact q2', by rw [show (Kd.raw k62.sz).sz = 3 from rfl, e]; exact q3'⟩
        rw [hn.2 _ (by omega), ← q1', List.getElem?_take, if_pos hq, List.getElem?_drop, ← ht3, List.getElem?_take, if_pos (by omega), Array.getElem?_toList]
    · intro j x c0 hx hc0
      by_cases e : j = i
      · subst e
        rw [List.getElem?_set_self hir] at hc0
        rw [List.getElem?_set_self hi] at hx
        obtain rfl := Option.some.inj hc0
        obtain rfl := Option.some.inj hx
        exact Kd.FK_mono hfk (fun k hk => ⟨hk.1, fun h => hk.2 (by simpa [Value.ownBlock] using h)⟩)
      · rw [List.getElem?_set_ne (fun h => e h.symm)] at hc0 hx
        have := hf j x c0 hx hc0
        refine Kd.FK_mono (Kd.FK_step this (fun k hk hlt => hK.2 k hlt (fun h => hk.2 (by rw [h]; rfl)) (by simp))) (fun k hk => ⟨hok k hk.1, hk.2⟩)
end Go.Proofs.Ytfojpobblebigaa.P
namespace Go.Proofs.Ytfojpobblebigaa.P
open Go.RowKit Go.Proofs.YtfojpobblebigaaW.PrintWords Go.Proofs.YtfojpobblebigaaW.PrintLast Go.Proofs.YtfojpobblebigaaW.PrintMore
set_option linter.unusedVariables false
set_option linter.unusedSimpArgs false

theorem below_of_keep {w W w' : World} {g : Nat} (hb : Below w.heap.size w W) (hk : KeepBut W w' g none) (hz : Below 0 W w') (hg : w.heap.size ≤ g) : Below w.heap.size w w' :=
  ⟨hz.os.trans hb.os, hz.tape.trans hb.tape, hz.output.trans hb.output, Nat.le_trans hb.size hk.1, fun k hk' => (hk.2 k (Nat.lt_of_lt_of_le hk' hb.size) (by omega) (by simp)).trans (hb.block k hk')⟩

set_option maxHeartbeats 8000000 in
set_option maxRecDepth 100000 in
theorem last_walk (P : Nat → Prop) (A : Option Addr) (n c : Nat) (l : List S62) (gf : Nat) (lb : Array Value) (eg : ∀ args w, (callFunc gf args).run Try.prog w = .ok (.enter gf args) w) (y : S62) (w : World)
    (hr : Kd.F k62 w P A n l) (hc : n ≤ c) (hlim : l.length ≤ LIM) (hne : 0 < l.length)
    (hf : ∀ W g off cs, Below w.heap.size w W → w.heap.size ≤ g → Lvl W g off (fun k => P k ∨ w.heap.size ≤ k) (l.getD (l.length - 1) z62) cs → Calls Try.prog gf (#[.pointer (some ⟨g, off, none⟩)] ++ lb) W fun e w' => e = .returned (.tuple #[]) ∧ LvlTo W g off (fun k => P k ∨ w.heap.size ≤ k) cs y w') :
    Calls Try.prog 36 #[.slice A n c, .func (.func gf) #[] lb] w fun e w' => ∃ v : Value, e = .returned v ∧ Kd.N k62 62 w' w.heap.size (fun k => P k ∨ w.heap.size ≤ k) v (l.set (l.length - 1) y) ∧ Below w.heap.size w w' := by
  have HCL := Aside0.mk (cloneL P A n c l w hr hc hlim)
  have HF := Aside0.mk hf
  obtain rfl : l.length = n := Kd.F_len hr
  have hl63 : l.length ≤ 9223372036854775807 := by unfold LIM at hlim; omega
  have hn0 : ¬ ((l.length : Int) = 0) := by omega
  have hi0 : (0 : Int) ≤ (l.length : Int) - 1 := by omega
  have hi1 : (l.length : Int) - 1 < (l.length : Int) := by omega
  have hw1 : IntKind.i64.wrap ((l.length : Int) - 1) = (l.length : Int) - 1 := by rw [IntKind.wrap_i64]; omega
  have htn : ((l.length : Int) - 1).toNat = l.length - 1 := by omega
  clear hr hf
  go_enter Try.func36, Try.ntmps36
  go_wp2_with (go_at_call 35; refine HCL.out.mono ?_; rintro e w1 ⟨v, rfl, hN, hB1⟩; obtain ⟨g, cap, rfl, hg, hg1, cells, hb⟩ := Kd.N_form hN hne)
  obtain ⟨cl, hcl, hfk, hcc, _⟩ := Kd.N_elem hN z62 ((l.length : Int) - 1) hi0 hi1
  rw [htn] at hfk hcc
  have hcl3 : cl.length = 3 := hcl
  have hlv : Lvl w1 g ((l.length - 1) * 3) (fun k => P k ∨ w.heap.size ≤ k) (l.getD (l.length - 1) z62) cells := by
    refine ⟨hb, cl, fun j hj => ?_, hfk⟩
    have h1 := hcc j (cl[j]'(by omega)) (List.getElem?_eq_getElem (by omega))
    rw [← blk_cell hb, List.getElem?_eq_getElem (by omega)]
    exact h1
  refine (HF.out w1 g _ cells hB1 hg hlv).mono ?_
  rintro e w2 ⟨rfl, cs', hlv2, hnear, hK, hZ⟩
  have HN := Aside0.mk (N62_upd hN hb (by omega) hK hnear hlv2 (fun k hk => hk))
  have HB := Aside0.mk (below_of_keep hB1 hK hZ hg)
  clear hcc hfk hlv hlv2 hnear hK hZ hN hB1 hb
  go_wp2
  go_ret
  refine ⟨_, rfl, ?_, HB.out⟩
  have := HN.out
  exact this

/-- How many levels and entries there are. -/
def tot (l : List S62) : Nat := l.length + (l.map fun x => x.f0.length + x.f1.length + x.f2.length).sum
theorem tot_len (l : List S62) : l.length ≤ tot l := Nat.le_add_right _ _
theorem sum_mem : ∀ {l : List Nat} {x : Nat}, x ∈ l → x ≤ l.sum
  | y :: l, x, h => by
    rw [List.sum_cons]
    rcases List.mem_cons.1 h with rfl | h
    · omega
    · have := sum_mem h; omega
theorem tot_mem {l : List S62} {x : S62} (h : x ∈ l) : l.length + (x.f0.length + x.f1.length + x.f2.length) ≤ tot l := by
  have h2 := sum_mem (List.mem_map_of_mem (f := fun x : S62 => x.f0.length + x.f1.length + x.f2.length) h)
  unfold tot
  exact Nat.add_le_add_left h2 _
theorem last_mem {l : List S62} (h : 0 < l.length) : l.getD (l.length - 1) z62 ∈ l := by
  rw [List.getD_eq_getElem?_getD, List.getElem?_eq_getElem (by omega)]
  exact List.getElem_mem _
/-- A change of the innermost level. -/
def onLast (l : List S62) (f : S62 → S62) : List S62 := if l.length = 0 then l else l.set (l.length - 1) (f (l.getD (l.length - 1) z62))

theorem last_nil (P : Nat → Prop) (A : Option Addr) (n c : Nat) (gf : Nat) (lb : Array Value) (w : World) (hr : Kd.F k62 w P A n []) :
    Calls Try.prog 36 #[.slice A n c, .func (.func gf) #[] lb] w fun e w' => e = .returned (.slice A n c) ∧ Drawn0 w w' := by
  obtain rfl : 0 = n := Kd.F_len hr
  go_enter Try.func36, Try.ntmps36
  go_wp2
  go_ret
  exact ⟨rfl, Drawn0.refl _⟩

/-- In the printed form: what the change of the innermost level leaves. -/
theorem last_v (P : Nat → Prop) (A : Option Addr) (c : Nat) (l : List S62) (gf : Nat) (lb : Array Value) (eg : ∀ args w, (callFunc gf args).run Try.prog w = .ok (.enter gf args) w) (f : S62 → S62) (w : World)
    (hr : Kd.F k62 w P A l.length l) (hc : l.length ≤ c) (hlim : l.length ≤ LIM)
    (hf : 0 < l.length → ∀ W g off cs, Below w.heap.size w W → w.heap.size ≤ g → Lvl W g off (fun k => P k ∨ w.heap.size ≤ k) (l.getD (l.length - 1) z62) cs → Calls Try.prog gf (#[.pointer (some ⟨g, off, none⟩)] ++ lb) W fun e w' => e = .returned (.tuple #[]) ∧ LvlTo W g off (fun k => P k ∨ w.heap.size ≤ k) cs (f (l.getD (l.length - 1) z62)) w') :
    Calls Try.prog 36 #[.slice A l.length c, .func (.func gf) #[] lb] w fun e w' => ∃ v : Value, e = .returned v ∧ Kd.V k62 62 w' w.heap.size (fun k => P k ∨ w.heap.size ≤ k) v (onLast l f) ∧ Below w.heap.size w w' := by
  unfold onLast
  split
  · next h =>
    have : l = [] := List.eq_nil_of_length_eq_zero h
    subst this
    refine (last_nil P A _ c gf lb w hr).mono ?_
    rintro e w' ⟨rfl, hd⟩
    exact ⟨_, rfl, Kd.V_below (Kd.V_mono (Kd.V_mk hc hr) (fun k hk => .inl hk)) hd.below, hd.below⟩
  · next h =>
    refine (last_walk P A _ c l gf lb eg (f (l.getD (l.length - 1) z62)) w hr hc hlim (by omega) (hf (by omega))).mono ?_
    rintro e w' ⟨v, rfl, hN, hB⟩
    exact ⟨v, rfl, Kd.N_V hN, hB⟩

theorem lvl_below {W W1 : World} {g off : Nat} {ok : Nat → Prop} {x : S62} {cs : Array Value} (h : Lvl W g off ok x cs) (hb : Below W.heap.size W W1) : Lvl W1 g off ok x cs := by
  obtain ⟨h1, c, hc, hf⟩ := h
  exact ⟨blk_below h1 hb, c, hc, Kd.FK_below hf hb⟩
theorem LvlTo.of_below {W W1 w' : World} {g off : Nat} {ok : Nat → Prop} {cs : Array Value} {y : S62} (hb : Below W.heap.size W W1) (h : LvlTo W1 g off ok cs y w') : LvlTo W g off ok cs y w' :=
  LvlTo.trans (Near.refl _ _) (KeepBut.of_below hb g none) (hb.mono (Nat.zero_le _)) h
/-- A slice of one element, freshly laid. -/
theorem F_new30 (W : World) (ok : Nat → Prop) (s : S30) (hok : ok W.heap.size) : Kd.F k30 (W.alloc (.cells #[.int .i64 s.f0, .int .i64 s.f1, .int .i64 s.f2] 30)) ok (some ⟨W.heap.size, 0, none⟩) 1 [s] := fun W' hW => by
  have hb : W'.heap[W.heap.size]? = some (.cells #[.int .i64 s.f0, .int .i64 s.f1, .int .i64 s.f2] 30 (0, 0)) := (hW _ hok (by simp)).trans (heap_alloc_new W _)
  refine ⟨rfl, by omega, fun _ => ⟨_, rfl, fun j p hj => ?_⟩⟩
  rcases j with _ | j
  · obtain rfl : s = p := by simpa using hj
    refine ⟨[.int .i64 s.f0, .int .i64 s.f1, .int .i64 s.f2], rfl, k30_mk _ _, fun i u hi => ?_⟩
    rw [Addr.add_lit, blk_cell hb]
    show #[Value.int .i64 s.f0, .int .i64 s.f1, .int .i64 s.f2][0 + (0 * 3 + i)]? = _
    rw [Nat.zero_mul, Nat.zero_add, Nat.zero_add]
    simpa using hi
  · simp at hj
set_option maxHeartbeats 8000000 in
set_option maxRecDepth 100000 in
theorem readC (W : World) (g off : Nat) (ok : Nat → Prop) (x : S62) (cs : Array Value) (b : Nat) (s : S30) (h : Lvl W g off ok x cs)
    (hc0 : W.cell? ⟨b, 0, none⟩ = some (.int .i64 s.f0)) (hc1 : W.cell? ⟨b, 1, none⟩ = some (.int .i64 s.f1)) (hc2 : W.cell? ⟨b, 2, none⟩ = some (.int .i64 s.f2)) (hl : x.f0.length + 1 ≤ LIM) (hok : ∀ k, W.heap.size ≤ k → ok k) :
    Calls Try.prog 37 (#[.pointer (some ⟨g, off, none⟩)] ++ #[.pointer (some ⟨b, 0, none⟩)]) W fun e w' => e = .returned (.tuple #[]) ∧ LvlTo W g off ok cs { x with f0 := readL x.f0 [s] } w' := by
  have hgl := blk_lt h.1
  have hB : Below W.heap.size W (W.alloc (.cells #[.int .i64 s.f0, .int .i64 s.f1, .int .i64 s.f2] 30)) := below_alloc (Below.refl _ _) _
  have HC := Aside0.mk (read_lvl _ g off ok x cs _ 1 1 [s] (lvl_below h hB) (F_new30 W (fun k => ok k ∧ k ≠ g) s ⟨hok _ (Nat.le_refl _), by omega⟩) hl (fun k hk => hok k (by simp at hk; omega)))
  have HB := Aside0.mk hB
  clear h hB
  show Calls Try.prog 37 #[.pointer (some ⟨g, off, none⟩), .pointer (some ⟨b, 0, none⟩)] W _
  go_enter Try.func37, Try.ntmps37
  go_wp2_with (go_at_call 38; refine HC.out.mono ?_; rintro e w' ⟨rfl, hq⟩)
  exact bodyPost_end (results_none rfl _ _ _) rfl ⟨rfl, LvlTo.of_below HB.out hq⟩

/-! ### nest.Read: function 13 -/
def nRead.f (l : List S62) (a b c : Int) : Option (List S62) := if tot l < LIM then some (onLast l (fun x => { x with f0 := readL x.f0 [⟨a, b, c⟩] })) else none
set_option maxHeartbeats 8000000 in
set_option maxRecDepth 100000 in
theorem nRead.calls (P0 : Nat → Prop) (A0 : Option Addr) (c0 : Nat) (l0 : List S62) (a1_0 a1_1 a1_2 : Int) (r : List S62) (w : World) (hs0 : Kd.V k62 62 w w.heap.size (fun k_ => P0 k_) (.slice A0 l0.length c0) l0) (h : nRead.f l0 a1_0 a1_1 a1_2 = some r) :
    Calls Try.prog 13 #[.slice A0 l0.length c0, .agg #[.int .i64 a1_0, .int .i64 a1_1, .int .i64 a1_2]] w fun e w' => ∃ v0_ : Value, e = .returned v0_ ∧ Kd.V k62 62 w' w.heap.size (fun k_ => P0 k_ ∨ w.heap.size ≤ k_) v0_ r ∧ Below w.heap.size w w' := by
  unfold nRead.f at h
  split at h
  case isFalse => cases h
  case isTrue hT =>
  obtain rfl := Option.some.inj h
  clear h
  obtain ⟨hn, hc, hF⟩ := Kd.V_at hs0
  have eg37 := enters_of Try.func37 (by kernel_rfl) rfl
  have hll := tot_len l0
  have hB : Below w.heap.size w (w.alloc (.cells #[.int .i64 a1_0, .int .i64 a1_1, .int .i64 a1_2] 30)) := below_alloc (Below.refl _ _) _
  have HC := Aside0.mk (last_v P0 A0 c0 l0 37 #[.pointer (some ⟨w.heap.size, 0, none⟩)] eg37 (fun x => { x with f0 := readL x.f0 [⟨a1_0, a1_1, a1_2⟩] }) (w.alloc (.cells #[.int .i64 a1_0, .int .i64 a1_1, .int .i64 a1_2] 30)) (Kd.F_below hF hB) hc (by omega) (fun hne W g off cs hW hg hL => by
    have hm := tot_mem (last_mem hne)
    have hlt : w.heap.size < (w.alloc (.cells #[.int .i64 a1_0, .int .i64 a1_1, .int .i64 a1_2] 30)).heap.size := by simp
    refine readC W g off _ _ cs w.heap.size ⟨a1_0, a1_1, a1_2⟩ hL ?_ ?_ ?_ (by omega) (fun k hk => .inr (Nat.le_trans hW.size hk))
    · exact (hW.cell (p := ⟨w.heap.size, 0, none⟩) hlt).trans (by simp)
    · exact (hW.cell (p := ⟨w.heap.size, 1, none⟩) hlt).trans (by simp)
    · exact (hW.cell (p := ⟨w.heap.size, 2, none⟩) hlt).trans (by simp)))
  have HB := Aside0.mk hB
  have hsz : w.heap.size ≤ (w.alloc (.cells #[.int .i64 a1_0, .int .i64 a1_1, .int .i64 a1_2] 30)).heap.size := by simp
  clear hF hs0 hB
  go_enter Try.func13, Try.ntmps13
  go_wp2_with (go_at_call 36; refine HC.out.mono ?_; rintro e w' ⟨v, rfl, hV, hb⟩; obtain ⟨A9, c9, rfl⟩ := Kd.V_slice hV; have H1 := Aside0.mk hV; have H2 := Aside0.mk hb; clear hV hb)
  go_ret
  exact ⟨_, rfl, Kd.V_mono (Kd.V_lower H1.out hsz) (fun k hk => hk.imp id (fun h => Nat.le_trans hsz h)), HB.out.trans (H2.out.mono hsz)⟩
end Go.Proofs.Ytfojpobblebigaa.P
namespace Go.Proofs.Ytfojpobblebigaa.P
open Go.RowKit Go.Proofs.YtfojpobblebigaaW.PrintWords Go.Proofs.YtfojpobblebigaaW.PrintLast Go.Proofs.YtfojpobblebigaaW.PrintMore
set_option linter.unusedVariables false
set_option linter.unusedSimpArgs false

/-- A slice of one element, freshly laid. -/
theorem F_new33 (W : World) (ok : Nat → Prop) (s : S33) (hok : ok W.heap.size) : Kd.F k33 (W.alloc (.cells #[.int .i64 s.f0, .int .i64 s.f1] 33)) ok (some ⟨W.heap.size, 0, none⟩) 1 [s] := fun W' hW => by
  have hb : W'.heap[W.heap.size]? = some (.cells #[.int .i64 s.f0, .int .i64 s.f1] 33 (0, 0)) := (hW _ hok (by simp)).trans (heap_alloc_new W _)
  refine ⟨rfl, by omega, fun _ => ⟨_, rfl, fun j p hj => ?_⟩⟩
  rcases j with _ | j
  · obtain rfl : s = p := by simpa using hj
    refine ⟨[.int .i64 s.f0, .int .i64 s.f1], rfl, k33_mk _ _, fun i u hi => ?_⟩
    rw [Addr.add_lit, blk_cell hb]
    show #[Value.int .i64 s.f0, .int .i64 s.f1][0 + (0 * 2 + i)]? = _
    rw [Nat.zero_mul, Nat.zero_add, Nat.zero_add]
    simpa using hi
  · simp at hj
set_option maxHeartbeats 8000000 in
set_option maxRecDepth 100000 in
theorem writeC (W : World) (g off : Nat) (ok : Nat → Prop) (x : S62) (cs : Array Value) (b : Nat) (s : S33) (h : Lvl W g off ok x cs)
    (hc0 : W.cell? ⟨b, 0, none⟩ = some (.int .i64 s.f0)) (hc1 : W.cell? ⟨b, 1, none⟩ = some (.int .i64 s.f1)) (hl : x.f1.length + 1 ≤ LIM) (hok : ∀ k, W.heap.size ≤ k → ok k) :
    Calls Try.prog 39 (#[.pointer (some ⟨g, off, none⟩)] ++ #[.pointer (some ⟨b, 0, none⟩)]) W fun e w' => e = .returned (.tuple #[]) ∧ LvlTo W g off ok cs { x with f1 := writeL x.f1 [s] } w' := by
  have hgl := blk_lt h.1
  have hB : Below W.heap.size W (W.alloc (.cells #[.int .i64 s.f0, .int .i64 s.f1] 33)) := below_alloc (Below.refl _ _) _
  have HC := Aside0.mk (write_lvl _ g off ok x cs _ 1 1 [s] (lvl_below h hB) (F_new33 W (fun k => ok k ∧ k ≠ g) s ⟨hok _ (Nat.le_refl _), by omega⟩) hl (fun k hk => hok k (by simp at hk; omega)))
  have HB := Aside0.mk hB
  clear h hB
  show Calls Try.prog 39 #[.pointer (some ⟨g, off, none⟩), .pointer (some ⟨b, 0, none⟩)] W _
  go_enter Try.func39, Try.ntmps39
  go_wp2_with (go_at_call 40; refine HC.out.mono ?_; rintro e w' ⟨rfl, hq⟩)
  exact bodyPost_end (results_none rfl _ _ _) rfl ⟨rfl, LvlTo.of_below HB.out hq⟩

/-! ### nest.Put: function 14 -/
def nPut.f (l : List S62) (a b : Int) : Option (List S62) := if tot l < LIM then some (onLast l (fun x => { x with f1 := writeL x.f1 [⟨a, b⟩] })) else none
set_option maxHeartbeats 8000000 in
set_option maxRecDepth 100000 in
theorem nPut.calls (P0 : Nat → Prop) (A0 : Option Addr) (c0 : Nat) (l0 : List S62) (a1_0 a1_1 : Int) (r : List S62) (w : World) (hs0 : Kd.V k62 62 w w.heap.size (fun k_ => P0 k_) (.slice A0 l0.length c0) l0) (h : nPut.f l0 a1_0 a1_1 = some r) :
    Calls Try.prog 14 #[.slice A0 l0.length c0, .agg #[.int .i64 a1_0, .int .i64 a1_1]] w fun e w' => ∃ v0_ : Value, e = .returned v0_ ∧ Kd.V k62 62 w' w.heap.size (fun k_ => P0 k_ ∨ w.heap.size ≤ k_) v0_ r ∧ Below w.heap.size w w' := by
  unfold nPut.f at h
  split at h
  case isFalse => cases h
  case isTrue hT =>
  obtain rfl := Option.some.inj h
  clear h
  obtain ⟨hn, hc, hF⟩ := Kd.V_at hs0
  have eg39 := enters_of Try.func39 (by kernel_rfl) rfl
  have hll := tot_len l0
  have hB : Below w.heap.size w (w.alloc (.cells #[.int .i64 a1_0, .int .i64 a1_1] 33)) := below_alloc (Below.refl _ _) _
  have HC := Aside0.mk (last_v P0 A0 c0 l0 39 #[.pointer (some ⟨w.heap.size, 0, none⟩)] eg39 (fun x => { x with f1 := writeL x.f1 [⟨a1_0, a1_1⟩] }) (w.alloc (.cells #[.int .i64 a1_0, .int .i64 a1_1] 33)) (Kd.F_below hF hB) hc (by omega) (fun hne W g off cs hW hg hL => by
    have hm := tot_mem (last_mem hne)
    have hlt : w.heap.size < (w.alloc (.cells #[.int .i64 a1_0, .int .i64 a1_1] 33)).heap.size := by simp
    refine writeC W g off _ _ cs w.heap.size ⟨a1_0, a1_1⟩ hL ?_ ?_ (by omega) (fun k hk => .inr (Nat.le_trans hW.size hk))
    · exact (hW.cell (p := ⟨w.heap.size, 0, none⟩) hlt).trans (by simp)
    · exact (hW.cell (p := ⟨w.heap.size, 1, none⟩) hlt).trans (by simp)))
  have HB := Aside0.mk hB
  have hsz : w.heap.size ≤ (w.alloc (.cells #[.int .i64 a1_0, .int .i64 a1_1] 33)).heap.size := by simp
  clear hF hs0 hB
  go_enter Try.func14, Try.ntmps14
  go_wp2_with (go_at_call 36; refine HC.out.mono ?_; rintro e w' ⟨v, rfl, hV, hb⟩; obtain ⟨A9, c9, rfl⟩ := Kd.V_slice hV; have H1 := Aside0.mk hV; have H2 := Aside0.mk hb; clear hV hb)
  go_ret
  exact ⟨_, rfl, Kd.V_mono (Kd.V_lower H1.out hsz) (fun k hk => hk.imp id (fun h => Nat.le_trans hsz h)), HB.out.trans (H2.out.mono hsz)⟩

theorem F_new50 (W : World) (ok : Nat → Prop) (u : S50) (A3 : Option Addr) (c3 : Nat) (l3 : u.f0.f3.length ≤ c3) (hf : Kd.F k48 W ok A3 u.f0.f3.length u.f0.f3) (hok : ok W.heap.size) : Kd.F k50 (W.alloc (.cells #[.int .i64 u.f0.f0, .int .i64 u.f0.f1, .int .i64 u.f0.f2, .slice A3 u.f0.f3.length c3, .int .i64 u.f1] 50)) ok (some ⟨W.heap.size, 0, none⟩) 1 [u] := fun W' hW => by
  have hb : W'.heap[W.heap.size]? = some (.cells #[.int .i64 u.f0.f0, .int .i64 u.f0.f1, .int .i64 u.f0.f2, .slice A3 u.f0.f3.length c3, .int .i64 u.f1] 50 (0, 0)) := (hW _ hok (by simp)).trans (heap_alloc_new W _)
  have h3 := hf W' (fun k hk hlt => (hW k hk (by simp; omega)).trans (Below.heap_alloc W _ k hlt))
  refine ⟨rfl, by omega, fun _ => ⟨_, rfl, fun j p hj => ?_⟩⟩
  rcases j with _ | j
  · obtain rfl : u = p := by simpa using hj
    refine ⟨[.int .i64 u.f0.f0, .int .i64 u.f0.f1, .int .i64 u.f0.f2, .slice A3 u.f0.f3.length c3, .int .i64 u.f1], rfl, k50_mk _ _ l3 h3, fun i v hi => ?_⟩
    rw [Addr.add_lit, blk_cell hb]
    show (#[.int .i64 u.f0.f0, .int .i64 u.f0.f1, .int .i64 u.f0.f2, .slice A3 u.f0.f3.length c3, .int .i64 u.f1] : Array Value)[0 + (0 * 5 + i)]? = _
    rw [Nat.zero_mul, Nat.zero_add, Nat.zero_add]
    simpa using hi
  · simp at hj
set_option maxHeartbeats 8000000 in
set_option maxRecDepth 100000 in
theorem keepC (W : World) (g off : Nat) (ok : Nat → Prop) (x : S62) (cs : Array Value) (b : Nat) (u : S50) (A3 : Option Addr) (c3 : Nat) (h : Lvl W g off ok x cs) (l3 : u.f0.f3.length ≤ c3) (hf : Kd.F k48 W (fun k => ok k ∧ k ≠ g) A3 u.f0.f3.length u.f0.f3)
    (hc0 : W.cell? ⟨b, 0, none⟩ = some (.int .i64 u.f0.f0)) (hc1 : W.cell? ⟨b, 1, none⟩ = some (.int .i64 u.f0.f1)) (hc2 : W.cell? ⟨b, 2, none⟩ = some (.int .i64 u.f0.f2)) (hc3 : W.cell? ⟨b, 3, none⟩ = some (.slice A3 u.f0.f3.length c3)) (hc4 : W.cell? ⟨b, 4, none⟩ = some (.int .i64 u.f1)) (hl : x.f2.length + 1 ≤ LIM) (hok : ∀ k, W.heap.size ≤ k → ok k) :
    Calls Try.prog 50 (#[.pointer (some ⟨g, off, none⟩)] ++ #[.pointer (some ⟨b, 0, none⟩)]) W fun e w' => e = .returned (.tuple #[]) ∧ LvlTo W g off ok cs { x with f2 := x.f2 ++ [u] } w' := by
  have hgl := blk_lt h.1
  have hB : Below W.heap.size W (W.alloc (.cells #[.int .i64 u.f0.f0, .int .i64 u.f0.f1, .int .i64 u.f0.f2, .slice A3 u.f0.f3.length c3, .int .i64 u.f1] 50)) := below_alloc (Below.refl _ _) _
  have HC := Aside0.mk (keep_lvl _ g off ok x cs _ 1 1 [u] (lvl_below h hB) (F_new50 W (fun k => ok k ∧ k ≠ g) u A3 c3 l3 hf ⟨hok _ (Nat.le_refl _), by omega⟩) hl (fun k hk => hok k (by simp at hk; omega)))
  have HB := Aside0.mk hB
  clear h hB hf
  show Calls Try.prog 50 #[.pointer (some ⟨g, off, none⟩), .pointer (some ⟨b, 0, none⟩)] W _
  go_enter Try.func50, Try.ntmps50
  go_wp2_with (go_at_call 51; refine HC.out.mono ?_; rintro e w' ⟨rfl, hq⟩)
  exact bodyPost_end (results_none rfl _ _ _) rfl ⟨rfl, LvlTo.of_below HB.out hq⟩

/-! ### nest.Keep: function 23 -/
def nKeep.f (l : List S62) (a b c : Int) (d : List S48) (e : Int) : Option (List S62) := if tot l < LIM then some (onLast l (fun x => { x with f2 := x.f2 ++ [⟨⟨a, b, c, d⟩, e⟩] })) else none
set_option maxHeartbeats 8000000 in
set_option maxRecDepth 100000 in
theorem nKeep.calls (P0 : Nat → Prop) (A0 : Option Addr) (c0 : Nat) (l0 : List S62) (a1_0 a1_1 a1_2 : Int) (P1 : Nat → Prop) (A1_3 : Option Addr) (c1_3 : Nat) (l1_3 : List S48) (a1_4 : Int) (r : List S62) (w : World) (hs0 : Kd.V k62 62 w w.heap.size (fun k_ => P0 k_) (.slice A0 l0.length c0) l0) (hs1 : Kd.V k48 48 w w.heap.size (fun k_ => P1 k_) (.slice A1_3 l1_3.length c1_3) l1_3) (h : nKeep.f l0 a1_0 a1_1 a1_2 l1_3 a1_4 = some r) :
    Calls Try.prog 23 #[.slice A0 l0.length c0, .agg #[.int .i64 a1_0, .int .i64 a1_1, .int .i64 a1_2, .slice A1_3 l1_3.length c1_3, .int .i64 a1_4]] w fun e w' => ∃ v0_ : Value, e = .returned v0_ ∧ Kd.V k62 62 w' w.heap.size (fun k_ => (P0 k_ ∨ P1 k_) ∨ w.heap.size ≤ k_) v0_ r ∧ Below w.heap.size w w' := by
  unfold nKeep.f at h
  split at h
  case isFalse => cases h
  case isTrue hT =>
  obtain rfl := Option.some.inj h
  clear h
  obtain ⟨hn, hc, hF⟩ := Kd.V_at hs0
  obtain ⟨hn3, hc3, hF3⟩ := Kd.V_at hs1
  have eg50 := enters_of Try.func50 (by kernel_rfl) rfl
  have hll := tot_len l0
  have hB : Below w.heap.size w (w.alloc (.cells #[.int .i64 a1_0, .int .i64 a1_1, .int .i64 a1_2, .slice A1_3 l1_3.length c1_3, .int .i64 a1_4] 50)) := below_alloc (Below.refl _ _) _
  have HC := Aside0.mk (last_v (fun k => P0 k ∨ (P1 k ∧ k < w.heap.size)) A0 c0 l0 50 #[.pointer (some ⟨w.heap.size, 0, none⟩)] eg50 (fun x => { x with f2 := x.f2 ++ [⟨⟨a1_0, a1_1, a1_2, l1_3⟩, a1_4⟩] }) (w.alloc (.cells #[.int .i64 a1_0, .int .i64 a1_1, .int .i64 a1_2, .slice A1_3 l1_3.length c1_3, .int .i64 a1_4] 50)) (Kd.F_mono (Kd.F_below hF hB) (fun k hk => .inl hk)) hc (by omega) (fun hne W g off cs hW hg hL => by
    have hm := tot_mem (last_mem hne)
    have hlt : w.heap.size < (w.alloc (.cells #[.int .i64 a1_0, .int .i64 a1_1, .int .i64 a1_2, .slice A1_3 l1_3.length c1_3, .int .i64 a1_4] 50)).heap.size := by simp
    have hf3 := Kd.F_mono (Kd.F_below (Kd.F_old hF3 hB) hW) (ok' := fun k => ((P0 k ∨ (P1 k ∧ k < w.heap.size)) ∨ (w.alloc (.cells #[.int .i64 a1_0, .int .i64 a1_1, .int .i64 a1_2, .slice A1_3 l1_3.length c1_3, .int .i64 a1_4] 50)).heap.size ≤ k) ∧ k ≠ g) (fun k hk => ⟨.inl (.inr hk), by have := hk.2; omega⟩)
    refine keepC W g off _ _ cs w.heap.size ⟨⟨a1_0, a1_1, a1_2, l1_3⟩, a1_4⟩ A1_3 c1_3 hL hc3 hf3 ?_ ?_ ?_ ?_ ?_ (by omega) (fun k hk => .inr (Nat.le_trans hW.size hk))
    · exact (hW.cell (p := ⟨w.heap.size, 0, none⟩) hlt).trans (by simp)
    · exact (hW.cell (p := ⟨w.heap.size, 1, none⟩) hlt).trans (by simp)
    · exact (hW.cell (p := ⟨w.heap.size, 2, none⟩) hlt).trans (by simp)
    · exact (hW.cell (p := ⟨w.heap.size, 3, none⟩) hlt).trans (by simp)
    · exact (hW.cell (p := ⟨w.heap.size, 4, none⟩) hlt).trans (by simp)))
  have HB := Aside0.mk hB
  have hsz : w.heap.size ≤ (w.alloc (.cells #[.int .i64 a1_0, .int .i64 a1_1, .int .i64 a1_2, .slice A1_3 l1_3.length c1_3, .int .i64 a1_4] 50)).heap.size := by simp
  clear hF hs0 hB hF3 hs1
  go_enter Try.func23, Try.ntmps23
  go_wp2_with (go_at_call 36; refine HC.out.mono ?_; rintro e w' ⟨v, rfl, hV, hb⟩; obtain ⟨A9, c9, rfl⟩ := Kd.V_slice hV; have H1 := Aside0.mk hV; have H2 := Aside0.mk hb; clear hV hb)
  go_ret
  exact ⟨_, rfl, Kd.V_mono (Kd.V_lower H1.out hsz) (fun k hk => hk.imp (fun h => h.imp id (fun h => h.1)) (fun h => Nat.le_trans hsz h)), HB.out.trans (H2.out.mono hsz)⟩
end Go.Proofs.Ytfojpobblebigaa.P
namespace Go.Proofs.Ytfojpobblebigaa.P
open Go.RowKit Go.Proofs.YtfojpobblebigaaW.PrintWords Go.Proofs.YtfojpobblebigaaW.PrintLast Go.Proofs.YtfojpobblebigaaW.PrintMore
set_option linter.unusedVariables false
set_option linter.unusedSimpArgs false

/-! ### nest.Begin: function 12 -/
def nBegin.f (l : List S62) : Option (List S62) := if tot l < LIM then some (l ++ [z62]) else none
theorem z62_F (W : World) (ok : Nat → Prop) : Kd.FK k62 W ok z62 [.slice none 0 0, .slice none 0 0, .slice none 0 0] :=
  k62_mkF W ok z62 (A0 := none) (c0 := 0) (Nat.le_refl _) (Kd.F_nil _ _ _) (A1 := none) (c1 := 0) (Nat.le_refl _) (Kd.F_nil _ _ _) (A2 := none) (c2 := 0) (Nat.le_refl _) (Kd.F_nil _ _ _)
set_option maxHeartbeats 8000000 in
set_option maxRecDepth 100000 in
theorem nBegin.calls (P0 : Nat → Prop) (A0 : Option Addr) (c0 : Nat) (l0 : List S62) (r : List S62) (w : World) (hs0 : Kd.V k62 62 w w.heap.size (fun k_ => P0 k_) (.slice A0 l0.length c0) l0) (h : nBegin.f l0 = some r) :
    Calls Try.prog 12 #[.slice A0 l0.length c0] w fun e w' => ∃ v0_ : Value, e = .returned v0_ ∧ Kd.V k62 62 w' w.heap.size (fun k_ => P0 k_ ∨ w.heap.size ≤ k_) v0_ r ∧ Below w.heap.size w w' := by
  unfold nBegin.f at h
  split at h
  case isFalse => cases h
  case isTrue hT =>
  obtain rfl := Option.some.inj h
  clear h
  obtain ⟨hn, hc, hF⟩ := Kd.V_at hs0
  have hll := tot_len l0
  have HL := Aside0.mk (show l0.length < LIM by omega)
  have HCL := Aside0.mk (cloneL P0 A0 l0.length c0 l0 w hF hc (by omega))
  clear hF hs0
  go_enter Try.func12, Try.ntmps12
  go_wp2_with (first | (go_at_call 35; refine HCL.out.mono ?_; rintro e w1 ⟨v, rfl, hN, hB1⟩; obtain ⟨A1, c1, rfl⟩ := Kd.N_slice hN; have HN := Aside0.mk hN; have HB1 := Aside0.mk hB1; clear hN hB1) | ((with_reducible refine gate_builtin (b := .append) (xs := #[.tmp 4, .tmp 6]) rfl ?_); at_builtin; refine Kd.N_append k62 (w0 := w) w.heap.size rfl (.tmp 4) (.tmp 6) 22 62 _ 72 rfl Try.underlying22 info62 rfl (by decide) (by decide) (.slice A1 l0.length c1) l0 z62 [.slice none 0 0, .slice none 0 0, .slice none 0 0] (fun k => P0 k ∨ w.heap.size ≤ k) (fun _ => False) rfl rfl (z62_F _ _) (fun _ hk => hk.elim) (fun k hk => .inr (Nat.le_trans HB1.out.size hk)) HN.out HB1.out HB1.out.size (by have h9 := HL.out; unfold LIM at h9; omega) ?_; intro v2 w2 hN2 hB2 hG2 hat; obtain ⟨A2, c2, rfl⟩ := Kd.N_slice hN2; have H1 := Aside0.mk hN2; have H2 := Aside0.mk hB2; clear hN2 hB2 hG2 hat))
  go_ret
  have h1 := Kd.N_V (base' := w.heap.size) H1.out
  have hll2 : (l0 ++ [z62]).length = l0.length + 1 := by simp
  rw [hll2] at h1
  exact ⟨_, rfl, h1, H2.out⟩
/-- Merging one level into another. -/
def joinAM (x z : S62) : S62 := { x with f0 := readL x.f0 z.f0, f1 := writeL x.f1 z.f1, f2 := x.f2 ++ z.f2 }
set_option maxHeartbeats 8000000 in
set_option maxRecDepth 100000 in
theorem joinA (W : World) (g off : Nat) (ok : Nat → Prop) (x z : S62) (cs : Array Value) (B0 B1 B2 : Option Addr) (d0 d1 d2 : Nat) (h : Lvl W g off ok x cs)
    (m0 : Kd.F k30 W (fun k => ok k ∧ k ≠ g) B0 z.f0.length z.f0) (m1 : Kd.F k33 W (fun k => ok k ∧ k ≠ g) B1 z.f1.length z.f1) (m2 : Kd.F k50 W (fun k => ok k ∧ k ≠ g) B2 z.f2.length z.f2)
    (l0 : x.f0.length + z.f0.length ≤ LIM) (l1 : x.f1.length + z.f1.length ≤ LIM) (l2 : x.f2.length + z.f2.length ≤ LIM) (hok : ∀ k, W.heap.size ≤ k → ok k) :
    Calls Try.prog 53 #[.agg #[(.func (.func 38) #[] #[]), (.func (.func 40) #[] #[]), (.func (.func 51) #[] #[])], .pointer (some ⟨g, off, none⟩), .agg #[.slice B0 z.f0.length d0, .slice B1 z.f1.length d1, .slice B2 z.f2.length d2]] W fun e w' => e = .returned (.tuple #[]) ∧ LvlTo W g off ok cs (joinAM x z) w' := by
  have hgl := blk_lt h.1
  have eg38 := enters_of Try.func38 (by kernel_rfl) rfl
  have eg40 := enters_of Try.func40 (by kernel_rfl) rfl
  have eg51 := enters_of Try.func51 (by kernel_rfl) rfl
  obtain ⟨W1, hW1⟩ : ∃ W1, W1 = ((W.alloc (.cells #[(.func (.func 38) #[] #[]), (.func (.func 40) #[] #[]), (.func (.func 51) #[] #[])] 73)).alloc (.cells #[.slice B0 z.f0.length d0, .slice B1 z.f1.length d1, .slice B2 z.f2.length d2] 62)) := ⟨_, rfl⟩
  have HW1 : Below W.heap.size W W1 := by rw [hW1]; exact below_alloc (below_alloc (Below.refl _ _) _) _
  obtain ⟨T, hT⟩ : ∃ T, T = W.heap.size := ⟨_, rfl⟩
  have t0 : W1.heap[T]? = some (.cells #[(.func (.func 38) #[] #[]), (.func (.func 40) #[] #[]), (.func (.func 51) #[] #[])] 73 (0, 0)) := by rw [hW1, hT]; exact blk_alloc (heap_alloc_new _ _) _
  have s0 : W1.heap[T + 1]? = some (.cells #[.slice B0 z.f0.length d0, .slice B1 z.f1.length d1, .slice B2 z.f2.length d2] 62 (0, 0)) := by rw [hW1, hT]; exact (congrArg (fun k => (World.heap _)[k]?) (by simp)).trans (heap_alloc_new (W.alloc _) _)
  have hTg : T ≠ g := by omega
  have hSg : T + 1 ≠ g := by omega
  have hok1 : ∀ k, W1.heap.size ≤ k → ok k := fun k hk => hok k (Nat.le_trans HW1.size hk)
  have HC0 := Aside0.mk (read_lvl W1 g off ok x cs B0 z.f0.length d0 z.f0 (lvl_below h HW1) (Kd.F_below m0 HW1) l0 hok1)
  have HM1 := Aside0.mk (Kd.F_below m1 HW1)
  have HM2 := Aside0.mk (Kd.F_below m2 HW1)
  have HB := Aside0.mk HW1
  have HBT := Aside0.mk (And.intro t0 s0)
  have a0 := (blk_cell t0 0).trans rfl
  have a1 := (blk_cell t0 1).trans rfl
  have a2 := (blk_cell t0 2).trans rfl
  have b0 := (blk_cell s0 0).trans rfl
  have b1 := (blk_cell s0 1).trans rfl
  have b2 := (blk_cell s0 2).trans rfl
  have HWE := Aside0.mk hW1
  have HTE := Aside0.mk hT
  have HOK := Aside0.mk hok1
  clear h m0 m1 m2 hok hok1 t0 s0 hW1 hT HW1 hgl
  have hq1 : ∀ w, Sem.run Try.prog (binOp BinOp.neq 69 (.func (.func 40) #[] #[]) Value.nilFunc) w = .ok (.bool true) w := fun w => by kernel_rfl
  have hq2 : ∀ w, Sem.run Try.prog (binOp BinOp.neq 71 (.func (.func 51) #[] #[]) Value.nilFunc) w = .ok (.bool true) w := fun w => by kernel_rfl
  go_enter Try.func53, Try.ntmps53
  go_wp2_with fail
  rw [← HWE.out, ← HTE.out]
  refine HC0.out.mono ?_
  clear HC0 a0 a1 a2 b0 b1 b2
  rintro e w2 ⟨rfl, cs2, hL2, hn2, hK2, hZ2⟩
  have HBT2 := Aside0.mk (And.intro (hK2.blk HBT.out.1 hTg (by simp)) (hK2.blk HBT.out.2 hSg (by simp)))
  have a0 := (blk_cell HBT2.out.1 0).trans rfl
  have a1 := (blk_cell HBT2.out.1 1).trans rfl
  have a2 := (blk_cell HBT2.out.1 2).trans rfl
  have b0 := (blk_cell HBT2.out.2 0).trans rfl
  have b1 := (blk_cell HBT2.out.2 1).trans rfl
  have b2 := (blk_cell HBT2.out.2 2).trans rfl
  have HH2 := Aside0.mk (And.intro hL2 (And.intro hn2 (And.intro hK2 hZ2)))
  have HA2 := Aside0.mk (And.intro hn2 (And.intro hK2 hZ2))
  have HC1 := Aside0.mk (write_lvl w2 g off ok { x with f0 := readL x.f0 z.f0 } cs2 B1 z.f1.length d1 z.f1 hL2 (Kd.F_keep HM1.out HA2.out.2.1 (fun k hk => hk.2)) l1 (fun k hk => HOK.out k (Nat.le_trans HA2.out.2.1.1 hk)))
  clear hL2 hn2 hK2 hZ2
  go_wp2_with fail
  refine HC1.out.mono ?_
  clear HC1 a0 a1 a2 b0 b1 b2
  rintro e w3 ⟨rfl, cs3, hL3, hn3, hK3, hZ3⟩
  have HBT3 := Aside0.mk (And.intro (hK3.blk HBT2.out.1 hTg (by simp)) (hK3.blk HBT2.out.2 hSg (by simp)))
  have a0 := (blk_cell HBT3.out.1 0).trans rfl
  have a1 := (blk_cell HBT3.out.1 1).trans rfl
  have a2 := (blk_cell HBT3.out.1 2).trans rfl
  have b0 := (blk_cell HBT3.out.2 0).trans rfl
  have b1 := (blk_cell HBT3.out.2 1).trans rfl
  have b2 := (blk_cell HBT3.out.2 2).trans rfl
  have HH3 := Aside0.mk (And.intro hL3 (And.intro hn3 (And.intro hK3 hZ3)))
  have HA3 := Aside0.mk (And.intro (HA2.out.1.trans hn3) (And.intro (HA2.out.2.1.trans hK3 (.inl rfl)) (HA2.out.2.2.trans hZ3)))
  have HC2 := Aside0.mk (keep_lvl w3 g off ok { x with f0 := readL x.f0 z.f0, f1 := writeL x.f1 z.f1 } cs3 B2 z.f2.length d2 z.f2 hL3 (Kd.F_keep HM2.out HA3.out.2.1 (fun k hk => hk.2)) l2 (fun k hk => HOK.out k (Nat.le_trans HA3.out.2.1.1 hk)))
  clear hL3 hn3 hK3 hZ3
  go_wp2_with fail
  refine HC2.out.mono ?_
  clear HC2 a0 a1 a2 b0 b1 b2
  rintro e w4 ⟨rfl, cs4, hL4, hn4, hK4, hZ4⟩
  have HBT4 := Aside0.mk (And.intro (hK4.blk HBT3.out.1 hTg (by simp)) (hK4.blk HBT3.out.2 hSg (by simp)))
  have a0 := (blk_cell HBT4.out.1 0).trans rfl
  have a1 := (blk_cell HBT4.out.1 1).trans rfl
  have a2 := (blk_cell HBT4.out.1 2).trans rfl
  have b0 := (blk_cell HBT4.out.2 0).trans rfl
  have b1 := (blk_cell HBT4.out.2 1).trans rfl
  have b2 := (blk_cell HBT4.out.2 2).trans rfl
  have HH4 := Aside0.mk (And.intro hL4 (And.intro hn4 (And.intro hK4 hZ4)))
  have HA4 := Aside0.mk (And.intro (HA3.out.1.trans hn4) (And.intro (HA3.out.2.1.trans hK4 (.inl rfl)) (HA3.out.2.2.trans hZ4)))
  clear hL4 hn4 hK4 hZ4
  go_wp2_with fail
  exact bodyPost_end (results_none rfl _ _ _) rfl ⟨rfl, LvlTo.of_below HB.out ⟨_, HH4.out.1, HA4.out.1, HA4.out.2.1, HA4.out.2.2⟩⟩
def joinRM (x z : S62) : S62 := { x with f0 := readL x.f0 z.f0 }
set_option maxHeartbeats 8000000 in
set_option maxRecDepth 100000 in
theorem joinR (W : World) (g off : Nat) (ok : Nat → Prop) (x z : S62) (cs : Array Value) (B0 B1 B2 : Option Addr) (d0 d1 d2 : Nat) (h : Lvl W g off ok x cs)
    (m0 : Kd.F k30 W (fun k => ok k ∧ k ≠ g) B0 z.f0.length z.f0) (m1 : Kd.F k33 W (fun k => ok k ∧ k ≠ g) B1 z.f1.length z.f1) (m2 : Kd.F k50 W (fun k => ok k ∧ k ≠ g) B2 z.f2.length z.f2)
    (l0 : x.f0.length + z.f0.length ≤ LIM) (l1 : x.f1.length + z.f1.length ≤ LIM) (l2 : x.f2.length + z.f2.length ≤ LIM) (hok : ∀ k, W.heap.size ≤ k → ok k) :
    Calls Try.prog 53 #[.agg #[(.func (.func 38) #[] #[]), .nilFunc, .nilFunc], .pointer (some ⟨g, off, none⟩), .agg #[.slice B0 z.f0.length d0, .slice B1 z.f1.length d1, .slice B2 z.f2.length d2]] W fun e w' => e = .returned (.tuple #[]) ∧ LvlTo W g off ok cs (joinRM x z) w' := by
  have hgl := blk_lt h.1
  have eg38 := enters_of Try.func38 (by kernel_rfl) rfl
  have eg40 := enters_of Try.func40 (by kernel_rfl) rfl
  have eg51 := enters_of Try.func51 (by kernel_rfl) rfl
  obtain ⟨W1, hW1⟩ : ∃ W1, W1 = ((W.alloc (.cells #[(.func (.func 38) #[] #[]), .nilFunc, .nilFunc] 73)).alloc (.cells #[.slice B0 z.f0.length d0, .slice B1 z.f1.length d1, .slice B2 z.f2.length d2] 62)) := ⟨_, rfl⟩
  have HW1 : Below W.heap.size W W1 := by rw [hW1]; exact below_alloc (below_alloc (Below.refl _ _) _) _
  obtain ⟨T, hT⟩ : ∃ T, T = W.heap.size := ⟨_, rfl⟩
  have t0 : W1.heap[T]? = some (.cells #[(.func (.func 38) #[] #[]), .nilFunc, .nilFunc] 73 (0, 0)) := by rw [hW1, hT]; exact blk_alloc (heap_alloc_new _ _) _
  have s0 : W1.heap[T + 1]? = some (.cells #[.slice B0 z.f0.length d0, .slice B1 z.f1.length d1, .slice B2 z.f2.length d2] 62 (0, 0)) := by rw [hW1, hT]; exact (congrArg (fun k => (World.heap _)[k]?) (by simp)).trans (heap_alloc_new (W.alloc _) _)
  have hTg : T ≠ g := by omega
  have hSg : T + 1 ≠ g := by omega
  have hok1 : ∀ k, W1.heap.size ≤ k → ok k := fun k hk => hok k (Nat.le_trans HW1.size hk)
  have HC0 := Aside0.mk (read_lvl W1 g off ok x cs B0 z.f0.length d0 z.f0 (lvl_below h HW1) (Kd.F_below m0 HW1) l0 hok1)
  have HM1 := Aside0.mk (Kd.F_below m1 HW1)
  have HM2 := Aside0.mk (Kd.F_below m2 HW1)
  have HB := Aside0.mk HW1
  have HBT := Aside0.mk (And.intro t0 s0)
  have a0 := (blk_cell t0 0).trans rfl
  have a1 := (blk_cell t0 1).trans rfl
  have a2 := (blk_cell t0 2).trans rfl
  have b0 := (blk_cell s0 0).trans rfl
  have b1 := (blk_cell s0 1).trans rfl
  have b2 := (blk_cell s0 2).trans rfl
  have HWE := Aside0.mk hW1
  have HTE := Aside0.mk hT
  have HOK := Aside0.mk hok1
  clear h m0 m1 m2 hok hok1 t0 s0 hW1 hT HW1 hgl
  have hq1 : ∀ w, Sem.run Try.prog (binOp BinOp.neq 69 Value.nilFunc Value.nilFunc) w = .ok (.bool false) w := fun w => by kernel_rfl
  have hq2 : ∀ w, Sem.run Try.prog (binOp BinOp.neq 71 Value.nilFunc Value.nilFunc) w = .ok (.bool false) w := fun w => by kernel_rfl
  go_enter Try.func53, Try.ntmps53
  go_wp2_with fail
  rw [← HWE.out, ← HTE.out]
  refine HC0.out.mono ?_
  clear HC0 a0 a1 a2 b0 b1 b2
  rintro e w2 ⟨rfl, cs2, hL2, hn2, hK2, hZ2⟩
  have HBT2 := Aside0.mk (And.intro (hK2.blk HBT.out.1 hTg (by simp)) (hK2.blk HBT.out.2 hSg (by simp)))
  have a0 := (blk_cell HBT2.out.1 0).trans rfl
  have a1 := (blk_cell HBT2.out.1 1).trans rfl
  have a2 := (blk_cell HBT2.out.1 2).trans rfl
  have b0 := (blk_cell HBT2.out.2 0).trans rfl
  have b1 := (blk_cell HBT2.out.2 1).trans rfl
  have b2 := (blk_cell HBT2.out.2 2).trans rfl
  have HH2 := Aside0.mk (And.intro hL2 (And.intro hn2 (And.intro hK2 hZ2)))
  have HA2 := Aside0.mk (And.intro hn2 (And.intro hK2 hZ2))
  clear hL2 hn2 hK2 hZ2
  go_wp2_with fail
  exact bodyPost_end (results_none rfl _ _ _) rfl ⟨rfl, LvlTo.of_below HB.out ⟨_, HH2.out.1, HA2.out.1, HA2.out.2.1, HA2.out.2.2⟩⟩
def joinWM (x z : S62) : S62 := { x with f0 := readL x.f0 z.f0, f1 := writeL x.f1 z.f1 }
set_option maxHeartbeats 8000000 in
set_option maxRecDepth 100000 in
theorem joinW (W : World) (g off : Nat) (ok : Nat → Prop) (x z : S62) (cs : Array Value) (B0 B1 B2 : Option Addr) (d0 d1 d2 : Nat) (h : Lvl W g off ok x cs)
    (m0 : Kd.F k30 W (fun k => ok k ∧ k ≠ g) B0 z.f0.length z.f0) (m1 : Kd.F k33 W (fun k => ok k ∧ k ≠ g) B1 z.f1.length z.f1) (m2 : Kd.F k50 W (fun k => ok k ∧ k ≠ g) B2 z.f2.length z.f2)
    (l0 : x.f0.length + z.f0.length ≤ LIM) (l1 : x.f1.length + z.f1.length ≤ LIM) (l2 : x.f2.length + z.f2.length ≤ LIM) (hok : ∀ k, W.heap.size ≤ k → ok k) :
    Calls Try.prog 53 #[.agg #[(.func (.func 38) #[] #[]), (.func (.func 40) #[] #[]), .nilFunc], .pointer (some ⟨g, off, none⟩), .agg #[.slice B0 z.f0.length d0, .slice B1 z.f1.length d1, .slice B2 z.f2.length d2]] W fun e w' => e = .returned (.tuple #[]) ∧ LvlTo W g off ok cs (joinWM x z) w' := by
  have hgl := blk_lt h.1
  have eg38 := enters_of Try.func38 (by kernel_rfl) rfl
  have eg40 := enters_of Try.func40 (by kernel_rfl) rfl
  have eg51 := enters_of Try.func51 (by kernel_rfl) rfl
  obtain ⟨W1, hW1⟩ : ∃ W1, W1 = ((W.alloc (.cells #[(.func (.func 38) #[] #[]), (.func (.func 40) #[] #[]), .nilFunc] 73)).alloc (.cells #[.slice B0 z.f0.length d0, .slice B1 z.f1.length d1, .slice B2 z.f2.length d2] 62)) := ⟨_, rfl⟩
  have HW1 : Below W.heap.size W W1 := by rw [hW1]; exact below_alloc (below_alloc (Below.refl _ _) _) _
  obtain ⟨T, hT⟩ : ∃ T, T = W.heap.size := ⟨_, rfl⟩
  have t0 : W1.heap[T]? = some (.cells #[(.func (.func 38) #[] #[]), (.func (.func 40) #[] #[]), .nilFunc] 73 (0, 0)) := by rw [hW1, hT]; exact blk_alloc (heap_alloc_new _ _) _
  have s0 : W1.heap[T + 1]? = some (.cells #[.slice B0 z.f0.length d0, .slice B1 z.f1.length d1, .slice B2 z.f2.length d2] 62 (0, 0)) := by rw [hW1, hT]; exact (congrArg (fun k => (World.heap _)[k]?) (by simp)).trans (heap_alloc_new (W.alloc _) _)
  have hTg : T ≠ g := by omega
  have hSg : T + 1 ≠ g := by omega
  have hok1 : ∀ k, W1.heap.size ≤ k → ok k := fun k hk => hok k (Nat.le_trans HW1.size hk)
  have HC0 := Aside0.mk (read_lvl W1 g off ok x cs B0 z.f0.length d0 z.f0 (lvl_below h HW1) (Kd.F_below m0 HW1) l0 hok1)
  have HM1 := Aside0.mk (Kd.F_below m1 HW1)
  have HM2 := Aside0.mk (Kd.F_below m2 HW1)
  have HB := Aside0.mk HW1
  have HBT := Aside0.mk (And.intro t0 s0)
  have a0 := (blk_cell t0 0).trans rfl
  have a1 := (blk_cell t0 1).trans rfl
  have a2 := (blk_cell t0 2).trans rfl
  have b0 := (blk_cell s0 0).trans rfl
  have b1 := (blk_cell s0 1).trans rfl
  have b2 := (blk_cell s0 2).trans rfl
  have HWE := Aside0.mk hW1
  have HTE := Aside0.mk hT
  have HOK := Aside0.mk hok1
  clear h m0 m1 m2 hok hok1 t0 s0 hW1 hT HW1 hgl
  have hq1 : ∀ w, Sem.run Try.prog (binOp BinOp.neq 69 (.func (.func 40) #[] #[]) Value.nilFunc) w = .ok (.bool true) w := fun w => by kernel_rfl
  have hq2 : ∀ w, Sem.run Try.prog (binOp BinOp.neq 71 Value.nilFunc Value.nilFunc) w = .ok (.bool false) w := fun w => by kernel_rfl
  go_enter Try.func53, Try.ntmps53
  go_wp2_with fail
  rw [← HWE.out, ← HTE.out]
  refine HC0.out.mono ?_
  clear HC0 a0 a1 a2 b0 b1 b2
  rintro e w2 ⟨rfl, cs2, hL2, hn2, hK2, hZ2⟩
  have HBT2 := Aside0.mk (And.intro (hK2.blk HBT.out.1 hTg (by simp)) (hK2.blk HBT.out.2 hSg (by simp)))
  have a0 := (blk_cell HBT2.out.1 0).trans rfl
  have a1 := (blk_cell HBT2.out.1 1).trans rfl
  have a2 := (blk_cell HBT2.out.1 2).trans rfl
  have b0 := (blk_cell HBT2.out.2 0).trans rfl
  have b1 := (blk_cell HBT2.out.2 1).trans rfl
  have b2 := (blk_cell HBT2.out.2 2).trans rfl
  have HH2 := Aside0.mk (And.intro hL2 (And.intro hn2 (And.intro hK2 hZ2)))
  have HA2 := Aside0.mk (And.intro hn2 (And.intro hK2 hZ2))
  have HC1 := Aside0.mk (write_lvl w2 g off ok { x with f0 := readL x.f0 z.f0 } cs2 B1 z.f1.length d1 z.f1 hL2 (Kd.F_keep HM1.out HA2.out.2.1 (fun k hk => hk.2)) l1 (fun k hk => HOK.out k (Nat.le_trans HA2.out.2.1.1 hk)))
  clear hL2 hn2 hK2 hZ2
  go_wp2_with fail
  refine HC1.out.mono ?_
  clear HC1 a0 a1 a2 b0 b1 b2
  rintro e w3 ⟨rfl, cs3, hL3, hn3, hK3, hZ3⟩
  have HBT3 := Aside0.mk (And.intro (hK3.blk HBT2.out.1 hTg (by simp)) (hK3.blk HBT2.out.2 hSg (by simp)))
  have a0 := (blk_cell HBT3.out.1 0).trans rfl
  have a1 := (blk_cell HBT3.out.1 1).trans rfl
  have a2 := (blk_cell HBT3.out.1 2).trans rfl
  have b0 := (blk_cell HBT3.out.2 0).trans rfl
  have b1 := (blk_cell HBT3.out.2 1).trans rfl
  have b2 := (blk_cell HBT3.out.2 2).trans rfl
  have HH3 := Aside0.mk (And.intro hL3 (And.intro hn3 (And.intro hK3 hZ3)))
  have HA3 := Aside0.mk (And.intro (HA2.out.1.trans hn3) (And.intro (HA2.out.2.1.trans hK3 (.inl rfl)) (HA2.out.2.2.trans hZ3)))
  clear hL3 hn3 hK3 hZ3
  go_wp2_with fail
  exact bodyPost_end (results_none rfl _ _ _) rfl ⟨rfl, LvlTo.of_below HB.out ⟨_, HH3.out.1, HA3.out.1, HA3.out.2.1, HA3.out.2.2⟩⟩
end Go.Proofs.Ytfojpobblebigaa.P
namespace Go.Proofs.Ytfojpobblebigaa.P
open Go.RowKit Go.Proofs.YtfojpobblebigaaW.PrintWords Go.Proofs.YtfojpobblebigaaW.PrintLast Go.Proofs.YtfojpobblebigaaW.PrintMore
set_option linter.unusedVariables false
set_option linter.unusedSimpArgs false

/-- An element of a row of levels: its cells, and what they lead to. -/
theorem F62_at {W : World} {ok : Nat → Prop} {A : Option Addr} {l : List S62} (h : Kd.F k62 W ok A l.length l) (i : Nat) (hi : i < l.length) :
    ∃ ad A0 c0 A1 c1 A2 c2, A = some ad ∧ W.cell? (ad.add (i * 3)) = some (.slice A0 (l.getD i z62).f0.length c0) ∧ W.cell? ⟨(ad.add (i * 3)).block, (ad.add (i * 3)).off + 1, none⟩ = some (.slice A1 (l.getD i z62).f1.length c1) ∧ W.cell? ⟨(ad.add (i * 3)).block, (ad.add (i * 3)).off + 2, none⟩ = some (.slice A2 (l.getD i z62).f2.length c2) ∧
      (l.getD i z62).f0.length ≤ c0 ∧ Kd.F k30 W ok A0 (l.getD i z62).f0.length (l.getD i z62).f0 ∧ (l.getD i z62).f1.length ≤ c1 ∧ Kd.F k33 W ok A1 (l.getD i z62).f1.length (l.getD i z62).f1 ∧ (l.getD i z62).f2.length ≤ c2 ∧ Kd.F k50 W ok A2 (l.getD i z62).f2.length (l.getD i z62).f2 := by
  obtain ⟨ad, c, e, _, hK, hc0, _⟩ := Kd.F_get h z62 (i : Int) (by omega) (by omega)
  rw [Int.toNat_natCast] at hK hc0
  have hc : ∀ j u, c[j]? = some u → W.cell? (ad.add (i * 3 + j)) = some u := hc0
  obtain ⟨A0, c0, A1, c1, A2, c2, rfl, r⟩ := k62_openF hK
  exact ⟨ad, A0, c0, A1, c1, A2, c2, e, hc 0 _ rfl, by rw [← add_field _ _ 1 (by omega)]; exact hc 1 _ rfl, by rw [← add_field _ _ 2 (by omega)]; exact hc 2 _ rfl, r⟩

set_option maxHeartbeats 8000000 in
set_option maxRecDepth 100000 in
theorem foldAC (W : World) (g off : Nat) (ok : Nat → Prop) (x : S62) (cs : Array Value) (bT bL bN : Nat) (A : Option Addr) (c : Nat) (l : List S62) (h : Lvl W g off ok x cs)
    (t0 : W.cell? ⟨bT, 0, none⟩ = some (.func (.func 38) #[] #[])) (t1 : W.cell? ⟨bT, 1, none⟩ = some (.func (.func 40) #[] #[])) (t2 : W.cell? ⟨bT, 2, none⟩ = some (.func (.func 51) #[] #[])) (q0 : W.cell? ⟨bL, 0, none⟩ = some (.slice A l.length c)) (q1 : W.cell? ⟨bN, 0, none⟩ = some (.int .i64 ((l.length - 1 : Nat) : Int)))
    (hF : Kd.F k62 W (fun k => ok k ∧ k ≠ g) A l.length l) (hne : 0 < l.length) (hx : x.f0.length + x.f1.length + x.f2.length ≤ tot l) (hlim : 2 * tot l < LIM) (hok : ∀ k, W.heap.size ≤ k → ok k) :
    Calls Try.prog 61 (#[.pointer (some ⟨g, off, none⟩)] ++ #[.pointer (some ⟨bT, 0, none⟩), .pointer (some ⟨bL, 0, none⟩), .pointer (some ⟨bN, 0, none⟩)]) W fun e w' => e = .returned (.tuple #[]) ∧ LvlTo W g off ok cs (joinAM x (l.getD (l.length - 1) z62)) w' := by
  obtain ⟨ad, A0, c0, A1, c1, A2, c2, rfl, e0, e1, e2, l0, f0, l1, f1, l2, f2⟩ := F62_at hF (l.length - 1) (by omega)
  have hm := tot_mem (last_mem hne)
  have hl63 : l.length ≤ 9223372036854775807 := (Kd.F_now hF).2.1
  generalize l.getD (l.length - 1) z62 = z at *
  have hB : Below W.heap.size W W.drew := below_drew (Below.refl _ _)
  have HC := Aside0.mk (joinA W.drew g off ok x z cs A0 A1 A2 c0 c1 c2 (lvl_below h hB) (Kd.F_below f0 hB) (Kd.F_below f1 hB) (Kd.F_below f2 hB) (by omega) (by omega) (by omega) (fun k hk => hok k hk))
  have HB := Aside0.mk hB
  obtain ⟨n1, hn1⟩ : ∃ n1, n1 = l.length - 1 := ⟨_, rfl⟩
  rw [← hn1] at q1 e0 e1 e2
  have hi0 : (0 : Int) ≤ (n1 : Int) := by omega
  have hi1 : (n1 : Int) < (l.length : Int) := by omega
  have eg53 := enters_of Try.func53 (by kernel_rfl) rfl
  clear h hF f0 f1 f2 hB hn1
  show Calls Try.prog 61 #[.pointer (some ⟨g, off, none⟩), .pointer (some ⟨bT, 0, none⟩), .pointer (some ⟨bL, 0, none⟩), .pointer (some ⟨bN, 0, none⟩)] W _
  go_enter Try.func61, Try.ntmps61
  go_wp2_with fail
  go_region_with (go_at_call 53; refine HC.out.mono ?_; rintro e w' ⟨rfl, hq⟩)
  all_goals go_wp2_with fail
  all_goals exact bodyPost_end (results_none rfl _ _ _) rfl ⟨rfl, by first | exact LvlTo.of_below HB.out hq | exact LvlTo.of_below HB.out (by assumption)⟩

set_option maxHeartbeats 8000000 in
set_option maxRecDepth 100000 in
theorem foldRC (W : World) (g off : Nat) (ok : Nat → Prop) (x : S62) (cs : Array Value) (bT bL bN : Nat) (A : Option Addr) (c : Nat) (l : List S62) (h : Lvl W g off ok x cs)
    (t0 : W.cell? ⟨bT, 0, none⟩ = some (.func (.func 38) #[] #[])) (t1 : W.cell? ⟨bT, 1, none⟩ = some .nilFunc) (t2 : W.cell? ⟨bT, 2, none⟩ = some .nilFunc) (q0 : W.cell? ⟨bL, 0, none⟩ = some (.slice A l.length c)) (q1 : W.cell? ⟨bN, 0, none⟩ = some (.int .i64 ((l.length - 1 : Nat) : Int)))
    (hF : Kd.F k62 W (fun k => ok k ∧ k ≠ g) A l.length l) (hne : 0 < l.length) (hx : x.f0.length + x.f1.length + x.f2.length ≤ tot l) (hlim : 2 * tot l < LIM) (hok : ∀ k, W.heap.size ≤ k → ok k) :
    Calls Try.prog 61 (#[.pointer (some ⟨g, off, none⟩)] ++ #[.pointer (some ⟨bT, 0, none⟩), .pointer (some ⟨bL, 0, none⟩), .pointer (some ⟨bN, 0, none⟩)]) W fun e w' => e = .returned (.tuple #[]) ∧ LvlTo W g off ok cs (joinRM x (l.getD (l.length - 1) z62)) w' := by
  obtain ⟨ad, A0, c0, A1, c1, A2, c2, rfl, e0, e1, e2, l0, f0, l1, f1, l2, f2⟩ := F62_at hF (l.length - 1) (by omega)
  have hm := tot_mem (last_mem hne)
  have hl63 : l.length ≤ 9223372036854775807 := (Kd.F_now hF).2.1
  generalize l.getD (l.length - 1) z62 = z at *
  have hB : Below W.heap.size W W.drew := below_drew (Below.refl _ _)
  have HC := Aside0.mk (joinR W.drew g off ok x z cs A0 A1 A2 c0 c1 c2 (lvl_below h hB) (Kd.F_below f0 hB) (Kd.F_below f1 hB) (Kd.F_below f2 hB) (by omega) (by omega) (by omega) (fun k hk => hok k hk))
  have HB := Aside0.mk hB
  obtain ⟨n1, hn1⟩ : ∃ n1, n1 = l.length - 1 := ⟨_, rfl⟩
  rw [← hn1] at q1 e0 e1 e2
  have hi0 : (0 : Int) ≤ (n1 : Int) := by omega
  have hi1 : (n1 : Int) < (l.length : Int) := by omega
  have eg53 := enters_of Try.func53 (by kernel_rfl) rfl
  clear h hF f0 f1 f2 hB hn1
  show Calls Try.prog 61 #[.pointer (some ⟨g, off, none⟩), .pointer (some ⟨bT, 0, none⟩), .pointer (some ⟨bL, 0, none⟩), .pointer (some ⟨bN, 0, none⟩)] W _
  go_enter Try.func61, Try.ntmps61
  go_wp2_with fail
  go_region_with (go_at_call 53; refine HC.out.mono ?_; rintro e w' ⟨rfl, hq⟩)
  all_goals go_wp2_with fail
  all_goals exact bodyPost_end (results_none rfl _ _ _) rfl ⟨rfl, by first | exact LvlTo.of_below HB.out hq | exact LvlTo.of_below HB.out (by assumption)⟩
end Go.Proofs.Ytfojpobblebigaa.P
namespace Go.Proofs.Ytfojpobblebigaa.P
open Go.RowKit Go.Proofs.YtfojpobblebigaaW.PrintWords Go.Proofs.YtfojpobblebigaaW.PrintLast Go.Proofs.YtfojpobblebigaaW.PrintMore
set_option linter.unusedVariables false
set_option linter.unusedSimpArgs false

theorem tot_take (l : List S62) (x : S62) (n : Nat) (h : x ∈ l.take n) : x.f0.length + x.f1.length + x.f2.length ≤ tot l := by
  have := tot_mem (List.mem_of_mem_take h)
  omega

def foldAL (l : List S62) : List S62 := onLast (l.take (l.length - 1)) (fun x => joinAM x (l.getD (l.length - 1) z62))
set_option maxHeartbeats 8000000 in
set_option maxRecDepth 100000 in
theorem foldA (P : Nat → Prop) (A : Option Addr) (c : Nat) (l : List S62) (w : World) (hF : Kd.F k62 w P A l.length l) (hc : l.length ≤ c) (hne : 0 < l.length) (hlim : 2 * tot l < LIM) :
    Calls Try.prog 41 #[.slice A l.length c, .agg #[(.func (.func 38) #[] #[]), (.func (.func 40) #[] #[]), (.func (.func 51) #[] #[])]] w fun e w' => ∃ v : Value, e = .returned v ∧ Kd.V k62 62 w' w.heap.size (fun k => P k ∨ w.heap.size ≤ k) v (foldAL l) ∧ Below w.heap.size w w' := by
  have hll := tot_len l
  have hl63 : l.length ≤ 9223372036854775807 := (Kd.F_now hF).2.1
  have eg61 := enters_of Try.func61 (by kernel_rfl) rfl
  obtain ⟨W3, hW3⟩ : ∃ W3, W3 = (((w.alloc (.cells #[.slice A l.length c] 22)).alloc (.cells #[(.func (.func 38) #[] #[]), (.func (.func 40) #[] #[]), (.func (.func 51) #[] #[])] 73)).alloc (.cells #[.int .i64 ((l.length : Int) - 1)] 3)) := ⟨_, rfl⟩
  have hB : Below w.heap.size w W3 := by rw [hW3]; exact below_alloc (below_alloc (below_alloc (Below.refl _ _) _) _) _
  obtain ⟨B, hBe⟩ : ∃ B, B = w.heap.size := ⟨_, rfl⟩
  have hcast : ((l.length - 1 : Nat) : Int) = (l.length : Int) - 1 := by omega
  have g0 : W3.heap[B]? = some (.cells #[.slice A l.length c] 22 (0, 0)) := by rw [hW3, hBe]; exact blk_alloc (blk_alloc (heap_alloc_new _ _) _) _
  have g1 : W3.heap[B + 1]? = some (.cells #[(.func (.func 38) #[] #[]), (.func (.func 40) #[] #[]), (.func (.func 51) #[] #[])] 73 (0, 0)) := by rw [hW3, hBe]; exact blk_alloc ((congrArg (fun k => (World.heap _)[k]?) (by simp)).trans (heap_alloc_new (w.alloc _) _)) _
  have g2 : W3.heap[B + 2]? = some (.cells #[.int .i64 ((l.length - 1 : Nat) : Int)] 3 (0, 0)) := by rw [hW3, hBe, hcast]; exact (congrArg (fun k => (World.heap _)[k]?) (by simp)).trans (heap_alloc_new ((w.alloc _).alloc _) _)
  have hF3 := Kd.F_old hF hB
  have hF3' : Kd.F k62 W3 P A l.length l := Kd.F_mono hF3 (fun k hk => hk.1)
  have hsz : w.heap.size ≤ W3.heap.size := hB.size
  have HC := Aside0.mk (last_v P A c (l.take (l.length - 1)) 61 #[.pointer (some ⟨B + 1, 0, none⟩), .pointer (some ⟨B, 0, none⟩), .pointer (some ⟨B + 1 + 1, 0, none⟩)] eg61 (fun x => joinAM x (l.getD (l.length - 1) z62)) W3 (Kd.F_take hF3' (by omega)) (by rw [List.length_take]; omega) (by rw [List.length_take]; omega) (fun hne2 W g off cs hW hg hL =>
    foldAC W g off _ _ cs (B + 1) B (B + 2) A c l hL ((blk_cell (blk_below g1 hW) 0).trans rfl) ((blk_cell (blk_below g1 hW) 1).trans rfl) ((blk_cell (blk_below g1 hW) 2).trans rfl) ((blk_cell (blk_below g0 hW) 0).trans rfl) ((blk_cell (blk_below g2 hW) 0).trans rfl)
      (Kd.F_mono (Kd.F_below hF3 hW) (fun k hk => ⟨.inl hk.1, by have := hk.2; omega⟩)) hne (tot_take l _ _ (last_mem hne2)) hlim (fun k hk => .inr (Nat.le_trans hW.size hk))))
  have hlt : (l.take (l.length - 1)).length = l.length - 1 := by rw [List.length_take]; omega
  rw [hlt] at HC
  have HB := Aside0.mk hB
  have HWE := Aside0.mk hW3
  have HBE := Aside0.mk hBe
  have hi0 : (0 : Int) ≤ (l.length : Int) - 1 := by omega
  have hi1 : (l.length : Int) - 1 ≤ (c : Int) := by omega
  have hi2 : (l.length : Int) - 1 ≤ (l.length : Int) := by omega
  have htn : ((l.length : Int) - 1).toNat = l.length - 1 := by omega
  have hw1 : IntKind.i64.wrap ((l.length : Int) - 1) = (l.length : Int) - 1 := by rw [IntKind.wrap_i64]; omega
  have HG := Aside0.mk (And.intro ((blk_cell g0 0).trans rfl : W3.cell? ⟨B, 0, none⟩ = some (.slice A l.length c)) ((blk_cell g2 0).trans (by rw [hcast]; rfl) : W3.cell? ⟨B + 2, 0, none⟩ = some (.int .i64 ((l.length : Int) - 1))))
  clear hF g0 g1 g2 hF3 hF3' hB hW3 hBe hcast hlt
  go_enter Try.func41, Try.ntmps41
  go_wp2_with fail
  rw [← HWE.out, ← HBE.out]
  refine HC.out.mono ?_
  rintro e w' ⟨v, rfl, hV, hb⟩
  obtain ⟨A9, c9, rfl⟩ := Kd.V_slice hV
  have H1 := Aside0.mk hV
  have H2 := Aside0.mk hb
  clear hV hb
  go_wp2_with fail
  go_ret
  exact ⟨_, rfl, Kd.V_mono (Kd.V_lower H1.out hsz) (fun k hk => hk.imp id (fun h => Nat.le_trans hsz h)), HB.out.trans (H2.out.mono hsz)⟩

def foldRL (l : List S62) : List S62 := onLast (l.take (l.length - 1)) (fun x => joinRM x (l.getD (l.length - 1) z62))
set_option maxHeartbeats 8000000 in
set_option maxRecDepth 100000 in
theorem foldR (P : Nat → Prop) (A : Option Addr) (c : Nat) (l : List S62) (w : World) (hF : Kd.F k62 w P A l.length l) (hc : l.length ≤ c) (hne : 0 < l.length) (hlim : 2 * tot l < LIM) :
    Calls Try.prog 41 #[.slice A l.length c, .agg #[(.func (.func 38) #[] #[]), .nilFunc, .nilFunc]] w fun e w' => ∃ v : Value, e = .returned v ∧ Kd.V k62 62 w' w.heap.size (fun k => P k ∨ w.heap.size ≤ k) v (foldRL l) ∧ Below w.heap.size w w' := by
  have hll := tot_len l
  have hl63 : l.length ≤ 9223372036854775807 := (Kd.F_now hF).2.1
  have eg61 := enters_of Try.func61 (by kernel_rfl) rfl
  obtain ⟨W3, hW3⟩ : ∃ W3, W3 = (((w.alloc (.cells #[.slice A l.length c] 22)).alloc (.cells #[(.func (.func 38) #[] #[]), .nilFunc, .nilFunc] 73)).alloc (.cells #[.int .i64 ((l.length : Int) - 1)] 3)) := ⟨_, rfl⟩
  have hB : Below w.heap.size w W3 := by rw [hW3]; exact below_alloc (below_alloc (below_alloc (Below.refl _ _) _) _) _
  obtain ⟨B, hBe⟩ : ∃ B, B = w.heap.size := ⟨_, rfl⟩
  have hcast : ((l.length - 1 : Nat) : Int) = (l.length : Int) - 1 := by omega
  have g0 : W3.heap[B]? = some (.cells #[.slice A l.length c] 22 (0, 0)) := by rw [hW3, hBe]; exact blk_alloc (blk_alloc (heap_alloc_new _ _) _) _
  have g1 : W3.heap[B + 1]? = some (.cells #[(.func (.func 38) #[] #[]), .nilFunc, .nilFunc] 73 (0, 0)) := by rw [hW3, hBe]; exact blk_alloc ((congrArg (fun k => (World.heap _)[k]?) (by simp)).trans (heap_alloc_new (w.alloc _) _)) _
  have g2 : W3.heap[B + 2]? = some (.cells #[.int .i64 ((l.length - 1 : Nat) : Int)] 3 (0, 0)) := by rw [hW3, hBe, hcast]; exact (congrArg (fun k => (World.heap _)[k]?) (by simp)).trans (heap_alloc_new ((w.alloc _).alloc _) _)
  have hF3 := Kd.F_old hF hB
  have hF3' : Kd.F k62 W3 P A l.length l := Kd.F_mono hF3 (fun k hk => hk.1)
  have hsz : w.heap.size ≤ W3.heap.size := hB.size
  have HC := Aside0.mk (last_v P A c (l.take (l.length - 1)) 61 #[.pointer (some ⟨B + 1, 0, none⟩), .pointer (some ⟨B, 0, none⟩), .pointer (some ⟨B + 1 + 1, 0, none⟩)] eg61 (fun x => joinRM x (l.getD (l.length - 1) z62)) W3 (Kd.F_take hF3' (by omega)) (by rw [List.length_take]; omega) (by rw [List.length_take]; omega) (fun hne2 W g off cs hW hg hL =>
    foldRC W g off _ _ cs (B + 1) B (B + 2) A c l hL ((blk_cell (blk_below g1 hW) 0).trans rfl) ((blk_cell (blk_below g1 hW) 1).trans rfl) ((blk_cell (blk_below g1 hW) 2).trans rfl) ((blk_cell (blk_below g0 hW) 0).trans rfl) ((blk_cell (blk_below g2 hW) 0).trans rfl)
      (Kd.F_mono (Kd.F_below hF3 hW) (fun k hk => ⟨.inl hk.1, by have := hk.2; omega⟩)) hne (tot_take l _ _ (last_mem hne2)) hlim (fun k hk => .inr (Nat.le_trans hW.size hk))))
  have hlt : (l.take (l.length - 1)).length = l.length - 1 := by rw [List.length_take]; omega
  rw [hlt] at HC
  have HB := Aside0.mk hB
  have HWE := Aside0.mk hW3
  have HBE := Aside0.mk hBe
  have hi0 : (0 : Int) ≤ (l.length : Int) - 1 := by omega
  have hi1 : (l.length : Int) - 1 ≤ (c : Int) := by omega
  have hi2 : (l.length : Int) - 1 ≤ (l.length : Int) := by omega
  have htn : ((l.length : Int) - 1).toNat = l.length - 1 := by omega
  have hw1 : IntKind.i64.wrap ((l.length : Int) - 1) = (l.length : Int) - 1 := by rw [IntKind.wrap_i64]; omega
  have HG := Aside0.mk (And.intro ((blk_cell g0 0).trans rfl : W3.cell? ⟨B, 0, none⟩ = some (.slice A l.length c)) ((blk_cell g2 0).trans (by rw [hcast]; rfl) : W3.cell? ⟨B + 2, 0, none⟩ = some (.int .i64 ((l.length : Int) - 1))))
  clear hF g0 g1 g2 hF3 hF3' hB hW3 hBe hcast hlt
  go_enter Try.func41, Try.ntmps41
  go_wp2_with fail
  rw [← HWE.out, ← HBE.out]
  refine HC.out.mono ?_
  rintro e w' ⟨v, rfl, hV, hb⟩
  obtain ⟨A9, c9, rfl⟩ := Kd.V_slice hV
  have H1 := Aside0.mk hV
  have H2 := Aside0.mk hb
  clear hV hb
  go_wp2_with fail
  go_ret
  exact ⟨_, rfl, Kd.V_mono (Kd.V_lower H1.out hsz) (fun k hk => hk.imp id (fun h => Nat.le_trans hsz h)), HB.out.trans (H2.out.mono hsz)⟩

/-! ### nest.End: function 15 -/
def nEnd.f (l : List S62) : Option (List S62) := if 2 * tot l < LIM then some (if l.length < 2 then l else foldAL l) else none
theorem run_store_func_ {P : Program} {w : World} {a : Addr} {f : Nat} {m : Mode} : (store a (.func (.func f) #[] #[]) m).run P w = stored P w a (.func (.func f) #[] #[]) m := run_store P w a _ m rfl
attribute [local go_sem] run_store_func_
set_option maxHeartbeats 8000000 in
set_option maxRecDepth 100000 in
theorem whole_c (w : World) : Calls Try.prog 42 #[] w fun e w' => e = .returned (.agg #[(.func (.func 38) #[] #[]), (.func (.func 40) #[] #[]), (.func (.func 51) #[] #[])]) ∧ Below w.heap.size w w' := by
  go_enter Try.func42, Try.ntmps42
  go_wp2
  refine bodyPost_ret (v := .agg #[(.func (.func 38) #[] #[]), (.func (.func 40) #[] #[]), (.func (.func 51) #[] #[])]) (by simp [results, Try.results42, go_sem]) rfl ⟨rfl, ?_⟩
  first | exact below_alloc (Below.refl _ _) _ | exact ((below_alloc (Below.refl _ _) _).setCell (Nat.le_refl _) _)
set_option maxHeartbeats 8000000 in
set_option maxRecDepth 100000 in
theorem nEnd.calls (P0 : Nat → Prop) (A0 : Option Addr) (c0 : Nat) (l0 : List S62) (r : List S62) (w : World) (hs0 : Kd.V k62 62 w w.heap.size (fun k_ => P0 k_) (.slice A0 l0.length c0) l0) (h : nEnd.f l0 = some r) :
    Calls Try.prog 15 #[.slice A0 l0.length c0] w fun e w' => ∃ v0_ : Value, e = .returned v0_ ∧ Kd.V k62 62 w' w.heap.size (fun k_ => P0 k_ ∨ w.heap.size ≤ k_) v0_ r ∧ Below w.heap.size w w' := by
  unfold nEnd.f at h
  split at h
  case isFalse => cases h
  case isTrue hT =>
  obtain ⟨hn, hc, hF⟩ := Kd.V_at hs0
  by_cases h2 : l0.length < 2
  · rw [if_pos h2] at h
    obtain rfl := Option.some.inj h
    have h3 : (l0.length : Int) < 2 := by omega
    have H := Aside0.mk hs0
    clear h hF hs0 h2
    go_enter Try.func15, Try.ntmps15
    go_wp2
    go_ret
    exact ⟨_, rfl, Kd.V_mono H.out (fun k hk => .inl hk), Below.refl _ _⟩
  · rw [if_neg h2] at h
    obtain rfl := Option.some.inj h
    have h3 : ¬ (l0.length : Int) < 2 := by omega
    have hl63 : l0.length ≤ 9223372036854775807 := (Kd.F_now hF).2.1
    have HC := Aside0.mk (fun W (hb : Below w.heap.size w W) => foldA P0 A0 c0 l0 W (Kd.F_below hF hb) hc (by omega) hT)
    clear h hF hs0 h2 hT
    go_enter Try.func15, Try.ntmps15
    go_wp2_with (first | (go_at_call 42; refine (whole_c w).mono ?_; rintro e w1 ⟨rfl, hb1⟩; have HB1 := Aside0.mk hb1; clear hb1) | (go_at_call 41; refine (HC.out _ HB1.out).mono ?_; rintro e w2 ⟨v, rfl, hV, hb⟩; obtain ⟨A9, c9, rfl⟩ := Kd.V_slice hV; have H1 := Aside0.mk hV; have H2 := Aside0.mk hb; clear hV hb))
    go_ret
    exact ⟨_, rfl, Kd.V_mono (Kd.V_lower H1.out HB1.out.size) (fun k hk => hk.imp id (fun h => Nat.le_trans HB1.out.size h)), HB1.out.trans (H2.out.mono HB1.out.size)⟩
end Go.Proofs.Ytfojpobblebigaa.P
namespace Go.Proofs.Ytfojpobblebigaa.P
open Go.RowKit Go.Proofs.YtfojpobblebigaaW.PrintWords Go.Proofs.YtfojpobblebigaaW.PrintLast Go.Proofs.YtfojpobblebigaaW.PrintMore
set_option linter.unusedVariables false
set_option linter.unusedSimpArgs false

def e5 (d : S50 × Option Addr × Nat) : List Value := [.int .i64 d.1.f0.f0, .int .i64 d.1.f0.f1, .int .i64 d.1.f0.f2, .slice d.2.1 d.1.f0.f3.length d.2.2, .int .i64 d.1.f1]
def put5 (cur : Array Value) (o : Nat) (d : S50 × Option Addr × Nat) : Array Value :=
  ((((cur.setIfInBounds o (.int .i64 d.1.f0.f0)).setIfInBounds (o + 1) (.int .i64 d.1.f0.f1)).setIfInBounds (o + 2) (.int .i64 d.1.f0.f2)).setIfInBounds (o + 3) (.slice d.2.1 d.1.f0.f3.length d.2.2)).setIfInBounds (o + 4) (.int .i64 d.1.f1)
theorem put5_size (cur : Array Value) (o : Nat) (d : S50 × Option Addr × Nat) : (put5 cur o d).size = cur.size := by simp [put5]
theorem put5_out (cur : Array Value) (o k : Nat) (d : S50 × Option Addr × Nat) (h : k < o ∨ o + 5 ≤ k) : (put5 cur o d)[k]? = cur[k]? := by
  unfold put5
  rw [Array.getElem?_setIfInBounds_ne (by omega), Array.getElem?_setIfInBounds_ne (by omega), Array.getElem?_setIfInBounds_ne (by omega), Array.getElem?_setIfInBounds_ne (by omega), Array.getElem?_setIfInBounds_ne (by omega)]
theorem put5_in (cur : Array Value) (o q : Nat) (d : S50 × Option Addr × Nat) (h : o + 5 ≤ cur.size) (hq : q < 5) : (put5 cur o d)[o + q]? = (e5 d)[q]? := by
  unfold put5
  rcases q with _ | _ | _ | _ | _ | q
  · rw [Array.getElem?_setIfInBounds_ne (by omega), Array.getElem?_setIfInBounds_ne (by omega), Array.getElem?_setIfInBounds_ne (by omega), Array.getElem?_setIfInBounds_ne (by omega), Nat.add_zero, Array.getElem?_setIfInBounds_self_of_lt (by omega)]; rfl
  · rw [Array.getElem?_setIfInBounds_ne (by omega), Array.getElem?_setIfInBounds_ne (by omega), Array.getElem?_setIfInBounds_ne (by omega), Nat.zero_add, Array.getElem?_setIfInBounds_self_of_lt (by simp; omega)]; rfl
  · rw [Array.getElem?_setIfInBounds_ne (by omega), Array.getElem?_setIfInBounds_ne (by omega), Array.getElem?_setIfInBounds_self_of_lt (by simp; omega)]; rfl
  · rw [Array.getElem?_setIfInBounds_ne (by omega), Array.getElem?_setIfInBounds_self_of_lt (by simp; omega)]; rfl
  · rw [Array.getElem?_setIfInBounds_self_of_lt (by simp; omega)]; rfl
  · omega
/-- Block g holds the row, its first i and last i elements exchanged. -/
def RevAt (W : World) (g cap n : Nat) (D : Nat → S50 × Option Addr × Nat) (i : Nat) : Prop :=
  ∃ cur : Array Value, W.heap[g]? = some (.cells cur 50 (0, 0)) ∧ cur.size = cap * 5 ∧ ∀ j, j < n → ∀ q, q < 5 → cur[j * 5 + q]? = (e5 (D (if j < i ∨ n ≤ j + i then n - 1 - j else j)))[q]?
def putW (W : World) (g o : Nat) (d : S50 × Option Addr × Nat) : World :=
  ((((W.setCell ⟨g, o, none⟩ (.int .i64 d.1.f0.f0)).setCell ⟨g, o + 1, none⟩ (.int .i64 d.1.f0.f1)).setCell ⟨g, o + 2, none⟩ (.int .i64 d.1.f0.f2)).setCell ⟨g, o + 3, none⟩ (.slice d.2.1 d.1.f0.f3.length d.2.2)).setCell ⟨g, o + 4, none⟩ (.int .i64 d.1.f1)
theorem putW_blk {W : World} {g o : Nat} {cur : Array Value} (d : S50 × Option Addr × Nat) (h : W.heap[g]? = some (.cells cur 50 (0, 0))) : (putW W g o d).heap[g]? = some (.cells (put5 cur o d) 50 (0, 0)) :=
  blk_set (blk_set (blk_set (blk_set (blk_set h _ _) _ _) _ _) _ _) _ _
theorem putW_keep {w W : World} {g o : Nat} (d : S50 × Option Addr × Nat) (h : KeepBut w W g none) : KeepBut w (putW W g o d) g none :=
  ((((h.set_ _ _).set_ _ _).set_ _ _).set_ _ _).set_ _ _
theorem putW_z {w W : World} {g o : Nat} (d : S50 × Option Addr × Nat) (h : Below 0 w W) : Below 0 w (putW W g o d) :=
  ((((h.setCell (Nat.zero_le _) _).setCell (Nat.zero_le _) _).setCell (Nat.zero_le _) _).setCell (Nat.zero_le _) _).setCell (Nat.zero_le _) _
theorem rev_step {W : World} {g cap n i : Nat} {D : Nat → S50 × Option Addr × Nat} (h : RevAt W g cap n D i) (hn : n ≤ cap) (hi : i < n - 1 - i) :
    RevAt (putW (putW W g (i * 5) (D (n - 1 - i))) g ((n - 1 - i) * 5) (D i)) g cap n D (i + 1) := by
  obtain ⟨cur, hb, hs, hc⟩ := h
  refine ⟨_, putW_blk _ (putW_blk _ hb), by rw [put5_size, put5_size, hs], fun j hj q hq => ?_⟩
  by_cases e1 : j = n - 1 - i
  · rw [e1, put5_in _ _ _ _ (by rw [put5_size, hs]; omega) hq, if_pos (by omega), show n - 1 - (n - 1 - i) = i by omega]
  · rw [put5_out _ _ _ _ (by omega)]
    by_cases e2 : j = i
    · rw [e2, put5_in _ _ _ _ (by rw [hs]; omega) hq, if_pos (by omega)]
    · rw [put5_out _ _ _ _ (by omega), hc j hj q hq]
      congr 3
      by_cases e3 : j < i ∨ n ≤ j + i
      · rw [if_pos e3, if_pos (by omega)]
      · rw [if_neg e3, if_neg (by omega)]
theorem rev_cells {W : World} {g cap n i : Nat} {D : Nat → S50 × Option Addr × Nat} (h : RevAt W g cap n D i) {j : Nat} (hj : j < n) (hji : ¬ (j < i ∨ n ≤ j + i)) :
    W.cell? ⟨g, j * 5, none⟩ = some (.int .i64 (D j).1.f0.f0) ∧ W.cell? ⟨g, j * 5 + 1, none⟩ = some (.int .i64 (D j).1.f0.f1) ∧ W.cell? ⟨g, j * 5 + 2, none⟩ = some (.int .i64 (D j).1.f0.f2) ∧ W.cell? ⟨g, j * 5 + 3, none⟩ = some (.slice (D j).2.1 (D j).1.f0.f3.length (D j).2.2) ∧ W.cell? ⟨g, j * 5 + 4, none⟩ = some (.int .i64 (D j).1.f1) ∧ ∀ q, W.frozen? ⟨g, q, none⟩ = false := by
  obtain ⟨cur, hb, hs, hc⟩ := h
  have h5 : ∀ q, q < 5 → W.cell? ⟨g, j * 5 + q, none⟩ = (e5 (D j))[q]? := fun q hq => by
    rw [blk_cell hb, hc j hj q hq, if_neg hji]
  exact ⟨h5 0 (by omega), h5 1 (by omega), h5 2 (by omega), h5 3 (by omega), h5 4 (by omega), fun q => blk_frozen hb q⟩

set_option maxHeartbeats 16000000 in
set_option maxRecDepth 100000 in
theorem reverse_walk (g cap n : Nat) (D : Nat → S50 × Option Addr × Nat) (w : World) (h : RevAt w g cap n D 0) (hn : n ≤ cap) (h1 : 1 ≤ n) (hl : n ≤ LIM) :
    Calls Try.prog 44 #[.slice (some ⟨g, 0, none⟩) n cap] w fun e w' => e = .returned (.tuple #[]) ∧ (∃ i, n - 1 - i ≤ i ∧ i ≤ n ∧ RevAt w' g cap n D i) ∧ KeepBut w w' g none ∧ Below 0 w w' := by
  have H := Aside0.mk h
  have hn63 : n ≤ 4611686018427387904 := by unfold LIM at hl; omega
  have hc1 : (n : Int) - 1 = ((n - 1 : Nat) : Int) := by omega
  have hw1 : IntKind.i64.wrap ((n : Int) - 1) = ((n - 1 : Nat) : Int) := by rw [IntKind.wrap_i64]; omega
  have mixed : Try.prog.follows Departure.mixedOrders = true := by kernel_rfl
  have HC1 := Aside0.mk hc1
  clear h hl hc1
  go_enter Try.func44, Try.ntmps44
  go_wp2
  go_loopg [2, 3] n (fun gg s2 s3 wr => ∃ i : Nat, i ≤ n ∧ 2 * i ≤ n ∧ n - i ≤ gg ∧ s2 = .int .i64 i ∧ s3 = .int .i64 ((n - 1 - i : Nat) : Int) ∧ Aside0 (RevAt wr g cap n D i) ∧ Aside0 (KeepBut w wr g none) ∧ Aside0 (Below 0 w wr))
  case atStart => exact ⟨0, by omega, by omega, by omega, rfl, by first | rfl | (simp; done) | (simp [HC1.out]; done) | (simp; omega), H, ⟨KeepBut.refl _ _ _⟩, ⟨Below.refl _ _⟩⟩
  case round =>
    clear H
    obtain ⟨i, hi1, hi2, hgg, rfl, rfl, HR, HK, HZ⟩ := hrel
    obtain ⟨j, hj⟩ : ∃ j, j = n - 1 - i := ⟨_, rfl⟩
    have HJ := Aside0.mk hj
    rw [← hj]
    by_cases hlt : i < j
    · obtain ⟨a0, a1, a2, a3, a4, af⟩ := rev_cells HR.out (j := i) (by omega) (by omega)
      obtain ⟨b0, b1, b2, b3, b4, _⟩ := rev_cells HR.out (j := j) (by omega) (by omega)
      have hlt' : (i : Int) < (j : Int) := by omega
      have hj0 : (0 : Int) ≤ (j : Int) := by omega
      have hjn : (j : Int) < (n : Int) := by omega
      have hin : (i : Int) < (n : Int) := by omega
      have hi0 : (0 : Int) ≤ (i : Int) := by omega
      have hS := rev_step HR.out hn (by omega)
      rw [← hj] at hS
      have HS := Aside0.mk hS
      clear hj hS
      generalize D i = di at *
      generalize D j = dj at *
      go_wp2
      go_region
      all_goals go_wp2
      all_goals
        go_roundg (n - (i + 1))
        case measure => omega
        case rel =>
          have hj := HJ.out
          refine ⟨i + 1, by omega, by omega, by omega, by go_num, by rw [show ((n - 1 - (i + 1) : Nat) : Int) = (j : Int) - 1 by omega], ?_⟩
          have k1 := keep_drew (putW_keep (g := g) (o := j * 5) di (putW_keep (g := g) (o := i * 5) dj HK.out))
          have k2 := (putW_z (g := g) (o := j * 5) di (putW_z (g := g) (o := i * 5) dj HZ.out)).drew
          have k3 : RevAt (putW (putW wr g (i * 5) dj) g (j * 5) di).drew g cap n D (i + 1) := by
            obtain ⟨cur, q1, q2⟩ := HS.out
            exact ⟨cur, blk_drew q1, q2⟩
          unfold putW at k1 k2 k3
          exact ⟨⟨k3⟩, ⟨k1⟩, ⟨k2⟩⟩
    · have hlt' : ¬ (i : Int) < (j : Int) := by omega
      have hij : n - 1 - i ≤ i := by omega
      clear hj
      go_wp2
      exact bodyPost_end (results_none rfl _ _ _) rfl ⟨rfl, ⟨i, by have := HJ.out; omega, hi1, HR.out⟩, HK.out, HZ.out⟩
end Go.Proofs.Ytfojpobblebigaa.P
namespace Go.Proofs.Ytfojpobblebigaa.P
open Go.RowKit Go.Proofs.YtfojpobblebigaaW.PrintWords Go.Proofs.YtfojpobblebigaaW.PrintLast Go.Proofs.YtfojpobblebigaaW.PrintMore
set_option linter.unusedVariables false
set_option linter.unusedSimpArgs false

theorem N50_D {W : World} {base g cap : Nat} {ok : Nat → Prop} {us : List S50} (h : Kd.N k50 50 W base ok (.slice (some ⟨g, 0, none⟩) us.length cap) us) :
    ∃ D : Nat → S50 × Option Addr × Nat, (∀ j, j < us.length → Kd.FK k50 W (fun k => ok k ∧ k ≠ g) (us.getD j z50) (e5 (D j))) ∧ RevAt W g cap us.length D 0 ∧ base ≤ g ∧ us.length ≤ cap ∧ cap ≤ maxLen := by
  obtain ⟨h0, rows, hl, ⟨_, inner, ho, hr⟩, hf⟩ := h
  have key : ∀ j, ∃ p : Option Addr × Nat, j < us.length → rows[j]? = some (e5 (us.getD j z50, p)) ∧ Kd.FK k50 W (fun k => ok k ∧ k ≠ g) (us.getD j z50) (e5 (us.getD j z50, p)) := fun j => by
    by_cases hj : j < us.length
    · have hx : us[j]? = some (us.getD j z50) := by rw [List.getD_eq_getElem?_getD, List.getElem?_eq_getElem hj]; rfl
      have hc := List.getElem?_eq_getElem (l := rows) (i := j) (by omega)
      have hk := hf j _ _ hx hc
      obtain ⟨A3, c3, he, _⟩ := k50_open (Kd.FK_now hk)
      refine ⟨(A3, c3), fun _ => ⟨?_, ?_⟩⟩
      · rw [hc, he]; rfl
      · rw [he] at hk
        exact Kd.FK_mono hk (fun k hk => ⟨hk.1, fun e => hk.2 (by rw [e]; rfl)⟩)
    · exact ⟨(none, 0), fun h => absurd h hj⟩
  obtain ⟨P, hP⟩ := Classical.skolem.1 key
  obtain ⟨h1, h2⟩ := ho
  rcases h2 with ⟨hv, _⟩ | ⟨g', c', cur, hv, hg, hh, hn, hc, hs, ht⟩
  · cases hv
  · injection hv with ha _ hcc
    injection ha with ha
    injection ha with ha
    subst ha; subst hcc
    have hs5 : cur.size = cap * 5 := hs
    have ht5 : cur.toList.take (rows.length * 5) = inner := ht
    refine ⟨fun j => (us.getD j z50, P j), fun j hj => (hP j hj).2, ⟨cur, hh, hs5, fun j hj q hq => ?_⟩, hg, by omega, hc⟩
    rw [if_neg (by omega)]
    have q1 : (inner.drop (j * 5)).take 5 = e5 (us.getD j z50, P j) := (hr.2 j _ (hP j hj).1).1
    rw [← q1, List.getElem?_take, if_pos hq, List.getElem?_drop, ← ht5, List.getElem?_take, if_pos (by omega), Array.getElem?_toList]
theorem chunk5 {L : Array Value} {n j : Nat} {p : List Value} (hp : p.length = 5) (hj : j < n) (h : ∀ q, q < 5 → L[j * 5 + q]? = p[q]?) : ((L.toList.take (n * 5)).drop (j * 5)).take 5 = p := by
  refine List.ext_getElem? fun q => ?_
  by_cases hq : q < 5
  · rw [List.getElem?_take, if_pos hq, List.getElem?_drop, List.getElem?_take, if_pos (by omega), Array.getElem?_toList]
    exact h q hq
  · rw [List.getElem?_take, if_neg hq, List.getElem?_eq_none (by omega)]
theorem e5_one (d : S50 × Option Addr × Nat) : ∀ u ∈ e5 d, u.oneCell' = true := by
  intro u hu
  simp only [e5, List.mem_cons, List.not_mem_nil, or_false] at hu
  rcases hu with rfl | rfl | rfl | rfl | rfl <;> rfl
theorem N50_rev {W w' : World} {base g cap i : Nat} {ok : Nat → Prop} {us : List S50} {D : Nat → S50 × Option Addr × Nat} (h0 : ok g) (hf : ∀ j, j < us.length → Kd.FK k50 W (fun k => ok k ∧ k ≠ g) (us.getD j z50) (e5 (D j)))
    (hg : base ≤ g) (hn : us.length ≤ cap) (hc : cap ≤ maxLen) (hR : RevAt w' g cap us.length D i) (hi : us.length - 1 - i ≤ i) (hin : i ≤ us.length) (hK : KeepBut W w' g none) :
    Kd.N k50 50 w' base ok (.slice (some ⟨g, 0, none⟩) us.length cap) us.reverse := by
  obtain ⟨cur, hb, hs, hcc⟩ := hR
  have hrl : ((List.range us.length).map fun j => e5 (D (us.length - 1 - j))).length = us.length := by simp
  refine ⟨fun k hk => by simp [Value.ownBlock] at hk; subst hk; exact h0, (List.range us.length).map fun j => e5 (D (us.length - 1 - j)), by simp, ⟨fun k hk => hk.symm, cur.toList.take (us.length * 5), ⟨?_, .inr ⟨g, cap, cur, by rw [hrl], hg, hb, by rw [hrl]; exact hn, hc, hs, by rw [hrl]; rfl⟩⟩, ⟨?_, fun j p hj => ?_⟩⟩, fun j x c hx hc0 => ?_⟩
  · rw [hrl, List.length_take, (Array.length_toList (xs := cur)).trans hs]
    exact Nat.min_eq_left (Nat.mul_le_mul_right _ hn)
  · rw [hrl, List.length_take, (Array.length_toList (xs := cur)).trans hs]
    exact Nat.min_eq_left (Nat.mul_le_mul_right _ hn)
  · rw [List.getElem?_map] at hj
    rcases Nat.lt_or_ge j us.length with hjl | hjl
    · rw [List.getElem?_range hjl] at hj
      obtain rfl := Option.some.inj hj
      have e := chunk5 (L := cur) (n := us.length) (j := j) (p := e5 (D (us.length - 1 - j))) rfl hjl (fun q hq => by
        rw [hcc j hjl q hq]
        congr 3
        by_cases h9 : j < i ∨ us.length ≤ j + i
        · rw [if_pos h9]
        · rw [if_neg h9]; omega)
      exact ⟨e, by rw [show (Kd.raw k50.sz).sz = 5 from rfl, e]; rfl, by rw [show (Kd.raw k50.sz).sz = 5 from rfl, e]; exact e5_one _⟩
    · rw [List.getElem?_eq_none (by simpa using hjl)] at hj
      cases hj
  · rw [List.getElem?_map] at hc0
    have hjl : j < us.length := by have := (List.getElem?_eq_some_iff.1 hx).1; simpa using this
    rw [List.getElem?_range hjl] at hc0
    obtain rfl := Option.some.inj hc0
    rw [List.getElem?_reverse hjl] at hx
    have hx2 : us.getD (us.length - 1 - j) z50 = x := by rw [List.getD_eq_getElem?_getD, hx]; rfl
    have := hf (us.length - 1 - j) (by omega)
    rw [hx2] at this
    exact Kd.FK_mono (Kd.FK_step this (fun k hk hlt => hK.2 k hlt hk.2 (by simp))) (fun k hk => ⟨hk.1, fun e => hk.2 (by simpa [Value.ownBlock] using e)⟩)
end Go.Proofs.Ytfojpobblebigaa.P
namespace Go.Proofs.Ytfojpobblebigaa.P
open Go.RowKit Go.Proofs.YtfojpobblebigaaW.PrintWords Go.Proofs.YtfojpobblebigaaW.PrintLast Go.Proofs.YtfojpobblebigaaW.PrintMore
set_option linter.unusedVariables false
set_option linter.unusedSimpArgs false

set_option maxHeartbeats 8000000 in
set_option maxRecDepth 100000 in
theorem rev_empty (A : Option Addr) (c : Nat) (w : World) : Calls Try.prog 44 #[.slice A 0 c] w fun e w' => e = .returned (.tuple #[]) ∧ w' = w := by
  have mixed : Try.prog.follows Departure.mixedOrders = true := by kernel_rfl
  go_enter Try.func44, Try.ntmps44
  go_wp2
  go_loopg [2, 3] 0 (fun _ s2 s3 wr => s2 = .int .i64 0 ∧ s3 = .int .i64 (-1) ∧ wr = w)
  case atStart => exact ⟨rfl, rfl, rfl⟩
  case round =>
    obtain ⟨rfl, rfl, rfl⟩ := hrel
    go_wp2
    exact bodyPost_end (results_none rfl _ _ _) rfl ⟨rfl, rfl⟩
theorem rev_c (W : World) (base : Nat) (ok : Nat → Prop) (v : Value) (us : List S50) (h : Kd.N k50 50 W base ok v us) (hl : us.length ≤ LIM) :
    Calls Try.prog 44 #[v] W fun e w' => e = .returned (.tuple #[]) ∧ Kd.N k50 50 w' base ok v us.reverse ∧ Below base W w' := by
  rcases Nat.eq_zero_or_pos us.length with h0 | hp
  · have : us = [] := List.eq_nil_of_length_eq_zero h0
    subst this
    obtain ⟨A, c, rfl⟩ := Kd.N_slice h
    refine (rev_empty A c W).mono ?_
    rintro e w' ⟨rfl, rfl⟩
    exact ⟨rfl, h, Below.refl _ _⟩
  · obtain ⟨g, cap, rfl, hg, hg1, _⟩ := Kd.N_form h hp
    obtain ⟨D, hf, hR, _, hn, hc⟩ := N50_D h
    refine (reverse_walk g cap us.length D W hR hn hp hl).mono ?_
    rintro e w' ⟨rfl, ⟨i, hi, hin, hR2⟩, hK, hZ⟩
    exact ⟨rfl, N50_rev (h.1 g rfl) hf hg hn hc hR2 hi hin hK, ⟨hZ.os, hZ.tape, hZ.output, hZ.size, fun k hk => hK.2 k (by omega) (by omega) (by simp)⟩⟩

theorem F_new62 (W : World) (ok : Nat → Prop) (r : List S30) (A : Option Addr) (c : Nat) (hl : r.length ≤ c) (hf : Kd.F k30 W ok A r.length r) (hok : ok W.heap.size) : Kd.F k62 (W.alloc (.cells #[.slice A r.length c, .slice none 0 0, .slice none 0 0] 62)) ok (some ⟨W.heap.size, 0, none⟩) 1 [{ z62 with f0 := r }] := fun W' hW => by
  have hb : W'.heap[W.heap.size]? = some (.cells #[.slice A r.length c, .slice none 0 0, .slice none 0 0] 62 (0, 0)) := (hW _ hok (by simp)).trans (heap_alloc_new W _)
  have h3 := hf W' (fun k hk hlt => (hW k hk (by simp; omega)).trans (Below.heap_alloc W _ k hlt))
  refine ⟨rfl, by omega, fun _ => ⟨_, rfl, fun j p hj => ?_⟩⟩
  rcases j with _ | j
  · obtain rfl : ({ z62 with f0 := r } : S62) = p := by simpa using hj
    refine ⟨[.slice A r.length c, .slice none 0 0, .slice none 0 0], rfl, k62_mk W' { z62 with f0 := r } hl h3 (A1 := none) (c1 := 0) (Nat.le_refl _) (Kd.C_nil _ _) (A2 := none) (c2 := 0) (Nat.le_refl _) (Kd.C_nil _ _), fun i v hi => ?_⟩
    rw [Addr.add_lit, blk_cell hb]
    show (#[.slice A r.length c, .slice none 0 0, .slice none 0 0] : Array Value)[0 + (0 * 3 + i)]? = _
    rw [Nat.zero_mul, Nat.zero_add, Nat.zero_add]
    simpa using hi
  · simp at hj
def dropL (l : List S62) : List S62 × List S50 :=
  if l.length = 0 then (l, []) else (if l.length = 1 then [{ z62 with f0 := (l.getD (l.length - 1) z62).f0 }] else foldRL l, (l.getD (l.length - 1) z62).f2.reverse)
def nDrop.f (l : List S62) : Option (List S62 × List S50) := if 2 * tot l < LIM then some (dropL l) else none
set_option maxHeartbeats 16000000 in
set_option maxRecDepth 100000 in
theorem nDrop.calls (P0 : Nat → Prop) (A0 : Option Addr) (c0 : Nat) (l0 : List S62) (r1 : List S62) (r2 : List S50) (w : World) (hs0 : Kd.V k62 62 w w.heap.size (fun k_ => P0 k_) (.slice A0 l0.length c0) l0) (h : nDrop.f l0 = some (r1, r2)) :
    Calls Try.prog 16 #[.slice A0 l0.length c0] w fun e w' => ∃ v0_ v1_ : Value, e = .returned (.tuple #[v0_, v1_]) ∧ Kd.V k62 62 w' w.heap.size (fun k_ => P0 k_ ∨ w.heap.size ≤ k_) v0_ r1 ∧ Kd.V k50 50 w' w.heap.size (fun k_ => P0 k_ ∨ w.heap.size ≤ k_) v1_ r2 ∧ Below w.heap.size w w' := by
  unfold nDrop.f at h
  split at h
  case isFalse => cases h
  case isTrue hT =>
  have h2 := Option.some.inj h
  clear h
  obtain ⟨hn, hc, hF⟩ := Kd.V_at hs0
  have mixed : Try.prog.follows Departure.mixedOrders = true := by kernel_rfl
  by_cases h0 : l0.length = 0
  · unfold dropL at h2
    rw [if_pos h0] at h2
    obtain ⟨rfl, rfl⟩ := Prod.mk.inj h2
    have : l0 = [] := List.eq_nil_of_length_eq_zero h0
    subst this
    have H := Aside0.mk hs0
    clear h2 hF hs0 h0 hT
    go_enter Try.func16, Try.ntmps16
    go_wp2
    refine bodyPost_ret (results_tmp2 rfl _ _ _) rfl ?_
    exact ⟨_, _, rfl, Kd.V_mono H.out (fun k hk => .inl hk), Kd.V_nil _ _ _ _ _, Below.refl _ _⟩
  · have hne : 0 < l0.length := by omega
    obtain ⟨ad, B0, d0, B1, d1, B2, d2, rfl, e0, e1, e2, m0, f0, m1, f1, m2, f2⟩ := F62_at hF (l0.length - 1) (by omega)
    have hm := tot_mem (last_mem hne)
    have hl63 : l0.length ≤ 9223372036854775807 := (Kd.F_now hF).2.1
    have HD := Aside0.mk h2
    generalize hz : l0.getD (l0.length - 1) z62 = z at *
    have hB : Below w.heap.size w (w.alloc (.cells #[.slice B0 z.f0.length d0, .slice B1 z.f1.length d1, .slice B2 z.f2.length d2] 62)) := below_alloc (Below.refl _ _) _
    have hsz : w.heap.size + 1 = (w.alloc (.cells #[.slice B0 z.f0.length d0, .slice B1 z.f1.length d1, .slice B2 z.f2.length d2] 62)).heap.size := by simp
    have HCU := Aside0.mk (cloneU P0 B2 z.f2.length d2 z.f2 _ (Kd.F_below f2 hB) m2 (by omega))
    have HCR := Aside0.mk (fun W (hb : Below w.heap.size w W) => cloneR P0 B0 z.f0.length d0 z.f0 W (Kd.F_below f0 hb) m0 (by omega))
    have HCF := Aside0.mk (fun W (hb : Below w.heap.size w W) => foldR P0 (some ad) c0 l0 W (Kd.F_below hF hb) hc hne hT)
    have HCV := Aside0.mk (fun W base ok v (hN : Kd.N k50 50 W base ok v z.f2) => rev_c W base ok v z.f2 hN (by omega))
    have HB := Aside0.mk hB
    have HSZ := Aside0.mk hsz
    have hn0 : ¬ ((l0.length : Int) = 0) := by omega
    have hi0 : (0 : Int) ≤ (l0.length : Int) - 1 := by omega
    have hi1 : (l0.length : Int) - 1 < (l0.length : Int) := by omega
    have hw1 : IntKind.i64.wrap ((l0.length : Int) - 1) = (l0.length : Int) - 1 := by rw [IntKind.wrap_i64]; omega
    have htn : ((l0.length : Int) - 1).toNat = l0.length - 1 := by omega
    clear hF hs0 h2 f0 f1 f2 hB hsz
    go_enter Try.func16, Try.ntmps16
    go_wp2_with fail
    refine HCU.out.mono ?_
    rintro e w2 ⟨v, rfl, hN, hB2⟩
    obtain ⟨A9, c9, rfl⟩ := Kd.N_slice hN
    have b0 : w2.cell? ⟨w.heap.size, 0, none⟩ = some (.slice B0 z.f0.length d0) := (hB2.cell (p := ⟨w.heap.size, 0, none⟩) (by simp)).trans (by simp)
    have HN2 := Aside0.mk hN
    have HB2 := Aside0.mk (HB.out.trans (hB2.mono (by simp)))
    have HS2 := Aside0.mk hB2.size
    clear hN hB2
    go_wp2_with fail
    refine (HCV.out _ _ _ _ HN2.out).mono ?_
    rintro e w3 ⟨rfl, hN3, hB3⟩
    have b0' := (hB3.cell (p := ⟨w.heap.size, 0, none⟩) (by simp)).trans b0
    have HN3 := Aside0.mk (Kd.N_V (base' := w.heap.size) hN3)
    have HB3 := Aside0.mk (HB2.out.trans (hB3.mono (by simp)))
    clear hN3 hB3 b0 HN2
    by_cases h1 : l0.length = 1
    · have h1' : (l0.length : Int) = 1 := by omega
      have hd := HD.out
      unfold dropL at hd
      rw [if_neg h0, if_pos h1, hz] at hd
      obtain ⟨rfl, rfl⟩ := Prod.mk.inj hd
      clear hd
      go_wp2_with (go_at_call 45; refine (HCR.out w3 HB3.out).mono ?_; rintro e w4 ⟨v4, rfl, hN4, hb4⟩; obtain ⟨A8, c8, rfl⟩ := Kd.N_slice hN4; have H1 := Aside0.mk hN4; have H2 := Aside0.mk hb4; clear hN4 hb4)
      refine bodyPost_ret (results_tmp2 rfl _ _ _) rfl ?_
      have hs3 := HB3.out.size
      have hs4 := H2.out.size
      have hal : Below w4.heap.size w4 (w4.alloc (.cells #[.slice A8 z.f0.length c8, .slice none 0 0, .slice none 0 0] 62)) := below_alloc (Below.refl _ _) _
      have hF4 := F_new62 w4 (fun k => P0 k ∨ w3.heap.size ≤ k) z.f0 A8 c8 (Kd.N_reads' H1.out).2.1 (Kd.N_F H1.out) (.inr hs4)
      have hV4 : Kd.V k62 62 _ w.heap.size (fun k => P0 k ∨ w3.heap.size ≤ k) (.slice (some ⟨w4.heap.size, 0, none⟩) [({ z62 with f0 := z.f0 } : S62)].length 1) [{ z62 with f0 := z.f0 }] := Kd.V_mk (by simp) hF4
      refine ⟨_, _, rfl, Kd.V_mono hV4 (fun k hk => hk.imp id (fun h => Nat.le_trans hs3 h)), Kd.V_mono (Kd.V_below (Kd.V_below HN3.out H2.out) hal) (fun k hk => hk.imp id (fun h => ?_)), HB3.out.trans ((H2.out.mono hs3).trans (hal.mono (Nat.le_trans hs3 hs4)))⟩
      have := HSZ.out
      omega
    · have h1' : ¬ ((l0.length : Int) = 1) := by omega
      have hd := HD.out
      unfold dropL at hd
      rw [if_neg h0, if_neg h1, hz] at hd
      obtain ⟨rfl, rfl⟩ := Prod.mk.inj hd
      clear hd
      go_wp2_with fail
      refine (HCF.out w3 HB3.out).mono ?_
      rintro e w4 ⟨v4, rfl, hV, hb4⟩
      obtain ⟨A8, c8, rfl⟩ := Kd.V_slice hV
      have H1 := Aside0.mk hV
      have H2 := Aside0.mk hb4
      clear hV hb4
      go_wp2
      refine bodyPost_ret (results_tmp2 rfl _ _ _) rfl ?_
      have hs3 := HB3.out.size
      refine ⟨_, _, rfl, Kd.V_mono (Kd.V_lower H1.out hs3) (fun k hk => hk.imp id (fun h => Nat.le_trans hs3 h)), Kd.V_mono (Kd.V_below HN3.out H2.out) (fun k hk => hk.imp id (fun h => ?_)), HB3.out.trans (H2.out.mono hs3)⟩
      have := HSZ.out
      omega
end Go.Proofs.Ytfojpobblebigaa.P
namespace Go.Proofs.Ytfojpobblebigaa.P
open Go.RowKit Go.Proofs.YtfojpobblebigaaW.PrintWords Go.Proofs.YtfojpobblebigaaW.PrintLast Go.Proofs.YtfojpobblebigaaW.PrintMore
set_option linter.unusedVariables false
set_option linter.unusedSimpArgs false

def sz62 (x : S62) : Nat := x.f0.length + x.f1.length + x.f2.length
def allL (l : List S62) : S62 := l.foldl joinWM z62
theorem readL_len : ∀ (b a : List S30), (readL a b).length ≤ a.length + b.length
  | [], a => Nat.le_refl _
  | s :: b, a => by
    have h1 := readL_len b (readStep a s)
    have h2 := readStep_len a s
    show (readL (readStep a s) b).length ≤ _
    rw [List.length_cons]; omega
theorem writeL_len : ∀ (b a : List S33), (writeL a b).length ≤ a.length + b.length
  | [], a => Nat.le_refl _
  | s :: b, a => by
    have h1 := writeL_len b (putStep a s)
    have h2 := putStep_len a s
    show (writeL (putStep a s) b).length ≤ _
    rw [List.length_cons]; omega
theorem allL_len (l : List S62) : ∀ k, k ≤ l.length → sz62 (allL (l.take k)) ≤ ((l.take k).map sz62).sum
  | 0, _ => by simp [allL, sz62, z62]
  | k + 1, hk => by
    have ih := allL_len l k (by omega)
    have e : l.take (k + 1) = l.take k ++ [l.getD k z62] := by
      rw [List.take_add_one, List.getD_eq_getElem?_getD, List.getElem?_eq_getElem (by omega)]; rfl
    have e2 : allL (l.take (k + 1)) = joinWM (allL (l.take k)) (l.getD k z62) := by rw [e]; unfold allL; rw [List.foldl_append]; rfl
    rw [e2, e, List.map_append, List.sum_append]
    have h1 := readL_len (l.getD k z62).f0 (allL (l.take k)).f0
    have h2 := writeL_len (l.getD k z62).f1 (allL (l.take k)).f1
    simp only [List.map_cons, List.map_nil, List.sum_cons, List.sum_nil]
    unfold joinWM sz62 at *
    simp only at *
    omega
theorem allL_tot (l : List S62) (k : Nat) (hk : k ≤ l.length) : sz62 (allL (l.take k)) ≤ tot l := by
  have h := allL_len l k hk
  have h2 : ((l.take k).map sz62).sum ≤ (l.map sz62).sum := by
    conv => rhs; rw [← List.take_append_drop k l]
    rw [List.map_append, List.sum_append]; omega
  unfold tot
  have e : (l.map fun x => x.f0.length + x.f1.length + x.f2.length).sum = (l.map sz62).sum := rfl
  omega
def nAll.f (l : List S62) : Option (List S30 × List S33) := if 2 * tot l < LIM then some ((allL l).f0, (allL l).f1) else none
set_option maxHeartbeats 16000000 in
set_option maxRecDepth 100000 in
theorem nAll.calls (P0 : Nat → Prop) (A0 : Option Addr) (c0 : Nat) (l0 : List S62) (r1 : List S30) (r2 : List S33) (w : World) (hs0 : Kd.V k62 62 w w.heap.size (fun k_ => P0 k_) (.slice A0 l0.length c0) l0) (h : nAll.f l0 = some (r1, r2)) :
    Calls Try.prog 27 #[.slice A0 l0.length c0] w fun e w' => ∃ v0_ v1_ : Value, e = .returned (.tuple #[v0_, v1_]) ∧ Kd.V k30 30 w' w.heap.size (fun k_ => P0 k_ ∨ w.heap.size ≤ k_) v0_ r1 ∧ Kd.V k33 33 w' w.heap.size (fun k_ => P0 k_ ∨ w.heap.size ≤ k_) v1_ r2 ∧ Below w.heap.size w w' := by
  unfold nAll.f at h
  split at h
  case isFalse => cases h
  case isTrue hT =>
  obtain ⟨rfl, rfl⟩ := Prod.mk.inj (Option.some.inj h)
  obtain ⟨hn, hc, hF⟩ := Kd.V_at hs0
  have mixed : Try.prog.follows Departure.mixedOrders = true := by kernel_rfl
  have hl63 : l0.length ≤ 9223372036854775807 := (Kd.F_now hF).2.1
  have HT := Aside0.mk hT
  have hB : Below w.heap.size w (w.alloc (.cells #[.slice none 0 0, .slice none 0 0, .slice none 0 0] 62)) := below_alloc (Below.refl _ _) _
  have HF := Aside0.mk (Kd.F_old hF hB)
  have HL0 := Aside0.mk (lvl_mk (W := w.alloc (.cells #[.slice none 0 0, .slice none 0 0, .slice none 0 0] 62)) (g := w.heap.size) (off := 0) (ok := fun k => P0 k ∨ w.heap.size ≤ k) (x := z62) (cs := #[.slice none 0 0, .slice none 0 0, .slice none 0 0]) (heap_alloc_new w _) rfl rfl rfl (Nat.le_refl _) (Kd.F_nil _ _ _) (Nat.le_refl _) (Kd.F_nil _ _ _) (Nat.le_refl _) (Kd.F_nil _ _ _))
  have HB := Aside0.mk hB
  have hs1 : (w.alloc (.cells #[.slice none 0 0, .slice none 0 0, .slice none 0 0] 62)).heap.size = w.heap.size + 1 := by simp
  have HS1 := Aside0.mk hs1
  clear h hs0 hF hT hB hs1
  obtain ⟨g, hg⟩ : ∃ g, g = w.heap.size := ⟨_, rfl⟩
  go_enter Try.func27, Try.ntmps27
  go_wp2_with fail
  rw [← hg] at HL0 ⊢
  generalize w.alloc (.cells #[.slice none 0 0, .slice none 0 0, .slice none 0 0] 62) = W1 at HF HL0 HB HS1 ⊢
  have HL1 := Aside0.mk (Eq.mp (congrArg (fun t => Lvl W1 g 0 (fun k => P0 k ∨ t ≤ k) z62 #[.slice none 0 0, .slice none 0 0, .slice none 0 0]) hg) HL0.out)
  have HGE := Aside0.mk hg
  clear hg HL0
  go_loopg [6, 9] l0.length (fun gg _ s9 wr => ∃ kk : Nat, kk ≤ l0.length ∧ l0.length - kk ≤ gg ∧ s9 = .int .i64 kk ∧ ∃ cs, Aside0 (Lvl wr g 0 (fun k => P0 k ∨ w.heap.size ≤ k) (allL (l0.take kk)) cs) ∧ Aside0 (KeepBut W1 wr g none) ∧ Aside0 (Below 0 W1 wr))
  case atStart => exact ⟨0, Nat.zero_le _, by omega, rfl, _, HL1, ⟨KeepBut.refl _ _ _⟩, ⟨Below.refl _ _⟩⟩
  case round =>
    clear HL1
    obtain ⟨kk, hkk, hgg, rfl, cs, HL, HK, HZ⟩ := hrel
    by_cases hlt : kk < l0.length
    · have hlt' : (kk : Int) < (l0.length : Int) := by omega
      have hk0 : (0 : Int) ≤ (kk : Int) := by omega
      have hFr := Kd.F_keep HF.out HK.out (fun k hk => by have := hk.2; have := HGE.out; omega)
      obtain ⟨ad, B0, d0, B1, d1, B2, d2, rfl, e0, e1, e2, m0, f0, m1, f1, m2, f2⟩ := F62_at hFr kk hlt
      have hm := tot_mem (x := l0.getD kk z62) (by rw [List.getD_eq_getElem?_getD, List.getElem?_eq_getElem hlt]; exact List.getElem_mem _)
      have ht := allL_tot l0 kk (by omega)
      have hT := HT.out
      have hst : allL (l0.take (kk + 1)) = joinWM (allL (l0.take kk)) (l0.getD kk z62) := by
        rw [List.take_add_one, List.getElem?_eq_getElem hlt, List.getD_eq_getElem?_getD, List.getElem?_eq_getElem hlt]
        unfold allL
        rw [Option.toList_some, List.foldl_append]
        rfl
      have HST := Aside0.mk hst
      clear hst hFr
      generalize l0.getD kk z62 = z at *
      generalize allL (l0.take kk) = x at *
      unfold sz62 at ht
      have hB1 : Below wr.heap.size wr (wr.alloc (.cells #[.slice B0 z.f0.length d0, .slice B1 z.f1.length d1, .slice B2 z.f2.length d2] 62)) := below_alloc (Below.refl _ _) _
      have hgs := blk_lt HL.out.1
      have hmo : ∀ k, P0 k ∧ k < w.heap.size → (P0 k ∨ w.heap.size ≤ k) ∧ k ≠ g := fun k hk => ⟨.inl hk.1, by have := HGE.out; omega⟩
      have HC := Aside0.mk (joinW _ g 0 (fun k => P0 k ∨ w.heap.size ≤ k) x z cs B0 B1 B2 d0 d1 d2 (lvl_below HL.out hB1) (Kd.F_mono (Kd.F_below f0 hB1) hmo) (Kd.F_mono (Kd.F_below f1 hB1) hmo) (Kd.F_mono (Kd.F_below f2 hB1) hmo) (by omega) (by omega) (by omega) (fun k hk => .inr (by have := hB1.size; have := HK.out.1; have := HS1.out; omega)))
      have HB1 := Aside0.mk hB1
      clear f0 f1 f2 hB1 hm ht hT hmo hgs
      go_wp2_with fail
      refine HC.out.mono ?_
      rintro e w4 ⟨rfl, hq⟩
      obtain ⟨cs4, q1, q2, q3, q4⟩ := LvlTo.of_below HB1.out hq
      have HQ := Aside0.mk (And.intro q1 (And.intro q3 q4))
      clear hq q1 q2 q3 q4
      go_wp2
      go_roundg (l0.length - (kk + 1))
      case measure => omega
      case rel =>
        refine ⟨kk + 1, by omega, by omega, by go_num, cs4, ⟨?_⟩, ⟨HK.out.trans HQ.out.2.1 (.inl rfl)⟩, ⟨HZ.out.trans HQ.out.2.2⟩⟩
        rw [HST.out]; exact HQ.out.1
    · have hk2 : kk = l0.length := by omega
      subst hk2
      have hlt' : ¬ (l0.length : Int) < (l0.length : Int) := by omega
      rw [List.take_length] at HL
      obtain ⟨A1, c1, A2, c2, A3, c3, hb, h0, h1, h2, l1, f1, l2, f2, l3, f3⟩ := lvl_parts HL.out
      obtain ⟨q0, q0'⟩ := lp_cell hb h0
      obtain ⟨q1, q1'⟩ := lp_cell hb h1
      have H1 := Aside0.mk (Kd.V_mk (d := k30) (e := 30) (base := w.heap.size) l1 (Kd.F_mono f1 (fun k hk => hk.1)))
      have H2 := Aside0.mk (Kd.V_mk (d := k33) (e := 33) (base := w.heap.size) l2 (Kd.F_mono f2 (fun k hk => hk.1)))
      have HBW := Aside0.mk (below_of_keep HB.out HK.out HZ.out (by have := HGE.out; omega))
      clear hb h0 h1 h2 f1 f2 f3
      go_wp2
      go_region
      all_goals go_wp2
      all_goals refine bodyPost_ret (results_tmp2 rfl _ _ _) rfl ?_
      all_goals exact ⟨_, _, rfl, Kd.V_drew H1.out, Kd.V_drew H2.out, HBW.out.drew⟩
end Go.Proofs.Ytfojpobblebigaa.P
namespace Go.Proofs.Ytfojpobblebigaa.P
open Go.RowKit Go.Shelf Go.Proofs.YtfojpobblebigaaW.PrintWords Go.Proofs.YtfojpobblebigaaW.PrintLast Go.Proofs.YtfojpobblebigaaW.PrintMore
attribute [local go_sem] Oper.semAt_some
set_option linter.unusedVariables false
set_option linter.unusedSimpArgs false

/-- The places n - 1, n - 2, .., k. -/
def dn (n k : Nat) : List (Fin n) := ((List.finRange n).drop k).reverse
theorem dn_nil (n : Nat) : dn n n = [] := by unfold dn; simp
theorem dn_succ {n m : Nat} (h : m < n) : dn n m = dn n (m + 1) ++ [⟨m, h⟩] := by
  unfold dn
  rw [List.drop_eq_getElem_cons (by simpa using h), List.reverse_cons]
  simp
theorem dn_length (n k : Nat) : (dn n k).length = n - k := by unfold dn; simp

theorem add_block (ad : Addr) (n : Nat) : (ad.add n).block = ad.block := by unfold Addr.add; split <;> rfl
/-- A row of levels, by its cells: in a block below n₀. -/
def LRow (n₀ : Nat) (W : World) (ad : Addr) (n : Nat) (D : Nat → Value × Value × Value) : Prop :=
  ad.block < n₀ ∧ ∀ i, i < n → W.cell? (ad.add (i * 3)) = some (D i).1 ∧ W.cell? ⟨(ad.add (i * 3)).block, (ad.add (i * 3)).off + 1, none⟩ = some (D i).2.1 ∧ W.cell? ⟨(ad.add (i * 3)).block, (ad.add (i * 3)).off + 2, none⟩ = some (D i).2.2
theorem LRow.below {n₀ : Nat} {A B : World} {ad : Addr} {n : Nat} {D : Nat → Value × Value × Value} (h : Below n₀ A B) (hl : LRow n₀ A ad n D) : LRow n₀ B ad n D :=
  ⟨hl.1, fun i hi => ⟨(h.cell (p := ad.add (i * 3)) (by rw [add_block]; exact hl.1)).trans (hl.2 i hi).1, (h.cell (p := ⟨(ad.add (i * 3)).block, (ad.add (i * 3)).off + 1, none⟩) (by rw [add_block]; exact hl.1)).trans (hl.2 i hi).2.1, (h.cell (p := ⟨(ad.add (i * 3)).block, (ad.add (i * 3)).off + 2, none⟩) (by rw [add_block]; exact hl.1)).trans (hl.2 i hi).2.2⟩⟩
def encL (D : Nat → Value × Value × Value) (k : Nat) : Array Value := #[.int .i64 (k : Int), .agg #[(D k).1, (D k).2.1, (D k).2.2]]

set_option maxRecDepth 100000 in
set_option maxHeartbeats 4000000 in
/-- The closure, at a row that is not empty. -/
theorem back1 (F : Fence) (f : Nat) (h62 : F.fn 62) (hro : F.round = none) (hn : 1 ≤ f) (l Bs n₀ : Nat) (ad : Addr) (n cap : Nat) (D : Nat → Value × Value × Value) (hmax : n ≤ 9223372036854775807) (J Jx : List (Fin n) → World → Prop)
    (hY : ∀ pre x W, J pre W → pre.length < n → YieldAt F (f - 1) Try.prog l (encL D x.1) W fun e W' =>
      (e = .returned (.bool true) ∧ J (pre ++ [x]) W' ∧ Below n₀ W W') ∨ (e = .returned (.bool false) ∧ Jx (pre ++ [x]) W'))
    (W : World) (hBn : Bs < n₀) (hBs : W.cell? ⟨Bs, 0, none⟩ = some (.slice (some ad) n cap)) (hL : LRow n₀ W ad n D) (h0 : J [] W) :
    CallsIn F f Try.prog 62 #[.func (.yield l) #[] #[], .pointer (some ⟨Bs, 0, none⟩)] W fun e W' => (∃ v, e = .returned v) ∧
      ((∃ ys, ys = dn n 0 ∧ J ys W') ∨ (∃ pre, (∃ k, k < n ∧ pre = dn n k) ∧ Jx pre W')) := by
  refine callsIn_of_wp Try.func62 rfl h62 ?_ hro
  simp only [Try.ntmps62, List.size_toArray, List.length_cons, List.length_nil, Nat.reduceAdd, Nat.reduceSub, Array.replicate_succ, Array.replicate_zero, List.push_toArray, List.append_toArray, List.nil_append, List.cons_append]
  gi_wp2
  gi_loopw [3] (fun i wr => ∃ (k : Nat) (v : Int), k ≤ n ∧ v = (k : Int) - 1 ∧ i = .int .i64 v ∧ J (dn n k) wr ∧ Below n₀ W wr)
    (fun i _ => (intOf i + 1).toNat)
  case atStart => exact ⟨n, _, Nat.le_refl _, rfl, rfl, by rw [dn_nil]; exact h0, Below.refl _ _⟩
  case round =>
    obtain ⟨k, v, hk, hv, rfl, hJs, hB⟩ := hrel
    cases k with
    | zero =>
      obtain rfl : v = -1 := by omega
      clear hv
      gi_wp2
      go_end0
      exact ⟨⟨_, rfl⟩, .inl ⟨_, rfl, hJs⟩⟩
    | succ m =>
      obtain rfl : v = (m : Int) := by omega
      clear hv
      have hc := (hB.cell (p := ⟨Bs, 0, none⟩) hBn).trans hBs
      obtain ⟨c0, c1, c2⟩ := (hL.below hB).2 m (by omega)
      have hmi : (m : Int) < (n : Int) := by omega
      obtain ⟨fn, tmps, assign, body, hy, hR⟩ := hY _ ⟨m, by omega⟩ wr hJs (by rw [dn_length]; omega)
      unfold encL at hy
      dsimp only at hy
      have HB := Aside0.mk hB
      clear hB
      gi_wp2
      refine hR.mono ?_
      rintro e W3 (⟨rfl, hJ3, hk3⟩ | ⟨rfl, hJx3⟩)
      · gi_wp2
        go_roundw
        case rel => exact ⟨m, _, by omega, rfl, rfl, by rw [dn_succ (show m < n by omega)]; exact hJ3, HB.out.trans hk3⟩
        case measure => simp [intOf]
      · gi_wp2
        refine bodyPost_ret (results_none rfl _ _ _) rfl ?_
        exact ⟨⟨_, rfl⟩, .inr ⟨_, ⟨m, by omega, (dn_succ (show m < n by omega)).symm⟩, hJx3⟩⟩
end Go.Proofs.Ytfojpobblebigaa.P
