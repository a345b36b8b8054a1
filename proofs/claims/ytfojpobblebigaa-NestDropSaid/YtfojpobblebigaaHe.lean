/- Walk, by hand: nest.write through a pointer to a level. -/
import Derived.Test.YtfojpobblebigaaHd
import Derived.Deep.RegionWith
namespace Go.Proofs.Ytfojpobblebigaa.P
open Go.RowKit Go.Proofs.YtfojpobblebigaaW.PrintWords Go.Proofs.YtfojpobblebigaaW.PrintLast Go.Proofs.YtfojpobblebigaaW.PrintMore
set_option linter.unusedVariables false
set_option linter.unusedSimpArgs false

/-- One write: in the place of an earlier one of the location, or ahead of the first greater location. -/
def putStep (l : List S33) (x : S33) : List S33 := if l.any (fun y => y.f0 == x.f0) then l.set (l.findIdx (fun y => y.f0 == x.f0)) x else ins l (l.findIdx (fun y => decide (x.f0 < y.f0))) x
def writeL (l more : List S33) : List S33 := more.foldl putStep l
theorem putStep_len (l : List S33) (x : S33) : (putStep l x).length ≤ l.length + 1 := by
  unfold putStep
  split
  · simp
  · rw [ins_len _ _ _ List.findIdx_le_length]; exact Nat.le_refl _
theorem writeL_take (l more : List S33) (k : Nat) (hk : k < more.length) : writeL l (more.take (k + 1)) = putStep (writeL l (more.take k)) (more.getD k z33) := by
  unfold writeL
  rw [List.take_add_one, List.foldl_append, List.getD_eq_getElem?_getD, List.getElem?_eq_getElem hk]
  rfl
theorem wc_set : ∀ (l : List S33) (k : Nat) (x : S33), k < l.length → ((wc l).set (k * 2) (.int .i64 x.f0)).set (k * 2 + 1) (.int .i64 x.f1) = wc (l.set k x)
  | [], k, x, h => by simp at h
  | y :: l, 0, x, h => rfl
  | y :: l, k + 1, x, h => by
    rw [wc_cons, List.set_cons_succ, wc_cons, ← wc_set l k x (by simpa using h), show (k + 1) * 2 = k * 2 + 2 by omega]
    rfl
theorem own_set33 {W : World} {base g c : Nat} {l : List S33} (h : W.ownsRow base 33 2 (.slice (some ⟨g, 0, none⟩) l.length c) l.length (wc l)) (k : Nat) (hk : k < l.length) (x : S33) :
    ((W.setCell ⟨g, k * 2, none⟩ (.int .i64 x.f0)).setCell ⟨g, k * 2 + 1, none⟩ (.int .i64 x.f1)).ownsRow base 33 2 (.slice (some ⟨g, 0, none⟩) (l.set k x).length c) (l.set k x).length (wc (l.set k x)) := by
  obtain ⟨h1, h2⟩ := h
  rcases h2 with ⟨h2, _⟩ | ⟨g', c', cur, hv, hg, hh, hn, hc, hs, ht⟩
  · cases h2
  · injection hv with ha hn' hc'
    injection ha with ha
    injection ha with ha
    subst ha; subst hc'
    refine ⟨wc_len _, .inr ⟨g, c, _, rfl, hg, blk_set (blk_set hh (k * 2) _) (k * 2 + 1) _, by simpa using hn, hc, by simpa using hs, ?_⟩⟩
    rw [List.length_set, ← wc_set l k x hk, ← ht]
    simp only [Array.toList_setIfInBounds, List.take_set]
theorem own_cells33 {W : World} {base c : Nat} {A : Option Addr} {l : List S33} (h : W.ownsRow base 33 2 (.slice A l.length c) l.length (wc l)) (k : Nat) (hk : k < l.length) :
    ∃ g, A = some ⟨g, 0, none⟩ ∧ base ≤ g ∧ g < W.heap.size ∧ W.cell? ⟨g, k * 2, none⟩ = some (.int .i64 (l.getD k z33).f0) ∧ W.cell? ⟨g, k * 2 + 1, none⟩ = some (.int .i64 (l.getD k z33).f1) ∧ W.frozen? ⟨g, k * 2, none⟩ = false ∧ W.frozen? ⟨g, k * 2 + 1, none⟩ = false := by
  obtain ⟨h1, h2⟩ := h
  rcases h2 with ⟨h2, h3⟩ | ⟨g', c', cur, hv, hg, hh, hn, hc, hs, ht⟩
  · omega
  · injection hv with ha hn' hc'
    subst ha
    have hj : ∀ j, j < 2 → cur[k * 2 + j]? = (w2 (l.getD k z33))[j]? := fun j hj => by
      have e1 : (wc l)[k * 2 + j]? = cur[k * 2 + j]? := by rw [← ht, List.getElem?_take, if_pos (by omega), Array.getElem?_toList]
      rw [← e1, ← List.getElem?_drop, wc_drop, List.drop_eq_getElem_cons hk, wc_cons, List.getElem?_append_left (by rw [w2_len]; exact hj), List.getD_eq_getElem?_getD, List.getElem?_eq_getElem hk]
      rfl
    exact ⟨g', rfl, hg, blk_lt hh, (blk_cell hh _).trans (hj 0 (by omega)), (blk_cell hh _).trans (hj 1 (by omega)), blk_frozen hh _, blk_frozen hh _⟩
theorem own_reads33 {W : World} {base n c : Nat} {A : Option Addr} {l : List S33} (h : W.ownsRow base 33 2 (.slice A n c) l.length (wc l)) : n = l.length ∧ n ≤ c ∧ Kd.C k33 W A l.length l := Kd.N_reads' (N33_of_own h)
theorem idx_len {l : List S33} {p : S33 → Bool} (h : l.any p = true) : l.findIdx p < l.length := by
  obtain ⟨x, hx, hp⟩ := List.any_eq_true.1 h
  exact List.findIdx_lt_length_of_exists ⟨x, hx, hp⟩

set_option maxHeartbeats 16000000 in
set_option maxRecDepth 100000 in
theorem write_walk (w : World) (g off : Nat) (cs : Array Value) (A : Option Addr) (n c : Nat) (wr0 : List S33) (Am : Option Addr) (nm cm : Nat) (more : List S33)
    (hb : w.heap[g]? = some (.cells cs 62 (0, 0))) (ho : cs[off + 1]? = some (.slice A n c)) (hr : Kd.C k33 w A n wr0) (hc : n ≤ c)
    (hm : ∀ W', KeepBut w W' g none → Kd.C k33 W' Am nm more) (hl : wr0.length + more.length ≤ LIM) :
    Calls Try.prog 40 #[.pointer (some ⟨g, off, none⟩), .slice Am nm cm] w fun e w' => e = .returned (.tuple #[]) ∧ ∃ v : Value,
      w'.heap[g]? = some (.cells (cs.setIfInBounds (off + 1) v) 62 (0, 0)) ∧ Kd.N k33 33 w' w.heap.size (fun k => w.heap.size ≤ k) v (writeL wr0 more) ∧ KeepBut w w' g none ∧ Below 0 w w' := by
  have HBK := Aside0.mk hb
  have HO := Aside0.mk ho
  have HM := Aside0.mk hm
  have HL := Aside0.mk hl
  have hg := blk_lt hb
  have HG := Aside0.mk hg
  obtain ⟨f1, f2⟩ := lp_cell hb ho
  have HCL := Aside0.mk (cloneT (fun _ => True) A n c wr0 w (fun W' h => Kd.Heap.C k33_heap (fun k hk => h k trivial hk) hr) hc (by omega))
  have hnm : more.length = nm := (HM.out w (KeepBut.refl w g none)).1
  have hnm2 : nm ≤ 9223372036854775807 := (HM.out w (KeepBut.refl w g none)).2.1
  subst hnm
  clear hb ho hm hl hr hg
  have eg58 := enters_of Try.func58 (by kernel_rfl) rfl
  have eg59 := enters_of Try.func59 (by kernel_rfl) rfl
  go_enter Try.func40, Try.ntmps40
  go_wp2_with (go_at_call 56; refine HCL.out.mono ?_; rintro e w1 ⟨v, rfl, hN, hB1⟩; obtain ⟨A1, c1, rfl⟩ := Kd.N_slice hN; have h1 := pw_cell_below hB1 f1; have h2 := (hB1.frozen (p := ⟨g, off + 1, none⟩) HG.out).trans f2)
  have hbk1 := blk_set (blk_below HBK.out hB1) (off + 1) (.slice A1 wr0.length c1)
  have hN2 := own_of_N33 (Kd.N_far (p := ⟨g, off + 1, none⟩) (N33_of_own (own_of_N33 hN)) (fun k hk e => by have := HG.out; simp only at e; omega) (.slice A1 wr0.length c1))
  have hK2 := (KeepBut.of_below hB1 g none).set_ (off + 1) (.slice A1 wr0.length c1)
  have HZ2 := Aside0.mk ((hB1.mono (Nat.zero_le _)).setCell (p := ⟨g, off + 1, none⟩) (Nat.zero_le _) (.slice A1 wr0.length c1))
  have HN2 := Aside0.mk hN2
  have HK2 := Aside0.mk hK2
  have HB2 := Aside0.mk hbk1
  clear hN hB1 h1 h2 hbk1 hN2 hK2 f1 f2 HCL
  generalize w1.setCell ⟨g, off + 1, none⟩ (.slice A1 wr0.length c1) = w2_ at HN2 HK2 HB2 HZ2 ⊢
  go_loopg [5, 6, 7, 18] more.length (fun gg _ _ _ s18 wr => ∃ kk : Nat, kk ≤ more.length ∧ more.length - kk ≤ gg ∧ s18 = .int .i64 kk ∧ ∃ A3 c3, Aside0 (wr.heap[g]? = some (.cells (cs.setIfInBounds (off + 1) (.slice A3 (writeL wr0 (more.take kk)).length c3)) 62 (0, 0))) ∧ Aside0 (wr.ownsRow w.heap.size 33 2 (.slice A3 (writeL wr0 (more.take kk)).length c3) (writeL wr0 (more.take kk)).length (wc (writeL wr0 (more.take kk)))) ∧ Aside0 (KeepBut w wr g none) ∧ Aside0 ((writeL wr0 (more.take kk)).length ≤ wr0.length + kk) ∧ Aside0 (Below 0 w wr))
  case atStart => exact ⟨0, Nat.zero_le _, by omega, rfl, A1, c1, HB2, HN2, HK2, ⟨Nat.le_refl _⟩, HZ2⟩
  case round =>
    clear HN2 HK2 HB2 HZ2
    obtain ⟨kk, hkk, hgg, rfl, A3, c3, HB3, HN3, HK3, HL3, HZ3⟩ := hrel
    by_cases hlt : kk < more.length
    · have hlt' : (kk : Int) < (more.length : Int) := by omega
      obtain ⟨ad, rfl, q0, q1⟩ := at_T33 (HM.out wr HK3.out) (kk : Int) (by omega) hlt'
      rw [show rd_T33 more (kk : Int) = more.getD kk z33 from rfl, Int.toNat_natCast] at q0 q1
      have HS := Aside0.mk (writeL_take wr0 more kk hlt)
      generalize more.getD kk z33 = s at q0 q1 HS
      obtain ⟨f1, f2⟩ := lp_cell HB3.out (lp_get HO.out)
      have hgl := blk_lt HB3.out
      generalize hacc : writeL wr0 (more.take kk) = acc at *
      obtain ⟨p0, p1, p2⟩ := own_reads33 HN3.out
      have hal : acc.length ≤ 9223372036854775807 := p2.2.1
      obtain ⟨B, hB⟩ : ∃ B, B = wr.heap.size := ⟨_, rfl⟩
      have HIX := Aside0.mk (fun W (hb : Below wr.heap.size wr W) (hc : W.cell? ⟨wr.heap.size, 0, none⟩ = some (.int .i64 s.f0)) => idxT (fun x => x.f0 == s.f0) 58 #[.pointer (some ⟨wr.heap.size, 0, none⟩)] eg58 A3 acc.length c3 acc W (Kd.C_below p2 hb) (fun W' x hbW => (eqT W' x wr.heap.size s.f0 ((hbW.cell (p := ⟨wr.heap.size, 0, none⟩) (World.block_lt_of_cell? W _ hc)).trans hc)).mono (fun _ _ hq => ⟨hq.1, hbW.trans (hq.2.mono hbW.size)⟩)))
      have HIY := Aside0.mk (fun W (hb : Below wr.heap.size wr W) (hc : W.cell? ⟨wr.heap.size, 0, none⟩ = some (.int .i64 s.f0)) => idxT (fun x => decide (s.f0 < x.f0)) 59 #[.pointer (some ⟨wr.heap.size, 0, none⟩)] eg59 A3 acc.length c3 acc W (Kd.C_below p2 hb) (fun W' x hbW => (gtT W' x wr.heap.size s.f0 ((hbW.cell (p := ⟨wr.heap.size, 0, none⟩) (World.block_lt_of_cell? W _ hc)).trans hc)).mono (fun _ _ hq => ⟨hq.1, hbW.trans (hq.2.mono hbW.size)⟩)))
      clear p0 p1 p2
      obtain ⟨s0, s1⟩ := s
      simp only at q0 q1 HIX HIY
      cases hq : acc.any (fun x => x.f0 == s0) with
      | true =>
        have hk := idx_len hq
        have hix : idxI (fun x => x.f0 == s0) acc = ((acc.findIdx (fun x => x.f0 == s0) : Nat) : Int) := by unfold idxI; rw [if_pos hq]
        rw [hix] at HIX
        have hps : putStep acc ⟨s0, s1⟩ = acc.set (acc.findIdx (fun x => x.f0 == s0)) ⟨s0, s1⟩ := by unfold putStep; rw [if_pos hq]
        rw [hps] at HS
        generalize acc.findIdx (fun x => x.f0 == s0) = k at hk HIX HS
        clear hq hix hps HIY
        have hk0 : (0 : Int) ≤ (k : Int) := by omega
        go_wp2_with (go_at_call 57; refine (HIX.out _ (below_alloc (Below.refl _ _) _) (by simp)).mono ?_; rintro e w4 ⟨rfl, hb4⟩)
        have hW : Below wr.heap.size wr w4 := (below_alloc (Below.refl _ _) _).trans (hb4.mono (by simp))
        have e1 := pw_cell_below hW f1
        have e2 := (hW.frozen (p := ⟨g, off + 1, none⟩) hgl).trans f2
        have e3 : w4.cell? ⟨B, 0, none⟩ = some (.int .i64 s0) := by rw [hB]; exact (hb4.cell (p := ⟨wr.heap.size, 0, none⟩) (by simp)).trans (by simp)
        have e4 : w4.cell? ⟨B, 1, none⟩ = some (.int .i64 s1) := by rw [hB]; exact (hb4.cell (p := ⟨wr.heap.size, 1, none⟩) (by simp)).trans (by simp)
        have HB4 := Aside0.mk (blk_below HB3.out hW)
        have HN4 := Aside0.mk (own_of_N33 (Kd.N_below (N33_of_own HN3.out) hW))
        have HZ4 := Aside0.mk (HZ3.out.trans (hW.mono (Nat.zero_le _)))
        have HK4 := Aside0.mk (HK3.out.trans (KeepBut.of_below hW g none) (.inl rfl))
        have hg4 : g < w4.heap.size := blk_lt HB4.out
        have hB4 : B < w4.heap.size := World.block_lt_of_cell? w4 _ e3
        obtain ⟨g2, rfl, hg2, hg2', c0, c1', z0, z1⟩ := own_cells33 HN4.out k hk
        have hgne : g ≠ g2 := fun e => by have := HG.out; omega
        have HQ2 := Aside0.mk (And.intro hg2 hgne)
        have hki : (k : Int) < (acc.length : Int) := by omega
        rw [← hB]
        clear hW hb4 f1 f2 q0 q1 HIX hB hg2 hgne HN3 HB3
        go_region
        all_goals go_wp2
        all_goals
          go_roundg (more.length - (kk + 1))
          case measure => omega
          case rel =>
            refine ⟨kk + 1, by omega, by omega, by go_num, some ⟨g2, 0, none⟩, c3, ?_⟩
            have hown := own_set33 HN4.out k hk ⟨s0, s1⟩
            rw [HS.out]
            rw [List.length_set] at hown ⊢
            exact ⟨⟨blk_drew (blk_far (blk_far HB4.out (p := ⟨g2, k * 2, none⟩) HQ2.out.2 _) (p := ⟨g2, k * 2 + 1, none⟩) HQ2.out.2 _)⟩, ⟨hown⟩, ⟨keep_drew (keep_far (keep_far HK4.out (p := ⟨g2, k * 2, none⟩) HQ2.out.1 _) (p := ⟨g2, k * 2 + 1, none⟩) HQ2.out.1 _)⟩, ⟨by have := HL3.out; omega⟩, ⟨((HZ4.out.setCell (p := ⟨g2, k * 2, none⟩) (Nat.zero_le _) _).setCell (p := ⟨g2, k * 2 + 1, none⟩) (Nat.zero_le _) _).drew⟩⟩
      | false =>
        have hix : idxI (fun x => x.f0 == s0) acc = -1 := by unfold idxI; rw [if_neg (by rw [hq]; simp)]
        rw [hix] at HIX
        have hps : putStep acc ⟨s0, s1⟩ = ins acc (acc.findIdx (fun y => decide (s0 < y.f0))) ⟨s0, s1⟩ := by unfold putStep; rw [if_neg (by rw [hq]; simp)]
        rw [hps] at HS
        have hk : acc.findIdx (fun y => decide (s0 < y.f0)) ≤ acc.length := List.findIdx_le_length
        have hiy : idxI (fun y => decide (s0 < y.f0)) acc = ((acc.findIdx (fun y => decide (s0 < y.f0)) : Nat) : Int) ∨ (idxI (fun y => decide (s0 < y.f0)) acc = -1 ∧ acc.findIdx (fun y => decide (s0 < y.f0)) = acc.length) := by
          unfold idxI
          cases h9 : acc.any (fun y => decide (s0 < y.f0)) with
          | true => left; rfl
          | false =>
            right
            refine ⟨by simp, ?_⟩
            rw [List.findIdx_eq_length]
            intro y hy
            have := List.any_eq_false.1 h9 y hy
            simpa using this
        generalize acc.findIdx (fun y => decide (s0 < y.f0)) = k at hk HS hiy
        generalize idxI (fun y => decide (s0 < y.f0)) acc = ki at HIY hiy
        clear hq hix hps
        have HK := Aside0.mk hk
        go_wp2_with (first | (go_at_call 57; refine (HIX.out _ (below_alloc (Below.refl _ _) _) (by simp)).mono ?_; clear HIX; rintro e w4 ⟨rfl, hb4⟩; have hW4 : Below wr.heap.size wr w4 := (below_alloc (Below.refl _ _) _).trans (hb4.mono (by simp)); have e1 := pw_cell_below hW4 f1; have e3 : w4.cell? ⟨wr.heap.size, 0, none⟩ = some (.int .i64 s0) := (hb4.cell (p := ⟨wr.heap.size, 0, none⟩) (by simp)).trans (by simp); have e4 : w4.cell? ⟨wr.heap.size, 1, none⟩ = some (.int .i64 s1) := (hb4.cell (p := ⟨wr.heap.size, 1, none⟩) (by simp)).trans (by simp)) | (go_at_call 57; refine (HIY.out _ hW4 e3).mono ?_; clear HIY; rintro e w5 ⟨rfl, hb5⟩; have hW5 := hW4.trans (hb5.mono hW4.size); have e1' := pw_cell_below hb5 e1; have e3' := pw_cell_below hb5 e3; have e4' := pw_cell_below hb5 e4))
        · obtain rfl : k = acc.length := by omega
          clear hiy
          have HB5 := Aside0.mk (blk_below HB3.out hW5)
          have HN5 := Aside0.mk (own_of_N33 (Kd.N_below (N33_of_own HN3.out) hW5))
          have HZ5 := Aside0.mk (HZ3.out.trans (hW5.mono (Nat.zero_le _)))
          have HK5 := Aside0.mk (HK3.out.trans (KeepBut.of_below hW5 g none) (.inl rfl))
          have hg5 : g < w5.heap.size := blk_lt HB5.out
          have hB5 : wr.heap.size < w5.heap.size := World.block_lt_of_cell? w5 _ e3'
          have hin : Calls Try.prog 60 #[.slice A3 acc.length c3, .int .i64 acc.length, .slice (some ⟨w5.heap.size, 0, none⟩) 1 1] (w5.drew.alloc (.cells #[.int .i64 s0, .int .i64 s1] 33)) (fun e w' => ∃ v', e = .returned v' ∧ w'.ownsRow w.heap.size 33 2 v' (ins acc acc.length ⟨s0, s1⟩).length (wc (ins acc acc.length ⟨s0, s1⟩)) ∧ Below 0 w5.drew w' ∧ w5.heap.size ≤ w'.heap.size ∧ ∀ j, j < w5.heap.size → some j ≠ (Value.slice A3 acc.length c3).ownBlock → w'.heap[j]? = w5.heap[j]?) :=
            insert_walk w.heap.size acc.length (.slice A3 acc.length c3) acc ⟨s0, s1⟩ w5.drew HK.out (by have h8 := HL3.out; have h9 := HL.out; omega) (by have := HK5.out.1; simpa using this) HN5.out
          have HIN := Aside0.mk hin
          have HNE := Aside0.mk (fun j (hj : j < w.heap.size) => show some j ≠ (Value.slice A3 acc.length c3).ownBlock from fun he => by have h9 := own_base HN5.out j he.symm; omega)
          rw [← hB] at e3' e4' hB5 ⊢
          clear hin hW4 hW5 hb4 hb5 e1 e3 e4 q0 q1 f1 f2 hB hk
          go_region_with (go_at_call 60; refine HIN.out.mono ?_; rintro e w6 ⟨v6, rfl, ho6, hz6, hs6, hk6⟩; obtain ⟨A6, c6, rfl⟩ := Kd.N_slice (N33_of_own ho6); have hb6 := (hk6 g hg5 (HNE.out g HG.out)).trans HB5.out; obtain ⟨e6, e7⟩ := lp_cell hb6 (lp_get HO.out))
          all_goals go_wp2
          all_goals
            clear e6 e7
            go_roundg (more.length - (kk + 1))
            case measure => omega
            case rel =>
              refine ⟨kk + 1, by omega, by omega, by go_num, A6, c6, ?_⟩
              rw [HS.out]
              have hbk := blk_set hb6 (off + 1) (.slice A6 (ins acc acc.length ⟨s0, s1⟩).length c6)
              rw [Array.setIfInBounds_setIfInBounds] at hbk
              have hk7 : KeepBut w w6 g none := ⟨Nat.le_trans HK5.out.1 hs6, fun i hi hne _ => (hk6 i (Nat.lt_of_lt_of_le hi HK5.out.1) (HNE.out i hi)).trans (HK5.out.2 i hi hne (by simp))⟩
              have hn7 := own_of_N33 (Kd.N_far (p := ⟨g, off + 1, none⟩) (N33_of_own ho6) (fun k hk e => by have := HG.out; simp only at e; omega) (.slice A6 (ins acc acc.length ⟨s0, s1⟩).length c6))
              exact ⟨⟨blk_drew hbk⟩, ⟨hn7⟩, ⟨keep_drew (hk7.set_ (off + 1) _)⟩, ⟨by rw [ins_len _ _ _ HK.out]; have := HL3.out; omega⟩, ⟨by first | exact (HZ5.out.drew.trans hz6).setCell (p := ⟨g, off + 1, none⟩) (Nat.zero_le _) _ | exact ((HZ5.out.drew.trans hz6).setCell (p := ⟨g, off + 1, none⟩) (Nat.zero_le _) _).drew⟩⟩
        · obtain rfl : ki = (k : Int) := by omega
          clear hiy
          have HB5 := Aside0.mk (blk_below HB3.out hW5)
          have HN5 := Aside0.mk (own_of_N33 (Kd.N_below (N33_of_own HN3.out) hW5))
          have HZ5 := Aside0.mk (HZ3.out.trans (hW5.mono (Nat.zero_le _)))
          have HK5 := Aside0.mk (HK3.out.trans (KeepBut.of_below hW5 g none) (.inl rfl))
          have hg5 : g < w5.heap.size := blk_lt HB5.out
          have hB5 : wr.heap.size < w5.heap.size := World.block_lt_of_cell? w5 _ e3'
          have hin : Calls Try.prog 60 #[.slice A3 acc.length c3, .int .i64 k, .slice (some ⟨w5.heap.size, 0, none⟩) 1 1] (w5.drew.alloc (.cells #[.int .i64 s0, .int .i64 s1] 33)) (fun e w' => ∃ v', e = .returned v' ∧ w'.ownsRow w.heap.size 33 2 v' (ins acc k ⟨s0, s1⟩).length (wc (ins acc k ⟨s0, s1⟩)) ∧ Below 0 w5.drew w' ∧ w5.heap.size ≤ w'.heap.size ∧ ∀ j, j < w5.heap.size → some j ≠ (Value.slice A3 acc.length c3).ownBlock → w'.heap[j]? = w5.heap[j]?) :=
            insert_walk w.heap.size k (.slice A3 acc.length c3) acc ⟨s0, s1⟩ w5.drew HK.out (by have h8 := HL3.out; have h9 := HL.out; omega) (by have := HK5.out.1; simpa using this) HN5.out
          have HIN := Aside0.mk hin
          have HNE := Aside0.mk (fun j (hj : j < w.heap.size) => show some j ≠ (Value.slice A3 acc.length c3).ownBlock from fun he => by have h9 := own_base HN5.out j he.symm; omega)
          rw [← hB] at e3' e4' hB5 ⊢
          clear hin hW4 hW5 hb4 hb5 e1 e3 e4 q0 q1 f1 f2 hB hk
          go_region_with (go_at_call 60; refine HIN.out.mono ?_; rintro e w6 ⟨v6, rfl, ho6, hz6, hs6, hk6⟩; obtain ⟨A6, c6, rfl⟩ := Kd.N_slice (N33_of_own ho6); have hb6 := (hk6 g hg5 (HNE.out g HG.out)).trans HB5.out; obtain ⟨e6, e7⟩ := lp_cell hb6 (lp_get HO.out))
          all_goals go_wp2
          all_goals
            clear e6 e7
            go_roundg (more.length - (kk + 1))
            case measure => omega
            case rel =>
              refine ⟨kk + 1, by omega, by omega, by go_num, A6, c6, ?_⟩
              rw [HS.out]
              have hbk := blk_set hb6 (off + 1) (.slice A6 (ins acc k ⟨s0, s1⟩).length c6)
              rw [Array.setIfInBounds_setIfInBounds] at hbk
              have hk7 : KeepBut w w6 g none := ⟨Nat.le_trans HK5.out.1 hs6, fun i hi hne _ => (hk6 i (Nat.lt_of_lt_of_le hi HK5.out.1) (HNE.out i hi)).trans (HK5.out.2 i hi hne (by simp))⟩
              have hn7 := own_of_N33 (Kd.N_far (p := ⟨g, off + 1, none⟩) (N33_of_own ho6) (fun k hk e => by have := HG.out; simp only at e; omega) (.slice A6 (ins acc k ⟨s0, s1⟩).length c6))
              exact ⟨⟨blk_drew hbk⟩, ⟨hn7⟩, ⟨keep_drew (hk7.set_ (off + 1) _)⟩, ⟨by rw [ins_len _ _ _ HK.out]; have := HL3.out; omega⟩, ⟨by first | exact (HZ5.out.drew.trans hz6).setCell (p := ⟨g, off + 1, none⟩) (Nat.zero_le _) _ | exact ((HZ5.out.drew.trans hz6).setCell (p := ⟨g, off + 1, none⟩) (Nat.zero_le _) _).drew⟩⟩
    · have hk2 : kk = more.length := by omega
      subst hk2
      have hlt' : ¬ (more.length : Int) < (more.length : Int) := by omega
      go_wp2
      rw [List.take_length] at HB3 HN3
      exact bodyPost_end (results_none rfl _ _ _) rfl ⟨rfl, _, HB3.out, N33_of_own HN3.out, HK3.out, HZ3.out⟩
end Go.Proofs.Ytfojpobblebigaa.P
