/- Walks, by hand: nest.read and nest.keep through a pointer to a level. -/
import Derived.Test.YtfojpobblebigaaHb
import Derived.WalkSpells
import Derived.Outline
import Derived.RegionTactic
import Derived.BigRegion
import Derived.Deep.RegionLaw
import Derived.Deep.DeepMust
import Derived.Shelf.Abstract
namespace Go.Proofs.Ytfojpobblebigaa.P
open Go.RowKit Go.Proofs.YtfojpobblebigaaW.PrintWords Go.Proofs.YtfojpobblebigaaW.PrintLast Go.Proofs.YtfojpobblebigaaW.PrintMore
set_option linter.unusedVariables false
set_option linter.unusedSimpArgs false

/-- One more read, unless the location is read already. -/
def readStep (l : List S30) (s : S30) : List S30 := if l.any (fun x => x.f0 == s.f0) then l else l ++ [s]
def readL (l more : List S30) : List S30 := more.foldl readStep l
theorem readStep_len (l : List S30) (s : S30) : (readStep l s).length ≤ l.length + 1 := by
  unfold readStep
  split <;> simp
theorem readL_take (l more : List S30) (k : Nat) (hk : k < more.length) : readL l (more.take (k + 1)) = readStep (readL l (more.take k)) (more.getD k z30) := by
  unfold readL
  rw [List.take_add_one, List.foldl_append, List.getD_eq_getElem?_getD, List.getElem?_eq_getElem hk]
  rfl

/-- What a pointer to a level needs: its block, its cell, unfrozen. -/
theorem lp_cell {w : World} {g : Nat} {cs : Array Value} {u : Value} (hb : w.heap[g]? = some (.cells cs 62 (0, 0))) {i : Nat} (h : cs[i]? = some u) : w.cell? ⟨g, i, none⟩ = some u ∧ w.frozen? ⟨g, i, none⟩ = false := ⟨(blk_cell hb i).trans h, blk_frozen hb i⟩
/-- What is own of a row without inner rows: its block alone. -/
theorem Kd.N_own30 {w : World} {e base : Nat} {ok : Nat → Prop} {v : Value} {xs : List S30} (h : Kd.N k30 e w base ok v xs) : Kd.N k30 e w base (fun k => base ≤ k) v xs := by
  obtain ⟨h0, rows, hl, hR, hf⟩ := h
  exact ⟨Kd.N_base ⟨h0, rows, hl, hR, hf⟩, rows, hl, hR, fun j x c hx hc => by obtain rfl := k30_open (Kd.FK_now (hf j x c hx hc)); exact k30_mkF _ _ _⟩
theorem lp_get {cs : Array Value} {i : Nat} {u v : Value} (h : cs[i]? = some u) : (cs.setIfInBounds i v)[i]? = some v := by
  have := (Array.getElem?_eq_some_iff.1 h).1
  simp [this]

set_option maxHeartbeats 8000000 in
set_option maxRecDepth 100000 in
theorem read_walk (w : World) (g off : Nat) (cs : Array Value) (A : Option Addr) (n c : Nat) (rd : List S30) (Am : Option Addr) (nm cm : Nat) (more : List S30)
    (hb : w.heap[g]? = some (.cells cs 62 (0, 0))) (ho : cs[off]? = some (.slice A n c)) (hr : Kd.C k30 w A n rd) (hc : n ≤ c)
    (hm : ∀ W', KeepBut w W' g none → Kd.C k30 W' Am nm more) (hl : rd.length + more.length ≤ LIM) :
    Calls Try.prog 38 #[.pointer (some ⟨g, off, none⟩), .slice Am nm cm] w fun e w' => e = .returned (.tuple #[]) ∧ ∃ v : Value,
      w'.heap[g]? = some (.cells (cs.setIfInBounds off v) 62 (0, 0)) ∧ Kd.N k30 30 w' w.heap.size (fun k => w.heap.size ≤ k) v (readL rd more) ∧ KeepBut w w' g none ∧ Below 0 w w' := by
  have HBK := Aside0.mk hb
  have HO := Aside0.mk ho
  have HM := Aside0.mk hm
  have HL := Aside0.mk hl
  have hg := blk_lt hb
  have HG := Aside0.mk hg
  obtain ⟨f1, f2⟩ := lp_cell hb ho
  have HCL := Aside0.mk (cloneR (fun _ => True) A n c rd w (fun W' h => Kd.Heap.C k30_heap (fun k hk => h k trivial hk) hr) hc (by omega))
  have hnm : more.length = nm := (HM.out w (KeepBut.refl w g none)).1
  have hnm2 : nm ≤ 9223372036854775807 := (HM.out w (KeepBut.refl w g none)).2.1
  subst hnm
  clear hb ho hm hl hr hg
  have eg55 := enters_of Try.func55 (by kernel_rfl) rfl
  go_enter Try.func38, Try.ntmps38
  go_wp2_with (go_at_call 45; refine HCL.out.mono ?_; rintro e w1 ⟨v, rfl, hN, hB1⟩; obtain ⟨A1, c1, rfl⟩ := Kd.N_slice hN; have h1 := pw_cell_below hB1 f1; have h2 := (hB1.frozen (p := ⟨g, off, none⟩) HG.out).trans f2)
  have hbk1 := blk_set (blk_below HBK.out hB1) off (.slice A1 rd.length c1)
  have hN2 := Kd.N_far (p := ⟨g, off, none⟩) (Kd.N_own30 hN) (fun k hk e => by have := HG.out; simp only at e; omega) (.slice A1 rd.length c1)
  have hK2 := (KeepBut.of_below hB1 g none).set_ off (.slice A1 rd.length c1)
  have HZ2 := Aside0.mk ((hB1.mono (Nat.zero_le _)).setCell (p := ⟨g, off, none⟩) (Nat.zero_le _) (.slice A1 rd.length c1))
  have HN2 := Aside0.mk hN2
  have HK2 := Aside0.mk hK2
  have HB2 := Aside0.mk hbk1
  clear hN hB1 h1 h2 hbk1 hN2 hK2 f1 f2
  generalize w1.setCell ⟨g, off, none⟩ (.slice A1 rd.length c1) = w2 at HN2 HK2 HB2 HZ2 ⊢
  go_loopg [5, 16] more.length (fun gg _ s16 wr => ∃ kk : Nat, kk ≤ more.length ∧ more.length - kk ≤ gg ∧ s16 = .int .i64 kk ∧ ∃ A3 c3, Aside0 (wr.heap[g]? = some (.cells (cs.setIfInBounds off (.slice A3 (readL rd (more.take kk)).length c3)) 62 (0, 0))) ∧ Aside0 (Kd.N k30 30 wr w.heap.size (fun k => w.heap.size ≤ k) (.slice A3 (readL rd (more.take kk)).length c3) (readL rd (more.take kk))) ∧ Aside0 (KeepBut w wr g none) ∧ Aside0 ((readL rd (more.take kk)).length ≤ rd.length + kk) ∧ Aside0 (Below 0 w wr))
  case atStart => exact ⟨0, Nat.zero_le _, by omega, rfl, A1, c1, HB2, HN2, HK2, ⟨Nat.le_refl _⟩, HZ2⟩
  case round =>
    clear HN2 HK2 HB2 HZ2
    obtain ⟨kk, hkk, hgg, rfl, A3, c3, HB3, HN3, HK3, HL3, HZ3⟩ := hrel
    by_cases hlt : kk < more.length
    · have hlt' : (kk : Int) < (more.length : Int) := by omega
      obtain ⟨ad, rfl, q0, q1, q2⟩ := at_T30 (HM.out wr HK3.out) (kk : Int) (by omega) hlt'
      rw [show rd_T30 more (kk : Int) = more.getD kk z30 from rfl, Int.toNat_natCast] at q0 q1 q2
      have HS := Aside0.mk (readL_take rd more kk hlt)
      generalize more.getD kk z30 = s at q0 q1 q2 HS
      obtain ⟨f1, f2⟩ := lp_cell HB3.out (lp_get HO.out)
      have hgl := blk_lt HB3.out
      generalize hacc : readL rd (more.take kk) = acc at *
      obtain ⟨p0, p1, p2⟩ := Kd.N_reads' HN3.out
      obtain ⟨B, hB⟩ : ∃ B, B = wr.heap.size := ⟨_, rfl⟩
      have HCON := Aside0.mk (fun W (hb : Below wr.heap.size wr W) (hc : W.cell? ⟨wr.heap.size, 0, none⟩ = some (.int .i64 s.f0)) => conR (fun x => x.f0 == s.f0) 55 #[.pointer (some ⟨wr.heap.size, 0, none⟩)] eg55 A3 acc.length c3 acc W (Kd.C_below p2 hb) (fun W' x hbW => (eqR W' x wr.heap.size s.f0 ((hbW.cell (p := ⟨wr.heap.size, 0, none⟩) (World.block_lt_of_cell? W _ hc)).trans hc)).mono (fun _ _ hq => ⟨hq.1, hbW.trans (hq.2.mono hbW.size)⟩)))
      clear p0 p1 p2
      obtain ⟨s0, s1, s2⟩ := s
      simp only at q0 q1 q2 HCON
      cases hq : acc.any (fun x => x.f0 == s0) with
      | true =>
        rw [hq] at HCON
        have HQ := Aside0.mk hq
        clear hq
        go_wp2_with (go_at_call 54; refine (HCON.out _ (below_alloc (Below.refl _ _) _) (by simp)).mono ?_; rintro e w4 ⟨rfl, hb4⟩)
        have hW : Below wr.heap.size wr w4 := (below_alloc (Below.refl _ _) _).trans (hb4.mono (by simp))
        go_roundg (more.length - (kk + 1))
        case measure => omega
        case rel =>
          have he : readL rd (more.take (kk + 1)) = acc := by rw [HS.out]; unfold readStep; rw [if_pos HQ.out]
          refine ⟨kk + 1, by omega, by omega, by go_num, A3, c3, ?_⟩
          rw [he]
          exact ⟨⟨blk_below HB3.out hW⟩, ⟨Kd.N_below HN3.out hW⟩, ⟨HK3.out.trans (KeepBut.of_below hW g none) (.inl rfl)⟩, ⟨by have := HL3.out; omega⟩, ⟨HZ3.out.trans (hW.mono (Nat.zero_le _))⟩⟩
      | false =>
        rw [hq] at HCON
        have HQ := Aside0.mk hq
        clear hq
        go_wp2_with (go_at_call 54; refine (HCON.out _ (below_alloc (Below.refl _ _) _) (by simp)).mono ?_; rintro e w4 ⟨rfl, hb4⟩)
        have hW : Below wr.heap.size wr w4 := (below_alloc (Below.refl _ _) _).trans (hb4.mono (by simp))
        have e1 := pw_cell_below hW f1
        have e2 := (hW.frozen (p := ⟨g, off, none⟩) hgl).trans f2
        have e3 : w4.cell? ⟨B, 0, none⟩ = some (.int .i64 s0) := by rw [hB]; exact (hb4.cell (p := ⟨wr.heap.size, 0, none⟩) (by simp)).trans (by simp)
        have e4 : w4.cell? ⟨B, 1, none⟩ = some (.int .i64 s1) := by rw [hB]; exact (hb4.cell (p := ⟨wr.heap.size, 1, none⟩) (by simp)).trans (by simp)
        have e5 : w4.cell? ⟨B, 2, none⟩ = some (.int .i64 s2) := by rw [hB]; exact (hb4.cell (p := ⟨wr.heap.size, 2, none⟩) (by simp)).trans (by simp)
        have HB4 := Aside0.mk (blk_below HB3.out hW)
        have HN4 := Aside0.mk (Kd.N_below HN3.out hW)
        have HZ4 := Aside0.mk (HZ3.out.trans (hW.mono (Nat.zero_le _)))
        have HK4 := Aside0.mk (HK3.out.trans (KeepBut.of_below hW g none) (.inl rfl))
        have HNE := Aside0.mk (show some g ≠ (Value.slice A3 acc.length c3).ownBlock from fun he => by have h9 := Kd.N_base HN3.out g he.symm; have := HG.out; omega)
        have hg4 : g < w4.heap.size := blk_lt HB4.out
        have hB4 : B < w4.heap.size := World.block_lt_of_cell? w4 _ e3
        have e1' := fun o => World.cell?_alloc_lt w4.drew o ⟨g, off, none⟩ hg4
        rw [← hB]
        clear hW hb4 f1 f2 q0 q1 q2 HCON HCL hB
        go_region_law (refine Kd.N_append_step k30 (w0 := w4) w.heap.size rfl (.tmp 31) (.tmp 33) 23 30 _ 24 rfl Try.underlying23 info30 rfl (by decide) (by decide) (.slice A3 acc.length c3) acc ⟨s0, s1, s2⟩ [.int .i64 s0, .int .i64 s1, .int .i64 s2] (fun k => w.heap.size ≤ k) (fun _ => False) rfl rfl (k30_mkF _ _ _) (fun _ h => h.elim) (fun k hk => Nat.le_trans HK4.out.1 (Nat.le_trans (by simp) hk)) (Kd.N_drew HN4.out) (below_drew (Below.refl _ _)) (by have := HK4.out.1; simpa using this) (by have h9 := HL.out; have h8 := HL3.out; unfold LIM at h9; omega) ?_; intro v1 w5 hN5 hB5 hG5 hat; obtain ⟨A5, c5, rfl⟩ := Kd.N_slice hN5; have hb5 := blk_grown (blk_drew HB4.out) hG5 HNE.out; obtain ⟨e6, e7⟩ := lp_cell hb5 (lp_get HO.out))
        all_goals go_wp2
        all_goals
          clear e1' e1 e2 e3 e4 e5 e6 e7
          have hl5 : (acc ++ [(⟨s0, s1, s2⟩ : S30)]).length = acc.length + 1 := by simp
          rw [hl5] at hN5 hat
          go_roundg (more.length - (kk + 1))
          case measure => omega
          case rel =>
            have he : readL rd (more.take (kk + 1)) = acc ++ [⟨s0, s1, s2⟩] := by rw [HS.out]; unfold readStep; rw [if_neg (by rw [HQ.out]; simp)]
            refine ⟨kk + 1, by omega, by omega, by go_num, A5, c5, ?_⟩
            rw [he, hl5]
            have hbk := blk_set hb5 off (.slice A5 (acc.length + 1) c5)
            rw [Array.setIfInBounds_setIfInBounds] at hbk
            have hk5 : KeepBut w w5 g none := ⟨Nat.le_trans HK4.out.1 (by simpa using hG5.size), fun i hi hne _ => (hG5.block i (by have := HK4.out.1; simp; omega) (fun he => by have h9 := Kd.N_base HN4.out i he.symm; omega)).trans (HK4.out.2 i hi hne (by simp))⟩
            exact ⟨⟨hbk⟩, ⟨Kd.N_far (p := ⟨g, off, none⟩) hN5 (fun k hk e => by have := HG.out; simp only at e; omega) _⟩, ⟨hk5.set_ off _⟩, ⟨by have := HL3.out; omega⟩, ⟨(HZ4.out.trans (hB5.mono (Nat.zero_le _))).setCell (p := ⟨g, off, none⟩) (Nat.zero_le _) _⟩⟩
    · have hk2 : kk = more.length := by omega
      subst hk2
      have hlt' : ¬ (more.length : Int) < (more.length : Int) := by omega
      go_wp2
      rw [List.take_length] at HB3 HN3
      exact bodyPost_end (results_none rfl _ _ _) rfl ⟨rfl, _, HB3.out, HN3.out, HK3.out, HZ3.out⟩

set_option maxHeartbeats 8000000 in
set_option maxRecDepth 100000 in
theorem keep_walk (w : World) (g off : Nat) (cs : Array Value) (P Pm : Nat → Prop) (A : Option Addr) (n c : Nat) (us : List S50) (Am : Option Addr) (nm cm : Nat) (more : List S50)
    (hb : w.heap[g]? = some (.cells cs 62 (0, 0))) (ho : cs[off + 2]? = some (.slice A n c)) (hr : Kd.F k50 w P A n us) (hc : n ≤ c)
    (hm : Kd.F k50 w Pm Am nm more) (hP : ∀ k, P k → k ≠ g) (hPm : ∀ k, Pm k → k ≠ g) (hl : us.length + more.length ≤ LIM) :
    Calls Try.prog 51 #[.pointer (some ⟨g, off, none⟩), .slice Am nm cm] w fun e w' => e = .returned (.tuple #[]) ∧ ∃ v : Value,
      w'.heap[g]? = some (.cells (cs.setIfInBounds (off + 2) v) 62 (0, 0)) ∧ Kd.N k50 50 w' w.heap.size (fun k => (P k ∨ Pm k) ∨ w.heap.size ≤ k) v (us ++ more) ∧ KeepBut w w' g none ∧ Below 0 w w' := by
  have HBK := Aside0.mk hb
  have HO := Aside0.mk ho
  have HM := Aside0.mk hm
  have HL := Aside0.mk hl
  have hg := blk_lt hb
  have HG := Aside0.mk hg
  have HP := Aside0.mk hP
  have HPm := Aside0.mk hPm
  obtain ⟨f1, f2⟩ := lp_cell hb ho
  have HCL := Aside0.mk (cloneU P A n c us w hr hc (by omega))
  obtain rfl : more.length = nm := Kd.F_len hm
  clear hb ho hm hl hr hg hP hPm
  go_enter Try.func51, Try.ntmps51
  go_wp2_with (first | (go_at_call 43; refine HCL.out.mono ?_; rintro e w1 ⟨v, rfl, hN, hB1⟩; obtain ⟨A1, c1, rfl⟩ := Kd.N_slice hN; have HN := Aside0.mk (Kd.N_mono (ok' := fun k => (P k ∨ Pm k) ∨ w.heap.size ≤ k) hN (fun k hk => hk.elim (fun h => .inl (.inl h)) .inr)); have HB1 := Aside0.mk hB1; clear hN hB1) | ((with_reducible refine gate_builtin (b := .append) (xs := #[.tmp 9, .tmp 10]) rfl ?_); at_builtin; refine Kd.N_append_rows k50 (w0 := w) w.heap.size rfl (.tmp 9) (.tmp 10) 34 50 _ 56 rfl Try.underlying34 info50 rfl (by decide) (by omega) (.slice A1 us.length c1) us more Am more.length cm (fun k => (P k ∨ Pm k) ∨ w.heap.size ≤ k) (fun k => Pm k ∧ k < w.heap.size) rfl rfl HN.out (Kd.F_old HM.out HB1.out) ?ha (fun k hk => Or.inr (Nat.le_trans HB1.out.size hk)) HB1.out HB1.out.size (by have h9 := HL.out; unfold LIM at h9; omega) ?_; (case ha => exact fun k hk => ⟨Or.inl (Or.inr hk.1), fun he => (by have h9 := Kd.N_base HN.out k he.symm; have := hk.2; omega)⟩); intro v2 w2 hN2 hB2 hG2 hat; obtain ⟨A2, c2, rfl⟩ := Kd.N_slice hN2; have hb2 := blk_grown (blk_below HBK.out HB1.out) hG2 (fun he => by have h9 := Kd.N_base HN.out g he.symm; have := HG.out; omega); obtain ⟨e6, e7⟩ := lp_cell hb2 HO.out))
  have hbk := blk_set hb2 (off + 2) (.slice A2 (us ++ more).length c2)
  have hn5 := Kd.N_far (p := ⟨g, off + 2, none⟩) hN2 (fun k hk e => by
    rcases hk with (hk | hk) | hk
    · exact HP.out k hk e
    · exact HPm.out k hk e
    · have := HG.out; simp only at e; omega) (.slice A2 (us ++ more).length c2)
  have hk5 : KeepBut w w2 g none := KeepBut.of_below hB2 g none
  have hk6 := hk5.set_ (off + 2) (.slice A2 (us ++ more).length c2)
  have hz6 := (hB2.mono (Nat.zero_le _)).setCell (p := ⟨g, off + 2, none⟩) (Nat.zero_le _) (.slice A2 (us ++ more).length c2)
  have hll : (us ++ more).length = us.length + more.length := List.length_append
  rw [hll] at hbk hn5 hk6 hz6
  exact bodyPost_end (results_none rfl _ _ _) rfl ⟨rfl, _, hbk, hn5, hk6, hz6⟩
end Go.Proofs.Ytfojpobblebigaa.P
