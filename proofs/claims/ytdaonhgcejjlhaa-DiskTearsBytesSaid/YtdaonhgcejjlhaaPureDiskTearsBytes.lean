/- The plain statement of DiskTearsBytes: behind a crash each byte is the byte at the last sync or that of a write since then. -/
import Derived.Test.YtdaonhgcejjlhaaPx31
import Derived.Test.YtdaonhgcejjlhaaHq
import Derived.OpenShut
namespace Go.Proofs.Ytdaonhgcejjlhaa.Pure
open Go.OpenShut Go.RowKit Go.Proofs.Ytdaonhgcejjlhaa.P Go.Proofs.YtdaonhgcejjlhaaW.PrintWords Go.Proofs.YtdaonhgcejjlhaaW.PrintLast Go.Proofs.YtdaonhgcejjlhaaW.PrintMore
open hallmootlaw22_DiskTearsBytes in
theorem l3_ev (n : Int) (done before : List S46) (a : Int) (s o : ByteArray) (j : Nat) (so cr : List ByteArray) (hs : s.size = 32) (hj : j < 32) (hd : ∀ x ∈ done, x.f1.size = 32) (hdl : done.length ≤ 100)
    (next : Ev (fun k => l2 k true n done true before a s o (wrap64 ((j : Int) + 1)) so [] cr []) true) (d : Nat) : ∀ (i : Nat) (b : Bool), i + d = done.length →
      (b = true ∨ ∃ q, i ≤ q ∧ q < done.length ∧ (done.getD q z46).f0 = a ∧ bt s (j : Int) = bt (done.getD q z46).f1 (j : Int)) →
      Ev (fun k => l3 k true n done true before a s o (j : Int) b (i : Int) so [] cr []) true := by
  induction d with
  | zero =>
    intro i b hi hb
    have hbt : b = true := by
      rcases hb with h | ⟨q, h1, h2, _⟩
      · exact h
      · omega
    subst hbt
    refine Ev.step (f := fun k => l2 k true n done true before a s o (wrap64 ((j : Int) + 1)) so [] cr []) (fun k => ?_) next
    simp only [l3]
    rw [if_neg (by omega), if_pos trivial]
  | succ d ih =>
    intro i b hi hb
    have hw : wrap64 ((i : Int) + 1) = ((i + 1 : Nat) : Int) := by unfold wrap64; omega
    have hlt : i < done.length := by omega
    cases b with
    | true =>
      refine Ev.step (fun k => ?_) (ih (i + 1) true (by omega) (.inl rfl))
      simp only [l3]
      rw [if_pos (by omega), if_pos trivial, hw]
    | false =>
      have hx : rd_T46 done (i : Int) = done.getD i z46 := rfl
      by_cases e : (done.getD i z46).f0 = a
      · have hsz : (done.getD i z46).f1.size = 32 := by
          rw [List.getD_eq_getElem?_getD, List.getElem?_eq_getElem hlt]
          exact hd _ (List.getElem_mem _)
        refine Ev.step (fun k => ?_) (ih (i + 1) (bt s (j : Int) == bt (done.getD i z46).f1 (j : Int)) (by omega) ?_)
        · simp only [l3]
          rw [if_pos (by omega), if_neg (by simp), if_pos (by omega), hx, if_pos e, if_pos (by omega), if_pos (by omega), if_pos (by omega), hw]
        · rcases hb with h | ⟨q, h1, h2, h3, h4⟩
          · cases h
          · by_cases eq : q = i
            · subst eq
              exact .inl (by rw [h4]; simp)
            · exact .inr ⟨q, by omega, h2, h3, h4⟩
      · refine Ev.step (fun k => ?_) (ih (i + 1) false (by omega) ?_)
        · simp only [l3]
          rw [if_pos (by omega), if_neg (by simp), if_pos (by omega), hx, if_neg e, hw]
        · rcases hb with h | ⟨q, h1, h2, h3, h4⟩
          · cases h
          · by_cases eq : q = i
            · subst eq
              exact absurd h3 e
            · exact .inr ⟨q, by omega, h2, h3, h4⟩
open hallmootlaw22_DiskTearsBytes in
theorem l2_ev (n : Int) (done before : List S46) (a : Int) (s o : ByteArray) (so cr : List ByteArray) (hs : s.size = 32) (ho : o.size = 32) (hd : ∀ x ∈ done, x.f1.size = 32) (hdl : done.length ≤ 100) (hbl : before.length ≤ done.length)
    (hbyte : ∀ j : Nat, j < 32 → bt s (j : Int) = bt o (j : Int) ∨ ∃ q, before.length ≤ q ∧ q < done.length ∧ (done.getD q z46).f0 = a ∧ bt s (j : Int) = bt (done.getD q z46).f1 (j : Int))
    (next : Ev (fun k => l1 k true n done true before (wrap64 (a + 1)) so [] cr []) true) (d : Nat) : ∀ j : Nat, j + d = 32 → Ev (fun k => l2 k true n done true before a s o (j : Int) so [] cr []) true := by
  induction d with
  | zero =>
    intro j hj
    refine Ev.step (fun k => ?_) next
    simp only [l2]
    rw [if_neg (by omega)]
  | succ d ih =>
    intro j hj
    have hw : wrap64 ((j : Int) + 1) = ((j + 1 : Nat) : Int) := by unfold wrap64; omega
    have h2 := ih (j + 1) (by omega)
    rw [← hw] at h2
    refine Ev.step (fun k => ?_) (l3_ev n done before a s o j so cr hs (by omega) hd hdl h2 (done.length - before.length) before.length (bt s (j : Int) == bt o (j : Int)) (by omega) ?_)
    · simp only [l2]
      rw [if_pos (by omega), if_pos (by omega), if_pos (by omega)]
    · rcases hbyte j (by omega) with h | h
      · exact .inl (by rw [h]; simp)
      · exact .inr h
open hallmootlaw22_DiskTearsBytes in
theorem l1_ev (n : Nat) (hn : n ≤ 512) (done before : List S46) (so cr : List ByteArray) (hsl : so.length = n) (hcl : cr.length = n) (hs : all32 so) (hc : all32 cr) (hd : ∀ x ∈ done, x.f1.size = 32) (hdl : done.length ≤ 100) (hbl : before.length ≤ done.length)
    (hbyte : ∀ a j : Nat, a < n → j < 32 → bt (cr.getD a ByteArray.empty) (j : Int) = bt (so.getD a ByteArray.empty) (j : Int) ∨ ∃ q, before.length ≤ q ∧ q < done.length ∧ (done.getD q z46).f0 = (a : Int) ∧ bt (cr.getD a ByteArray.empty) (j : Int) = bt (done.getD q z46).f1 (j : Int))
    (d : Nat) : ∀ a : Nat, a + d = n → Ev (fun k => l1 k true n done true before (a : Int) so [] cr []) true := by
  have hr : ∀ (x : List ByteArray) (a : Nat), x.length = n → a < n → disk_Read.f x [] (a : Int) = some (x.getD a ByteArray.empty, 0) := by
    intro x a hx ha
    unfold disk_Read.f
    rw [dHas]
    simp only [Option.bind_some, decide_eq_true_eq]
    rw [if_pos ⟨by omega, by omega⟩, if_pos (by omega), if_pos (by omega)]
    rfl
  induction d with
  | zero =>
    intro a ha
    refine Ev.step (f := fun k => j3 k true n done true before (a : Int) false so [] cr []) (fun k => ?_) ?_
    · simp only [l1]
      rw [if_neg (by omega)]
    · refine Ev.step (f := fun _ => some true) (fun k => ?_) (Ev.now true)
      simp only [j3]
      have hR : dRight.f cr [] = some true := by
        unfold dRight.f
        have h1 : cr.any badS = false := by
          rw [List.any_eq_false]
          intro x hx
          simp [badS, hc x hx]
        rw [if_neg (by omega), if_neg (by rw [h1]; simp)]
        rfl
      rw [hR]
      simp
  | succ d ih =>
    intro a ha
    have hw : wrap64 ((a : Int) + 1) = ((a + 1 : Nat) : Int) := by unfold wrap64; omega
    have h1 := ih (a + 1) (by omega)
    rw [← hw] at h1
    have hs32 := all32_get hs (i := a) (by omega)
    have hc32 := all32_get hc (i := a) (by omega)
    have h2 := l2_ev n done before (a : Int) (cr.getD a ByteArray.empty) (so.getD a ByteArray.empty) so cr hc32 hs32 hd hdl hbl (fun j hj => hbyte a j (by omega) hj) h1 32 0 rfl
    refine Ev.step (f := fun k => j3 k true n done true before (a : Int) true so [] cr []) (fun k => ?_) ?_
    · simp only [l1]
      rw [if_pos (by omega)]
    · refine Ev.step (f := fun k => j4 k true n done true before (a : Int) (cr.getD a ByteArray.empty) (so.getD a ByteArray.empty) false so [] cr []) (fun k => ?_) ?_
      · simp only [j3]
        rw [if_pos trivial, hr cr a hcl (by omega), hr so a hsl (by omega)]
        simp only [Option.bind_some]
        rw [if_pos trivial, if_pos trivial, if_pos (by omega), show (((so.getD a ByteArray.empty).size : Int) != 32) = false by rw [hs32]; rfl]
      · refine Ev.step (fun k => ?_) h2
        simp only [j4]
        rw [if_neg (by simp)]
        rfl
open hallmootlaw22_DiskTearsBytes in
theorem l0_ev (n : Nat) (l1 l2 : List Int) (done was : List S46) (s : List ByteArray) (hll : l1.length ≤ 100)
    (next : Ev (fun k => (hallmootlaw22_written.f k n (l1.take (lastN l1 l1.length))).bind fun bt511 => ((dCrash.f s was l2).bind fun bt522 => (hallmootlaw22_DiskTearsBytes.l1 k true n done true bt511.2.2.1 0 bt511.1 bt511.2.1 bt522.1 bt522.2))) true) (d : Nat) :
    ∀ i : Nat, i + d = l1.length → Ev (fun k => l0 k l1 l2 true n done true (lastN l1 i : Nat) (i : Int) s was) true := by
  induction d with
  | zero =>
    intro i hi
    obtain rfl : i = l1.length := by omega
    refine Ev.step (fun k => ?_) next
    simp only [l0]
    have h1 := lastN_le l1 l1.length
    rw [if_neg (by omega), if_pos (by omega), if_pos (by omega), Int.toNat_natCast]
  | succ d ih =>
    intro i hi
    have hw : wrap64 ((i : Int) + 1) = ((i + 1 : Nat) : Int) := by unfold wrap64; omega
    refine Ev.step (fun k => ?_) (ih (i + 1) (by omega))
    simp only [l0]
    rw [if_pos (by omega), if_pos (by omega), hw]
    by_cases e : rd l1 (i : Nat) = 255
    · rw [if_pos e]
      have : lastN l1 (i + 1) = i + 1 := by unfold lastN; rw [if_pos e]
      rw [this]
    · rw [if_neg e]
      have : lastN l1 (i + 1) = lastN l1 i := by conv => lhs; unfold lastN; rw [if_neg e]
      rw [this]
theorem DiskTearsBytes : hallmootlaw22_DiskTearsBytes.Pure := by
  intro a0 l1 l2 h0 _ _ hb _ _ _
  have ha := bounds_u8 h0
  have hn : wrap64 (1 + (Int.tmod (wrap64 a0) 4)) = (((1 + a0 % 4).toNat : Nat) : Int) := by
    rw [wrap_u8 (c := a0) (by omega) (by omega), Int.tmod_eq_emod_of_nonneg (by omega)]
    unfold wrap64
    omega
  obtain ⟨n, hnn⟩ : ∃ n, n = (1 + a0 % 4).toNat := ⟨_, rfl⟩
  rw [← hnn] at hn
  have hn0 : 0 < n := by omega
  have hn4 : n ≤ 4 := by omega
  clear hnn
  have hby : bytes255 l1 := fun x hx => by have := bounds_u8 (hb x hx); omega
  refine Ev.rounds (g := fun k => hallmootlaw22_DiskTearsBytes.f k a0 l1 l2) ?_
  unfold hallmootlaw22_DiskTearsBytes.f
  refine Ev.bind (Ev.of (fun k => hallmootlaw22_sanity.mono k) sanity_at) ?_
  rw [hn]
  by_cases hl : (l1.length : Int) > 30
  · refine Ev.congr (fun k => by rw [if_pos hl]) (Ev.step (f := fun _ => some true) (fun k => ?_) (Ev.now true))
    simp [hallmootlaw22_DiskTearsBytes.j0]
  · refine Ev.congr (fun k => by rw [if_neg hl]) ?_
    by_cases hl2 : (l2.length : Int) > 40
    · refine Ev.step (f := fun _ => some true) (fun k => ?_) (Ev.now true)
      simp [hallmootlaw22_DiskTearsBytes.j0, hl2]
    · refine Ev.step (f := fun k => (hallmootlaw22_written.f k n l1).bind fun bt498 => (hallmootlaw22_DiskTearsBytes.l0 k l1 l2 true n bt498.2.2.1 bt498.2.2.2 0 0 bt498.1 bt498.2.1)) (fun k => ?_) ?_
      · simp only [hallmootlaw22_DiskTearsBytes.j0]
        rw [if_neg (by simpa using hl2)]
      · obtain ⟨hw1, hI⟩ := written_eq n hn0 (by omega) l1 hby (by omega) 300 (by omega)
        refine Ev.bind (Ev.of (g := fun k => hallmootlaw22_written.f k n l1) (fun k => hallmootlaw22_written.mono _ _ k) hw1) ?_
        have hL := lastN_le l1 l1.length
        have hbt : bytes255 (l1.take (lastN l1 l1.length)) := fun x hx => hby x (List.mem_of_mem_take hx)
        obtain ⟨hw2, hJ⟩ := written_eq n hn0 (by omega) (l1.take (lastN l1 l1.length)) hbt (by rw [List.length_take]; omega) 300 (by omega)
        obtain ⟨ds, hS⟩ := since_final hn0 l1 hJ.len
        have hun := hS.un (List.replicate (finalC n l1).2.1.length ByteArray.empty) (by simp)
        have hwl := hS.wl
        have hw3 := final_was n l1
        have h32 : ∀ x ∈ (finalC n l1).2.2, x.f1.size = 32 := fun x hx => (hI.done32 x hx).2.2
        have hdl := hI.donel
        have hwd := hI.wasl
        have hcr : crashOk (finalC n l1).1 (finalC n l1).2.1 := ⟨by rw [hI.len]; omega, by omega, hI.a32, fun x hx => by rw [hI.len]; exact hI.was32 x hx⟩
        have hcv : crashV (finalC n l1).1 (finalC n l1).2.1 l2 = crS (finalC n l1).2.1 (ds.map (·.f1)) l2 (finalC n l1).2.1.length (finalC n (l1.take (lastN l1 l1.length))).1 := by
          unfold crashV
          rw [hun]
          simp
        have hpz : ∀ j, j < (finalC n l1).2.1.length → ((ds.map (·.f1)).getD j ByteArray.empty).size = 32 := by
          intro j hj
          rw [List.getD_eq_getElem?_getD, List.getElem?_eq_getElem (by rw [List.length_map]; omega), List.getElem_map]
          exact (hS.dv _ (List.getElem_mem _)).2.2
        have hlast0 := l0_ev n l1 l2 (finalC n l1).2.2 (finalC n l1).2.1 (finalC n l1).1 (by omega) ?_ l1.length 0 (by omega)
        · exact hlast0
        · refine Ev.bind (Ev.of (g := fun k => hallmootlaw22_written.f k n (l1.take (lastN l1 l1.length))) (fun k => hallmootlaw22_written.mono _ _ k) hw2) ?_
          have hdc : dCrash.f (finalC n l1).1 (finalC n l1).2.1 l2 = some (crashV (finalC n l1).1 (finalC n l1).2.1 l2, []) := by
            unfold dCrash.f
            rw [if_pos hcr]
          refine Ev.congr (f := fun k => hallmootlaw22_DiskTearsBytes.l1 k true n (finalC n l1).2.2 true (finalC n (l1.take (lastN l1 l1.length))).2.2 0 (finalC n (l1.take (lastN l1 l1.length))).1 [] (crashV (finalC n l1).1 (finalC n l1).2.1 l2) []) (fun k => ?_) ?_
          · rw [hdc, hw3]
            rfl
          · have hdn := hS.dn
            refine l1_ev n (by omega) _ _ _ _ hJ.len ?_ hJ.a32 ?_ h32 (by omega) (by rw [hdn]; simp) (fun a j ha hj => ?_) n 0 (by omega)
            · rw [hcv, crS_len]; exact hJ.len
            · rw [hcv]
              exact crS_32 (n := n) _ (fun x hx => hI.was32 x hx) _ hpz _ _ hJ.len hJ.a32 _ (Nat.le_refl _)
            · rw [hcv]
              rcases crS_byte (n := n) (finalC n l1).2.1 (fun x hx => hI.was32 x hx) (ds.map (·.f1)) hpz l2 _ hJ.len hJ.a32 a j ha hj _ (Nat.le_refl _) with h | ⟨q, h1, h2, h3⟩
              · exact .inl h
              · refine .inr ⟨(finalC n (l1.take (lastN l1 l1.length))).2.2.length + q, by omega, by rw [hdn, List.length_append]; omega, ?_, ?_⟩
                · rw [hdn, List.getD_eq_getElem?_getD, List.getElem?_append_right (by omega), Nat.add_sub_cancel_left, ← List.getD_eq_getElem?_getD, ← hS.same q (by omega)]
                  exact h2
                · rw [h3, hdn, List.getD_eq_getElem?_getD (l := _ ++ ds), List.getElem?_append_right (by omega), Nat.add_sub_cancel_left, List.getD_eq_getElem?_getD, List.getElem?_map, List.getElem?_eq_getElem (by omega)]
                  rfl
end Go.Proofs.Ytdaonhgcejjlhaa.Pure
