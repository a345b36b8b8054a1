/- The plain statement of DiskReadsLastWrite: each sector reads as the last write to it, or as zeros. -/
import Derived.Test.YtdaonhgcejjlhaaPx29
import Derived.Test.YtdaonhgcejjlhaaHp
import Derived.OpenShut
namespace Go.Proofs.Ytdaonhgcejjlhaa.Pure
open Go.OpenShut Go.RowKit Go.Proofs.Ytdaonhgcejjlhaa.P Go.Proofs.YtdaonhgcejjlhaaW.PrintWords Go.Proofs.YtdaonhgcejjlhaaW.PrintLast Go.Proofs.YtdaonhgcejjlhaaW.PrintMore

theorem right_true {n i : Nat} {s : List ByteArray} {was done : List S46} (h : WInv n i s was done) (hn : n ≤ 512) : dRight.f s was = some true := by
  unfold dRight.f
  have h1 : s.any badS = false := by
    rw [List.any_eq_false]
    intro x hx
    simp [badS, h.a32 x hx]
  have h2 : was.any (badW s.length) = false := by
    rw [List.any_eq_false]
    intro x hx
    have := h.was32 x hx
    have hl := h.len
    simp only [badW, Bool.or_eq_true, decide_eq_true_eq, bne_iff_ne, ne_eq]
    omega
  rw [if_neg (by have := h.len; omega), if_neg (by rw [h1]; simp), h2]
  rfl
theorem want_loop (n : Nat) (s : List ByteArray) (was done : List S46) (a : Int) (d : Nat) : ∀ (k i : Nat) (b : ByteArray), i + d = done.length → done.length ≤ 100 → d < k → b = lastOf (done.take i) a →
    ∃ k', k ≤ k' + d + 1 ∧ hallmootlaw22_DiskReadsLastWrite.l1 k true n done true a b i s was =
      ((disk_Read.f s was a).bind fun bt417 => (if bt417.1.toList = (lastOf done a).toList then (if bt417.2 = 0 then (hallmootlaw22_DiskReadsLastWrite.l0 k' true n done true (wrap64 (a + 1)) s was) else (none)) else (none))) := by
  induction d with
  | zero =>
    intro k i b hi hl hk hb
    obtain ⟨k, rfl⟩ : ∃ m, k = m + 1 := ⟨k - 1, by omega⟩
    obtain rfl : i = done.length := by omega
    rw [List.take_length] at hb
    refine ⟨k, by omega, ?_⟩
    simp only [hallmootlaw22_DiskReadsLastWrite.l1]
    rw [if_neg (by omega), hb]
  | succ d ih =>
    intro k i b hi hl hk hb
    obtain ⟨k, rfl⟩ : ∃ m, k = m + 1 := ⟨k - 1, by omega⟩
    have hlt : i < done.length := by omega
    have hw : wrap64 ((i : Int) + 1) = ((i + 1 : Nat) : Int) := by unfold wrap64; omega
    have hx : rd_T46 done (i : Int) = done[i] := by simp [rd_T46, List.getD_eq_getElem?_getD, hlt]
    have hs := lastOf_snoc (done.take i) done[i] a
    rw [List.take_append_getElem hlt] at hs
    simp only [hallmootlaw22_DiskReadsLastWrite.l1]
    rw [if_pos (by omega), if_pos (by omega), hx, hw]
    by_cases e : done[i].f0 = a
    · rw [if_pos e]
      rw [if_pos e] at hs
      obtain ⟨k', h1, h2⟩ := ih k (i + 1) done[i].f1 (by omega) hl (by omega) hs.symm
      exact ⟨k', by omega, h2⟩
    · rw [if_neg e]
      rw [if_neg e] at hs
      obtain ⟨k', h1, h2⟩ := ih k (i + 1) b (by omega) hl (by omega) (hb.trans hs.symm)
      exact ⟨k', by omega, h2⟩
theorem at_loop {n m : Nat} {s : List ByteArray} {was done : List S46} (hI : WInv n m s was done) (hn : n ≤ 512) (hm : m ≤ 100) (d : Nat) : ∀ (k a : Nat), a + d = n → d * 200 + 100 ≤ k → hallmootlaw22_DiskReadsLastWrite.l0 k true n done true a s was = some true := by
  induction d with
  | zero =>
    intro k a ha hk
    obtain ⟨k, rfl⟩ : ∃ m, k = m + 2 := ⟨k - 2, by omega⟩
    simp only [hallmootlaw22_DiskReadsLastWrite.l0]
    rw [if_neg (by omega)]
    simp only [hallmootlaw22_DiskReadsLastWrite.j1]
    simp [right_true hI hn]
  | succ d ih =>
    intro k a ha hk
    obtain ⟨k, rfl⟩ : ∃ m, k = m + 2 := ⟨k - 2, by omega⟩
    have hw : wrap64 ((a : Int) + 1) = ((a + 1 : Nat) : Int) := by unfold wrap64; omega
    have hdl := hI.donel
    have hr : disk_Read.f s was (a : Int) = some (lastOf done a, 0) := by
      unfold disk_Read.f
      rw [dHas]
      have hl := hI.len
      simp only [Option.bind_some, decide_eq_true_eq]
      rw [if_pos ⟨by omega, by omega⟩, if_pos (by omega), if_pos (by omega)]
      have := hI.last a (by omega)
      rw [← this]
      rfl
    simp only [hallmootlaw22_DiskReadsLastWrite.l0]
    rw [if_pos (by omega)]
    simp only [hallmootlaw22_DiskReadsLastWrite.j1]
    rw [if_pos trivial, full_at _ (by omega)]
    simp only [Option.bind_some]
    obtain ⟨k', h1, h2⟩ := want_loop n s was done (a : Int) done.length k 0 (full32 0) (by omega) (by omega) (by omega) rfl
    have e0 : ((0 : Nat) : Int) = 0 := rfl
    rw [e0] at h2
    rw [h2, hr]
    simp only [Option.bind_some]
    rw [if_pos trivial, if_pos trivial, hw]
    exact ih k' (a + 1) (by omega) (by omega)

theorem DiskReadsLastWrite : hallmootlaw22_DiskReadsLastWrite.Pure := by
  intro a0 l1 h0 _ _ hb
  have ha := bounds_u8 h0
  have hn : wrap64 (1 + (Int.tmod (wrap64 a0) 6)) = (((1 + a0 % 6).toNat : Nat) : Int) := by
    rw [wrap_u8 (c := a0) (by omega) (by omega), Int.tmod_eq_emod_of_nonneg (by omega)]
    unfold wrap64
    omega
  obtain ⟨K, hK⟩ : ∃ K : Nat, 2000 ≤ K := ⟨2000, Nat.le_refl _⟩
  refine ⟨K, ?_⟩
  unfold hallmootlaw22_DiskReadsLastWrite.f
  rw [sanity_ge (by omega)]
  simp only [Option.bind_some]
  by_cases hl : (l1.length : Int) > 40
  · rw [if_pos hl]
  · rw [if_neg hl, hn]
    have hby : bytes255 l1 := fun x hx => by have := bounds_u8 (hb x hx); omega
    obtain ⟨h1, h2⟩ := written_eq (1 + a0 % 6).toNat (by omega) (by omega) l1 hby (by omega) K (by omega)
    rw [h1]
    simp only [Option.bind_some]
    have := at_loop h2 (by omega) (by omega) (1 + a0 % 6).toNat K 0 (by omega) (by omega)
    exact this
end Go.Proofs.Ytdaonhgcejjlhaa.Pure
