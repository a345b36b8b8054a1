/- Plain laws for package disk: the example, and what a list of commands leaves. -/
import Derived.Test.YtdaonhgcejjlhaaPx14
import Derived.Test.YtdaonhgcejjlhaaPx28
import Derived.Test.YtdaonhgcejjlhaaHg
import Derived.KernelRfl
namespace Go.Proofs.Ytdaonhgcejjlhaa.P
open Go.RowKit Go.Proofs.YtdaonhgcejjlhaaW.PrintWords Go.Proofs.YtdaonhgcejjlhaaW.PrintLast Go.Proofs.YtdaonhgcejjlhaaW.PrintMore
set_option linter.unusedVariables false
set_option linter.unusedSimpArgs false
theorem sanity_at : hallmootlaw22_sanity.f 60 = some true := by kernel_rfl
theorem sanity_ge {k : Nat} (hk : 60 ≤ k) : hallmootlaw22_sanity.f k = some true := at_rounds (g := fun k => hallmootlaw22_sanity.f k) (fun k => hallmootlaw22_sanity.mono k) hk sanity_at

def lastOf (done : List S46) (a : Int) : ByteArray := done.foldl (fun acc x => if x.f0 = a then x.f1 else acc) (full32 0)
theorem lastOf_snoc (done : List S46) (x : S46) (a : Int) : lastOf (done ++ [x]) a = if x.f0 = a then x.f1 else lastOf done a := by
  unfold lastOf
  rw [List.foldl_append]
  rfl
structure WInv (n : Nat) (i : Nat) (s : List ByteArray) (was done : List S46) : Prop where
  len : s.length = n
  a32 : all32 s
  wasl : was.length ≤ i
  was32 : ∀ x ∈ was, 0 ≤ x.f0 ∧ x.f0 < (n : Int) ∧ x.f1.size = 32
  donel : done.length ≤ i
  done32 : ∀ x ∈ done, 0 ≤ x.f0 ∧ x.f0 < (n : Int) ∧ x.f1.size = 32
  last : ∀ a : Nat, a < n → s.getD a ByteArray.empty = lastOf done a
theorem new_eq (n : Nat) (h : n ≤ 512) : disk_New.f (n : Int) = some (List.replicate n (full32 0), [], 0) := by
  unfold disk_New.f
  rw [if_neg (by omega), if_neg (by omega), if_pos (by omega)]
  unfold repS.f
  rw [if_pos ⟨rfl, by omega, by omega⟩]
  simp [full32]
theorem sync_eq (s : List ByteArray) (was : List S46) (h : s.length ≤ 1000) : disk_Sync.f s was = some (s, []) := by
  unfold disk_Sync.f cloneS.f
  rw [if_pos (by omega)]
  rfl
theorem write_eq (s : List ByteArray) (was : List S46) (a : Int) (b : ByteArray) (h0 : 0 ≤ a) (h1 : a < (s.length : Int)) (hb : b.size = 32) (hs : s.length ≤ 1000) (hw : was.length ≤ 1000) :
    dWrite.f s was a b = some (s.set a.toNat b, was ++ [⟨a, rdOf ByteArray.empty s a⟩], 0) := by
  unfold dWrite.f writeV
  rw [if_pos ⟨h0, h1⟩, if_pos hb, if_pos ⟨by omega, by omega⟩]
theorem WInv.write {n i : Nat} {s : List ByteArray} {was done : List S46} (h : WInv n i s was done) (a : Int) (c : Int) (h0 : 0 ≤ a) (h1 : a < n) :
    WInv n (i + 1) (s.set a.toNat (full32 c)) (was ++ [⟨a, rdOf ByteArray.empty s a⟩]) (done ++ [⟨a, full32 c⟩]) where
  len := by rw [List.length_set]; exact h.len
  a32 := all32_set h.a32 _ (full32_size c)
  wasl := by have := h.wasl; simp; omega
  was32 := fun x hx => by
    rcases List.mem_append.1 hx with hx | hx
    · exact h.was32 x hx
    · rw [List.mem_singleton.1 hx]
      exact ⟨h0, h1, all32_get h.a32 (by rw [h.len]; omega)⟩
  donel := by have := h.donel; simp; omega
  done32 := fun x hx => by
    rcases List.mem_append.1 hx with hx | hx
    · exact h.done32 x hx
    · rw [List.mem_singleton.1 hx]
      exact ⟨h0, h1, full32_size c⟩
  last := fun b hb => by
    rw [lastOf_snoc]
    by_cases e : a = (b : Int)
    · subst e
      rw [if_pos rfl, List.getD_eq_getElem?_getD, Int.toNat_natCast, List.getElem?_set_self (by rw [h.len]; exact hb)]
      rfl
    · rw [if_neg e, List.getD_eq_getElem?_getD, List.getElem?_set_ne (by omega), ← List.getD_eq_getElem?_getD]
      exact h.last b hb
theorem WInv.sync {n i : Nat} {s : List ByteArray} {was done : List S46} (h : WInv n i s was done) : WInv n (i + 1) s [] done where
  len := h.len
  a32 := h.a32
  wasl := by simp
  was32 := fun x hx => by cases hx
  donel := by have := h.donel; omega
  done32 := h.done32
  last := h.last

/-- What the commands leave, command by command. -/
def stepC (n : Int) (st : List ByteArray × List S46 × List S46) (c : Int) : List ByteArray × List S46 × List S46 :=
  if c = 255 then (st.1, [], st.2.2) else (st.1.set (c % n).toNat (full32 c), st.2.1 ++ [⟨c % n, rdOf ByteArray.empty st.1 (c % n)⟩], st.2.2 ++ [⟨c % n, full32 c⟩])
def runC (n : Int) (l : List Int) (st : List ByteArray × List S46 × List S46) : List ByteArray × List S46 × List S46 := l.foldl (stepC n) st
theorem wrap_u8 {c : Int} (h0 : 0 ≤ c) (h1 : c ≤ 255) : wrap64 c = c := by unfold wrap64; omega
def bytes255 (l : List Int) : Prop := ∀ x ∈ l, 0 ≤ x ∧ x ≤ 255
theorem bytes_get {l : List Int} (h : bytes255 l) {i : Nat} (hi : i < l.length) : 0 ≤ rd l i ∧ rd l i ≤ 255 := by
  unfold rd
  rw [Int.toNat_natCast, List.getD_eq_getElem?_getD, List.getElem?_eq_getElem hi]
  exact h _ (List.getElem_mem _)
theorem written_loop (n : Nat) (hn0 : 0 < n) (hn : n ≤ 512) (l : List Int) (hl : bytes255 l) (hll : l.length ≤ 100) (d : Nat) :
    ∀ (k i : Nat) (s : List ByteArray) (was done : List S46), i + d = l.length → WInv n i s was done → 2 * d + 45 ≤ k →
      hallmootlaw22_written.l0 k n l true done i s was = some ((runC n (l.drop i) (s, was, done)).1, (runC n (l.drop i) (s, was, done)).2.1, (runC n (l.drop i) (s, was, done)).2.2, true) ∧
      WInv n l.length (runC n (l.drop i) (s, was, done)).1 (runC n (l.drop i) (s, was, done)).2.1 (runC n (l.drop i) (s, was, done)).2.2 := by
  induction d with
  | zero =>
    intro k i s was done hi hI hk
    obtain rfl : i = l.length := by omega
    obtain ⟨k, rfl⟩ : ∃ m, k = m + 2 := ⟨k - 2, by omega⟩
    rw [List.drop_length]
    refine ⟨?_, hI⟩
    simp only [hallmootlaw22_written.l0]
    rw [if_neg (by omega)]
    simp only [hallmootlaw22_written.j1]
    simp [runC]
  | succ d ih =>
    intro k i s was done hi hI hk
    obtain ⟨k, rfl⟩ : ∃ m, k = m + 2 := ⟨k - 2, by omega⟩
    have hlt : i < l.length := by omega
    have hb := bytes_get hl hlt
    have hdrop : l.drop i = rd l i :: l.drop (i + 1) := by
      rw [List.drop_eq_getElem_cons hlt]
      congr 1
      unfold rd
      rw [Int.toNat_natCast, List.getD_eq_getElem?_getD, List.getElem?_eq_getElem hlt]
      rfl
    have hw : wrap64 ((i : Int) + 1) = ((i + 1 : Nat) : Int) := by unfold wrap64; omega
    rw [hdrop]
    have hrun : runC n (rd l i :: l.drop (i + 1)) (s, was, done) = runC n (l.drop (i + 1)) (stepC n (s, was, done) (rd l i)) := rfl
    rw [hrun]
    have h1 := hI.wasl
    have h2 := hI.donel
    have h3 := hI.len
    simp only [hallmootlaw22_written.l0]
    rw [if_pos (by omega)]
    simp only [hallmootlaw22_written.j1]
    rw [if_pos trivial, if_pos (by omega), if_pos (by omega)]
    by_cases e : rd l i = 255
    · rw [if_pos e, sync_eq s was (by omega)]
      simp only [Option.bind_some]
      rw [hw]
      have hst : stepC n (s, was, done) (rd l i) = (s, [], done) := by unfold stepC; rw [if_pos e]
      rw [hst]
      exact ih k (i + 1) s [] done (by omega) hI.sync (by omega)
    · have hm0 : 0 ≤ rd l i % (n : Int) := Int.emod_nonneg _ (by omega)
      have hm1 : rd l i % (n : Int) < n := Int.emod_lt_of_pos _ (by omega)
      have htm : Int.tmod (wrap64 (rd l i)) n = rd l i % n := by rw [wrap_u8 hb.1 hb.2, Int.tmod_eq_emod_of_nonneg hb.1]
      rw [if_neg e, if_neg (by omega), full_at _ (by omega)]
      simp only [Option.bind_some]
      rw [htm, write_eq s was _ _ hm0 (by omega) (full32_size _) (by omega) (by omega)]
      simp only [Option.bind_some]
      rw [if_pos (by omega), hw]
      have hst : stepC n (s, was, done) (rd l i) = (s.set (rd l i % n).toNat (full32 (rd l i)), was ++ [⟨rd l i % n, rdOf ByteArray.empty s (rd l i % n)⟩], done ++ [⟨rd l i % n, full32 (rd l i)⟩]) := by unfold stepC; rw [if_neg e]
      rw [hst]
      exact ih k (i + 1) _ _ _ (by omega) (hI.write _ _ hm0 hm1) (by omega)
theorem WInv.start (n : Nat) : WInv n 0 (List.replicate n (full32 0)) [] [] where
  len := by simp
  a32 := fun x hx => by rw [List.eq_of_mem_replicate hx]; exact full32_size 0
  wasl := by simp
  was32 := fun x hx => by cases hx
  donel := by simp
  done32 := fun x hx => by cases hx
  last := fun a ha => by
    rw [List.getD_eq_getElem?_getD, List.getElem?_replicate_of_lt ha]
    rfl
def finalC (n : Nat) (l : List Int) : List ByteArray × List S46 × List S46 := runC n l (List.replicate n (full32 0), [], [])
theorem written_eq (n : Nat) (hn0 : 0 < n) (hn : n ≤ 512) (l : List Int) (hl : bytes255 l) (hll : l.length ≤ 100) (k : Nat) (hk : 300 ≤ k) :
    hallmootlaw22_written.f k n l = some ((finalC n l).1, (finalC n l).2.1, (finalC n l).2.2, true) ∧ WInv n l.length (finalC n l).1 (finalC n l).2.1 (finalC n l).2.2 := by
  have h := written_loop n hn0 hn l hl hll l.length k 0 _ [] [] (by omega) (WInv.start n) (by omega)
  rw [List.drop_zero] at h
  refine ⟨?_, h.2⟩
  unfold hallmootlaw22_written.f
  rw [new_eq n hn]
  simp only [Option.bind_some]
  exact h.1
end Go.Proofs.Ytdaonhgcejjlhaa.P
