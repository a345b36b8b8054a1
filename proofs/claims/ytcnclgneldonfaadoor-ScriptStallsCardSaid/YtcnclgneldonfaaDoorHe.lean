/- step, stall, crash of a word in closed form. -/
import Derived.Test.YtcnclgneldonfaaDoorHd
import Derived.Lib.SplitLaws
import Derived.Test.YtcnclgneldonfaaDoorPx64
import Derived.Test.YtcnclgneldonfaaDoorPx65
import Derived.Test.YtcnclgneldonfaaDoorPx74
namespace Go.Proofs.YtcnclgneldonfaaDoor.P
open Go Go.RowKit Go.Proofs.YtcnclgneldonfaaDoorW.PrintWords Go.Proofs.YtcnclgneldonfaaDoorW.PrintLast Go.Proofs.YtcnclgneldonfaaDoorW.PrintMore
set_option linter.unusedVariables false
set_option linter.unusedSimpArgs false
theorem cut_size (s sep : List UInt8) : (cutL s sep).1.size ≤ s.length ∧ (cutL s sep).2.1.size ≤ s.length := by
  unfold cutL Lib.cut
  split
  · rw [size_mk, size_mk, List.length_take, List.length_drop]; omega
  · rw [size_mk, size_mk]; simp
def stepV (w : ByteArray) : S26 × Int :=
  let c := cutL w.data.toList [120]
  let a := numF c.1.data.toList 3
  let m := if c.2.2 then numF c.2.1.data.toList 1073741824 else 1
  (⟨1, a, 0, []⟩, if a < 0 then 0 else if m < 1 then 0 else m)
def stallV (w : ByteArray) : S26 × Int :=
  let c := cutL w.data.toList [126]
  let a := numF c.1.data.toList 3
  let b := numF c.2.1.data.toList 1048576
  (⟨2, a, b, []⟩, if c.2.2 then (if a < 0 then 0 else if b < 0 then 0 else 1) else 0)
def crashV (w : ByteArray) : S26 × Int :=
  let c := cutL w.data.toList [33]
  if c.2.2 ∧ c.1.data.toList = [] then
    (if c.2.1.data.toList = [] then (⟨3, 0, 0, []⟩, 1)
    else
      let l := (splitL c.2.1 ⟨#[44]⟩).map (fun x => numF x.data.toList 32)
      (⟨3, 0, 0, l⟩, if rightB 1 3 0 0 l then 1 else 0))
  else (⟨3, 0, 0, []⟩, 0)
theorem step_f (w : ByteArray) (hw : w.size ≤ 1000000) : script_word_step.f w = some ((stepV w).1.f0, (stepV w).1.f1, (stepV w).1.f2, (stepV w).1.f3, (stepV w).2) := by
  have hc := cut_size w.data.toList [120]
  rw [sizeL] at hc
  unfold script_word_step.f stepV sCut.f
  rw [if_pos hw]
  simp only [Option.bind_some]
  unfold sNum.f
  generalize cutL w.data.toList [120] = c at *
  rw [if_pos (show c.1.size ≤ 1000000 by omega), if_pos (show c.2.1.size ≤ 1000000 by omega)]
  simp only [Option.bind_some]
  by_cases h1 : c.2.2 = true
  · rw [if_pos h1, if_pos h1]
    by_cases h2 : numF c.1.data.toList 3 < 0
    · rw [if_pos h2, if_pos h2]
    · rw [if_neg h2, if_neg h2]
      by_cases h3 : numF c.2.1.data.toList 1073741824 < 1
      · rw [if_pos h3, if_pos h3]
      · rw [if_neg h3, if_neg h3]
  · rw [if_neg h1, if_neg h1]
    by_cases h2 : numF c.1.data.toList 3 < 0
    · rw [if_pos h2, if_pos h2]
    · rw [if_neg h2, if_neg h2]
      simp
theorem stall_f (w : ByteArray) (hw : w.size ≤ 1000000) : script_word_stall.f w = some ((stallV w).1.f0, (stallV w).1.f1, (stallV w).1.f2, (stallV w).1.f3, (stallV w).2) := by
  have hc := cut_size w.data.toList [126]
  rw [sizeL] at hc
  unfold script_word_stall.f stallV sCut.f
  rw [if_pos hw]
  simp only [Option.bind_some]
  unfold sNum.f
  generalize cutL w.data.toList [126] = c at *
  rw [if_pos (show c.1.size ≤ 1000000 by omega), if_pos (show c.2.1.size ≤ 1000000 by omega)]
  simp only [Option.bind_some]
  by_cases h1 : c.2.2 = true
  · rw [if_pos h1, if_pos h1]
    by_cases h2 : numF c.1.data.toList 3 < 0
    · rw [if_pos h2, if_pos h2]
    · rw [if_neg h2, if_neg h2]
      by_cases h3 : numF c.2.1.data.toList 1048576 < 0
      · rw [if_pos h3, if_pos h3]
      · rw [if_neg h3, if_neg h3]
  · rw [if_neg h1, if_neg h1]
theorem splitB_len (sep : ByteArray) (k : Nat) : ∀ s : ByteArray, (Lib.splitB sep 0 k s).length ≤ k + 1 := by
  induction k with
  | zero => intro s; simp [Lib.splitB]
  | succ k ih =>
    intro s
    unfold Lib.splitB
    split
    · simp
    · rw [List.length_cons]
      have := ih (s.extract ((Lib.indexB s sep).toNat + sep.size) s.size)
      omega
theorem split_part (sep : ByteArray) (k : Nat) : ∀ s : ByteArray, ∀ x ∈ Lib.splitB sep 0 k s, x.size ≤ s.size := by
  induction k with
  | zero =>
    intro s x hx
    simp only [Lib.splitB, List.mem_singleton] at hx
    rw [hx]
    exact Nat.le_refl _
  | succ k ih =>
    intro s x hx
    unfold Lib.splitB at hx
    split at hx
    · rw [List.mem_singleton.1 hx]
      exact Nat.le_refl _
    · rcases List.mem_cons.1 hx with rfl | hx
      · rw [ByteArray.size_extract]; omega
      · have := ih _ x hx
        rw [ByteArray.size_extract] at this
        omega
theorem crash_loop (L : List ByteArray) (hL : L.length ≤ 2000000) (hs : ∀ x ∈ L, x.size ≤ 1000000) (d : Nat) : ∀ (i k : Nat), i + d = L.length → d + 100 ≤ k →
    script_word_crash.l0 k L (L.length : Int) (i : Int) 3 0 0 ((L.take i).map (fun x => numF x.data.toList 32)) = some (3, 0, 0, L.map (fun x => numF x.data.toList 32), if rightB 1 3 0 0 (L.map (fun x => numF x.data.toList 32)) then 1 else 0) := by
  induction d with
  | zero =>
    intro i k hi hk
    obtain ⟨k, rfl⟩ : ∃ m, k = m + 1 := ⟨k - 1, by omega⟩
    simp only [script_word_crash.l0]
    rw [if_neg (by omega), List.take_of_length_le (by omega), right_f _ _ _ _ _ k (by omega)]
    simp only [Option.bind_some]
    by_cases h : rightB 1 3 0 0 (L.map (fun x => numF x.data.toList 32)) = true
    · rw [if_pos h, if_pos h]
    · rw [if_neg h, if_neg h]
  | succ d ih =>
    intro i k hi hk
    obtain ⟨k, rfl⟩ : ∃ m, k = m + 1 := ⟨k - 1, by omega⟩
    have hlt : i < L.length := by omega
    have hrd : rdOf ByteArray.empty L (i : Int) = L[i] := by simp [rdOf, List.getD_eq_getElem?_getD, hlt]
    simp only [script_word_crash.l0]
    unfold sNum.f
    rw [if_pos (by omega), if_pos (by omega), if_pos (by omega), hrd, if_pos (hs _ (List.getElem_mem hlt))]
    simp only [Option.bind_some]
    rw [if_pos (by rw [List.length_map, List.length_take]; omega), w64 (n := (i : Int) + 1) (by omega) (by omega), show (i : Int) + 1 = ((i + 1 : Nat) : Int) by omega]
    have := ih (i + 1) k (by omega) (by omega)
    rw [List.take_succ_eq_append_getElem hlt, List.map_append] at this
    exact this
theorem split_ok (s : ByteArray) (hs : s.size ≤ 1000000) : sSplit.f s ⟨#[44]⟩ = some (splitL s ⟨#[44]⟩) ∧ (splitL s ⟨#[44]⟩).length ≤ 1000001 ∧ ∀ x ∈ splitL s ⟨#[44]⟩, x.size ≤ 1000000 := by
  have h1 : 1 ≤ (⟨#[44]⟩ : ByteArray).size := by decide
  have hc := Lib.countB_le ⟨#[44]⟩ h1 s.size s (Nat.le_refl _)
  have hl : (splitL s ⟨#[44]⟩).length = Lib.countB s ⟨#[44]⟩ + 1 := Lib.splitB_all ⟨#[44]⟩ h1 0 _ s rfl
  unfold sSplit.f
  refine ⟨if_pos ⟨hs, h1, hl, by unfold maxLen; omega⟩, by omega, fun x hx => ?_⟩
  have := split_part ⟨#[44]⟩ _ s x hx
  omega
theorem crash_f (w : ByteArray) (hw : w.size ≤ 1000000) (k : Nat) (hk : 2000200 ≤ k) : script_word_crash.f k w = some ((crashV w).1.f0, (crashV w).1.f1, (crashV w).1.f2, (crashV w).1.f3, (crashV w).2) := by
  have hc := cut_size w.data.toList [33]
  rw [sizeL] at hc
  obtain ⟨k, rfl⟩ : ∃ m, k = m + 1 := ⟨k - 1, by omega⟩
  obtain ⟨c, hcd⟩ : ∃ c, cutL w.data.toList [33] = c := ⟨_, rfl⟩
  have hv : crashV w = if c.2.2 = true ∧ c.1.data.toList = [] then (if c.2.1.data.toList = [] then (⟨3, 0, 0, []⟩, 1) else (⟨3, 0, 0, (splitL c.2.1 ⟨#[44]⟩).map (fun x => numF x.data.toList 32)⟩, if rightB 1 3 0 0 ((splitL c.2.1 ⟨#[44]⟩).map (fun x => numF x.data.toList 32)) then 1 else 0)) else (⟨3, 0, 0, []⟩, 0) := by
    unfold crashV; rw [hcd]
  unfold script_word_crash.f sCut.f
  rw [if_pos hw]
  simp only [Option.bind_some]
  rw [hcd] at hc ⊢
  simp only [script_word_crash.j0]
  by_cases h1 : c.2.2 = true
  · rw [if_pos h1, Lib.toList_data, Lib.toList_data]
    by_cases h2 : c.1.data.toList = []
    · rw [if_pos ⟨h1, h2⟩] at hv
      rw [h2, if_neg (by simp)]
      by_cases h3 : c.2.1.data.toList = []
      · rw [if_pos h3] at hv ⊢
        rw [hv]
      · rw [if_neg h3] at hv ⊢
        rw [hv]
        obtain ⟨s1, s2, s3⟩ := split_ok c.2.1 (by omega)
        rw [s1]
        simp only [Option.bind_some]
        have := crash_loop (splitL c.2.1 ⟨#[44]⟩) (by omega) s3 (splitL c.2.1 ⟨#[44]⟩).length 0 k (by omega) (by omega)
        rw [List.take_zero, List.map_nil] at this
        exact this
    · rw [if_neg (fun h => h2 h.2)] at hv
      rw [if_pos (by simpa using h2), hv]
  · rw [if_neg (fun h => h1 h.1)] at hv
    rw [if_neg h1, if_pos trivial, hv]
/-- What Parse makes of a word: the pick, and how often it comes (0: no word). -/
def wordV (w : ByteArray) : S26 × Int := if 0 < (stepV w).2 then stepV w else if 0 < (stallV w).2 then stallV w else crashV w
def RetP (w : World) (p : S26 × Int) (e : Ending) (w' : World) : Prop := ∃ v3_ : Value, e = .returned (.tuple #[.agg #[.int .i64 p.1.f0, .int .i64 p.1.f1, .int .i64 p.1.f2, v3_], .int .i64 p.2]) ∧ Kd.R (Kd.int .i64) 3 w' w.heap.size (fun _ => True) v3_ p.1.f3 ∧ Below w.heap.size w w'
theorem step_walk (s : ByteArray) (hs : s.size ≤ 1000000) (w : World) (hL : Laid w) : Calls Tryd.prog 27 #[.string s] w (RetP w (stepV s)) := script_word_step.calls s _ _ _ _ _ w (step_f s hs) hL
theorem stall_walk (s : ByteArray) (hs : s.size ≤ 1000000) (w : World) (hL : Laid w) : Calls Tryd.prog 28 #[.string s] w (RetP w (stallV s)) := script_word_stall.calls s _ _ _ _ _ w (stall_f s hs) hL
theorem crash_walk (s : ByteArray) (hs : s.size ≤ 1000000) (w : World) (hL : Laid w) : Calls Tryd.prog 29 #[.string s] w (RetP w (crashV s)) := script_word_crash.calls 2000200 s _ _ _ _ _ w (crash_f s hs 2000200 (Nat.le_refl _)) hL
theorem numF_le (l : List UInt8) (m : Int) (h0 : 0 ≤ m) : -1 ≤ numF l m ∧ numF l m ≤ m := by
  unfold numF
  split
  · rename_i h
    have := h.2.2
    omega
  · omega
theorem word_many (s : ByteArray) : 0 ≤ (wordV s).2 ∧ (wordV s).2 ≤ 1073741824 := by
  have hs : 0 ≤ (stepV s).2 ∧ (stepV s).2 ≤ 1073741824 := by
    unfold stepV
    simp only []
    have h1 := numF_le (cutL s.data.toList [120]).2.1.data.toList 1073741824 (by decide)
    split
    · omega
    · split
      · omega
      · split <;> omega
  have ht : 0 ≤ (stallV s).2 ∧ (stallV s).2 ≤ 1 := by
    unfold stallV
    simp only []
    split
    · split
      · omega
      · split <;> omega
    · omega
  have hc : 0 ≤ (crashV s).2 ∧ (crashV s).2 ≤ 1 := by
    unfold crashV
    simp only []
    split
    · split
      · simp
      · simp only []
        split <;> omega
    · simp
  unfold wordV
  split
  · exact hs
  · split <;> omega
def parL : List ByteArray → Int → List S26 → List S26 × Int
  | [], tot, out => if tot > 10000 then ([], 2) else (out, 0)
  | w :: r, tot, out => if (wordV w).2 = 0 then ([], 3) else parL r (tot + (wordV w).2) (if tot + (wordV w).2 ≤ 10000 then out ++ List.replicate (wordV w).2.toNat (wordV w).1 else out)
theorem parL_cons (w : ByteArray) (r : List ByteArray) (tot : Int) (out : List S26) : parL (w :: r) tot out = if (wordV w).2 = 0 then ([], 3) else parL r (tot + (wordV w).2) (if tot + (wordV w).2 ≤ 10000 then out ++ List.replicate (wordV w).2.toNat (wordV w).1 else out) := rfl
end Go.Proofs.YtcnclgneldonfaaDoor.P
