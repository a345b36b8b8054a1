/- slices.Reverse at []api.Undo. -/
import Derived.Test.YtfojpobblebigaaHk
namespace Go.Proofs.Ytfojpobblebigaa.P
open Go.RowKit Go.Proofs.YtfojpobblebigaaW.PrintWords Go.Proofs.YtfojpobblebigaaW.PrintLast Go.Proofs.YtfojpobblebigaaW.PrintMore
set_option linter.unusedVariables false
set_option linter.unusedSimpArgs false

def e5 (d : S50 × Option Addr × Nat) : List Value := [.int .i64 d.1.f0.f0, .int .i64 d.1.f0.f1, .int .i64 d.1.f0.f2, .slice d.2.1 d.1.f0.f3.length d.2.2, .int .i64 d.1.f1]
def put5 (cur : Array Value) (o : Nat) (d : S50 × Option Addr × Nat) : Array Value :=
  ((((cur.setIfInBounds o (.int .i64 d.1.f0.f0)).setIfInBounds (o + 1) (.int .i64 d.1.f0.f1)).setIfInBounds (o + 2) (.int .i64 d.1.f0.f2)).setIfInBounds (o + 3) (.slice d.2.1 d.1.f0.f3.length d.2.2)).setIfInBounds (o + 4) (.int .i64 d.1.f1)
theorem put5_size (cur : Array Value) (o : Nat) (d : S50 × Option Addr × Nat) : (put5 cur o d).size = cur.size := by simp [put5]
theorem put5_out (cur : Array Value) (o k : Nat) (d : S50 × Option Addr × Nat) (h : k < o ∨ o + 5 ≤ k) : (put5 cur o d)[k]? = cur[k]? := by
  unfold put5
  rw [Array.getElem?_setIfInBounds_ne (by omega), Array.getElem?_setIfInBounds_ne (by omega), Array.getElem?_setIfInBounds_ne (by omega), Array.getElem?_setIfInBounds_ne (by omega), Array.getElem?_setIfInBounds_ne (by omega)]
theorem put5_in (cur : Array Value) (o q : Nat) (d : S50 × Option Addr × Nat) (h : o + 5 ≤ cur.size) (hq : q < 5) : (put5 cur o d)[o + q]? = (e5 d)[q]? := by
  unfold put5
  rcases q with _ | _ | _ | _ | _ | q
  · rw [Array.getElem?_setIfInBounds_ne (by omega), Array.getElem?_setIfInBounds_ne (by omega), Array.getElem?_setIfInBounds_ne (by omega), Array.getElem?_setIfInBounds_ne (by omega), Nat.add_zero, Array.getElem?_setIfInBounds_self_of_lt (by omega)]; rfl
  · rw [Array.getElem?_setIfInBounds_ne (by omega), Array.getElem?_setIfInBounds_ne (by omega), Array.getElem?_setIfInBounds_ne (by omega), Nat.zero_add, Array.getElem?_setIfInBounds_self_of_lt (by simp; omega)]; rfl
  · rw [Array.getElem?_setIfInBounds_ne (by omega), Array.getElem?_setIfInBounds_ne (by omega), Array.getElem?_setIfInBounds_self_of_lt (by simp; omega)]; rfl
  · rw [Array.getElem?_setIfInBounds_ne (by omega), Array.getElem?_setIfInBounds_self_of_lt (by simp; omega)]; rfl
  · rw [Array.getElem?_setIfInBounds_self_of_lt (by simp; omega)]; rfl
  · omega
/-- Block g holds the row, its first i and last i elements exchanged. -/
def RevAt (W : World) (g cap n : Nat) (D : Nat → S50 × Option Addr × Nat) (i : Nat) : Prop :=
  ∃ cur : Array Value, W.heap[g]? = some (.cells cur 50 (0, 0)) ∧ cur.size = cap * 5 ∧ ∀ j, j < n → ∀ q, q < 5 → cur[j * 5 + q]? = (e5 (D (if j < i ∨ n ≤ j + i then n - 1 - j else j)))[q]?
def putW (W : World) (g o : Nat) (d : S50 × Option Addr × Nat) : World :=
  ((((W.setCell ⟨g, o, none⟩ (.int .i64 d.1.f0.f0)).setCell ⟨g, o + 1, none⟩ (.int .i64 d.1.f0.f1)).setCell ⟨g, o + 2, none⟩ (.int .i64 d.1.f0.f2)).setCell ⟨g, o + 3, none⟩ (.slice d.2.1 d.1.f0.f3.length d.2.2)).setCell ⟨g, o + 4, none⟩ (.int .i64 d.1.f1)
theorem putW_blk {W : World} {g o : Nat} {cur : Array Value} (d : S50 × Option Addr × Nat) (h : W.heap[g]? = some (.cells cur 50 (0, 0))) : (putW W g o d).heap[g]? = some (.cells (put5 cur o d) 50 (0, 0)) :=
  blk_set (blk_set (blk_set (blk_set (blk_set h _ _) _ _) _ _) _ _) _ _
theorem putW_keep {w W : World} {g o : Nat} (d : S50 × Option Addr × Nat) (h : KeepBut w W g none) : KeepBut w (putW W g o d) g none :=
  ((((h.set_ _ _).set_ _ _).set_ _ _).set_ _ _).set_ _ _
theorem putW_z {w W : World} {g o : Nat} (d : S50 × Option Addr × Nat) (h : Below 0 w W) : Below 0 w (putW W g o d) :=
  ((((h.setCell (Nat.zero_le _) _).setCell (Nat.zero_le _) _).setCell (Nat.zero_le _) _).setCell (Nat.zero_le _) _).setCell (Nat.zero_le _) _
theorem rev_step {W : World} {g cap n i : Nat} {D : Nat → S50 × Option Addr × Nat} (h : RevAt W g cap n D i) (hn : n ≤ cap) (hi : i < n - 1 - i) :
    RevAt (putW (putW W g (i * 5) (D (n - 1 - i))) g ((n - 1 - i) * 5) (D i)) g cap n D (i + 1) := by
  obtain ⟨cur, hb, hs, hc⟩ := h
  refine ⟨_, putW_blk _ (putW_blk _ hb), by rw [put5_size, put5_size, hs], fun j hj q hq => ?_⟩
  by_cases e1 : j = n - 1 - i
  · rw [e1, put5_in _ _ _ _ (by rw [put5_size, hs]; omega) hq, if_pos (by omega), show n - 1 - (n - 1 - i) = i by omega]
  · rw [put5_out _ _ _ _ (by omega)]
    by_cases e2 : j = i
    · rw [e2, put5_in _ _ _ _ (by rw [hs]; omega) hq, if_pos (by omega)]
    · rw [put5_out _ _ _ _ (by omega), hc j hj q hq]
      congr 3
      by_cases e3 : j < i ∨ n ≤ j + i
      · rw [if_pos e3, if_pos (by omega)]
      · rw [if_neg e3, if_neg (by omega)]
theorem rev_cells {W : World} {g cap n i : Nat} {D : Nat → S50 × Option Addr × Nat} (h : RevAt W g cap n D i) {j : Nat} (hj : j < n) (hji : ¬ (j < i ∨ n ≤ j + i)) :
    W.cell? ⟨g, j * 5, none⟩ = some (.int .i64 (D j).1.f0.f0) ∧ W.cell? ⟨g, j * 5 + 1, none⟩ = some (.int .i64 (D j).1.f0.f1) ∧ W.cell? ⟨g, j * 5 + 2, none⟩ = some (.int .i64 (D j).1.f0.f2) ∧ W.cell? ⟨g, j * 5 + 3, none⟩ = some (.slice (D j).2.1 (D j).1.f0.f3.length (D j).2.2) ∧ W.cell? ⟨g, j * 5 + 4, none⟩ = some (.int .i64 (D j).1.f1) ∧ ∀ q, W.frozen? ⟨g, q, none⟩ = false := by
  obtain ⟨cur, hb, hs, hc⟩ := h
  have h5 : ∀ q, q < 5 → W.cell? ⟨g, j * 5 + q, none⟩ = (e5 (D j))[q]? := fun q hq => by
    rw [blk_cell hb, hc j hj q hq, if_neg hji]
  exact ⟨h5 0 (by omega), h5 1 (by omega), h5 2 (by omega), h5 3 (by omega), h5 4 (by omega), fun q => blk_frozen hb q⟩

set_option maxHeartbeats 16000000 in
set_option maxRecDepth 100000 in
theorem reverse_walk (g cap n : Nat) (D : Nat → S50 × Option Addr × Nat) (w : World) (h : RevAt w g cap n D 0) (hn : n ≤ cap) (h1 : 1 ≤ n) (hl : n ≤ LIM) :
    Calls Try.prog 44 #[.slice (some ⟨g, 0, none⟩) n cap] w fun e w' => e = .returned (.tuple #[]) ∧ (∃ i, n - 1 - i ≤ i ∧ i ≤ n ∧ RevAt w' g cap n D i) ∧ KeepBut w w' g none ∧ Below 0 w w' := by
  have H := Aside0.mk h
  have hn63 : n ≤ 4611686018427387904 := by unfold LIM at hl; omega
  have hc1 : (n : Int) - 1 = ((n - 1 : Nat) : Int) := by omega
  have hw1 : IntKind.i64.wrap ((n : Int) - 1) = ((n - 1 : Nat) : Int) := by rw [IntKind.wrap_i64]; omega
  have mixed : Try.prog.follows Departure.mixedOrders = true := by kernel_rfl
  have HC1 := Aside0.mk hc1
  clear h hl hc1
  go_enter Try.func44, Try.ntmps44
  go_wp2
  go_loopg [2, 3] n (fun gg s2 s3 wr => ∃ i : Nat, i ≤ n ∧ 2 * i ≤ n ∧ n - i ≤ gg ∧ s2 = .int .i64 i ∧ s3 = .int .i64 ((n - 1 - i : Nat) : Int) ∧ Aside0 (RevAt wr g cap n D i) ∧ Aside0 (KeepBut w wr g none) ∧ Aside0 (Below 0 w wr))
  case atStart => exact ⟨0, by omega, by omega, by omega, rfl, by first | rfl | (simp; done) | (simp [HC1.out]; done) | (simp; omega), H, ⟨KeepBut.refl _ _ _⟩, ⟨Below.refl _ _⟩⟩
  case round =>
    clear H
    obtain ⟨i, hi1, hi2, hgg, rfl, rfl, HR, HK, HZ⟩ := hrel
    obtain ⟨j, hj⟩ : ∃ j, j = n - 1 - i := ⟨_, rfl⟩
    have HJ := Aside0.mk hj
    rw [← hj]
    by_cases hlt : i < j
    · obtain ⟨a0, a1, a2, a3, a4, af⟩ := rev_cells HR.out (j := i) (by omega) (by omega)
      obtain ⟨b0, b1, b2, b3, b4, _⟩ := rev_cells HR.out (j := j) (by omega) (by omega)
      have hlt' : (i : Int) < (j : Int) := by omega
      have hj0 : (0 : Int) ≤ (j : Int) := by omega
      have hjn : (j : Int) < (n : Int) := by omega
      have hin : (i : Int) < (n : Int) := by omega
      have hi0 : (0 : Int) ≤ (i : Int) := by omega
      have hS := rev_step HR.out hn (by omega)
      rw [← hj] at hS
      have HS := Aside0.mk hS
      clear hj hS
      generalize D i = di at *
      generalize D j = dj at *
      go_wp2
      go_region
      all_goals go_wp2
      all_goals
        go_roundg (n - (i + 1))
        case measure => omega
        case rel =>
          have hj := HJ.out
          refine ⟨i + 1, by omega, by omega, by omega, by go_num, by rw [show ((n - 1 - (i + 1) : Nat) : Int) = (j : Int) - 1 by omega], ?_⟩
          have k1 := keep_drew (putW_keep (g := g) (o := j * 5) di (putW_keep (g := g) (o := i * 5) dj HK.out))
          have k2 := (putW_z (g := g) (o := j * 5) di (putW_z (g := g) (o := i * 5) dj HZ.out)).drew
          have k3 : RevAt (putW (putW wr g (i * 5) dj) g (j * 5) di).drew g cap n D (i + 1) := by
            obtain ⟨cur, q1, q2⟩ := HS.out
            exact ⟨cur, blk_drew q1, q2⟩
          unfold putW at k1 k2 k3
          exact ⟨⟨k3⟩, ⟨k1⟩, ⟨k2⟩⟩
    · have hlt' : ¬ (i : Int) < (j : Int) := by omega
      have hij : n - 1 - i ≤ i := by omega
      clear hj
      go_wp2
      exact bodyPost_end (results_none rfl _ _ _) rfl ⟨rfl, ⟨i, by have := HJ.out; omega, hi1, HR.out⟩, HK.out, HZ.out⟩
end Go.Proofs.Ytfojpobblebigaa.P
