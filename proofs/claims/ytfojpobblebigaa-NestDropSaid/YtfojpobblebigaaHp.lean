/- slices.Backward at []api.Level (functions 46, 62): its closure hands every level on, the innermost first. -/
import Derived.Test.YtfojpobblebigaaHo
import Derived.RangeFuncNested
import Derived.RangeFuncBound
import Derived.RangeFuncCalls
import Derived.RangeFuncLeaves
import Derived.Shelf.Abstract
import Derived.Shelf.RegionOpen
import Derived.OwnWalkIn
import Derived.TacticsInMore
import Derived.LoopNIn
import Derived.LoopIn
namespace Go.Proofs.Ytfojpobblebigaa.P
open Go.RowKit Go.Shelf Go.Proofs.YtfojpobblebigaaW.PrintWords Go.Proofs.YtfojpobblebigaaW.PrintLast Go.Proofs.YtfojpobblebigaaW.PrintMore
attribute [local go_sem] Oper.semAt_some
set_option linter.unusedVariables false
set_option linter.unusedSimpArgs false

/-- The places n - 1, n - 2, .., k. -/
def dn (n k : Nat) : List (Fin n) := ((List.finRange n).drop k).reverse
theorem dn_nil (n : Nat) : dn n n = [] := by unfold dn; simp
theorem dn_succ {n m : Nat} (h : m < n) : dn n m = dn n (m + 1) ++ [⟨m, h⟩] := by
  unfold dn
  rw [List.drop_eq_getElem_cons (by simpa using h), List.reverse_cons]
  simp
theorem dn_length (n k : Nat) : (dn n k).length = n - k := by unfold dn; simp

theorem add_block (ad : Addr) (n : Nat) : (ad.add n).block = ad.block := by unfold Addr.add; split <;> rfl
/-- A row of levels, by its cells: in a block below n₀. -/
def LRow (n₀ : Nat) (W : World) (ad : Addr) (n : Nat) (D : Nat → Value × Value × Value) : Prop :=
  ad.block < n₀ ∧ ∀ i, i < n → W.cell? (ad.add (i * 3)) = some (D i).1 ∧ W.cell? ⟨(ad.add (i * 3)).block, (ad.add (i * 3)).off + 1, none⟩ = some (D i).2.1 ∧ W.cell? ⟨(ad.add (i * 3)).block, (ad.add (i * 3)).off + 2, none⟩ = some (D i).2.2
theorem LRow.below {n₀ : Nat} {A B : World} {ad : Addr} {n : Nat} {D : Nat → Value × Value × Value} (h : Below n₀ A B) (hl : LRow n₀ A ad n D) : LRow n₀ B ad n D :=
  ⟨hl.1, fun i hi => ⟨(h.cell (p := ad.add (i * 3)) (by rw [add_block]; exact hl.1)).trans (hl.2 i hi).1, (h.cell (p := ⟨(ad.add (i * 3)).block, (ad.add (i * 3)).off + 1, none⟩) (by rw [add_block]; exact hl.1)).trans (hl.2 i hi).2.1, (h.cell (p := ⟨(ad.add (i * 3)).block, (ad.add (i * 3)).off + 2, none⟩) (by rw [add_block]; exact hl.1)).trans (hl.2 i hi).2.2⟩⟩
def encL (D : Nat → Value × Value × Value) (k : Nat) : Array Value := #[.int .i64 (k : Int), .agg #[(D k).1, (D k).2.1, (D k).2.2]]

set_option maxRecDepth 100000 in
set_option maxHeartbeats 4000000 in
/-- The closure, at a row that is not empty. -/
theorem back1 (F : Fence) (f : Nat) (h62 : F.fn 62) (hro : F.round = none) (hn : 1 ≤ f) (l Bs n₀ : Nat) (ad : Addr) (n cap : Nat) (D : Nat → Value × Value × Value) (hmax : n ≤ 9223372036854775807) (J Jx : List (Fin n) → World → Prop)
    (hY : ∀ pre x W, J pre W → pre.length < n → YieldAt F (f - 1) Try.prog l (encL D x.1) W fun e W' =>
      (e = .returned (.bool true) ∧ J (pre ++ [x]) W' ∧ Below n₀ W W') ∨ (e = .returned (.bool false) ∧ Jx (pre ++ [x]) W'))
    (W : World) (hBn : Bs < n₀) (hBs : W.cell? ⟨Bs, 0, none⟩ = some (.slice (some ad) n cap)) (hL : LRow n₀ W ad n D) (h0 : J [] W) :
    CallsIn F f Try.prog 62 #[.func (.yield l) #[] #[], .pointer (some ⟨Bs, 0, none⟩)] W fun e W' => (∃ v, e = .returned v) ∧
      ((∃ ys, ys = dn n 0 ∧ J ys W') ∨ (∃ pre, (∃ k, k < n ∧ pre = dn n k) ∧ Jx pre W')) := by
  refine callsIn_of_wp Try.func62 rfl h62 ?_ hro
  simp only [Try.ntmps62, List.size_toArray, List.length_cons, List.length_nil, Nat.reduceAdd, Nat.reduceSub, Array.replicate_succ, Array.replicate_zero, List.push_toArray, List.append_toArray, List.nil_append, List.cons_append]
  gi_wp2
  gi_loopw [3] (fun i wr => ∃ (k : Nat) (v : Int), k ≤ n ∧ v = (k : Int) - 1 ∧ i = .int .i64 v ∧ J (dn n k) wr ∧ Below n₀ W wr)
    (fun i _ => (intOf i + 1).toNat)
  case atStart => exact ⟨n, _, Nat.le_refl _, rfl, rfl, by rw [dn_nil]; exact h0, Below.refl _ _⟩
  case round =>
    obtain ⟨k, v, hk, hv, rfl, hJs, hB⟩ := hrel
    cases k with
    | zero =>
      obtain rfl : v = -1 := by omega
      clear hv
      gi_wp2
      go_end0
      exact ⟨⟨_, rfl⟩, .inl ⟨_, rfl, hJs⟩⟩
    | succ m =>
      obtain rfl : v = (m : Int) := by omega
      clear hv
      have hc := (hB.cell (p := ⟨Bs, 0, none⟩) hBn).trans hBs
      obtain ⟨c0, c1, c2⟩ := (hL.below hB).2 m (by omega)
      have hmi : (m : Int) < (n : Int) := by omega
      obtain ⟨fn, tmps, assign, body, hy, hR⟩ := hY _ ⟨m, by omega⟩ wr hJs (by rw [dn_length]; omega)
      unfold encL at hy
      dsimp only at hy
      have HB := Aside0.mk hB
      clear hB
      gi_wp2
      refine hR.mono ?_
      rintro e W3 (⟨rfl, hJ3, hk3⟩ | ⟨rfl, hJx3⟩)
      · gi_wp2
        go_roundw
        case rel => exact ⟨m, _, by omega, rfl, rfl, by rw [dn_succ (show m < n by omega)]; exact hJ3, HB.out.trans hk3⟩
        case measure => simp [intOf]
      · gi_wp2
        refine bodyPost_ret (results_none rfl _ _ _) rfl ?_
        exact ⟨⟨_, rfl⟩, .inr ⟨_, ⟨m, by omega, (dn_succ (show m < n by omega)).symm⟩, hJx3⟩⟩
end Go.Proofs.Ytfojpobblebigaa.P
