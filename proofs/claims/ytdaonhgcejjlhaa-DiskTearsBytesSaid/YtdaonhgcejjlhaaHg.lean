/- Plain law: what 'full' makes. -/
import Derived.Test.YtdaonhgcejjlhaaPx13
namespace Go.Proofs.Ytdaonhgcejjlhaa.P
open Go.RowKit Go.Proofs.YtdaonhgcejjlhaaW.PrintWords Go.Proofs.YtdaonhgcejjlhaaW.PrintLast Go.Proofs.YtdaonhgcejjlhaaW.PrintMore
set_option linter.unusedVariables false
set_option linter.unusedSimpArgs false
def full32 (c : Int) : ByteArray := strOfNums (List.replicate 32 c)
theorem full_loop (c : Int) (d : Nat) : ∀ (k i : Nat) (xs : List Int), i + d = 32 → xs = List.replicate i c ++ List.replicate d 0 → d < k → hallmootlaw22_full.l0 k c xs i = some (full32 c) := by
  induction d with
  | zero =>
    intro k i xs hi hx hk
    obtain ⟨k, rfl⟩ : ∃ m, k = m + 1 := ⟨k - 1, by omega⟩
    subst hx
    obtain rfl : i = 32 := by omega
    rfl
  | succ d ih =>
    intro k i xs hi hx hk
    obtain ⟨k, rfl⟩ : ∃ m, k = m + 1 := ⟨k - 1, by omega⟩
    have hl : xs.length = 32 := by rw [hx]; simp; omega
    simp only [hallmootlaw22_full.l0]
    rw [if_pos (by omega), if_pos (by omega)]
    have hw : wrap64 ((i : Int) + 1) = ((i + 1 : Nat) : Int) := by unfold wrap64; omega
    rw [hw]
    refine ih k (i + 1) _ (by omega) ?_ (by omega)
    rw [hx, Int.toNat_natCast, List.set_append]
    simp [List.replicate_succ']
    rw [show List.replicate d (0 : Int) ++ [0] = 0 :: List.replicate d 0 by rw [← List.replicate_succ', List.replicate_succ], List.set_cons_zero]
theorem full_eq (c : Int) : hallmootlaw22_full.f 40 c = some (full32 c) := by
  unfold hallmootlaw22_full.f
  rw [if_pos (by omega)]
  exact full_loop c 32 40 0 _ rfl (by simp) (by omega)
theorem full_det {k : Nat} {c : Int} {r : ByteArray} (h : hallmootlaw22_full.f k c = some r) : r = full32 c := by
  have h1 := at_rounds (g := fun k => hallmootlaw22_full.f k c) (fun k => hallmootlaw22_full.mono c k) (Nat.le_max_left k 40) h
  have h2 := at_rounds (g := fun k => hallmootlaw22_full.f k c) (fun k => hallmootlaw22_full.mono c k) (Nat.le_max_right k 40) (full_eq c)
  exact Option.some.inj (h1.symm.trans h2)
theorem full_at {k : Nat} (c : Int) (hk : 40 ≤ k) : hallmootlaw22_full.f k c = some (full32 c) := at_rounds (g := fun k => hallmootlaw22_full.f k c) (fun k => hallmootlaw22_full.mono c k) hk (full_eq c)
theorem full32_size (c : Int) : (full32 c).size = 32 := by
  unfold full32
  rw [strOfNums_size]
  simp
theorem full_sz {k : Nat} {c : Int} {r : ByteArray} (h : hallmootlaw22_full.f k c = some r) : r.size = 32 := by rw [full_det h]; exact full32_size c
end Go.Proofs.Ytdaonhgcejjlhaa.P
