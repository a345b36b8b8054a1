/- The plain statement of NestUndo: compensations come back in the reverse of the order in which they were kept. -/
import Derived.Test.YtfojpobblebigaaPx20
namespace Go.Proofs.Ytfojpobblebigaa.Pure
set_option linter.unusedVariables false
open Go.RowKit Go.Proofs.Ytfojpobblebigaa.P Go.Proofs.YtfojpobblebigaaW.PrintWords Go.Proofs.YtfojpobblebigaaW.PrintLast

theorem sanity_true : hallmootlaw13_sanity.f = some true := by decide +kernel
def uN (i : Int) : S50 := ⟨⟨0, 0, 0, []⟩, i⟩
def lvU (ks : List Int) : S62 := ⟨[], [], ks.map uN⟩
theorem tot1 (x : S62) : tot [x] = 1 + (x.f0.length + x.f1.length + x.f2.length) := by simp [tot]
theorem tot2 (x y : S62) : tot [x, y] = 2 + ((x.f0.length + x.f1.length + x.f2.length) + (y.f0.length + y.f1.length + y.f2.length)) := by simp [tot]
theorem keep1 (ks : List Int) (j : Int) (h : ks.length ≤ 12) : nKeep.f [lvU ks] 0 0 0 [] j = some [lvU (ks ++ [j])] := by
  unfold nKeep.f
  rw [if_pos (by rw [tot1]; simp [lvU, LIM]; omega)]
  simp [onLast, lvU, uN]
theorem begin1 (ks : List Int) (h : ks.length ≤ 12) : nBegin.f [lvU ks] = some [lvU ks, lvU []] := by
  unfold nBegin.f
  rw [if_pos (by rw [tot1]; simp [lvU, LIM]; omega)]
  simp [lvU, z62]
theorem keep2 (ks : List Int) (j : Int) (h : ks.length ≤ 12) : nKeep.f [lvU ks, lvU []] 0 0 0 [] j = some [lvU ks, lvU [j]] := by
  unfold nKeep.f
  rw [if_pos (by rw [tot2]; simp [lvU, LIM]; omega)]
  simp [onLast, lvU, uN]
theorem end2 (ks : List Int) (j : Int) (h : ks.length ≤ 12) : nEnd.f [lvU ks, lvU [j]] = some [lvU (ks ++ [j])] := by
  unfold nEnd.f
  rw [if_pos (by rw [tot2]; simp [lvU, LIM]; omega)]
  simp [foldAL, onLast, lvU, joinAM, readL, writeL]
theorem drop2 (ks : List Int) (j : Int) (h : ks.length ≤ 12) : nDrop.f [lvU ks, lvU [j]] = some ([lvU ks], [uN j]) := by
  unfold nDrop.f
  rw [if_pos (by rw [tot2]; simp [lvU, LIM]; omega)]
  simp [dropL, foldRL, onLast, lvU, joinRM, readL]
theorem drop1 (ks : List Int) (h : ks.length ≤ 12) : ∃ r, nDrop.f [lvU ks] = some (r, (ks.map uN).reverse) := by
  unfold nDrop.f
  rw [if_pos (by rw [tot1]; simp [lvU, LIM]; omega)]
  exact ⟨_, rfl⟩
theorem undos_same (j : Int) (k : Nat) (hk : 6 ≤ k) : hallmootref13_Undos.f k [uN j] [(⟨⟨0, 0, 0, []⟩, j⟩ : S50)] = some true := by
  obtain ⟨k, rfl⟩ : ∃ m, k = m + 6 := ⟨k - 6, by omega⟩
  have hw : wrap64 (1 : Int) = 1 := by unfold wrap64; omega
  simp [hallmootref13_Undos.f, hallmootref13_Undos.l0, hallmootref13_value.f, hallmootref13_value.j0, hallmootref13_value.l0, rd_T50, uN, hw]
theorem told (ks : List Int) (hk : ks.length ≤ 12) (d : Nat) : ∀ (i k : Nat), i + d = ks.length → d < k → hallmootlaw13_NestUndo.l1 k true ks (ks.map uN).reverse i = some true := by
  induction d with
  | zero =>
    intro i k hi hd
    obtain ⟨k, rfl⟩ : ∃ m, k = m + 1 := ⟨k - 1, by omega⟩
    simp only [hallmootlaw13_NestUndo.l1]
    rw [if_neg (by simp; omega)]
  | succ d ih =>
    intro i k hi hd
    obtain ⟨k, rfl⟩ : ∃ m, k = m + 1 := ⟨k - 1, by omega⟩
    have hlt : i < ks.length := by omega
    have h1 : wrap64 ((ks.length : Int) - 1) = (ks.length : Int) - 1 := by unfold wrap64; omega
    have h2 : wrap64 ((ks.length : Int) - 1 - (i : Int)) = ((ks.length - 1 - i : Nat) : Int) := by unfold wrap64; omega
    have h3 : wrap64 ((i : Int) + 1) = ((i + 1 : Nat) : Int) := by unfold wrap64; omega
    simp only [hallmootlaw13_NestUndo.l1]
    rw [h1, h2, h3, if_pos (by simp; omega), if_pos (by omega), if_pos (by omega), if_pos (by omega), if_pos ?_]
    · exact ih (i + 1) k (by omega) (by omega)
    · have e1 : (rd_T50 (ks.map uN).reverse (i : Int)) = uN (ks[ks.length - 1 - i]'(by omega)) := by
        simp [rd_T50, List.getD_eq_getElem?_getD, hlt]
      have e2 : rd ks ((ks.length - 1 - i : Nat) : Int) = ks[ks.length - 1 - i]'(by omega) := by
        simp only [rd, List.getD_eq_getElem?_getD, Int.toNat_natCast]
        rw [List.getElem?_eq_getElem (by omega)]
        rfl
      rw [e1, e2]
      rfl
theorem steps (how : List Int) (hl : how.length ≤ 12) (hw : ∀ x ∈ how, (Lit.int .u8 x).wf = true) (d : Nat) : ∀ (i k : Nat) (ks : List Int), i + d = how.length → ks.length ≤ i → d + 30 ≤ k →
    hallmootlaw13_NestUndo.l0 k how true [lvU ks] ks i = some true := by
  induction d with
  | zero =>
    intro i k ks hi hks hk
    obtain ⟨k, rfl⟩ : ∃ m, k = m + 1 := ⟨k - 1, by omega⟩
    simp only [hallmootlaw13_NestUndo.l0]
    obtain ⟨r, hr⟩ := drop1 ks (by omega)
    rw [if_neg (by omega), hr]
    simp only [Option.bind_some]
    rw [if_pos (by simp)]
    exact told ks (by omega) ks.length 0 k (by omega) (by omega)
  | succ d ih =>
    intro i k ks hi hks hk
    obtain ⟨k, rfl⟩ : ∃ m, k = m + 1 := ⟨k - 1, by omega⟩
    have h3 : wrap64 ((i : Int) + 1) = ((i + 1 : Nat) : Int) := by unfold wrap64; omega
    have hn : ks.length ≤ 12 := by omega
    rw [hallmootlaw13_NestUndo.l0]
    rw [if_pos (by omega), if_pos (by omega), h3, keep1 ks _ hn, begin1 ks hn]
    simp only [Option.bind_some]
    rw [keep2 ks _ hn]
    simp only [Option.bind_some]
    rw [end2 ks _ hn, drop2 ks _ hn]
    simp only [Option.bind_some]
    rw [undos_same _ _ (by omega)]
    simp only [Option.bind_some]
    rw [if_pos (show ks.length < 17592186044416 by omega), if_pos trivial]
    split
    · exact ih (i + 1) _ _ (by omega) (by simp; omega) (by omega)
    · split
      · exact ih (i + 1) _ _ (by omega) (by simp; omega) (by omega)
      · split
        · exact ih (i + 1) _ _ (by omega) (by omega) (by omega)
        · exact ih (i + 1) _ _ (by omega) (by omega) (by omega)

theorem NestUndo : hallmootlaw13_NestUndo.Pure := by
  intro how hl hb hw
  refine ⟨how.length + 30, ?_⟩
  unfold hallmootlaw13_NestUndo.f
  rw [sanity_true]
  simp only [Option.bind_some]
  by_cases h : (how.length : Int) > 12
  · rw [if_pos h]
  · rw [if_neg h, show nBegin.f [] = some [lvU []] from by unfold nBegin.f; rw [if_pos (by decide)]; rfl]
    simp only [Option.bind_some]
    have h0 := steps how (by omega) hw how.length 0 (how.length + 30) [] (by omega) (by simp) (Nat.le_refl _)
    rw [show ((0 : Nat) : Int) = (0 : Int) from rfl] at h0
    exact h0
end Go.Proofs.Ytfojpobblebigaa.Pure
