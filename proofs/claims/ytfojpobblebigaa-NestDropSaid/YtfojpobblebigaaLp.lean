/- The small loops of the laws: few, once, has, Writes. -/
import Derived.Test.YtfojpobblebigaaTh
import Derived.Test.YtfojpobblebigaaPx5
import Derived.Test.YtfojpobblebigaaPx23
import Derived.Test.YtfojpobblebigaaPx25
import Derived.Test.YtfojpobblebigaaPx12
namespace Go.Proofs.Ytfojpobblebigaa.Pure
open Go.RowKit Go.Proofs.Ytfojpobblebigaa.P Go.Proofs.YtfojpobblebigaaW.PrintWords
set_option linter.unusedVariables false

theorem wrap1 {i n : Nat} (h : i < n) (hn : n ≤ 4611686018427387904) : wrap64 ((i : Int) + 1) = ((i + 1 : Nat) : Int) := by unfold wrap64; omega
theorem rd30 {l : List S30} {i : Nat} (h : i < l.length) : rd_T30 l (i : Int) = l[i] := by simp [rd_T30, List.getD_eq_getElem?_getD, h]
theorem rd33 {l : List S33} {i : Nat} (h : i < l.length) : rd_T33 l (i : Int) = l[i] := by simp [rd_T33, List.getD_eq_getElem?_getD, h]
theorem rd62 {l : List S62} {i : Nat} (h : i < l.length) : rd_T62 l (i : Int) = l[i] := by simp [rd_T62, List.getD_eq_getElem?_getD, h]

theorem has_loop (l : List S30) (loc : Int) (hl : l.length ≤ 4611686018427387904) (d : Nat) : ∀ i : Nat, i + d = l.length → Ev (fun k => hallmootlaw13_has.l0 k l loc (i : Int)) (fR loc (l.drop i)).isSome := by
  induction d with
  | zero =>
    intro i hi
    refine Ev.step (f := fun _ => some (fR loc (l.drop i)).isSome) (fun k => ?_) (Ev.now _)
    rw [hallmootlaw13_has.l0, if_neg (by omega), List.drop_of_length_le (by omega)]
    rfl
  | succ d ih =>
    intro i hi
    have hlt : i < l.length := by omega
    have hd : l.drop i = l[i] :: l.drop (i + 1) := List.drop_eq_getElem_cons hlt
    by_cases e : l[i].f0 = loc
    · refine Ev.step (f := fun _ => some (fR loc (l.drop i)).isSome) (fun k => ?_) (Ev.now _)
      rw [hallmootlaw13_has.l0, if_pos (by omega), if_pos (by omega), rd30 hlt, if_pos e, hd, fR_cons, if_pos e]
      rfl
    · refine Ev.step (f := fun k => hallmootlaw13_has.l0 k l loc ((i + 1 : Nat) : Int)) (fun k => ?_) ?_
      · rw [hallmootlaw13_has.l0, if_pos (by omega), if_pos (by omega), rd30 hlt, if_neg e, wrap1 hlt hl]
      · rw [hd, fR_cons, if_neg e]
        exact ih (i + 1) (by omega)
theorem has_ev (l : List S30) (loc : Int) (hl : l.length ≤ 4611686018427387904) : Ev (fun k => hallmootlaw13_has.f k l loc) (fR loc l).isSome := by
  have h := has_loop l loc hl l.length 0 (by omega)
  rw [List.drop_zero] at h
  exact h

/-- What 'few' says. -/
def FewL (l : List S62) : Prop := l.length ≤ 12 ∧ ∀ x ∈ l, x.f0.length ≤ 20 ∧ x.f1.length ≤ 20 ∧ x.f2.length ≤ 20
theorem few_loop (l : List S62) (hl : l.length ≤ 12) (d : Nat) : ∀ i : Nat, i + d = l.length → ∃ b, Ev (fun k => hallmootref13_Few.l0 k l (i : Int)) b ∧ (b = true → ∀ x ∈ l.drop i, x.f0.length ≤ 20 ∧ x.f1.length ≤ 20 ∧ x.f2.length ≤ 20) := by
  induction d with
  | zero =>
    intro i hi
    refine ⟨true, Ev.step (f := fun _ => some true) (fun k => ?_) (Ev.now _), fun _ x hx => ?_⟩
    · rw [hallmootref13_Few.l0, if_neg (by omega)]
    · rw [List.drop_of_length_le (by omega)] at hx; cases hx
  | succ d ih =>
    intro i hi
    have hlt : i < l.length := by omega
    have hd : l.drop i = l[i] :: l.drop (i + 1) := List.drop_eq_getElem_cons hlt
    by_cases e : l[i].f0.length ≤ 20 ∧ l[i].f1.length ≤ 20 ∧ l[i].f2.length ≤ 20
    · obtain ⟨b, hb, hx⟩ := ih (i + 1) (by omega)
      refine ⟨b, Ev.step (f := fun k => hallmootref13_Few.l0 k l ((i + 1 : Nat) : Int)) (fun k => ?_) hb, fun hbt x hxm => ?_⟩
      · rw [hallmootref13_Few.l0, if_pos (by omega), if_pos (by omega), rd62 hlt, if_neg (by omega), if_neg (by omega), if_neg (by omega), wrap1 hlt (by omega)]
      · rw [hd] at hxm
        rcases List.mem_cons.1 hxm with rfl | hxm
        · exact e
        · exact hx hbt x hxm
    · refine ⟨false, Ev.step (f := fun _ => some false) (fun k => ?_) (Ev.now _), fun h => by cases h⟩
      rw [hallmootref13_Few.l0, if_pos (by omega), if_pos (by omega), rd62 hlt]
      by_cases e1 : l[i].f0.length ≤ 20
      · rw [if_neg (by omega)]
        by_cases e2 : l[i].f1.length ≤ 20
        · rw [if_neg (by omega), if_pos (by omega)]
        · rw [if_pos (by omega)]
      · rw [if_pos (by omega)]
theorem few_ev (l : List S62) : ∃ b, Ev (fun k => hallmootlaw13_few.f k l) b ∧ (b = true → FewL l) := by
  by_cases h : l.length ≤ 12
  · obtain ⟨b, hb, hx⟩ := few_loop l h l.length 0 (by omega)
    refine ⟨b, Ev.congr (f := fun k => hallmootref13_Few.l0 k l ((0 : Nat) : Int)) (fun k => ?_) hb, fun hbt => ⟨h, hx hbt⟩⟩
    unfold hallmootlaw13_few.f hallmootref13_Few.f
    rw [if_neg (by omega)]
    show _ = hallmootref13_Few.l0 k l 0
    cases hallmootref13_Few.l0 k l 0 <;> rfl
  · refine ⟨false, Ev.congr (f := fun _ => some false) (fun k => ?_) (Ev.now _), fun h => by cases h⟩
    unfold hallmootlaw13_few.f hallmootref13_Few.f
    rw [if_pos (by omega)]
    rfl
theorem tot_few {l : List S62} (h : FewL l) : tot l ≤ 732 := by
  obtain ⟨h1, h2⟩ := h
  unfold tot
  have : ∀ m : List S62, (∀ x ∈ m, x.f0.length ≤ 20 ∧ x.f1.length ≤ 20 ∧ x.f2.length ≤ 20) → (m.map fun x => x.f0.length + x.f1.length + x.f2.length).sum ≤ 60 * m.length := by
    intro m
    induction m with
    | nil => intro _; simp
    | cons x m ih =>
      intro hm
      have := ih (fun y hy => hm y (by simp [hy]))
      have h3 := hm x (by simp)
      simp only [List.map_cons, List.sum_cons, List.length_cons]
      omega
  have := this l h2
  omega

/-! ### once -/
theorem once2 (l : List S62) (i : Nat) (hi : i < l.length) (k0 : Nat) (hk : k0 < l[i].f1.length) (hl : l[i].f1.length ≤ 4611686018427387904) (r : Bool) (hnext : Ev (fun k => hallmootlaw13_once.l1 k l (i : Int) ((k0 + 1 : Nat) : Int)) r) (d : Nat) : ∀ j : Nat, j + d = k0 →
    ∃ b, Ev (fun k => hallmootlaw13_once.l2 k l (i : Int) (k0 : Int) (j : Int)) b ∧ (b = true → r = true ∧ ∀ j', j ≤ j' → ∀ h : j' < k0, (l[i].f1[j']'(by omega)).f0 ≠ l[i].f1[k0].f0) := by
  induction d with
  | zero =>
    intro j hj
    refine ⟨r, Ev.step (f := fun k => hallmootlaw13_once.l1 k l (i : Int) ((k0 + 1 : Nat) : Int)) (fun k => ?_) hnext, fun hr => ⟨hr, fun j' h1 h2 => by omega⟩⟩
    rw [hallmootlaw13_once.l2, if_neg (by omega), wrap1 hk hl]
  | succ d ih =>
    intro j hj
    have hjl : j < l[i].f1.length := by omega
    by_cases e : l[i].f1[j].f0 = l[i].f1[k0].f0
    · refine ⟨false, Ev.step (f := fun _ => some false) (fun k => ?_) (Ev.now _), fun h => by cases h⟩
      rw [hallmootlaw13_once.l2, if_pos (by omega), if_pos (by omega), if_pos (by omega), if_pos (by omega), rd62 hi, if_pos (by omega), if_pos (by omega), if_pos (by omega), rd33 hjl, rd33 hk, if_pos e]
    · obtain ⟨b, hb, hx⟩ := ih (j + 1) (by omega)
      refine ⟨b, Ev.step (f := fun k => hallmootlaw13_once.l2 k l (i : Int) (k0 : Int) ((j + 1 : Nat) : Int)) (fun k => ?_) hb, fun hbt => ⟨(hx hbt).1, fun j' h1 h2 => ?_⟩⟩
      · rw [hallmootlaw13_once.l2, if_pos (by omega), if_pos (by omega), if_pos (by omega), if_pos (by omega), rd62 hi, if_pos (by omega), if_pos (by omega), if_pos (by omega), rd33 hjl, rd33 hk, if_neg e, wrap1 hjl hl]
      · by_cases e2 : j' = j
        · subst e2; exact e
        · exact (hx hbt).2 j' (by omega) h2
theorem once1 (l : List S62) (i : Nat) (hi : i < l.length) (hll : l.length ≤ 12) (hl : l[i].f1.length ≤ 4611686018427387904) (r : Bool) (hnext : Ev (fun k => hallmootlaw13_once.l0 k l ((i + 1 : Nat) : Int)) r) (d : Nat) : ∀ k0 : Nat, k0 + d = l[i].f1.length →
    ∃ b, Ev (fun k => hallmootlaw13_once.l1 k l (i : Int) (k0 : Int)) b ∧ (b = true → r = true ∧ ∀ k', k0 ≤ k' → ∀ h : k' < l[i].f1.length, ∀ j' (h2 : j' < k'), (l[i].f1[j']'(by omega)).f0 ≠ l[i].f1[k'].f0) := by
  induction d with
  | zero =>
    intro k0 hk
    refine ⟨r, Ev.step (f := fun k => hallmootlaw13_once.l0 k l ((i + 1 : Nat) : Int)) (fun k => ?_) hnext, fun hr => ⟨hr, fun k' h1 h2 => by omega⟩⟩
    rw [hallmootlaw13_once.l1, if_pos (by omega), if_pos (by omega), rd62 hi, if_neg (by omega), wrap1 hi (by omega)]
  | succ d ih =>
    intro k0 hk
    have hkl : k0 < l[i].f1.length := by omega
    obtain ⟨b, hb, hx⟩ := ih (k0 + 1) (by omega)
    obtain ⟨b2, hb2, hx2⟩ := once2 l i hi k0 hkl hl b hb k0 0 (by omega)
    refine ⟨b2, Ev.step (f := fun k => hallmootlaw13_once.l2 k l (i : Int) (k0 : Int) ((0 : Nat) : Int)) (fun k => ?_) hb2, fun hbt => ?_⟩
    · rw [hallmootlaw13_once.l1, if_pos (by omega), if_pos (by omega), rd62 hi, if_pos (by omega)]
      rfl
    · obtain ⟨h1, h2⟩ := hx2 hbt
      obtain ⟨h3, h4⟩ := hx h1
      refine ⟨h3, fun k' g1 g2 j' g3 => ?_⟩
      by_cases e : k' = k0
      · subst e; exact h2 j' (Nat.zero_le _) g3
      · exact h4 k' (by omega) g2 j' g3
theorem once0 (l : List S62) (hll : l.length ≤ 12) (hl : ∀ x ∈ l, x.f1.length ≤ 20) (d : Nat) : ∀ i : Nat, i + d = l.length →
    ∃ b, Ev (fun k => hallmootlaw13_once.l0 k l (i : Int)) b ∧ (b = true → ∀ i', i ≤ i' → ∀ h : i' < l.length, OnceW l[i'].f1) := by
  induction d with
  | zero =>
    intro i hi
    refine ⟨true, Ev.step (f := fun _ => some true) (fun k => ?_) (Ev.now _), fun _ i' h1 h2 => by omega⟩
    rw [hallmootlaw13_once.l0, if_neg (by omega)]
  | succ d ih =>
    intro i hi
    have hlt : i < l.length := by omega
    obtain ⟨b, hb, hx⟩ := ih (i + 1) (by omega)
    obtain ⟨b2, hb2, hx2⟩ := once1 l i hlt hll (by have := hl l[i] (List.getElem_mem _); omega) b hb l[i].f1.length 0 (by omega)
    refine ⟨b2, Ev.step (f := fun k => hallmootlaw13_once.l1 k l (i : Int) ((0 : Nat) : Int)) (fun k => ?_) hb2, fun hbt i' h1 h2 => ?_⟩
    · rw [hallmootlaw13_once.l0, if_pos (by omega)]
      rfl
    · obtain ⟨g1, g2⟩ := hx2 hbt
      by_cases e : i' = i
      · subst e
        unfold OnceW
        rw [List.nodup_iff_pairwise_ne, List.pairwise_iff_getElem]
        intro a c ha hc hac
        simp only [List.length_map] at ha hc
        simp only [List.getElem_map]
        exact g2 c (Nat.zero_le _) hc a hac
      · exact hx g1 i' (by omega) h2
theorem once_ev (l : List S62) (h : FewL l) : ∃ b, Ev (fun k => hallmootlaw13_once.f k l) b ∧ (b = true → ∀ x ∈ l, OnceW x.f1) := by
  obtain ⟨b, hb, hx⟩ := once0 l h.1 (fun x hx => (h.2 x hx).2.1) l.length 0 (by omega)
  refine ⟨b, hb, fun hbt x hxm => ?_⟩
  obtain ⟨i, hi, rfl⟩ := List.getElem_of_mem hxm
  exact hx hbt i (Nat.zero_le _) hi

/-! ### Writes -/
theorem writes_loop (l : List S33) (hl : l.length ≤ 4611686018427387904) (d : Nat) : ∀ i : Nat, i + d = l.length → Ev (fun k => hallmootref13_Writes.l0 k l l (i : Int)) true := by
  induction d with
  | zero =>
    intro i hi
    refine Ev.step (f := fun _ => some true) (fun k => ?_) (Ev.now _)
    rw [hallmootref13_Writes.l0, if_neg (by omega)]
  | succ d ih =>
    intro i hi
    have hlt : i < l.length := by omega
    refine Ev.step (f := fun k => hallmootref13_Writes.l0 k l l ((i + 1 : Nat) : Int)) (fun k => ?_) (ih (i + 1) (by omega))
    rw [hallmootref13_Writes.l0, if_pos (by omega), if_pos (by omega), if_pos (by omega), rd33 hlt, if_neg (by simp), wrap1 hlt hl]
theorem writes_ev (l : List S33) (hl : l.length ≤ 4611686018427387904) : Ev (fun k => hallmootref13_Writes.f k l l) true := by
  refine Ev.congr (fun k => ?_) (writes_loop l hl l.length 0 (by omega))
  unfold hallmootref13_Writes.f
  rw [if_pos rfl]
  rfl
end Go.Proofs.Ytfojpobblebigaa.Pure
