/- Merged: The small loops of the laws: few, once, has, Writes. | Plain theory of package nest: End, Drop, All, Find. | Small facts on levels and their sizes. | What a reading of an argument gives: a value of its kind, in the printed words' own form (whole numbers, bools, strings, structs, slices of these). | Written by pp.py (this session's program over the kit's printer): functions, contracts. Not trusted: Lean checks it. | Written by pp.py (this session's program over the kit's printer): functions, contracts. Not trusted: Lean checks it. | Written by pp.py (this session's program over the kit's printer): functions, contracts. Not trusted: Lean checks it. -/
import Derived.Test.YtfojpobblebigaaYM2
import Derived.Test.YtfojpobblebigaaYM0
import Derived.ChangeArms
import Derived.Deep.Slices
import Derived.DataReads
import Derived.WideShapes
namespace Go.Proofs.Ytfojpobblebigaa.Pure
open Go.RowKit Go.Proofs.Ytfojpobblebigaa.P Go.Proofs.YtfojpobblebigaaW.PrintWords
set_option linter.unusedVariables false

theorem wrap1 {i n : Nat} (h : i < n) (hn : n ≤ 4611686018427387904) : wrap64 ((i : Int) + 1) = ((i + 1 : Nat) : Int) := by unfold wrap64; omega
theorem rd30 {l : List S30} {i : Nat} (h : i < l.length) : rd_T30 l (i : Int) = l[i] := by simp [rd_T30, List.getD_eq_getElem?_getD, h]
theorem rd33 {l : List S33} {i : Nat} (h : i < l.length) : rd_T33 l (i : Int) = l[i] := by simp [rd_T33, List.getD_eq_getElem?_getD, h]
theorem rd62 {l : List S62} {i : Nat} (h : i < l.length) : rd_T62 l (i : Int) = l[i] := by simp [rd_T62, List.getD_eq_getElem?_getD, h]

theorem has_loop (l : List S30) (loc : Int) (hl : l.length ≤ 4611686018427387904) (d : Nat) : ∀ i : Nat, i + d = l.length → Ev (fun k => hallmootlaw13_has.l0 k l loc (i : Int)) (fR loc (l.drop i)).isSome := by
  induction d with
  | zero =>
    intro i hi
    refine Ev.step (f := fun _ => some (fR loc (l.drop i)).isSome) (fun k => ?_) (Ev.now _)
    rw [hallmootlaw13_has.l0, if_neg (by omega), List.drop_of_length_le (by omega)]
    rfl
  | succ d ih =>
    intro i hi
    have hlt : i < l.length := by omega
    have hd : l.drop i = l[i] :: l.drop (i + 1) := List.drop_eq_getElem_cons hlt
    by_cases e : l[i].f0 = loc
    · refine Ev.step (f := fun _ => some (fR loc (l.drop i)).isSome) (fun k => ?_) (Ev.now _)
      rw [hallmootlaw13_has.l0, if_pos (by omega), if_pos (by omega), rd30 hlt, if_pos e, hd, fR_cons, if_pos e]
      rfl
    · refine Ev.step (f := fun k => hallmootlaw13_has.l0 k l loc ((i + 1 : Nat) : Int)) (fun k => ?_) ?_
      · rw [hallmootlaw13_has.l0, if_pos (by omega), if_pos (by omega), rd30 hlt, if_neg e, wrap1 hlt hl]
      · rw [hd, fR_cons, if_neg e]
        exact ih (i + 1) (by omega)
theorem has_ev (l : List S30) (loc : Int) (hl : l.length ≤ 4611686018427387904) : Ev (fun k => hallmootlaw13_has.f k l loc) (fR loc l).isSome := by
  have h := has_loop l loc hl l.length 0 (by omega)
  rw [List.drop_zero] at h
  exact h

/-- What 'few' says. -/
def FewL (l : List S62) : Prop := l.length ≤ 12 ∧ ∀ x ∈ l, x.f0.length ≤ 20 ∧ x.f1.length ≤ 20 ∧ x.f2.length ≤ 20
theorem few_loop (l : List S62) (hl : l.length ≤ 12) (d : Nat) : ∀ i : Nat, i + d = l.length → ∃ b, Ev (fun k => hallmootref13_Few.l0 k l (i : Int)) b ∧ (b = true → ∀ x ∈ l.drop i, x.f0.length ≤ 20 ∧ x.f1.length ≤ 20 ∧ x.f2.length ≤ 20) := by
  induction d with
  | zero =>
    intro i hi
    refine ⟨true, Ev.step (f := fun _ => some true) (fun k => ?_) (Ev.now _), fun _ x hx => ?_⟩
    · rw [hallmootref13_Few.l0, if_neg (by omega)]
    · rw [List.drop_of_length_le (by omega)] at hx; cases hx
  | succ d ih =>
    intro i hi
    have hlt : i < l.length := by omega
    have hd : l.drop i = l[i] :: l.drop (i + 1) := List.drop_eq_getElem_cons hlt
    by_cases e : l[i].f0.length ≤ 20 ∧ l[i].f1.length ≤ 20 ∧ l[i].f2.length ≤ 20
    · obtain ⟨b, hb, hx⟩ := ih (i + 1) (by omega)
      refine ⟨b, Ev.step (f := fun k => hallmootref13_Few.l0 k l ((i + 1 : Nat) : Int)) (fun k => ?_) hb, fun hbt x hxm => ?_⟩
      · rw [hallmootref13_Few.l0, if_pos (by omega), if_pos (by omega), rd62 hlt, if_neg (by omega), if_neg (by omega), if_neg (by omega), wrap1 hlt (by omega)]
      · rw [hd] at hxm
        rcases List.mem_cons.1 hxm with rfl | hxm
        · exact e
        · exact hx hbt x hxm
    · refine ⟨false, Ev.step (f := fun _ => some false) (fun k => ?_) (Ev.now _), fun h => by cases h⟩
      rw [hallmootref13_Few.l0, if_pos (by omega), if_pos (by omega), rd62 hlt]
      by_cases e1 : l[i].f0.length ≤ 20
      · rw [if_neg (by omega)]
        by_cases e2 : l[i].f1.length ≤ 20
        · rw [if_neg (by omega), if_pos (by omega)]
        · rw [if_pos (by omega)]
      · rw [if_pos (by omega)]
theorem few_ev (l : List S62) : ∃ b, Ev (fun k => hallmootlaw13_few.f k l) b ∧ (b = true → FewL l) := by
  by_cases h : l.length ≤ 12
  · obtain ⟨b, hb, hx⟩ := few_loop l h l.length 0 (by omega)
    refine ⟨b, Ev.congr (f := fun k => hallmootref13_Few.l0 k l ((0 : Nat) : Int)) (fun k => ?_) hb, fun hbt => ⟨h, hx hbt⟩⟩
    unfold hallmootlaw13_few.f hallmootref13_Few.f
    rw [if_neg (by omega)]
    show _ = hallmootref13_Few.l0 k l 0
    cases hallmootref13_Few.l0 k l 0 <;> rfl
  · refine ⟨false, Ev.congr (f := fun _ => some false) (fun k => ?_) (Ev.now _), fun h => by cases h⟩
    unfold hallmootlaw13_few.f hallmootref13_Few.f
    rw [if_pos (by omega)]
    rfl
theorem tot_few {l : List S62} (h : FewL l) : tot l ≤ 732 := by
  obtain ⟨h1, h2⟩ := h
  unfold tot
  have : ∀ m : List S62, (∀ x ∈ m, x.f0.length ≤ 20 ∧ x.f1.length ≤ 20 ∧ x.f2.length ≤ 20) → (m.map fun x => x.f0.length + x.f1.length + x.f2.length).sum ≤ 60 * m.length := by
    intro m
    induction m with
    | nil => intro _; simp
    | cons x m ih =>
      intro hm
      have := ih (fun y hy => hm y (by simp [hy]))
      have h3 := hm x (by simp)
      simp only [List.map_cons, List.sum_cons, List.length_cons]
      omega
  have := this l h2
  omega

/-! ### once -/
theorem once2 (l : List S62) (i : Nat) (hi : i < l.length) (k0 : Nat) (hk : k0 < l[i].f1.length) (hl : l[i].f1.length ≤ 4611686018427387904) (r : Bool) (hnext : Ev (fun k => hallmootlaw13_once.l1 k l (i : Int) ((k0 + 1 : Nat) : Int)) r) (d : Nat) : ∀ j : Nat, j + d = k0 →
    ∃ b, Ev (fun k => hallmootlaw13_once.l2 k l (i : Int) (k0 : Int) (j : Int)) b ∧ (b = true → r = true ∧ ∀ j', j ≤ j' → ∀ h : j' < k0, (l[i].f1[j']'(by omega)).f0 ≠ l[i].f1[k0].f0) := by
  induction d with
  | zero =>
    intro j hj
    refine ⟨r, Ev.step (f := fun k => hallmootlaw13_once.l1 k l (i : Int) ((k0 + 1 : Nat) : Int)) (fun k => ?_) hnext, fun hr => ⟨hr, fun j' h1 h2 => by omega⟩⟩
    rw [hallmootlaw13_once.l2, if_neg (by omega), wrap1 hk hl]
  | succ d ih =>
    intro j hj
    have hjl : j < l[i].f1.length := by omega
    by_cases e : l[i].f1[j].f0 = l[i].f1[k0].f0
    · refine ⟨false, Ev.step (f := fun _ => some false) (fun k => ?_) (Ev.now _), fun h => by cases h⟩
      rw [hallmootlaw13_once.l2, if_pos (by omega), if_pos (by omega), if_pos (by omega), if_pos (by omega), rd62 hi, if_pos (by omega), if_pos (by omega), if_pos (by omega), rd33 hjl, rd33 hk, if_pos e]
    · obtain ⟨b, hb, hx⟩ := ih (j + 1) (by omega)
      refine ⟨b, Ev.step (f := fun k => hallmootlaw13_once.l2 k l (i : Int) (k0 : Int) ((j + 1 : Nat) : Int)) (fun k => ?_) hb, fun hbt => ⟨(hx hbt).1, fun j' h1 h2 => ?_⟩⟩
      · rw [hallmootlaw13_once.l2, if_pos (by omega), if_pos (by omega), if_pos (by omega), if_pos (by omega), rd62 hi, if_pos (by omega), if_pos (by omega), if_pos (by omega), rd33 hjl, rd33 hk, if_neg e, wrap1 hjl hl]
      · by_cases e2 : j' = j
        · subst e2; exact e
        · exact (hx hbt).2 j' (by omega) h2
theorem once1 (l : List S62) (i : Nat) (hi : i < l.length) (hll : l.length ≤ 12) (hl : l[i].f1.length ≤ 4611686018427387904) (r : Bool) (hnext : Ev (fun k => hallmootlaw13_once.l0 k l ((i + 1 : Nat) : Int)) r) (d : Nat) : ∀ k0 : Nat, k0 + d = l[i].f1.length →
    ∃ b, Ev (fun k => hallmootlaw13_once.l1 k l (i : Int) (k0 : Int)) b ∧ (b = true → r = true ∧ ∀ k', k0 ≤ k' → ∀ h : k' < l[i].f1.length, ∀ j' (h2 : j' < k'), (l[i].f1[j']'(by omega)).f0 ≠ l[i].f1[k'].f0) := by
  induction d with
  | zero =>
    intro k0 hk
    refine ⟨r, Ev.step (f := fun k => hallmootlaw13_once.l0 k l ((i + 1 : Nat) : Int)) (fun k => ?_) hnext, fun hr => ⟨hr, fun k' h1 h2 => by omega⟩⟩
    rw [hallmootlaw13_once.l1, if_pos (by omega), if_pos (by omega), rd62 hi, if_neg (by omega), wrap1 hi (by omega)]
  | succ d ih =>
    intro k0 hk
    have hkl : k0 < l[i].f1.length := by omega
    obtain ⟨b, hb, hx⟩ := ih (k0 + 1) (by omega)
    obtain ⟨b2, hb2, hx2⟩ := once2 l i hi k0 hkl hl b hb k0 0 (by omega)
    refine ⟨b2, Ev.step (f := fun k => hallmootlaw13_once.l2 k l (i : Int) (k0 : Int) ((0 : Nat) : Int)) (fun k => ?_) hb2, fun hbt => ?_⟩
    · rw [hallmootlaw13_once.l1, if_pos (by omega), if_pos (by omega), rd62 hi, if_pos (by omega)]
      rfl
    · obtain ⟨h1, h2⟩ := hx2 hbt
      obtain ⟨h3, h4⟩ := hx h1
      refine ⟨h3, fun k' g1 g2 j' g3 => ?_⟩
      by_cases e : k' = k0
      · subst e; exact h2 j' (Nat.zero_le _) g3
      · exact h4 k' (by omega) g2 j' g3
theorem once0 (l : List S62) (hll : l.length ≤ 12) (hl : ∀ x ∈ l, x.f1.length ≤ 20) (d : Nat) : ∀ i : Nat, i + d = l.length →
    ∃ b, Ev (fun k => hallmootlaw13_once.l0 k l (i : Int)) b ∧ (b = true → ∀ i', i ≤ i' → ∀ h : i' < l.length, OnceW l[i'].f1) := by
  induction d with
  | zero =>
    intro i hi
    refine ⟨true, Ev.step (f := fun _ => some true) (fun k => ?_) (Ev.now _), fun _ i' h1 h2 => by omega⟩
    rw [hallmootlaw13_once.l0, if_neg (by omega)]
  | succ d ih =>
    intro i hi
    have hlt : i < l.length := by omega
    obtain ⟨b, hb, hx⟩ := ih (i + 1) (by omega)
    obtain ⟨b2, hb2, hx2⟩ := once1 l i hlt hll (by have := hl l[i] (List.getElem_mem _); omega) b hb l[i].f1.length 0 (by omega)
    refine ⟨b2, Ev.step (f := fun k => hallmootlaw13_once.l1 k l (i : Int) ((0 : Nat) : Int)) (fun k => ?_) hb2, fun hbt i' h1 h2 => ?_⟩
    · rw [hallmootlaw13_once.l0, if_pos (by omega)]
      rfl
    · obtain ⟨g1, g2⟩ := hx2 hbt
      by_cases e : i' = i
      · subst e
        unfold OnceW
        rw [List.nodup_iff_pairwise_ne, List.pairwise_iff_getElem]
        intro a c ha hc hac
        simp only [List.length_map] at ha hc
        simp only [List.getElem_map]
        exact g2 c (Nat.zero_le _) hc a hac
      · exact hx g1 i' (by omega) h2
theorem once_ev (l : List S62) (h : FewL l) : ∃ b, Ev (fun k => hallmootlaw13_once.f k l) b ∧ (b = true → ∀ x ∈ l, OnceW x.f1) := by
  obtain ⟨b, hb, hx⟩ := once0 l h.1 (fun x hx => (h.2 x hx).2.1) l.length 0 (by omega)
  refine ⟨b, hb, fun hbt x hxm => ?_⟩
  obtain ⟨i, hi, rfl⟩ := List.getElem_of_mem hxm
  exact hx hbt i (Nat.zero_le _) hi

/-! ### Writes -/
theorem writes_loop (l : List S33) (hl : l.length ≤ 4611686018427387904) (d : Nat) : ∀ i : Nat, i + d = l.length → Ev (fun k => hallmootref13_Writes.l0 k l l (i : Int)) true := by
  induction d with
  | zero =>
    intro i hi
    refine Ev.step (f := fun _ => some true) (fun k => ?_) (Ev.now _)
    rw [hallmootref13_Writes.l0, if_neg (by omega)]
  | succ d ih =>
    intro i hi
    have hlt : i < l.length := by omega
    refine Ev.step (f := fun k => hallmootref13_Writes.l0 k l l ((i + 1 : Nat) : Int)) (fun k => ?_) (ih (i + 1) (by omega))
    rw [hallmootref13_Writes.l0, if_pos (by omega), if_pos (by omega), if_pos (by omega), rd33 hlt, if_neg (by simp), wrap1 hlt hl]
theorem writes_ev (l : List S33) (hl : l.length ≤ 4611686018427387904) : Ev (fun k => hallmootref13_Writes.f k l l) true := by
  refine Ev.congr (fun k => ?_) (writes_loop l hl l.length 0 (by omega))
  unfold hallmootref13_Writes.f
  rw [if_pos rfl]
  rfl
end Go.Proofs.Ytfojpobblebigaa.Pure
namespace Go.Proofs.Ytfojpobblebigaa.Pure
open Go.RowKit Go.Proofs.Ytfojpobblebigaa.P Go.Proofs.YtfojpobblebigaaW.PrintWords
set_option linter.unusedVariables false

/-! ### the write sets are sorted -/
def SortW (l : List S33) : Prop := (l.map (·.f0)).Pairwise (· < ·)
theorem sortW_step {a : List S33} (x : S33) (h : SortW a) : SortW (putStep a x) := by
  unfold putStep
  by_cases e : a.any (fun y => y.f0 == x.f0) = true
  · rw [if_pos e]
    have hk := idx_lt e
    have hhit := List.findIdx_getElem (w := hk)
    unfold SortW at *
    have : (a.set (a.findIdx (fun y => y.f0 == x.f0)) x).map (·.f0) = a.map (·.f0) := by
      rw [List.map_set]
      have hx : x.f0 = (a.map (·.f0))[a.findIdx (fun y => y.f0 == x.f0)]'(by simpa using hk) := by
        rw [List.getElem_map]
        exact (by simpa using hhit : _ = x.f0).symm
      conv => lhs; arg 3; rw [hx]
      exact List.set_getElem_self _
    rw [this]; exact h
  · rw [if_neg e]
    have hne : ∀ y ∈ a, y.f0 ≠ x.f0 := fun y hy hq => e (List.any_eq_true.2 ⟨y, hy, by simpa using hq⟩)
    generalize hi : a.findIdx (fun y => decide (x.f0 < y.f0)) = i
    have hlo : ∀ y ∈ a.take i, y.f0 < x.f0 := by
      intro y hy
      obtain ⟨j, hj, rfl⟩ := List.getElem_of_mem hy
      rw [List.length_take] at hj
      rw [List.getElem_take]
      have h1 : ¬ (x.f0 < (a[j]'(by omega)).f0) := by
        have := List.not_of_lt_findIdx (p := fun y : S33 => decide (x.f0 < y.f0)) (xs := a) (i := j) (by omega)
        simpa using this
      have h2 := hne _ (List.getElem_mem (by omega : j < a.length))
      omega
    have hs : (a.take i ++ a.drop i).Pairwise (fun p q => p.f0 < q.f0) := by
      rw [List.take_append_drop]
      exact List.pairwise_map.1 h
    have hhi : ∀ y ∈ a.drop i, x.f0 < y.f0 := by
      intro y hy
      by_cases hil : i < a.length
      · have h0 : x.f0 < a[i].f0 := by
          subst hi
          have := List.findIdx_getElem (w := hil)
          simpa using this
        rw [List.drop_eq_getElem_cons hil] at hy hs
        rcases List.mem_cons.1 hy with rfl | hy
        · exact h0
        · have h3 := (List.pairwise_cons.1 (List.pairwise_append.1 hs).2.1).1 y hy
          omega
      · rw [List.drop_of_length_le (by omega)] at hy; cases hy
    unfold ins SortW
    rw [List.pairwise_map, List.pairwise_append]
    obtain ⟨p1, p2, p3⟩ := List.pairwise_append.1 hs
    refine ⟨p1, List.pairwise_cons.2 ⟨hhi, p2⟩, fun y hy z hz => ?_⟩
    rcases List.mem_cons.1 hz with rfl | hz
    · exact hlo y hy
    · exact p3 y hy z hz
theorem sortW_writeL : ∀ (b : List S33) {a : List S33}, SortW a → SortW (writeL a b)
  | [], a, h => h
  | s :: b, a, h => sortW_writeL b (sortW_step s h)
theorem s33_ext {x y : S33} (h0 : x.f0 = y.f0) (h1 : x.f1 = y.f1) : x = y := by cases x; cases y; cases h0; cases h1; rfl
/-- Sorted write sets that are found alike are the same. -/
theorem sortW_ext : ∀ {a b : List S33}, SortW a → SortW b → (∀ loc, fW loc a = fW loc b) → a = b
  | [], [], _, _, _ => rfl
  | [], y :: b, _, _, h => by
    have := h y.f0
    rw [fW_nil, fW_cons, if_pos rfl] at this
    cases this
  | x :: a, [], _, _, h => by
    have := h x.f0
    rw [fW_nil, fW_cons, if_pos rfl] at this
    cases this
  | x :: a, y :: b, ha, hb, h => by
    have ha' := List.pairwise_cons.1 (List.pairwise_map.1 ha)
    have hb' := List.pairwise_cons.1 (List.pairwise_map.1 hb)
    have hxy : x = y := by
      have h1 := h x.f0
      have h2 := h y.f0
      rw [fW_cons, if_pos rfl, fW_cons] at h1
      rw [fW_cons, fW_cons, if_pos rfl] at h2
      by_cases e : y.f0 = x.f0
      · rw [if_pos e] at h1
        exact (Option.some.inj h1)
      · rw [if_neg e] at h1
        rw [if_neg (fun q => e q.symm)] at h2
        have m1 := hb'.1 x (List.mem_of_find?_eq_some h1.symm)
        have m2 := ha'.1 y (List.mem_of_find?_eq_some h2)
        omega
    subst hxy
    congr 1
    refine sortW_ext (List.pairwise_map.2 ha'.2) (List.pairwise_map.2 hb'.2) (fun loc => ?_)
    have h1 := h loc
    rw [fW_cons, fW_cons] at h1
    by_cases e : x.f0 = loc
    · have n1 : fW loc a = none := by
        cases hq : fW loc a with
        | none => rfl
        | some z => have := ha'.1 z (List.mem_of_find?_eq_some hq); have := fW_key hq; omega
      have n2 : fW loc b = none := by
        cases hq : fW loc b with
        | none => rfl
        | some z => have := hb'.1 z (List.mem_of_find?_eq_some hq); have := fW_key hq; omega
      rw [n1, n2]
    · rw [if_neg e, if_neg e] at h1
      exact h1

/-! ### All -/
theorem allF_W (loc : Int) : ∀ (l : List S62) (x : S62), fW loc (l.foldl joinWM x).f1 = (l.reverse.findSome? (fun z => lW loc z.f1)).or (fW loc x.f1)
  | [], x => by simp
  | z :: l, x => by
    rw [List.foldl_cons, allF_W loc l, List.reverse_cons, List.findSome?_append]
    show Option.or _ (fW loc (writeL x.f1 z.f1)) = _
    rw [fW_writeL]
    simp only [List.findSome?_cons, List.findSome?_nil]
    cases List.findSome? (fun z => lW loc z.f1) l.reverse with
    | some v => rfl
    | none => cases lW loc z.f1 <;> rfl
theorem allF_R (loc : Int) : ∀ (l : List S62) (x : S62), fR loc (l.foldl joinWM x).f0 = (fR loc x.f0).or (l.findSome? (fun z => fR loc z.f0))
  | [], x => by simp
  | z :: l, x => by
    rw [List.foldl_cons, allF_R loc l]
    show Option.or (fR loc (readL x.f0 z.f0)) _ = _
    rw [fR_readL, List.findSome?_cons]
    cases fR loc x.f0 with
    | some v => rfl
    | none => cases fR loc z.f0 <;> rfl
theorem allF_once : ∀ (l : List S62) (x : S62), OnceR x.f0 → OnceR (l.foldl joinWM x).f0
  | [], x, h => h
  | z :: l, x, h => allF_once l (joinWM x z) (onceR_readL z.f0 h)
theorem allF_sort : ∀ (l : List S62) (x : S62), SortW x.f1 → SortW (l.foldl joinWM x).f1
  | [], x, h => h
  | z :: l, x, h => allF_sort l (joinWM x z) (sortW_writeL z.f1 h)
theorem all_W (loc : Int) (l : List S62) : fW loc (allL l).f1 = l.reverse.findSome? (fun z => lW loc z.f1) := by
  unfold allL; rw [allF_W]; simp [z62, fW_nil]
theorem all_R (loc : Int) (l : List S62) : fR loc (allL l).f0 = l.findSome? (fun z => fR loc z.f0) := by
  unfold allL; rw [allF_R]; simp [z62, fR_nil]
theorem all_once (l : List S62) : OnceR (allL l).f0 := allF_once l z62 List.Pairwise.nil
theorem all_sort (l : List S62) : SortW (allL l).f1 := allF_sort l z62 List.Pairwise.nil

/-! ### the two innermost levels -/
theorem last2 {l : List S62} (h : 2 ≤ l.length) : ∃ m x z, l = m ++ [x, z] := by
  refine ⟨l.take (l.length - 2), l[l.length - 2], l[l.length - 1], ?_⟩
  conv => lhs; rw [← List.take_append_drop (l.length - 2) l]
  rw [List.drop_eq_getElem_cons (by omega), List.drop_eq_getElem_cons (by omega), List.drop_of_length_le (by omega)]
  have : l.length - 2 + 1 = l.length - 1 := by omega
  simp only [this]
theorem last1 {l : List S62} (h : 1 ≤ l.length) : ∃ m x, l = m ++ [x] := by
  refine ⟨l.take (l.length - 1), l[l.length - 1], ?_⟩
  conv => lhs; rw [← List.take_append_drop (l.length - 1) l]
  rw [List.drop_eq_getElem_cons (by omega), List.drop_of_length_le (by omega)]
theorem onLast_snoc (m : List S62) (x : S62) (f : S62 → S62) : onLast (m ++ [x]) f = m ++ [f x] := by
  unfold onLast
  rw [if_neg (by simp)]
  have h1 : (m ++ [x]).length - 1 = m.length := by simp
  have h2 : (m ++ [x]).getD m.length z62 = x := by simp [List.getD_eq_getElem?_getD]
  rw [h1, h2, List.set_append_right _ _ (Nat.le_refl _)]
  simp
theorem foldA2 (m : List S62) (x z : S62) : foldAL (m ++ [x, z]) = m ++ [joinAM x z] := by
  unfold foldAL
  have h1 : (m ++ [x, z]).length - 1 = m.length + 1 := by simp
  have h2 : (m ++ [x, z]).getD (m.length + 1) z62 = z := by simp [List.getD_eq_getElem?_getD]
  have h3 : (m ++ [x, z]).take (m.length + 1) = m ++ [x] := by
    rw [List.take_append]; simp [List.take_of_length_le]
  rw [h1, h2, h3, onLast_snoc]
theorem foldR2 (m : List S62) (x z : S62) : foldRL (m ++ [x, z]) = m ++ [joinRM x z] := by
  unfold foldRL
  have h1 : (m ++ [x, z]).length - 1 = m.length + 1 := by simp
  have h2 : (m ++ [x, z]).getD (m.length + 1) z62 = z := by simp [List.getD_eq_getElem?_getD]
  have h3 : (m ++ [x, z]).take (m.length + 1) = m ++ [x] := by
    rw [List.take_append]; simp [List.take_of_length_le]
  rw [h1, h2, h3, onLast_snoc]

/-! ### Find -/
def rW (loc : Int) (l : List S62) : Option S33 := l.reverse.findSome? (fun x => fW loc x.f1)
def rR (loc : Int) (l : List S62) : Option S30 := l.reverse.findSome? (fun x => fR loc x.f0)
theorem find_W {l : List S62} {loc : Int} {y : S33} (h : rW loc l = some y) : findL l loc = (y.f1, 0, 1) := findL_wrote h
theorem find_R {l : List S62} {loc : Int} {y : S30} (h0 : rW loc l = none) (h : rR loc l = some y) : findL l loc = (y.f2, y.f1, 2) := findL_read h0 h
theorem find_0 {l : List S62} {loc : Int} (h0 : rW loc l = none) (h : rR loc l = none) : findL l loc = (0, 0, 0) := findL_none h0 h
theorem rW_snoc (loc : Int) (m : List S62) (x : S62) : rW loc (m ++ [x]) = (fW loc x.f1).or (rW loc m) := by
  unfold rW; rw [List.reverse_append, List.findSome?_append]; simp
theorem rR_snoc (loc : Int) (m : List S62) (x : S62) : rR loc (m ++ [x]) = (fR loc x.f0).or (rR loc m) := by
  unfold rR; rw [List.reverse_append, List.findSome?_append]; simp
end Go.Proofs.Ytfojpobblebigaa.Pure
namespace Go.Proofs.Ytfojpobblebigaa.Pure
open Go.RowKit Go.Proofs.Ytfojpobblebigaa.P Go.Proofs.YtfojpobblebigaaW.PrintWords
set_option linter.unusedVariables false
theorem san : hallmootlaw13_sanity.f = some true := by decide +kernel
theorem fin_some (l : List S62) (loc : Int) : nFind.f l loc = some (findL l loc) := rfl
theorem LIMv : LIM = 1099511627776 := rfl
theorem tot_snoc (m : List S62) (x : S62) : tot (m ++ [x]) = tot m + 1 + sz62 x := by
  unfold tot sz62
  simp
  omega
theorem tot_snoc2 (m : List S62) (x z : S62) : tot (m ++ [x, z]) = tot m + 2 + sz62 x + sz62 z := by
  rw [show m ++ [x, z] = (m ++ [x]) ++ [z] by simp, tot_snoc, tot_snoc]
  omega
end Go.Proofs.Ytfojpobblebigaa.Pure
namespace Go.Proofs.Ytfojpobblebigaa.P
open Go.RowKit Go.Deep Go.Proofs.YtfojpobblebigaaW.PrintWords Go.Proofs.YtfojpobblebigaaW.PrintLast Go.Proofs.YtfojpobblebigaaW.PrintMore
set_option linter.unusedVariables false
set_option linter.unusedSimpArgs false
section
variable {B : Nat} {H : Type} {enc : TypeId × Value → H} {P : Program} {w : World} {α β γ δ ε : Type}
/-- Every reading of type t, of at most B levels, is of kind d, and has G. -/
def OpensB (B : Nat) (enc : TypeId × Value → H) (P : Program) (w : World) (d : Kd α) (G : α → Prop) (t : TypeId) : Prop :=
  ∀ fuel, fuel ≤ B → ∀ cs x, DataW.trod enc P w 0 (fun _ => true) true fuel t cs = some x → ∃ a, d.K w a cs ∧ G a
theorem opens_int {k : IntKind} {t : TypeId} (ht : P.underlying t = some (.int k)) : OpensB B enc P w (Kd.int k) (fun n => (Lit.int k n).wf = true) t := fun fuel hfu cs x h => by
  obtain ⟨n, rfl, _, hw⟩ := DataW.trod_int ht h
  exact ⟨n, rfl, hw⟩
theorem opens_bool {t : TypeId} (ht : P.underlying t = some .bool) : OpensB B enc P w Kd.bool (fun _ => True) t := fun fuel hfu cs x h => by
  obtain ⟨b, rfl, _⟩ := DataW.trod_bool ht h
  exact ⟨b, rfl, trivial⟩
theorem opens_string {t : TypeId} (ht : P.underlying t = some .string) : OpensB B enc P w Kd.string (fun s => s.size ≤ maxLen) t := fun fuel hfu cs x h => by
  obtain ⟨s, rfl, _, hs⟩ := DataW.trod_string ht h
  exact ⟨s, rfl, hs⟩
theorem opens_slice {d : Kd α} {G : α → Prop} {t e : TypeId} (ht : P.underlying t = some (.slice e)) (hs : P.cellsOf e = d.sz) (hd : OpensB B enc P w d G e) : OpensB (B + 1) enc P w (Kd.slice e d) (fun xs => xs.length ≤ 9223372036854775807 ∧ ∀ x ∈ xs, G x) t := fun fuel hfu cs x h => by
  rcases DataW.trod_slice ht h with ⟨rfl, _⟩ | ⟨a, len, cap, elems, rest, n, hn, rfl, _, _, hl, hm, hlen, hel, _⟩
  · exact ⟨[], ⟨none, 0, rfl, Nat.le_refl _, rfl, by simp, fun hn => absurd hn (by simp)⟩, by simp, fun x hx => by cases hx⟩
  · have each : ∀ i : Fin len, ∃ y, (∃ c, d.K w y c ∧ c.length = d.sz ∧ ∀ j u, c[j]? = some u → w.cell? (a.add (i.1 * d.sz + j)) = some u) ∧ G y := by
      intro i
      have hi := hel i.1 i.2
      rw [List.getElem?_eq_getElem (by have := i.2; omega)] at hi
      obtain ⟨cs', h1, h2⟩ := Option.bind_eq_some_iff.1 hi
      obtain ⟨y, hK, hG⟩ := hd _ (by omega) _ _ h2
      obtain ⟨_, hcl, hc⟩ := World.cells?_some h1
      refine ⟨y, ⟨cs', hK, d.K_len hK, fun j u hj => ?_⟩, hG⟩
      have hjl := (List.getElem?_eq_some_iff.1 hj).1
      have h3 := hc j (by omega)
      rw [hj, hs] at h3
      rw [← h3]
      congr 1
      unfold Addr.add
      by_cases z1 : i.1 * d.sz = 0
      · by_cases z2 : j = 0 <;> simp [z1, z2]
      · by_cases z2 : j = 0 <;> simp [z1, z2, Nat.add_assoc]
    obtain ⟨f, hf⟩ := Classical.skolem.1 each
    have hlen : (List.ofFn f).length = len := List.length_ofFn
    refine ⟨List.ofFn f, ⟨some a, cap, by rw [hlen], by rw [hlen]; exact hl, ⟨rfl, by rw [hlen]; unfold maxLen at hm; omega, fun _ => ⟨a, rfl, fun j p hj => ?_⟩⟩⟩, by rw [hlen]; unfold maxLen at hm; omega, fun x hx => ?_⟩
    · obtain ⟨hj1, hj2⟩ := List.getElem?_eq_some_iff.1 hj
      rw [List.getElem_ofFn] at hj2
      obtain ⟨⟨c, h1, h2, h3⟩, _⟩ := hf ⟨j, by omega⟩
      rw [hj2] at h1
      exact ⟨c, h2, h1, h3⟩
    · obtain ⟨i, rfl⟩ := List.mem_ofFn.1 hx
      exact (hf i).2
theorem opens_le {d : Kd α} {G : α → Prop} {t : TypeId} {B' : Nat} (h : OpensB B enc P w d G t) (hb : B' ≤ B) : OpensB B' enc P w d G t := fun fuel hfu => h fuel (Nat.le_trans hfu hb)
theorem opens_K {d d' : Kd α} {G : α → Prop} {t : TypeId} (h : OpensB B enc P w d G t) (hk : ∀ x cs, d.K w x cs → d'.K w x cs) : OpensB B enc P w d' G t := fun fuel hfu cs x hx => by
  obtain ⟨a, hK, hG⟩ := h fuel hfu cs x hx
  exact ⟨a, hk _ _ hK, hG⟩
theorem opens_iso {d : Kd α} {G : α → Prop} {t : TypeId} (hd : OpensB B enc P w d G t) (f : β → α) (g : α → β) (hg : ∀ a, f (g a) = a) : OpensB B enc P w (Kd.iso d f) (fun b => G (f b)) t := fun fuel hfu cs x h => by
  obtain ⟨a, hK, hG⟩ := hd fuel hfu cs x h
  exact ⟨g a, by show d.K w (f (g a)) cs; rw [hg]; exact hK, by show G (f (g a)); rw [hg]; exact hG⟩
theorem opens_weak {d : Kd α} {G G' : α → Prop} {t : TypeId} (hd : OpensB B enc P w d G t) (h : ∀ a, G a → G' a) : OpensB B enc P w d G' t := fun fuel hfu cs x hx => by
  obtain ⟨a, hK, hG⟩ := hd fuel hfu cs x hx
  exact ⟨a, hK, h a hG⟩
theorem cut2 (cs : List Value) (a n m : Nat) : (cs.drop a).take (n + m) = (cs.drop a).take n ++ (cs.drop (a + n)).take m := by
  rw [List.take_add, List.drop_drop]
theorem whole (cs : List Value) (n : Nat) (h : cs.length = n) : cs = (cs.drop 0).take n := by rw [List.drop_zero, ← h, List.take_length]
theorem opens_struct2 {d0 : Kd α} {d1 : Kd β} {G0 : α → Prop} {G1 : β → Prop} {t : TypeId} {f0 f1 : Field} (ht : P.underlying t = some (.struct #[f0, f1])) (o0 : f0.offset = 0) (o1 : f1.offset = P.cellsOf f0.type) (hC : P.cellsOf t = P.cellsOf f0.type + P.cellsOf f1.type)
    (h0 : OpensB B enc P w d0 G0 f0.type) (h1 : OpensB B enc P w d1 G1 f1.type) : OpensB (B + 1) enc P w (Kd.pair d0 d1) (fun p => G0 p.1 ∧ G1 p.2) t := fun fuel hfu cs x h => by
  obtain ⟨xs, n, hn, _, hl, hlen, hf⟩ := DataW.trod_struct ht h
  have e0 := hf 0 f0 rfl
  have e1 := hf 1 f1 rfl
  have l0 : 0 < xs.length := by rw [hlen]; simp
  have l1 : 1 < xs.length := by rw [hlen]; simp
  rw [List.getElem?_eq_getElem l0, o0] at e0
  rw [List.getElem?_eq_getElem l1, o1] at e1
  obtain ⟨a, hKa, hGa⟩ := h0 _ (by omega) _ _ e0
  obtain ⟨b, hKb, hGb⟩ := h1 _ (by omega) _ _ e1
  refine ⟨(a, b), ⟨_, _, ?_, hKa, hKb⟩, hGa, hGb⟩
  have := whole cs _ (hl.trans hC)
  rw [cut2, Nat.zero_add] at this
  exact this
theorem opens_struct3 {d0 : Kd α} {d1 : Kd β} {d2 : Kd γ} {G0 : α → Prop} {G1 : β → Prop} {G2 : γ → Prop} {t : TypeId} {f0 f1 f2 : Field} (ht : P.underlying t = some (.struct #[f0, f1, f2])) (o0 : f0.offset = 0) (o1 : f1.offset = P.cellsOf f0.type) (o2 : f2.offset = P.cellsOf f0.type + P.cellsOf f1.type)
    (hC : P.cellsOf t = P.cellsOf f0.type + (P.cellsOf f1.type + P.cellsOf f2.type))
    (h0 : OpensB B enc P w d0 G0 f0.type) (h1 : OpensB B enc P w d1 G1 f1.type) (h2 : OpensB B enc P w d2 G2 f2.type) : OpensB (B + 1) enc P w (Kd.pair d0 (Kd.pair d1 d2)) (fun p => G0 p.1 ∧ G1 p.2.1 ∧ G2 p.2.2) t := fun fuel hfu cs x h => by
  obtain ⟨xs, n, hn, _, hl, hlen, hf⟩ := DataW.trod_struct ht h
  have e0 := hf 0 f0 rfl
  have e1 := hf 1 f1 rfl
  have e2 := hf 2 f2 rfl
  have l2 : 2 < xs.length := by rw [hlen]; simp
  rw [List.getElem?_eq_getElem (by omega), o0] at e0
  rw [List.getElem?_eq_getElem (by omega), o1] at e1
  rw [List.getElem?_eq_getElem l2, o2] at e2
  obtain ⟨a, hKa, hGa⟩ := h0 _ (by omega) _ _ e0
  obtain ⟨b, hKb, hGb⟩ := h1 _ (by omega) _ _ e1
  obtain ⟨c, hKc, hGc⟩ := h2 _ (by omega) _ _ e2
  refine ⟨(a, b, c), ⟨_, _, ?_, hKa, _, _, rfl, hKb, hKc⟩, hGa, hGb, hGc⟩
  have := whole cs _ (hl.trans hC)
  rw [cut2, Nat.zero_add, cut2] at this
  exact this
theorem opens_struct4 {d0 : Kd α} {d1 : Kd β} {d2 : Kd γ} {d3 : Kd δ} {G0 : α → Prop} {G1 : β → Prop} {G2 : γ → Prop} {G3 : δ → Prop} {t : TypeId} {f0 f1 f2 f3 : Field} (ht : P.underlying t = some (.struct #[f0, f1, f2, f3])) (o0 : f0.offset = 0) (o1 : f1.offset = P.cellsOf f0.type) (o2 : f2.offset = P.cellsOf f0.type + P.cellsOf f1.type) (o3 : f3.offset = P.cellsOf f0.type + P.cellsOf f1.type + P.cellsOf f2.type)
    (hC : P.cellsOf t = P.cellsOf f0.type + (P.cellsOf f1.type + (P.cellsOf f2.type + P.cellsOf f3.type)))
    (h0 : OpensB B enc P w d0 G0 f0.type) (h1 : OpensB B enc P w d1 G1 f1.type) (h2 : OpensB B enc P w d2 G2 f2.type) (h3 : OpensB B enc P w d3 G3 f3.type) : OpensB (B + 1) enc P w (Kd.pair d0 (Kd.pair d1 (Kd.pair d2 d3))) (fun p => G0 p.1 ∧ G1 p.2.1 ∧ G2 p.2.2.1 ∧ G3 p.2.2.2) t := fun fuel hfu cs x h => by
  obtain ⟨xs, n, hn, _, hl, hlen, hf⟩ := DataW.trod_struct ht h
  have e0 := hf 0 f0 rfl
  have e1 := hf 1 f1 rfl
  have e2 := hf 2 f2 rfl
  have e3 := hf 3 f3 rfl
  have l3 : 3 < xs.length := by rw [hlen]; simp
  rw [List.getElem?_eq_getElem (by omega), o0] at e0
  rw [List.getElem?_eq_getElem (by omega), o1] at e1
  rw [List.getElem?_eq_getElem (by omega), o2] at e2
  rw [List.getElem?_eq_getElem l3, o3] at e3
  obtain ⟨a, hKa, hGa⟩ := h0 _ (by omega) _ _ e0
  obtain ⟨b, hKb, hGb⟩ := h1 _ (by omega) _ _ e1
  obtain ⟨c, hKc, hGc⟩ := h2 _ (by omega) _ _ e2
  obtain ⟨d, hKd, hGd⟩ := h3 _ (by omega) _ _ e3
  refine ⟨(a, b, c, d), ⟨_, _, ?_, hKa, _, _, rfl, hKb, _, _, rfl, hKc, hKd⟩, hGa, hGb, hGc, hGd⟩
  have := whole cs _ (hl.trans hC)
  rw [cut2, Nat.zero_add, cut2, cut2] at this
  exact this
theorem opens_struct5 {ζ : Type} {d0 : Kd α} {d1 : Kd β} {d2 : Kd γ} {d3 : Kd δ} {d4 : Kd ζ} {G0 : α → Prop} {G1 : β → Prop} {G2 : γ → Prop} {G3 : δ → Prop} {G4 : ζ → Prop} {t : TypeId} {f0 f1 f2 f3 f4 : Field} (ht : P.underlying t = some (.struct #[f0, f1, f2, f3, f4])) (o0 : f0.offset = 0) (o1 : f1.offset = P.cellsOf f0.type) (o2 : f2.offset = P.cellsOf f0.type + P.cellsOf f1.type) (o3 : f3.offset = P.cellsOf f0.type + P.cellsOf f1.type + P.cellsOf f2.type) (o4 : f4.offset = P.cellsOf f0.type + P.cellsOf f1.type + P.cellsOf f2.type + P.cellsOf f3.type)
    (hC : P.cellsOf t = P.cellsOf f0.type + (P.cellsOf f1.type + (P.cellsOf f2.type + (P.cellsOf f3.type + P.cellsOf f4.type))))
    (h0 : OpensB B enc P w d0 G0 f0.type) (h1 : OpensB B enc P w d1 G1 f1.type) (h2 : OpensB B enc P w d2 G2 f2.type) (h3 : OpensB B enc P w d3 G3 f3.type) (h4 : OpensB B enc P w d4 G4 f4.type) : OpensB (B + 1) enc P w (Kd.pair d0 (Kd.pair d1 (Kd.pair d2 (Kd.pair d3 d4)))) (fun p => G0 p.1 ∧ G1 p.2.1 ∧ G2 p.2.2.1 ∧ G3 p.2.2.2.1 ∧ G4 p.2.2.2.2) t := fun fuel hfu cs x h => by
  obtain ⟨xs, n, hn, _, hl, hlen, hf⟩ := DataW.trod_struct ht h
  have e0 := hf 0 f0 rfl
  have e1 := hf 1 f1 rfl
  have e2 := hf 2 f2 rfl
  have e3 := hf 3 f3 rfl
  have e4 := hf 4 f4 rfl
  have l4 : 4 < xs.length := by rw [hlen]; simp
  rw [List.getElem?_eq_getElem (by omega), o0] at e0
  rw [List.getElem?_eq_getElem (by omega), o1] at e1
  rw [List.getElem?_eq_getElem (by omega), o2] at e2
  rw [List.getElem?_eq_getElem (by omega), o3] at e3
  rw [List.getElem?_eq_getElem l4, o4] at e4
  obtain ⟨a, hKa, hGa⟩ := h0 _ (by omega) _ _ e0
  obtain ⟨b, hKb, hGb⟩ := h1 _ (by omega) _ _ e1
  obtain ⟨c, hKc, hGc⟩ := h2 _ (by omega) _ _ e2
  obtain ⟨d, hKd, hGd⟩ := h3 _ (by omega) _ _ e3
  obtain ⟨e, hKe, hGe⟩ := h4 _ (by omega) _ _ e4
  refine ⟨(a, b, c, d, e), ⟨_, _, ?_, hKa, _, _, rfl, hKb, _, _, rfl, hKc, _, _, rfl, hKd, hKe⟩, hGa, hGb, hGc, hGd, hGe⟩
  have := whole cs _ (hl.trans hC)
  rw [cut2, Nat.zero_add, cut2, cut2, cut2] at this
  exact this
end
section
/-- A value each of whose lists, at whatever depth, is of a length that fits. -/
inductive Sm : S48 → Prop
  | mk (v : S48) : v.f3.length ≤ 9223372036854775807 → (∀ x ∈ v.f3, Sm x) → Sm v
variable {H : Type} (enc : TypeId × Value → H) (w : World)
theorem op_i3 (B : Nat) : OpensB B enc Try.prog w (Kd.int .i64) (fun n => (Lit.int .i64 n).wf = true) 3 := opens_int Try.underlying3
theorem op30 (B : Nat) : OpensB (B + 1) enc Try.prog w k30 (fun _ => True) 30 :=
  opens_weak (opens_iso (opens_struct3 Try.underlying30 rfl (by kernel_rfl) (by kernel_rfl) (by kernel_rfl) (op_i3 enc w B) (op_i3 enc w B) (op_i3 enc w B)) (fun x : S30 => (x.f0, x.f1, x.f2)) (fun p => ⟨p.1, p.2.1, p.2.2⟩) (fun _ => rfl)) (fun _ _ => trivial)
theorem op33 (B : Nat) : OpensB (B + 1) enc Try.prog w k33 (fun _ => True) 33 :=
  opens_weak (opens_iso (opens_struct2 Try.underlying33 rfl (by kernel_rfl) (by kernel_rfl) (op_i3 enc w B) (op_i3 enc w B)) (fun x : S33 => (x.f0, x.f1)) (fun p => ⟨p.1, p.2⟩) (fun _ => rfl)) (fun _ _ => trivial)
theorem op48u : ∀ B, OpensB B enc Try.prog w (Kd.upto F48 4 [48] B) Sm 48
  | 0 => fun fuel hfu cs x h => by
    obtain rfl : fuel = 0 := by omega
    simp [DataW.trod] at h
  | B + 1 => opens_weak (opens_iso (opens_struct4 Try.underlying48 rfl (by kernel_rfl) (by kernel_rfl) (by kernel_rfl) (by kernel_rfl) (op_i3 enc w B) (op_i3 enc w B) (op_i3 enc w B)
      (opens_le (opens_slice Try.underlying46 ((by kernel_rfl : Try.prog.cellsOf 48 = 4).trans (sz48 B).symm) (op48u B)) (Nat.le_succ B))) (fun x : S48 => (x.f0, x.f1, x.f2, x.f3)) (fun p => ⟨p.1, p.2.1, p.2.2.1, p.2.2.2⟩) (fun _ => rfl)) (fun x hx => .mk x hx.2.2.2.1 hx.2.2.2.2)
theorem op48 (B : Nat) : OpensB B enc Try.prog w k48 Sm 48 := opens_K (op48u enc w B) (fun x cs h => ⟨B, h⟩)
theorem op50 (B : Nat) : OpensB (B + 1) enc Try.prog w k50 (fun u => Sm u.f0) 50 :=
  opens_weak (opens_iso (opens_struct2 Try.underlying50 rfl (by kernel_rfl) (by kernel_rfl) (op48 enc w B) (op_i3 enc w B)) (fun x : S50 => (x.f0, x.f1)) (fun p => ⟨p.1, p.2⟩) (fun _ => rfl)) (fun _ hx => hx.1)
theorem op62 (B : Nat) : OpensB (B + 3) enc Try.prog w k62 (fun x => ∀ u ∈ x.f2, Sm u.f0) 62 :=
  opens_weak (opens_iso (opens_struct3 Try.underlying62 rfl (by kernel_rfl) (by kernel_rfl) (by kernel_rfl) (opens_slice Try.underlying23 (by kernel_rfl) (op30 enc w B)) (opens_slice Try.underlying24 (by kernel_rfl) (op33 enc w B)) (opens_slice Try.underlying34 (by kernel_rfl) (op50 enc w B)))
    (fun x : S62 => (x.f0, x.f1, x.f2)) (fun p => ⟨p.1, p.2.1, p.2.2⟩) (fun _ => rfl)) (fun _ hx => hx.2.2.2)
/-- What a reading of a slice gives. -/
theorem row_of {α : Type} {d : Kd α} {G : α → Prop} {e t : Nat} {cs : List Value} {fuel : Nat} {x : DataW H × List MemPlace} (h : ∀ B, OpensB (B + 4) enc Try.prog w (Kd.slice e d) (fun xs => xs.length ≤ 9223372036854775807 ∧ ∀ x ∈ xs, G x) t) (hx : DataW.trod enc Try.prog w 0 (fun _ => true) true fuel t cs = some x) :
    ∃ (xs : List α) (A : Option Addr) (c : Nat), cs = [.slice A xs.length c] ∧ xs.length ≤ c ∧ d.C w A xs.length xs ∧ ∀ x ∈ xs, G x := by
  obtain ⟨xs, ⟨A, c, e1, e2, e3⟩, hG⟩ := h fuel fuel (by omega) cs x hx
  exact ⟨xs, A, c, e1, e2, e3, hG.2⟩
theorem row22 {cs : List Value} {fuel : Nat} {x : DataW H × List MemPlace} (hx : DataW.trod enc Try.prog w 0 (fun _ => true) true fuel 22 cs = some x) :
    ∃ (xs : List S62) (A : Option Addr) (c : Nat), cs = [.slice A xs.length c] ∧ xs.length ≤ c ∧ Kd.C k62 w A xs.length xs := by
  obtain ⟨xs, A, c, e1, e2, e3, _⟩ := row_of enc w (fun B => opens_slice Try.underlying22 (by kernel_rfl) (op62 enc w B)) hx
  exact ⟨xs, A, c, e1, e2, e3⟩
theorem row22s {cs : List Value} {fuel : Nat} {x : DataW H × List MemPlace} (hx : DataW.trod enc Try.prog w 0 (fun _ => true) true fuel 22 cs = some x) :
    ∃ (xs : List S62) (A : Option Addr) (c : Nat), cs = [.slice A xs.length c] ∧ xs.length ≤ c ∧ Kd.C k62 w A xs.length xs ∧ ∀ x ∈ xs, ∀ u ∈ x.f2, Sm u.f0 :=
  row_of enc w (fun B => opens_slice Try.underlying22 (by kernel_rfl) (op62 enc w B)) hx
theorem row23 {cs : List Value} {fuel : Nat} {x : DataW H × List MemPlace} (hx : DataW.trod enc Try.prog w 0 (fun _ => true) true fuel 23 cs = some x) :
    ∃ (xs : List S30) (A : Option Addr) (c : Nat), cs = [.slice A xs.length c] ∧ xs.length ≤ c ∧ Kd.C k30 w A xs.length xs := by
  obtain ⟨xs, A, c, e1, e2, e3, _⟩ := row_of enc w (fun B => opens_slice Try.underlying23 (by kernel_rfl) (op30 enc w (B + 2))) hx
  exact ⟨xs, A, c, e1, e2, e3⟩
theorem row24 {cs : List Value} {fuel : Nat} {x : DataW H × List MemPlace} (hx : DataW.trod enc Try.prog w 0 (fun _ => true) true fuel 24 cs = some x) :
    ∃ (xs : List S33) (A : Option Addr) (c : Nat), cs = [.slice A xs.length c] ∧ xs.length ≤ c ∧ Kd.C k33 w A xs.length xs := by
  obtain ⟨xs, A, c, e1, e2, e3, _⟩ := row_of enc w (fun B => opens_slice Try.underlying24 (by kernel_rfl) (op33 enc w (B + 2))) hx
  exact ⟨xs, A, c, e1, e2, e3⟩
end
end Go.Proofs.Ytfojpobblebigaa.P
namespace Go.Proofs.Ytfojpobblebigaa.P
open Go.RowKit Go.Proofs.YtfojpobblebigaaW.PrintWords Go.Proofs.YtfojpobblebigaaW.PrintLast Go.Proofs.YtfojpobblebigaaW.PrintMore
attribute [local go_sem] max2_int min2_int max_two min_two max_three min_three max_four min_four   -- for this text's walks alone
set_option linter.unusedVariables false
set_option linter.unusedSimpArgs false

/-! ### hallmootref13_with: function 47 -/
def hallmootref13_with.f (l0 : List (S62)) (l1_0 : List (S30)) (l1_1 : List (S33)) (l1_2 : List (S50)) : Option ((List (S62))) := (some (([] : List (S62)) : List (S62))).bind fun y228 => (if y228.length + l0.length < 1954687338268 then ((some (y228 ++ l0 : List (S62))).bind fun y231 => (if 0 ≤ (wrap64 ((y231.length : Int) - 1)) then (if (wrap64 ((y231.length : Int) - 1)) < (y231.length : Int) then (some (y231.set ((wrap64 ((y231.length : Int) - 1)) : Int).toNat (⟨l1_0, l1_1, l1_2⟩ : S62))) else (none)) else (none))) else (none))
set_option maxHeartbeats 8000000 in
set_option maxRecDepth 100000 in
theorem hallmootref13_with.calls (P0_ : Nat → Prop) (A0 : Option Addr) (c0 : Nat) (l0 : List (S62)) (P1_0_ : Nat → Prop) (A1_0 : Option Addr) (c1_0 : Nat) (l1_0 : List (S30)) (P1_1_ : Nat → Prop) (A1_1 : Option Addr) (c1_1 : Nat) (l1_1 : List (S33)) (P1_2_ : Nat → Prop) (A1_2 : Option Addr) (c1_2 : Nat) (l1_2 : List (S50)) (r : List (S62)) (w : World) (hs0 : Kd.V k62 62 w w.heap.size (fun k_ => P0_ k_) (.slice A0 l0.length c0) l0) (hs1_0 : Kd.V k30 30 w w.heap.size (fun k_ => P1_0_ k_) (.slice A1_0 l1_0.length c1_0) l1_0) (hs1_1 : Kd.V k33 33 w w.heap.size (fun k_ => P1_1_ k_) (.slice A1_1 l1_1.length c1_1) l1_1) (hs1_2 : Kd.V k50 50 w w.heap.size (fun k_ => P1_2_ k_) (.slice A1_2 l1_2.length c1_2) l1_2) (h : hallmootref13_with.f l0 l1_0 l1_1 l1_2 = some r) : Calls Try.prog 47 #[.slice A0 l0.length c0, .agg #[.slice A1_0 l1_0.length c1_0, .slice A1_1 l1_1.length c1_1, .slice A1_2 l1_2.length c1_2]] w fun e w' => ∃ v0_ : Value, e = .returned (v0_) ∧ Kd.N k62 62 w' w.heap.size (fun k_ => ((P0_ k_ ∨ P1_0_ k_ ∨ P1_1_ k_ ∨ P1_2_ k_) ∨ w.heap.size ≤ k_)) v0_ r ∧ Below w.heap.size w w' := by
 have hu62 := Try.underlying62
 have HO0 := aS (show Kd.V k62 62 w w.heap.size (fun k_ => ((P0_ k_ ∨ P1_0_ k_ ∨ P1_1_ k_ ∨ P1_2_ k_) ∨ w.heap.size ≤ k_)) (.slice A0 l0.length c0) l0 from Kd.V_mono hs0 (fun k_ hk => .inl (.inl hk)))
 have HO1_0 := aS (show Kd.V k30 30 w w.heap.size (fun k_ => ((P0_ k_ ∨ P1_0_ k_ ∨ P1_1_ k_ ∨ P1_2_ k_) ∨ w.heap.size ≤ k_)) (.slice A1_0 l1_0.length c1_0) l1_0 from Kd.V_mono hs1_0 (fun k_ hk => .inl (.inr (.inl hk))))
 have HO1_1 := aS (show Kd.V k33 33 w w.heap.size (fun k_ => ((P0_ k_ ∨ P1_0_ k_ ∨ P1_1_ k_ ∨ P1_2_ k_) ∨ w.heap.size ≤ k_)) (.slice A1_1 l1_1.length c1_1) l1_1 from Kd.V_mono hs1_1 (fun k_ hk => .inl (.inr (.inr (.inl hk)))))
 have HO1_2 := aS (show Kd.V k50 50 w w.heap.size (fun k_ => ((P0_ k_ ∨ P1_0_ k_ ∨ P1_1_ k_ ∨ P1_2_ k_) ∨ w.heap.size ≤ k_)) (.slice A1_2 l1_2.length c1_2) l1_2 from Kd.V_mono hs1_2 (fun k_ hk => .inl (.inr (.inr (.inr hk)))))
 have HB := aS (Below.refl w.heap.size w)
 have H : ((some (([] : List (S62)) : List (S62))).bind fun y228 => (if y228.length + l0.length < 1954687338268 then ((some (y228 ++ l0 : List (S62))).bind fun y231 => (if 0 ≤ (wrap64 ((y231.length : Int) - 1)) then (if (wrap64 ((y231.length : Int) - 1)) < (y231.length : Int) then (some (y231.set ((wrap64 ((y231.length : Int) - 1)) : Int).toNat (⟨l1_0, l1_1, l1_2⟩ : S62))) else (none)) else (none))) else (none))) = some r := h
 clear h
 obtain ⟨y228, hy228⟩ : ∃ y_ : List (S62), y_ = (([] : List (S62))) := ⟨_, rfl⟩
 replace H : (if y228.length + l0.length < 1954687338268 then ((some (y228 ++ l0 : List (S62))).bind fun y231 => (if 0 ≤ (wrap64 ((y231.length : Int) - 1)) then (if (wrap64 ((y231.length : Int) - 1)) < (y231.length : Int) then (some (y231.set ((wrap64 ((y231.length : Int) - 1)) : Int).toNat (⟨l1_0, l1_1, l1_2⟩ : S62))) else (none)) else (none))) else (none)) = some r := by first | (rw [hy228]; with_reducible exact H) | (have H2_ := (Option.bind_some _ _).symm.trans H; rw [hy228]; with_reducible exact H2_) | (have H2_ := (Option.bind_some _ _).symm.trans H; with_reducible exact H2_) | with_reducible exact H | (rw [hy228]; exact H) | exact H
 have Ny228 := aS hy228
 clear hy228
 by_cases c3 : y228.length + l0.length < 1954687338268
 {
 rw [if_pos c3] at H
 have LMc3 := aS c3
 clear c3
 obtain ⟨y231, hy231⟩ : ∃ y_ : List (S62), y_ = (y228 ++ l0) := ⟨_, rfl⟩
 replace H : (if 0 ≤ (wrap64 ((y231.length : Int) - 1)) then (if (wrap64 ((y231.length : Int) - 1)) < (y231.length : Int) then (some (y231.set ((wrap64 ((y231.length : Int) - 1)) : Int).toNat (⟨l1_0, l1_1, l1_2⟩ : S62))) else (none)) else (none)) = some r := by first | (rw [hy231]; with_reducible exact H) | (have H2_ := (Option.bind_some _ _).symm.trans H; rw [hy231]; with_reducible exact H2_) | (have H2_ := (Option.bind_some _ _).symm.trans H; with_reducible exact H2_) | with_reducible exact H | (rw [hy231]; exact H) | exact H
 have Ny231 := aS hy231
 clear hy231
 obtain ⟨ji4, hji4⟩ : ∃ j_ : Int, (wrap64 ((y231.length : Int) - 1)) = j_ := ⟨_, rfl⟩
 replace H : (if 0 ≤ (ji4) then (if (ji4) < (y231.length : Int) then (some (y231.set ((ji4) : Int).toNat (⟨l1_0, l1_1, l1_2⟩ : S62))) else (none)) else (none)) = some r := by first | (rw [hji4] at H; exact H) | (simp only [hji4] at H ⊢; exact H)
 have hji4w : (IntKind.i64.wrap ((y231.length : Int) - 1)) = ji4 := (i64_w _).trans hji4
 by_cases c5 : 0 ≤ (ji4)
 {
 rw [if_pos c5] at H
 have c5b0 : decide (0 ≤ (ji4)) = true := decide_eq_true c5
 clear c5
 by_cases c6 : (ji4) < (y231.length : Int)
 {
 rw [if_pos c6] at H
 have c6b0 : decide ((ji4) < (y231.length : Int)) = true := decide_eq_true c6
 clear c6
 obtain ⟨y234, hy234⟩ : ∃ y_ : List (S62), y_ = (y231.set ((ji4) : Int).toNat (⟨l1_0, l1_1, l1_2⟩ : S62)) := ⟨_, rfl⟩
 replace H : (some y234) = some r := by first | (rw [hy234]; with_reducible exact H) | (have H2_ := (Option.bind_some _ _).symm.trans H; rw [hy234]; with_reducible exact H2_) | (have H2_ := (Option.bind_some _ _).symm.trans H; with_reducible exact H2_) | with_reducible exact H | (rw [hy234]; exact H) | exact H
 have Ny234 := aS hy234
 clear hy234
 obtain rfl := Option.some.inj H
 go_enter Try.func47, Try.ntmps47
 go_wp2_with (first | ((with_reducible refine gate_dst (N := 3) rfl ?_); refine box_event ?hg (N := 3) ?hd (cs := #[.slice A1_0 l1_0.length c1_0, .slice A1_1 l1_1.length c1_1, .slice A1_2 l1_2.length c1_2]) (t := 62) ?hr ?_; (case hd => rfl); (case hg => rfl); (case hr => first | (go_simp; done) | (go_simp; rfl)); intro gb227 hg w8 hbox hb; have n0_ := aS (Kd.V_below (Kd.V_elderB (vv HO0.out) gb227 (Nat.le_of_eq hg.symm)) hb); have n1_ := aS (Kd.V_below (Kd.V_elderB (vv HO1_0.out) gb227 (Nat.le_of_eq hg.symm)) hb); have n2_ := aS (Kd.V_below (Kd.V_elderB (vv HO1_1.out) gb227 (Nat.le_of_eq hg.symm)) hb); have n3_ := aS (Kd.V_below (Kd.V_elderB (vv HO1_2.out) gb227 (Nat.le_of_eq hg.symm)) hb); have n4_ := aS (below_step bb hb); have n5_ := aS (hbox); have n6_ := aS ((by rw [hg]; exact bz : w.heap.size ≤ gb227)); have n7_ := aS ((by rw [hg]; exact bz : w.heap.size ≤ gb227)); clear HO0; clear HO1_0; clear HO1_1; clear HO1_2; clear HB; have HO0 := n0_; have HO1_0 := n1_; have HO1_1 := n2_; have HO1_2 := n3_; have HB := n4_; have BK227 := n5_; have GW227 := n6_; have GE227 := n7_; clear n0_ n1_ n2_ n3_ n4_ n5_ n6_ n7_; clear hb hbox hg) | ((with_reducible refine gate_dst (N := 6) rfl ?_); refine Kd.N_lit k62 _ 62 ?hg (N' := 6) ?hd (xs := ([] : List (S62))) (inner := []) (ok := (fun k_ => ((P0_ k_ ∨ P1_0_ k_ ∨ P1_1_ k_ ∨ P1_2_ k_) ∨ w.heap.size ≤ k_) ∧ k_ ≠ gb227)) (okp := (fun k_ => ((P0_ k_ ∨ P1_0_ k_ ∨ P1_1_ k_ ∨ P1_2_ k_) ∨ w.heap.size ≤ k_) ∧ k_ ≠ gb227)) ?hr ?hp (fun _ hk => hk) ((show ∀ k_, w8.heap.size ≤ k_ → (fun k_ => ((P0_ k_ ∨ P1_0_ k_ ∨ P1_1_ k_ ∨ P1_2_ k_) ∨ w.heap.size ≤ k_) ∧ k_ ≠ gb227) k_ from fun k_ hk => ⟨(.inr (Nat.le_trans bz hk)), Kd.freshB (g := gb227) (o := .cells #[.slice A1_0 l1_0.length c1_0, .slice A1_1 l1_1.length c1_1, .slice A1_2 l1_2.length c1_2] 62 (0, 0)) (kk BK227.out) k_ hk⟩) _ (Nat.le_refl _)) (Below.refl _ _) (Nat.le_refl _) (by simp) ?_; (case hd => rfl); (case hg => rfl); (case hr => first | (go_simp; done) | (go_simp; rfl)); (case hp => exact (Reps.none _ _)); intro v229 w9 ho10 hb hg_ hnew_; clear hg_ hnew_; (first | rw [← Ny228.out] at ho10 | (simp only [Int.reduceToNat] at ho10; rw [← Ny228.out] at ho10)); have n0_ := aS (Kd.V_elder' (vv HO0.out) (Kd.N_base ho10) hb); have n1_ := aS (Kd.V_elder' (vv HO1_0.out) (Kd.N_base ho10) hb); have n2_ := aS (Kd.V_elder' (vv HO1_1.out) (Kd.N_base ho10) hb); have n3_ := aS (Kd.V_elder' (vv HO1_2.out) (Kd.N_base ho10) hb); have n4_ := aS (Kd.N_lower ho10 bz); have n5_ := aS (blk_below (g := gb227) (o := .cells #[.slice A1_0 l1_0.length c1_0, .slice A1_1 l1_1.length c1_1, .slice A1_2 l1_2.length c1_2] 62 (0, 0)) (kk BK227.out) hb); have n6_ := aS (below_step bb hb); clear HO0; clear HO1_0; clear HO1_1; clear HO1_2; clear BK227; clear HB; have HO0 := n0_; have HO1_0 := n1_; have HO1_1 := n2_; have HO1_2 := n3_; have HO230 := n4_; have BK227 := n5_; have HB := n6_; clear n0_ n1_ n2_ n3_ n4_ n5_ n6_; clear hb ho10) | ((with_reducible refine gate_builtin (b := .append) (xs := #[.tmp 6, .tmp 7]) rfl ?_); at_builtin; refine Kd.N_append_rows k62 (w0 := w) w.heap.size rfl (.tmp 6) (.tmp 7) 22 62 (.agg #[(.slice none 0 0), (.slice none 0 0), (.slice none 0 0)]) 72 rfl Try.underlying22 info62 rfl (by decide) (by omega) v229 y228 l0 _ _ _ (fun k_ => ((P0_ k_ ∨ P1_0_ k_ ∨ P1_1_ k_ ∨ P1_2_ k_) ∨ w.heap.size ≤ k_) ∧ k_ ≠ gb227) (fun k_ => ((fun k_ => ((P0_ k_ ∨ P1_0_ k_ ∨ P1_1_ k_ ∨ P1_2_ k_) ∨ w.heap.size ≤ k_) ∧ k_ ≠ gb227)) k_ ∧ some k_ ≠ (v229 : Value).ownBlock) rfl rfl ?aO ?aR (fun _ hk => hk) ?aF ?aB ?aS ?aL ?_; (case aR => exact (by skip; exact Kd.V_F (Kd.V_mono (ok' := (fun k_ => ((fun k_ => ((P0_ k_ ∨ P1_0_ k_ ∨ P1_1_ k_ ∨ P1_2_ k_) ∨ w.heap.size ≤ k_) ∧ k_ ≠ gb227)) k_ ∧ some k_ ≠ (v229 : Value).ownBlock)) (HO0.out) (fun k_ hk => ⟨⟨hk.1.1, hk.1.2⟩, hk.2⟩)))); (case aB => exact bb); (case aF => exact (fun k_ hk => ⟨(.inr (Nat.le_trans bz hk)), Kd.freshB (g := gb227) (o := .cells #[.slice A1_0 l1_0.length c1_0, .slice A1_1 l1_1.length c1_1, .slice A1_2 l1_2.length c1_2] 62 (0, 0)) (kk BK227.out) k_ hk⟩)); (case aO => exact (by (with_reducible repeat (first | apply Kd.N_alloc | apply Kd.N_drewN | apply Kd.N_drew)); exact HO230.out)); (case aS => exact bz); (case aL => have := LMc3.out; omega); intro v232 w11 ho hb hg hat; rw [← Ny231.out] at ho; have n0_ := aS (Kd.V_afterv (ok := (fun k_ => ((P0_ k_ ∨ P1_0_ k_ ∨ P1_1_ k_ ∨ P1_2_ k_) ∨ w.heap.size ≤ k_) ∧ k_ ≠ gb227)) (vv HO0.out) hg hat); have n1_ := aS (Kd.V_afterv (ok := (fun k_ => ((P0_ k_ ∨ P1_0_ k_ ∨ P1_1_ k_ ∨ P1_2_ k_) ∨ w.heap.size ≤ k_) ∧ k_ ≠ gb227)) (vv HO1_0.out) hg hat); have n2_ := aS (Kd.V_afterv (ok := (fun k_ => ((P0_ k_ ∨ P1_0_ k_ ∨ P1_1_ k_ ∨ P1_2_ k_) ∨ w.heap.size ≤ k_) ∧ k_ ≠ gb227)) (vv HO1_1.out) hg hat); have n3_ := aS (Kd.V_afterv (ok := (fun k_ => ((P0_ k_ ∨ P1_0_ k_ ∨ P1_1_ k_ ∨ P1_2_ k_) ∨ w.heap.size ≤ k_) ∧ k_ ≠ gb227)) (vv HO1_2.out) hg hat); have n4_ := aS (blk_grown (g := gb227) (o := .cells #[.slice A1_0 l1_0.length c1_0, .slice A1_1 l1_1.length c1_1, .slice A1_2 l1_2.length c1_2] 62 (0, 0)) (kk BK227.out) hg (Kd.N_away HO230.out (fun _ hk => hk.2))); have n5_ := aS (hb); have n6_ := aS (ho); clear HO0; clear HO1_0; clear HO1_1; clear HO1_2; clear BK227; clear HB; clear HO230; have HO0 := n0_; have HO1_0 := n1_; have HO1_1 := n2_; have HO1_2 := n3_; have BK227 := n4_; have HB := n5_; have HO233 := n6_; clear n0_ n1_ n2_ n3_ n4_ n5_ n6_; clear ho hb hg hat; obtain ⟨Ao12, co12, eo12⟩ := Kd.N_slice HO233.out; subst eo12; have hcz13_0 : w11.cell? ⟨gb227, 0, none⟩ = some (.slice A1_0 l1_0.length c1_0) := (blk_cell BK227.out 0).trans rfl; have hcz13_1 : w11.cell? ⟨gb227, 1, none⟩ = some (.slice A1_1 l1_1.length c1_1) := (blk_cell BK227.out 1).trans rfl; have hcz13_2 : w11.cell? ⟨gb227, 2, none⟩ = some (.slice A1_2 l1_2.length c1_2) := (blk_cell BK227.out 2).trans rfl; have hfz13_0 := blk_frozen BK227.out 0; have hfz13_1 := blk_frozen BK227.out 1; have hfz13_2 := blk_frozen BK227.out 2; have p7 : 0 ≤ ((ji4) : Int) := dd; have q7 : ((ji4) : Int) < ((y231.length : Int) : Int) := dd; obtain ⟨go7, co7, eo7, gb7, gl7, cl7, HG7⟩ := Kd.N_form HO233.out (by omega); (first | cases eo7 | (injection eo7 with ea_ en_ ec_; (first | subst ea_ | (injection ea_ with ea_; subst ea_)); subst ec_; clear en_)); have GB7 := aS gb7; have GG7 := aS HG7; clear gb7 gl7 HG7; obtain ⟨ce7, hcl7, hM7, hcc7, hfr7⟩ := Kd.N_elem HO233.out z62 ((ji4) : Int) p7 q7; obtain ⟨ua7_0, uc7_0, ua7_1, uc7_1, ua7_2, uc7_2, rfl, ul7_0, ge7_0, ul7_1, ge7_1, ul7_2, ge7_2⟩ := k62_openF hM7; have hx7_0 : w11.cell? ⟨go7, ((ji4) : Int).toNat * 3, none⟩ = some (.slice ua7_0 ((rd_T62 y231 (ji4)).f0).length uc7_0) := hcc7 0 _ rfl; have hx7_1 : w11.cell? ⟨go7, ((ji4) : Int).toNat * 3 + 1, none⟩ = some (.slice ua7_1 ((rd_T62 y231 (ji4)).f1).length uc7_1) := hcc7 1 _ rfl; have hx7_2 : w11.cell? ⟨go7, ((ji4) : Int).toNat * 3 + 2, none⟩ = some (.slice ua7_2 ((rd_T62 y231 (ji4)).f2).length uc7_2) := hcc7 2 _ rfl; have hf7_0 : w11.frozen? ⟨go7, ((ji4) : Int).toNat * 3, none⟩ = false := hfr7 0; have hf7_1 : w11.frozen? ⟨go7, ((ji4) : Int).toNat * 3 + 1, none⟩ = false := hfr7 1; have hf7_2 : w11.frozen? ⟨go7, ((ji4) : Int).toNat * 3 + 2, none⟩ = false := hfr7 2; clear hcl7 hcc7 hfr7 hM7; replace p7 := eq_true p7; replace q7 := eq_true q7; have HX14 := aS (show Kd.N k62 62 w11 w.heap.size (fun k_ => ((P0_ k_ ∨ P1_0_ k_ ∨ P1_1_ k_ ∨ P1_2_ k_) ∨ w.heap.size ≤ k_) ∧ k_ ≠ gb227) (.slice (some ⟨go7, 0, none⟩) y231.length co12) y231 from (by (with_reducible repeat (first | apply Kd.N_alloc | apply Kd.N_drewN | apply Kd.N_drew)); exact HO233.out)); obtain ⟨ce14, hcl14, hM14, hcc14, hfr14⟩ := Kd.N_elem HX14.out z62 ((ji4) : Int) (dd) (by have h_ : ((ji4) : Int) < ((y231.length : Int) : Int) := dd; first | exact h_ | (have e_ := (Kd.N_reads' HO233.out).1; omega) | simpa using h_); obtain ⟨ua14_0, uc14_0, ua14_1, uc14_1, ua14_2, uc14_2, rfl, ul14_0, ge14_0, ul14_1, ge14_1, ul14_2, ge14_2⟩ := k62_openF hM14; have HP14 := Kd.N_seg HX14.out ((ji4) : Int) (dd) (by have h_ : ((ji4) : Int) < ((y231.length : Int) : Int) := dd; first | exact h_ | (have e_ := (Kd.N_reads' HO233.out).1; omega) | simpa using h_) (seg := [.slice A1_0 l1_0.length c1_0, .slice A1_1 l1_1.length c1_1, .slice A1_2 l1_2.length c1_2]) (j := 0) hcl14 hcc14 (show 3 ≤ 3 from by decide) (x' := (⟨l1_0, l1_1, l1_2⟩ : S62)) (k62_mkF _ _ (⟨l1_0, l1_1, l1_2⟩ : S62) (Kd.V_reads' (Kd.V_mono (ok' := (fun k_ => ((fun k_ => ((P0_ k_ ∨ P1_0_ k_ ∨ P1_1_ k_ ∨ P1_2_ k_) ∨ w.heap.size ≤ k_) ∧ k_ ≠ gb227)) k_ ∧ k_ ≠ go7)) (HO1_0.out) (fun k_ hk => ⟨⟨hk.1.1, hk.1.2⟩, fun e_ => (hk.2) (by rw [e_]; rfl)⟩))).2.1 (Kd.V_F (Kd.V_mono (ok' := (fun k_ => ((fun k_ => ((P0_ k_ ∨ P1_0_ k_ ∨ P1_1_ k_ ∨ P1_2_ k_) ∨ w.heap.size ≤ k_) ∧ k_ ≠ gb227)) k_ ∧ k_ ≠ go7)) (HO1_0.out) (fun k_ hk => ⟨⟨hk.1.1, hk.1.2⟩, fun e_ => (hk.2) (by rw [e_]; rfl)⟩))) (Kd.V_reads' (Kd.V_mono (ok' := (fun k_ => ((fun k_ => ((P0_ k_ ∨ P1_0_ k_ ∨ P1_1_ k_ ∨ P1_2_ k_) ∨ w.heap.size ≤ k_) ∧ k_ ≠ gb227)) k_ ∧ k_ ≠ go7)) (HO1_1.out) (fun k_ hk => ⟨⟨hk.1.1, hk.1.2⟩, fun e_ => (hk.2) (by rw [e_]; rfl)⟩))).2.1 (Kd.V_F (Kd.V_mono (ok' := (fun k_ => ((fun k_ => ((P0_ k_ ∨ P1_0_ k_ ∨ P1_1_ k_ ∨ P1_2_ k_) ∨ w.heap.size ≤ k_) ∧ k_ ≠ gb227)) k_ ∧ k_ ≠ go7)) (HO1_1.out) (fun k_ hk => ⟨⟨hk.1.1, hk.1.2⟩, fun e_ => (hk.2) (by rw [e_]; rfl)⟩))) (Kd.V_reads' (Kd.V_mono (ok' := (fun k_ => ((fun k_ => ((P0_ k_ ∨ P1_0_ k_ ∨ P1_1_ k_ ∨ P1_2_ k_) ∨ w.heap.size ≤ k_) ∧ k_ ≠ gb227)) k_ ∧ k_ ≠ go7)) (HO1_2.out) (fun k_ hk => ⟨⟨hk.1.1, hk.1.2⟩, fun e_ => (hk.2) (by rw [e_]; rfl)⟩))).2.1 (Kd.V_F (Kd.V_mono (ok' := (fun k_ => ((fun k_ => ((P0_ k_ ∨ P1_0_ k_ ∨ P1_1_ k_ ∨ P1_2_ k_) ∨ w.heap.size ≤ k_) ∧ k_ ≠ gb227)) k_ ∧ k_ ≠ go7)) (HO1_2.out) (fun k_ hk => ⟨⟨hk.1.1, hk.1.2⟩, fun e_ => (hk.2) (by rw [e_]; rfl)⟩)))) (fun _ hk => hk); have hx14_0 := hcc14 0 _ rfl; (try simp only [show (k62).sz = 3 from rfl, Nat.mul_one, Nat.add_zero] at hx14_0); have hf14_0 := hfr14 0; (try simp only [show (k62).sz = 3 from rfl, Nat.mul_one, Nat.add_zero] at hf14_0); have hx14_1 := hcc14 1 _ rfl; (try simp only [show (k62).sz = 3 from rfl, Nat.mul_one, Nat.add_zero] at hx14_1); have hf14_1 := hfr14 1; (try simp only [show (k62).sz = 3 from rfl, Nat.mul_one, Nat.add_zero] at hf14_1); have hx14_2 := hcc14 2 _ rfl; (try simp only [show (k62).sz = 3 from rfl, Nat.mul_one, Nat.add_zero] at hx14_2); have hf14_2 := hfr14 2; (try simp only [show (k62).sz = 3 from rfl, Nat.mul_one, Nat.add_zero] at hf14_2); clear hcl14 hcc14 hfr14 hM14) | ((with_reducible refine gate_store (t := 62) (p := 14) rfl ?_); refine store_event (t := 62) (p := 14) (v := ?vo_w15) (w1 := (((w11.setCell ⟨go7, ((ji4) : Int).toNat * 3, none⟩ (.slice A1_0 l1_0.length c1_0)).setCell ⟨go7, ((ji4) : Int).toNat * 3 + 1, none⟩ (.slice A1_1 l1_1.length c1_1)).setCell ⟨go7, ((ji4) : Int).toNat * 3 + 2, none⟩ (.slice A1_2 l1_2.length c1_2))) ?hg ?ho ?hn ?hr ?_; (case ho => rfl); (case hg => rfl); (case hn => rfl); (case hr => first | (go_simp; done) | (go_simp; rfl)); intro w15 hw; have hg : w11.grownBy w15 (some go7) := (by rw [hw]; exact HP14.2); have hp_ : Kd.N k62 62 w15 w.heap.size (fun k_ => ((P0_ k_ ∨ P1_0_ k_ ∨ P1_1_ k_ ∨ P1_2_ k_) ∨ w.heap.size ≤ k_) ∧ k_ ≠ gb227) (.slice (some ⟨go7, 0, none⟩) y231.length co12) y234 := (by rw [hw, Ny234.out]; exact HP14.1); clear HP14; have n0_ := aS (Kd.V_afterv (v := (.slice (some ⟨go7, 0, none⟩) y231.length co12)) (v1 := (.slice (some ⟨go7, 0, none⟩) y231.length co12)) (ok := (fun k_ => ((P0_ k_ ∨ P1_0_ k_ ∨ P1_1_ k_ ∨ P1_2_ k_) ∨ w.heap.size ≤ k_) ∧ k_ ≠ gb227)) (vv HO0.out) hg (.inl rfl)); have n1_ := aS (Kd.V_afterv (v := (.slice (some ⟨go7, 0, none⟩) y231.length co12)) (v1 := (.slice (some ⟨go7, 0, none⟩) y231.length co12)) (ok := (fun k_ => ((P0_ k_ ∨ P1_0_ k_ ∨ P1_1_ k_ ∨ P1_2_ k_) ∨ w.heap.size ≤ k_) ∧ k_ ≠ gb227)) (vv HO1_0.out) hg (.inl rfl)); have n2_ := aS (Kd.V_afterv (v := (.slice (some ⟨go7, 0, none⟩) y231.length co12)) (v1 := (.slice (some ⟨go7, 0, none⟩) y231.length co12)) (ok := (fun k_ => ((P0_ k_ ∨ P1_0_ k_ ∨ P1_1_ k_ ∨ P1_2_ k_) ∨ w.heap.size ≤ k_) ∧ k_ ≠ gb227)) (vv HO1_1.out) hg (.inl rfl)); have n3_ := aS (Kd.V_afterv (v := (.slice (some ⟨go7, 0, none⟩) y231.length co12)) (v1 := (.slice (some ⟨go7, 0, none⟩) y231.length co12)) (ok := (fun k_ => ((P0_ k_ ∨ P1_0_ k_ ∨ P1_1_ k_ ∨ P1_2_ k_) ∨ w.heap.size ≤ k_) ∧ k_ ≠ gb227)) (vv HO1_2.out) hg (.inl rfl)); have n4_ := aS (blk_grown (g := gb227) (o := .cells #[.slice A1_0 l1_0.length c1_0, .slice A1_1 l1_1.length c1_1, .slice A1_2 l1_2.length c1_2] 62 (0, 0)) (kk BK227.out) hg (Kd.N_away HO233.out (fun _ hk => hk.2))); have n5_ := aS (hp_); have n6_ := aS ((by rw [hw]; exact below_set (below_set (below_set (HB.out) GB7.out) GB7.out) GB7.out : Below w.heap.size w w15)); clear HO0; clear HO1_0; clear HO1_1; clear HO1_2; clear BK227; clear HO233; clear HB; have HO0 := n0_; have HO1_0 := n1_; have HO1_1 := n2_; have HO1_2 := n3_; have BK227 := n4_; have HO233 := n5_; have HB := n6_; clear n0_ n1_ n2_ n3_ n4_ n5_ n6_; clear hg hw hp_))
 go_ret
 exact ⟨_, by first | rfl | (simp [errW_none, errW_some] <;> rfl) | (simp only [← hji4]; first | rfl | (simp [errW_none, errW_some] <;> rfl)) | (simp [*, errW_none, errW_some] <;> rfl), by (with_reducible repeat (first | apply Kd.N_alloc | apply Kd.N_drewN | apply Kd.N_drew)); exact Kd.N_mono HO233.out (fun _ hk => hk.1), by repeat (first | (with_reducible first | exact HB.out | apply below_alloc | apply pw_below_drewN | apply below_drew1 | refine below_set ?_ GE227.out) | exact HB.out)⟩ }
 {
 rw [if_neg c6] at H
 exact absurd H (by simp) } }
 {
 rw [if_neg c5] at H
 exact absurd H (by simp) } }
 {
 rw [if_neg c3] at H
 exact absurd H (by simp) }

end Go.Proofs.Ytfojpobblebigaa.P
namespace Go.Proofs.Ytfojpobblebigaa.P
open Go.RowKit Go.Proofs.YtfojpobblebigaaW.PrintWords Go.Proofs.YtfojpobblebigaaW.PrintLast Go.Proofs.YtfojpobblebigaaW.PrintMore
attribute [local go_sem] max2_int min2_int max_two min_two max_three min_three max_four min_four   -- for this text's walks alone
set_option linter.unusedVariables false
set_option linter.unusedSimpArgs false

/-! ### hallmootref13_Begin: function 20 -/
def hallmootref13_Begin.f (l0 : List (S62)) : Option ((List (S62))) := (some (([] : List (S62)) : List (S62))).bind fun y218 => (if y218.length + l0.length < 1954687338268 then ((some (y218 ++ l0 : List (S62))).bind fun y221 => (if y221.length < 1954687338268 then (some (y221 ++ [(⟨([] : List (S30)), ([] : List (S33)), ([] : List (S50))⟩ : S62)])) else (none))) else (none))
set_option maxHeartbeats 8000000 in
set_option maxRecDepth 100000 in
theorem hallmootref13_Begin.calls (P0_ : Nat → Prop) (A0 : Option Addr) (c0 : Nat) (l0 : List (S62)) (r : List (S62)) (w : World) (hs0 : Kd.V k62 62 w w.heap.size (fun k_ => P0_ k_) (.slice A0 l0.length c0) l0) (h : hallmootref13_Begin.f l0 = some r) : Calls Try.prog 20 #[.slice A0 l0.length c0] w fun e w' => ∃ v0_ : Value, e = .returned (v0_) ∧ Kd.N k62 62 w' w.heap.size (fun k_ => (P0_ k_ ∨ w.heap.size ≤ k_)) v0_ r ∧ Below w.heap.size w w' := by
 have hu62 := Try.underlying62
 have HO0 := aS (show Kd.V k62 62 w w.heap.size (fun k_ => (P0_ k_ ∨ w.heap.size ≤ k_)) (.slice A0 l0.length c0) l0 from Kd.V_mono hs0 (fun k_ hk => .inl hk))
 have HB := aS (Below.refl w.heap.size w)
 have H : ((some (([] : List (S62)) : List (S62))).bind fun y218 => (if y218.length + l0.length < 1954687338268 then ((some (y218 ++ l0 : List (S62))).bind fun y221 => (if y221.length < 1954687338268 then (some (y221 ++ [(⟨([] : List (S30)), ([] : List (S33)), ([] : List (S50))⟩ : S62)])) else (none))) else (none))) = some r := h
 clear h
 obtain ⟨y218, hy218⟩ : ∃ y_ : List (S62), y_ = (([] : List (S62))) := ⟨_, rfl⟩
 replace H : (if y218.length + l0.length < 1954687338268 then ((some (y218 ++ l0 : List (S62))).bind fun y221 => (if y221.length < 1954687338268 then (some (y221 ++ [(⟨([] : List (S30)), ([] : List (S33)), ([] : List (S50))⟩ : S62)])) else (none))) else (none)) = some r := by first | (rw [hy218]; with_reducible exact H) | (have H2_ := (Option.bind_some _ _).symm.trans H; rw [hy218]; with_reducible exact H2_) | (have H2_ := (Option.bind_some _ _).symm.trans H; with_reducible exact H2_) | with_reducible exact H | (rw [hy218]; exact H) | exact H
 have Ny218 := aS hy218
 clear hy218
 by_cases c2 : y218.length + l0.length < 1954687338268
 {
 rw [if_pos c2] at H
 have LMc2 := aS c2
 clear c2
 obtain ⟨y221, hy221⟩ : ∃ y_ : List (S62), y_ = (y218 ++ l0) := ⟨_, rfl⟩
 replace H : (if y221.length < 1954687338268 then (some (y221 ++ [(⟨([] : List (S30)), ([] : List (S33)), ([] : List (S50))⟩ : S62)])) else (none)) = some r := by first | (rw [hy221]; with_reducible exact H) | (have H2_ := (Option.bind_some _ _).symm.trans H; rw [hy221]; with_reducible exact H2_) | (have H2_ := (Option.bind_some _ _).symm.trans H; with_reducible exact H2_) | with_reducible exact H | (rw [hy221]; exact H) | exact H
 have Ny221 := aS hy221
 clear hy221
 by_cases c3 : y221.length < 1954687338268
 {
 rw [if_pos c3] at H
 have LMc3 := aS c3
 clear c3
 obtain ⟨y224, hy224⟩ : ∃ y_ : List (S62), y_ = (y221 ++ [(⟨([] : List (S30)), ([] : List (S33)), ([] : List (S50))⟩ : S62)]) := ⟨_, rfl⟩
 replace H : (some y224) = some r := by first | (rw [hy224]; with_reducible exact H) | (have H2_ := (Option.bind_some _ _).symm.trans H; rw [hy224]; with_reducible exact H2_) | (have H2_ := (Option.bind_some _ _).symm.trans H; with_reducible exact H2_) | with_reducible exact H | (rw [hy224]; exact H) | exact H
 have Ny224 := aS hy224
 clear hy224
 obtain rfl := Option.some.inj H
 go_enter Try.func20, Try.ntmps20
 go_wp2_with (first | ((with_reducible refine gate_dst (N := 3) rfl ?_); refine Kd.N_lit k62 _ 62 ?hg (N' := 3) ?hd (xs := ([] : List (S62))) (inner := []) (ok := (fun k_ => (P0_ k_ ∨ w.heap.size ≤ k_))) (okp := (fun k_ => (P0_ k_ ∨ w.heap.size ≤ k_))) ?hr ?hp (fun _ hk => hk) ((show ∀ k_, w.heap.size ≤ k_ → (fun k_ => (P0_ k_ ∨ w.heap.size ≤ k_)) k_ from fun k_ hk => (.inr (Nat.le_trans bz hk))) _ (Nat.le_refl _)) (Below.refl _ _) (Nat.le_refl _) (by simp) ?_; (case hd => rfl); (case hg => rfl); (case hr => first | (go_simp; done) | (go_simp; rfl)); (case hp => exact (Reps.none _ _)); intro v219 w4 ho5 hb hg_ hnew_; clear hg_ hnew_; (first | rw [← Ny218.out] at ho5 | (simp only [Int.reduceToNat] at ho5; rw [← Ny218.out] at ho5)); have n0_ := aS (Kd.V_elder' (vv HO0.out) (Kd.N_base ho5) hb); have n1_ := aS (Kd.N_lower ho5 bz); have n2_ := aS (below_step bb hb); clear HO0; clear HB; have HO0 := n0_; have HO220 := n1_; have HB := n2_; clear n0_ n1_ n2_; clear hb ho5) | ((with_reducible refine gate_builtin (b := .append) (xs := #[.tmp 3, .tmp 4]) rfl ?_); at_builtin; refine Kd.N_append_rows k62 (w0 := w) w.heap.size rfl (.tmp 3) (.tmp 4) 22 62 (.agg #[(.slice none 0 0), (.slice none 0 0), (.slice none 0 0)]) 72 rfl Try.underlying22 info62 rfl (by decide) (by omega) v219 y218 l0 _ _ _ (fun k_ => (P0_ k_ ∨ w.heap.size ≤ k_)) (fun k_ => ((fun k_ => (P0_ k_ ∨ w.heap.size ≤ k_))) k_ ∧ some k_ ≠ (v219 : Value).ownBlock) rfl rfl ?aO ?aR (fun _ hk => hk) ?aF ?aB ?aS ?aL ?_; (case aR => exact (by skip; exact Kd.V_F (Kd.V_mono (ok' := (fun k_ => ((fun k_ => (P0_ k_ ∨ w.heap.size ≤ k_))) k_ ∧ some k_ ≠ (v219 : Value).ownBlock)) (HO0.out) (fun k_ hk => ⟨hk.1, hk.2⟩)))); (case aB => exact bb); (case aF => exact (fun k_ hk => (.inr (Nat.le_trans bz hk)))); (case aO => exact (by (with_reducible repeat (first | apply Kd.N_alloc | apply Kd.N_drewN | apply Kd.N_drew)); exact HO220.out)); (case aS => exact bz); (case aL => have := LMc2.out; omega); intro v222 w6 ho hb hg hat; rw [← Ny221.out] at ho; have n0_ := aS (Kd.V_afterv (ok := (fun k_ => (P0_ k_ ∨ w.heap.size ≤ k_))) (vv HO0.out) hg hat); have n1_ := aS (hb); have n2_ := aS (ho); clear HO0; clear HB; clear HO220; have HO0 := n0_; have HB := n1_; have HO223 := n2_; clear n0_ n1_ n2_; clear ho hb hg hat) | ((with_reducible refine gate_builtin (b := .append) (xs := #[.tmp 5, .tmp 7]) rfl ?_); at_builtin; refine Kd.N_append k62 (w0 := w) w.heap.size rfl (.tmp 5) (.tmp 7) 22 62 (.agg #[(.slice none 0 0), (.slice none 0 0), (.slice none 0 0)]) 72 rfl Try.underlying22 info62 rfl (by decide) (by omega) v222 y221 (⟨([] : List (S30)), ([] : List (S33)), ([] : List (S50))⟩ : S62) [.slice none 0 0, .slice none 0 0, .slice none 0 0] (fun k_ => (P0_ k_ ∨ w.heap.size ≤ k_)) (fun k_ => ((fun k_ => (P0_ k_ ∨ w.heap.size ≤ k_))) k_ ∧ some k_ ≠ (v222 : Value).ownBlock) rfl rfl ?aP (fun _ hk => hk) ?aF ?aO ?aB ?aS ?aL ?_; (case aP => exact (k62_mkF _ _ (⟨([] : List (S30)), ([] : List (S33)), ([] : List (S50))⟩ : S62) (Nat.le_refl _) (Kd.F_nil _ _ _) (Nat.le_refl _) (Kd.F_nil _ _ _) (Nat.le_refl _) (Kd.F_nil _ _ _))); (case aB => exact bb); (case aF => exact (fun k_ hk => (.inr (Nat.le_trans bz hk)))); (case aO => exact (by (with_reducible repeat (first | apply Kd.N_alloc | apply Kd.N_drewN | apply Kd.N_drew)); exact HO223.out)); (case aS => exact bz); (case aL => have := LMc3.out; omega); intro v225 w7 ho hb hg hat; rw [← Ny224.out] at ho; have n0_ := aS (Kd.V_afterv (ok := (fun k_ => (P0_ k_ ∨ w.heap.size ≤ k_))) (vv HO0.out) hg hat); have n1_ := aS (hb); have n2_ := aS (ho); clear HO0; clear HB; clear HO223; have HO0 := n0_; have HB := n1_; have HO226 := n2_; clear n0_ n1_ n2_; clear ho hb hg hat))
 go_ret
 exact ⟨_, by first | rfl | (simp [errW_none, errW_some] <;> rfl) | (simp [*, errW_none, errW_some] <;> rfl), by (with_reducible repeat (first | apply Kd.N_alloc | apply Kd.N_drewN | apply Kd.N_drew)); exact HO226.out, by repeat (first | (with_reducible first | exact HB.out | apply below_alloc | apply pw_below_drewN | apply below_drew1) | exact HB.out)⟩ }
 {
 rw [if_neg c3] at H
 exact absurd H (by simp) } }
 {
 rw [if_neg c2] at H
 exact absurd H (by simp) }

end Go.Proofs.Ytfojpobblebigaa.P
namespace Go.Proofs.Ytfojpobblebigaa.P
open Go.RowKit Go.Proofs.YtfojpobblebigaaW.PrintWords Go.Proofs.YtfojpobblebigaaW.PrintLast Go.Proofs.YtfojpobblebigaaW.PrintMore
attribute [local go_sem] max2_int min2_int max_two min_two max_three min_three max_four min_four   -- for this text's walks alone
set_option linter.unusedVariables false
set_option linter.unusedSimpArgs false

/-! ### hallmootref13_Find: function 18 -/
mutual
def hallmootref13_Find.l0 : Nat → List (S62) → Int → Int → Option (Int × Int × Int)
  | 0, _, _, _ => none
  | k + 1, x0, x1, x7 => if x7 ≥ 0 then (hallmootref13_Find.l1 k x0 x1 x7 0) else (hallmootref13_Find.l2 k x0 x1 (wrap64 ((x0.length : Int) - 1)))
def hallmootref13_Find.l1 : Nat → List (S62) → Int → Int → Int → Option (Int × Int × Int)
  | 0, _, _, _, _ => none
  | k + 1, x0, x1, x7, x8 => if 0 ≤ x7 then (if x7 < (x0.length : Int) then (if x8 < (((rd_T62 x0 x7).f1).length : Int) then (if 0 ≤ x8 then (if ((rd_T33 ((rd_T62 x0 x7).f1) x8).f0) = x1 then (some ((rd_T33 ((rd_T62 x0 x7).f1) x8).f1, 0, 1)) else (hallmootref13_Find.l1 k x0 x1 x7 (wrap64 (x8 + 1)))) else (none)) else (hallmootref13_Find.l0 k x0 x1 (wrap64 (x7 - 1)))) else (none)) else (none)
def hallmootref13_Find.l2 : Nat → List (S62) → Int → Int → Option (Int × Int × Int)
  | 0, _, _, _ => none
  | k + 1, x0, x1, x9 => if x9 ≥ 0 then (hallmootref13_Find.l3 k x0 x1 x9 0) else (some (0, 0, 0))
def hallmootref13_Find.l3 : Nat → List (S62) → Int → Int → Int → Option (Int × Int × Int)
  | 0, _, _, _, _ => none
  | k + 1, x0, x1, x9, x10 => if 0 ≤ x9 then (if x9 < (x0.length : Int) then (if x10 < (((rd_T62 x0 x9).f0).length : Int) then (if 0 ≤ x10 then (if ((rd_T30 ((rd_T62 x0 x9).f0) x10).f0) = x1 then (some ((rd_T30 ((rd_T62 x0 x9).f0) x10).f2, (rd_T30 ((rd_T62 x0 x9).f0) x10).f1, 2)) else (hallmootref13_Find.l3 k x0 x1 x9 (wrap64 (x10 + 1)))) else (none)) else (hallmootref13_Find.l2 k x0 x1 (wrap64 (x9 - 1)))) else (none)) else (none)
end
def hallmootref13_Find.f (k : Nat) (l0 : List (S62)) (a1 : Int) : Option (Int × Int × Int) := hallmootref13_Find.l0 k l0 a1 (wrap64 ((l0.length : Int) - 1))
theorem hallmootref13_Find.mono_l : ∀ k, (∀ y0 y1 y2, LeO (hallmootref13_Find.l0 k y0 y1 y2) (hallmootref13_Find.l0 (k + 1) y0 y1 y2)) ∧ (∀ y0 y1 y2 y3, LeO (hallmootref13_Find.l1 k y0 y1 y2 y3) (hallmootref13_Find.l1 (k + 1) y0 y1 y2 y3)) ∧ (∀ y0 y1 y2, LeO (hallmootref13_Find.l2 k y0 y1 y2) (hallmootref13_Find.l2 (k + 1) y0 y1 y2)) ∧ (∀ y0 y1 y2 y3, LeO (hallmootref13_Find.l3 k y0 y1 y2 y3) (hallmootref13_Find.l3 (k + 1) y0 y1 y2 y3))
  | 0 => ⟨fun _ _ _ r h => by simp [hallmootref13_Find.l0] at h, fun _ _ _ _ r h => by simp [hallmootref13_Find.l1] at h, fun _ _ _ r h => by simp [hallmootref13_Find.l2] at h, fun _ _ _ _ r h => by simp [hallmootref13_Find.l3] at h⟩
  | k + 1 => by
    obtain ⟨ih0, ih1, ih2, ih3⟩ := hallmootref13_Find.mono_l k
    refine ⟨?_, ?_, ?_, ?_⟩
    · intro y0 y1 y2
      unfold hallmootref13_Find.l0
      repeat' first
      | (with_reducible exact ih0 _ _ _)
      | (with_reducible exact ih1 _ _ _ _)
      | (with_reducible exact ih2 _ _ _)
      | (with_reducible exact ih3 _ _ _ _)
      | (with_reducible exact LeO.refl _)
      | (with_reducible exact LeO.none _)
      | (with_reducible refine LeO.ite ?_ ?_)
      | (with_reducible refine LeO.bind ?_ (fun _ => ?_))
      | exact ih0 _ _ _
      | exact ih1 _ _ _ _
      | exact ih2 _ _ _
      | exact ih3 _ _ _ _
      | exact LeO.none _
      | refine LeO.ite ?_ ?_
      | refine LeO.bind ?_ (fun _ => ?_)
    · intro y0 y1 y2 y3
      unfold hallmootref13_Find.l1
      repeat' first
      | (with_reducible exact ih0 _ _ _)
      | (with_reducible exact ih1 _ _ _ _)
      | (with_reducible exact ih2 _ _ _)
      | (with_reducible exact ih3 _ _ _ _)
      | (with_reducible exact LeO.refl _)
      | (with_reducible exact LeO.none _)
      | (with_reducible refine LeO.ite ?_ ?_)
      | (with_reducible refine LeO.bind ?_ (fun _ => ?_))
      | exact ih0 _ _ _
      | exact ih1 _ _ _ _
      | exact ih2 _ _ _
      | exact ih3 _ _ _ _
      | exact LeO.none _
      | refine LeO.ite ?_ ?_
      | refine LeO.bind ?_ (fun _ => ?_)
    · intro y0 y1 y2
      unfold hallmootref13_Find.l2
      repeat' first
      | (with_reducible exact ih0 _ _ _)
      | (with_reducible exact ih1 _ _ _ _)
      | (with_reducible exact ih2 _ _ _)
      | (with_reducible exact ih3 _ _ _ _)
      | (with_reducible exact LeO.refl _)
      | (with_reducible exact LeO.none _)
      | (with_reducible refine LeO.ite ?_ ?_)
      | (with_reducible refine LeO.bind ?_ (fun _ => ?_))
      | exact ih0 _ _ _
      | exact ih1 _ _ _ _
      | exact ih2 _ _ _
      | exact ih3 _ _ _ _
      | exact LeO.none _
      | refine LeO.ite ?_ ?_
      | refine LeO.bind ?_ (fun _ => ?_)
    · intro y0 y1 y2 y3
      unfold hallmootref13_Find.l3
      repeat' first
      | (with_reducible exact ih0 _ _ _)
      | (with_reducible exact ih1 _ _ _ _)
      | (with_reducible exact ih2 _ _ _)
      | (with_reducible exact ih3 _ _ _ _)
      | (with_reducible exact LeO.refl _)
      | (with_reducible exact LeO.none _)
      | (with_reducible refine LeO.ite ?_ ?_)
      | (with_reducible refine LeO.bind ?_ (fun _ => ?_))
      | exact ih0 _ _ _
      | exact ih1 _ _ _ _
      | exact ih2 _ _ _
      | exact ih3 _ _ _ _
      | exact LeO.none _
      | refine LeO.ite ?_ ?_
      | refine LeO.bind ?_ (fun _ => ?_)
theorem hallmootref13_Find.mono : ∀ a0 a1 k, LeO (hallmootref13_Find.f k a0 a1) (hallmootref13_Find.f (k + 1) a0 a1) := by
 intro a0 a1 k
 obtain ⟨ih0, ih1, ih2, ih3⟩ := hallmootref13_Find.mono_l k
 unfold hallmootref13_Find.f
 repeat' first | (with_reducible exact ih0 _ _ _) | (with_reducible exact ih1 _ _ _ _) | (with_reducible exact ih2 _ _ _) | (with_reducible exact ih3 _ _ _ _) | (with_reducible exact LeO.refl _) | (with_reducible exact LeO.none _) | (with_reducible refine LeO.ite ?_ ?_) | (with_reducible refine LeO.bind ?_ (fun _ => ?_)) | exact ih0 _ _ _ | exact ih1 _ _ _ _ | exact ih2 _ _ _ | exact ih3 _ _ _ _ | exact LeO.none _ | refine LeO.ite ?_ ?_ | refine LeO.bind ?_ (fun _ => ?_)
set_option maxHeartbeats 8000000 in
set_option maxRecDepth 100000 in
theorem hallmootref13_Find.calls (k : Nat) (A0 : Option Addr) (c0 : Nat) (l0 : List (S62)) (a1 : Int) (r1 : Int) (r2 : Int) (r3 : Int) (w : World) (hr0 : Kd.C k62 w A0 l0.length l0) (hc0 : l0.length ≤ c0) (h : hallmootref13_Find.f k l0 a1 = some (r1, r2, r3)) : Calls Try.prog 18 #[.slice A0 l0.length c0, .int .i64 a1] w fun e w' => e = .returned (.tuple #[.int .i64 r1, .int .i64 r2, .int .i64 r3]) ∧ Drawn0 w w' := by
 have HR0 := aS hr0
 have HC0 := aS hc0
 clear hr0 hc0
 have H : (hallmootref13_Find.l0 k l0 a1 (wrap64 ((l0.length : Int) - 1))) = some (r1, r2, r3) := h
 clear h
 have H' := aS H
 clear H
 go_enter Try.func18, Try.ntmps18
 go_wp2
 repeat (go_quiet (fail); try go_wp2)
 go_loopg [7] k (fun kq v7 w' => ∃ (x7_1 : Int), v7 = .int .i64 x7_1 ∧ Aside0 (hallmootref13_Find.l0 kq l0 a1 x7_1 = some (r1, r2, r3)) ∧ Aside0 (kq ≤ k) ∧ Drawn0 w w')
 case atStart => exact ⟨(wrap64 ((l0.length : Int) - 1)), (by first | rfl | (simp; done) | (simp [*]; done)), H', ⟨Nat.le_refl _⟩, by repeat (first | exact Drawn0.refl _ | apply Drawn0.step)⟩
 case round =>
  clear H'
  try clear c1
  try clear p2
  obtain ⟨x7_1, rfl, HA, HK1, ⟨m1, rfl⟩⟩ := hrel
  cases gk with
  | zero => exact absurd HA.out (by simp [hallmootref13_Find.l0])
  | succ k1 => {
  have H := HA.out
  clear HA
  simp only [hallmootref13_Find.l0] at H
  by_cases c3 : x7_1 ≥ 0
  {
  rw [if_pos c3] at H
  have c3b0 : decide (0 ≤ x7_1) = true := decide_eq_true c3
  clear c3
  have H' := aS H
  clear H
  go_wp2
  repeat (go_quiet (fail); try go_wp2)
  go_loopg [8] k1 (fun kq v8 w' => ∃ (x8_2 : Int), v8 = .int .i64 x8_2 ∧ Aside0 (hallmootref13_Find.l1 kq l0 a1 x7_1 x8_2 = some (r1, r2, r3)) ∧ Aside0 (kq ≤ k1) ∧ Drawn0 w w')
  case atStart => exact ⟨(0), (by first | rfl | (simp; done) | (simp [*]; done)), H', ⟨Nat.le_refl _⟩, by repeat (first | exact Drawn0.refl _ | apply Drawn0.step)⟩
  case round =>
   clear H'
   try clear c1
   try clear p2
   try clear c3
   try clear c3b0
   try clear p2
   obtain ⟨x8_2, rfl, HA, HK2, ⟨m2, rfl⟩⟩ := hrel
   cases gk with
   | zero => exact absurd HA.out (by simp [hallmootref13_Find.l1])
   | succ k2 => {
   have H := HA.out
   clear HA
   simp only [hallmootref13_Find.l1] at H
   by_cases c4 : 0 ≤ x7_1
   {
   rw [if_pos c4] at H
   have c4b0 : decide (0 ≤ x7_1) = true := decide_eq_true c4
   clear c4
   by_cases c5 : x7_1 < (l0.length : Int)
   {
   rw [if_pos c5] at H
   have c5b0 : decide (x7_1 < (l0.length : Int)) = true := decide_eq_true c5
   clear c5
   by_cases c6 : x8_2 < (((rd_T62 l0 x7_1).f1).length : Int)
   {
   rw [if_pos c6] at H
   have c6b0 : decide (x8_2 < (((rd_T62 l0 x7_1).f1).length : Int)) = true := decide_eq_true c6
   clear c6
   by_cases c7 : 0 ≤ x8_2
   {
   rw [if_pos c7] at H
   have c7b0 : decide (0 ≤ x8_2) = true := decide_eq_true c7
   clear c7
   by_cases c8 : ((rd_T33 ((rd_T62 l0 x7_1).f1) x8_2).f0) = a1
   {
   rw [if_pos c8] at H
   have c8b0 : (((rd_T33 ((rd_T62 l0 x7_1).f1) x8_2).f0) == a1) = true := beq_iff_eq.mpr c8
   have c8b1 : (((rd_T33 ((rd_T62 l0 x7_1).f1) x8_2).f0) != a1) = false := bne_eq_false_iff_eq.mpr c8
   clear c8
   simp only [Option.some.injEq, Prod.mk.injEq] at H
   obtain ⟨rfl, rfl, rfl⟩ := H
   have p183 : 0 ≤ (x7_1 : Int) := dd
   have q183 : x7_1 < (l0.length : Int) := dd
   obtain ⟨ad183, A183_0, c183_0, A183_1, c183_1, A183_2, c183_2, e183, hx183_0, hx183_1, hx183_2, hl183_0, hi183_0, hl183_1, hi183_1, hl183_2, hi183_2⟩ := at_T62 HR0.out x7_1 p183 q183
   cases e183
   have HR183_0 := aS hi183_0
   have HC183_0 := aS hl183_0
   clear hi183_0 hl183_0
   have HR183_1 := aS hi183_1
   have HC183_1 := aS hl183_1
   clear hi183_1 hl183_1
   have HR183_2 := aS hi183_2
   have HC183_2 := aS hl183_2
   clear hi183_2 hl183_2
   replace p183 := eq_true p183
   replace q183 := eq_true q183
   have p184 : 0 ≤ (x7_1 : Int) := dd
   have q184 : x7_1 < (l0.length : Int) := dd
   obtain ⟨ad184, A184_0, c184_0, A184_1, c184_1, A184_2, c184_2, e184, hx184_0, hx184_1, hx184_2, hl184_0, hi184_0, hl184_1, hi184_1, hl184_2, hi184_2⟩ := at_T62 HR0.out x7_1 p184 q184
   obtain rfl : ad183 = ad184 := (by injection e184)
   have HR184_0 := aS hi184_0
   have HC184_0 := aS hl184_0
   clear hi184_0 hl184_0
   have HR184_1 := aS hi184_1
   have HC184_1 := aS hl184_1
   clear hi184_1 hl184_1
   have HR184_2 := aS hi184_2
   have HC184_2 := aS hl184_2
   clear hi184_2 hl184_2
   replace p184 := eq_true p184
   replace q184 := eq_true q184
   have ea_ := Option.some.inj (hx183_0.symm.trans hx184_0)
   injection ea_ with ea_ en_ ec_
   subst ea_
   subst ec_
   clear en_
   have ea_ := Option.some.inj (hx183_1.symm.trans hx184_1)
   injection ea_ with ea_ en_ ec_
   subst ea_
   subst ec_
   clear en_
   have ea_ := Option.some.inj (hx183_2.symm.trans hx184_2)
   injection ea_ with ea_ en_ ec_
   subst ea_
   subst ec_
   clear en_
   have p185 : 0 ≤ (x8_2 : Int) := dd
   have q185 : x8_2 < (((rd_T62 l0 x7_1).f1).length : Int) := dd
   obtain ⟨ad185, e185, hx185_0, hx185_1⟩ := at_T33 HR184_1.out x8_2 p185 q185
   cases e185
   replace p185 := eq_true p185
   replace q185 := eq_true q185
   have p186 : 0 ≤ (x7_1 : Int) := dd
   have q186 : x7_1 < (l0.length : Int) := dd
   obtain ⟨ad186, A186_0, c186_0, A186_1, c186_1, A186_2, c186_2, e186, hx186_0, hx186_1, hx186_2, hl186_0, hi186_0, hl186_1, hi186_1, hl186_2, hi186_2⟩ := at_T62 HR0.out x7_1 p186 q186
   obtain rfl : ad183 = ad186 := (by injection e186)
   have HR186_0 := aS hi186_0
   have HC186_0 := aS hl186_0
   clear hi186_0 hl186_0
   have HR186_1 := aS hi186_1
   have HC186_1 := aS hl186_1
   clear hi186_1 hl186_1
   have HR186_2 := aS hi186_2
   have HC186_2 := aS hl186_2
   clear hi186_2 hl186_2
   replace p186 := eq_true p186
   replace q186 := eq_true q186
   have ea_ := Option.some.inj (hx183_0.symm.trans hx186_0)
   injection ea_ with ea_ en_ ec_
   subst ea_
   subst ec_
   clear en_
   have ea_ := Option.some.inj (hx183_1.symm.trans hx186_1)
   injection ea_ with ea_ en_ ec_
   subst ea_
   subst ec_
   clear en_
   have ea_ := Option.some.inj (hx183_2.symm.trans hx186_2)
   injection ea_ with ea_ en_ ec_
   subst ea_
   subst ec_
   clear en_
   have p187 : 0 ≤ (x8_2 : Int) := dd
   have q187 : x8_2 < (((rd_T62 l0 x7_1).f1).length : Int) := dd
   obtain ⟨ad187, e187, hx187_0, hx187_1⟩ := at_T33 HR186_1.out x8_2 p187 q187
   cases e187
   replace p187 := eq_true p187
   replace q187 := eq_true q187
   go_wp2
   repeat (go_quiet (fail); try go_wp2)
   go_ret3
   exact ⟨by first | rfl | (simp; done) | (simp [*]; done), by repeat (first | exact Drawn0.refl _ | apply Drawn0.step)⟩ }
   {
   rw [if_neg c8] at H
   have c8b0 : (((rd_T33 ((rd_T62 l0 x7_1).f1) x8_2).f0) == a1) = false := beq_eq_false_iff_ne.mpr c8
   have c8b1 : (((rd_T33 ((rd_T62 l0 x7_1).f1) x8_2).f0) != a1) = true := bne_iff_ne.mpr c8
   have H' := aS H
   clear H
   have p183 : 0 ≤ (x7_1 : Int) := dd
   have q183 : x7_1 < (l0.length : Int) := dd
   obtain ⟨ad183, A183_0, c183_0, A183_1, c183_1, A183_2, c183_2, e183, hx183_0, hx183_1, hx183_2, hl183_0, hi183_0, hl183_1, hi183_1, hl183_2, hi183_2⟩ := at_T62 HR0.out x7_1 p183 q183
   cases e183
   have HR183_0 := aS hi183_0
   have HC183_0 := aS hl183_0
   clear hi183_0 hl183_0
   have HR183_1 := aS hi183_1
   have HC183_1 := aS hl183_1
   clear hi183_1 hl183_1
   have HR183_2 := aS hi183_2
   have HC183_2 := aS hl183_2
   clear hi183_2 hl183_2
   replace p183 := eq_true p183
   replace q183 := eq_true q183
   have p184 : 0 ≤ (x7_1 : Int) := dd
   have q184 : x7_1 < (l0.length : Int) := dd
   obtain ⟨ad184, A184_0, c184_0, A184_1, c184_1, A184_2, c184_2, e184, hx184_0, hx184_1, hx184_2, hl184_0, hi184_0, hl184_1, hi184_1, hl184_2, hi184_2⟩ := at_T62 HR0.out x7_1 p184 q184
   obtain rfl : ad183 = ad184 := (by injection e184)
   have HR184_0 := aS hi184_0
   have HC184_0 := aS hl184_0
   clear hi184_0 hl184_0
   have HR184_1 := aS hi184_1
   have HC184_1 := aS hl184_1
   clear hi184_1 hl184_1
   have HR184_2 := aS hi184_2
   have HC184_2 := aS hl184_2
   clear hi184_2 hl184_2
   replace p184 := eq_true p184
   replace q184 := eq_true q184
   have ea_ := Option.some.inj (hx183_0.symm.trans hx184_0)
   injection ea_ with ea_ en_ ec_
   subst ea_
   subst ec_
   clear en_
   have ea_ := Option.some.inj (hx183_1.symm.trans hx184_1)
   injection ea_ with ea_ en_ ec_
   subst ea_
   subst ec_
   clear en_
   have ea_ := Option.some.inj (hx183_2.symm.trans hx184_2)
   injection ea_ with ea_ en_ ec_
   subst ea_
   subst ec_
   clear en_
   have p185 : 0 ≤ (x8_2 : Int) := dd
   have q185 : x8_2 < (((rd_T62 l0 x7_1).f1).length : Int) := dd
   obtain ⟨ad185, e185, hx185_0, hx185_1⟩ := at_T33 HR184_1.out x8_2 p185 q185
   cases e185
   replace p185 := eq_true p185
   replace q185 := eq_true q185
   go_wp2
   repeat (go_quiet (fail); try go_wp2)
   go_roundg k2
   case measure => have := HK1.out; have := HK2.out; omega
   case rel => exact ⟨(wrap64 (x8_2 + 1)), (by first | rfl | (simp; done) | (simp [*]; done)), H', ⟨by have := HK1.out; have := HK2.out; omega⟩, by repeat (first | exact Drawn0.refl _ | apply Drawn0.step)⟩ } }
   {
   rw [if_neg c7] at H
   exact absurd H (by simp) } }
   {
   rw [if_neg c6] at H
   have c6b0 : decide (x8_2 < (((rd_T62 l0 x7_1).f1).length : Int)) = false := decide_eq_false c6
   clear c6
   have H' := aS H
   clear H
   have p183 : 0 ≤ (x7_1 : Int) := dd
   have q183 : x7_1 < (l0.length : Int) := dd
   obtain ⟨ad183, A183_0, c183_0, A183_1, c183_1, A183_2, c183_2, e183, hx183_0, hx183_1, hx183_2, hl183_0, hi183_0, hl183_1, hi183_1, hl183_2, hi183_2⟩ := at_T62 HR0.out x7_1 p183 q183
   cases e183
   have HR183_0 := aS hi183_0
   have HC183_0 := aS hl183_0
   clear hi183_0 hl183_0
   have HR183_1 := aS hi183_1
   have HC183_1 := aS hl183_1
   clear hi183_1 hl183_1
   have HR183_2 := aS hi183_2
   have HC183_2 := aS hl183_2
   clear hi183_2 hl183_2
   replace p183 := eq_true p183
   replace q183 := eq_true q183
   go_wp2
   repeat (go_quiet (fail); try go_wp2)
   go_roundg k2
   case measure => have := HK1.out; have := HK2.out; omega
   case rel => exact ⟨(wrap64 (x7_1 - 1)), (by first | rfl | (simp; done) | (simp [*]; done)), H', ⟨by have := HK1.out; have := HK2.out; omega⟩, by repeat (first | exact Drawn0.refl _ | apply Drawn0.step)⟩ } }
   {
   rw [if_neg c5] at H
   exact absurd H (by simp) } }
   {
   rw [if_neg c4] at H
   exact absurd H (by simp) } } }
  {
  rw [if_neg c3] at H
  have c3b0 : decide (0 ≤ x7_1) = false := decide_eq_false c3
  clear c3
  have H' := aS H
  clear H
  go_wp2
  repeat (go_quiet (fail); try go_wp2)
  go_loopg [9] k1 (fun kq v9 w' => ∃ (x9_2 : Int), v9 = .int .i64 x9_2 ∧ Aside0 (hallmootref13_Find.l2 kq l0 a1 x9_2 = some (r1, r2, r3)) ∧ Aside0 (kq ≤ k1) ∧ Drawn0 w w')
  case atStart => exact ⟨(wrap64 ((l0.length : Int) - 1)), (by first | rfl | (simp; done) | (simp [*]; done)), H', ⟨Nat.le_refl _⟩, by repeat (first | exact Drawn0.refl _ | apply Drawn0.step)⟩
  case round =>
   clear H'
   try clear c1
   try clear p1
   try clear q1
   try clear hx1
   try clear p2
   try clear c3
   try clear c3b0
   try clear c4
   try clear c4b0
   try clear c5
   try clear c5b0
   try clear c6
   try clear c6b0
   try clear p6
   try clear c7
   try clear c7b0
   try clear c8
   try clear c8b0
   try clear c8b1
   try clear hx183_0
   try clear hx183_1
   try clear hx183_2
   try clear hx184_0
   try clear hx184_1
   try clear hx184_2
   try clear hx185_0
   try clear hx185_1
   try clear hx186_0
   try clear hx186_1
   try clear hx186_2
   try clear hx187_0
   try clear hx187_1
   try clear p183
   try clear p184
   try clear p185
   try clear p186
   try clear p187
   try clear p2
   try clear q183
   try clear q184
   try clear q185
   try clear q186
   try clear q187
   obtain ⟨x9_2, rfl, HA, HK2, ⟨m2, rfl⟩⟩ := hrel
   cases gk with
   | zero => exact absurd HA.out (by simp [hallmootref13_Find.l2])
   | succ k2 => {
   have H := HA.out
   clear HA
   simp only [hallmootref13_Find.l2] at H
   by_cases c9 : x9_2 ≥ 0
   {
   rw [if_pos c9] at H
   have c9b0 : decide (0 ≤ x9_2) = true := decide_eq_true c9
   clear c9
   have H' := aS H
   clear H
   go_wp2
   repeat (go_quiet (fail); try go_wp2)
   go_loopg [10] k2 (fun kq v10 w' => ∃ (x10_3 : Int), v10 = .int .i64 x10_3 ∧ Aside0 (hallmootref13_Find.l3 kq l0 a1 x9_2 x10_3 = some (r1, r2, r3)) ∧ Aside0 (kq ≤ k2) ∧ Drawn0 w w')
   case atStart => exact ⟨(0), (by first | rfl | (simp; done) | (simp [*]; done)), H', ⟨Nat.le_refl _⟩, by repeat (first | exact Drawn0.refl _ | apply Drawn0.step)⟩
   case round =>
    clear H'
    try clear c1
    try clear p1
    try clear q1
    try clear hx1
    try clear p2
    try clear c3
    try clear c3b0
    try clear c4
    try clear c4b0
    try clear c5
    try clear c5b0
    try clear c6
    try clear c6b0
    try clear p6
    try clear c7
    try clear c7b0
    try clear c8
    try clear c8b0
    try clear c8b1
    try clear c9
    try clear c9b0
    try clear hx183_0
    try clear hx183_1
    try clear hx183_2
    try clear hx184_0
    try clear hx184_1
    try clear hx184_2
    try clear hx185_0
    try clear hx185_1
    try clear hx186_0
    try clear hx186_1
    try clear hx186_2
    try clear hx187_0
    try clear hx187_1
    try clear p1
    try clear p183
    try clear p184
    try clear p185
    try clear p186
    try clear p187
    try clear p2
    try clear p6
    try clear q1
    try clear q183
    try clear q184
    try clear q185
    try clear q186
    try clear q187
    obtain ⟨x10_3, rfl, HA, HK3, ⟨m3, rfl⟩⟩ := hrel
    cases gk with
    | zero => exact absurd HA.out (by simp [hallmootref13_Find.l3])
    | succ k3 => {
    have H := HA.out
    clear HA
    simp only [hallmootref13_Find.l3] at H
    by_cases c10 : 0 ≤ x9_2
    {
    rw [if_pos c10] at H
    have c10b0 : decide (0 ≤ x9_2) = true := decide_eq_true c10
    clear c10
    by_cases c11 : x9_2 < (l0.length : Int)
    {
    rw [if_pos c11] at H
    have c11b0 : decide (x9_2 < (l0.length : Int)) = true := decide_eq_true c11
    clear c11
    by_cases c12 : x10_3 < (((rd_T62 l0 x9_2).f0).length : Int)
    {
    rw [if_pos c12] at H
    have c12b0 : decide (x10_3 < (((rd_T62 l0 x9_2).f0).length : Int)) = true := decide_eq_true c12
    clear c12
    by_cases c13 : 0 ≤ x10_3
    {
    rw [if_pos c13] at H
    have c13b0 : decide (0 ≤ x10_3) = true := decide_eq_true c13
    clear c13
    by_cases c14 : ((rd_T30 ((rd_T62 l0 x9_2).f0) x10_3).f0) = a1
    {
    rw [if_pos c14] at H
    have c14b0 : (((rd_T30 ((rd_T62 l0 x9_2).f0) x10_3).f0) == a1) = true := beq_iff_eq.mpr c14
    have c14b1 : (((rd_T30 ((rd_T62 l0 x9_2).f0) x10_3).f0) != a1) = false := bne_eq_false_iff_eq.mpr c14
    clear c14
    simp only [Option.some.injEq, Prod.mk.injEq] at H
    obtain ⟨rfl, rfl, rfl⟩ := H
    have p188 : 0 ≤ (x9_2 : Int) := dd
    have q188 : x9_2 < (l0.length : Int) := dd
    obtain ⟨ad188, A188_0, c188_0, A188_1, c188_1, A188_2, c188_2, e188, hx188_0, hx188_1, hx188_2, hl188_0, hi188_0, hl188_1, hi188_1, hl188_2, hi188_2⟩ := at_T62 HR0.out x9_2 p188 q188
    cases e188
    have HR188_0 := aS hi188_0
    have HC188_0 := aS hl188_0
    clear hi188_0 hl188_0
    have HR188_1 := aS hi188_1
    have HC188_1 := aS hl188_1
    clear hi188_1 hl188_1
    have HR188_2 := aS hi188_2
    have HC188_2 := aS hl188_2
    clear hi188_2 hl188_2
    replace p188 := eq_true p188
    replace q188 := eq_true q188
    have p189 : 0 ≤ (x9_2 : Int) := dd
    have q189 : x9_2 < (l0.length : Int) := dd
    obtain ⟨ad189, A189_0, c189_0, A189_1, c189_1, A189_2, c189_2, e189, hx189_0, hx189_1, hx189_2, hl189_0, hi189_0, hl189_1, hi189_1, hl189_2, hi189_2⟩ := at_T62 HR0.out x9_2 p189 q189
    obtain rfl : ad188 = ad189 := (by injection e189)
    have HR189_0 := aS hi189_0
    have HC189_0 := aS hl189_0
    clear hi189_0 hl189_0
    have HR189_1 := aS hi189_1
    have HC189_1 := aS hl189_1
    clear hi189_1 hl189_1
    have HR189_2 := aS hi189_2
    have HC189_2 := aS hl189_2
    clear hi189_2 hl189_2
    replace p189 := eq_true p189
    replace q189 := eq_true q189
    have ea_ := Option.some.inj (hx188_0.symm.trans hx189_0)
    injection ea_ with ea_ en_ ec_
    subst ea_
    subst ec_
    clear en_
    have ea_ := Option.some.inj (hx188_1.symm.trans hx189_1)
    injection ea_ with ea_ en_ ec_
    subst ea_
    subst ec_
    clear en_
    have ea_ := Option.some.inj (hx188_2.symm.trans hx189_2)
    injection ea_ with ea_ en_ ec_
    subst ea_
    subst ec_
    clear en_
    have p190 : 0 ≤ (x10_3 : Int) := dd
    have q190 : x10_3 < (((rd_T62 l0 x9_2).f0).length : Int) := dd
    obtain ⟨ad190, e190, hx190_0, hx190_1, hx190_2⟩ := at_T30 HR189_0.out x10_3 p190 q190
    cases e190
    replace p190 := eq_true p190
    replace q190 := eq_true q190
    have p191 : 0 ≤ (x9_2 : Int) := dd
    have q191 : x9_2 < (l0.length : Int) := dd
    obtain ⟨ad191, A191_0, c191_0, A191_1, c191_1, A191_2, c191_2, e191, hx191_0, hx191_1, hx191_2, hl191_0, hi191_0, hl191_1, hi191_1, hl191_2, hi191_2⟩ := at_T62 HR0.out x9_2 p191 q191
    obtain rfl : ad188 = ad191 := (by injection e191)
    have HR191_0 := aS hi191_0
    have HC191_0 := aS hl191_0
    clear hi191_0 hl191_0
    have HR191_1 := aS hi191_1
    have HC191_1 := aS hl191_1
    clear hi191_1 hl191_1
    have HR191_2 := aS hi191_2
    have HC191_2 := aS hl191_2
    clear hi191_2 hl191_2
    replace p191 := eq_true p191
    replace q191 := eq_true q191
    have ea_ := Option.some.inj (hx188_0.symm.trans hx191_0)
    injection ea_ with ea_ en_ ec_
    subst ea_
    subst ec_
    clear en_
    have ea_ := Option.some.inj (hx188_1.symm.trans hx191_1)
    injection ea_ with ea_ en_ ec_
    subst ea_
    subst ec_
    clear en_
    have ea_ := Option.some.inj (hx188_2.symm.trans hx191_2)
    injection ea_ with ea_ en_ ec_
    subst ea_
    subst ec_
    clear en_
    have p192 : 0 ≤ (x10_3 : Int) := dd
    have q192 : x10_3 < (((rd_T62 l0 x9_2).f0).length : Int) := dd
    obtain ⟨ad192, e192, hx192_0, hx192_1, hx192_2⟩ := at_T30 HR191_0.out x10_3 p192 q192
    cases e192
    replace p192 := eq_true p192
    replace q192 := eq_true q192
    have p193 : 0 ≤ (x9_2 : Int) := dd
    have q193 : x9_2 < (l0.length : Int) := dd
    obtain ⟨ad193, A193_0, c193_0, A193_1, c193_1, A193_2, c193_2, e193, hx193_0, hx193_1, hx193_2, hl193_0, hi193_0, hl193_1, hi193_1, hl193_2, hi193_2⟩ := at_T62 HR0.out x9_2 p193 q193
    obtain rfl : ad188 = ad193 := (by injection e193)
    have HR193_0 := aS hi193_0
    have HC193_0 := aS hl193_0
    clear hi193_0 hl193_0
    have HR193_1 := aS hi193_1
    have HC193_1 := aS hl193_1
    clear hi193_1 hl193_1
    have HR193_2 := aS hi193_2
    have HC193_2 := aS hl193_2
    clear hi193_2 hl193_2
    replace p193 := eq_true p193
    replace q193 := eq_true q193
    have ea_ := Option.some.inj (hx188_0.symm.trans hx193_0)
    injection ea_ with ea_ en_ ec_
    subst ea_
    subst ec_
    clear en_
    have ea_ := Option.some.inj (hx188_1.symm.trans hx193_1)
    injection ea_ with ea_ en_ ec_
    subst ea_
    subst ec_
    clear en_
    have ea_ := Option.some.inj (hx188_2.symm.trans hx193_2)
    injection ea_ with ea_ en_ ec_
    subst ea_
    subst ec_
    clear en_
    have p194 : 0 ≤ (x10_3 : Int) := dd
    have q194 : x10_3 < (((rd_T62 l0 x9_2).f0).length : Int) := dd
    obtain ⟨ad194, e194, hx194_0, hx194_1, hx194_2⟩ := at_T30 HR193_0.out x10_3 p194 q194
    cases e194
    replace p194 := eq_true p194
    replace q194 := eq_true q194
    go_wp2
    repeat (go_quiet (fail); try go_wp2)
    go_ret3
    exact ⟨by first | rfl | (simp; done) | (simp [*]; done), by repeat (first | exact Drawn0.refl _ | apply Drawn0.step)⟩ }
    {
    rw [if_neg c14] at H
    have c14b0 : (((rd_T30 ((rd_T62 l0 x9_2).f0) x10_3).f0) == a1) = false := beq_eq_false_iff_ne.mpr c14
    have c14b1 : (((rd_T30 ((rd_T62 l0 x9_2).f0) x10_3).f0) != a1) = true := bne_iff_ne.mpr c14
    have H' := aS H
    clear H
    have p188 : 0 ≤ (x9_2 : Int) := dd
    have q188 : x9_2 < (l0.length : Int) := dd
    obtain ⟨ad188, A188_0, c188_0, A188_1, c188_1, A188_2, c188_2, e188, hx188_0, hx188_1, hx188_2, hl188_0, hi188_0, hl188_1, hi188_1, hl188_2, hi188_2⟩ := at_T62 HR0.out x9_2 p188 q188
    cases e188
    have HR188_0 := aS hi188_0
    have HC188_0 := aS hl188_0
    clear hi188_0 hl188_0
    have HR188_1 := aS hi188_1
    have HC188_1 := aS hl188_1
    clear hi188_1 hl188_1
    have HR188_2 := aS hi188_2
    have HC188_2 := aS hl188_2
    clear hi188_2 hl188_2
    replace p188 := eq_true p188
    replace q188 := eq_true q188
    have p189 : 0 ≤ (x9_2 : Int) := dd
    have q189 : x9_2 < (l0.length : Int) := dd
    obtain ⟨ad189, A189_0, c189_0, A189_1, c189_1, A189_2, c189_2, e189, hx189_0, hx189_1, hx189_2, hl189_0, hi189_0, hl189_1, hi189_1, hl189_2, hi189_2⟩ := at_T62 HR0.out x9_2 p189 q189
    obtain rfl : ad188 = ad189 := (by injection e189)
    have HR189_0 := aS hi189_0
    have HC189_0 := aS hl189_0
    clear hi189_0 hl189_0
    have HR189_1 := aS hi189_1
    have HC189_1 := aS hl189_1
    clear hi189_1 hl189_1
    have HR189_2 := aS hi189_2
    have HC189_2 := aS hl189_2
    clear hi189_2 hl189_2
    replace p189 := eq_true p189
    replace q189 := eq_true q189
    have ea_ := Option.some.inj (hx188_0.symm.trans hx189_0)
    injection ea_ with ea_ en_ ec_
    subst ea_
    subst ec_
    clear en_
    have ea_ := Option.some.inj (hx188_1.symm.trans hx189_1)
    injection ea_ with ea_ en_ ec_
    subst ea_
    subst ec_
    clear en_
    have ea_ := Option.some.inj (hx188_2.symm.trans hx189_2)
    injection ea_ with ea_ en_ ec_
    subst ea_
    subst ec_
    clear en_
    have p190 : 0 ≤ (x10_3 : Int) := dd
    have q190 : x10_3 < (((rd_T62 l0 x9_2).f0).length : Int) := dd
    obtain ⟨ad190, e190, hx190_0, hx190_1, hx190_2⟩ := at_T30 HR189_0.out x10_3 p190 q190
    cases e190
    replace p190 := eq_true p190
    replace q190 := eq_true q190
    go_wp2
    repeat (go_quiet (fail); try go_wp2)
    go_roundg k3
    case measure => have := HK1.out; have := HK2.out; have := HK3.out; omega
    case rel => exact ⟨(wrap64 (x10_3 + 1)), (by first | rfl | (simp; done) | (simp [*]; done)), H', ⟨by have := HK1.out; have := HK2.out; have := HK3.out; omega⟩, by repeat (first | exact Drawn0.refl _ | apply Drawn0.step)⟩ } }
    {
    rw [if_neg c13] at H
    exact absurd H (by simp) } }
    {
    rw [if_neg c12] at H
    have c12b0 : decide (x10_3 < (((rd_T62 l0 x9_2).f0).length : Int)) = false := decide_eq_false c12
    clear c12
    have H' := aS H
    clear H
    have p188 : 0 ≤ (x9_2 : Int) := dd
    have q188 : x9_2 < (l0.length : Int) := dd
    obtain ⟨ad188, A188_0, c188_0, A188_1, c188_1, A188_2, c188_2, e188, hx188_0, hx188_1, hx188_2, hl188_0, hi188_0, hl188_1, hi188_1, hl188_2, hi188_2⟩ := at_T62 HR0.out x9_2 p188 q188
    cases e188
    have HR188_0 := aS hi188_0
    have HC188_0 := aS hl188_0
    clear hi188_0 hl188_0
    have HR188_1 := aS hi188_1
    have HC188_1 := aS hl188_1
    clear hi188_1 hl188_1
    have HR188_2 := aS hi188_2
    have HC188_2 := aS hl188_2
    clear hi188_2 hl188_2
    replace p188 := eq_true p188
    replace q188 := eq_true q188
    go_wp2
    repeat (go_quiet (fail); try go_wp2)
    go_roundg k3
    case measure => have := HK1.out; have := HK2.out; have := HK3.out; omega
    case rel => exact ⟨(wrap64 (x9_2 - 1)), (by first | rfl | (simp; done) | (simp [*]; done)), H', ⟨by have := HK1.out; have := HK2.out; have := HK3.out; omega⟩, by repeat (first | exact Drawn0.refl _ | apply Drawn0.step)⟩ } }
    {
    rw [if_neg c11] at H
    exact absurd H (by simp) } }
    {
    rw [if_neg c10] at H
    exact absurd H (by simp) } } }
   {
   rw [if_neg c9] at H
   have c9b0 : decide (0 ≤ x9_2) = false := decide_eq_false c9
   clear c9
   simp only [Option.some.injEq, Prod.mk.injEq] at H
   obtain ⟨rfl, rfl, rfl⟩ := H
   go_wp2
   repeat (go_quiet (fail); try go_wp2)
   go_ret3
   exact ⟨by first | rfl | (simp; done) | (simp [*]; done), by repeat (first | exact Drawn0.refl _ | apply Drawn0.step)⟩ } } } }

end Go.Proofs.Ytfojpobblebigaa.P
