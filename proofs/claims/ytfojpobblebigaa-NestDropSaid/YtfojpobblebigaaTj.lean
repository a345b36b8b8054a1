/- Plain theory of package nest: End, Drop, All, Find. -/
import Derived.Test.YtfojpobblebigaaTh
namespace Go.Proofs.Ytfojpobblebigaa.Pure
open Go.RowKit Go.Proofs.Ytfojpobblebigaa.P Go.Proofs.YtfojpobblebigaaW.PrintWords
set_option linter.unusedVariables false

/-! ### the write sets are sorted -/
def SortW (l : List S33) : Prop := (l.map (·.f0)).Pairwise (· < ·)
theorem sortW_step {a : List S33} (x : S33) (h : SortW a) : SortW (putStep a x) := by
  unfold putStep
  by_cases e : a.any (fun y => y.f0 == x.f0) = true
  · rw [if_pos e]
    have hk := idx_lt e
    have hhit := List.findIdx_getElem (w := hk)
    unfold SortW at *
    have : (a.set (a.findIdx (fun y => y.f0 == x.f0)) x).map (·.f0) = a.map (·.f0) := by
      rw [List.map_set]
      have hx : x.f0 = (a.map (·.f0))[a.findIdx (fun y => y.f0 == x.f0)]'(by simpa using hk) := by
        rw [List.getElem_map]
        exact (by simpa using hhit : _ = x.f0).symm
      conv => lhs; arg 3; rw [hx]
      exact List.set_getElem_self _
    rw [this]; exact h
  · rw [if_neg e]
    have hne : ∀ y ∈ a, y.f0 ≠ x.f0 := fun y hy hq => e (List.any_eq_true.2 ⟨y, hy, by simpa using hq⟩)
    generalize hi : a.findIdx (fun y => decide (x.f0 < y.f0)) = i
    have hlo : ∀ y ∈ a.take i, y.f0 < x.f0 := by
      intro y hy
      obtain ⟨j, hj, rfl⟩ := List.getElem_of_mem hy
      rw [List.length_take] at hj
      rw [List.getElem_take]
      have h1 : ¬ (x.f0 < (a[j]'(by omega)).f0) := by
        have := List.not_of_lt_findIdx (p := fun y : S33 => decide (x.f0 < y.f0)) (xs := a) (i := j) (by omega)
        simpa using this
      have h2 := hne _ (List.getElem_mem (by omega : j < a.length))
      omega
    have hs : (a.take i ++ a.drop i).Pairwise (fun p q => p.f0 < q.f0) := by
      rw [List.take_append_drop]
      exact List.pairwise_map.1 h
    have hhi : ∀ y ∈ a.drop i, x.f0 < y.f0 := by
      intro y hy
      by_cases hil : i < a.length
      · have h0 : x.f0 < a[i].f0 := by
          subst hi
          have := List.findIdx_getElem (w := hil)
          simpa using this
        rw [List.drop_eq_getElem_cons hil] at hy hs
        rcases List.mem_cons.1 hy with rfl | hy
        · exact h0
        · have h3 := (List.pairwise_cons.1 (List.pairwise_append.1 hs).2.1).1 y hy
          omega
      · rw [List.drop_of_length_le (by omega)] at hy; cases hy
    unfold ins SortW
    rw [List.pairwise_map, List.pairwise_append]
    obtain ⟨p1, p2, p3⟩ := List.pairwise_append.1 hs
    refine ⟨p1, List.pairwise_cons.2 ⟨hhi, p2⟩, fun y hy z hz => ?_⟩
    rcases List.mem_cons.1 hz with rfl | hz
    · exact hlo y hy
    · exact p3 y hy z hz
theorem sortW_writeL : ∀ (b : List S33) {a : List S33}, SortW a → SortW (writeL a b)
  | [], a, h => h
  | s :: b, a, h => sortW_writeL b (sortW_step s h)
theorem s33_ext {x y : S33} (h0 : x.f0 = y.f0) (h1 : x.f1 = y.f1) : x = y := by cases x; cases y; cases h0; cases h1; rfl
/-- Sorted write sets that are found alike are the same. -/
theorem sortW_ext : ∀ {a b : List S33}, SortW a → SortW b → (∀ loc, fW loc a = fW loc b) → a = b
  | [], [], _, _, _ => rfl
  | [], y :: b, _, _, h => by
    have := h y.f0
    rw [fW_nil, fW_cons, if_pos rfl] at this
    cases this
  | x :: a, [], _, _, h => by
    have := h x.f0
    rw [fW_nil, fW_cons, if_pos rfl] at this
    cases this
  | x :: a, y :: b, ha, hb, h => by
    have ha' := List.pairwise_cons.1 (List.pairwise_map.1 ha)
    have hb' := List.pairwise_cons.1 (List.pairwise_map.1 hb)
    have hxy : x = y := by
      have h1 := h x.f0
      have h2 := h y.f0
      rw [fW_cons, if_pos rfl, fW_cons] at h1
      rw [fW_cons, fW_cons, if_pos rfl] at h2
      by_cases e : y.f0 = x.f0
      · rw [if_pos e] at h1
        exact (Option.some.inj h1)
      · rw [if_neg e] at h1
        rw [if_neg (fun q => e q.symm)] at h2
        have m1 := hb'.1 x (List.mem_of_find?_eq_some h1.symm)
        have m2 := ha'.1 y (List.mem_of_find?_eq_some h2)
        omega
    subst hxy
    congr 1
    refine sortW_ext (List.pairwise_map.2 ha'.2) (List.pairwise_map.2 hb'.2) (fun loc => ?_)
    have h1 := h loc
    rw [fW_cons, fW_cons] at h1
    by_cases e : x.f0 = loc
    · have n1 : fW loc a = none := by
        cases hq : fW loc a with
        | none => rfl
        | some z => have := ha'.1 z (List.mem_of_find?_eq_some hq); have := fW_key hq; omega
      have n2 : fW loc b = none := by
        cases hq : fW loc b with
        | none => rfl
        | some z => have := hb'.1 z (List.mem_of_find?_eq_some hq); have := fW_key hq; omega
      rw [n1, n2]
    · rw [if_neg e, if_neg e] at h1
      exact h1

/-! ### All -/
theorem allF_W (loc : Int) : ∀ (l : List S62) (x : S62), fW loc (l.foldl joinWM x).f1 = (l.reverse.findSome? (fun z => lW loc z.f1)).or (fW loc x.f1)
  | [], x => by simp
  | z :: l, x => by
    rw [List.foldl_cons, allF_W loc l, List.reverse_cons, List.findSome?_append]
    show Option.or _ (fW loc (writeL x.f1 z.f1)) = _
    rw [fW_writeL]
    simp only [List.findSome?_cons, List.findSome?_nil]
    cases List.findSome? (fun z => lW loc z.f1) l.reverse with
    | some v => rfl
    | none => cases lW loc z.f1 <;> rfl
theorem allF_R (loc : Int) : ∀ (l : List S62) (x : S62), fR loc (l.foldl joinWM x).f0 = (fR loc x.f0).or (l.findSome? (fun z => fR loc z.f0))
  | [], x => by simp
  | z :: l, x => by
    rw [List.foldl_cons, allF_R loc l]
    show Option.or (fR loc (readL x.f0 z.f0)) _ = _
    rw [fR_readL, List.findSome?_cons]
    cases fR loc x.f0 with
    | some v => rfl
    | none => cases fR loc z.f0 <;> rfl
theorem allF_once : ∀ (l : List S62) (x : S62), OnceR x.f0 → OnceR (l.foldl joinWM x).f0
  | [], x, h => h
  | z :: l, x, h => allF_once l (joinWM x z) (onceR_readL z.f0 h)
theorem allF_sort : ∀ (l : List S62) (x : S62), SortW x.f1 → SortW (l.foldl joinWM x).f1
  | [], x, h => h
  | z :: l, x, h => allF_sort l (joinWM x z) (sortW_writeL z.f1 h)
theorem all_W (loc : Int) (l : List S62) : fW loc (allL l).f1 = l.reverse.findSome? (fun z => lW loc z.f1) := by
  unfold allL; rw [allF_W]; simp [z62, fW_nil]
theorem all_R (loc : Int) (l : List S62) : fR loc (allL l).f0 = l.findSome? (fun z => fR loc z.f0) := by
  unfold allL; rw [allF_R]; simp [z62, fR_nil]
theorem all_once (l : List S62) : OnceR (allL l).f0 := allF_once l z62 List.Pairwise.nil
theorem all_sort (l : List S62) : SortW (allL l).f1 := allF_sort l z62 List.Pairwise.nil

/-! ### the two innermost levels -/
theorem last2 {l : List S62} (h : 2 ≤ l.length) : ∃ m x z, l = m ++ [x, z] := by
  refine ⟨l.take (l.length - 2), l[l.length - 2], l[l.length - 1], ?_⟩
  conv => lhs; rw [← List.take_append_drop (l.length - 2) l]
  rw [List.drop_eq_getElem_cons (by omega), List.drop_eq_getElem_cons (by omega), List.drop_of_length_le (by omega)]
  have : l.length - 2 + 1 = l.length - 1 := by omega
  simp only [this]
theorem last1 {l : List S62} (h : 1 ≤ l.length) : ∃ m x, l = m ++ [x] := by
  refine ⟨l.take (l.length - 1), l[l.length - 1], ?_⟩
  conv => lhs; rw [← List.take_append_drop (l.length - 1) l]
  rw [List.drop_eq_getElem_cons (by omega), List.drop_of_length_le (by omega)]
theorem onLast_snoc (m : List S62) (x : S62) (f : S62 → S62) : onLast (m ++ [x]) f = m ++ [f x] := by
  unfold onLast
  rw [if_neg (by simp)]
  have h1 : (m ++ [x]).length - 1 = m.length := by simp
  have h2 : (m ++ [x]).getD m.length z62 = x := by simp [List.getD_eq_getElem?_getD]
  rw [h1, h2, List.set_append_right _ _ (Nat.le_refl _)]
  simp
theorem foldA2 (m : List S62) (x z : S62) : foldAL (m ++ [x, z]) = m ++ [joinAM x z] := by
  unfold foldAL
  have h1 : (m ++ [x, z]).length - 1 = m.length + 1 := by simp
  have h2 : (m ++ [x, z]).getD (m.length + 1) z62 = z := by simp [List.getD_eq_getElem?_getD]
  have h3 : (m ++ [x, z]).take (m.length + 1) = m ++ [x] := by
    rw [List.take_append]; simp [List.take_of_length_le]
  rw [h1, h2, h3, onLast_snoc]
theorem foldR2 (m : List S62) (x z : S62) : foldRL (m ++ [x, z]) = m ++ [joinRM x z] := by
  unfold foldRL
  have h1 : (m ++ [x, z]).length - 1 = m.length + 1 := by simp
  have h2 : (m ++ [x, z]).getD (m.length + 1) z62 = z := by simp [List.getD_eq_getElem?_getD]
  have h3 : (m ++ [x, z]).take (m.length + 1) = m ++ [x] := by
    rw [List.take_append]; simp [List.take_of_length_le]
  rw [h1, h2, h3, onLast_snoc]

/-! ### Find -/
def rW (loc : Int) (l : List S62) : Option S33 := l.reverse.findSome? (fun x => fW loc x.f1)
def rR (loc : Int) (l : List S62) : Option S30 := l.reverse.findSome? (fun x => fR loc x.f0)
theorem find_W {l : List S62} {loc : Int} {y : S33} (h : rW loc l = some y) : findL l loc = (y.f1, 0, 1) := findL_wrote h
theorem find_R {l : List S62} {loc : Int} {y : S30} (h0 : rW loc l = none) (h : rR loc l = some y) : findL l loc = (y.f2, y.f1, 2) := findL_read h0 h
theorem find_0 {l : List S62} {loc : Int} (h0 : rW loc l = none) (h : rR loc l = none) : findL l loc = (0, 0, 0) := findL_none h0 h
theorem rW_snoc (loc : Int) (m : List S62) (x : S62) : rW loc (m ++ [x]) = (fW loc x.f1).or (rW loc m) := by
  unfold rW; rw [List.reverse_append, List.findSome?_append]; simp
theorem rR_snoc (loc : Int) (m : List S62) (x : S62) : rR loc (m ++ [x]) = (fR loc x.f0).or (rR loc m) := by
  unfold rR; rw [List.reverse_append, List.findSome?_append]; simp
end Go.Proofs.Ytfojpobblebigaa.Pure
