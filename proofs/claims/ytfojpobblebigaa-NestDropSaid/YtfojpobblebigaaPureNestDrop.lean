/- The plain statement of NestDrop: Drop restores what every lookup found before the level began, but for locations that were read inside. -/
import Derived.Test.YtfojpobblebigaaPx6
import Derived.Test.YtfojpobblebigaaTk
namespace Go.Proofs.Ytfojpobblebigaa.Pure
open Go.RowKit Go.Proofs.Ytfojpobblebigaa.P Go.Proofs.YtfojpobblebigaaW.PrintWords
set_option linter.unusedVariables false

theorem nBegin_of {l : List S62} (h : tot l < LIM) : nBegin.f l = some (l ++ [z62]) := by unfold nBegin.f; rw [if_pos h]
theorem nRead_of {m : List S62} {z : S62} (s : S30) (h : tot (m ++ [z]) < LIM) : nRead.f (m ++ [z]) s.f0 s.f1 s.f2 = some (m ++ [{ z with f0 := readL z.f0 [s] }]) := by
  unfold nRead.f; rw [if_pos h, onLast_snoc]
theorem nPut_of {m : List S62} {z : S62} (x : S33) (h : tot (m ++ [z]) < LIM) : nPut.f (m ++ [z]) x.f0 x.f1 = some (m ++ [{ z with f1 := writeL z.f1 [x] }]) := by
  unfold nPut.f; rw [if_pos h, onLast_snoc]
theorem nEnd_of {m : List S62} {x z : S62} (h : 2 * tot (m ++ [x, z]) < LIM) : nEnd.f (m ++ [x, z]) = some (m ++ [joinAM x z]) := by
  unfold nEnd.f; rw [if_pos h, if_neg (by simp), foldA2]

/-- What the innermost level holds when i rounds are over. -/
structure Inv (R : List S30) (i : Nat) (y : S62) : Prop where
  f2 : y.f2 = []
  l0 : y.f0.length ≤ i
  l1 : y.f1.length ≤ i
  rd : ∀ loc, (fR loc y.f0).isSome = (fR loc (R.take i)).isSome
theorem take_snoc30 {R : List S30} {i : Nat} (h : i < R.length) : R.take (i + 1) = R.take i ++ [R[i]] := by rw [List.take_add_one, List.getElem?_eq_getElem h]; rfl
/-- One round's change of a level. -/
def zr (R : List S30) (i : Nat) (z : S62) : S62 := if h : i < R.length then { z with f0 := readL z.f0 [R[i]] } else z
def zw (Wr : List S33) (i : Nat) (z : S62) : S62 := if h : i < Wr.length then { z with f1 := writeL z.f1 [Wr[i]] } else z
theorem sz_zr (R : List S30) (i : Nat) (z : S62) : (zr R i z).f0.length ≤ z.f0.length + 1 ∧ (zr R i z).f1 = z.f1 ∧ (zr R i z).f2 = z.f2 := by
  unfold zr
  split
  · exact ⟨readL_len _ _, rfl, rfl⟩
  · exact ⟨by omega, rfl, rfl⟩
theorem sz_zw (Wr : List S33) (i : Nat) (z : S62) : (zw Wr i z).f1.length ≤ z.f1.length + 1 ∧ (zw Wr i z).f0 = z.f0 ∧ (zw Wr i z).f2 = z.f2 := by
  unfold zw
  split
  · exact ⟨writeL_len _ _, rfl, rfl⟩
  · exact ⟨by omega, rfl, rfl⟩
theorem rd_zr (R : List S30) (i : Nat) (z : S62) (loc : Int) : (fR loc (zr R i z).f0).isSome = ((fR loc z.f0).isSome || (fR loc ((R.take (i + 1)).drop i)).isSome) := by
  unfold zr
  split
  · next h =>
    show (fR loc (readL z.f0 [R[i]])).isSome = _
    rw [fR_readL, take_snoc30 h, List.drop_left' (by simp; omega)]
    cases fR loc z.f0 <;> rfl
  · next h =>
    rw [List.drop_of_length_le (by simp; omega)]
    simp [fR_nil]
theorem rd_take (R : List S30) (i : Nat) (loc : Int) : (fR loc (R.take (i + 1))).isSome = ((fR loc (R.take i)).isSome || (fR loc ((R.take (i + 1)).drop i)).isSome) := by
  by_cases h : i < R.length
  · rw [take_snoc30 h, List.drop_left' (by simp; omega), fR_append]
    cases fR loc (R.take i) <;> rfl
  · rw [List.drop_of_length_le (by simp; omega), List.take_of_length_le (by omega), List.take_of_length_le (by omega)]
    simp [fR_nil]
theorem j4_ev (l : List S62) (R : List S30) (Wr : List S33) (loc : Int) (m : List S62) (z : S62) (i : Nat) (h3 : ¬ Int.tmod (i : Int) 3 = 1) (hi : i ≤ 20) (ht : tot (m ++ [z]) ≤ 2000) (r : Bool) (h : Ev (fun k => hallmootlaw13_NestDrop.l0 k l R Wr loc true (m ++ [zw Wr i z]) ((i + 1 : Nat) : Int)) r) :
    Ev (fun k => hallmootlaw13_NestDrop.j4 k l R Wr loc true (m ++ [z]) (i : Int)) r := by
  have hw : wrap64 ((i : Int) + 1) = ((i + 1 : Nat) : Int) := by unfold wrap64; omega
  refine Ev.step (fun k => ?_) h
  rw [hallmootlaw13_NestDrop.j4]
  unfold zw
  by_cases hl : i < Wr.length
  · rw [if_pos (by omega), if_pos (by omega), rd33 hl, nPut_of _ (by rw [LIMv]; omega), Option.bind_some, if_neg h3, hw, dif_pos hl]
  · rw [if_neg (by omega), if_neg h3, hw, dif_neg hl]
theorem j4_ev' (l : List S62) (R : List S30) (Wr : List S33) (loc : Int) (m : List S62) (x z : S62) (i : Nat) (h3 : Int.tmod (i : Int) 3 = 1) (hi : i ≤ 20) (ht : tot (m ++ [x, z]) ≤ 2000) (r : Bool) (h : Ev (fun k => hallmootlaw13_NestDrop.l0 k l R Wr loc true (m ++ [joinAM x (zw Wr i z)]) ((i + 1 : Nat) : Int)) r) :
    Ev (fun k => hallmootlaw13_NestDrop.j4 k l R Wr loc true (m ++ [x, z]) (i : Int)) r := by
  have hw : wrap64 ((i : Int) + 1) = ((i + 1 : Nat) : Int) := by unfold wrap64; omega
  refine Ev.step (fun k => ?_) h
  rw [hallmootlaw13_NestDrop.j4]
  have e : m ++ [x, z] = (m ++ [x]) ++ [z] := by simp
  by_cases hl : i < Wr.length
  · have hz : zw Wr i z = { z with f1 := writeL z.f1 [Wr[i]] } := by unfold zw; rw [dif_pos hl]
    have hsz := sz_zw Wr i z
    rw [if_pos (by omega), if_pos (by omega), rd33 hl, e, nPut_of _ (by rw [LIMv, ← e]; omega), Option.bind_some, if_pos h3, ← hz]
    rw [show m ++ [x] ++ [zw Wr i z] = m ++ [x, zw Wr i z] by simp, nEnd_of (by rw [LIMv, tot_snoc2]; rw [tot_snoc2] at ht; unfold sz62 at *; rw [hsz.2.1, hsz.2.2]; omega), Option.bind_some, hw]
  · have hz : zw Wr i z = z := by unfold zw; rw [dif_neg hl]
    rw [if_neg (by omega), if_pos h3, nEnd_of (by rw [LIMv]; omega), Option.bind_some, hw, hz]
theorem j3_ev (l : List S62) (R : List S30) (Wr : List S33) (loc : Int) (m : List S62) (z : S62) (i : Nat) (ht : tot (m ++ [z]) ≤ 2000) (r : Bool) (h : Ev (fun k => hallmootlaw13_NestDrop.j4 k l R Wr loc true (m ++ [zr R i z]) (i : Int)) r) :
    Ev (fun k => hallmootlaw13_NestDrop.j3 k l R Wr loc true (m ++ [z]) (i : Int)) r := by
  refine Ev.step (fun k => ?_) h
  rw [hallmootlaw13_NestDrop.j3]
  unfold zr
  by_cases hl : i < R.length
  · rw [if_pos (by omega), if_pos (by omega), rd30 hl, nRead_of _ (by rw [LIMv]; omega), Option.bind_some, dif_pos hl]
  · rw [if_neg (by omega), dif_neg hl]
theorem drop_step (l : List S62) (htl : tot l ≤ 732) (R : List S30) (Wr : List S33) (loc : Int) (i : Nat) (hi : i ≤ 20) (y : S62) (hy : Inv R i y) (hlt : i < R.length ∨ i < Wr.length) :
    ∃ y', Inv R (i + 1) y' ∧ ∀ r, Ev (fun k => hallmootlaw13_NestDrop.l0 k l R Wr loc true (l ++ [y']) ((i + 1 : Nat) : Int)) r → Ev (fun k => hallmootlaw13_NestDrop.l0 k l R Wr loc true (l ++ [y]) (i : Int)) r := by
  have hty : tot (l ++ [y]) ≤ 800 := by rw [tot_snoc]; unfold sz62; rw [hy.f2]; have := hy.l0; have := hy.l1; simp; omega
  have hj2 : ∀ r, Ev (fun k => hallmootlaw13_NestDrop.j2 k l R Wr loc true (l ++ [y]) (i : Int) true) r → Ev (fun k => hallmootlaw13_NestDrop.l0 k l R Wr loc true (l ++ [y]) (i : Int)) r := by
    intro r h
    refine Ev.step (fun k => ?_) h
    rw [hallmootlaw13_NestDrop.l0]
    by_cases h1 : i < R.length
    · rw [if_pos (by omega)]
    · rw [if_neg (by omega), decide_eq_true (by omega)]
  by_cases h3 : Int.tmod (i : Int) 3 = 1
  · refine ⟨joinAM y (zw Wr i (zr R i z62)), ?_, fun r h => hj2 r ?_⟩
    · have a1 := sz_zr R i z62
      have a2 := sz_zw Wr i (zr R i z62)
      have b1 := readL_len (zw Wr i (zr R i z62)).f0 y.f0
      have b2 := writeL_len (zw Wr i (zr R i z62)).f1 y.f1
      rw [a2.2.1] at b1
      have c1 : (zr R i z62).f0.length ≤ 1 := a1.1
      have c2 : (zw Wr i (zr R i z62)).f1.length ≤ 1 := by have := a2.1; rw [a1.2.1] at this; exact this
      refine ⟨?_, ?_, ?_, fun loc => ?_⟩
      · show y.f2 ++ _ = []
        rw [hy.f2, a2.2.2, a1.2.2]; rfl
      · show (readL y.f0 (zw Wr i (zr R i z62)).f0).length ≤ _
        rw [a2.2.1]
        have := hy.l0; omega
      · show (writeL y.f1 (zw Wr i (zr R i z62)).f1).length ≤ _
        have := hy.l1; omega
      · show (fR loc (readL y.f0 (zw Wr i (zr R i z62)).f0)).isSome = _
        rw [a2.2.1, fR_readL, rd_take, ← hy.rd]
        have := rd_zr R i z62 loc
        have e0 : fR loc z62.f0 = none := rfl
        rw [e0] at this
        rw [← show ((fR loc (zr R i z62).f0).isSome) = (fR loc ((R.take (i + 1)).drop i)).isSome by rw [this]; rfl]
        cases fR loc y.f0 <;> rfl
    · have e : ∀ z, l ++ [y] ++ [z] = l ++ [y, z] := fun z => by simp
      refine Ev.step (fun k => ?_) (j3_ev l R Wr loc (l ++ [y]) z62 i ?_ r ?_)
      · rw [hallmootlaw13_NestDrop.j2, if_pos rfl, if_pos h3, nBegin_of (by rw [LIMv]; omega), Option.bind_some]
      · rw [tot_snoc]; simp [sz62, z62]; omega
      · rw [e]
        refine j4_ev' l R Wr loc l y (zr R i z62) i h3 hi ?_ r h
        rw [tot_snoc] at hty
        have a1 := sz_zr R i z62
        rw [tot_snoc2]
        have : sz62 (zr R i z62) ≤ 1 := by unfold sz62; rw [a1.2.1, a1.2.2]; exact a1.1
        omega
  · refine ⟨zw Wr i (zr R i y), ?_, fun r h => hj2 r ?_⟩
    · have a1 := sz_zr R i y
      have a2 := sz_zw Wr i (zr R i y)
      refine ⟨?_, ?_, ?_, fun loc => ?_⟩
      · rw [a2.2.2, a1.2.2, hy.f2]
      · rw [a2.2.1]; have := hy.l0; omega
      · have := a2.1; rw [a1.2.1] at this; have := hy.l1; omega
      · rw [a2.2.1, rd_zr, rd_take, ← hy.rd]
    · refine Ev.step (fun k => ?_) (j3_ev l R Wr loc l y i (by omega) r (j4_ev l R Wr loc l (zr R i y) i h3 hi ?_ r h))
      · rw [hallmootlaw13_NestDrop.j2, if_pos rfl, if_neg h3]
      · rw [tot_snoc] at hty ⊢
        have a1 := sz_zr R i y
        unfold sz62 at *
        rw [a1.2.1, a1.2.2]
        omega
theorem drop_last (R : List S30) (hR : R.length ≤ 20) (loc a b how a' b' how' : Int) (hc : (how = 0 ∧ ((how' == 2) == (fR loc R).isSome) = true ∧ (how' != 1) = true) ∨ (how ≠ 0 ∧ how' = 2 ∧ ((fR loc R).isSome = true ∨ (a = a' ∧ b = b')))) (d : Nat) :
    ∀ (i : Nat) (acc : Bool), i + d = R.length → acc = (fR loc (R.take i)).isSome → Ev (fun k => hallmootlaw13_NestDrop.l1 k R loc true a b how a' b' how' acc (i : Int)) true := by
  induction d with
  | zero =>
    intro i acc hi hacc
    rw [List.take_of_length_le (by omega)] at hacc
    refine Ev.step (f := fun _ => some true) (fun k => ?_) (Ev.now _)
    rw [hallmootlaw13_NestDrop.l1, if_neg (by omega)]
    rcases hc with ⟨h1, h2, h3⟩ | ⟨h1, h2, h3⟩
    · rw [if_pos h1, if_pos rfl, hacc, if_pos h2, h3]
    · rw [if_neg h1, if_pos rfl, if_pos h2]
      by_cases h4 : acc = true
      · rw [if_pos h4]
      · rw [if_neg h4]
        rcases h3 with h3 | ⟨h3, h5⟩
        · rw [hacc] at h4; exact absurd h3 h4
        · rw [if_pos h3, h5, beq_self_eq_true]
  | succ d ih =>
    intro i acc hi hacc
    have hlt : i < R.length := by omega
    by_cases h3 : acc = true
    · refine Ev.step (f := fun k => hallmootlaw13_NestDrop.l1 k R loc true a b how a' b' how' true ((i + 1 : Nat) : Int)) (fun k => ?_) (ih (i + 1) true (by omega) ?_)
      · rw [hallmootlaw13_NestDrop.l1, if_pos (by omega), if_pos h3, wrap1 hlt (by omega)]
      · rw [take_snoc30 hlt, fR_append]
        rw [h3] at hacc
        obtain ⟨y, hy⟩ := Option.isSome_iff_exists.1 hacc.symm
        rw [hy]; rfl
    · refine Ev.step (f := fun k => hallmootlaw13_NestDrop.l1 k R loc true a b how a' b' how' (R[i].f0 == loc) ((i + 1 : Nat) : Int)) (fun k => ?_) (ih (i + 1) _ (by omega) ?_)
      · rw [hallmootlaw13_NestDrop.l1, if_pos (by omega), if_neg h3, if_pos (by omega), rd30 hlt, wrap1 hlt (by omega)]
      · rw [take_snoc30 hlt, fR_append, fR_cons, fR_nil]
        have hn : fR loc (R.take i) = none := by
          cases hq : fR loc (R.take i) with
          | none => rfl
          | some y => rw [hq] at hacc; exact absurd hacc h3
        rw [hn]
        by_cases e : R[i].f0 = loc <;> simp [e]
/-- Behind the rounds. -/
theorem drop_end (m : List S62) (x : S62) (htl : tot (m ++ [x]) ≤ 732) (R : List S30) (hR : R.length ≤ 20) (Wr : List S33) (loc : Int) (i : Nat) (hi : i ≤ 20) (y : S62) (hy : Inv R i y) (h1 : R.length ≤ i) (h2 : Wr.length ≤ i) :
    Ev (fun k => hallmootlaw13_NestDrop.l0 k (m ++ [x]) R Wr loc true (m ++ [x] ++ [y]) (i : Int)) true := by
  have hty : tot (m ++ [x] ++ [y]) ≤ 800 := by rw [tot_snoc]; unfold sz62; rw [hy.f2]; have := hy.l0; have := hy.l1; simp; omega
  have hrd : (fR loc y.f0).isSome = (fR loc R).isSome := by rw [hy.rd, List.take_of_length_le h1]
  have e2 : m ++ [x] ++ [y] = m ++ [x, y] := by simp
  have hdrop : nDrop.f (m ++ [x] ++ [y]) = some (m ++ [joinRM x y], []) := by
    unfold nDrop.f
    rw [if_pos (by rw [LIMv]; omega)]
    unfold dropL
    have hy2 : (m ++ [x] ++ [y]).getD ((m ++ [x] ++ [y]).length - 1) z62 = y := by simp [List.getD_eq_getElem?_getD]
    rw [if_neg (by simp), hy2, hy.f2, if_neg (by simp), e2, foldR2]
    rfl
  have hW : rW loc (m ++ [joinRM x y]) = rW loc (m ++ [x]) := by rw [rW_snoc, rW_snoc]; rfl
  have hR0 : rR loc (m ++ [x]) = (fR loc x.f0).or (rR loc m) := rR_snoc loc m x
  have hR1 : rR loc (m ++ [joinRM x y]) = ((fR loc x.f0).or (fR loc y.f0)).or (rR loc m) := by
    rw [rR_snoc]
    show (fR loc (readL x.f0 y.f0)).or _ = _
    rw [fR_readL]
  refine Ev.step (f := fun k => hallmootlaw13_NestDrop.j2 k (m ++ [x]) R Wr loc true (m ++ [x] ++ [y]) (i : Int) false) (fun k => ?_) ?_
  · rw [hallmootlaw13_NestDrop.l0, if_neg (by omega), decide_eq_false (by omega)]
  refine Ev.step (f := fun k => hallmootlaw13_NestDrop.j5 k R loc true (findL (m ++ [x]) loc).1 (findL (m ++ [x]) loc).2.1 (findL (m ++ [x]) loc).2.2 (findL (m ++ [joinRM x y]) loc).1 (findL (m ++ [joinRM x y]) loc).2.1 (findL (m ++ [joinRM x y]) loc).2.2 false) (fun k => ?_) ?_
  · rw [hallmootlaw13_NestDrop.j2, if_neg (by simp), hdrop, Option.bind_some, fin_some, Option.bind_some, fin_some, Option.bind_some, if_pos (by simp)]
    rfl
  have fin : ∀ (a b how a' b' how' : Int), how ≠ 1 → ((how = 0 ∧ ((how' == 2) == (fR loc R).isSome) = true ∧ (how' != 1) = true) ∨ (how ≠ 0 ∧ how' = 2 ∧ ((fR loc R).isSome = true ∨ (a = a' ∧ b = b')))) → Ev (fun k => hallmootlaw13_NestDrop.j5 k R loc true a b how a' b' how' false) true := by
    intro a b how a' b' how' hne hc
    refine Ev.step (f := fun k => hallmootlaw13_NestDrop.l1 k R loc true a b how a' b' how' false ((0 : Nat) : Int)) (fun k => ?_) (drop_last R hR loc a b how a' b' how' hc R.length 0 false (by omega) rfl)
    rw [hallmootlaw13_NestDrop.j5, if_neg (by simp), if_neg hne]
    rfl
  cases hq : rW loc (m ++ [x]) with
  | some w =>
    rw [hq] at hW
    rw [find_W hq, find_W hW]
    refine Ev.step (f := fun _ => some true) (fun k => ?_) (Ev.now _)
    rw [hallmootlaw13_NestDrop.j5, if_neg (by simp), if_pos rfl, if_pos rfl, if_pos rfl]
    simp
  | none =>
    rw [hq] at hW
    cases hxr : fR loc x.f0 with
    | some s =>
      rw [hxr] at hR0 hR1
      rw [find_R hq hR0, find_R hW hR1]
      exact fin _ _ _ _ _ _ (by simp) (.inr ⟨by simp, rfl, .inr ⟨rfl, rfl⟩⟩)
    | none =>
      rw [hxr] at hR0 hR1
      simp only [Option.none_or] at hR0 hR1
      cases hyr : fR loc y.f0 with
      | some s =>
        rw [hyr] at hR1 hrd
        cases hmr : rR loc m with
        | some t =>
          rw [hmr] at hR0
          rw [find_R hq hR0, find_R hW hR1]
          exact fin _ _ _ _ _ _ (by simp) (.inr ⟨by simp, rfl, .inl hrd.symm⟩)
        | none =>
          rw [hmr] at hR0
          rw [find_0 hq hR0, find_R hW hR1]
          exact fin _ _ _ _ _ _ (by simp) (.inl ⟨rfl, by rw [← hrd]; rfl, by simp⟩)
      | none =>
        rw [hyr] at hR1 hrd
        simp only [Option.none_or] at hR1
        cases hmr : rR loc m with
        | some t =>
          rw [hmr] at hR0 hR1
          rw [find_R hq hR0, find_R hW hR1]
          exact fin _ _ _ _ _ _ (by simp) (.inr ⟨by simp, rfl, .inr ⟨rfl, rfl⟩⟩)
        | none =>
          rw [hmr] at hR0 hR1
          rw [find_0 hq hR0, find_0 hW hR1]
          exact fin _ _ _ _ _ _ (by simp) (.inl ⟨rfl, by rw [← hrd]; rfl, by simp⟩)
theorem drop_rounds (m : List S62) (x : S62) (htl : tot (m ++ [x]) ≤ 732) (R : List S30) (hR : R.length ≤ 20) (Wr : List S33) (hW : Wr.length ≤ 20) (loc : Int) (d : Nat) : ∀ (i : Nat) (y : S62), i + d = 20 → Inv R i y →
    Ev (fun k => hallmootlaw13_NestDrop.l0 k (m ++ [x]) R Wr loc true (m ++ [x] ++ [y]) (i : Int)) true := by
  induction d with
  | zero => intro i y hi hy; exact drop_end m x htl R hR Wr loc i (by omega) y hy (by omega) (by omega)
  | succ d ih =>
    intro i y hi hy
    by_cases hlt : i < R.length ∨ i < Wr.length
    · obtain ⟨y', hy', h⟩ := drop_step (m ++ [x]) htl R Wr loc i (by omega) y hy hlt
      exact h true (ih (i + 1) y' (by omega) hy')
    · exact drop_end m x htl R hR Wr loc i (by omega) y hy (by omega) (by omega)
theorem NestDrop (l : List S62) (R : List S30) (Wr : List S33) (loc : Int) : Ev (fun k => hallmootlaw13_NestDrop.f k l R Wr loc) true := by
  simp only [hallmootlaw13_NestDrop.f, san, Option.bind_some]
  obtain ⟨b, hb, hf⟩ := few_ev l
  have skip : Ev (fun k => hallmootlaw13_NestDrop.j0 k l R Wr loc true true) true := Ev.step (f := fun _ => some true) (fun k => by rw [hallmootlaw13_NestDrop.j0, if_pos rfl]) (Ev.now _)
  refine Ev.bind hb ?_
  cases b with
  | false => exact skip
  | true =>
    have hF := hf rfl
    simp only [if_true]
    by_cases h0 : (l.length : Int) = 0
    · simp only [if_pos h0]; exact skip
    · simp only [if_neg h0]
      by_cases h6 : (l.length : Int) > 6
      · simp only [if_pos h6]; exact skip
      · simp only [if_neg h6]
        by_cases h1 : (R.length : Int) > 20
        · simp only [if_pos h1]; exact skip
        · simp only [if_neg h1]
          by_cases h2 : (Wr.length : Int) > 20
          · simp only [decide_eq_true h2]; exact skip
          · simp only [decide_eq_false h2]
            have ht := tot_few hF
            obtain ⟨m, x, rfl⟩ := last1 (l := l) (by omega)
            refine Ev.step (f := fun k => hallmootlaw13_NestDrop.l0 k (m ++ [x]) R Wr loc true (m ++ [x] ++ [z62]) ((0 : Nat) : Int)) (fun k => ?_) (drop_rounds m x ht R (by omega) Wr (by omega) loc 20 0 z62 (by omega) ⟨rfl, Nat.le_refl _, Nat.le_refl _, fun loc => rfl⟩)
            rw [hallmootlaw13_NestDrop.j0, if_neg (by simp), nBegin_of (by rw [LIMv]; omega), Option.bind_some]
            rfl
end Go.Proofs.Ytfojpobblebigaa.Pure
