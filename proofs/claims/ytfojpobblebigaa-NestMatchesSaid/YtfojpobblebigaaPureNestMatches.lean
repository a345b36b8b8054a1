/- The plain statement of NestMatches: Find, Begin, Read, Put and Keep agree with the reference. -/
import Derived.Test.YtfojpobblebigaaPx21
import Derived.Test.YtfojpobblebigaaYM4
namespace Go.Proofs.Ytfojpobblebigaa.Pure
open Go.RowKit Go.Proofs.Ytfojpobblebigaa.P Go.Proofs.YtfojpobblebigaaW.PrintWords
set_option linter.unusedVariables false

def SmL (l : List S62) : Prop := ∀ x ∈ l, ∀ u ∈ x.f2, Sm u.f0
theorem fits_few {l : List S62} (h : FewL l) (hs : SmL l) : Fits l := ⟨by have := h.1; omega, fun x hx => by have := h.2 x hx; exact ⟨by omega, by omega, by omega, hs x hx⟩⟩
theorem fits_snoc {m : List S62} {x y : S62} (h : Fits (m ++ [x])) (h0 : y.f0.length ≤ 100000) (h1 : y.f1.length ≤ 100000) (h2 : y.f2.length ≤ 100000) (h3 : ∀ u ∈ y.f2, Sm u.f0) : Fits (m ++ [y]) := by
  refine ⟨by have := h.1; simp at this ⊢; omega, fun z hz => ?_⟩
  rcases List.mem_append.1 hz with hz | hz
  · exact h.2 z (List.mem_append_left _ hz)
  · obtain rfl : z = y := by simpa using hz
    exact ⟨h0, h1, h2, h3⟩
theorem begin_any {l : List S62} (h : FewL l) (hs : SmL l) : ∃ r, nBegin.f l = some r ∧ hallmootref13_Begin.f l = some r ∧ Fits r := by
  have ht := tot_few h
  refine ⟨l ++ [z62], by unfold nBegin.f; rw [if_pos (by rw [LIMv]; omega)], begin_of l (by have := h.1; omega), ?_⟩
  refine ⟨by have := h.1; simp; omega, fun x hx => ?_⟩
  rcases List.mem_append.1 hx with hx | hx
  · exact (fits_few h hs).2 x hx
  · obtain rfl : x = z62 := by simpa using hx
    exact ⟨Nat.zero_le _, Nat.zero_le _, Nat.zero_le _, fun u hu => by cases hu⟩
theorem read_any {l : List S62} (h : FewL l) (hs : SmL l) (a b c : Int) : ∃ r, nRead.f l a b c = some r ∧ Ev (fun k => hallmootref13_Read.f k l a b c) r ∧ Fits r := by
  have ht := tot_few h
  have hf := fits_few h hs
  by_cases h0 : l.length = 0
  · obtain rfl := List.eq_nil_of_length_eq_zero h0
    exact ⟨[], by unfold nRead.f; rw [if_pos (by rw [LIMv]; omega)]; rfl, read_nil ⟨a, b, c⟩, hf⟩
  · obtain ⟨m, x, rfl⟩ := last1 (l := l) (by omega)
    obtain ⟨f0, f1, f2, f3⟩ := hf.2 x (by simp)
    have hm := hf.1
    simp at hm
    have hx := h.2 x (by simp)
    have hl := readStep_len x.f0 ⟨a, b, c⟩
    exact ⟨m ++ [{ x with f0 := readStep x.f0 ⟨a, b, c⟩ }], by unfold nRead.f; rw [if_pos (by rw [LIMv]; omega), onLast_snoc]; rfl, read_ev m x ⟨a, b, c⟩ (by omega) f0, fits_snoc hf (by show (readStep _ _).length ≤ _; omega) f1 f2 f3⟩
theorem put_any {l : List S62} (h : FewL l) (hs : SmL l) (a b : Int) : ∃ r, nPut.f l a b = some r ∧ Ev (fun k => hallmootref13_Put.f k l a b) r ∧ Fits r := by
  have ht := tot_few h
  have hf := fits_few h hs
  by_cases h0 : l.length = 0
  · obtain rfl := List.eq_nil_of_length_eq_zero h0
    exact ⟨[], by unfold nPut.f; rw [if_pos (by rw [LIMv]; omega)]; rfl, put_nil ⟨a, b⟩, hf⟩
  · obtain ⟨m, x, rfl⟩ := last1 (l := l) (by omega)
    obtain ⟨f0, f1, f2, f3⟩ := hf.2 x (by simp)
    have hm := hf.1
    simp at hm
    have hx := h.2 x (by simp)
    have hl := putStep_len x.f1 ⟨a, b⟩
    exact ⟨m ++ [{ x with f1 := putStep x.f1 ⟨a, b⟩ }], by unfold nPut.f; rw [if_pos (by rw [LIMv]; omega), onLast_snoc]; rfl, put_ev m x ⟨a, b⟩ (by omega) f1, fits_snoc hf f0 (by show (putStep _ _).length ≤ _; omega) f2 f3⟩
theorem keep_any {l : List S62} (h : FewL l) (hs : SmL l) (j : Int) : ∃ r, nKeep.f l 0 0 0 [] j = some r ∧ hallmootref13_Keep.f l 0 0 0 [] j = some r ∧ Fits r := by
  have ht := tot_few h
  have hf := fits_few h hs
  by_cases h0 : l.length = 0
  · obtain rfl := List.eq_nil_of_length_eq_zero h0
    exact ⟨[], by unfold nKeep.f; rw [if_pos (by rw [LIMv]; omega)]; rfl, rfl, hf⟩
  · obtain ⟨m, x, rfl⟩ := last1 (l := l) (by omega)
    obtain ⟨f0, f1, f2, f3⟩ := hf.2 x (by simp)
    have hm := hf.1
    simp at hm
    have hx := h.2 x (by simp)
    refine ⟨m ++ [{ x with f2 := x.f2 ++ [⟨⟨0, 0, 0, []⟩, j⟩] }], by unfold nKeep.f; rw [if_pos (by rw [LIMv]; omega), onLast_snoc], keep_of m x 0 0 0 [] j (by omega) f2, fits_snoc hf f0 f1 (by simp; omega) (fun u hu => ?_)⟩
    rcases List.mem_append.1 hu with hu | hu
    · exact f3 u hu
    · obtain rfl : u = ⟨⟨0, 0, 0, []⟩, j⟩ := by simpa using hu
      exact .mk _ (Nat.zero_le _) (fun y hy => by cases hy)
theorem NestMatches (l : List S62) (loc a b c d e j : Int) (hs : SmL l) : Ev (fun k => hallmootlaw13_NestMatches.f k l loc a b c d e j) true := by
  simp only [hallmootlaw13_NestMatches.f, san, Option.bind_some]
  obtain ⟨v, hv, hf⟩ := few_ev l
  refine Ev.bind hv ?_
  cases v with
  | false => exact Ev.now _
  | true =>
    have hF := hf rfl
    simp only [if_true, fin_some, Option.bind_some]
    refine Ev.bind (find_ev l hF loc) ?_
    simp only [if_true]
    obtain ⟨r1, p1, q1, g1⟩ := begin_any hF hs
    obtain ⟨r2, p2, q2, g2⟩ := read_any hF hs a b c
    obtain ⟨r3, p3, q3, g3⟩ := put_any hF hs d e
    obtain ⟨r4, p4, q4, g4⟩ := keep_any hF hs j
    simp only [p1, q1, p2, p3, p4, q4, Option.bind_some]
    refine Ev.bind (same_ev r1 g1) ?_
    simp only [if_true]
    refine Ev.bind q2 (Ev.bind (same_ev r2 g2) ?_)
    simp only [if_true]
    refine Ev.bind q3 (Ev.bind (same_ev r3 g3) ?_)
    simp only [if_true]
    exact Ev.bind (same_ev r4 g4) (Ev.now _)
end Go.Proofs.Ytfojpobblebigaa.Pure
