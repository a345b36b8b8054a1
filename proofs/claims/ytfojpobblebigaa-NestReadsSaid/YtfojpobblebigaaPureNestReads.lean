/- The plain statement of NestReads: End and Drop never lose a read; the combined read set holds each location once. -/
import Derived.Test.YtfojpobblebigaaPx26
import Derived.Test.YtfojpobblebigaaPureNestEnd
namespace Go.Proofs.Ytfojpobblebigaa.Pure
open Go.RowKit Go.Proofs.Ytfojpobblebigaa.P Go.Proofs.YtfojpobblebigaaW.PrintWords
set_option linter.unusedVariables false

/-- Does some level read it? -/
def metL (loc : Int) (l : List S62) : Bool := (l.findSome? (fun z => fR loc z.f0)).isSome
theorem met_cons (loc : Int) (x : S62) (l : List S62) : metL loc (x :: l) = ((fR loc x.f0).isSome || metL loc l) := by
  unfold metL
  rw [List.findSome?_cons]
  cases fR loc x.f0 <;> rfl
theorem met_append (loc : Int) (a b : List S62) : metL loc (a ++ b) = (metL loc a || metL loc b) := by
  unfold metL
  rw [List.findSome?_append]
  cases List.findSome? (fun z => fR loc z.f0) a <;> rfl
theorem met_all (loc : Int) (l : List S62) : (fR loc (allL l).f0).isSome = metL loc l := by rw [all_R]; rfl
theorem reads_loop (l : List S62) (hl : l.length ≤ 12) (hr : ∀ x ∈ l, x.f0.length ≤ 20) (loc : Int) (a b c : List S30) (hb : b.length ≤ 4611686018427387904) (hc : c.length ≤ 4611686018427387904) (h1 : ∀ loc, (fR loc b).isSome = (fR loc a).isSome) (h2 : ∀ loc, (fR loc c).isSome = (fR loc a).isSome) (one : Bool)
    (ha : one = metL loc l) (ho : one = (fR loc a).isSome) (oa : OnceR a) (ob : OnceR b) (oc : OnceR c) (d : Nat) :
    ∀ (i : Nat) (acc : Bool), i + d = l.length → acc = metL loc (l.take i) → Ev (fun k => hallmootlaw13_NestReads.l0 k l loc true a b c one acc (i : Int)) true := by
  induction d with
  | zero =>
    intro i acc hi hacc
    rw [List.take_of_length_le (by omega)] at hacc
    refine Ev.step (f := fun k => (hallmootlaw13_has.f k b loc).bind fun t519 => (if (t519 == acc) = true then ((hallmootlaw13_has.f k c loc).bind fun t520 => (if (t520 == acc) = true then (if (a.length : Int) = (b.length : Int) then (some ((a.length : Int) == (c.length : Int))) else (none)) else (none))) else (none))) (fun k => ?_) ?_
    · rw [hallmootlaw13_NestReads.l0, if_neg (by omega), if_pos rfl, if_pos (by rw [ha, hacc]; simp)]
    · refine Ev.bind (has_ev b loc hb) ?_
      have e1 : ((fR loc b).isSome == acc) = true := by rw [h1, ← ho, ha, hacc]; simp
      simp only [e1, if_true]
      refine Ev.bind (has_ev c loc hc) ?_
      have e2 : ((fR loc c).isSome == acc) = true := by rw [h2, ← ho, ha, hacc]; simp
      simp only [e2, if_true]
      have l1 := sameR oa ob (fun loc => (h1 loc).symm)
      have l2 := sameR oa oc (fun loc => (h2 loc).symm)
      refine Ev.congr (f := fun _ => some true) (fun k => ?_) (Ev.now _)
      rw [if_pos (by omega), show ((a.length : Int) == (c.length : Int)) = true by rw [l2]; exact beq_self_eq_true _]
  | succ d ih =>
    intro i acc hi hacc
    have hlt : i < l.length := by omega
    have ht : l.take (i + 1) = l.take i ++ [l[i]] := by rw [List.take_add_one, List.getElem?_eq_getElem hlt]; rfl
    have hm : metL loc (l.take (i + 1)) = (acc || (fR loc l[i].f0).isSome) := by
      rw [ht, met_append, ← hacc, met_cons]
      simp [metL]
    by_cases h3 : acc = true
    · refine Ev.step (f := fun k => hallmootlaw13_NestReads.l0 k l loc true a b c one true ((i + 1 : Nat) : Int)) (fun k => ?_) (ih (i + 1) true (by omega) (by rw [hm, h3]; rfl))
      rw [hallmootlaw13_NestReads.l0, if_pos (by omega), if_pos h3, wrap1 hlt (by omega)]
    · have h4 : acc = false := by simpa using h3
      refine Ev.step (f := fun k => (hallmootlaw13_has.f k l[i].f0 loc).bind fun t => hallmootlaw13_NestReads.l0 k l loc true a b c one t ((i + 1 : Nat) : Int)) (fun k => ?_) (Ev.bind (has_ev l[i].f0 loc (by have := hr l[i] (List.getElem_mem _); omega)) (ih (i + 1) _ (by omega) (by rw [hm, h4]; rfl)))
      rw [hallmootlaw13_NestReads.l0, if_pos (by omega), if_neg h3, if_pos (by omega), rd62 hlt, wrap1 hlt (by omega)]
theorem allR_len (l : List S62) : (allL l).f0.length ≤ tot l := by
  have h := allL_tot l l.length (Nat.le_refl _)
  rw [List.take_length] at h
  unfold sz62 at h
  omega
theorem nAll_of {l : List S62} (h : 2 * tot l < LIM) : nAll.f l = some ((allL l).f0, (allL l).f1) := by
  unfold nAll.f; rw [if_pos h]
/-- End and Drop: what some level read, some level still has read. -/
theorem end_met (l : List S62) (loc : Int) : metL loc (if l.length < 2 then l else foldAL l) = metL loc l := by
  by_cases h : l.length < 2
  · rw [if_pos h]
  · rw [if_neg h]
    obtain ⟨m, x, z, rfl⟩ := last2 (l := l) (by omega)
    rw [foldA2, met_append, met_append, met_cons, met_cons, met_cons]
    show (metL loc m || ((fR loc (readL x.f0 z.f0)).isSome || _)) = _
    rw [fR_readL]
    cases fR loc x.f0 <;> cases fR loc z.f0 <;> rfl
theorem end_tot (l : List S62) : tot (if l.length < 2 then l else foldAL l) ≤ tot l := by
  by_cases h : l.length < 2
  · rw [if_pos h]; exact Nat.le_refl _
  · rw [if_neg h]
    obtain ⟨m, x, z, rfl⟩ := last2 (l := l) (by omega)
    rw [foldA2]; exact tot_foldA m x z
theorem drop_met (l : List S62) (loc : Int) : metL loc (dropL l).1 = metL loc l := by
  unfold dropL
  by_cases h0 : l.length = 0
  · rw [if_pos h0]
  · rw [if_neg h0]
    by_cases h1 : l.length = 1
    · simp only [if_pos h1]
      obtain ⟨x, rfl⟩ := List.length_eq_one_iff.1 h1
      rfl
    · simp only [if_neg h1]
      obtain ⟨m, x, z, rfl⟩ := last2 (l := l) (by omega)
      rw [foldR2, met_append, met_append, met_cons, met_cons, met_cons]
      show (metL loc m || ((fR loc (readL x.f0 z.f0)).isSome || _)) = _
      rw [fR_readL]
      cases fR loc x.f0 <;> cases fR loc z.f0 <;> rfl
theorem joinR_sz (x z : S62) : sz62 (joinRM x z) ≤ sz62 x + sz62 z := by
  have h1 := readL_len z.f0 x.f0
  unfold sz62 joinRM
  simp only
  omega
theorem drop_tot (l : List S62) : tot (dropL l).1 ≤ tot l := by
  unfold dropL
  by_cases h0 : l.length = 0
  · rw [if_pos h0]; exact Nat.le_refl _
  · rw [if_neg h0]
    by_cases h1 : l.length = 1
    · simp only [if_pos h1]
      obtain ⟨x, rfl⟩ := List.length_eq_one_iff.1 h1
      simp [tot, z62]
      omega
    · simp only [if_neg h1]
      obtain ⟨m, x, z, rfl⟩ := last2 (l := l) (by omega)
      have := joinR_sz x z
      rw [foldR2, tot_snoc, tot_snoc2]
      omega
theorem NestReads (l : List S62) (loc : Int) : Ev (fun k => hallmootlaw13_NestReads.f k l loc) true := by
  simp only [hallmootlaw13_NestReads.f, san, Option.bind_some]
  obtain ⟨b, hb, hf⟩ := few_ev l
  refine Ev.bind hb ?_
  cases b with
  | false => exact Ev.now _
  | true =>
    have hF := hf rfl
    have ht := tot_few hF
    simp only [if_true]
    have hd : nDrop.f l = some (dropL l) := by unfold nDrop.f; rw [if_pos (by rw [LIMv]; omega)]
    have he : nEnd.f l = some (if l.length < 2 then l else foldAL l) := by unfold nEnd.f; rw [if_pos (by rw [LIMv]; omega)]
    have t1 := end_tot l
    have t2 := drop_tot l
    have m1 := end_met l
    have m2 := drop_met l
    generalize (if l.length < 2 then l else foldAL l) = l1 at he t1 m1
    generalize (dropL l) = dd at hd t2 m2
    simp only [hd, he, Option.bind_some]
    rw [nAll_of (by rw [LIMv]; omega), nAll_of (by rw [LIMv]; omega), nAll_of (by rw [LIMv]; omega)]
    simp only [Option.bind_some]
    have n0 := allR_len l
    have n1 := allR_len l1
    have n2 := allR_len dd.1
    refine Ev.bind (has_ev (allL l).f0 loc (by omega)) ?_
    exact reads_loop l hF.1 (fun x hx => (hF.2 x hx).1) loc (allL l).f0 (allL l1).f0 (allL dd.1).f0 (by omega) (by omega) (fun loc => by rw [met_all, met_all, m1]) (fun loc => by rw [met_all, met_all, m2]) _ (met_all loc l) rfl (all_once l) (all_once l1) (all_once dd.1) l.length 0 false (by omega) rfl
end Go.Proofs.Ytfojpobblebigaa.Pure
