/- The plain statement of NestEnd: merging the innermost level changes neither how a location is found, nor its value unless both levels read it, nor the combined write set. -/
import Derived.Test.YtfojpobblebigaaPx24
import Derived.Test.YtfojpobblebigaaLp
import Derived.Test.YtfojpobblebigaaTj
namespace Go.Proofs.Ytfojpobblebigaa.Pure
open Go.RowKit Go.Proofs.Ytfojpobblebigaa.P Go.Proofs.YtfojpobblebigaaW.PrintWords
set_option linter.unusedVariables false

theorem san : hallmootlaw13_sanity.f = some true := by decide +kernel
theorem end_skip (l : List S62) (loc : Int) : Ev (fun k => hallmootlaw13_NestEnd.j0 k l loc true true) true :=
  Ev.step (f := fun _ => some true) (fun k => by rw [hallmootlaw13_NestEnd.j0, if_pos rfl]) (Ev.now _)
theorem end_loop (m : List S62) (x z : S62) (loc a b how how' : Int) (w w' : List S33) (hm : m.length ≤ 20) (hx : x.f0.length ≤ 20) (hw : w = w') (hwl : w.length ≤ 4611686018427387904) (hh : how = how') (hs : (how = 2 ∧ (fR loc x.f0).isSome = true) ∨ a = b) (d : Nat) :
    ∀ (i : Nat) (acc : Bool), i + d = x.f0.length → acc = (fR loc (x.f0.take i)).isSome → Ev (fun k => hallmootlaw13_NestEnd.l0 k (m ++ [x, z]) loc true a how b how' w w' acc (i : Int)) true := by
  have hl : (m ++ [x, z]).length = m.length + 2 := by simp
  have e1 : wrap64 (((m ++ [x, z]).length : Int) - 2) = (m.length : Int) := by rw [hl]; unfold wrap64; omega
  have e2 : rd_T62 (m ++ [x, z]) (m.length : Int) = x := by rw [rd62 (by omega)]; simp
  induction d with
  | zero =>
    intro i acc hi ha
    rw [List.take_of_length_le (by omega)] at ha
    have hwe := writes_ev w hwl
    rw [← hw]
    refine Ev.step (f := fun k => (hallmootref13_Writes.f k w w).bind fun t => some t) (fun k => ?_) (Ev.bind hwe (Ev.now _))
    rw [hallmootlaw13_NestEnd.l0, e1, e2, if_pos (by omega), if_pos (by omega), if_neg (by omega), if_pos rfl, if_pos hh]
    by_cases h2 : how = 2
    · rw [if_pos h2]
      by_cases h3 : acc = true
      · rw [if_pos h3]
      · rw [if_neg h3]
        rw [ha] at h3
        rcases hs with ⟨_, hs⟩ | hs
        · exact absurd hs h3
        · rw [if_pos hs, if_pos rfl, if_pos hh]
    · rw [if_neg h2]
      rcases hs with ⟨hs, _⟩ | hs
      · exact absurd hs h2
      · rw [if_pos hs, if_pos rfl, if_pos hh]
  | succ d ih =>
    intro i acc hi ha
    have hlt : i < x.f0.length := by omega
    have ht : x.f0.take (i + 1) = x.f0.take i ++ [x.f0[i]] := by rw [List.take_add_one, List.getElem?_eq_getElem hlt]; rfl
    by_cases h3 : acc = true
    · refine Ev.step (f := fun k => hallmootlaw13_NestEnd.l0 k (m ++ [x, z]) loc true a how b how' w w' true ((i + 1 : Nat) : Int)) (fun k => ?_) (ih (i + 1) true (by omega) ?_)
      · rw [hallmootlaw13_NestEnd.l0, e1, e2, if_pos (by omega), if_pos (by omega), if_pos (by omega), if_pos h3, wrap1 hlt (by omega)]
      · rw [ht, fR_append]
        rw [h3] at ha
        obtain ⟨y, hy⟩ := Option.isSome_iff_exists.1 ha.symm
        rw [hy]; rfl
    · refine Ev.step (f := fun k => hallmootlaw13_NestEnd.l0 k (m ++ [x, z]) loc true a how b how' w w' (x.f0[i].f0 == loc) ((i + 1 : Nat) : Int)) (fun k => ?_) (ih (i + 1) _ (by omega) ?_)
      · rw [hallmootlaw13_NestEnd.l0, e1, e2, if_pos (by omega), if_pos (by omega), if_pos (by omega), if_neg h3, if_pos (by omega), rd30 hlt, wrap1 hlt (by omega)]
      · rw [ht, fR_append, fR_cons, fR_nil]
        have hn : fR loc (x.f0.take i) = none := by
          cases hq : fR loc (x.f0.take i) with
          | none => rfl
          | some y => rw [hq] at ha; exact absurd ha h3
        rw [hn]
        by_cases e : x.f0[i].f0 = loc <;> simp [e]
theorem fin_some (l : List S62) (loc : Int) : nFind.f l loc = some (findL l loc) := rfl
theorem LIMv : LIM = 1099511627776 := rfl
theorem allL_W_len (l : List S62) : (allL l).f1.length ≤ tot l := by
  have h := allL_tot l l.length (Nat.le_refl _)
  rw [List.take_length] at h
  unfold sz62 at h
  omega
theorem joinA_sz (x z : S62) : sz62 (joinAM x z) ≤ sz62 x + sz62 z := by
  have h1 := readL_len z.f0 x.f0
  have h2 := writeL_len z.f1 x.f1
  unfold sz62 joinAM
  simp only [List.length_append]
  omega
theorem tot_snoc (m : List S62) (x : S62) : tot (m ++ [x]) = tot m + 1 + sz62 x := by
  unfold tot sz62
  simp
  omega
theorem tot_snoc2 (m : List S62) (x z : S62) : tot (m ++ [x, z]) = tot m + 2 + sz62 x + sz62 z := by
  rw [show m ++ [x, z] = (m ++ [x]) ++ [z] by simp, tot_snoc, tot_snoc]
  omega
theorem tot_foldA (m : List S62) (x z : S62) : tot (m ++ [joinAM x z]) ≤ tot (m ++ [x, z]) := by
  have := joinA_sz x z
  rw [tot_snoc, tot_snoc2]
  omega
/-- End, on levels in each of which a location is written once: all writes are found as before. -/
theorem end_W (m : List S62) (x z : S62) (hz : OnceW z.f1) (loc : Int) : rW loc (m ++ [joinAM x z]) = rW loc (m ++ [x, z]) := by
  rw [show m ++ [x, z] = (m ++ [x]) ++ [z] by simp, rW_snoc, rW_snoc, rW_snoc]
  show (fW loc (writeL x.f1 z.f1)).or _ = _
  rw [fW_writeL, lW_once hz]
  cases fW loc z.f1 <;> rfl
theorem end_R (m : List S62) (x z : S62) (loc : Int) : rR loc (m ++ [joinAM x z]) = ((fR loc x.f0).or (fR loc z.f0)).or (rR loc m) := by
  rw [rR_snoc]
  show (fR loc (readL x.f0 z.f0)).or _ = _
  rw [fR_readL]
theorem end_all (m : List S62) (x z : S62) (hx : OnceW x.f1) : (allL (m ++ [joinAM x z])).f1 = (allL (m ++ [x, z])).f1 := by
  refine sortW_ext (all_sort _) (all_sort _) (fun loc => ?_)
  rw [all_W, all_W]
  simp only [List.reverse_append, List.reverse_cons, List.reverse_nil, List.nil_append, List.cons_append, List.findSome?_cons]
  have e : lW loc (joinAM x z).f1 = (lW loc z.f1).or (lW loc x.f1) := by
    show lW loc (writeL x.f1 z.f1) = _
    rw [lW_once (onceW_writeL z.f1 hx), fW_writeL, lW_once hx]
  rw [e]
  cases lW loc z.f1 with
  | some v => rfl
  | none => cases lW loc x.f1 <;> rfl
theorem NestEnd (l : List S62) (loc : Int) : Ev (fun k => hallmootlaw13_NestEnd.f k l loc) true := by
  simp only [hallmootlaw13_NestEnd.f, san, Option.bind_some]
  obtain ⟨b, hb, hf⟩ := few_ev l
  refine Ev.bind hb ?_
  cases b with
  | false => exact end_skip l loc
  | true =>
    have hF := hf rfl
    simp only [if_true]
    by_cases h2 : (l.length : Int) < 2
    · simp only [if_pos h2]; exact end_skip l loc
    · simp only [if_neg h2]
      obtain ⟨c, hc, ho⟩ := once_ev l hF
      refine Ev.bind hc ?_
      cases c with
      | false => exact end_skip l loc
      | true =>
        have hO := ho rfl
        have ht := tot_few hF
        obtain ⟨m, x, z, rfl⟩ := last2 (l := l) (by omega)
        have hx := hF.2 x (by simp)
        have hOx := hO x (by simp)
        have hOz := hO z (by simp)
        have hml : m.length ≤ 10 := by have := hF.1; simp at this; omega
        have htf := tot_foldA m x z
        have hend : nEnd.f (m ++ [x, z]) = some (m ++ [joinAM x z]) := by
          unfold nEnd.f
          rw [if_pos (by rw [LIMv]; omega), if_neg (by omega), foldA2]
        have ha1 : nAll.f (m ++ [x, z]) = some ((allL (m ++ [x, z])).f0, (allL (m ++ [x, z])).f1) := by
          unfold nAll.f
          rw [if_pos (by rw [LIMv]; omega)]
        have ha2 : nAll.f (m ++ [joinAM x z]) = some ((allL (m ++ [joinAM x z])).f0, (allL (m ++ [joinAM x z])).f1) := by
          unfold nAll.f
          rw [if_pos (by rw [LIMv]; omega)]
        have hlp := fun (a b how how' : Int) (h1 : how = how') (h2 : (how = 2 ∧ (fR loc x.f0).isSome = true) ∨ a = b) => end_loop m x z loc a b how how' (allL (m ++ [x, z])).f1 (allL (m ++ [joinAM x z])).f1 (by omega) (by omega) (end_all m x z hOx).symm (by have := allL_W_len (m ++ [x, z]); omega) h1 h2 x.f0.length 0 false (by omega) (by rw [List.take_zero]; rfl)
        refine Ev.step (f := fun k => hallmootlaw13_NestEnd.l0 k (m ++ [x, z]) loc true (findL (m ++ [x, z]) loc).1 (findL (m ++ [x, z]) loc).2.2 (findL (m ++ [joinAM x z]) loc).1 (findL (m ++ [joinAM x z]) loc).2.2 (allL (m ++ [x, z])).f1 (allL (m ++ [joinAM x z])).f1 false ((0 : Nat) : Int)) (fun k => ?_) (hlp _ _ _ _ ?_ ?_)
        · rw [hallmootlaw13_NestEnd.j0, if_neg (by simp), fin_some, Option.bind_some, hend, Option.bind_some, fin_some, Option.bind_some, ha1, Option.bind_some, Option.bind_some, ha2, Option.bind_some]
          rfl
        all_goals
          have hW := end_W m x z hOz loc
          have hR := end_R m x z loc
          have hR0 : rR loc (m ++ [x, z]) = (fR loc z.f0).or ((fR loc x.f0).or (rR loc m)) := by
            rw [show m ++ [x, z] = (m ++ [x]) ++ [z] by simp, rR_snoc, rR_snoc]
          cases hq : rW loc (m ++ [x, z]) with
          | some y => rw [hq] at hW; rw [find_W hq, find_W hW]; first | done | exact .inr rfl
          | none =>
            rw [hq] at hW
            cases hzr : fR loc z.f0 with
            | some s =>
              rw [hzr] at hR hR0
              cases hxr : fR loc x.f0 with
              | some s' =>
                rw [hxr] at hR hR0
                rw [find_R hq hR0, find_R hW hR]
                first | done | exact .inl ⟨rfl, rfl⟩
              | none =>
                rw [hxr] at hR hR0
                rw [find_R hq hR0, find_R hW hR]
                first | done | exact .inr rfl
            | none =>
              rw [hzr] at hR hR0
              have he : rR loc (m ++ [joinAM x z]) = rR loc (m ++ [x, z]) := by rw [hR, hR0]; cases fR loc x.f0 <;> rfl
              cases hrr : rR loc (m ++ [x, z]) with
              | some s =>
                rw [hrr] at he
                rw [find_R hq hrr, find_R hW he]; first | done | exact .inr rfl
              | none =>
                rw [hrr] at he
                rw [find_0 hq hrr, find_0 hW he]; first | done | exact .inr rfl
end Go.Proofs.Ytfojpobblebigaa.Pure
