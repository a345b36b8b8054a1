/- The reference's Words computes the lexer over lists: the loop. -/
import Derived.Test.YtphlbjpefnjjnaaDoorLx
namespace Go.Proofs.YtphlbjpefnjjnaaDoor.P
open Go Go.RowKit Go.Proofs.YtphlbjpefnjjnaaDoorW.PrintWords Go.Proofs.YtphlbjpefnjjnaaDoorW.PrintLast Go.Proofs.YtphlbjpefnjjnaaDoorW.PrintMore
set_option linter.unusedVariables false
set_option linter.unusedSimpArgs false
theorem lexG_step {b : UInt8} {r : List UInt8} (hb : ¬ isBl b = true) {k : Int} {m : Nat} {n : Int} (hf : firstT (b :: r) = some (k, m, n)) (i : Nat) :
    lexG (b :: r) 0 i = (lexG ((b :: r).drop m) 0 (i + m)).map (fun l => tk k ((b :: r).take m) n i :: l) := by
  have hsz := firstT_size (by simp) hf
  rw [List.length_cons] at hsz
  rw [lexG, if_neg hb, hf]
  simp only []
  rw [lexG_skip r (m - 1) (i + 1) (by omega)]
  obtain ⟨m', rfl⟩ : ∃ m', m = m' + 1 := ⟨m - 1, by omega⟩
  rw [List.drop_succ_cons, Nat.add_sub_cancel, show i + 1 + m' = i + (m' + 1) by omega]
theorem firstT_sgn {l : List UInt8} (h1 : isLet (headL l) = false) (h2 : isDig (headL l) = false) : (sgn l = 0 → firstT l = none) ∧ (sgn l ≠ 0 → firstT l = some (3, (sgn l).toNat, 0) ∧ 0 ≤ sgn l) := by
  unfold sgn firstT
  rw [if_neg (by rw [h1]; simp), if_neg (by rw [h2]; simp)]
  cases hf : sgs.find? (fun p : List UInt8 => p.isPrefixOf l) with
  | none => simp
  | some p =>
    have := sgs_len p (List.mem_of_find?_eq_some hf)
    simp only [Option.map_some, Int.toNat_natCast]
    refine ⟨fun h => ?_, fun _ => ⟨by first | trivial | rfl, by omega⟩⟩
    omega
theorem sgn_95 (r : List UInt8) : sgn (95 :: r) = 0 := by
  rw [sgn_chain]
  simp
theorem cls_cases (b : UInt8) : (cls (b.toNat : Int) = 4 ∧ isBl b = true) ∨ (isBl b = false ∧ ((cls (b.toNat : Int) = 1 ∧ isLet (b.toNat : Int) = true) ∨ (isLet (b.toNat : Int) = false ∧ ((cls (b.toNat : Int) = 2 ∧ isDig (b.toNat : Int) = true) ∨ (isDig (b.toNat : Int) = false ∧ ((cls (b.toNat : Int) = 3 ∧ b = 95) ∨ (cls (b.toNat : Int) = 0 ∧ b ≠ 95))))))) := by
  by_cases hb : isBl b = true
  · left
    refine ⟨?_, hb⟩
    rcases isBl_cases hb with rfl | rfl | rfl <;> rfl
  · right
    refine ⟨by simpa using hb, ?_⟩
    unfold cls
    by_cases h1 : isLet (b.toNat : Int) = true
    · rw [if_pos h1]; exact .inl ⟨rfl, h1⟩
    · rw [if_neg h1]
      refine .inr ⟨by simpa using h1, ?_⟩
      by_cases h2 : isDig (b.toNat : Int) = true
      · rw [if_pos h2]; exact .inl ⟨rfl, h2⟩
      · rw [if_neg h2]
        refine .inr ⟨by simpa using h2, ?_⟩
        by_cases h3 : (b.toNat : Int) = 95
        · rw [if_pos h3]; exact .inl ⟨rfl, UInt8.toNat_inj.1 (show b.toNat = 95 by omega)⟩
        · rw [if_neg h3, if_neg]
          · exact .inr ⟨rfl, fun e => h3 (by rw [e]; rfl)⟩
          · intro h4
            apply hb
            have : b = 9 ∨ b = 10 ∨ b = 32 := by
              rcases h4 with h | h | h
              · exact .inl (UInt8.toNat_inj.1 (show b.toNat = 9 by omega))
              · exact .inr (.inl (UInt8.toNat_inj.1 (show b.toNat = 10 by omega)))
              · exact .inr (.inr (UInt8.toNat_inj.1 (show b.toNat = 32 by omega)))
            rcases this with rfl | rfl | rfl <;> rfl
/-- What follows the longest run does not satisfy the predicate. -/
theorem runL_stop (p : Int → Bool) : ∀ l : List UInt8, runL p l < l.length → p ((l.getD (runL p l) 0).toNat : Int) = false
  | [], h => absurd h (by simp)
  | b :: l, h => by
    unfold runL at h ⊢
    by_cases hb : p (b.toNat : Int) = true
    · rw [if_pos hb] at h ⊢
      exact runL_stop p l (by simpa using h)
    · rw [if_neg hb] at h ⊢
      simpa using hb
def resG (out : List S30) : Option (List S30) → List S30 × Int
  | some l => (out ++ l, 0)
  | none => ([], 3)
theorem resG_map (out : List S30) (t : S30) (o : Option (List S30)) : resG out (o.map (fun l => t :: l)) = resG (out ++ [t]) o := by
  cases o <;> simp [resG]
theorem ref_l0 (s : ByteArray) (hs : s.size ≤ 3000) (d : Nat) : ∀ (i k : Nat) (out : List S30), i + d = s.size → 6 * d + 20 ≤ k → out.length ≤ i →
    hallmootref04_Words.l0 k s out (i : Int) = some (resG out (lexG (s.data.toList.drop i) 0 i)) := by
  induction d using Nat.strongRecOn with
  | _ d ih =>
    intro i k out hi hk ho
    obtain ⟨k, rfl⟩ : ∃ m, k = m + 1 := ⟨k - 1, by omega⟩
    simp only [hallmootref04_Words.l0]
    by_cases hlt : i < s.size
    · rw [if_pos (by omega), if_pos (by omega), class_eq _ _ (by omega)]
      simp only [Option.bind_some]
      obtain ⟨b, r, hbr⟩ : ∃ b r, s.data.toList.drop i = b :: r := by
        cases hq : s.data.toList.drop i with
        | nil => have := congrArg List.length hq; rw [List.length_drop, sizeL] at this; simp at this; omega
        | cons b r => exact ⟨b, r, rfl⟩
      have hb : bt s (i : Int) = (b.toNat : Int) := by
        rw [bt_list, ← getD_drop, hbr]; rfl
      have hlen : (b :: r).length = s.size - i := by rw [← hbr, List.length_drop, sizeL]
      have hdrop : ∀ m, (b :: r).drop m = s.data.toList.drop (i + m) := fun m => by rw [← hbr, List.drop_drop]
      rw [hb, w64 (n := (i : Int) + 1) (by omega) (by omega)]
      have hhd : headL (b :: r) = (b.toNat : Int) := rfl
      have hextr : ∀ m, s.extract i (i + m) = ⟨((b :: r).take m).toArray⟩ := fun m => by
        apply ba_ext
        rw [extract_list, hbr, Nat.add_sub_cancel_left]
      -- a token of m bytes, told by both
      have htok : ∀ (c : Int) (m : Nat) (n : Int) (k' : Nat), isBl b = false → firstT (b :: r) = some (c, m, n) → 6 * (d - m) + 20 ≤ k' →
          hallmootref04_Words.l0 k' s (out ++ [⟨c, s.extract i (i + m), n, (i : Int)⟩]) ((i + m : Nat) : Int) = some (resG out (lexG (b :: r) 0 i)) := fun c m n k' hbl hf hk' => by
        have hsz := firstT_size (by simp) hf
        rw [hlen] at hsz
        rw [lexG_step (by simp [hbl]) hf i, hdrop, resG_map, hextr]
        exact ih (d - m) (by omega) (i + m) k' _ (by omega) hk' (by rw [List.length_append, List.length_singleton]; omega)
      rcases cls_cases b with ⟨hc, hbl⟩ | ⟨hbl, h⟩
      · rw [hc, if_pos (by decide), hbr, lexG, if_pos hbl]
        have := ih (d - 1) (by omega) (i + 1) k out (by omega) (by omega) (by omega)
        rw [show s.data.toList.drop (i + 1) = r by rw [← hdrop]; rfl] at this
        rw [show (i : Int) + 1 = ((i + 1 : Nat) : Int) by omega]
        exact this
      · rcases h with ⟨hc, hlet⟩ | ⟨hnl, h⟩
        · -- a name
          rw [hc, if_neg (by decide), if_neg (by decide), if_neg (by decide)]
          have hrun : runL isWin (b :: r) = runL isWin r + 1 := if_pos (isWin_let hlet)
          have hrl := runL_le isWin r
          rw [List.length_cons] at hlen
          rw [show (i : Int) + 1 = ((i + 1 : Nat) : Int) by omega, ref_l1 s (by omega) out i 1 (.inl rfl) (d - 1) (i + 1) k (by omega) (by omega), if_pos rfl,
            show s.data.toList.drop (i + 1) = r by rw [← hdrop]; rfl, hbr]
          obtain ⟨k2, hk2⟩ : ∃ m, k - 1 - runL isWin r = m + 2 := ⟨k - 3 - runL isWin r, by omega⟩
          rw [hk2]
          simp only [hallmootref04_Words.j2]
          rw [if_pos (by omega), if_pos (by omega), if_pos (by omega), if_pos (by decide), w64 (by omega) (by omega)]
          simp only [hallmootref04_Words.j3]
          have hfT : firstT (b :: r) = if runL isWin (b :: r) ≤ 12 then some (1, runL isWin (b :: r), 0) else none := by unfold firstT; rw [hhd, if_pos hlet]
          rw [hrun] at hfT
          by_cases h12 : runL isWin r + 1 ≤ 12
          · rw [if_neg (by simp; omega), if_neg (by decide), if_pos (by omega), Int.toNat_natCast, Int.toNat_natCast]
            rw [if_pos h12] at hfT
            have := htok 1 (runL isWin r + 1) 0 k2 hbl hfT (by omega)
            rw [show i + 1 + runL isWin r = i + (runL isWin r + 1) by omega]
            exact this
          · rw [if_pos (by simp; omega)]
            rw [if_neg h12] at hfT
            rw [lexG, if_neg (by simp [hbl]), hfT]
            rfl
        · rcases h with ⟨hc, hdig⟩ | ⟨hnd, h⟩
          · -- a number
            rw [hc, if_neg (by decide), if_neg (by decide), if_neg (by decide)]
            have hrun : runL isDig (b :: r) = runL isDig r + 1 := if_pos hdig
            have hrl := runL_le isDig r
            rw [List.length_cons] at hlen
            rw [show (i : Int) + 1 = ((i + 1 : Nat) : Int) by omega, ref_l1 s (by omega) out i 2 (.inr rfl) (d - 1) (i + 1) k (by omega) (by omega), if_neg (by decide),
              show s.data.toList.drop (i + 1) = r by rw [← hdrop]; rfl, hbr]
            obtain ⟨k2, hk2⟩ : ∃ m, k - 1 - runL isDig r = m + 2 := ⟨k - 3 - runL isDig r, by omega⟩
            rw [hk2]
            have hfT : firstT (b :: r) = if nOk (b :: r) then some (2, runL isDig (b :: r), (valL ((b :: r).take (runL isDig (b :: r))) : Int)) else none := by
              unfold firstT; rw [hhd, if_neg (by rw [hnl]; simp), if_pos hdig]
            have hdt := digs_take (b :: r)
            rw [show i + 1 + runL isDig r = i + (runL isDig r + 1) by omega]
            have hno : nOk (b :: r) = (decide (runL isDig r + 1 ≤ 13) && decide ((valL ((b :: r).take (runL isDig r + 1)) : Int) ≤ 1099511627776) && decide (Lib.itoa (valL ((b :: r).take (runL isDig r + 1))) = (b :: r).take (runL isDig r + 1)) && !(decide (runL isDig r + 1 < (b :: r).length) && isWin (((b :: r).getD (runL isDig r + 1) 0).toNat : Int))) := by
              unfold nOk; rw [hrun]
            have hst := runL_stop isDig (b :: r)
            rw [hrun] at hfT hdt hst
            generalize hm : runL isDig r + 1 = m at *
            simp only [hallmootref04_Words.j2]
            rw [if_pos (by omega), if_pos (by omega), if_pos (by omega), if_neg (by decide)]
            simp only [hallmootref04_Words.j3]
            rw [if_neg (by simp), if_pos (by decide), if_pos (by omega), if_pos (by omega), if_pos (by omega), Int.toNat_natCast, Int.toNat_natCast]
            have hxl : (s.extract i (i + m)).data.toList = (b :: r).take m := by rw [hextr]
            have hxs : (s.extract i (i + m)).size = m := by rw [← sizeL, hxl, List.length_take, List.length_cons]; omega
            have hhd2 : ((b :: r).take m).getD 0 0 = b := by
              obtain ⟨m', rfl⟩ : ∃ m', m = m' + 1 := ⟨m - 1, by omega⟩
              rfl
            have hitoa := dec_iff ((b :: r).take m) (by intro e; have := congrArg List.length e; rw [List.length_take, List.length_cons] at this; simp at this; omega) hdt
            rw [hhd2, List.length_take, List.length_cons, Nat.min_eq_left (by omega)] at hitoa
            rw [num_eq _ (by omega) (by rw [hxl]; exact hdt) k2 (by omega), hxs, hxl, hhd2]
            simp only [Option.bind_some]
            generalize hv : valL ((b :: r).take m) = v at *
            have hfail : nOk (b :: r) = false → some (([] : List S30), (3 : Int)) = some (resG out (lexG (b :: r) 0 i)) := fun h => by
              rw [h, if_neg (by simp)] at hfT
              rw [lexG, if_neg (by simp [hbl]), hfT]
              rfl
            have hgood : nOk (b :: r) = true → (if out.length < 3518437208883 then hallmootref04_Words.l0 k2 s (out ++ [(⟨2, s.extract i (i + m), (v : Int), (i : Int)⟩ : S30)]) ((i + m : Nat) : Int) else none) = some (resG out (lexG (b :: r) 0 i)) := fun h => by
              rw [h, if_pos rfl] at hfT
              rw [if_pos (by omega)]
              exact htok 2 m v k2 hbl hfT (by omega)
            by_cases hbad : 13 < m ∨ (b = 48 ∧ 1 < m) ∨ (v : Int) > 1099511627776
            · rw [if_pos hbad]
              have hnf : nOk (b :: r) = false := by
                rw [hno]
                rcases hbad with h | h | h
                · rw [decide_eq_false (show ¬ m ≤ 13 by omega)]; rfl
                · rw [decide_eq_false (fun e => (hitoa.1 e) h)]; simp
                · rw [decide_eq_false (show ¬ (v : Int) ≤ 1099511627776 by omega)]; simp
              by_cases hx : ((i + m : Nat) : Int) < (s.size : Int)
              · rw [if_pos hx, if_pos (by omega), class_eq _ _ (by omega)]
                simp only [Option.bind_some]
                rw [if_pos (by decide)]
                exact hfail hnf
              · rw [if_neg hx, if_pos (by decide)]
                exact hfail hnf
            · rw [if_neg hbad]
              have hq : nOk (b :: r) = !(decide (m < (b :: r).length) && isWin (((b :: r).getD m 0).toNat : Int)) := by
                rw [hno, decide_eq_true (show m ≤ 13 by omega), decide_eq_true (show (v : Int) ≤ 1099511627776 by omega), decide_eq_true (hitoa.2 (fun e => hbad (.inr (.inl e))))]
                simp
              by_cases hx : ((i + m : Nat) : Int) < (s.size : Int)
              · rw [if_pos hx, if_pos (by omega), class_eq _ _ (by omega)]
                simp only [Option.bind_some]
                rw [if_neg (show ¬ (v : Int) < 0 by omega)]
                have hml : m < (b :: r).length := by rw [List.length_cons]; omega
                have hbx : bt s ((i + m : Nat) : Int) = (((b :: r).getD m 0).toNat : Int) := by
                  rw [bt_list, ← hbr]
                  simp only [List.getD_eq_getElem?_getD, List.getElem?_drop]
                rw [hbx]
                have hnd2 := hst hml
                rw [decide_eq_true hml, Bool.true_and] at hq
                unfold isWin at hq
                rw [hnd2, Bool.or_false] at hq
                unfold cls
                rw [hnd2]
                by_cases hl : isLet (((b :: r).getD m 0).toNat : Int) = true
                · rw [if_pos hl, if_pos (by decide)]
                  exact hfail (by rw [hq, hl]; rfl)
                · rw [if_neg hl]
                  simp only [Bool.false_eq_true, if_false]
                  by_cases h95 : (((b :: r).getD m 0).toNat : Int) = 95
                  · rw [if_pos h95, if_neg (by decide), if_pos (by decide)]
                    exact hfail (by rw [hq, decide_eq_true h95]; simp)
                  · rw [if_neg h95]
                    have hg := hgood (by rw [hq, decide_eq_false h95, show isLet (((b :: r).getD m 0).toNat : Int) = false by simpa using hl]; rfl)
                    by_cases hw : (((b :: r).getD m 0).toNat : Int) = 9 ∨ (((b :: r).getD m 0).toNat : Int) = 10 ∨ (((b :: r).getD m 0).toNat : Int) = 32
                    · rw [if_pos hw, if_neg (by decide), if_neg (by decide)]; exact hg
                    · rw [if_neg hw, if_neg (by decide), if_neg (by decide)]; exact hg
              · rw [if_neg hx, if_neg (show ¬ (v : Int) < 0 by omega), if_neg (by decide), if_neg (by decide)]
                refine hgood ?_
                rw [hq, decide_eq_false (show ¬ m < (b :: r).length by rw [List.length_cons]; omega)]
                rfl
          · have hsg := firstT_sgn (l := b :: r) (by rw [hhd]; exact hnl) (by rw [hhd]; exact hnd)
            rcases h with ⟨hc, rfl⟩ | ⟨hc, h95⟩
            · rw [hc, if_neg (by decide), if_pos (by decide), hbr, lexG, if_neg (by simp [hbl]), hsg.1 (sgn_95 r)]
              rfl
            · rw [hc, if_neg (by decide), if_neg (by decide), if_pos (by decide), sign_eq s i k hlt (by omega) (by omega), hbr]
              simp only [Option.bind_some]
              by_cases h0 : sgn (b :: r) = 0
              · rw [if_pos h0, lexG, if_neg (by simp [hbl]), hsg.1 h0]
                rfl
              · obtain ⟨hf, hp⟩ := hsg.2 h0
                have hsz := firstT_size (by simp) hf
                rw [hlen] at hsz
                obtain ⟨m, hm⟩ : ∃ m : Nat, sgn (b :: r) = (m : Int) := ⟨(sgn (b :: r)).toNat, by omega⟩
                rw [hm, Int.toNat_natCast] at hsz
                rw [hm, Int.toNat_natCast] at hf
                rw [if_neg h0, hm, w64 (n := (i : Int) + (m : Int)) (by omega) (by omega), if_pos (by omega), if_pos (by omega), if_pos (by omega)]
                rw [show (i : Int) + (m : Int) = ((i + m : Nat) : Int) by omega, Int.toNat_natCast, Int.toNat_natCast]
                exact htok 3 m 0 k hbl hf (by omega)
    · rw [if_neg (by omega), List.drop_of_length_le (by rw [sizeL]; omega), lexG]
      simp [resG]
theorem ref_eq (s : ByteArray) (hs : s.size ≤ 3000) (k : Nat) (hk : 6 * s.size + 20 ≤ k) : hallmootref04_Words.f k s = some (lexR s.data.toList) := by
  unfold hallmootref04_Words.f
  rw [if_neg (by omega)]
  have := ref_l0 s hs s.size 0 k [] (by omega) hk (by simp)
  rw [List.drop_zero] at this
  rw [show (0 : Int) = ((0 : Nat) : Int) from rfl, this]
  unfold lexR resG
  cases lexG s.data.toList 0 0 <;> simp
end Go.Proofs.YtphlbjpefnjjnaaDoor.P
