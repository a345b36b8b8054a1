/- lex.signs, lex.first. -/
import Derived.Test.YtphlbjpefnjjnaaDoorHb
import Derived.Deep.WholeRow
namespace Go.Proofs.YtphlbjpefnjjnaaDoor.P
open Go.RowKit Go.Proofs.YtphlbjpefnjjnaaDoorW.PrintWords Go.Proofs.YtphlbjpefnjjnaaDoorW.PrintLast Go.Proofs.YtphlbjpefnjjnaaDoorW.PrintMore
set_option linter.unusedVariables false
set_option linter.unusedSimpArgs false
def signsL : List ByteArray := [⟨#[59, 59]⟩, ⟨#[124, 124]⟩, ⟨#[38, 38]⟩, ⟨#[61, 61]⟩, ⟨#[46, 91]⟩, ⟨#[58, 61]⟩, ⟨#[45, 62]⟩, ⟨#[40]⟩, ⟨#[41]⟩, ⟨#[93]⟩, ⟨#[59]⟩, ⟨#[44]⟩, ⟨#[124]⟩, ⟨#[61]⟩, ⟨#[60]⟩, ⟨#[43]⟩, ⟨#[45]⟩, ⟨#[42]⟩, ⟨#[33]⟩]
def signsV : Array Value := (signsL.map Value.string).toArray
set_option maxRecDepth 100000 in
theorem res33 (w : World) (c : Array Value) (q : Value) (hz : (Tryd.prog.info? 56).map (·.size) = some 19) (hc : c.size = 19) :
    (results Tryd.f33 ((({ tmps := #[.pointer (some ⟨w.heap.size, 0, none⟩), q], defers := [] } : Act).put none undef).tmps)).run Tryd.prog (w.alloc (.cells c 56)) = .ok (.agg c) (w.alloc (.cells c 56)) := by
  have hl := run_loadVar_new (P := Tryd.prog) w 56 c 19 9 (by kernel_rfl) (hz.trans (by rw [hc]))
  generalize (w.alloc (.cells c 56)) = W at *
  simp [results, Tryd.results33, Act.put, asAddr, hl]
set_option maxHeartbeats 4000000 in
set_option maxRecDepth 1000000 in
theorem signs_walk (w : World) : Calls Tryd.prog 33 #[] w fun e w' => e = .returned (.agg signsV) ∧ Below w.heap.size w w' := by
  go_enter Tryd.func33, Tryd.ntmps33
  have hz : (Tryd.prog.info? 56).map (·.size) = some 19 := by kernel_rfl
  go_wp2_with (refine wpList_plain rfl fun _ hK => wp_store_row 56 (.tmp 0) (.tmp 1) rfl w.heap.size signsV rfl rfl 56 _ (heap_alloc_last w _) hz (by kernel_rfl) (by kernel_rfl) (hK _ _ ?_))
  rw [World.setRow_alloc_new]
  refine bodyPost_ret (v := .agg signsV) ?_ rfl ⟨rfl, (Below.refl _ w).alloc (Nat.le_refl _) _⟩
  exact res33 w signsV _ hz rfl
theorem index_signs : ∀ (i : Nat) (hi : i < 19) (W : World), (Instr.index 56 (.agg signsV) (.int .i64 (i : Int))).run Tryd.prog W = .ok (.string (signsL.getD i ⟨#[]⟩)) W
  | 0, _, W => by kernel_rfl
  | 1, _, W => by kernel_rfl
  | 2, _, W => by kernel_rfl
  | 3, _, W => by kernel_rfl
  | 4, _, W => by kernel_rfl
  | 5, _, W => by kernel_rfl
  | 6, _, W => by kernel_rfl
  | 7, _, W => by kernel_rfl
  | 8, _, W => by kernel_rfl
  | 9, _, W => by kernel_rfl
  | 10, _, W => by kernel_rfl
  | 11, _, W => by kernel_rfl
  | 12, _, W => by kernel_rfl
  | 13, _, W => by kernel_rfl
  | 14, _, W => by kernel_rfl
  | 15, _, W => by kernel_rfl
  | 16, _, W => by kernel_rfl
  | 17, _, W => by kernel_rfl
  | 18, _, W => by kernel_rfl
  | n + 19, h, W => absurd h (by omega)
theorem find_at {α : Type} (p : α → Bool) (d : α) : ∀ (l : List α) (i : Nat), i < l.length → p (l.getD i d) = true → (∀ j, j < i → p (l.getD j d) = false) → l.any p = true ∧ l.find? p = some (l.getD i d)
  | [], i, h, _, _ => absurd h (by simp)
  | x :: l, 0, _, hb, _ => by
    have hx : p x = true := hb
    simp [hx]
  | x :: l, i + 1, h, hb, ha => by
    have hx : p x = false := ha 0 (Nat.succ_pos _)
    have := find_at p d l i (by simpa using h) hb (fun j hj => ha (j + 1) (by omega))
    simp only [List.any_cons, hx, Bool.false_or, List.find?_cons]
    exact this
theorem find_none {α : Type} (p : α → Bool) (d : α) : ∀ (l : List α), (∀ j, j < l.length → p (l.getD j d) = false) → l.any p = false
  | [], _ => rfl
  | x :: l, ha => by
    have hx : p x = false := ha 0 (by simp)
    rw [List.any_cons, hx, Bool.false_or]
    exact find_none p d l (fun j hj => ha (j + 1) (by simpa using hj))
theorem signsL_len : signsL.length = 19 := rfl
def isSign (s p : ByteArray) : Bool := Lib.hasPrefix s.data.toList p.data.toList
def headB (s : ByteArray) : Int := ((s.data.toList.getD 0 0).toNat : Int)
def firstOk (s : ByteArray) : Bool :=
  if isLet (headB s) then decide (runV isWin s ≤ 12) else if isDig (headB s) then numOk s else signsL.any (isSign s)
def firstTok (s : ByteArray) : S30 :=
  if isLet (headB s) then ⟨1, s.extract 0 (runV isWin s), 0, 0⟩ else if isDig (headB s) then ⟨2, numW s, (valL (numW s).data.toList : Int), 0⟩ else ⟨3, (signsL.find? (isSign s)).getD ⟨#[]⟩, 0, 0⟩
set_option maxHeartbeats 4000000 in
set_option maxRecDepth 1000000 in
theorem first_walk (s : ByteArray) (hs : s.size ≤ 1000000) (h0 : 0 < s.size) (w : World) (hL : Laid w) :
    Calls Tryd.prog 19 #[.string s] w fun e w' => (∃ t : S30, (firstOk s = true → t = firstTok s) ∧ e = .returned (.tuple #[.agg #[.int .i64 t.f0, .string t.f1, .int .i64 t.f2, .int .i64 t.f3], .bool (firstOk s)])) ∧ Below w.heap.size w w' := by
  have hhd : ((s[0]'h0).toNat : Int) = headB s := by unfold headB; rw [Lib.getD_at s 0 h0]
  have hwr : wrap32 ((s[0]'h0).toNat : Int) = headB s := by
    have hb : ((s[0]'h0).toNat : Int) < 256 := by have := (s[0]'h0).toNat_lt; omega
    rw [← hhd]; unfold wrap32; omega
  have hwl := runV_le isWin s
  have HW := Aside0.mk hwl
  have hd0 : isDig (headB s) = true → 0 < runV isDig s := fun h => by
    unfold runV
    have := runL_at (p := isDig) h0
    rw [List.drop_zero] at this
    rw [this, if_pos (by rw [hhd]; exact h)]
    omega
  have HD := Aside0.mk hd0
  clear hwl hhd hd0
  obtain ⟨ct, hct⟩ : ∃ c, headB s = c := ⟨_, rfl⟩
  go_enter Tryd.func19, Tryd.ntmps19
  go_wp2_with fail
  rw [hwr, hct]
  clear hwr
  refine (lex_letter.calls ct _ _ (letter_eq ct)).mono ?_
  rintro e w1 ⟨rfl, hd1⟩
  have HB := Aside0.mk (((Below.refl w.heap.size w).alloc (Nat.le_refl _) tok0).trans (hd1.below.mono (by simp)))
  have BK := Aside0.mk (blk_below (blk_new w tok0) hd1.below)
  clear hd1
  have hL1 := hL.below HB.out
  clear hL
  have HL := Aside0.mk hL1
  clear hL1
  cases hl : isLet ct with
  | true =>
    have hOK : firstOk s = decide (runV isWin s ≤ 12) := by unfold firstOk; rw [hct, hl]; rfl
    have hTK : firstTok s = ⟨1, s.extract 0 (runV isWin s), 0, 0⟩ := by unfold firstTok; rw [hct, hl]; rfl
    have HO := Aside0.mk hOK
    have HT := Aside0.mk hTK
    clear hOK hTK hl hct
    go_wp2_with fail
    refine (run_within s (by omega) _).mono ?_
    rintro e w2 ⟨rfl, hb2⟩
    have HB2 := Aside0.mk (HB.out.trans (hb2.mono HB.out.size))
    have BK2 := Aside0.mk (blk_below BK.out hb2)
    clear hb2
    obtain ⟨⟨k0, k1, k2, k3⟩, f0, f1, f2, f3⟩ := blk4 BK2.out
    have hwl := HW.out
    go_wp2
    obtain ⟨⟨q0, q1, q2, q3⟩, -⟩ := blk4 (tok_put BK2.out (.int .i64 1) (.string (s.extract 0 (runV isWin s))) (.int .i64 0) (.int .i64 0))
    refine bodyPost_ret (v := .tuple #[.agg #[.int .i64 1, .string (s.extract 0 (runV isWin s)), .int .i64 0, .int .i64 0], .bool (firstOk s)]) ?_ rfl ?_
    · have hdd : decide ((runV isWin s : Int) ≤ 12) = decide (runV isWin s ≤ 12) := decide_eq_decide.2 (by omega)
      simp [results, Tryd.results19, go_sem, q0, q1, q2, q3, HO.out, hdd]
    · exact ⟨⟨⟨1, s.extract 0 (runV isWin s), 0, 0⟩, fun _ => HT.out.symm, rfl⟩, tok_below HB2.out _ (Nat.le_refl _) _ _ _ _⟩
  | false =>
    have hOK : firstOk s = if isDig ct then numOk s else signsL.any (isSign s) := by unfold firstOk; rw [hct, hl]; rfl
    have hTK : firstTok s = if isDig ct then ⟨2, numW s, (valL (numW s).data.toList : Int), 0⟩ else ⟨3, (signsL.find? (isSign s)).getD ⟨#[]⟩, 0, 0⟩ := by unfold firstTok; rw [hct, hl]; rfl
    have HO := Aside0.mk hOK
    have HT := Aside0.mk hTK
    rw [hct] at HD
    clear hOK hTK hl hct
    go_wp2_with fail
    refine (lex_digit.calls ct _ _ (digit_eq ct)).mono ?_
    rintro e w2 ⟨rfl, hd2⟩
    have HB2 := Aside0.mk (HB.out.trans (hd2.below.mono HB.out.size))
    have BK2 := Aside0.mk (blk_below BK.out hd2.below)
    have HL2 := Aside0.mk (HL.out.below hd2.below)
    clear hd2
    cases hd : isDig ct with
    | true =>
      rw [hd] at HO HT
      simp only [if_true] at HO HT
      have h00 := HD.out hd
      clear hd
      go_wp2_with fail
      refine (number_walk s hs h00 _ HL2.out).mono ?_
      rintro e w3 ⟨⟨n, hn, rfl⟩, hb3⟩
      have HN := Aside0.mk hn
      have HB3 := Aside0.mk (HB2.out.trans (hb3.mono HB2.out.size))
      have BK3 := Aside0.mk (blk_below BK2.out hb3)
      clear hb3 hn
      obtain ⟨⟨k0, k1, k2, k3⟩, f0, f1, f2, f3⟩ := blk4 BK3.out
      go_wp2
      obtain ⟨⟨q0, q1, q2, q3⟩, -⟩ := blk4 (tok_put BK3.out (.int .i64 2) (.string (numW s)) (.int .i64 n) (.int .i64 0))
      refine bodyPost_ret (v := .tuple #[.agg #[.int .i64 2, .string (numW s), .int .i64 n, .int .i64 0], .bool (firstOk s)]) ?_ rfl ?_
      · simp [results, Tryd.results19, go_sem, q0, q1, q2, q3, HO.out]
      · exact ⟨⟨⟨2, numW s, n, 0⟩, fun h => by rw [HT.out, HN.out (by rw [← HO.out]; exact h)], rfl⟩, tok_below HB3.out _ (Nat.le_refl _) _ _ _ _⟩
    | false =>
      rw [hd] at HO HT
      simp only [Bool.false_eq_true, if_false] at HO HT
      clear hd
      go_wp2_with fail
      refine (signs_walk _).mono ?_
      rintro e w3 ⟨rfl, hb3⟩
      have HB3 := Aside0.mk (HB2.out.trans (hb3.mono HB2.out.size))
      have BK3 := Aside0.mk (blk_below BK2.out hb3)
      clear hb3
      go_wp2_with fail
      go_loopg [30] 19 (fun gg s30 wr => ∃ i : Nat, i ≤ 19 ∧ 19 - i ≤ gg ∧ s30 = .int .i64 i ∧ Aside0 (Below w.heap.size w wr) ∧ Aside0 (wr.heap[w.heap.size]? = some tok0) ∧ Aside0 (∀ j, j < i → isSign s (signsL.getD j ⟨#[]⟩) = false))
      case atStart => exact ⟨0, by omega, by omega, rfl, HB3, BK3, ⟨fun j hj => absurd hj (Nat.not_lt_zero _)⟩⟩
      case round =>
        obtain ⟨i, hi, hg, rfl, BW, KW, AF⟩ := hrel
        by_cases hlt : i < 19
        · have hlti : (i : Int) < 19 := by omega
          have hix := index_signs i hlt wr
          generalize hq : signsL.getD i ⟨#[]⟩ = q at hix
          have HQ := Aside0.mk hq
          clear hq
          go_wp2_with fail
          refine (Tryd.strings_HasPrefix s q _).mono ?_
          rintro e w4 ⟨rfl, rfl⟩
          obtain ⟨⟨k0, k1, k2, k3⟩, f0, f1, f2, f3⟩ := blk4 KW.out
          obtain ⟨b, hb⟩ : ∃ b, Lib.hasPrefix s.data.toList q.data.toList = b := ⟨_, rfl⟩
          rw [hb]
          have HBb := Aside0.mk hb
          clear hb
          cases b with
          | true =>
            have hfa := find_at (isSign s) ⟨#[]⟩ signsL i hlt (by rw [HQ.out]; exact HBb.out) AF.out
            rw [HQ.out] at hfa
            have HFA := Aside0.mk hfa
            clear hfa
            go_wp2
            obtain ⟨⟨q0, q1, q2, q3⟩, -⟩ := blk4 (tok_put KW.out (.int .i64 3) (.string q) (.int .i64 0) (.int .i64 0))
            refine bodyPost_ret (v := .tuple #[.agg #[.int .i64 3, .string q, .int .i64 0, .int .i64 0], .bool (firstOk s)]) ?_ rfl ?_
            · simp [results, Tryd.results19, go_sem, q0, q1, q2, q3, HO.out, HFA.out.1]
            · exact ⟨⟨⟨3, q, 0, 0⟩, fun _ => by rw [HT.out, HFA.out.2]; rfl, rfl⟩, tok_below BW.out _ (Nat.le_refl _) _ _ _ _⟩
          | false =>
            go_wp2
            go_roundg (19 - (i + 1))
            case measure => omega
            case rel =>
              refine ⟨i + 1, by omega, by omega, by go_num, BW, KW, ⟨fun j hj => ?_⟩⟩
              by_cases e : j = i
              · subst e
                rw [HQ.out]; exact HBb.out
              · exact AF.out j (by omega)
        · obtain rfl : i = 19 := by omega
          have hlti : ¬ ((19 : Nat) : Int) < 19 := by omega
          have HFN := Aside0.mk (find_none (isSign s) ⟨#[]⟩ signsL AF.out)
          obtain ⟨⟨k0, k1, k2, k3⟩, f0, f1, f2, f3⟩ := blk4 KW.out
          go_wp2
          obtain ⟨⟨q0, q1, q2, q3⟩, -⟩ := blk4 (tok_put KW.out (.int .i64 0) (.string ⟨#[]⟩) (.int .i64 0) (.int .i64 0))
          refine bodyPost_ret (v := .tuple #[.agg #[.int .i64 0, .string ⟨#[]⟩, .int .i64 0, .int .i64 0], .bool (firstOk s)]) ?_ rfl ?_
          · simp [results, Tryd.results19, go_sem, q0, q1, q2, q3, HO.out, HFN.out]
          · exact ⟨⟨⟨0, ⟨#[]⟩, 0, 0⟩, fun h => absurd h (by rw [HO.out, HFN.out]; simp), rfl⟩, tok_below BW.out _ (Nat.le_refl _) _ _ _ _⟩
end Go.Proofs.YtphlbjpefnjjnaaDoor.P
