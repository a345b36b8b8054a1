/- lex.Words. -/
import Derived.Test.YtphlbjpefnjjnaaDoorHc
namespace Go.Proofs.YtphlbjpefnjjnaaDoor.P
open Go.RowKit Go.Proofs.YtphlbjpefnjjnaaDoorW.PrintWords Go.Proofs.YtphlbjpefnjjnaaDoorW.PrintLast Go.Proofs.YtphlbjpefnjjnaaDoorW.PrintMore
set_option linter.unusedVariables false
set_option linter.unusedSimpArgs false
def trimS (s : ByteArray) : ByteArray := ⟨(Lib.trimLeftS s.data.toList [32, 9, 10]).toArray⟩
def restS (s : ByteArray) : ByteArray := s.extract (firstTok s).f1.size s.size
def tokS (n : Nat) (s : ByteArray) : S30 := ⟨(firstTok s).f0, (firstTok s).f1, (firstTok s).f2, (n : Int) - (s.size : Int)⟩
def lexS : Nat → Nat → ByteArray → List S30 → List S30 × Int
  | 0, n, s, out => (out, 0)
  | k + 1, n, s, out => if s.size = 0 then (out, 0) else if firstOk s then lexS k n (trimS (restS s)) (out ++ [tokS n s]) else ([], 3)
def wordsV (text : ByteArray) : List S30 × Int := if 3000 < text.size then ([], 2) else lexS (text.size + 1) text.size (trimS text) []
theorem trimL_le (l cs : List UInt8) : (Lib.trimLeftS l cs).length ≤ l.length := by
  unfold Lib.trimLeftS
  exact (List.dropWhile_sublist _).length_le
theorem size_mk (l : List UInt8) : (⟨l.toArray⟩ : ByteArray).size = l.length := by simp [ByteArray.size]
theorem trimS_le (s : ByteArray) : (trimS s).size ≤ s.size := by
  have := trimL_le s.data.toList [32, 9, 10]
  unfold trimS
  rw [size_mk]
  rwa [sizeL] at this
theorem first_size (s : ByteArray) (h0 : 0 < s.size) (h : firstOk s = true) : 1 ≤ (firstTok s).f1.size ∧ (firstTok s).f1.size ≤ s.size := by
  have hhd : ((s[0]'h0).toNat : Int) = headB s := by unfold headB; rw [Lib.getD_at s 0 h0]
  have hrun : ∀ p : Int → Bool, p (headB s) = true → 0 < runV p s := fun p hp => by
    unfold runV
    have := runL_at (p := p) h0
    rw [List.drop_zero] at this
    rw [this, if_pos (by rw [hhd]; exact hp)]
    omega
  unfold firstOk at h
  unfold firstTok
  cases hl : isLet (headB s) with
  | true =>
    have h1 := hrun isWin (by unfold isWin; rw [hl]; rfl)
    have h2 := runV_le isWin s
    simp only [if_true]
    rw [ByteArray.size_extract]
    omega
  | false =>
    rw [hl] at h
    simp only [Bool.false_eq_true, if_false] at h ⊢
    cases hd : isDig (headB s) with
    | true =>
      have h1 := hrun isDig hd
      have h2 := runV_le isDig s
      simp only [if_true]
      rw [numW_size]
      omega
    | false =>
      rw [hd] at h
      simp only [Bool.false_eq_true, if_false] at h ⊢
      obtain ⟨p, hp1, hp2⟩ := List.any_eq_true.1 h
      cases hf : signsL.find? (isSign s) with
      | none =>
        have := List.find?_eq_none.1 hf p hp1
        exact absurd hp2 this
      | some q =>
        have hq1 := List.find?_some hf
        have hq2 := List.mem_of_find?_eq_some hf
        have hq3 : 1 ≤ q.size := by
          have hall : ∀ x ∈ signsL, 1 ≤ x.size := by decide +kernel
          exact hall q hq2
        have hq4 : q.size ≤ s.size := by
          have := (List.isPrefixOf_iff_prefix.1 hq1).length_le
          rwa [sizeL, sizeL] at this
        exact ⟨hq3, hq4⟩
theorem trim_walk (s : ByteArray) (w : World) : Calls Tryd.prog 18 #[.string s, .string ⟨#[32, 9, 10]⟩] w fun e w' => e = .returned (.string (trimS s)) ∧ Below w.heap.size w w' :=
  Any.strings_TrimLeft_laid Tryd.lays161 (by kernel_rfl) s ⟨#[32, 9, 10]⟩ w (by decide) (fun j b hb => by
    match j with
    | 0 => cases hb; decide
    | 1 => cases hb; decide
    | 2 => cases hb; decide
    | n + 3 => cases hb)
set_option maxHeartbeats 4000000 in
set_option maxRecDepth 1000000 in
theorem words_walk (s0 : ByteArray) (hs0 : s0.size ≤ 9223372036854775807) (w : World) (hL : Laid w) :
    Calls Tryd.prog 10 #[.string s0] w fun e w' => ∃ v0_ : Value, e = .returned (.tuple #[v0_, .int .i64 (wordsV s0).2]) ∧ Kd.R k30 30 w' w.heap.size (fun _ => True) v0_ (wordsV s0).1 ∧ Below w.heap.size w w' := by
  have info30' := info30
  go_enter Tryd.func10, Tryd.ntmps10
  by_cases hbig : 3000 < s0.size
  · have hbi : (3000 : Int) < (s0.size : Int) := by omega
    go_wp2
    refine bodyPost_ret (v := .tuple #[.slice none 0 0, .int .i64 2]) (by simp [results, Tryd.results10, go_sem]) rfl ?_
    rw [show wordsV s0 = ([], 2) from if_pos hbig]
    exact ⟨_, rfl, Kd.R_nil _ _ _ _ _, Below.refl _ _⟩
  · have hbi : ¬ (3000 : Int) < (s0.size : Int) := by omega
    go_wp2_with fail
    refine (trim_walk s0 _).mono ?_
    rintro e w1 ⟨rfl, hb1⟩
    have HB1 := Aside0.mk hb1
    clear hb1
    have hWV : lexS (s0.size + 1) s0.size (trimS s0) [] = wordsV s0 := by unfold wordsV; rw [if_neg hbig]
    have HWV := Aside0.mk hWV
    have htl := trimS_le s0
    clear hWV
    generalize trimS s0 = t0 at *
    go_wp2_with fail
    go_loopg [4, 5] (s0.size + 1) (fun gg v4 v5 wr => ∃ (kg : Nat) (s : ByteArray) (out : List S30), kg ≤ gg ∧ v5 = .string s ∧ s.size ≤ s0.size ∧ s.size + 1 ≤ kg ∧ out.length + s.size ≤ s0.size ∧ Aside0 (lexS kg s0.size s out = wordsV s0) ∧ Aside0 (Kd.R k30 30 wr w.heap.size (fun _ => True) v4 out) ∧ Aside0 (Below w.heap.size w wr))
    case atStart =>
      exact ⟨s0.size + 1, t0, [], Nat.le_refl _, rfl, htl, by omega, by simp; exact htl, HWV, ⟨Kd.R_nil _ _ _ _ _⟩, HB1⟩
    case round =>
      obtain ⟨kg, s, out, hkg, rfl, h1, h2, h3, HLX, HR, HB⟩ := hrel
      obtain ⟨kf, rfl⟩ : ∃ kf, kg = kf + 1 := ⟨kg - 1, by omega⟩
      by_cases hz : s.size = 0
      · have hse : s = ⟨#[]⟩ := by
          cases s with
          | mk d => rw [show d = #[] from Array.eq_empty_of_size_eq_zero hz]
        have hX : wordsV s0 = (out, 0) := by
          rw [← HLX.out]
          unfold lexS
          rw [if_pos hz]
        subst hse
        have HX := Aside0.mk hX
        clear hX
        go_wp2
        refine bodyPost_ret (v := .tuple #[u4, .int .i64 0]) (by simp [results, Tryd.results10, go_sem]) rfl ?_
        rw [HX.out]
        exact ⟨_, rfl, HR.out, HB.out⟩
      · have hnil : ¬ s.toList = [] := by
          intro e
          rw [Lib.toList_data] at e
          have := congrArg List.length e
          rw [sizeL] at this
          exact hz this
        have hemp : s.toList.isEmpty = false := by cases hq : s.toList with
          | nil => exact absurd hq hnil
          | cons a l => rfl
        clear hnil
        have HFW := Aside0.mk (fun W (hB : Below w.heap.size w W) => first_walk s (by omega) (by omega) W (hL.below hB))
        have hlx : lexS (kf + 1) s0.size s out = if firstOk s then lexS kf s0.size (trimS (restS s)) (out ++ [tokS s0.size s]) else ([], 3) := by
          conv => lhs; unfold lexS
          rw [if_neg hz]
        have HLY := Aside0.mk (hlx.symm.trans HLX.out)
        have HSZ := Aside0.mk (first_size s (by omega))
        clear hlx HLX
        cases hok : firstOk s with
        | false =>
          rw [hok] at HLY HFW
          go_wp2_with fail
          refine (HFW.out _ HB.out).mono ?_
          rintro e w2 ⟨⟨t, ht, rfl⟩, hb2⟩
          have HB2 := Aside0.mk (HB.out.trans (hb2.mono HB.out.size))
          clear hb2 ht
          go_wp2
          refine bodyPost_ret (v := .tuple #[.slice none 0 0, .int .i64 3]) (by simp [results, Tryd.results10, go_sem]) rfl ?_
          have hX := HLY.out
          rw [if_neg (by simp)] at hX
          rw [← hX]
          exact ⟨_, rfl, Kd.R_nil _ _ _ _ _, HB2.out.trans ((Below.refl _ _).alloc (Nat.le_refl _) _ |>.mono HB2.out.size)⟩
        | true =>
          rw [hok] at HLY HFW
          go_wp2_with fail
          refine (HFW.out _ HB.out).mono ?_
          rintro e w2 ⟨⟨t, ht, rfl⟩, hb2⟩
          obtain rfl : t = firstTok s := by first | exact ht rfl | exact ht | simpa using ht
          obtain ⟨hz1, hz2⟩ := HSZ.out hok
          have HB2 := Aside0.mk (HB.out.trans (hb2.mono HB.out.size))
          have HR2 := Aside0.mk (Kd.R_elderB (Kd.R_below HR.out hb2) w2.heap.size (Nat.le_refl _))
          have hsz2 := hb2.size
          have hbs := HB2.out.size
          clear hb2 ht hok
          have hwr : wrap64 ((s0.size : Int) - (s.size : Int)) = (s0.size : Int) - (s.size : Int) := by unfold wrap64; omega
          generalize hF0 : (firstTok s).f0 = F0 at *
          generalize hF1 : (firstTok s).f1 = F1 at *
          generalize hF2 : (firstTok s).f2 = F2 at *
          have hTK : tokS s0.size s = ⟨F0, F1, F2, (s0.size : Int) - (s.size : Int)⟩ := by unfold tokS; rw [hF0, hF1, hF2]
          have hRS : restS s = s.extract F1.size s.size := by unfold restS; rw [hF1]
          have HTK := Aside0.mk hTK
          have HRS := Aside0.mk hRS
          clear hTK hRS hF0 hF1 hF2
          have HBK := Aside0.mk (blk_new w2 (Obj.cells #[.int .i64 F0, .string F1, .int .i64 F2, .int .i64 ((s0.size : Int) - (s.size : Int))] 30 (0, 0)))
          have HNE : Aside0 (some w2.heap.size ≠ u4.ownBlock) := ⟨Kd.R_away HR2.out (fun _ hk => hk.2)⟩
          have HS2 := Aside0.mk hsz2
          have HS3 := Aside0.mk hbs
          clear hsz2 hbs
          go_wp2_with ((with_reducible refine gate_builtin (b := .append) (xs := #[.tmp 30, .tmp 32]) rfl ?_); at_builtin; refine Kd.R_append k30 (w0 := w) w.heap.size rfl (.tmp 30) (.tmp 32) 23 30 (.agg #[(.int .i64 0), (.string ⟨#[]⟩), (.int .i64 0), (.int .i64 0)]) 40 rfl Tryd.underlying23 info30 rfl (by decide) (by omega) u4 out (⟨F0, F1, F2, (s0.size : Int) - (s.size : Int)⟩ : S30) [.int .i64 F0, .string F1, .int .i64 F2, .int .i64 ((s0.size : Int) - (s.size : Int))] (fun k_ => True ∧ k_ ≠ w2.heap.size) (fun _ => False) rfl (by first | rfl | (go_simp; done) | (go_simp; rfl) | (simp [Act.eval]; done)) ?aP (fun _ hk => hk.elim) ?aF ?aO ?aB ?aS ?aL ?_; (case aP => exact k30_mkM _ _ _ (⟨F0, F1, F2, (s0.size : Int) - (s.size : Int)⟩ : S30)); (case aB => exact below_alloc HB2.out _); (case aF => exact (fun k_ hk => ⟨trivial, by simp at hk; omega⟩)); (case aO => exact Kd.R_alloc HR2.out _); (case aS => have := HS3.out; simp; omega); (case aL => omega); intro v166 w63 ho hb hg hat; have bk := blk_grown HBK.out hg HNE.out; have kc1 : w63.cell? ⟨w2.heap.size, 1, none⟩ = some (.string F1) := (blk_cell bk 1).trans rfl; have HO6 := Aside0.mk ho; have HB6 := Aside0.mk hb; clear ho hb hg hat bk)
          rw [← HRS.out]
          refine (trim_walk _ _).mono ?_
          rintro e w7 ⟨rfl, hb7⟩
          have HB7 := Aside0.mk (HB6.out.trans (hb7.mono HB6.out.size))
          have HR7 := Aside0.mk (Kd.R_below HO6.out hb7)
          clear hb7 kc1
          go_wp2
          go_roundg kf
          case measure => omega
          case rel =>
            have hrs : (restS s).size = s.size - F1.size := by rw [HRS.out, ByteArray.size_extract]; omega
            have htr := trimS_le (restS s)
            have hly := HLY.out
            rw [if_pos trivial, HTK.out] at hly
            exact ⟨kf, trimS (restS s), _, Nat.le_refl _, rfl, by omega, by omega, by simp; omega, ⟨hly⟩, ⟨Kd.R_mono HR7.out (fun _ _ => trivial)⟩, HB7⟩
end Go.Proofs.YtphlbjpefnjjnaaDoor.P
