/- lex.run: the length of the longest prefix whose characters satisfy a predicate (one that no character beyond ASCII satisfies). -/
import Derived.Test.YtphlbjpefnjjnaaDoorPx18
import Derived.Test.YtphlbjpefnjjnaaDoorPx20
import Derived.Test.YtphlbjpefnjjnaaDoorPx21
import Derived.Lib.OthersKept
import Derived.WalkKit
import Derived.BigCall
import Derived.WalkSpells
import Derived.Outline
import Derived.Shelf.Abstract
namespace Go.Proofs.YtphlbjpefnjjnaaDoor.P
open Go.RowKit Go.Proofs.YtphlbjpefnjjnaaDoorW.PrintWords Go.Proofs.YtphlbjpefnjjnaaDoorW.PrintLast Go.Proofs.YtphlbjpefnjjnaaDoorW.PrintMore
set_option linter.unusedVariables false
set_option linter.unusedSimpArgs false
/-- How many bytes at the head satisfy p. -/
def runL (p : Int → Bool) : List UInt8 → Nat
  | [] => 0
  | b :: l => if p (b.toNat : Int) then runL p l + 1 else 0
def runV (p : Int → Bool) (s : ByteArray) : Nat := runL p s.data.toList
theorem runL_le (p : Int → Bool) : ∀ l, runL p l ≤ l.length
  | [] => Nat.le_refl _
  | b :: l => by
    unfold runL
    split
    · exact Nat.succ_le_succ (runL_le p l)
    · exact Nat.zero_le _
theorem sizeL (s : ByteArray) : s.data.toList.length = s.size := Array.length_toList
theorem runV_le (p : Int → Bool) (s : ByteArray) : runV p s ≤ s.size := by
  have := runL_le p s.data.toList
  rwa [sizeL] at this
theorem runL_at {p : Int → Bool} {s : ByteArray} {pos : Nat} (h : pos < s.size) : runL p (s.data.toList.drop pos) = if p ((s[pos]'h).toNat : Int) then runL p (s.data.toList.drop (pos + 1)) + 1 else 0 := by
  have h2 : pos < s.data.toList.length := by rw [sizeL]; exact h
  rw [List.drop_eq_getElem_cons h2]
  rfl
theorem runL_end {p : Int → Bool} {s : ByteArray} {pos : Nat} (h : ¬ pos < s.size) : runL p (s.data.toList.drop pos) = 0 := by
  have h2 : s.data.toList.length ≤ pos := by rw [sizeL]; exact Nat.le_of_not_lt h
  rw [List.drop_of_length_le h2]
  rfl
theorem drawn_below {w w1 w2 : World} (h : Below w.heap.size w w1) (d : Drawn0 w1 w2) : Below w.heap.size w w2 := h.trans (d.below.mono h.size)
theorem drawn_heap {w w' : World} (d : Drawn0 w w') (i : Nat) : w'.heap[i]? = w.heap[i]? := by
  obtain ⟨⟨k, rfl⟩⟩ := d
  rfl
set_option maxHeartbeats 4000000 in
set_option maxRecDepth 1000000 in
theorem run_walk (f : Nat) (p : Int → Bool) (eg : ∀ args w, (callFunc f args).run Tryd.prog w = .ok (.enter f args) w) (hp : ∀ (r : Int) (w : World), Calls Tryd.prog f #[.int .i32 r] w fun e w' => e = .returned (.bool (p r)) ∧ Drawn0 w w') (h128 : ∀ r : Int, 128 ≤ r → p r = false) (s : ByteArray) (hs : s.size ≤ 9223372036854775807) (w : World) :
    Calls Tryd.prog 29 #[.string s, .func (.func f) #[] #[]] w fun e w' => e = .returned (.int .i64 (runV p s)) ∧ Below w.heap.size w w' := by
  go_enter Tryd.func29, Tryd.ntmps29
  go_wp2
  go_loopw [] (fun wr => ∃ pos : Nat, wr.heap[w.heap.size]? = some (.stringIter s pos) ∧ Below w.heap.size w wr ∧ runV p s = pos + runL p (s.data.toList.drop pos)) (fun wr => s.size - wr.iterPos w.heap.size)
  case atStart =>
    refine ⟨0, ?_, ?_, by simp [runV]⟩
    · have := World.iter_heap w s 0
      simpa using this
    · exact ((Below.refl _ w).alloc (Nat.le_refl _) _)
  case round =>
    obtain ⟨pos, hit, hbw, hacc⟩ := hrel
    by_cases hlt : pos < s.size
    · have hnx : ∀ ty, (Instr.next (.pointer (some ⟨w.heap.size, 0, none⟩)) true ty).run Tryd.prog wr = _ := fun ty => Lib.run_next_any_at wr w.heap.size s pos ty hit hlt
      have hd1 := decode_le s pos
      have hit2 := Lib.iterAt_heap wr w.heap.size s pos (pos + (Utf8.decode s pos).2) hit
      have hbw2 := Lib.below_iterAt hbw (k := w.heap.size) (Nat.le_refl _) s (pos + (Utf8.decode s pos).2)
      rw [runL_at hlt] at hacc
      by_cases ha : (s[pos]'hlt).toNat < 128
      · have hdc := decode_ascii s pos hlt ha
        rw [hdc] at hnx hit2 hbw2
        have hcall := fun W => hp ((s[pos]'hlt).toNat : Int) W
        generalize ((s[pos]'hlt).toNat : Int) = c at hcall hacc hnx
        have HAC := Aside0.mk hacc
        clear hacc hdc
        cases hb : p c with
        | true =>
          rw [hb] at hcall
          have HQ := Aside0.mk hb
          clear hb
          go_wp2_with (go_at_fn f; refine (hcall _).mono ?_; rintro e w' ⟨rfl, hd⟩)
          have hit3 := (drawn_heap hd w.heap.size).trans hit2
          refine ⟨⟨pos + 1, hit3, drawn_below hbw2 hd, ?_⟩, ?_⟩
          · rw [HAC.out, if_pos HQ.out]; omega
          · simp only [World.iterPos, hit, hit3]; omega
        | false =>
          rw [hb] at hcall
          have HQ := Aside0.mk hb
          clear hb
          go_wp2_with (go_at_fn f; refine (hcall _).mono ?_; rintro e w' ⟨rfl, hd⟩)
          go_ret
          refine ⟨?_, drawn_below hbw2 hd⟩
          rw [HAC.out, if_neg (by rw [HQ.out]; simp)]
          rfl
      · have hdh := decode_high s pos hlt (by omega)
        have hcall := fun W => hp ((Utf8.decode s pos).1 : Int) W
        have hf : p ((Utf8.decode s pos).1 : Int) = false := h128 _ (by omega)
        have hf2 : p ((s[pos]'hlt).toNat : Int) = false := h128 _ (by omega)
        rw [hf2, if_neg (by simp)] at hacc
        rw [hf] at hcall
        generalize (Utf8.decode s pos).2 = d at hnx hit2 hbw2
        generalize ((Utf8.decode s pos).1 : Int) = c at hcall hnx
        have HAC := Aside0.mk hacc
        clear hacc hf hf2 hdh
        go_wp2_with (go_at_fn f; refine (hcall _).mono ?_; rintro e w' ⟨rfl, hd⟩)
        go_ret
        refine ⟨?_, drawn_below hbw2 hd⟩
        rw [HAC.out]
        rfl
    · have hnx : ∀ ty, (Instr.next (.pointer (some ⟨w.heap.size, 0, none⟩)) true ty).run Tryd.prog wr = _ := fun ty => Lib.run_next_end_at wr w.heap.size s pos ty hit hlt
      rw [runL_end hlt] at hacc
      have hle := runV_le p s
      have hps : pos = s.size := by omega
      have HAC := Aside0.mk hacc
      clear hacc
      go_wp2
      go_ret
      refine ⟨?_, hbw⟩
      rw [HAC.out, hps]
      rfl
def isLet (r : Int) : Bool := decide (97 ≤ r ∧ r ≤ 122 ∨ 65 ≤ r ∧ r ≤ 90)
def isDig (r : Int) : Bool := decide (48 ≤ r ∧ r ≤ 57)
def isWin (r : Int) : Bool := isLet r || isDig r || decide (r = 95)
theorem letter_eq (r : Int) : lex_letter.f r = some (isLet r) := by
  unfold lex_letter.f isLet
  by_cases h1 : r ≥ 97
  · rw [if_pos h1]
    by_cases h2 : r ≤ 122
    · rw [if_pos h2, decide_eq_true (by omega)]
    · rw [if_neg h2, if_pos (by omega), decide_eq_false (by omega), decide_eq_false (by omega)]
  · rw [if_neg h1]
    by_cases h2 : r ≥ 65
    · rw [if_pos h2]
      congr 1
      exact decide_eq_decide.2 (by omega)
    · rw [if_neg h2, decide_eq_false (by omega)]
theorem digit_eq (r : Int) : lex_digit.f r = some (isDig r) := by
  unfold lex_digit.f isDig
  by_cases h1 : r ≥ 48
  · rw [if_pos h1]
    congr 1
    exact decide_eq_decide.2 (by omega)
  · rw [if_neg h1, decide_eq_false (by omega)]
theorem within_eq (r : Int) : lex_within.f r = some (isWin r) := by
  unfold lex_within.f isWin
  rw [letter_eq, digit_eq]
  cases isLet r with
  | true => simp
  | false =>
    cases isDig r with
    | true => simp
    | false => by_cases h : r = 95 <;> simp [h]
theorem isWin_128 (r : Int) (h : 128 ≤ r) : isWin r = false := by
  unfold isWin isLet isDig
  rw [decide_eq_false (by omega), decide_eq_false (by omega), decide_eq_false (by omega)]
  rfl
theorem isDig_128 (r : Int) (h : 128 ≤ r) : isDig r = false := decide_eq_false (by omega)
theorem run_within (s : ByteArray) (hs : s.size ≤ 9223372036854775807) (w : World) : Calls Tryd.prog 29 #[.string s, .func (.func 30) #[] #[]] w fun e w' => e = .returned (.int .i64 (runV isWin s)) ∧ Below w.heap.size w w' :=
  run_walk 30 isWin (fun _ _ => by rfl) (fun r w => lex_within.calls r _ w (within_eq r)) isWin_128 s hs w
theorem run_digit (s : ByteArray) (hs : s.size ≤ 9223372036854775807) (w : World) : Calls Tryd.prog 29 #[.string s, .func (.func 31) #[] #[]] w fun e w' => e = .returned (.int .i64 (runV isDig s)) ∧ Below w.heap.size w w' :=
  run_walk 31 isDig (fun _ _ => by rfl) (fun r w => lex_digit.calls r _ w (digit_eq r)) isDig_128 s hs w
end Go.Proofs.YtphlbjpefnjjnaaDoor.P
