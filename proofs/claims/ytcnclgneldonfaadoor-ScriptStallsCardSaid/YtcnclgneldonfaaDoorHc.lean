/- script.number, (script.word).cut, strings.Split in the print's own form. -/
import Derived.Test.YtcnclgneldonfaaDoorLn
import Derived.Test.YtcnclgneldonfaaDoorSh
import Derived.Lib.AppendIntMem
namespace Go.Proofs.YtcnclgneldonfaaDoor.P
open Go Go.RowKit Go.Proofs.YtcnclgneldonfaaDoorW.PrintWords Go.Proofs.YtcnclgneldonfaaDoorW.PrintLast Go.Proofs.YtcnclgneldonfaaDoorW.PrintMore
set_option linter.unusedVariables false
set_option linter.unusedSimpArgs false
/-- What the package-level variables hold that strconv and strings read. -/
def Laid (w : World) : Prop := Lib.TabIs Tryd.prog w "internal/strconv.uint64pow10" .u64 Lib.pow10Tab ∧ (∃ ev, w.cell? ⟨2, 0, none⟩ = some ev ∧ (ev = .nilIface ∨ ∃ te pe, ev = .iface te pe)) ∧ (∃ ev, w.cell? ⟨3, 0, none⟩ = some ev ∧ (ev = .nilIface ∨ ∃ te pe, ev = .iface te pe)) ∧ ∃ m, w.cell? ⟨1, 0, none⟩ = some (.int .i64 m)
theorem cellLt {w : World} {a : Addr} {v : Value} (h : w.cell? a = some v) : a.block < w.heap.size := World.block_lt_of_cell? w _ h
theorem Laid.below {w w' : World} (h : Laid w) (hb : Below w.heap.size w w') : Laid w' := by
  obtain ⟨h1, ⟨ev, h2, h3⟩, ⟨ew, h4, h5⟩, m, h6⟩ := h
  refine ⟨?_, ⟨ev, (hb.cell (cellLt h2)).trans h2, h3⟩, ⟨ew, (hb.cell (cellLt h4)).trans h4, h5⟩, m, (hb.cell (cellLt h6)).trans h6⟩
  clear h2 h3 h4 h5 h6
  unfold Lib.TabIs World.var? at *
  cases hg : Tryd.prog.globalNamed "internal/strconv.uint64pow10" with
  | none => simp [hg] at h1
  | some g =>
    simp only [hg, Option.bind_some] at h1 ⊢
    have hlt : g < w.heap.size := by
      rcases Nat.lt_or_ge g w.heap.size with h' | h'
      · exact h'
      · rw [Array.getElem?_eq_none h'] at h1; simp at h1
    rw [hb.block g hlt]
    exact h1
theorem atoiAll_range {l : List UInt8} {v : Int} (h : Lib.atoiAll l = .ok v) : -9223372036854775808 ≤ v ∧ v ≤ 9223372036854775807 := by
  unfold Lib.atoiAll at h
  cases l with
  | nil => cases h
  | cons c r =>
    simp only [] at h
    split at h
    · cases h
    · cases h
    · rename_i u hu
      split at h
      · cases h
      · split at h
        · cases h
        · rename_i h1 h2
          injection h with h
          by_cases hc : c.toNat = 45
          · rw [if_pos hc] at h
            simp only [hc, true_and] at h2
            omega
          · rw [if_neg hc] at h
            simp only [hc, not_false_eq_true, true_and] at h1
            omega
theorem itoa_nat (v : Nat) : Lib.itoa (v : Int) = Lib.decDigits v := by unfold Lib.itoa; rw [if_neg (by omega), Int.toNat_natCast]
def isNum (l : List UInt8) : Prop := Lib.itoa (valL l : Int) = l
theorem isNum_digs {l : List UInt8} (h : isNum l) : l ≠ [] ∧ digs l := by
  unfold isNum at h
  rw [itoa_nat] at h
  exact ⟨fun e => dec_ne (valL l) (h.trans e), fun b hb => dec_digs (valL l) b (by rw [h]; exact hb)⟩
theorem atoi_any (x : ByteArray) (hx : x.size ≤ 1000000) (w : World) (hL : Laid w) :
    Calls Tryd.prog 48 #[.string x] w fun e w' => (∃ (n : Int) (er : Value), e = .returned (.tuple #[.int .i64 n, er]) ∧ (-9223372036854775808 ≤ n ∧ n ≤ 9223372036854775807) ∧ (er = .nilIface ∨ ∃ N, er = .iface 100 (.pointer (some ⟨N, 0, none⟩))) ∧ (isNum x.data.toList → x.size ≤ 18 → n = valL x.data.toList ∧ er = .nilIface)) ∧ Below w.heap.size w w' := by
  by_cases hg : isNum x.data.toList ∧ x.size ≤ 18
  · obtain ⟨hn, hd⟩ := isNum_digs hg.1
    have hb := valL_bound 18 x.data.toList (by rw [sizeL]; exact hg.2) hd
    have hb2 : valL x.data.toList < 1000000000000000000 := Nat.lt_of_lt_of_le hb (by decide)
    refine (Tryd.strconv_Atoi x _ hg.2 (atoi_digs _ hn hd) w).mono ?_
    rintro e w' ⟨rfl, t, rfl⟩
    exact ⟨⟨_, _, rfl, by omega, .inl rfl, fun _ _ => ⟨rfl, rfl⟩⟩, Lib.bytesWorld_below w 5 t⟩
  · obtain ⟨_, ⟨ev, hv, hev⟩, ⟨ew, hw, hew⟩, _⟩ := hL
    by_cases hr : Lib.atoiAll x.data.toList = .range
    · refine (Tryd.strconv_Atoi_range x (by omega) hr ew w hw hew).mono ?_
      rintro e w' ⟨N, rfl, _, _, hb⟩
      refine ⟨⟨_, _, rfl, ?_, .inr ⟨N, rfl⟩, fun h1 h2 => absurd ⟨h1, h2⟩ hg⟩, hb⟩
      unfold Lib.atoiSat
      split <;> decide
    · by_cases ho : ∃ v, Lib.atoiAll x.data.toList = .ok v
      · obtain ⟨v, ho⟩ := ho
        refine (Tryd.strconv_Atoi_ok x (by omega) v ho w).mono ?_
        rintro e w' ⟨rfl, h⟩
        refine ⟨⟨_, _, rfl, atoiAll_range ho, .inl rfl, fun h1 h2 => absurd ⟨h1, h2⟩ hg⟩, ?_⟩
        rcases h with rfl | ⟨t, rfl⟩
        · exact Below.refl _ _
        · exact Lib.bytesWorld_below w 5 t
      · refine (Tryd.strconv_Atoi_bad x (by omega) (fun v h => ho ⟨v, h⟩) hr ev w hv hev).mono ?_
        rintro e w' ⟨N, rfl, _, _, hb⟩
        exact ⟨⟨_, _, rfl, by decide, .inr ⟨N, rfl⟩, fun h1 h2 => absurd ⟨h1, h2⟩ hg⟩, hb⟩
theorem itoa_any (n : Int) (h0 : -9223372036854775808 ≤ n) (h1 : n ≤ 9223372036854775807) (w : World) (hL : Laid w) : Calls Tryd.prog 33 #[.int .i64 n] w fun e w' => e = .returned (.string ⟨(Lib.itoa n).toArray⟩) ∧ Below w.heap.size w w' := by
  refine (Tryd.strconv_Itoa n h0 h1 w hL.1).mono ?_
  rintro e w' ⟨rfl, k, os, rfl⟩
  exact ⟨rfl, Lib.below_grow _ _ (Nat.le_refl _) _ _⟩
/-- The value of a decimal number of at most seven digits, at most m; -1 else. -/
def numF (l : List UInt8) (m : Int) : Int := if l.length ≤ 7 ∧ Lib.itoa (valL l : Int) = l ∧ (valL l : Int) ≤ m then (valL l : Int) else -1
end Go.Proofs.YtcnclgneldonfaaDoor.P
