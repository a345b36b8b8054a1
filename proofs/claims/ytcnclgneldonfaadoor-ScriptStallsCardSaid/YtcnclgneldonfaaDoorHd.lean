/- script.number, (script.word).cut, strings.Split in the print's own form. -/
import Derived.Test.YtcnclgneldonfaaDoorHc
namespace Go.Proofs.YtcnclgneldonfaaDoor.P
open Go Go.RowKit Go.Proofs.YtcnclgneldonfaaDoorW.PrintWords Go.Proofs.YtcnclgneldonfaaDoorW.PrintLast Go.Proofs.YtcnclgneldonfaaDoorW.PrintMore
set_option linter.unusedVariables false
set_option linter.unusedSimpArgs false
theorem numF_bad {l : List UInt8} {m : Int} (h : ¬ (l.length ≤ 7 ∧ isNum l ∧ (valL l : Int) ≤ m)) : numF l m = -1 := if_neg h
theorem numF_good {l : List UInt8} {m : Int} (h : l.length ≤ 7 ∧ isNum l ∧ (valL l : Int) ≤ m) : numF l m = (valL l : Int) := if_pos h
theorem isNum_of {l : List UInt8} {n : Int} (h0 : 0 ≤ n) (h : Lib.itoa n = l) : isNum l ∧ n = (valL l : Int) := by
  obtain ⟨v, rfl⟩ : ∃ v : Nat, n = v := ⟨n.toNat, by omega⟩
  rw [itoa_nat] at h
  have hv : valL l = v := by rw [← h]; exact dec_val v
  unfold isNum
  rw [hv, itoa_nat]
  exact ⟨h, rfl⟩
set_option maxHeartbeats 4000000 in
set_option maxRecDepth 1000000 in
theorem number_walk (s : ByteArray) (m : Int) (hs : s.size ≤ 1000000) (w : World) (hL : Laid w) :
    Calls Tryd.prog 37 #[.string s, .int .i64 m] w fun e w' => e = .returned (.int .i64 (numF s.data.toList m)) ∧ Below w.heap.size w w' := by
  go_enter Tryd.func37, Tryd.ntmps37
  go_wp2_with fail
  refine (atoi_any s hs _ hL).mono ?_
  rintro e w2 ⟨⟨n, er, rfl, ⟨hn0, hn1⟩, her, hgood⟩, hb2⟩
  have HL2 := Aside0.mk (hL.below hb2)
  have HB := Aside0.mk hb2
  have hsl := sizeL s
  clear hb2 hL
  rcases her with rfl | ⟨N, rfl⟩
  · by_cases h7 : s.size ≤ 7
    · have h7i : ¬ (7 : Int) < (s.size : Int) := by omega
      have HI := Aside0.mk (fun W (hB : Below w2.heap.size w2 W) => itoa_any n hn0 hn1 W (HL2.out.below hB))
      have HG := Aside0.mk hgood
      clear hgood
      go_wp2_with fail
      refine (HI.out _ (Below.refl _ _)).mono ?_
      rintro e w3 ⟨rfl, hb3⟩
      have HB3 := Aside0.mk (HB.out.trans (hb3.mono HB.out.size))
      clear hb3
      by_cases hq : Lib.itoa n = s.data.toList
      · by_cases hn : n < 0
        · have hR : numF s.data.toList m = -1 := numF_bad (fun h => by have := (HG.out h.2.1 (by omega)).1; omega)
          have HR := Aside0.mk hR
          clear hR
          go_wp2
          all_goals go_ret
          all_goals exact ⟨by rw [HR.out]; rfl, HB3.out⟩
        · obtain ⟨hi, hv⟩ := isNum_of (by omega) hq
          by_cases hm : n > m
          · have hR : numF s.data.toList m = -1 := numF_bad (fun h => by have := h.2.2; omega)
            have HR := Aside0.mk hR
            clear hR hi hv
            go_wp2
            all_goals go_ret
            all_goals exact ⟨by rw [HR.out]; rfl, HB3.out⟩
          · have hR : numF s.data.toList m = n := by rw [numF_good ⟨by omega, hi, by omega⟩]; exact hv.symm
            have HR := Aside0.mk hR
            clear hR hi hv
            go_wp2
            all_goals go_ret
            all_goals exact ⟨by rw [HR.out]; rfl, HB3.out⟩
      · have hR : numF s.data.toList m = -1 := numF_bad (fun h => by
          have h9 := (HG.out h.2.1 (by omega)).1
          exact hq (by rw [h9]; exact h.2.1))
        have HR := Aside0.mk hR
        clear hR
        have hq' : ¬ Lib.itoa n = s.toList := by rw [Lib.toList_data]; exact hq
        go_wp2
        all_goals go_ret
        all_goals first
          | exact ⟨by rw [HR.out]; rfl, HB3.out⟩
          | exact absurd (by assumption) hq'
    · have h7i : (7 : Int) < (s.size : Int) := by omega
      have hR : numF s.data.toList m = -1 := numF_bad (fun h => by omega)
      have HR := Aside0.mk hR
      clear hR hgood
      go_wp2
      all_goals go_ret
      all_goals exact ⟨by rw [HR.out]; rfl, HB.out⟩
  · have hR : numF s.data.toList m = -1 := numF_bad (fun h => by
      have := (hgood h.2.1 (by omega)).2
      cases this)
    have HR := Aside0.mk hR
    clear hR hgood
    go_wp2
    all_goals go_ret
    all_goals exact ⟨by rw [HR.out]; rfl, HB.out⟩
def sNum.f (s : ByteArray) (m : Int) : Option Int := if s.size ≤ 1000000 then some (numF s.data.toList m) else none
theorem sNum.calls (a0 : ByteArray) (a1 : Int) (r : Int) (w : World) (h : sNum.f a0 a1 = some r) (hL : Laid w) : Calls Tryd.prog 37 #[.string a0, .int .i64 a1] w fun e w' => e = .returned (.int .i64 r) ∧ Below w.heap.size w w' := by
  unfold sNum.f at h
  by_cases hs : a0.size ≤ 1000000
  · rw [if_pos hs] at h
    rw [← Option.some.inj h]
    exact number_walk a0 a1 hs w hL
  · rw [if_neg hs] at h
    cases h
def cutL (s sep : List UInt8) : ByteArray × ByteArray × Bool := (⟨(Lib.cut s sep).1.toArray⟩, ⟨(Lib.cut s sep).2.1.toArray⟩, (Lib.cut s sep).2.2)
def sCut.f (s sep : ByteArray) : Option (ByteArray × ByteArray × Bool) := if s.size ≤ 1000000 then some (cutL s.data.toList sep.data.toList) else none
theorem sCut.calls (a0 a1 : ByteArray) (r1 r2 : ByteArray) (r3 : Bool) (w : World) (h : sCut.f a0 a1 = some (r1, r2, r3)) (hL : Laid w) : Calls Tryd.prog 36 #[.string a0, .string a1] w fun e w' => e = .returned (.tuple #[.string r1, .string r2, .bool r3]) ∧ Below w.heap.size w w' := by
  unfold sCut.f at h
  by_cases hs : a0.size ≤ 1000000
  · rw [if_pos hs] at h
    obtain ⟨rfl, h2⟩ := Prod.mk.inj (Option.some.inj h)
    obtain ⟨rfl, rfl⟩ := Prod.mk.inj h2
    obtain ⟨_, _, _, m, hm⟩ := hL
    go_enter Tryd.func36, Tryd.ntmps36
    go_wp2_with fail
    refine (Tryd.strings_Cut a0 a1 m _ (by omega) hm).mono ?_
    rintro e w2 ⟨rfl, n, rfl⟩
    have HB := Aside0.mk (pw_below_drewN (Below.refl w.heap.size w) n)
    go_wp2
    refine bodyPost_ret (v := .tuple #[.string (cutL a0.data.toList a1.data.toList).1, .string (cutL a0.data.toList a1.data.toList).2.1, .bool (cutL a0.data.toList a1.data.toList).2.2]) ?_ rfl ⟨rfl, HB.out⟩
    simp [results, Tryd.results36, go_sem]
    exact ⟨rfl, rfl, rfl⟩
  · rw [if_neg hs] at h
    cases h
def splitL (s sep : ByteArray) : List ByteArray := Lib.splitB sep 0 (Lib.countB s sep) s
def sSplit.f (s sep : ByteArray) : Option (List ByteArray) := if s.size ≤ 1000000 ∧ 1 ≤ sep.size ∧ (splitL s sep).length = Lib.countB s sep + 1 ∧ Lib.countB s sep + 1 ≤ maxLen then some (splitL s sep) else none
theorem sSplit.calls (a0 a1 : ByteArray) (r : List ByteArray) (w : World) (h : sSplit.f a0 a1 = some r) (hL : Laid w) : Calls Tryd.prog 38 #[.string a0, .string a1] w fun e w' => ∃ v0_ : Value, e = .returned (v0_) ∧ Kd.R Kd.string 9 w' w.heap.size (fun _ => True) v0_ r ∧ Below w.heap.size w w' := by
  unfold sSplit.f at h
  by_cases hs : a0.size ≤ 1000000 ∧ 1 ≤ a1.size ∧ (splitL a0 a1).length = Lib.countB a0 a1 + 1 ∧ Lib.countB a0 a1 + 1 ≤ maxLen
  · rw [if_pos hs] at h
    rw [← Option.some.inj h]
    obtain ⟨_, _, _, m, hm⟩ := hL
    refine (Tryd.strings_Split a0 a1 m _ (by omega) hm hs.2.1).mono ?_
    rintro e w2 ⟨rfl, rfl⟩
    refine ⟨_, rfl, ?_, (Below.refl _ w).alloc (Nat.le_refl _) _⟩
    have ho := World.ownsRow_lit (base := w.heap.size) (e := 9) (size := 1) w ((splitL a0 a1).map Value.string).toArray (Lib.countB a0 a1 + 1) (Nat.le_refl _) hs.2.2.2 (by simp [hs.2.2.1])
    refine Kd.R_of_own ?_ (fun _ _ => trivial)
    rw [hs.2.2.1]
    have he : (encs Value.string (splitL a0 a1)) = ((splitL a0 a1).map Value.string).toArray.toList := by simp [encs]
    rw [he]
    exact ho
  · rw [if_neg hs] at h
    cases h
end Go.Proofs.YtcnclgneldonfaaDoor.P
