/- lex.Show. -/
import Derived.Test.YtphlbjpefnjjnaaDoorHd
namespace Go.Proofs.YtphlbjpefnjjnaaDoor.P
open Go.RowKit Go.Proofs.YtphlbjpefnjjnaaDoorW.PrintWords Go.Proofs.YtphlbjpefnjjnaaDoorW.PrintLast Go.Proofs.YtphlbjpefnjjnaaDoorW.PrintMore
set_option linter.unusedVariables false
set_option linter.unusedSimpArgs false
def showL (l : List S30) : List UInt8 := Lib.join (l.map (fun t => t.f1.data.toList)) [32]
theorem info9s : (Tryd.prog.info? 9).map (fun i => (i.zero, i.size, i.bytes)) = some (some (.string ⟨#[]⟩), 1, 16) := by kernel_rfl
set_option maxHeartbeats 4000000 in
set_option maxRecDepth 1000000 in
theorem show_walk (A0 : Option Addr) (c0 : Nat) (l : List S30) (w : World) (hr0 : Kd.C k30 w A0 l.length l) (hc0 : l.length ≤ c0) (hl : l.length ≤ 1000000) (hj : (showL l).length ≤ 140737488355328) :
    Calls Tryd.prog 13 #[.slice A0 l.length c0] w fun e w' => e = .returned (.string ⟨(showL l).toArray⟩) ∧ Below w.heap.size w w' := by
  have HR0 := Aside0.mk hr0
  have HJ := Aside0.mk hj
  clear hr0 hj
  go_enter Tryd.func13, Tryd.ntmps13
  go_wp2
  go_loopg [3, 8] l.length (fun gg v3 v8 wr => ∃ i : Nat, i ≤ l.length ∧ l.length - i ≤ gg ∧ v8 = .int .i64 i ∧ Aside0 (Kd.R Kd.string 9 wr w.heap.size (fun _ => True) v3 ((l.take i).map (fun t => t.f1))) ∧ Aside0 (Below w.heap.size w wr))
  case atStart => exact ⟨0, Nat.zero_le _, by omega, rfl, ⟨Kd.R_nil _ _ _ _ _⟩, ⟨Below.refl _ _⟩⟩
  case round =>
    obtain ⟨i, hi, hg, rfl, HR, HB⟩ := hrel
    by_cases hlt : i < l.length
    · have hlti : (i : Int) < (l.length : Int) := by omega
      obtain ⟨ad, rfl, hc0', hc1, hc2, hc3⟩ := at_T30 (Kd.C_below HR0.out HB.out) (i : Int) (by omega) hlti
      rw [show rd_T30 l (i : Int) = l[i] from by simp [rd_T30, List.getD_eq_getElem?_getD, hlt], Int.toNat_natCast] at hc0' hc1 hc2 hc3
      have HT : Aside0 ((l.take (i + 1)).map (fun t => t.f1) = (l.take i).map (fun t => t.f1) ++ [l[i].f1]) := ⟨by rw [List.take_succ_eq_append_getElem hlt, List.map_append]; rfl⟩
      generalize l[i] = t at *
      have HLN : Aside0 (((l.take i).map (fun t => t.f1)).length ≤ 1000000) := ⟨by rw [List.length_map, List.length_take]; omega⟩
      have HBS := Aside0.mk HB.out.size
      generalize (l.take i).map (fun t => t.f1) = acc at *
      go_wp2_with ((with_reducible refine gate_builtin (b := .append) (xs := #[.tmp 12, .tmp 15]) rfl ?_); go_must (at_builtin; refine Kd.R_append Kd.string (w0 := w) w.heap.size rfl (.tmp 12) (.tmp 15) 34 9 (.string ⟨#[]⟩) 16 rfl Tryd.underlying34 info9s rfl (by decide) (by omega) u3 acc t.f1 [.string t.f1] (fun _ => True) (fun _ => False) rfl (by first | rfl | (go_simp; done) | (go_simp; rfl) | (simp [Act.eval]; done)) ?aP (fun _ hk => hk.elim) ?aF ?aO ?aB ?aS ?aL ?_; (case aP => exact rfl); (case aB => exact below_alloc HB.out _); (case aF => exact (fun k_ hk => trivial)); (case aO => exact Kd.R_alloc HR.out _); (case aS => have := HBS.out; simp; omega); (case aL => have := HLN.out; omega); intro v166 w63 ho hb hg hat; have HO6 := Aside0.mk ho; have HB6 := Aside0.mk hb; clear ho hb hg hat))
      go_roundg (l.length - (i + 1))
      case measure => omega
      case rel => exact ⟨i + 1, by omega, by omega, by go_num, ⟨by rw [HT.out]; exact HO6.out⟩, HB6⟩
    · obtain rfl : i = l.length := by omega
      have hlti : ¬ (l.length : Int) < (l.length : Int) := by omega
      have hR := HR.out
      rw [List.take_length] at hR
      have HR' := Aside0.mk hR
      clear hR HR
      by_cases hz : l.length = 0
      · obtain rfl : l = [] := List.eq_nil_of_length_eq_zero hz
        obtain ⟨A9, c9, rfl⟩ := Kd.R_slice HR'.out
        go_wp2_with fail
        refine (Tryd.strings_Join_none A9 c9 ⟨#[32]⟩ wr).mono ?_
        rintro e w7 ⟨rfl, rfl⟩
        go_wp2
        go_ret
        exact ⟨rfl, HB.out⟩
      · obtain ⟨g, cap, rfl, hbg, hgs, _⟩ := Kd.R_form HR'.out (by rw [List.length_map]; omega)
        have hcell : ∀ (j : Nat) x, (l.map (fun t => t.f1))[j]? = some x → wr.cell? ⟨g, 0 + j, none⟩ = some (.string x) := fun j x hx => by
          obtain ⟨hj1, hj2⟩ := List.getElem?_eq_some_iff.1 hx
          have := (Kd.R_cell ByteArray.empty HR'.out (j : Int) (by omega) (by omega)).1
          rw [Int.toNat_natCast] at this
          rw [Nat.zero_add, this]
          unfold rdOf
          rw [Int.toNat_natCast, List.getD_eq_getElem?_getD, hx]
          rfl
        have hjj : (Lib.join ((l.map (fun t => t.f1)).map (·.data.toList)) (⟨#[32]⟩ : ByteArray).data.toList) = showL l := by unfold showL; rw [List.map_map]; rfl
        have hJW := Tryd.strings_Join g 0 cap (l.map (fun t => t.f1)) ⟨#[32]⟩ wr hcell hgs (by rw [List.length_map]; omega) ((Kd.R_reads' HR'.out).2.1) (by rw [hjj]; exact HJ.out)
        rw [hjj, List.length_map] at hJW
        have HJW := Aside0.mk hJW
        clear hJW hjj hcell
        go_wp2_with fail
        refine HJW.out.mono ?_
        rintro e w7 ⟨rfl, hb7⟩
        have HB7 := Aside0.mk (HB.out.trans (hb7.mono HB.out.size))
        clear hb7
        go_wp2
        go_ret
        exact ⟨rfl, HB7.out⟩
end Go.Proofs.YtphlbjpefnjjnaaDoor.P
