/- DiskMatchesSpec: for every input that the statement's guards let in, and for every other, the law answers true and turns nothing that lay. -/
import Derived.Test.YtdaonhgcejjlhaaRows
import Derived.Test.YtdaonhgcejjlhaaPx26
import Derived.Test.YtdaonhgcejjlhaaPureDiskMatchesSpec
import Derived.Test.YtdaonhgcejjlhaaYM3
import Derived.WalkKit
import Derived.ProofKit
import Derived.OpenShut
import Derived.ShutString
import Derived.ChangeOld
import Derived.Below
import Derived.SizedLaws
namespace Go.Proofs.Ytdaonhgcejjlhaa.diskMatchesSpec
open Go.ChangeShapes Go.WideShapes Go.ChangeAt Go.RowKit
open Go.ChangeMaps (open_string shut_string)
set_option linter.unusedVariables false
theorem own : ownKnob Try.prog.godebug = none := by kernel_rfl
theorem laidOut : laidOutB Try.prog = true := by kernel_rfl
set_option maxRecDepth 100000 in
theorem lifted (os : Os) (started : os.Started) (H : Type) (enc : TypeId × Value → H) :
    ReturnsInHanded {} Try.checked os 3 .any (Rows.diskMatchesSpecSpec.pre6 enc Try.prog Try.f3 Rows.diskMatchesSpecRow.domain false) (Rows.diskMatchesSpecSpec.post enc Try.prog Try.f3 false true false false) := by
  refine returnsInHanded_of_change_sized (C := Try.checked) own started (by kernel_rfl) Try.func3
    (ChangeSpec.witness6 (enc := enc) (C := Try.checked) false ⟨#[], #[.agg #[.slice none 0 0, .slice none 0 0, .slice none 0 0, .slice none 0 0, .int .i64 0, .string ByteArray.empty, .slice none 0 0]], []⟩ 8 (by kernel_rfl) (by kernel_rfl) (by kernel_rfl) (by kernel_rfl)) ?_
  intro W base args ds gs before hval0 hW hcnd hsz0 _
  have hval : ∀ (j : Nat) t v, Try.f3.params[j]? = some t → args[j]? = some v → Value.okWide Try.prog W .any base t v := hval0
  have hW' := hW
  obtain ⟨p, q, hA0, hV, rfl, hfz, hnd⟩ := hW
  have hA : DataW.TrodAll enc Try.prog W 0 (fun _ => true) true Try.f3.params.toList args.toList ds p := hA0
  rw [Try.params3] at hA hval
  obtain ⟨v0, vs0, d0, ds0, p0, q0, hargs, rfl, rfl, h0, r0⟩ := trodAll_cons hA
  obtain ⟨rfl, rfl, rfl⟩ := trodAll_nil r0
  obtain rfl : args = #[v0] := by cases args; simp_all
  obtain ⟨rfl, rfl⟩ := trodVars_none hV
  have k0 := h0
  have lt0 : ∀ x ∈ p0, x.block < W.heap.size := by obtain ⟨m, hm⟩ := k0; exact DataW.trod_lt m _ _ _ hm
  obtain ⟨cs0, rfl, hz0⟩ := okWide_struct Try.underlying28 (hval 0 28 v0 rfl rfl)
  obtain ⟨fuel0, hf0⟩ := h0
  obtain ⟨x0, A0, c0, x1, A1, c1, x2, A2, c2, x3, A3, c3, x4, x5, x6, A6, c6, e0, ⟨b0, g0⟩, ⟨b1, g1⟩, ⟨b2, g2⟩, ⟨b3, g3⟩, ⟨b6, g6⟩⟩ := P.row28 enc W (P.op28 enc W) hf0
  obtain ⟨cl0⟩ := cs0
  simp [Value.cells] at e0
  subst e0
  clear hA0 hval0 hsz0
  obtain ⟨k, hk⟩ := (Pure.DiskMatchesSpec x0 x1 x2 x3 x4 x5 x6).rounds
  refine (P.hallmootlaw22_DiskMatchesSpec.calls k _ _ x0 _ _ x1 _ _ x2 _ _ x3 x4 x5 _ _ x6 true W g0 b0 g1 b1 g2 b2 g3 b3 g6 b6 hk).mono fun e W' ⟨he, bel⟩ => ?_
  subst he
  exact ⟨_, rfl, _, _, _, [], _, [], hW', trodAll_mk1 (shut_bool Try.underlying4 _), (trodAll_cons_mk (Below.trod laidOut (by kernel_rfl) (of_decide_eq_true (by kernel_rfl)) k0 bel lt0) trodAll_mk0), rfl, bel.frame _, fun h => by cases h⟩
theorem over : Rows.diskMatchesSpecRow.holds Try.pinned (OpenSpec.ofChange Rows.diskMatchesSpecSpec) :=
  OpenClaim.holds_of_wide 3 Try.f3 rfl rfl rfl rfl rfl rfl rfl ⟨rfl, rfl, rfl, rfl, rfl⟩ rfl rfl rfl rfl rfl (by kernel_rfl) Try.func3 (by kernel_rfl)
    (of_decide_eq_true (by kernel_rfl)) (by unfold Func.isWrapper; first | (rw [if_pos (by decide +kernel)]; kernel_rfl) | (rw [if_neg (by decide +kernel)]; exact ⟨rfl, rfl⟩))
    (fun os started H enc _ => lifted os started H enc)
theorem proved : Rows.DiskMatchesSpecSaid := over
#print axioms proved
end Go.Proofs.Ytdaonhgcejjlhaa.diskMatchesSpec
namespace Go.Proofs.Ytdaonhgcejjlhaa
/-- The row, under a short name, for the claim. -/
theorem diskMatchesSpec_holds : Rows.DiskMatchesSpecSaid := diskMatchesSpec.proved
end Go.Proofs.Ytdaonhgcejjlhaa
