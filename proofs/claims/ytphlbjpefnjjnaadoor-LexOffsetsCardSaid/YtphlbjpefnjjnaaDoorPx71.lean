-- Written by pp.py (this session's program over the kit's printer): functions, contracts. Not trusted: Lean checks it.
import Derived.Test.YtphlbjpefnjjnaaDoorPx0
import Derived.Test.YtphlbjpefnjjnaaDoorYZ
import Derived.Test.YtphlbjpefnjjnaaDoorPx64
namespace Go.Proofs.YtphlbjpefnjjnaaDoor.P
open Go.RowKit Go.Proofs.YtphlbjpefnjjnaaDoorW.PrintWords Go.Proofs.YtphlbjpefnjjnaaDoorW.PrintLast Go.Proofs.YtphlbjpefnjjnaaDoorW.PrintMore
attribute [local go_sem] max2_int min2_int max_two min_two max_three min_three max_four min_four   -- for this text's walks alone
set_option linter.unusedVariables false
set_option linter.unusedSimpArgs false

/-! ### hallmootref04_Blank: function 15 -/
def hallmootref04_Blank.f (k : Nat) (a0 : Int) : Option (Bool) := (hallmootref04_class.f k a0).bind fun t192 => (some (t192 == 4))
theorem hallmootref04_Blank.mono : ∀ a0 k, LeO (hallmootref04_Blank.f k a0) (hallmootref04_Blank.f (k + 1) a0) := by
 intro a0 k
 unfold hallmootref04_Blank.f
 repeat' first | (with_reducible exact hallmootref04_class.mono _ _) | (with_reducible exact LeO.refl _) | (with_reducible exact LeO.none _) | (with_reducible refine LeO.ite ?_ ?_) | (with_reducible refine LeO.bind ?_ (fun _ => ?_)) | exact hallmootref04_class.mono _ _ | exact LeO.none _ | refine LeO.ite ?_ ?_ | refine LeO.bind ?_ (fun _ => ?_)
set_option maxHeartbeats 8000000 in
set_option maxRecDepth 100000 in
theorem hallmootref04_Blank.calls (k : Nat) (a0 : Int) (r : Bool) (w : World) (h : hallmootref04_Blank.f k a0 = some r) : Calls Tryd.prog 15 #[.int .u8 a0] w fun e w' => e = .returned (.bool r) ∧ Drawn0 w w' := by
 have H : ((hallmootref04_class.f k a0).bind fun t192 => (some (t192 == 4))) = some r := h
 clear h
 replace H := Option.bind_eq_some_iff.mp H
 obtain ⟨t192, A20, H⟩ := H
 replace H : (some (t192 == 4)) = some r := H
 have A2 := aS A20
 clear A20
 obtain rfl := Option.some.inj H
 go_enter Tryd.func15, Tryd.ntmps15
 go_wp2_with (first | ((with_reducible refine gate_callee (f := 20) rfl ?_); refine goesL_ (some 4) rfl rfl Tryd.func20 (by kernel_rfl) rfl #[.int .u8 a0] rfl (by (try simp only [List.map_toArray, List.map_cons, List.map_nil]); first | done | rfl | (simp only [List.length_drop, List.length_take]; rfl)) ?_; (with_reducible refine (hallmootref04_class.calls k a0 t192 _ A2.out).mono ?_); rintro e w' ⟨rfl, ⟨nd, rfl⟩⟩; refine ⟨_, rfl, ?_⟩))
 go_ret
 exact ⟨by first | rfl | (simp; done) | (simp [*]; done), by repeat (first | exact Drawn0.refl _ | apply Drawn0.step)⟩

end Go.Proofs.YtphlbjpefnjjnaaDoor.P
