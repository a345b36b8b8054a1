/- Short words for what printed walks say often (their tactics run where they are used). -/
import Derived.Test.YtcnclgneldonfaaDoorProg
import Derived.Below
import Derived.RowKit
import Derived.Test.YtcnclgneldonfaaDoorWWords
import Derived.Test.YtcnclgneldonfaaDoorWLast
import Derived.Test.YtcnclgneldonfaaDoorWTab
import Derived.Test.YtcnclgneldonfaaDoorWFour
import Derived.Test.YtcnclgneldonfaaDoorWQPut
import Derived.Test.YtcnclgneldonfaaDoorWApart
import Derived.Test.YtcnclgneldonfaaDoorWArr
import Derived.Test.YtcnclgneldonfaaDoorWZeros
import Derived.Test.YtcnclgneldonfaaDoorWFoot
import Derived.Test.YtcnclgneldonfaaDoorWKept
import Derived.Test.YtcnclgneldonfaaDoorWShare
import Derived.Test.YtcnclgneldonfaaDoorWN
import Derived.Test.YtcnclgneldonfaaDoorWFootNe
import Derived.Test.YtcnclgneldonfaaDoorWAt
import Derived.Test.YtcnclgneldonfaaDoorWEqStruct
import Derived.Test.YtcnclgneldonfaaDoorWRepsOne
import Derived.Test.YtcnclgneldonfaaDoorWInv
import Derived.Test.YtcnclgneldonfaaDoorWInvWords
import Derived.Test.YtcnclgneldonfaaDoorWGuard
import Derived.Test.YtcnclgneldonfaaDoorWNEv
import Derived.Test.YtcnclgneldonfaaDoorWMore
namespace Go.Proofs.YtcnclgneldonfaaDoor.P
open Go.RowKit Go.Proofs.YtcnclgneldonfaaDoorW.PrintWords Go.Proofs.YtcnclgneldonfaaDoorW.PrintLast Go.Proofs.YtcnclgneldonfaaDoorW.PrintMore
set_option linter.unusedVariables false
theorem aS {p : Prop} (h : p) : Aside0 p := ⟨h⟩
theorem bb {p : Prop} (k : p := by repeat (first | (with_reducible first | exact HB.out | apply below_alloc | apply pw_below_drewN | apply below_drew1 | refine below_set ?_ (Aside0.out (by assumption))) | exact HB.out)) : p := k
theorem bz {w W : World} (k : Below w.heap.size w W := by repeat (first | (with_reducible first | exact HB.out | apply below_alloc | apply pw_below_drewN | apply below_drew1 | refine below_set ?_ (Aside0.out (by assumption))) | exact HB.out)) : w.heap.size ≤ W.heap.size := k.size
theorem dd {p : Prop} [Decidable p] (h : decide p = true := by first | (with_reducible assumption) | assumption) : p := of_decide_eq_true h
theorem cc {w w' : World} (hb : Below w.heap.size w w') {p : Addr} {v : Value} (h : w.cell? p = some v) : w'.cell? p = some v := (hb.cell (World.block_lt_of_cell? w _ h)).trans h
theorem kk {w w' : World} {g : Nat} {o : Obj} (h : w.heap[g]? = some o) (k : Below w.heap.size w w' := by repeat (with_reducible first | exact Below.refl _ _ | apply below_alloc | apply pw_below_drewN | apply below_drew1)) : w'.heap[g]? = some o := (k.block g (blk_lt h)).trans h
theorem kb {w w1 w2 : World} {g : Nat} {o : Obj} (h : w.heap[g]? = some o) (hb : Below w1.heap.size w1 w2) (k : Below w.heap.size w w1 := by repeat (with_reducible first | exact Below.refl _ _ | apply below_alloc | apply pw_below_drewN | apply below_drew1)) : w2.heap[g]? = some o := (hb.block g (blk_lt (kk h k))).trans (kk h k)
section
variable {α : Type} {d : Kd α} {e : Nat} {w w' : World} {base : Nat} {ok : Nat → Prop} {v : Value} {xs : List α}
theorem vv (h : Kd.V d e w base ok v xs) (k : Below w.heap.size w w' := by repeat (with_reducible first | exact Below.refl _ _ | apply below_alloc | apply pw_below_drewN | apply below_drew1)) : Kd.V d e w' base ok v xs := Kd.V_below h k
theorem rr (h : Kd.R d e w base ok v xs) (k : Below w.heap.size w w' := by repeat (with_reducible first | exact Below.refl _ _ | apply below_alloc | apply pw_below_drewN | apply below_drew1)) : Kd.R d e w' base ok v xs := Kd.R_below h k
end
theorem sT {α : Type} (a : List α) (i : Nat) (x : α) : a.toArray.setIfInBounds i x = (a.set i x).toArray := List.setIfInBounds_toArray ..
theorem s0 {α : Type} (a : List α) (x y : α) : (x :: a).set 0 y = y :: a := rfl
theorem s1 {α : Type} (a : List α) (x y : α) (i : Nat) : (x :: a).set (i + 1) y = x :: a.set i y := rfl
end Go.Proofs.YtcnclgneldonfaaDoor.P
